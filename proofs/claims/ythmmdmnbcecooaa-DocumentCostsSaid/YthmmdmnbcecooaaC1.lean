/- The contracts of strings.Cut at one byte and of document.Cost. No condition of its own. -/
import Derived.Test.YthmmdmnbcecooaaA0
import Derived.Test.YthmmdmnbcecooaaShelf
import Derived.RegionTactic
import Derived.Outline
namespace Go.Proofs.Ythmmdmnbcecooaa.A
open Go.RowKit Go.Proofs.YthmmdmnbcecooaaW.PrintWords Go.Proofs.YthmmdmnbcecooaaW.PrintLast Go.Proofs.YthmmdmnbcecooaaW.PrintMore
attribute [local go_sem] max2_int min2_int max_two min_two max_three min_three max_four min_four
set_option linter.unusedVariables false
set_option linter.unusedSimpArgs false

theorem cutl_miss (s : ByteArray) (w : World) (h : Lib.indexByte s.data.toList 10 = -1) :
    Calls Try.prog 71 #[.string s, .string ⟨#[10]⟩] w fun e w' => e = .returned (.tuple #[.string s, .string ⟨#[]⟩, .bool false]) ∧ ∃ n, w' = w.drewN n := by
  have H := Aside0.mk h
  clear h
  go_enter Try.func71, Try.ntmps71
  go_wp2_with (go_at_call 79; refine (Try.stringslite_Index_one _ _ _).mono ?_; rintro e w' ⟨rfl, rfl⟩; rw [H.out])
  go_ret3
  exact ⟨rfl, 0, rfl⟩

theorem cutl_hit (s : ByteArray) (i : Nat) (w : World) (hs : s.size ≤ 9223372036854775807) (hi : i + 1 ≤ s.size) (h : Lib.indexByte s.data.toList 10 = i) :
    Calls Try.prog 71 #[.string s, .string ⟨#[10]⟩] w fun e w' => e = .returned (.tuple #[.string (s.extract 0 i), .string (s.extract (i + 1) s.size), .bool true]) ∧ ∃ n, w' = w.drewN n := by
  have H := Aside0.mk h
  clear h
  have c1 : (0 : Int) ≤ ↑i := by omega
  have c2 : (↑i : Int) ≤ ↑s.size := by omega
  have c3 : (0 : Int) ≤ ↑i + 1 := by omega
  have c4 : (↑i + 1 : Int) ≤ ↑s.size := by omega
  go_enter Try.func71, Try.ntmps71
  go_wp2_with (go_at_call 79; refine (Try.stringslite_Index_one _ _ _).mono ?_; rintro e w' ⟨rfl, rfl⟩; rw [H.out])
  go_region
  go_wp2
  go_ret3
  exact ⟨rfl, 1, rfl⟩

theorem cut_miss (s : ByteArray) (w : World) (h : Lib.indexByte s.data.toList 10 = -1) :
    Calls Try.prog 56 #[.string s, .string ⟨#[10]⟩] w fun e w' => e = .returned (.tuple #[.string s, .string ⟨#[]⟩, .bool false]) ∧ ∃ n, w' = w.drewN n := by
  have H := Aside0.mk h
  clear h
  go_enter Try.func56, Try.ntmps56
  go_wp2_with (go_at_call 71; refine (cutl_miss _ _ H.out).mono ?_; rintro e w' ⟨rfl, n, rfl⟩)
  go_ret3
  exact ⟨rfl, n, rfl⟩

theorem cut_hit (s : ByteArray) (i : Nat) (w : World) (hs : s.size ≤ 9223372036854775807) (hi : i + 1 ≤ s.size) (h : Lib.indexByte s.data.toList 10 = i) :
    Calls Try.prog 56 #[.string s, .string ⟨#[10]⟩] w fun e w' => e = .returned (.tuple #[.string (s.extract 0 i), .string (s.extract (i + 1) s.size), .bool true]) ∧ ∃ n, w' = w.drewN n := by
  have H := Aside0.mk h
  clear h
  go_enter Try.func56, Try.ntmps56
  go_wp2_with (go_at_call 71; refine (cutl_hit _ i _ hs hi H.out).mono ?_; rintro e w' ⟨rfl, n, rfl⟩)
  go_ret3
  exact ⟨rfl, n, rfl⟩

/-- The cost of a text, n bytes of whose line came before: (Beyond, Lines). -/
def costGo (w : Int) : List UInt8 → Int → Int × Int
  | [], n => (mx 0 (n - w), 0)
  | c :: t, n => if c = 10 then (mx 0 (n - w) + (costGo w t 0).1, (costGo w t 0).2 + 1) else costGo w t (n + 1)

theorem costGo_miss (w : Int) : ∀ (l : List UInt8) (n : Int), Lib.indexByte l 10 = -1 → costGo w l n = (mx 0 (n + l.length - w), 0)
  | [], n, _ => by simp [costGo]
  | c :: t, n, h => by
    simp only [Lib.indexByte] at h
    split at h
    · cases h
    · rename_i hc
      have hc' : c ≠ 10 := by simpa using hc
      have ht : Lib.indexByte t 10 = -1 := by
        split at h
        · rename_i h2; simpa using h2
        · have := Lib.indexByte_ge t 10
          omega
      simp only [costGo, if_neg hc']
      rw [costGo_miss w t (n + 1) ht, List.length_cons]
      rw [show n + 1 + (t.length : Int) - w = n + ((t.length + 1 : Nat) : Int) - w by omega]

theorem costGo_hit (w : Int) : ∀ (l : List UInt8) (n : Int) (i : Nat), Lib.indexByte l 10 = i → costGo w l n = (mx 0 (n + i - w) + (costGo w (l.drop (i + 1)) 0).1, (costGo w (l.drop (i + 1)) 0).2 + 1)
  | [], n, i, h => by simp only [Lib.indexByte] at h; omega
  | c :: t, n, i, h => by
    simp only [Lib.indexByte] at h
    split at h
    · rename_i hc
      have hc' : c = 10 := by simpa using hc
      obtain rfl : i = 0 := by omega
      simp only [costGo, if_pos hc']
      simp
    · rename_i hc
      have hc' : c ≠ 10 := by simpa using hc
      split at h
      · omega
      · obtain ⟨j, rfl⟩ : ∃ j, i = j + 1 := ⟨i - 1, by have := Lib.indexByte_ge t 10; rename_i h2; simp at h2; omega⟩
        have ht : Lib.indexByte t 10 = j := by omega
        simp only [costGo, if_neg hc']
        rw [costGo_hit w t (n + 1) j ht]
        simp only [List.drop_succ_cons]
        rw [show n + 1 + (j : Int) - w = n + ((j + 1 : Nat) : Int) - w by omega]

theorem costGo_bounds (w : Int) (hw : 0 ≤ w) : ∀ (l : List UInt8) (n : Int), 0 ≤ n → 0 ≤ (costGo w l n).1 ∧ (costGo w l n).1 ≤ n + l.length ∧ 0 ≤ (costGo w l n).2 ∧ (costGo w l n).2 ≤ l.length
  | [], n, h => by simp only [costGo]; unfold mx; simp; split <;> omega
  | c :: t, n, h => by
    simp only [costGo]
    split
    · have := costGo_bounds w hw t 0 (by omega)
      simp only [List.length_cons]
      unfold mx
      split <;> omega
    · have := costGo_bounds w hw t (n + 1) (by omega)
      simp only [List.length_cons]
      omega

end Go.Proofs.Ythmmdmnbcecooaa.A
