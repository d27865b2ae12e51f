import Derived.Test.YthmmdmnbcecooaaA28
import Derived.Test.YthmmdmnbcecooaaG6
namespace Go.Proofs.Ythmmdmnbcecooaa.Pure
open Go.RowKit Go.Proofs.Ythmmdmnbcecooaa.A Go.Proofs.YthmmdmnbcecooaaW.PrintWords Go.Proofs.YthmmdmnbcecooaaW.PrintLast Go.Proofs.YthmmdmnbcecooaaW.PrintMore
set_option linter.unusedVariables false
set_option linter.unusedSimpArgs false

theorem costGo_append (w : Int) (t : List UInt8) : ∀ (s : List UInt8) (n : Int), costGo w (s ++ 10 :: t) n = ((costGo w s n).1 + (costGo w t 0).1, (costGo w s n).2 + (costGo w t 0).2 + 1)
  | [], n => by simp [costGo]
  | c :: s, n => by
    simp only [List.cons_append, costGo]
    split
    · rw [costGo_append w t s 0]; simp only [Prod.mk.injEq]; constructor <;> omega
    · exact costGo_append w t s (n + 1)

theorem costGo_wider (w : Int) : ∀ (s : List UInt8) (n : Int), (costGo (w + 1) s n).1 ≤ (costGo w s n).1 ∧ (costGo (w + 1) s n).2 = (costGo w s n).2
  | [], n => by simp only [costGo]; unfold mx; refine ⟨?_, trivial⟩; split <;> split <;> omega
  | c :: s, n => by
    simp only [costGo]
    split
    · have := costGo_wider w s 0
      have h : mx 0 (n - (w + 1)) ≤ mx 0 (n - w) := by unfold mx; split <;> split <;> omega
      simp only
      omega
    · exact costGo_wider w s (n + 1)

def longGo : List UInt8 → Int → Int → Int
  | [], _, long => long
  | c :: t, n, long => if c = 10 then longGo t 0 (mx long 0) else longGo t (n + 1) (mx long (n + 1))

theorem costGo_zero (w : Int) (hw : 0 ≤ w) : ∀ (s : List UInt8) (n : Int), 0 ≤ n → (costGo w s n).1 = 0 → n ≤ w
  | [], n, h0, h => by simp only [costGo] at h; unfold mx at h; split at h <;> omega
  | c :: s, n, h0, h => by
    simp only [costGo] at h
    split at h
    · have := (costGo_bounds w hw s 0 (by omega)).1
      simp only at h
      unfold mx at h
      split at h <;> omega
    · have := costGo_zero w hw s (n + 1) (by omega) h
      omega

theorem longGo_le (w : Int) (hw : 0 ≤ w) : ∀ (s : List UInt8) (n long : Int), 0 ≤ n → n ≤ long → (longGo s n long ≤ w ↔ long ≤ w ∧ (costGo w s n).1 = 0)
  | [], n, long, h0, h1 => by
    simp only [longGo, costGo]; unfold mx
    constructor
    · intro h; refine ⟨h, ?_⟩; rw [if_neg (by omega)]
    · exact fun h => h.1
  | c :: s, n, long, h0, h1 => by
    simp only [longGo, costGo]
    split
    · rw [longGo_le w hw s 0 (mx long 0) (by omega) (by unfold mx; split <;> omega)]
      have := (costGo_bounds w hw s 0 (by omega)).1
      have e1 : mx long 0 = long := by unfold mx; rw [if_neg (by omega)]
      rw [e1]
      simp only
      unfold mx
      split <;> constructor <;> intro h <;> (refine ⟨?_, ?_⟩) <;> omega
    · rw [longGo_le w hw s (n + 1) (mx long (n + 1)) (by omega) (by unfold mx; split <;> omega)]
      constructor
      · rintro ⟨h, h2⟩
        refine ⟨?_, h2⟩
        unfold mx at h; split at h <;> omega
      · rintro ⟨h, h2⟩
        refine ⟨?_, h2⟩
        have := costGo_zero w hw s (n + 1) (by omega) h2
        unfold mx; split <;> omega

theorem cost_some (s : ByteArray) (w : Int) (hs : s.size ≤ 1000) (h0 : w ≤ 100000) : document_Cost.f s w = some (costGo (mx w 0) s.data.toList 0) := by
  unfold document_Cost.f
  rw [if_pos ⟨by omega, by omega⟩]

theorem mx_nonneg {w : Int} (h : 0 ≤ w) : mx w 0 = w := by unfold mx; rw [if_neg (by omega)]

theorem bt_data (s : ByteArray) (i : Nat) (h : i < s.size) : bt s i = ((s.data.toList[i]'(by rw [data_length]; exact h)).toNat : Int) := by
  unfold bt
  rw [dif_pos (by simpa using h)]
  simp
  rfl

theorem costs_loop (s : ByteArray) (w : Int) (hw : 0 ≤ w) (hw2 : w ≤ 1000) (hs : s.size ≤ 200) (up : Bool) (B L : Int) (hB : B = (costGo w s.data.toList 0).1) : ∀ (d i : Nat) (long n : Int), i + d = s.size → 0 ≤ n → n ≤ long → long ≤ i →
    longGo (s.data.toList.drop i) n long = longGo s.data.toList 0 0 → koinelaw25_DocumentCosts.l0 (d + 1) s w up long n i B L = some up
  | 0, i, long, n, hi, h0, h1, h2, he => by
    rw [koinelaw25_DocumentCosts.l0, if_neg (by omega)]
    have hd : s.data.toList.drop i = [] := by
      apply List.drop_eq_nil_of_le
      have := data_length s
      omega
    rw [hd] at he
    simp only [longGo] at he
    have hk := longGo_le w hw s.data.toList 0 0 (by omega) (by omega)
    rw [← he, ← hB] at hk
    have hq : ((B == 0) == decide (long ≤ w)) = true := by
      by_cases hb : B = 0
      · have : long ≤ w := hk.2 ⟨hw, hb⟩
        simp [hb, this]
      · have : ¬ long ≤ w := fun h => hb (hk.1 h).2
        simp [hb, this]
    rw [if_pos hq, cost_some _ _ (by omega) (by omega), cost_some _ _ (by omega) (by omega)]
    simp only [Option.bind_some]
    rw [if_pos]
    simp [mx]
  | d + 1, i, long, n, hi, h0, h1, h2, he => by
    have hlen := data_length s
    have hlt : i < s.data.toList.length := by omega
    rw [List.drop_eq_getElem_cons hlt] at he
    simp only [longGo] at he
    rw [koinelaw25_DocumentCosts.l0, if_pos (by omega), if_pos (by omega), bt_data s i (by omega), wrap64_small (x := (i : Int) + 1) (by omega) (by omega), wrap64_small (x := n + 1) (by omega) (by omega)]
    by_cases hc : s.data.toList[i] = 10
    · rw [if_pos (by rw [hc]; rfl)]
      rw [if_pos hc] at he
      exact costs_loop s w hw hw2 hs up B L hB d (i + 1) (mx long 0) 0 (by omega) (by omega) (by unfold mx; split <;> omega) (by unfold mx; split <;> omega) he
    · rw [if_neg (by
        intro h
        apply hc
        apply UInt8.toNat_inj.1
        have : s.data.toList[i].toNat = 10 := by omega
        rw [this]; rfl)]
      rw [if_neg hc] at he
      exact costs_loop s w hw hw2 hs up B L hB d (i + 1) (mx long (n + 1)) (n + 1) (by omega) (by omega) (by unfold mx; split <;> omega) (by unfold mx; split <;> omega) he

theorem DocumentCosts : koinelaw25_DocumentCosts.Pure := by
  intro s t w _ _ _
  refine ⟨s.size + 1 + 1 + 1, ?_⟩
  unfold koinelaw25_DocumentCosts.f koinelaw25_sanity.f
  rw [Option.bind_some]
  have hj : ∀ k, koinelaw25_DocumentCosts.j0 (k + 1) s t w true true = some true := fun k => by rw [koinelaw25_DocumentCosts.j0, if_pos rfl]
  by_cases h1 : (s.size : Int) > 200
  · rw [if_pos h1]; exact hj _
  rw [if_neg h1]
  by_cases h2 : (t.size : Int) > 200
  · rw [if_pos h2]; exact hj _
  rw [if_neg h2]
  by_cases h3 : w < 0
  · rw [if_pos h3]; exact hj _
  rw [if_neg h3]
  by_cases h4 : w > 1000
  · rw [decide_eq_true h4]; exact hj _
  rw [decide_eq_false h4, koinelaw25_DocumentCosts.j0, if_neg (by decide)]
  have hz1 : (s ++ (⟨#[10]⟩ : ByteArray)).size = s.size + 1 := by rw [ByteArray.size_append]; rfl
  have hz2 : (s ++ (⟨#[10]⟩ : ByteArray) ++ t).size = s.size + 1 + t.size := by rw [ByteArray.size_append, hz1]
  have hd : (s ++ (⟨#[10]⟩ : ByteArray) ++ t).data.toList = s.data.toList ++ 10 :: t.data.toList := by
    simp [ByteArray.data_append]
  have hls := data_length s
  have hlt := data_length t
  have b1 := costGo_bounds w (by omega) s.data.toList 0 (by omega)
  have b2 := costGo_bounds w (by omega) t.data.toList 0 (by omega)
  rw [cost_some s w (by omega) (by omega), cost_some t w (by omega) (by omega), Option.bind_some, Option.bind_some, if_pos (by omega), if_pos (by rw [hz1]; omega),
    cost_some _ w (by rw [hz2]; omega) (by omega), Option.bind_some, wrap64_small (x := w + 1) (by omega) (by omega), cost_some s (w + 1) (by omega) (by omega), Option.bind_some, hd,
    mx_nonneg (by omega), mx_nonneg (by omega), costGo_append]
  simp only
  rw [wrap64_small (x := (costGo w s.data.toList 0).1 + (costGo w t.data.toList 0).1) (by omega) (by omega), if_pos rfl,
    wrap64_small (x := (costGo w s.data.toList 0).2 + (costGo w t.data.toList 0).2) (by omega) (by omega), wrap64_small (by omega) (by omega), if_pos rfl]
  have hw := costGo_wider w s.data.toList 0
  rw [if_neg (by omega), hw.2]
  rw [koinelaw25_DocumentCosts.j1, if_neg (by simp)]
  exact costs_loop s w (by omega) (by omega) (by omega) true _ _ rfl s.size 0 0 0 (by omega) (by omega) (by omega) (by omega) rfl

end Go.Proofs.Ythmmdmnbcecooaa.Pure
