import Derived.Test.YthmmdmnbcecooaaA22
import Derived.Test.YthmmdmnbcecooaaG6
namespace Go.Proofs.Ythmmdmnbcecooaa.Pure
open Go.RowKit Go.Proofs.Ythmmdmnbcecooaa.A Go.Proofs.YthmmdmnbcecooaaW.PrintWords Go.Proofs.YthmmdmnbcecooaaW.PrintLast Go.Proofs.YthmmdmnbcecooaaW.PrintMore
set_option linter.unusedVariables false
set_option linter.unusedSimpArgs false

/-- The nodes of the long document: a text, then pairs of a hard break and a sequence. -/
def sizeNode (i : Nat) : S42 := if i = 0 then ⟨0, ⟨#[120]⟩, 0, 0, 0⟩ else if i % 2 = 1 then ⟨2, ⟨#[]⟩, 0, 0, 0⟩ else ⟨3, ⟨#[]⟩, 0, (i : Int) - 2, (i : Int) - 1⟩
def sizeDoc (m : Nat) : List S42 := (List.range (2 * m + 1)).map sizeNode
theorem sizeDoc_length (m : Nat) : (sizeDoc m).length = 2 * m + 1 := by simp [sizeDoc]

theorem sizeDoc_succ (m : Nat) (h : m ≤ 100000) : sizeDoc m ++ [(⟨2, ⟨#[]⟩, 0, 0, 0⟩ : S42)] ++ [(⟨3, ⟨#[]⟩, 0, wrap64 (((2 * m + 2 : Nat) : Int) - 2), wrap64 (((2 * m + 2 : Nat) : Int) - 1)⟩ : S42)] = sizeDoc (m + 1) := by
  unfold sizeDoc
  rw [show 2 * (m + 1) + 1 = (2 * m + 1) + 1 + 1 from by omega, List.range_succ (n := 2 * m + 1 + 1), List.range_succ (n := 2 * m + 1)]
  simp only [List.map_append, List.map_cons, List.map_nil]
  rw [wrap64_small (by omega) (by omega), wrap64_small (by omega) (by omega)]
  have h1 : sizeNode (2 * m + 1) = ⟨2, ⟨#[]⟩, 0, 0, 0⟩ := by unfold sizeNode; rw [if_neg (by omega), if_pos (by omega)]
  have h2 : sizeNode (2 * m + 1 + 1) = ⟨3, ⟨#[]⟩, 0, ((2 * m + 2 : Nat) : Int) - 2, ((2 * m + 2 : Nat) : Int) - 1⟩ := by
    unfold sizeNode; rw [if_neg (by omega), if_neg (by omega)]
  rw [h1, h2]

/-- c flags of n set. -/
def flagsU (n c : Nat) : List Bool := (List.range n).map (fun j => decide (j < c))
theorem flagsU_length (n c : Nat) : (flagsU n c).length = n := by simp [flagsU]
theorem flagsU_zero (n : Nat) : List.replicate n false = flagsU n 0 := by
  apply List.ext_getElem <;> simp [flagsU]
theorem flagsU_set (n c : Nat) : (flagsU n c).set c true = flagsU n (c + 1) := by
  apply List.ext_getElem
  · simp [flagsU]
  · intro i h1 h2
    simp only [flagsU, List.getElem_set, List.getElem_map, List.getElem_range]
    by_cases h : c = i
    · subst h; simp
    · rw [if_neg h]; congr 1; apply propext; omega
theorem flagsU_get (n c i : Nat) : (flagsU n c).getD i false = decide (i < n ∧ i < c) := by
  by_cases h : i < n
  · simp [flagsU, List.getD, h]
  · have : (flagsU n c)[i]? = none := List.getElem?_eq_none (by rw [flagsU_length]; omega)
    simp [List.getD, this, h]
theorem flagsU_all (n c : Nat) : ((flagsU n c).take c).all id = true := by
  rw [List.all_eq_true]
  intro x hx
  obtain ⟨i, hi, rfl⟩ := List.mem_iff_getElem.1 hx
  simp only [List.getElem_take, flagsU, List.getElem_map, List.getElem_range, id]
  simp at hi
  exact decide_eq_true (by omega)

theorem useF_U (n c i : Nat) (h1 : c < i) (h2 : c < n) : useF (flagsU n c) true c i = true := by
  unfold useF
  rw [if_pos rfl, Int.toNat_natCast, flagsU_get]
  simp [h1]
theorem useL_U (n c i : Nat) (h1 : c < i) (h2 : c < n) : useL (flagsU n c) true c i = flagsU n (c + 1) := by
  unfold useL
  rw [useF_U n c i h1 h2]
  simp only [Bool.and_self, if_true, Int.toNat_natCast]
  exact flagsU_set n c

/-- The flags before node i. -/
def doneU (i : Nat) : Nat := (i - 1) / 2 * 2
theorem step_size (n i : Nat) (hn : i < n) : nodeStep (sizeNode i) i (flagsU n (doneU i)) = some (flagsU n (doneU (i + 1))) := by
  by_cases h0 : i = 0
  · subst h0; rfl
  by_cases h1 : i % 2 = 1
  · have hx : sizeNode i = ⟨2, ⟨#[]⟩, 0, 0, 0⟩ := by unfold sizeNode; rw [if_neg h0, if_pos h1]
    rw [hx, show doneU (i + 1) = doneU i from by unfold doneU; omega]
    rfl
  · have hx : sizeNode i = ⟨3, ⟨#[]⟩, 0, ((i - 2 : Nat) : Int), ((i - 1 : Nat) : Int)⟩ := by
      unfold sizeNode; rw [if_neg h0, if_neg h1, show ((i - 2 : Nat) : Int) = (i : Int) - 2 from by omega, show ((i - 1 : Nat) : Int) = (i : Int) - 1 from by omega]
    have e1 : doneU i = i - 2 := by unfold doneU; omega
    have e2 : doneU (i + 1) = i - 2 + 1 + 1 := by unfold doneU; omega
    have e3 : i - 1 = i - 2 + 1 := by omega
    rw [hx, e1, e2]
    have d1 : decide (0 < arityI 3) = true := rfl
    have d2 : decide (1 < arityI 3) = true := rfl
    have u1 : useL (flagsU n (i - 2)) true ((i - 2 : Nat) : Int) i = flagsU n (i - 2 + 1) := useL_U n (i - 2) i (by omega) (by omega)
    have u2 : useL (flagsU n (i - 2 + 1)) true ((i - 1 : Nat) : Int) i = flagsU n (i - 2 + 1 + 1) := by rw [e3]; exact useL_U n (i - 2 + 1) i (by omega) (by omega)
    rw [nodeStep_some (by decide) rfl (by rw [d1]; exact useF_U n (i - 2) i (by omega) (by omega)) (by rw [d1, d2, u1, e3]; exact useF_U n (i - 2 + 1) i (by omega) (by omega)), d1, d2, u1, u2]

theorem scan_size (l : List S42) (n : Nat) : ∀ (d i : Nat), i + d ≤ n → (∀ j, i ≤ j → j < i + d → l.getD j z42 = sizeNode j) → scanFrom l d i (flagsU n (doneU i)) = some (flagsU n (doneU (i + d)))
  | 0, i, _, _ => rfl
  | d + 1, i, h, hl => by
    rw [scanFrom, hl i (by omega) (by omega), step_size n i (by omega), Option.bind_some, scan_size l n d (i + 1) (by omega) (fun j h1 h2 => hl j (by omega) (by omega))]
    rw [show i + (d + 1) = i + 1 + d from by omega]

theorem scan_add (l : List S42) : ∀ (d e i : Nat) (us : List Bool), scanFrom l (d + e) i us = (scanFrom l d i us).bind (scanFrom l e (i + d))
  | 0, e, i, us => by simp [scanFrom]
  | d + 1, e, i, us => by
    rw [show d + 1 + e = (d + e) + 1 from by omega, scanFrom, scanFrom]
    cases nodeStep (l.getD i z42) i us with
    | none => rfl
    | some u => simp only [Option.bind_some]; rw [scan_add l d e (i + 1) u, show i + 1 + d = i + (d + 1) from by omega]

theorem sizeDoc_get (m j : Nat) (h : j < 2 * m + 1) (t : List S42) : (sizeDoc m ++ t).getD j z42 = sizeNode j := by
  have h1 : j < (sizeDoc m).length := by rw [sizeDoc_length]; exact h
  simp only [List.getD, List.getElem?_append_left h1]
  simp [sizeDoc, h]

theorem check_odd (m : Nat) (h : 2 * m + 1 ≤ 65536) : checkI (sizeDoc m) = 0 := by
  have hs : scanFrom (sizeDoc m) (sizeDoc m).length 0 (List.replicate (sizeDoc m).length false) = some (flagsU (2 * m + 1) (2 * m)) := by
    rw [sizeDoc_length, flagsU_zero]
    have := scan_size (sizeDoc m) (2 * m + 1) (2 * m + 1) 0 (by omega) (fun j _ h2 => by have := sizeDoc_get m j (by omega) []; simpa using this)
    rw [show doneU (0 + (2 * m + 1)) = 2 * m from by unfold doneU; omega] at this
    exact this
  exact check_good (by rw [sizeDoc_length]; omega) (by rw [sizeDoc_length]; omega) hs (by rw [sizeDoc_length]; exact flagsU_all _ _)

theorem check_even (m : Nat) (h : 2 * m + 2 ≤ 65536) : checkI (sizeDoc m ++ [⟨6, ⟨#[]⟩, 0, ((2 * m : Nat) : Int), 0⟩]) = 0 := by
  have hlen : (sizeDoc m ++ [(⟨6, ⟨#[]⟩, 0, ((2 * m : Nat) : Int), 0⟩ : S42)]).length = 2 * m + 1 + 1 := by simp [sizeDoc_length]
  have hs : scanFrom (sizeDoc m ++ [(⟨6, ⟨#[]⟩, 0, ((2 * m : Nat) : Int), 0⟩ : S42)]) (sizeDoc m ++ [(⟨6, ⟨#[]⟩, 0, ((2 * m : Nat) : Int), 0⟩ : S42)]).length 0 (List.replicate (sizeDoc m ++ [(⟨6, ⟨#[]⟩, 0, ((2 * m : Nat) : Int), 0⟩ : S42)]).length false) = some (flagsU (2 * m + 1 + 1) (2 * m + 1)) := by
    rw [hlen, flagsU_zero, scan_add]
    have h1 := scan_size (sizeDoc m ++ [(⟨6, ⟨#[]⟩, 0, ((2 * m : Nat) : Int), 0⟩ : S42)]) (2 * m + 1 + 1) (2 * m + 1) 0 (by omega) (fun j _ h2 => sizeDoc_get m j (by omega) _)
    rw [show doneU (0 + (2 * m + 1)) = 2 * m from by unfold doneU; omega, show doneU 0 = 0 from rfl] at h1
    rw [h1, Option.bind_some]
    have hg : (sizeDoc m ++ [(⟨6, ⟨#[]⟩, 0, ((2 * m : Nat) : Int), 0⟩ : S42)]).getD (0 + (2 * m + 1)) z42 = ⟨6, ⟨#[]⟩, 0, ((2 * m : Nat) : Int), 0⟩ := by
      rw [Nat.zero_add]
      simp [List.getD, List.getElem?_append, sizeDoc_length]
    rw [scanFrom, hg]
    have d1 : decide (0 < arityI 6) = true := rfl
    have d2 : decide (1 < arityI 6) = false := rfl
    have u1 : useL (flagsU (2 * m + 1 + 1) (2 * m)) true ((2 * m : Nat) : Int) ((0 + (2 * m + 1) : Nat) : Int) = flagsU (2 * m + 1 + 1) (2 * m + 1) := useL_U _ (2 * m) _ (by omega) (by omega)
    rw [nodeStep_some (by decide) rfl (by rw [d1]; exact useF_U _ (2 * m) _ (by omega) (by omega)) (by rw [d2]; rfl), d1, d2, u1]
    rfl
  exact check_good (by rw [hlen]; omega) (by rw [hlen]; omega) hs (by rw [hlen]; exact flagsU_all _ _)

theorem size_end (up : Bool) (n m : Nat) (h1 : 2 * m + 2 ≥ n) (h2 : 2 * m + 1 ≤ n) (h3 : n ≤ 65540) (k : Nat) (d : List S42)
    (hd : d = if 2 * m + 1 < n then sizeDoc m ++ [⟨6, ⟨#[]⟩, 0, ((2 * m : Nat) : Int), 0⟩] else sizeDoc m) : koinelaw25_DocumentSize.j1 (k + 1) up n d = some up := by
  rw [koinelaw25_DocumentSize.j1]
  by_cases hb : n > 65536
  · rw [if_pos (by omega)]
    have : checkI d = 2 := by
      apply checkI_big
      subst hd
      split
      · simp [sizeDoc_length]; omega
      · rw [sizeDoc_length]; omega
    simp only [document_Check.f, Option.bind_some, this]
    simp
  · rw [if_neg (by omega)]
    have : checkI d = 0 := by
      subst hd
      split
      · exact check_even m (by omega)
      · exact check_odd m (by omega)
    simp only [document_Check.f, Option.bind_some, this]
    simp

theorem size_loop (up : Bool) (n : Nat) (h3 : n ≤ 65540) : ∀ (d m : Nat), 2 * m + 1 ≤ n → n ≤ 2 * (m + d) + 2 → koinelaw25_DocumentSize.l0 (d + 2) up n (sizeDoc m) = some up
  | d, m, h1, h2 => by
    rw [koinelaw25_DocumentSize.l0]
    simp only [sizeDoc_length]
    rw [wrap64_small (x := ((2 * m + 1 : Nat) : Int) + 1) (by omega) (by omega)]
    by_cases hlt : 2 * m + 2 < n
    · obtain ⟨d, rfl⟩ : ∃ d', d = d' + 1 := ⟨d - 1, by omega⟩
      rw [if_pos (by omega), if_pos (by omega), Option.bind_some]
      have hl : (sizeDoc m ++ [(⟨2, ⟨#[]⟩, 0, 0, 0⟩ : S42)]).length = 2 * m + 2 := by simp [sizeDoc_length]
      rw [hl, if_pos (by omega), sizeDoc_succ m (by omega)]
      exact size_loop up n h3 d (m + 1) (by omega) (by omega)
    · rw [if_neg (by omega)]
      by_cases h4 : 2 * m + 1 < n
      · rw [if_pos (by omega), if_pos (by omega), wrap64_small (by omega) (by omega)]
        refine size_end up n m (by omega) h1 h3 d _ ?_
        rw [if_pos h4, show ((2 * m + 1 : Nat) : Int) - 1 = ((2 * m : Nat) : Int) from by omega]
      · rw [if_neg (by omega)]
        refine size_end up n m (by omega) h1 h3 d _ ?_
        rw [if_neg h4]

theorem DocumentSize : koinelaw25_DocumentSize.Pure := by
  intro a0 hw
  have h : 0 ≤ a0 ∧ a0 ≤ 255 := by
    have := hw
    simp [Lit.wf, IntKind.min, IntKind.max, IntKind.bits, IntKind.signed] at this
    omega
  refine ⟨32771 + 2, ?_⟩
  unfold koinelaw25_DocumentSize.f koinelaw25_sanity.f
  rw [Option.bind_some, wrap64_small (x := a0) (by omega) (by omega)]
  have hm : 0 ≤ Int.tmod a0 8 ∧ Int.tmod a0 8 < 8 := by
    rw [Int.tmod_eq_emod_of_nonneg h.1]; omega
  rw [wrap64_small (x := 65533 + Int.tmod a0 8) (by omega) (by omega)]
  obtain ⟨n, hn⟩ : ∃ n : Nat, (65533 + Int.tmod a0 8 : Int) = (n : Int) := ⟨(65533 + Int.tmod a0 8).toNat, by omega⟩
  rw [hn]
  exact size_loop true n (by omega) 32771 0 (by omega) (by omega)

end Go.Proofs.Ythmmdmnbcecooaa.Pure
