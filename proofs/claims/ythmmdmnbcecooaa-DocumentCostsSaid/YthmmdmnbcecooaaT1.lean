/- Documents as trees: what a valid list of nodes says. Plain Lean, no program. No condition of its own. -/
import Derived.Test.YthmmdmnbcecooaaG3
namespace Go.Proofs.Ythmmdmnbcecooaa.A
open Go.RowKit Go.Proofs.YthmmdmnbcecooaaW.PrintWords Go.Proofs.YthmmdmnbcecooaaW.PrintLast Go.Proofs.YthmmdmnbcecooaaW.PrintMore
set_option linter.unusedVariables false
set_option linter.unusedSimpArgs false

/-- A document as a tree; a group bears its node's index. -/
inductive Doc where
  | text (s : ByteArray)
  | line (s : ByteArray)
  | hard
  | seq (a b : Doc)
  | nest (n : Int) (a : Doc)
  | align (a : Doc)
  | group (i : Nat) (a : Doc)

def docOf (l : List S42) : Nat → Nat → Doc
  | 0, _ => .hard
  | k + 1, i =>
    if (l.getD i z42).f0 = 0 then .text (l.getD i z42).f1
    else if (l.getD i z42).f0 = 1 then .line (l.getD i z42).f1
    else if (l.getD i z42).f0 = 2 then .hard
    else if (l.getD i z42).f0 = 3 then .seq (docOf l k (l.getD i z42).f3.toNat) (docOf l k (l.getD i z42).f4.toNat)
    else if (l.getD i z42).f0 = 4 then .nest (l.getD i z42).f2 (docOf l k (l.getD i z42).f3.toNat)
    else if (l.getD i z42).f0 = 5 then .align (docOf l k (l.getD i z42).f3.toNat)
    else .group i (docOf l k (l.getD i z42).f3.toNat)

/-- What a valid node at index i says. -/
structure NodeOk (i : Nat) (x : S42) : Prop where
  kind : 0 ≤ x.f0 ∧ x.f0 ≤ 6
  a : 3 ≤ x.f0 → 0 ≤ x.f3 ∧ x.f3 < i
  b : x.f0 = 3 → 0 ≤ x.f4 ∧ x.f4 < i
  a0 : x.f0 < 3 → x.f3 = 0
  b0 : x.f0 ≠ 3 → x.f4 = 0
  n : 0 ≤ x.f2 ∧ x.f2 ≤ 1000
  n0 : x.f0 ≠ 4 → x.f2 = 0
  nl : Lib.indexByte x.f1.data.toList 10 < 0
  t0 : ¬ (x.f0 = 0 ∨ x.f0 = 1) → x.f1.data.toList.isEmpty = true

/-- The tree below node i. -/
def tree (l : List S42) (i : Nat) : Doc := docOf l (i + 1) i

theorem docOf_more {l : List S42} (hv : ∀ i, i < l.length → NodeOk i (l.getD i z42)) : ∀ (k i : Nat), i < k → i < l.length → docOf l k i = tree l i := by
  intro k
  induction k using Nat.strongRecOn with
  | _ k ih =>
    intro i hk hi
    obtain ⟨k, rfl⟩ : ∃ m, k = m + 1 := ⟨k - 1, by omega⟩
    have h := hv i hi
    unfold tree
    simp only [docOf]
    have key : 3 ≤ (l.getD i z42).f0 → docOf l k (l.getD i z42).f3.toNat = docOf l i (l.getD i z42).f3.toNat := fun h3 => by
      have := h.a h3
      rw [ih k (by omega) _ (by omega) (by omega)]
      by_cases hki : i = k
      · subst hki; rw [ih i (by omega) _ (by omega) (by omega)]
      · rw [ih i (by omega) _ (by omega) (by omega)]
    have key2 : (l.getD i z42).f0 = 3 → docOf l k (l.getD i z42).f4.toNat = docOf l i (l.getD i z42).f4.toNat := fun h3 => by
      have := h.b h3
      rw [ih k (by omega) _ (by omega) (by omega)]
      by_cases hki : i = k
      · subst hki; rw [ih i (by omega) _ (by omega) (by omega)]
      · rw [ih i (by omega) _ (by omega) (by omega)]
    by_cases h0 : (l.getD i z42).f0 = 0
    · rw [if_pos h0, if_pos h0]
    by_cases h1 : (l.getD i z42).f0 = 1
    · rw [if_neg h0, if_neg h0, if_pos h1, if_pos h1]
    by_cases h2 : (l.getD i z42).f0 = 2
    · rw [if_neg h0, if_neg h0, if_neg h1, if_neg h1, if_pos h2, if_pos h2]
    have hk3 : 3 ≤ (l.getD i z42).f0 := by have := h.kind; omega
    rw [if_neg h0, if_neg h0, if_neg h1, if_neg h1, if_neg h2, if_neg h2, key hk3]
    by_cases h3 : (l.getD i z42).f0 = 3
    · rw [if_pos h3, if_pos h3, key2 h3]
    · rw [if_neg h3, if_neg h3]

/-- The groups of a tree in preorder, by index. -/
def groupsI : Doc → List Nat
  | .text _ | .line _ | .hard => []
  | .seq a b => groupsI a ++ groupsI b
  | .nest _ a | .align a => groupsI a
  | .group i a => i :: groupsI a

theorem tree_text {l : List S42} {i : Nat} (h : (l.getD i z42).f0 = 0) : tree l i = .text (l.getD i z42).f1 := by
  unfold tree; simp only [docOf]; rw [if_pos h]
theorem tree_line {l : List S42} {i : Nat} (h : (l.getD i z42).f0 = 1) : tree l i = .line (l.getD i z42).f1 := by
  unfold tree; simp only [docOf]; rw [if_neg (by omega), if_pos h]
theorem tree_hard {l : List S42} {i : Nat} (h : (l.getD i z42).f0 = 2) : tree l i = .hard := by
  unfold tree; simp only [docOf]; rw [if_neg (by omega), if_neg (by omega), if_pos h]
section
variable {l : List S42} (hv : ∀ i, i < l.length → NodeOk i (l.getD i z42)) {i : Nat} (hi : i < l.length)
include hv hi
theorem tree_seq (h : (l.getD i z42).f0 = 3) : tree l i = .seq (tree l (l.getD i z42).f3.toNat) (tree l (l.getD i z42).f4.toNat) := by
  have h1 := (hv i hi).a (by omega)
  have h2 := (hv i hi).b h
  unfold tree; rw [docOf]; rw [if_neg (by omega), if_neg (by omega), if_neg (by omega), if_pos h]
  rw [docOf_more hv i _ (by omega) (by omega), docOf_more hv i _ (by omega) (by omega)]; rfl
theorem tree_nest (h : (l.getD i z42).f0 = 4) : tree l i = .nest (l.getD i z42).f2 (tree l (l.getD i z42).f3.toNat) := by
  have h1 := (hv i hi).a (by omega)
  unfold tree; rw [docOf]; rw [if_neg (by omega), if_neg (by omega), if_neg (by omega), if_neg (by omega), if_pos h]
  rw [docOf_more hv i _ (by omega) (by omega)]; rfl
theorem tree_align (h : (l.getD i z42).f0 = 5) : tree l i = .align (tree l (l.getD i z42).f3.toNat) := by
  have h1 := (hv i hi).a (by omega)
  unfold tree; rw [docOf]; rw [if_neg (by omega), if_neg (by omega), if_neg (by omega), if_neg (by omega), if_neg (by omega), if_pos h]
  rw [docOf_more hv i _ (by omega) (by omega)]; rfl
theorem tree_group (h : (l.getD i z42).f0 = 6) : tree l i = .group i (tree l (l.getD i z42).f3.toNat) := by
  have h1 := (hv i hi).a (by omega)
  unfold tree; rw [docOf]; rw [if_neg (by omega), if_neg (by omega), if_neg (by omega), if_neg (by omega), if_neg (by omega), if_neg (by omega)]
  rw [docOf_more hv i _ (by omega) (by omega)]; rfl
end

/-! ### What document.Check says -/
theorem nodeStep_ok {x : S42} {i : Nat} {us us' : List Bool} (h : nodeStep x i us = some us') : NodeOk i x := by
  unfold nodeStep at h
  split at h
  · cases h
  split at h
  · cases h
  split at h
  · cases h
  split at h
  · cases h
  rename_i h1 h2 h3 h4
  have hf : fieldsB x = true := by simpa using h2
  have hA : useF us (decide (0 < arityI x.f0)) x.f3 i = true := by simpa using h3
  have hB : useF (useL us (decide (0 < arityI x.f0)) x.f3 i) (decide (1 < arityI x.f0)) x.f4 i = true := by simpa using h4
  unfold fieldsB at hf
  simp only [Bool.not_eq_true', Bool.or_eq_false_iff, Bool.and_eq_false_iff, Bool.not_eq_false', decide_eq_false_iff_not, bne_eq_false_iff_eq] at hf
  obtain ⟨⟨⟨⟨f1, f2⟩, f3⟩, f4⟩, f5⟩ := hf
  have hk : 0 ≤ x.f0 ∧ x.f0 ≤ 6 := by
    unfold arityI at h1
    split at h1
    · omega
    split at h1
    · omega
    split at h1
    · omega
    · omega
  have har : (x.f0 < 3 → arityI x.f0 = 0) ∧ (x.f0 = 3 → arityI x.f0 = 2) ∧ (3 < x.f0 → arityI x.f0 = 1) := by
    unfold arityI
    refine ⟨fun h => by rw [if_pos (by omega)], fun h => by rw [if_neg (by omega), if_neg (by omega), if_pos h], fun h => by rw [if_neg (by omega), if_pos (by omega)]⟩
  refine ⟨hk, fun h => ?_, fun h => ?_, fun h => ?_, fun h => ?_, ⟨by omega, by omega⟩, fun h => ?_, by omega, fun h => ?_⟩
  · have : 0 < arityI x.f0 := by
      by_cases h' : x.f0 = 3
      · have := har.2.1 h'; omega
      · have := har.2.2 (by omega); omega
    rw [decide_eq_true this] at hA
    simp [useF] at hA
    omega
  · have : 1 < arityI x.f0 := by have := har.2.1 h; omega
    rw [decide_eq_true this] at hB
    simp [useF] at hB
    omega
  · have : ¬ 0 < arityI x.f0 := by have := har.1 h; omega
    rw [decide_eq_false this] at hA
    simpa [useF] using hA
  · have : ¬ 1 < arityI x.f0 := by
      by_cases h' : x.f0 < 3
      · have := har.1 h'; omega
      · have := har.2.2 (by omega); omega
    rw [decide_eq_false this] at hB
    simpa [useF] using hB
  · rcases f3 with f3 | f3
    · exact f3
    · exact absurd f3 h
  · rcases f1 with f1 | f1
    · exact f1
    · simp only [Bool.or_eq_true, beq_iff_eq] at f1
      exact absurd f1 h

theorem scanFrom_ok {l : List S42} : ∀ (d i : Nat) (us us' : List Bool), scanFrom l d i us = some us' → ∀ j, i ≤ j → j < i + d → NodeOk j (l.getD j z42) := by
  intro d
  induction d with
  | zero => intro i us us' _ j h1 h2; omega
  | succ d ih =>
    intro i us us' h j h1 h2
    simp only [scanFrom] at h
    obtain ⟨u, hu, h⟩ := Option.bind_eq_some_iff.1 h
    by_cases hj : j = i
    · subst hj
      exact nodeStep_ok hu
    · exact ih (i + 1) u us' h j (by omega) (by omega)

/-- What checkI = 0 says of the nodes. -/
theorem check_valid {l : List S42} (h : checkI l = 0) : 0 < l.length ∧ l.length ≤ 65536 ∧ (∀ i, i < l.length → NodeOk i (l.getD i z42)) ∧ ∃ us, scanFrom l l.length 0 (List.replicate l.length false) = some us ∧ (us.take (l.length - 1)).all id = true := by
  by_cases hb : 65536 < l.length
  · rw [checkI_big hb] at h; cases h
  have hlen : l.length ≤ 65536 := by omega
  cases hs : scanFrom l l.length 0 (List.replicate l.length false) with
  | none => rw [check_bad hlen hs] at h; cases h
  | some us =>
    cases hu : (us.take (l.length - 1)).all id with
    | false => rw [check_unused hlen hs hu] at h; cases h
    | true =>
      have hp : 0 < l.length := by
        rcases Nat.eq_zero_or_pos l.length with h0 | h0
        · exfalso
          obtain rfl := List.eq_nil_of_length_eq_zero h0
          revert h
          decide
        · exact h0
      exact ⟨hp, hlen, fun i hi => scanFrom_ok _ _ _ _ hs i (by omega) (by omega), us, rfl, hu⟩

end Go.Proofs.Ythmmdmnbcecooaa.A
