/- In a valid document every node but the last is the operand of one node, once: its groups are distinct. Plain Lean. No condition of its own. -/
import Derived.Test.YthmmdmnbcecooaaT1
namespace Go.Proofs.Ythmmdmnbcecooaa.A
open Go.RowKit Go.Proofs.YthmmdmnbcecooaaW.PrintWords Go.Proofs.YthmmdmnbcecooaaW.PrintLast Go.Proofs.YthmmdmnbcecooaaW.PrintMore
set_option linter.unusedVariables false
set_option linter.unusedSimpArgs false

def opsAt (x : S42) : List Nat := if x.f0 = 3 then [x.f3.toNat, x.f4.toNat] else if 3 < x.f0 then [x.f3.toNat] else []

theorem getD_set_true (us : List Bool) (i j : Nat) : (us.set i true).getD j false = if i = j ∧ j < us.length then true else us.getD j false := by
  simp only [List.getD_eq_getElem?_getD, List.getElem?_set]
  by_cases h : i = j
  · subst h
    by_cases h2 : i < us.length
    · simp [h2]
    · simp [h2]
  · simp [h]

theorem useL_mono {us : List Bool} {nd : Bool} {i at_ : Int} {j : Nat} (h : us.getD j false = true) : (useL us nd i at_).getD j false = true := by
  unfold useL
  split
  · rw [getD_set_true]; split
    · rfl
    · exact h
  · exact h

theorem use_fresh {us : List Bool} {i at_ : Int} (h : useF us true i at_ = true) (hl : at_ ≤ us.length) : us.getD i.toNat false = false ∧ (useL us true i at_).getD i.toNat false = true := by
  have h0 := h
  simp [useF] at h
  refine ⟨?_, ?_⟩
  · simpa using h.2
  · unfold useL
    rw [h0]
    simp only [Bool.and_self, if_true]
    rw [getD_set_true, if_pos ⟨rfl, by omega⟩]

theorem arityI_small {k : Int} (h : k < 3) (h0 : 0 ≤ k) : arityI k = 0 := by unfold arityI; rw [if_pos (by omega)]
theorem arityI_big {k : Int} (h : 3 < k) (h0 : k ≤ 6) : arityI k = 1 := by unfold arityI; rw [if_neg (by omega), if_pos (by omega)]

theorem nodeStep_uses {x : S42} {i : Nat} {us us' : List Bool} (h : nodeStep x i us = some us') (hl : i ≤ us.length) :
    us'.length = us.length ∧ (∀ j ∈ opsAt x, us.getD j false = false ∧ us'.getD j false = true) ∧ (∀ j, us.getD j false = true → us'.getD j false = true) ∧ (x.f0 = 3 → x.f3.toNat ≠ x.f4.toNat) := by
  have hok := nodeStep_ok h
  unfold nodeStep at h
  split at h
  · cases h
  split at h
  · cases h
  split at h
  · cases h
  split at h
  · cases h
  rename_i h1 h2 h3 h4
  have hA : useF us (decide (0 < arityI x.f0)) x.f3 i = true := by simpa using h3
  have hB : useF (useL us (decide (0 < arityI x.f0)) x.f3 i) (decide (1 < arityI x.f0)) x.f4 i = true := by simpa using h4
  obtain rfl := Option.some.inj h
  refine ⟨by rw [useL_length, useL_length], ?_, fun j hj => useL_mono (useL_mono hj), ?_⟩
  · intro j hj
    unfold opsAt at hj
    split at hj
    · rename_i hk
      have ha : arityI x.f0 = 2 := by rw [hk]; rfl
      rw [ha] at hA hB ⊢
      simp only [show decide ((0 : Int) < 2) = true from rfl, show decide ((1 : Int) < 2) = true from rfl] at hA hB ⊢
      have f1 := use_fresh hA (by omega)
      have f2 := use_fresh hB (by rw [useL_length]; omega)
      simp only [List.mem_cons, List.not_mem_nil, or_false] at hj
      rcases hj with rfl | rfl
      · exact ⟨f1.1, useL_mono f1.2⟩
      · refine ⟨?_, f2.2⟩
        cases hc : us.getD x.f4.toNat false with
        | false => rfl
        | true =>
          have := useL_mono (nd := true) (i := x.f3) (at_ := i) hc
          rw [this] at f2
          exact absurd f2.1 (by decide)
    · split at hj
      · rename_i hk3 hk
        have ha : arityI x.f0 = 1 := arityI_big hk hok.kind.2
        rw [ha] at hA ⊢
        simp only [show decide ((0 : Int) < 1) = true from rfl] at hA ⊢
        have f1 := use_fresh hA (by omega)
        simp only [List.mem_cons, List.not_mem_nil, or_false] at hj
        subst hj
        exact ⟨f1.1, useL_mono f1.2⟩
      · cases hj
  · intro hk e
    have ha : arityI x.f0 = 2 := by rw [hk]; rfl
    rw [ha] at hA hB
    simp only [show decide ((0 : Int) < 2) = true from rfl, show decide ((1 : Int) < 2) = true from rfl] at hA hB
    have f1 := use_fresh hA (by omega)
    have f2 := use_fresh hB (by rw [useL_length]; omega)
    rw [← e, f1.2] at f2
    exact absurd f2.1 (by decide)

theorem scanFrom_uses {l : List S42} : ∀ (d i : Nat) (us us' : List Bool), scanFrom l d i us = some us' → i + d ≤ us.length →
    us'.length = us.length ∧ (∀ j, us.getD j false = true → us'.getD j false = true) ∧
    (∀ p, i ≤ p → p < i + d → ∀ j ∈ opsAt (l.getD p z42), us.getD j false = false ∧ us'.getD j false = true) ∧
    (∀ p q, i ≤ p → p < q → q < i + d → ∀ j, j ∈ opsAt (l.getD p z42) → j ∉ opsAt (l.getD q z42)) ∧
    (∀ p, i ≤ p → p < i + d → (l.getD p z42).f0 = 3 → (l.getD p z42).f3.toNat ≠ (l.getD p z42).f4.toNat) := by
  intro d
  induction d with
  | zero =>
    intro i us us' h _
    obtain rfl := Option.some.inj h
    exact ⟨rfl, fun _ h => h, fun p _ _ => by omega, fun p q _ _ _ => by omega, fun p _ _ => by omega⟩
  | succ d ih =>
    intro i us us' h hl
    simp only [scanFrom] at h
    obtain ⟨u, hu, h⟩ := Option.bind_eq_some_iff.1 h
    obtain ⟨n1, n2, n3, n4⟩ := nodeStep_uses hu (by omega)
    obtain ⟨s1, s2, s3, s4, s5⟩ := ih (i + 1) u us' h (by omega)
    refine ⟨by omega, fun j hj => s2 j (n3 j hj), ?_, ?_, ?_⟩
    · intro p h1 h2 j hj
      by_cases hp : p = i
      · subst hp
        exact ⟨(n2 j hj).1, s2 j (n2 j hj).2⟩
      · obtain ⟨a, b⟩ := s3 p (by omega) (by omega) j hj
        refine ⟨?_, b⟩
        cases hc : us.getD j false with
        | false => rfl
        | true => rw [n3 j hc] at a; cases a
    · intro p q h1 h2 h3 j hj hq
      by_cases hp : p = i
      · subst hp
        have a := (s3 q (by omega) (by omega) j hq).1
        rw [(n2 j hj).2] at a
        cases a
      · exact s4 p q (by omega) h2 (by omega) j hj hq
    · intro p h1 h2 h3
      by_cases hp : p = i
      · subst hp; exact n4 h3
      · exact s5 p (by omega) (by omega) h3

/-- Every node is the operand of one node alone, and of it once. -/
structure Once (l : List S42) : Prop where
  one : ∀ p q j, p < l.length → q < l.length → j ∈ opsAt (l.getD p z42) → j ∈ opsAt (l.getD q z42) → p = q
  two : ∀ p, p < l.length → (l.getD p z42).f0 = 3 → (l.getD p z42).f3.toNat ≠ (l.getD p z42).f4.toNat

theorem check_once {l : List S42} (h : checkI l = 0) : Once l := by
  obtain ⟨_, _, _, us, hs, _⟩ := check_valid h
  obtain ⟨_, _, _, s4, s5⟩ := scanFrom_uses _ _ _ _ hs (by simp)
  refine ⟨fun p q j hp hq h1 h2 => ?_, fun p hp h3 => s5 p (by omega) (by omega) h3⟩
  rcases Nat.lt_trichotomy p q with h | h | h
  · exact absurd h2 (s4 p q (by omega) h (by omega) j h1)
  · exact h
  · exact absurd h1 (s4 q p (by omega) h (by omega) j h2)

/-- From a node up to another. -/
inductive Up (l : List S42) : Nat → Nat → Prop
  | refl (a : Nat) : Up l a a
  | step {g p a : Nat} (hp : p < l.length) (h : g ∈ opsAt (l.getD p z42)) (k : Up l p a) : Up l g a

theorem Up.last {l : List S42} {g c i : Nat} (h : Up l g c) (hi : i < l.length) (hc : c ∈ opsAt (l.getD i z42)) : Up l g i := by
  induction h with
  | refl a => exact .step hi hc (.refl i)
  | step hp hm _ ih => exact .step hp hm (ih hc)

theorem Up.chain {l : List S42} (ho : Once l) {g a b : Nat} (h : Up l g a) (k : Up l g b) : Up l a b ∨ Up l b a := by
  induction h with
  | refl a => exact .inl k
  | step hp hm up ih =>
    cases k with
    | refl => exact .inr (.step hp hm up)
    | step hq hm2 k2 =>
      obtain rfl := ho.one _ _ _ hp hq hm hm2
      exact ih k2

section
variable {l : List S42} (hv : ∀ i, i < l.length → NodeOk i (l.getD i z42))
include hv
theorem ops_lt {p j : Nat} (hp : p < l.length) (h : j ∈ opsAt (l.getD p z42)) : j < p := by
  have ho := hv p hp
  unfold opsAt at h
  split at h
  · rename_i hk
    have h1 := ho.a (by omega)
    have h2 := ho.b hk
    simp only [List.mem_cons, List.not_mem_nil, or_false] at h
    rcases h with rfl | rfl <;> omega
  · split at h
    · have h1 := ho.a (by omega)
      simp only [List.mem_cons, List.not_mem_nil, or_false] at h
      omega
    · cases h
theorem Up.le {g a : Nat} (h : Up l g a) : g ≤ a := by
  induction h with
  | refl => exact Nat.le_refl _
  | step hp hm _ ih => have := ops_lt hv hp hm; omega
theorem not_both (ho : Once l) {i a b g : Nat} (hi : i < l.length) (ha : a ∈ opsAt (l.getD i z42)) (hb : b ∈ opsAt (l.getD i z42)) (hab : a ≠ b) (h1 : Up l g a) (h2 : Up l g b) : False := by
  have key : ∀ x y, x ∈ opsAt (l.getD i z42) → y ∈ opsAt (l.getD i z42) → x ≠ y → Up l x y → False := by
    intro x y hx hy hne h
    cases h with
    | refl => exact hne rfl
    | step hp hm k =>
      obtain rfl := ho.one _ _ _ hp hi hm hx
      have := Up.le hv k
      have := ops_lt hv hi hy
      omega
  rcases Up.chain ho h1 h2 with h | h
  · exact key a b ha hb hab h
  · exact key b a hb ha (fun e => hab e.symm) h
theorem groups_up : ∀ i, i < l.length → ∀ g ∈ groupsI (tree l i), Up l g i := by
  intro i
  induction i using Nat.strongRecOn with
  | _ i ih =>
    intro hi g hg
    have ho := hv i hi
    by_cases h3 : (l.getD i z42).f0 < 3
    · exfalso
      have hk : (l.getD i z42).f0 = 0 ∨ (l.getD i z42).f0 = 1 ∨ (l.getD i z42).f0 = 2 := by have := ho.kind; omega
      rcases hk with hk | hk | hk
      · rw [tree_text hk] at hg; cases hg
      · rw [tree_line hk] at hg; cases hg
      · rw [tree_hard hk] at hg; cases hg
    · have ha := ho.a (by omega)
      by_cases hk3 : (l.getD i z42).f0 = 3
      · have hb := ho.b hk3
        rw [tree_seq hv hi hk3] at hg
        simp only [groupsI, List.mem_append] at hg
        rcases hg with hg | hg
        · exact (ih _ (by omega) (by omega) g hg).last hi (by unfold opsAt; rw [if_pos hk3]; simp)
        · exact (ih _ (by omega) (by omega) g hg).last hi (by unfold opsAt; rw [if_pos hk3]; simp)
      have hm : (l.getD i z42).f3.toNat ∈ opsAt (l.getD i z42) := by unfold opsAt; rw [if_neg hk3, if_pos (by omega)]; simp
      by_cases hk6 : (l.getD i z42).f0 = 6
      · rw [tree_group hv hi hk6] at hg
        simp only [groupsI, List.mem_cons] at hg
        rcases hg with rfl | hg
        · exact .refl _
        · exact (ih _ (by omega) (by omega) g hg).last hi hm
      · have hk : (l.getD i z42).f0 = 4 ∨ (l.getD i z42).f0 = 5 := by have := ho.kind; omega
        rcases hk with hk | hk
        · rw [tree_nest hv hi hk] at hg
          exact (ih _ (by omega) (by omega) g hg).last hi hm
        · rw [tree_align hv hi hk] at hg
          exact (ih _ (by omega) (by omega) g hg).last hi hm
theorem groups_nodup (hone : Once l) : ∀ i, i < l.length → (groupsI (tree l i)).Nodup := by
  intro i
  induction i using Nat.strongRecOn with
  | _ i ih =>
    intro hi
    have ho := hv i hi
    by_cases h3 : (l.getD i z42).f0 < 3
    · have hk : (l.getD i z42).f0 = 0 ∨ (l.getD i z42).f0 = 1 ∨ (l.getD i z42).f0 = 2 := by have := ho.kind; omega
      rcases hk with hk | hk | hk
      · rw [tree_text hk]; exact List.nodup_nil
      · rw [tree_line hk]; exact List.nodup_nil
      · rw [tree_hard hk]; exact List.nodup_nil
    · have ha := ho.a (by omega)
      by_cases hk3 : (l.getD i z42).f0 = 3
      · have hb := ho.b hk3
        rw [tree_seq hv hi hk3]
        refine List.nodup_append.2 ⟨ih _ (by omega) (by omega), ih _ (by omega) (by omega), ?_⟩
        rintro g h1 _ h2 rfl
        exact not_both hv hone hi (by unfold opsAt; rw [if_pos hk3]; simp) (by unfold opsAt; rw [if_pos hk3]; simp) (hone.two i hi hk3) (groups_up hv _ (by omega) g h1) (groups_up hv _ (by omega) g h2)
      by_cases hk6 : (l.getD i z42).f0 = 6
      · rw [tree_group hv hi hk6]
        refine List.nodup_cons.2 ⟨fun h => ?_, ih _ (by omega) (by omega)⟩
        have := (groups_up hv _ (by omega) i h).le hv
        omega
      · have hk : (l.getD i z42).f0 = 4 ∨ (l.getD i z42).f0 = 5 := by have := ho.kind; omega
        rcases hk with hk | hk
        · rw [tree_nest hv hi hk]; exact ih _ (by omega) (by omega)
        · rw [tree_align hv hi hk]; exact ih _ (by omega) (by omega)
end

theorem nodup_bound : ∀ (n : Nat) (L : List Nat), L.Nodup → (∀ x ∈ L, x < n) → L.length ≤ n := by
  intro n
  induction n with
  | zero =>
    intro L _ h
    cases L with
    | nil => exact Nat.le_refl _
    | cons a t => exact absurd (h a List.mem_cons_self) (by omega)
  | succ n ih =>
    intro L hd h
    by_cases hm : n ∈ L
    · have h1 := ih (L.erase n) (hd.erase n) (fun x hx => by
        obtain ⟨h1, h2⟩ := (hd.mem_erase_iff).1 hx
        have := h x h2
        omega)
      have h2 := List.length_erase_of_mem hm
      omega
    · have := ih L hd (fun x hx => by
        have := h x hx
        have : x ≠ n := fun e => hm (e ▸ hx)
        omega)
      omega

theorem groups_le {l : List S42} (h : checkI l = 0) : (groupsI (tree l (l.length - 1))).length ≤ 65536 := by
  obtain ⟨hp, hn, hv, _⟩ := check_valid h
  have := nodup_bound l.length _ (groups_nodup hv (check_once h) (l.length - 1) (by omega)) (fun g hg => by
    have := (groups_up hv _ (by omega) g hg).le hv
    omega)
  omega

end Go.Proofs.Ythmmdmnbcecooaa.A
