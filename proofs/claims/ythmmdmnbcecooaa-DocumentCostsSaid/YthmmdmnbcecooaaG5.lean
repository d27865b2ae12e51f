/- The contract of document.Groups. No condition of its own. -/
import Derived.Test.YthmmdmnbcecooaaG4
import Derived.Test.YthmmdmnbcecooaaT2
import Derived.Laws.EntriesVeiled
namespace Go.Proofs.Ythmmdmnbcecooaa.A
open Go.RowKit Go.Proofs.YthmmdmnbcecooaaW.PrintWords Go.Proofs.YthmmdmnbcecooaaW.PrintLast Go.Proofs.YthmmdmnbcecooaaW.PrintMore
set_option linter.unusedVariables false
set_option linter.unusedSimpArgs false

/-- The groups of a valid document, as numbers. -/
def groupsL (l : List S42) : List Int := (groupsI (tree l (l.length - 1))).map Int.ofNat

def document_Groups.f (l0 : List S42) : Option (List Int × Int) := some (if checkI l0 = 0 then (groupsL l0, 0) else ([], checkI l0))

def GroupsPost (l0 : List S42) (w : World) (e : Ending) (w' : World) : Prop :=
  ∃ v0_ : Value, e = .returned (.tuple #[v0_, .int .i64 (if checkI l0 = 0 then 0 else checkI l0)]) ∧ Kd.R (Kd.int .i64) 3 w' w.heap.size (fun _ => True) v0_ (if checkI l0 = 0 then groupsL l0 else []) ∧ Below w.heap.size w w'

set_option maxRecDepth 100000 in
theorem groups_bad (A0 : Option Addr) (c0 : Nat) (l0 : List S42) (w : World) (hr0 : Kd.C k42 w A0 l0.length l0) (hc0 : l0.length ≤ c0) (h : checkI l0 ≠ 0) :
    Calls Try.prog 22 #[.slice A0 l0.length c0] w (GroupsPost l0 w) := by
  have HR := Aside0.mk hr0
  have HP := Aside0.mk (show (if checkI l0 = 0 then (0 : Int) else checkI l0) = checkI l0 ∧ (if checkI l0 = 0 then groupsL l0 else []) = [] from ⟨if_neg h, if_neg h⟩)
  have hb : (checkI l0 != 0) = true := by simpa using h
  clear hr0 h
  go_enter Try.func22, Try.ntmps22
  go_wp2_with fail
  have hB0 : Below w.heap.size w (w.alloc (.cells #[.slice A0 l0.length c0] 26)) := (Below.refl _ _).alloc (Nat.le_refl _) _
  refine (document_Check.calls A0 c0 l0 (checkI l0) _ (Kd.C_below HR.out hB0) hc0 rfl).mono ?_
  rintro e w1 ⟨rfl, hb1⟩
  have HB := Aside0.mk (hB0.trans (hb1.mono (by simp)))
  clear hb1 hB0
  go_wp2_with fail
  go_ret2
  exact ⟨_, by rw [HP.out.1]; rfl, by rw [HP.out.2]; exact Kd.R_nil _ _ _ _ _, HB.out⟩

theorem gr_start {w w1 : World} {ad : Addr} {n c : Nat} (hlt : w.heap.size < w1.heap.size) (hd : w1.heap[w.heap.size]? = some (.cells #[.slice (some ad) n c] 26 (0, 0))) (hB : Below w.heap.size w w1) :
    GrSt w w.heap.size w1.heap.size (w1.heap.size + 1) ad n c [] ((w1.alloc (Obj.cells #[Value.slice none 0 0] 28)).alloc (Obj.cells #[Value.func (Fn.func 49) #[] #[Value.pointer (some { block := w.heap.size, off := 0 }), Value.pointer (some { block := w1.heap.size, off := 0 }), Value.pointer (some { block := w1.heap.size + 1, off := 0 })]] 74)) := by
  refine ⟨blk_alloc (blk_alloc hd _) _, ?_, ⟨.slice none 0 0, blk_alloc (heap_alloc_new w1 _) _, Kd.R_nil _ _ _ _ _⟩, by omega, (hB.alloc (by omega) _).alloc (by simp; omega) _⟩
  have := heap_alloc_new (w1.alloc (Obj.cells #[Value.slice none 0 0] 28)) (Obj.cells #[Value.func (Fn.func 49) #[] #[Value.pointer (some { block := w.heap.size, off := 0 }), Value.pointer (some { block := w1.heap.size, off := 0 }), Value.pointer (some { block := w1.heap.size + 1, off := 0 })]] 74)
  simpa using this

set_option maxRecDepth 100000 in
theorem groups_good (ad : Addr) (c0 : Nat) (l0 : List S42) (w : World) (hr0 : Kd.C k42 w (some ad) l0.length l0) (hc0 : l0.length ≤ c0) (h : checkI l0 = 0) :
    Calls Try.prog 22 #[.slice (some ad) l0.length c0] w (GroupsPost l0 w) := by
  obtain ⟨hp, hn, hv, _⟩ := check_valid h
  have HR := Aside0.mk hr0
  have HP := Aside0.mk (show (if checkI l0 = 0 then (0 : Int) else checkI l0) = 0 ∧ (if checkI l0 = 0 then groupsL l0 else []) = groupsL l0 from ⟨if_pos h, if_pos h⟩)
  have HG := Aside0.mk (groups_le h)
  have HV := Aside0.mk hv
  have HC := Aside0.mk h
  clear hr0 h hv
  go_enter Try.func22, Try.ntmps22
  go_wp2_with fail
  have hB0 : Below w.heap.size w (w.alloc (.cells #[.slice (some ad) l0.length c0] 26)) := (Below.refl _ _).alloc (Nat.le_refl _) _
  refine (document_Check.calls (some ad) c0 l0 0 _ (Kd.C_below HR.out hB0) hc0 (by show some _ = _; rw [HC.out])).mono ?_
  rintro e w1 ⟨rfl, hb1⟩
  have HB := Aside0.mk (hB0.trans (hb1.mono (by simp)))
  have hblk := (hb1.block w.heap.size (by simp)).trans (heap_alloc_new w _)
  have HD := Aside0.mk hblk
  have hlt : w.heap.size < w1.heap.size := blk_lt hblk
  have hcd : w1.cell? ⟨w.heap.size, 0, none⟩ = some (.slice (some ad) l0.length c0) := (blk_cell hblk 0).trans rfl
  clear hb1 hB0 hblk
  go_wp2_with fail
  rw [show ((l0.length : Int) - 1) = ((l0.length - 1 : Nat) : Int) from by omega]
  refine (walk_any w w.heap.size w1.heap.size (w1.heap.size + 1) ad c0 l0 HV.out HR.out hc0 hn (l0.length - 1) (by omega) [] _ (gr_start hlt HD.out HB.out) (by have := HG.out; simp; omega)).mono ?_
  rintro e w2 ⟨rfl, hS, hK⟩
  obtain ⟨v, hv0, hR2⟩ := hS.ho
  have hv1 : w2.cell? ⟨w1.heap.size, 0, none⟩ = some v := (blk_cell hv0 0).trans rfl
  have HR2 := Aside0.mk hR2
  have HB2 := Aside0.mk hS.bel
  clear hS hK hv0 hR2
  go_wp2_with fail
  go_ret2
  exact ⟨v, by rw [HP.out.1]; rfl, by rw [HP.out.2]; exact HR2.out, HB2.out⟩

theorem document_Groups.calls (A0 : Option Addr) (c0 : Nat) (l0 : List (S42)) (r1 : List Int) (r2 : Int) (w : World) (hr0 : Kd.C k42 w A0 l0.length l0) (hc0 : l0.length ≤ c0) (h : document_Groups.f l0 = some (r1, r2)) :
    Calls Try.prog 22 #[.slice A0 l0.length c0] w fun e w' => ∃ v0_ : Value, e = .returned (.tuple #[v0_, .int .i64 r2]) ∧ Kd.R (Kd.int .i64) 3 w' w.heap.size (fun _ => True) v0_ r1 ∧ Below w.heap.size w w' := by
  unfold document_Groups.f at h
  by_cases hc : checkI l0 = 0
  · rw [if_pos hc] at h
    simp only [Option.some.injEq, Prod.mk.injEq] at h
    obtain ⟨rfl, rfl⟩ := h
    obtain ⟨hp, _⟩ := check_valid hc
    obtain ⟨ad, rfl, _⟩ := at_T42 hr0 0 (by omega) (by omega)
    refine (groups_good ad c0 l0 w hr0 hc0 hc).mono ?_
    intro e w' hw
    unfold GroupsPost at hw
    rwa [if_pos hc, if_pos hc] at hw
  · rw [if_neg hc] at h
    simp only [Option.some.injEq, Prod.mk.injEq] at h
    obtain ⟨rfl, rfl⟩ := h
    refine (groups_bad A0 c0 l0 w hr0 hc0 hc).mono ?_
    intro e w' hw
    unfold GroupsPost at hw
    rwa [if_neg hc, if_neg hc] at hw

end Go.Proofs.Ythmmdmnbcecooaa.A
