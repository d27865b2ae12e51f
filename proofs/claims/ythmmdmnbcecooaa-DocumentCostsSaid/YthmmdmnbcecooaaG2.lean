/- The contract of document.Check's inner function (use). No condition of its own. -/
import Derived.Test.YthmmdmnbcecooaaG1
namespace Go.Proofs.Ythmmdmnbcecooaa.A
open Go.RowKit Go.Proofs.YthmmdmnbcecooaaW.PrintWords Go.Proofs.YthmmdmnbcecooaaW.PrintLast Go.Proofs.YthmmdmnbcecooaaW.PrintMore
set_option linter.unusedVariables false
set_option linter.unusedSimpArgs false

def useF (us : List Bool) (needed : Bool) (i at_ : Int) : Bool :=
  if needed then decide (0 ≤ i) && decide (i < at_) && !(us.getD i.toNat false) else decide (i = 0)
def useL (us : List Bool) (needed : Bool) (i at_ : Int) : List Bool :=
  if needed && useF us needed i at_ then us.set i.toNat true else us
theorem useL_length (us : List Bool) (needed : Bool) (i at_ : Int) : (useL us needed i at_).length = us.length := by
  unfold useL; split <;> simp

/-- The variable 'used' at block gu, its row at block gb. -/
structure UseSt (B gu gb : Nat) (us : List Bool) (W : World) : Prop where
  hu : W.heap[gu]? = some (.cells #[.slice (some ⟨gb, 0, none⟩) us.length us.length] 23 (0, 0))
  hb : W.heap[gb]? = some (.cells (bools us).toArray 4 (0, 0))
  ne : gu ≠ gb
  lu : B ≤ gu
  lb : B ≤ gb

theorem UseSt.lt_u {B gu gb : Nat} {us : List Bool} {W : World} (h : UseSt B gu gb us W) : gu < W.heap.size := blk_lt h.hu
theorem UseSt.lt_b {B gu gb : Nat} {us : List Bool} {W : World} (h : UseSt B gu gb us W) : gb < W.heap.size := blk_lt h.hb
theorem UseSt.same {B gu gb : Nat} {us : List Bool} {W W' : World} (h : UseSt B gu gb us W) (h1 : W'.heap[gu]? = W.heap[gu]?) (h2 : W'.heap[gb]? = W.heap[gb]?) : UseSt B gu gb us W' :=
  ⟨h1.trans h.hu, h2.trans h.hb, h.ne, h.lu, h.lb⟩
theorem UseSt.alloc {B gu gb : Nat} {us : List Bool} {W : World} (h : UseSt B gu gb us W) (o : Obj) : UseSt B gu gb us (W.alloc o) :=
  ⟨blk_alloc h.hu o, blk_alloc h.hb o, h.ne, h.lu, h.lb⟩
theorem UseSt.below {B gu gb : Nat} {us : List Bool} {W W' : World} (h : UseSt B gu gb us W) (hb : Below W.heap.size W W') : UseSt B gu gb us W' :=
  h.same (hb.block _ h.lt_u) (hb.block _ h.lt_b)
theorem UseSt.far {B gu gb : Nat} {us : List Bool} {W : World} (h : UseSt B gu gb us W) {p : Addr} (h1 : gu ≠ p.block) (h2 : gb ≠ p.block) (v : Value) : UseSt B gu gb us (W.setCell p v) :=
  ⟨blk_far h.hu h1 v, blk_far h.hb h2 v, h.ne, h.lu, h.lb⟩
theorem UseSt.set {B gu gb : Nat} {us : List Bool} {W : World} (h : UseSt B gu gb us W) (i : Nat) : UseSt B gu gb (us.set i true) (W.setCell ⟨gb, i, none⟩ (.bool true)) := by
  refine ⟨?_, ?_, h.ne, h.lu, h.lb⟩
  · have := blk_far h.hu (p := ⟨gb, i, none⟩) h.ne (.bool true)
    simpa using this
  · have := blk_set h.hb i (.bool true)
    rw [this]
    simp [bools, List.map_set]

theorem use_calls (B gu gb : Nat) (us : List Bool) (needed : Bool) (i at_ : Int) (w : World) (h : UseSt B gu gb us w) (hat : at_ ≤ us.length) :
    Calls Try.prog 57 #[.bool needed, .int .i64 i, .int .i64 at_, .pointer (some ⟨gu, 0, none⟩)] w fun e w' =>
      e = .returned (.bool (useF us needed i at_)) ∧ UseSt B gu gb (useL us needed i at_) w' ∧ Below B w w' ∧ w'.heap.size = w.heap.size ∧ ∀ b, b ≠ gb → w'.heap[b]? = w.heap[b]? := by
  have hcu : w.cell? ⟨gu, 0, none⟩ = some (.slice (some ⟨gb, 0, none⟩) us.length us.length) := (blk_cell h.hu 0).trans rfl
  have HS := Aside0.mk h
  have HR := Aside0.mk (Below.refl B w)
  clear h
  cases needed with
  | false =>
    go_enter Try.func57, Try.ntmps57
    go_wp2
    go_ret
    exact ⟨by simp [useF]; rfl, by simpa [useL] using HS.out, HR.out, rfl, fun _ _ => rfl⟩
  | true =>
    by_cases h0 : i < 0
    · have HV := Aside0.mk (show useF us true i at_ = false by unfold useF; simp; intro; omega)
      go_enter Try.func57, Try.ntmps57
      go_wp2
      go_ret
      exact ⟨by rw [HV.out]; rfl, by simpa [useL, HV.out] using HS.out, HR.out, rfl, fun _ _ => rfl⟩
    by_cases h1 : at_ ≤ i
    · have HV := Aside0.mk (show useF us true i at_ = false by unfold useF; simp; intro; omega)
      go_enter Try.func57, Try.ntmps57
      go_wp2
      go_ret
      exact ⟨by rw [HV.out]; rfl, by simpa [useL, HV.out] using HS.out, HR.out, rfl, fun _ _ => rfl⟩
    obtain ⟨j, rfl⟩ : ∃ j : Nat, i = j := ⟨i.toNat, by omega⟩
    have hj : j < us.length := by omega
    have hcb : w.cell? ⟨gb, j, none⟩ = some (.bool (us.getD j false)) := by
      rw [blk_cell HS.out.hb]
      simp [bools, hj]
    have hfz : w.frozen? ⟨gb, j, none⟩ = false := blk_frozen HS.out.hb j
    cases hv : us.getD j false with
    | true =>
      rw [hv] at hcb
      have HV := Aside0.mk (show useF us true (j : Int) at_ = false by unfold useF; simp at hv ⊢; intro; simp [hv])
      clear hv
      go_enter Try.func57, Try.ntmps57
      go_wp2
      go_ret
      exact ⟨by rw [HV.out]; rfl, by simpa [useL, HV.out] using HS.out, HR.out, rfl, fun _ _ => rfl⟩
    | false =>
      rw [hv] at hcb
      have HV := Aside0.mk (show useF us true (j : Int) at_ = true by unfold useF; simp at hv ⊢; simp [hv]; omega)
      clear hv
      go_enter Try.func57, Try.ntmps57
      go_wp2
      go_ret
      exact ⟨by rw [HV.out]; rfl, by simpa [useL, HV.out] using HS.out.set j, HR.out.setCell (p := ⟨gb, j, none⟩) HS.out.lb _, by simp [World.setCell], fun b hb => Below.heap_setCell w ⟨gb, j, none⟩ _ b hb⟩

end Go.Proofs.Ythmmdmnbcecooaa.A
