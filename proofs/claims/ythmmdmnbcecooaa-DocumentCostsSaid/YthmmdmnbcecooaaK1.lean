/- Steps for straight-line code: calls of the reference's Text, Seq, Wrap and of document.Render, with the slices that they hand back as slices that are read. No condition of its own. -/
import Derived.Test.YthmmdmnbcecooaaP1
import Derived.Test.YthmmdmnbcecooaaR2
namespace Go.Proofs.Ythmmdmnbcecooaa.A
open Go.RowKit Go.Proofs.YthmmdmnbcecooaaW.PrintWords Go.Proofs.YthmmdmnbcecooaaW.PrintLast Go.Proofs.YthmmdmnbcecooaaW.PrintMore
set_option linter.unusedVariables false
set_option linter.unusedSimpArgs false

/-- A call hands back a slice of nodes that reads as D. -/
def DocPost (D : List S42) (w : World) (e : Ending) (w' : World) : Prop :=
  ∃ A c, e = .returned (.slice A D.length c) ∧ D.length ≤ c ∧ Kd.C k42 w' A D.length D ∧ Below w.heap.size w w'

theorem DocPost.of {D : List S42} {w : World} {e : Ending} {w' : World} (h : ∃ v0_ : Value, e = .returned (v0_) ∧ Kd.R k42 42 w' w.heap.size (fun _ => True) v0_ D ∧ Below w.heap.size w w') : DocPost D w e w' := by
  obtain ⟨v, rfl, hr, hb⟩ := h
  obtain ⟨A, c, rfl, hc, hC⟩ := Kd.R_reads hr
  exact ⟨A, c, rfl, hc, hC, hb⟩

theorem text_step (D : List S42) (s : ByteArray) (w : World) (h : D = textD s) : Calls Try.prog 38 #[.string s] w (DocPost D w) := by
  subst h
  exact (koineref25_Text.calls s (textD s) w rfl).mono fun _ _ h => .of h

theorem seq_step (D a b : List S42) (A : Option Addr) (c : Nat) (B : Option Addr) (c' : Nat) (w : World) (h : D = seqD a b) (hl : a.length + b.length ≤ 1000000) (ha : Kd.C k42 w A a.length a) (hc : a.length ≤ c) (hb : Kd.C k42 w B b.length b) (hc' : b.length ≤ c') :
    Calls Try.prog 35 #[.slice A a.length c, .slice B b.length c'] w (DocPost D w) := by
  subst h
  exact (koineref25_Seq.calls A c a B c' b (seqD a b) w ha hc hb hc' (Seq_eq a b hl)).mono fun _ _ h => .of h

theorem wrap_step (D a : List S42) (kind n : Int) (A : Option Addr) (c : Nat) (w : World) (h : D = wrapD kind n a) (hl : a.length ≤ 1000000) (ha : Kd.C k42 w A a.length a) (hc : a.length ≤ c) :
    Calls Try.prog 36 #[.int .i64 kind, .int .i64 n, .slice A a.length c] w (DocPost D w) := by
  subst h
  exact (koineref25_Wrap.calls kind n A c a (wrapD kind n a) w ha hc (Wrap_eq kind n a hl)).mono fun _ _ h => .of h

/-- A literal of one node. -/
theorem lit42 (W : World) (x : S42) : Kd.C k42 (W.alloc (.cells #[.int .i64 x.f0, .string x.f1, .int .i64 x.f2, .int .i64 x.f3, .int .i64 x.f4] 42)) (some ⟨W.heap.size, 0, none⟩) 1 [x] := by
  refine ⟨rfl, by omega, fun _ => ⟨_, rfl, fun j p hj => ?_⟩⟩
  have hj0 : j = 0 := by have := (List.getElem?_eq_some_iff.1 hj).1; simp at this; exact this
  subst hj0
  obtain rfl : x = p := by simpa using hj
  refine ⟨_, ?_, k42_mk _ x, fun i u hu => ?_⟩
  · rfl
  · have hi : i < 5 := by have := (List.getElem?_eq_some_iff.1 hu).1; simpa using this
    rw [add_plain, blk_cell (heap_alloc_new W _)]
    rw [← hu, List.getElem?_toArray.symm]
    simp

theorem litb (W : World) (b : Bool) : Kd.C Kd.bool (W.alloc (.cells #[.bool b] 4)) (some ⟨W.heap.size, 0, none⟩) 1 [b] := by
  refine ⟨rfl, by omega, fun _ => ⟨_, rfl, fun j p hj => ?_⟩⟩
  have hj0 : j = 0 := by have := (List.getElem?_eq_some_iff.1 hj).1; simp at this; exact this
  subst hj0
  obtain rfl : b = p := by simpa using hj
  refine ⟨[.bool b], rfl, rfl, fun i u hu => ?_⟩
  have hi : i < 1 := by have := (List.getElem?_eq_some_iff.1 hu).1; simpa using this
  obtain rfl : i = 0 := by omega
  rw [add_plain, blk_cell (heap_alloc_new W _)]
  simpa using hu

end Go.Proofs.Ythmmdmnbcecooaa.A
