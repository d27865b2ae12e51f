/- S2, U5, U6: what the claims rest on of these texts, one behind the other. No condition of its own. -/
import Derived.Test.YthmmdmnbcecooaaZY13
section
namespace Go.Proofs.Ythmmdmnbcecooaa.A
open Go.RowKit Go.Proofs.YthmmdmnbcecooaaW.PrintWords Go.Proofs.YthmmdmnbcecooaaW.PrintLast Go.Proofs.YthmmdmnbcecooaaW.PrintMore
attribute [local go_sem] max2_int max_two
set_option linter.unusedVariables false
set_option linter.unusedSimpArgs false
attribute [local go_sem high] eqA36
set_option maxRecDepth 100000 in
theorem is_calls (A0 : Option Addr) (c0 : Nat) (l0 : List S42) (wd : Int) (s : ByteArray) (b l : Int) (w : World) (hr0 : Kd.C k42 w A0 l0.length l0) (hc0 : l0.length ≤ c0) (h : layout_Best.f l0 wd = some (s, b, l, 0)) :
    Calls Try.prog 62 #[.slice A0 l0.length c0, .int .i64 wd, .string s, .int .i64 b, .int .i64 l] w (BoolPost true w) := by
  have HC := Aside0.mk (layout_Best.calls A0 c0 l0 wd s b l 0 w hr0 hc0 h)
  clear hr0 hc0 h
  go_enter Try.func62, Try.ntmps62
  go_wp2_with fail
  refine HC.out.mono ?_
  rintro e w1 ⟨rfl, hb⟩
  have HB := Aside0.mk hb
  clear hb
  go_wp2_with fail
  go_ret
  exact ⟨by simp, HB.out.alloc HB.out.size _⟩
def xdL : List S42 := [⟨1, ⟨#[]⟩, 0, 0, 0⟩]
def xda : List S42 := textD ⟨#[97]⟩
def xdb : List S42 := seqD xdL xda
def xdc : List S42 := wrapD 4 2 xdb
def xdd : List S42 := textD ⟨#[102, 40]⟩
def xde : List S42 := textD ⟨#[41]⟩
def xdf : List S42 := seqD xdL xde
def xdg : List S42 := seqD xdc xdf
def xdh : List S42 := seqD xdd xdg
def xdi : List S42 := wrapD 6 0 xdh
def xdG : List S42 := wrapD 6 0 [⟨1, ⟨#[32]⟩, 0, 0, 0⟩]
theorem gap_step (w : World) : Calls Try.prog 39 #[] w (DocPost xdG w) :=
  (koinelaw26_gap.calls xdG w (by unfold koinelaw26_gap.f; rw [Wrap_eq 6 0 _ (by decide)]; rfl)).mono fun _ _ h => .of h
def xdj : List S42 := textD ⟨#[98]⟩
def xdk : List S42 := textD ⟨#[99]⟩
def xdl : List S42 := seqD xdG xdk
def xdm : List S42 := seqD xdj xdl
def xdn : List S42 := seqD xdG xdm
def xdo : List S42 := seqD xda xdn
theorem litb2 (W : World) (b c : Bool) : Kd.C Kd.bool (W.alloc (.cells #[.bool b, .bool c] 4)) (some ⟨W.heap.size, 0, none⟩) 2 [b, c] := by
  refine Kd.C_of_reads (d := false) ⟨rfl, by decide, fun _ => ⟨_, rfl, fun j hj => ?_⟩⟩
  rw [add_plain, blk_cell (heap_alloc_new W _)]
  rcases (show j = 0 ∨ j = 1 by omega) with rfl | rfl <;> rfl
set_option maxRecDepth 100000 in
theorem example_calls (w : World) : Calls Try.prog 61 #[] w (DocPost xdi w) := by
  have HB := Aside0.mk (Below.refl w.heap.size w)
  go_enter Try.func61, Try.ntmps61
  go_wp2_with fail
  have CxdL : Aside0 (Kd.C k42 (w.alloc _) (some ⟨w.heap.size, 0, none⟩) (List.length xdL) xdL) := ⟨lit42 w ⟨1, ⟨#[]⟩, 0, 0, 0⟩⟩
  refine (text_step xda ⟨#[97]⟩ _ rfl).mono ?_
  rintro e w1 ⟨Axda, cxda, rfl, hxda, hC, hb⟩
  have hb2 : Below w.heap.size w _ := below_step (by repeat (first | (with_reducible first | exact Below.refl _ _ | exact HB.out | apply below_alloc | apply below_drew1) | exact Below.refl _ _ | exact HB.out)) hb
  clear HB; have HB := Aside0.mk hb2
  replace CxdL : Aside0 (Kd.C k42 w1 (some ⟨w.heap.size, 0, none⟩) (List.length xdL) xdL) := ⟨Kd.C_below (by (with_reducible repeat (first | exact CxdL.out | refine Kd.C_alloc ?_ _ | refine Kd.C_drew ?_))) hb⟩
  have Cxda := Aside0.mk hC; clear hC
  clear hb hb2
  go_wp2_with fail
  refine (seq_step xdb xdL xda (some ⟨w.heap.size, 0, none⟩) 1 Axda cxda _ rfl (by decide) (by (with_reducible repeat (first | exact CxdL.out | refine Kd.C_alloc ?_ _ | refine Kd.C_drew ?_))) (by decide) (by (with_reducible repeat (first | exact Cxda.out | refine Kd.C_alloc ?_ _ | refine Kd.C_drew ?_))) hxda).mono ?_
  rintro e w2 ⟨Axdb, cxdb, rfl, hxdb, hC, hb⟩
  have hb2 : Below w.heap.size w _ := below_step (by repeat (first | (with_reducible first | exact Below.refl _ _ | exact HB.out | apply below_alloc | apply below_drew1) | exact Below.refl _ _ | exact HB.out)) hb
  clear HB; have HB := Aside0.mk hb2
  replace CxdL : Aside0 (Kd.C k42 w2 (some ⟨w.heap.size, 0, none⟩) (List.length xdL) xdL) := ⟨Kd.C_below (by (with_reducible repeat (first | exact CxdL.out | refine Kd.C_alloc ?_ _ | refine Kd.C_drew ?_))) hb⟩
  replace Cxda : Aside0 (Kd.C k42 w2 Axda (List.length xda) xda) := ⟨Kd.C_below (by (with_reducible repeat (first | exact Cxda.out | refine Kd.C_alloc ?_ _ | refine Kd.C_drew ?_))) hb⟩
  have Cxdb := Aside0.mk hC; clear hC
  clear hb hb2
  go_wp2_with fail
  refine (wrap_step xdc xdb 4 2 Axdb cxdb _ rfl (by decide) (by (with_reducible repeat (first | exact Cxdb.out | refine Kd.C_alloc ?_ _ | refine Kd.C_drew ?_))) hxdb).mono ?_
  rintro e w3 ⟨Axdc, cxdc, rfl, hxdc, hC, hb⟩
  have hb2 : Below w.heap.size w _ := below_step (by repeat (first | (with_reducible first | exact Below.refl _ _ | exact HB.out | apply below_alloc | apply below_drew1) | exact Below.refl _ _ | exact HB.out)) hb
  clear HB; have HB := Aside0.mk hb2
  replace CxdL : Aside0 (Kd.C k42 w3 (some ⟨w.heap.size, 0, none⟩) (List.length xdL) xdL) := ⟨Kd.C_below (by (with_reducible repeat (first | exact CxdL.out | refine Kd.C_alloc ?_ _ | refine Kd.C_drew ?_))) hb⟩
  replace Cxda : Aside0 (Kd.C k42 w3 Axda (List.length xda) xda) := ⟨Kd.C_below (by (with_reducible repeat (first | exact Cxda.out | refine Kd.C_alloc ?_ _ | refine Kd.C_drew ?_))) hb⟩
  replace Cxdb : Aside0 (Kd.C k42 w3 Axdb (List.length xdb) xdb) := ⟨Kd.C_below (by (with_reducible repeat (first | exact Cxdb.out | refine Kd.C_alloc ?_ _ | refine Kd.C_drew ?_))) hb⟩
  have Cxdc := Aside0.mk hC; clear hC
  clear hb hb2
  go_wp2_with fail
  refine (text_step xdd ⟨#[102, 40]⟩ _ rfl).mono ?_
  rintro e w4 ⟨Axdd, cxdd, rfl, hxdd, hC, hb⟩
  have hb2 : Below w.heap.size w _ := below_step (by repeat (first | (with_reducible first | exact Below.refl _ _ | exact HB.out | apply below_alloc | apply below_drew1) | exact Below.refl _ _ | exact HB.out)) hb
  clear HB; have HB := Aside0.mk hb2
  replace CxdL : Aside0 (Kd.C k42 w4 (some ⟨w.heap.size, 0, none⟩) (List.length xdL) xdL) := ⟨Kd.C_below (by (with_reducible repeat (first | exact CxdL.out | refine Kd.C_alloc ?_ _ | refine Kd.C_drew ?_))) hb⟩
  replace Cxda : Aside0 (Kd.C k42 w4 Axda (List.length xda) xda) := ⟨Kd.C_below (by (with_reducible repeat (first | exact Cxda.out | refine Kd.C_alloc ?_ _ | refine Kd.C_drew ?_))) hb⟩
  replace Cxdb : Aside0 (Kd.C k42 w4 Axdb (List.length xdb) xdb) := ⟨Kd.C_below (by (with_reducible repeat (first | exact Cxdb.out | refine Kd.C_alloc ?_ _ | refine Kd.C_drew ?_))) hb⟩
  replace Cxdc : Aside0 (Kd.C k42 w4 Axdc (List.length xdc) xdc) := ⟨Kd.C_below (by (with_reducible repeat (first | exact Cxdc.out | refine Kd.C_alloc ?_ _ | refine Kd.C_drew ?_))) hb⟩
  have Cxdd := Aside0.mk hC; clear hC
  clear hb hb2
  go_wp2_with fail
  refine (text_step xde ⟨#[41]⟩ _ rfl).mono ?_
  rintro e w5 ⟨Axde, cxde, rfl, hxde, hC, hb⟩
  have hb2 : Below w.heap.size w _ := below_step (by repeat (first | (with_reducible first | exact Below.refl _ _ | exact HB.out | apply below_alloc | apply below_drew1) | exact Below.refl _ _ | exact HB.out)) hb
  clear HB; have HB := Aside0.mk hb2
  replace CxdL : Aside0 (Kd.C k42 w5 (some ⟨w.heap.size, 0, none⟩) (List.length xdL) xdL) := ⟨Kd.C_below (by (with_reducible repeat (first | exact CxdL.out | refine Kd.C_alloc ?_ _ | refine Kd.C_drew ?_))) hb⟩
  replace Cxda : Aside0 (Kd.C k42 w5 Axda (List.length xda) xda) := ⟨Kd.C_below (by (with_reducible repeat (first | exact Cxda.out | refine Kd.C_alloc ?_ _ | refine Kd.C_drew ?_))) hb⟩
  replace Cxdb : Aside0 (Kd.C k42 w5 Axdb (List.length xdb) xdb) := ⟨Kd.C_below (by (with_reducible repeat (first | exact Cxdb.out | refine Kd.C_alloc ?_ _ | refine Kd.C_drew ?_))) hb⟩
  replace Cxdc : Aside0 (Kd.C k42 w5 Axdc (List.length xdc) xdc) := ⟨Kd.C_below (by (with_reducible repeat (first | exact Cxdc.out | refine Kd.C_alloc ?_ _ | refine Kd.C_drew ?_))) hb⟩
  replace Cxdd : Aside0 (Kd.C k42 w5 Axdd (List.length xdd) xdd) := ⟨Kd.C_below (by (with_reducible repeat (first | exact Cxdd.out | refine Kd.C_alloc ?_ _ | refine Kd.C_drew ?_))) hb⟩
  have Cxde := Aside0.mk hC; clear hC
  clear hb hb2
  go_wp2_with fail
  refine (seq_step xdf xdL xde (some ⟨w.heap.size, 0, none⟩) 1 Axde cxde _ rfl (by decide) (by (with_reducible repeat (first | exact CxdL.out | refine Kd.C_alloc ?_ _ | refine Kd.C_drew ?_))) (by decide) (by (with_reducible repeat (first | exact Cxde.out | refine Kd.C_alloc ?_ _ | refine Kd.C_drew ?_))) hxde).mono ?_
  rintro e w6 ⟨Axdf, cxdf, rfl, hxdf, hC, hb⟩
  have hb2 : Below w.heap.size w _ := below_step (by repeat (first | (with_reducible first | exact Below.refl _ _ | exact HB.out | apply below_alloc | apply below_drew1) | exact Below.refl _ _ | exact HB.out)) hb
  clear HB; have HB := Aside0.mk hb2
  replace CxdL : Aside0 (Kd.C k42 w6 (some ⟨w.heap.size, 0, none⟩) (List.length xdL) xdL) := ⟨Kd.C_below (by (with_reducible repeat (first | exact CxdL.out | refine Kd.C_alloc ?_ _ | refine Kd.C_drew ?_))) hb⟩
  replace Cxda : Aside0 (Kd.C k42 w6 Axda (List.length xda) xda) := ⟨Kd.C_below (by (with_reducible repeat (first | exact Cxda.out | refine Kd.C_alloc ?_ _ | refine Kd.C_drew ?_))) hb⟩
  replace Cxdb : Aside0 (Kd.C k42 w6 Axdb (List.length xdb) xdb) := ⟨Kd.C_below (by (with_reducible repeat (first | exact Cxdb.out | refine Kd.C_alloc ?_ _ | refine Kd.C_drew ?_))) hb⟩
  replace Cxdc : Aside0 (Kd.C k42 w6 Axdc (List.length xdc) xdc) := ⟨Kd.C_below (by (with_reducible repeat (first | exact Cxdc.out | refine Kd.C_alloc ?_ _ | refine Kd.C_drew ?_))) hb⟩
  replace Cxdd : Aside0 (Kd.C k42 w6 Axdd (List.length xdd) xdd) := ⟨Kd.C_below (by (with_reducible repeat (first | exact Cxdd.out | refine Kd.C_alloc ?_ _ | refine Kd.C_drew ?_))) hb⟩
  replace Cxde : Aside0 (Kd.C k42 w6 Axde (List.length xde) xde) := ⟨Kd.C_below (by (with_reducible repeat (first | exact Cxde.out | refine Kd.C_alloc ?_ _ | refine Kd.C_drew ?_))) hb⟩
  have Cxdf := Aside0.mk hC; clear hC
  clear hb hb2
  go_wp2_with fail
  refine (seq_step xdg xdc xdf Axdc cxdc Axdf cxdf _ rfl (by decide) (by (with_reducible repeat (first | exact Cxdc.out | refine Kd.C_alloc ?_ _ | refine Kd.C_drew ?_))) hxdc (by (with_reducible repeat (first | exact Cxdf.out | refine Kd.C_alloc ?_ _ | refine Kd.C_drew ?_))) hxdf).mono ?_
  rintro e w7 ⟨Axdg, cxdg, rfl, hxdg, hC, hb⟩
  have hb2 : Below w.heap.size w _ := below_step (by repeat (first | (with_reducible first | exact Below.refl _ _ | exact HB.out | apply below_alloc | apply below_drew1) | exact Below.refl _ _ | exact HB.out)) hb
  clear HB; have HB := Aside0.mk hb2
  replace CxdL : Aside0 (Kd.C k42 w7 (some ⟨w.heap.size, 0, none⟩) (List.length xdL) xdL) := ⟨Kd.C_below (by (with_reducible repeat (first | exact CxdL.out | refine Kd.C_alloc ?_ _ | refine Kd.C_drew ?_))) hb⟩
  replace Cxda : Aside0 (Kd.C k42 w7 Axda (List.length xda) xda) := ⟨Kd.C_below (by (with_reducible repeat (first | exact Cxda.out | refine Kd.C_alloc ?_ _ | refine Kd.C_drew ?_))) hb⟩
  replace Cxdb : Aside0 (Kd.C k42 w7 Axdb (List.length xdb) xdb) := ⟨Kd.C_below (by (with_reducible repeat (first | exact Cxdb.out | refine Kd.C_alloc ?_ _ | refine Kd.C_drew ?_))) hb⟩
  replace Cxdc : Aside0 (Kd.C k42 w7 Axdc (List.length xdc) xdc) := ⟨Kd.C_below (by (with_reducible repeat (first | exact Cxdc.out | refine Kd.C_alloc ?_ _ | refine Kd.C_drew ?_))) hb⟩
  replace Cxdd : Aside0 (Kd.C k42 w7 Axdd (List.length xdd) xdd) := ⟨Kd.C_below (by (with_reducible repeat (first | exact Cxdd.out | refine Kd.C_alloc ?_ _ | refine Kd.C_drew ?_))) hb⟩
  replace Cxde : Aside0 (Kd.C k42 w7 Axde (List.length xde) xde) := ⟨Kd.C_below (by (with_reducible repeat (first | exact Cxde.out | refine Kd.C_alloc ?_ _ | refine Kd.C_drew ?_))) hb⟩
  replace Cxdf : Aside0 (Kd.C k42 w7 Axdf (List.length xdf) xdf) := ⟨Kd.C_below (by (with_reducible repeat (first | exact Cxdf.out | refine Kd.C_alloc ?_ _ | refine Kd.C_drew ?_))) hb⟩
  have Cxdg := Aside0.mk hC; clear hC
  clear hb hb2
  go_wp2_with fail
  refine (seq_step xdh xdd xdg Axdd cxdd Axdg cxdg _ rfl (by decide) (by (with_reducible repeat (first | exact Cxdd.out | refine Kd.C_alloc ?_ _ | refine Kd.C_drew ?_))) hxdd (by (with_reducible repeat (first | exact Cxdg.out | refine Kd.C_alloc ?_ _ | refine Kd.C_drew ?_))) hxdg).mono ?_
  rintro e w8 ⟨Axdh, cxdh, rfl, hxdh, hC, hb⟩
  have hb2 : Below w.heap.size w _ := below_step (by repeat (first | (with_reducible first | exact Below.refl _ _ | exact HB.out | apply below_alloc | apply below_drew1) | exact Below.refl _ _ | exact HB.out)) hb
  clear HB; have HB := Aside0.mk hb2
  replace CxdL : Aside0 (Kd.C k42 w8 (some ⟨w.heap.size, 0, none⟩) (List.length xdL) xdL) := ⟨Kd.C_below (by (with_reducible repeat (first | exact CxdL.out | refine Kd.C_alloc ?_ _ | refine Kd.C_drew ?_))) hb⟩
  replace Cxda : Aside0 (Kd.C k42 w8 Axda (List.length xda) xda) := ⟨Kd.C_below (by (with_reducible repeat (first | exact Cxda.out | refine Kd.C_alloc ?_ _ | refine Kd.C_drew ?_))) hb⟩
  replace Cxdb : Aside0 (Kd.C k42 w8 Axdb (List.length xdb) xdb) := ⟨Kd.C_below (by (with_reducible repeat (first | exact Cxdb.out | refine Kd.C_alloc ?_ _ | refine Kd.C_drew ?_))) hb⟩
  replace Cxdc : Aside0 (Kd.C k42 w8 Axdc (List.length xdc) xdc) := ⟨Kd.C_below (by (with_reducible repeat (first | exact Cxdc.out | refine Kd.C_alloc ?_ _ | refine Kd.C_drew ?_))) hb⟩
  replace Cxdd : Aside0 (Kd.C k42 w8 Axdd (List.length xdd) xdd) := ⟨Kd.C_below (by (with_reducible repeat (first | exact Cxdd.out | refine Kd.C_alloc ?_ _ | refine Kd.C_drew ?_))) hb⟩
  replace Cxde : Aside0 (Kd.C k42 w8 Axde (List.length xde) xde) := ⟨Kd.C_below (by (with_reducible repeat (first | exact Cxde.out | refine Kd.C_alloc ?_ _ | refine Kd.C_drew ?_))) hb⟩
  replace Cxdf : Aside0 (Kd.C k42 w8 Axdf (List.length xdf) xdf) := ⟨Kd.C_below (by (with_reducible repeat (first | exact Cxdf.out | refine Kd.C_alloc ?_ _ | refine Kd.C_drew ?_))) hb⟩
  replace Cxdg : Aside0 (Kd.C k42 w8 Axdg (List.length xdg) xdg) := ⟨Kd.C_below (by (with_reducible repeat (first | exact Cxdg.out | refine Kd.C_alloc ?_ _ | refine Kd.C_drew ?_))) hb⟩
  have Cxdh := Aside0.mk hC; clear hC
  clear hb hb2
  go_wp2_with fail
  refine (wrap_step xdi xdh 6 0 Axdh cxdh _ rfl (by decide) (by (with_reducible repeat (first | exact Cxdh.out | refine Kd.C_alloc ?_ _ | refine Kd.C_drew ?_))) hxdh).mono ?_
  rintro e w9 ⟨Axdi, cxdi, rfl, hxdi, hC, hb⟩
  have hb2 : Below w.heap.size w _ := below_step (by repeat (first | (with_reducible first | exact Below.refl _ _ | exact HB.out | apply below_alloc | apply below_drew1) | exact Below.refl _ _ | exact HB.out)) hb
  clear HB; have HB := Aside0.mk hb2
  replace CxdL : Aside0 (Kd.C k42 w9 (some ⟨w.heap.size, 0, none⟩) (List.length xdL) xdL) := ⟨Kd.C_below (by (with_reducible repeat (first | exact CxdL.out | refine Kd.C_alloc ?_ _ | refine Kd.C_drew ?_))) hb⟩
  replace Cxda : Aside0 (Kd.C k42 w9 Axda (List.length xda) xda) := ⟨Kd.C_below (by (with_reducible repeat (first | exact Cxda.out | refine Kd.C_alloc ?_ _ | refine Kd.C_drew ?_))) hb⟩
  replace Cxdb : Aside0 (Kd.C k42 w9 Axdb (List.length xdb) xdb) := ⟨Kd.C_below (by (with_reducible repeat (first | exact Cxdb.out | refine Kd.C_alloc ?_ _ | refine Kd.C_drew ?_))) hb⟩
  replace Cxdc : Aside0 (Kd.C k42 w9 Axdc (List.length xdc) xdc) := ⟨Kd.C_below (by (with_reducible repeat (first | exact Cxdc.out | refine Kd.C_alloc ?_ _ | refine Kd.C_drew ?_))) hb⟩
  replace Cxdd : Aside0 (Kd.C k42 w9 Axdd (List.length xdd) xdd) := ⟨Kd.C_below (by (with_reducible repeat (first | exact Cxdd.out | refine Kd.C_alloc ?_ _ | refine Kd.C_drew ?_))) hb⟩
  replace Cxde : Aside0 (Kd.C k42 w9 Axde (List.length xde) xde) := ⟨Kd.C_below (by (with_reducible repeat (first | exact Cxde.out | refine Kd.C_alloc ?_ _ | refine Kd.C_drew ?_))) hb⟩
  replace Cxdf : Aside0 (Kd.C k42 w9 Axdf (List.length xdf) xdf) := ⟨Kd.C_below (by (with_reducible repeat (first | exact Cxdf.out | refine Kd.C_alloc ?_ _ | refine Kd.C_drew ?_))) hb⟩
  replace Cxdg : Aside0 (Kd.C k42 w9 Axdg (List.length xdg) xdg) := ⟨Kd.C_below (by (with_reducible repeat (first | exact Cxdg.out | refine Kd.C_alloc ?_ _ | refine Kd.C_drew ?_))) hb⟩
  replace Cxdh : Aside0 (Kd.C k42 w9 Axdh (List.length xdh) xdh) := ⟨Kd.C_below (by (with_reducible repeat (first | exact Cxdh.out | refine Kd.C_alloc ?_ _ | refine Kd.C_drew ?_))) hb⟩
  have Cxdi := Aside0.mk hC; clear hC
  clear hb hb2
  go_wp2_with fail
  go_ret
  exact ⟨_, _, rfl, hxdi, Cxdi.out, HB.out⟩
set_option maxHeartbeats 8000000 in
set_option maxRecDepth 100000 in
theorem sanity26_calls (w : World) : Calls Try.prog 33 #[] w (BoolPost true w) := by
  have HB := Aside0.mk (Below.refl w.heap.size w)
  go_enter Try.func33, Try.ntmps33
  go_wp2_with fail
  refine (example_calls _).mono ?_
  rintro e w1 ⟨Axdi, cxdi, rfl, hxdi, hC, hb⟩
  have hb2 : Below w.heap.size w _ := below_step (by repeat (first | (with_reducible first | exact Below.refl _ _ | exact HB.out | apply below_alloc | apply below_drew1) | exact Below.refl _ _ | exact HB.out)) hb
  clear HB; have HB := Aside0.mk hb2
  have Cxdi := Aside0.mk hC; clear hC
  clear hb hb2
  go_wp2_with fail
  refine (is_calls Axdi cxdi xdi 4 ⟨#[102, 40, 97, 41]⟩ 0 0 _ (by (with_reducible repeat (first | exact Cxdi.out | refine Kd.C_alloc ?_ _ | refine Kd.C_drew ?_))) hxdi (by kernel_rfl)).mono ?_
  rintro e w2 ⟨rfl, hb⟩
  have hb2 : Below w.heap.size w _ := below_step (by repeat (first | (with_reducible first | exact Below.refl _ _ | exact HB.out | apply below_alloc | apply below_drew1) | exact Below.refl _ _ | exact HB.out)) hb
  clear HB; have HB := Aside0.mk hb2
  replace Cxdi : Aside0 (Kd.C k42 w2 Axdi (List.length xdi) xdi) := ⟨Kd.C_below (by (with_reducible repeat (first | exact Cxdi.out | refine Kd.C_alloc ?_ _ | refine Kd.C_drew ?_))) hb⟩
  clear hb hb2
  go_wp2_with fail
  refine (is_calls Axdi cxdi xdi 3 ⟨#[102, 40, 10, 32, 32, 97, 10, 41]⟩ 0 2 _ (by (with_reducible repeat (first | exact Cxdi.out | refine Kd.C_alloc ?_ _ | refine Kd.C_drew ?_))) hxdi (by kernel_rfl)).mono ?_
  rintro e w3 ⟨rfl, hb⟩
  have hb2 : Below w.heap.size w _ := below_step (by repeat (first | (with_reducible first | exact Below.refl _ _ | exact HB.out | apply below_alloc | apply below_drew1) | exact Below.refl _ _ | exact HB.out)) hb
  clear HB; have HB := Aside0.mk hb2
  replace Cxdi : Aside0 (Kd.C k42 w3 Axdi (List.length xdi) xdi) := ⟨Kd.C_below (by (with_reducible repeat (first | exact Cxdi.out | refine Kd.C_alloc ?_ _ | refine Kd.C_drew ?_))) hb⟩
  clear hb hb2
  go_wp2_with fail
  refine (is_calls Axdi cxdi xdi 2 ⟨#[102, 40, 10, 32, 32, 97, 10, 41]⟩ 1 2 _ (by (with_reducible repeat (first | exact Cxdi.out | refine Kd.C_alloc ?_ _ | refine Kd.C_drew ?_))) hxdi (by kernel_rfl)).mono ?_
  rintro e w4 ⟨rfl, hb⟩
  have hb2 : Below w.heap.size w _ := below_step (by repeat (first | (with_reducible first | exact Below.refl _ _ | exact HB.out | apply below_alloc | apply below_drew1) | exact Below.refl _ _ | exact HB.out)) hb
  clear HB; have HB := Aside0.mk hb2
  replace Cxdi : Aside0 (Kd.C k42 w4 Axdi (List.length xdi) xdi) := ⟨Kd.C_below (by (with_reducible repeat (first | exact Cxdi.out | refine Kd.C_alloc ?_ _ | refine Kd.C_drew ?_))) hb⟩
  clear hb hb2
  go_wp2_with fail
  refine (is_calls Axdi cxdi xdi 1 ⟨#[102, 40, 97, 41]⟩ 3 0 _ (by (with_reducible repeat (first | exact Cxdi.out | refine Kd.C_alloc ?_ _ | refine Kd.C_drew ?_))) hxdi (by kernel_rfl)).mono ?_
  rintro e w5 ⟨rfl, hb⟩
  have hb2 : Below w.heap.size w _ := below_step (by repeat (first | (with_reducible first | exact Below.refl _ _ | exact HB.out | apply below_alloc | apply below_drew1) | exact Below.refl _ _ | exact HB.out)) hb
  clear HB; have HB := Aside0.mk hb2
  replace Cxdi : Aside0 (Kd.C k42 w5 Axdi (List.length xdi) xdi) := ⟨Kd.C_below (by (with_reducible repeat (first | exact Cxdi.out | refine Kd.C_alloc ?_ _ | refine Kd.C_drew ?_))) hb⟩
  clear hb hb2
  go_wp2_with fail
  refine (text_step xda ⟨#[97]⟩ _ rfl).mono ?_
  rintro e w6 ⟨Axda, cxda, rfl, hxda, hC, hb⟩
  have hb2 : Below w.heap.size w _ := below_step (by repeat (first | (with_reducible first | exact Below.refl _ _ | exact HB.out | apply below_alloc | apply below_drew1) | exact Below.refl _ _ | exact HB.out)) hb
  clear HB; have HB := Aside0.mk hb2
  replace Cxdi : Aside0 (Kd.C k42 w6 Axdi (List.length xdi) xdi) := ⟨Kd.C_below (by (with_reducible repeat (first | exact Cxdi.out | refine Kd.C_alloc ?_ _ | refine Kd.C_drew ?_))) hb⟩
  have Cxda := Aside0.mk hC; clear hC
  clear hb hb2
  go_wp2_with fail
  refine (gap_step _).mono ?_
  rintro e w7 ⟨AxdG, cxdG, rfl, hxdG, hC, hb⟩
  have hb2 : Below w.heap.size w _ := below_step (by repeat (first | (with_reducible first | exact Below.refl _ _ | exact HB.out | apply below_alloc | apply below_drew1) | exact Below.refl _ _ | exact HB.out)) hb
  clear HB; have HB := Aside0.mk hb2
  replace Cxdi : Aside0 (Kd.C k42 w7 Axdi (List.length xdi) xdi) := ⟨Kd.C_below (by (with_reducible repeat (first | exact Cxdi.out | refine Kd.C_alloc ?_ _ | refine Kd.C_drew ?_))) hb⟩
  replace Cxda : Aside0 (Kd.C k42 w7 Axda (List.length xda) xda) := ⟨Kd.C_below (by (with_reducible repeat (first | exact Cxda.out | refine Kd.C_alloc ?_ _ | refine Kd.C_drew ?_))) hb⟩
  have CxdG := Aside0.mk hC; clear hC
  clear hb hb2
  go_wp2_with fail
  refine (text_step xdj ⟨#[98]⟩ _ rfl).mono ?_
  rintro e w8 ⟨Axdj, cxdj, rfl, hxdj, hC, hb⟩
  have hb2 : Below w.heap.size w _ := below_step (by repeat (first | (with_reducible first | exact Below.refl _ _ | exact HB.out | apply below_alloc | apply below_drew1) | exact Below.refl _ _ | exact HB.out)) hb
  clear HB; have HB := Aside0.mk hb2
  replace Cxdi : Aside0 (Kd.C k42 w8 Axdi (List.length xdi) xdi) := ⟨Kd.C_below (by (with_reducible repeat (first | exact Cxdi.out | refine Kd.C_alloc ?_ _ | refine Kd.C_drew ?_))) hb⟩
  replace Cxda : Aside0 (Kd.C k42 w8 Axda (List.length xda) xda) := ⟨Kd.C_below (by (with_reducible repeat (first | exact Cxda.out | refine Kd.C_alloc ?_ _ | refine Kd.C_drew ?_))) hb⟩
  replace CxdG : Aside0 (Kd.C k42 w8 AxdG (List.length xdG) xdG) := ⟨Kd.C_below (by (with_reducible repeat (first | exact CxdG.out | refine Kd.C_alloc ?_ _ | refine Kd.C_drew ?_))) hb⟩
  have Cxdj := Aside0.mk hC; clear hC
  clear hb hb2
  go_wp2_with fail
  refine (gap_step _).mono ?_
  rintro e w9 ⟨AxdG2, cxdG2, rfl, hxdG2, hC, hb⟩
  have hb2 : Below w.heap.size w _ := below_step (by repeat (first | (with_reducible first | exact Below.refl _ _ | exact HB.out | apply below_alloc | apply below_drew1) | exact Below.refl _ _ | exact HB.out)) hb
  clear HB; have HB := Aside0.mk hb2
  replace Cxdi : Aside0 (Kd.C k42 w9 Axdi (List.length xdi) xdi) := ⟨Kd.C_below (by (with_reducible repeat (first | exact Cxdi.out | refine Kd.C_alloc ?_ _ | refine Kd.C_drew ?_))) hb⟩
  replace Cxda : Aside0 (Kd.C k42 w9 Axda (List.length xda) xda) := ⟨Kd.C_below (by (with_reducible repeat (first | exact Cxda.out | refine Kd.C_alloc ?_ _ | refine Kd.C_drew ?_))) hb⟩
  replace CxdG : Aside0 (Kd.C k42 w9 AxdG (List.length xdG) xdG) := ⟨Kd.C_below (by (with_reducible repeat (first | exact CxdG.out | refine Kd.C_alloc ?_ _ | refine Kd.C_drew ?_))) hb⟩
  replace Cxdj : Aside0 (Kd.C k42 w9 Axdj (List.length xdj) xdj) := ⟨Kd.C_below (by (with_reducible repeat (first | exact Cxdj.out | refine Kd.C_alloc ?_ _ | refine Kd.C_drew ?_))) hb⟩
  have CxdG2 := Aside0.mk hC; clear hC
  clear hb hb2
  go_wp2_with fail
  refine (text_step xdk ⟨#[99]⟩ _ rfl).mono ?_
  rintro e w10 ⟨Axdk, cxdk, rfl, hxdk, hC, hb⟩
  have hb2 : Below w.heap.size w _ := below_step (by repeat (first | (with_reducible first | exact Below.refl _ _ | exact HB.out | apply below_alloc | apply below_drew1) | exact Below.refl _ _ | exact HB.out)) hb
  clear HB; have HB := Aside0.mk hb2
  replace Cxdi : Aside0 (Kd.C k42 w10 Axdi (List.length xdi) xdi) := ⟨Kd.C_below (by (with_reducible repeat (first | exact Cxdi.out | refine Kd.C_alloc ?_ _ | refine Kd.C_drew ?_))) hb⟩
  replace Cxda : Aside0 (Kd.C k42 w10 Axda (List.length xda) xda) := ⟨Kd.C_below (by (with_reducible repeat (first | exact Cxda.out | refine Kd.C_alloc ?_ _ | refine Kd.C_drew ?_))) hb⟩
  replace CxdG : Aside0 (Kd.C k42 w10 AxdG (List.length xdG) xdG) := ⟨Kd.C_below (by (with_reducible repeat (first | exact CxdG.out | refine Kd.C_alloc ?_ _ | refine Kd.C_drew ?_))) hb⟩
  replace Cxdj : Aside0 (Kd.C k42 w10 Axdj (List.length xdj) xdj) := ⟨Kd.C_below (by (with_reducible repeat (first | exact Cxdj.out | refine Kd.C_alloc ?_ _ | refine Kd.C_drew ?_))) hb⟩
  replace CxdG2 : Aside0 (Kd.C k42 w10 AxdG2 (List.length xdG) xdG) := ⟨Kd.C_below (by (with_reducible repeat (first | exact CxdG2.out | refine Kd.C_alloc ?_ _ | refine Kd.C_drew ?_))) hb⟩
  have Cxdk := Aside0.mk hC; clear hC
  clear hb hb2
  go_wp2_with fail
  refine (seq_step xdl xdG xdk AxdG2 cxdG2 Axdk cxdk _ rfl (by decide) (by (with_reducible repeat (first | exact CxdG2.out | refine Kd.C_alloc ?_ _ | refine Kd.C_drew ?_))) hxdG2 (by (with_reducible repeat (first | exact Cxdk.out | refine Kd.C_alloc ?_ _ | refine Kd.C_drew ?_))) hxdk).mono ?_
  rintro e w11 ⟨Axdl, cxdl, rfl, hxdl, hC, hb⟩
  have hb2 : Below w.heap.size w _ := below_step (by repeat (first | (with_reducible first | exact Below.refl _ _ | exact HB.out | apply below_alloc | apply below_drew1) | exact Below.refl _ _ | exact HB.out)) hb
  clear HB; have HB := Aside0.mk hb2
  replace Cxdi : Aside0 (Kd.C k42 w11 Axdi (List.length xdi) xdi) := ⟨Kd.C_below (by (with_reducible repeat (first | exact Cxdi.out | refine Kd.C_alloc ?_ _ | refine Kd.C_drew ?_))) hb⟩
  replace Cxda : Aside0 (Kd.C k42 w11 Axda (List.length xda) xda) := ⟨Kd.C_below (by (with_reducible repeat (first | exact Cxda.out | refine Kd.C_alloc ?_ _ | refine Kd.C_drew ?_))) hb⟩
  replace CxdG : Aside0 (Kd.C k42 w11 AxdG (List.length xdG) xdG) := ⟨Kd.C_below (by (with_reducible repeat (first | exact CxdG.out | refine Kd.C_alloc ?_ _ | refine Kd.C_drew ?_))) hb⟩
  replace Cxdj : Aside0 (Kd.C k42 w11 Axdj (List.length xdj) xdj) := ⟨Kd.C_below (by (with_reducible repeat (first | exact Cxdj.out | refine Kd.C_alloc ?_ _ | refine Kd.C_drew ?_))) hb⟩
  replace CxdG2 : Aside0 (Kd.C k42 w11 AxdG2 (List.length xdG) xdG) := ⟨Kd.C_below (by (with_reducible repeat (first | exact CxdG2.out | refine Kd.C_alloc ?_ _ | refine Kd.C_drew ?_))) hb⟩
  replace Cxdk : Aside0 (Kd.C k42 w11 Axdk (List.length xdk) xdk) := ⟨Kd.C_below (by (with_reducible repeat (first | exact Cxdk.out | refine Kd.C_alloc ?_ _ | refine Kd.C_drew ?_))) hb⟩
  have Cxdl := Aside0.mk hC; clear hC
  clear hb hb2
  go_wp2_with fail
  refine (seq_step xdm xdj xdl Axdj cxdj Axdl cxdl _ rfl (by decide) (by (with_reducible repeat (first | exact Cxdj.out | refine Kd.C_alloc ?_ _ | refine Kd.C_drew ?_))) hxdj (by (with_reducible repeat (first | exact Cxdl.out | refine Kd.C_alloc ?_ _ | refine Kd.C_drew ?_))) hxdl).mono ?_
  rintro e w12 ⟨Axdm, cxdm, rfl, hxdm, hC, hb⟩
  have hb2 : Below w.heap.size w _ := below_step (by repeat (first | (with_reducible first | exact Below.refl _ _ | exact HB.out | apply below_alloc | apply below_drew1) | exact Below.refl _ _ | exact HB.out)) hb
  clear HB; have HB := Aside0.mk hb2
  replace Cxdi : Aside0 (Kd.C k42 w12 Axdi (List.length xdi) xdi) := ⟨Kd.C_below (by (with_reducible repeat (first | exact Cxdi.out | refine Kd.C_alloc ?_ _ | refine Kd.C_drew ?_))) hb⟩
  replace Cxda : Aside0 (Kd.C k42 w12 Axda (List.length xda) xda) := ⟨Kd.C_below (by (with_reducible repeat (first | exact Cxda.out | refine Kd.C_alloc ?_ _ | refine Kd.C_drew ?_))) hb⟩
  replace CxdG : Aside0 (Kd.C k42 w12 AxdG (List.length xdG) xdG) := ⟨Kd.C_below (by (with_reducible repeat (first | exact CxdG.out | refine Kd.C_alloc ?_ _ | refine Kd.C_drew ?_))) hb⟩
  replace Cxdj : Aside0 (Kd.C k42 w12 Axdj (List.length xdj) xdj) := ⟨Kd.C_below (by (with_reducible repeat (first | exact Cxdj.out | refine Kd.C_alloc ?_ _ | refine Kd.C_drew ?_))) hb⟩
  replace CxdG2 : Aside0 (Kd.C k42 w12 AxdG2 (List.length xdG) xdG) := ⟨Kd.C_below (by (with_reducible repeat (first | exact CxdG2.out | refine Kd.C_alloc ?_ _ | refine Kd.C_drew ?_))) hb⟩
  replace Cxdk : Aside0 (Kd.C k42 w12 Axdk (List.length xdk) xdk) := ⟨Kd.C_below (by (with_reducible repeat (first | exact Cxdk.out | refine Kd.C_alloc ?_ _ | refine Kd.C_drew ?_))) hb⟩
  replace Cxdl : Aside0 (Kd.C k42 w12 Axdl (List.length xdl) xdl) := ⟨Kd.C_below (by (with_reducible repeat (first | exact Cxdl.out | refine Kd.C_alloc ?_ _ | refine Kd.C_drew ?_))) hb⟩
  have Cxdm := Aside0.mk hC; clear hC
  clear hb hb2
  go_wp2_with fail
  refine (seq_step xdn xdG xdm AxdG cxdG Axdm cxdm _ rfl (by decide) (by (with_reducible repeat (first | exact CxdG.out | refine Kd.C_alloc ?_ _ | refine Kd.C_drew ?_))) hxdG (by (with_reducible repeat (first | exact Cxdm.out | refine Kd.C_alloc ?_ _ | refine Kd.C_drew ?_))) hxdm).mono ?_
  rintro e w13 ⟨Axdn, cxdn, rfl, hxdn, hC, hb⟩
  have hb2 : Below w.heap.size w _ := below_step (by repeat (first | (with_reducible first | exact Below.refl _ _ | exact HB.out | apply below_alloc | apply below_drew1) | exact Below.refl _ _ | exact HB.out)) hb
  clear HB; have HB := Aside0.mk hb2
  replace Cxdi : Aside0 (Kd.C k42 w13 Axdi (List.length xdi) xdi) := ⟨Kd.C_below (by (with_reducible repeat (first | exact Cxdi.out | refine Kd.C_alloc ?_ _ | refine Kd.C_drew ?_))) hb⟩
  replace Cxda : Aside0 (Kd.C k42 w13 Axda (List.length xda) xda) := ⟨Kd.C_below (by (with_reducible repeat (first | exact Cxda.out | refine Kd.C_alloc ?_ _ | refine Kd.C_drew ?_))) hb⟩
  replace CxdG : Aside0 (Kd.C k42 w13 AxdG (List.length xdG) xdG) := ⟨Kd.C_below (by (with_reducible repeat (first | exact CxdG.out | refine Kd.C_alloc ?_ _ | refine Kd.C_drew ?_))) hb⟩
  replace Cxdj : Aside0 (Kd.C k42 w13 Axdj (List.length xdj) xdj) := ⟨Kd.C_below (by (with_reducible repeat (first | exact Cxdj.out | refine Kd.C_alloc ?_ _ | refine Kd.C_drew ?_))) hb⟩
  replace CxdG2 : Aside0 (Kd.C k42 w13 AxdG2 (List.length xdG) xdG) := ⟨Kd.C_below (by (with_reducible repeat (first | exact CxdG2.out | refine Kd.C_alloc ?_ _ | refine Kd.C_drew ?_))) hb⟩
  replace Cxdk : Aside0 (Kd.C k42 w13 Axdk (List.length xdk) xdk) := ⟨Kd.C_below (by (with_reducible repeat (first | exact Cxdk.out | refine Kd.C_alloc ?_ _ | refine Kd.C_drew ?_))) hb⟩
  replace Cxdl : Aside0 (Kd.C k42 w13 Axdl (List.length xdl) xdl) := ⟨Kd.C_below (by (with_reducible repeat (first | exact Cxdl.out | refine Kd.C_alloc ?_ _ | refine Kd.C_drew ?_))) hb⟩
  replace Cxdm : Aside0 (Kd.C k42 w13 Axdm (List.length xdm) xdm) := ⟨Kd.C_below (by (with_reducible repeat (first | exact Cxdm.out | refine Kd.C_alloc ?_ _ | refine Kd.C_drew ?_))) hb⟩
  have Cxdn := Aside0.mk hC; clear hC
  clear hb hb2
  go_wp2_with fail
  refine (seq_step xdo xda xdn Axda cxda Axdn cxdn _ rfl (by decide) (by (with_reducible repeat (first | exact Cxda.out | refine Kd.C_alloc ?_ _ | refine Kd.C_drew ?_))) hxda (by (with_reducible repeat (first | exact Cxdn.out | refine Kd.C_alloc ?_ _ | refine Kd.C_drew ?_))) hxdn).mono ?_
  rintro e w14 ⟨Axdo, cxdo, rfl, hxdo, hC, hb⟩
  have hb2 : Below w.heap.size w _ := below_step (by repeat (first | (with_reducible first | exact Below.refl _ _ | exact HB.out | apply below_alloc | apply below_drew1) | exact Below.refl _ _ | exact HB.out)) hb
  clear HB; have HB := Aside0.mk hb2
  replace Cxdi : Aside0 (Kd.C k42 w14 Axdi (List.length xdi) xdi) := ⟨Kd.C_below (by (with_reducible repeat (first | exact Cxdi.out | refine Kd.C_alloc ?_ _ | refine Kd.C_drew ?_))) hb⟩
  replace Cxda : Aside0 (Kd.C k42 w14 Axda (List.length xda) xda) := ⟨Kd.C_below (by (with_reducible repeat (first | exact Cxda.out | refine Kd.C_alloc ?_ _ | refine Kd.C_drew ?_))) hb⟩
  replace CxdG : Aside0 (Kd.C k42 w14 AxdG (List.length xdG) xdG) := ⟨Kd.C_below (by (with_reducible repeat (first | exact CxdG.out | refine Kd.C_alloc ?_ _ | refine Kd.C_drew ?_))) hb⟩
  replace Cxdj : Aside0 (Kd.C k42 w14 Axdj (List.length xdj) xdj) := ⟨Kd.C_below (by (with_reducible repeat (first | exact Cxdj.out | refine Kd.C_alloc ?_ _ | refine Kd.C_drew ?_))) hb⟩
  replace CxdG2 : Aside0 (Kd.C k42 w14 AxdG2 (List.length xdG) xdG) := ⟨Kd.C_below (by (with_reducible repeat (first | exact CxdG2.out | refine Kd.C_alloc ?_ _ | refine Kd.C_drew ?_))) hb⟩
  replace Cxdk : Aside0 (Kd.C k42 w14 Axdk (List.length xdk) xdk) := ⟨Kd.C_below (by (with_reducible repeat (first | exact Cxdk.out | refine Kd.C_alloc ?_ _ | refine Kd.C_drew ?_))) hb⟩
  replace Cxdl : Aside0 (Kd.C k42 w14 Axdl (List.length xdl) xdl) := ⟨Kd.C_below (by (with_reducible repeat (first | exact Cxdl.out | refine Kd.C_alloc ?_ _ | refine Kd.C_drew ?_))) hb⟩
  replace Cxdm : Aside0 (Kd.C k42 w14 Axdm (List.length xdm) xdm) := ⟨Kd.C_below (by (with_reducible repeat (first | exact Cxdm.out | refine Kd.C_alloc ?_ _ | refine Kd.C_drew ?_))) hb⟩
  replace Cxdn : Aside0 (Kd.C k42 w14 Axdn (List.length xdn) xdn) := ⟨Kd.C_below (by (with_reducible repeat (first | exact Cxdn.out | refine Kd.C_alloc ?_ _ | refine Kd.C_drew ?_))) hb⟩
  have Cxdo := Aside0.mk hC; clear hC
  clear hb hb2
  go_wp2_with fail
  refine (layout_Choices.calls Axdo cxdo xdo 3 [true, false] 0 _ (by (with_reducible repeat (first | exact Cxdo.out | refine Kd.C_alloc ?_ _ | refine Kd.C_drew ?_))) hxdo (by kernel_rfl)).mono ?_
  rintro e w15 ⟨v0, rfl, hR, hb⟩
  have hb2 : Below w.heap.size w _ := below_step (by repeat (first | (with_reducible first | exact Below.refl _ _ | exact HB.out | apply below_alloc | apply below_drew1) | exact Below.refl _ _ | exact HB.out)) hb
  clear HB; have HB := Aside0.mk hb2
  replace Cxdi : Aside0 (Kd.C k42 w15 Axdi (List.length xdi) xdi) := ⟨Kd.C_below (by (with_reducible repeat (first | exact Cxdi.out | refine Kd.C_alloc ?_ _ | refine Kd.C_drew ?_))) hb⟩
  replace Cxda : Aside0 (Kd.C k42 w15 Axda (List.length xda) xda) := ⟨Kd.C_below (by (with_reducible repeat (first | exact Cxda.out | refine Kd.C_alloc ?_ _ | refine Kd.C_drew ?_))) hb⟩
  replace CxdG : Aside0 (Kd.C k42 w15 AxdG (List.length xdG) xdG) := ⟨Kd.C_below (by (with_reducible repeat (first | exact CxdG.out | refine Kd.C_alloc ?_ _ | refine Kd.C_drew ?_))) hb⟩
  replace Cxdj : Aside0 (Kd.C k42 w15 Axdj (List.length xdj) xdj) := ⟨Kd.C_below (by (with_reducible repeat (first | exact Cxdj.out | refine Kd.C_alloc ?_ _ | refine Kd.C_drew ?_))) hb⟩
  replace CxdG2 : Aside0 (Kd.C k42 w15 AxdG2 (List.length xdG) xdG) := ⟨Kd.C_below (by (with_reducible repeat (first | exact CxdG2.out | refine Kd.C_alloc ?_ _ | refine Kd.C_drew ?_))) hb⟩
  replace Cxdk : Aside0 (Kd.C k42 w15 Axdk (List.length xdk) xdk) := ⟨Kd.C_below (by (with_reducible repeat (first | exact Cxdk.out | refine Kd.C_alloc ?_ _ | refine Kd.C_drew ?_))) hb⟩
  replace Cxdl : Aside0 (Kd.C k42 w15 Axdl (List.length xdl) xdl) := ⟨Kd.C_below (by (with_reducible repeat (first | exact Cxdl.out | refine Kd.C_alloc ?_ _ | refine Kd.C_drew ?_))) hb⟩
  replace Cxdm : Aside0 (Kd.C k42 w15 Axdm (List.length xdm) xdm) := ⟨Kd.C_below (by (with_reducible repeat (first | exact Cxdm.out | refine Kd.C_alloc ?_ _ | refine Kd.C_drew ?_))) hb⟩
  replace Cxdn : Aside0 (Kd.C k42 w15 Axdn (List.length xdn) xdn) := ⟨Kd.C_below (by (with_reducible repeat (first | exact Cxdn.out | refine Kd.C_alloc ?_ _ | refine Kd.C_drew ?_))) hb⟩
  replace Cxdo : Aside0 (Kd.C k42 w15 Axdo (List.length xdo) xdo) := ⟨Kd.C_below (by (with_reducible repeat (first | exact Cxdo.out | refine Kd.C_alloc ?_ _ | refine Kd.C_drew ?_))) hb⟩
  obtain ⟨Arow1, crow1, rfl, hrow1, hC⟩ := Kd.R_reads hR
  have Crow1 : Aside0 (Kd.C Kd.bool w15 Arow1 2 [true, false]) := ⟨hC⟩; clear hC
  clear hR hb hb2
  go_wp2_with fail
  refine (layout_Choices.calls Axdo cxdo xdo (-1) [] 1 _ (by (with_reducible repeat (first | exact Cxdo.out | refine Kd.C_alloc ?_ _ | refine Kd.C_drew ?_))) hxdo (by kernel_rfl)).mono ?_
  rintro e w16 ⟨v0, rfl, hR, hb⟩
  have hb2 : Below w.heap.size w _ := below_step (by repeat (first | (with_reducible first | exact Below.refl _ _ | exact HB.out | apply below_alloc | apply below_drew1) | exact Below.refl _ _ | exact HB.out)) hb
  clear HB; have HB := Aside0.mk hb2
  replace Cxdi : Aside0 (Kd.C k42 w16 Axdi (List.length xdi) xdi) := ⟨Kd.C_below (by (with_reducible repeat (first | exact Cxdi.out | refine Kd.C_alloc ?_ _ | refine Kd.C_drew ?_))) hb⟩
  replace Cxda : Aside0 (Kd.C k42 w16 Axda (List.length xda) xda) := ⟨Kd.C_below (by (with_reducible repeat (first | exact Cxda.out | refine Kd.C_alloc ?_ _ | refine Kd.C_drew ?_))) hb⟩
  replace CxdG : Aside0 (Kd.C k42 w16 AxdG (List.length xdG) xdG) := ⟨Kd.C_below (by (with_reducible repeat (first | exact CxdG.out | refine Kd.C_alloc ?_ _ | refine Kd.C_drew ?_))) hb⟩
  replace Cxdj : Aside0 (Kd.C k42 w16 Axdj (List.length xdj) xdj) := ⟨Kd.C_below (by (with_reducible repeat (first | exact Cxdj.out | refine Kd.C_alloc ?_ _ | refine Kd.C_drew ?_))) hb⟩
  replace CxdG2 : Aside0 (Kd.C k42 w16 AxdG2 (List.length xdG) xdG) := ⟨Kd.C_below (by (with_reducible repeat (first | exact CxdG2.out | refine Kd.C_alloc ?_ _ | refine Kd.C_drew ?_))) hb⟩
  replace Cxdk : Aside0 (Kd.C k42 w16 Axdk (List.length xdk) xdk) := ⟨Kd.C_below (by (with_reducible repeat (first | exact Cxdk.out | refine Kd.C_alloc ?_ _ | refine Kd.C_drew ?_))) hb⟩
  replace Cxdl : Aside0 (Kd.C k42 w16 Axdl (List.length xdl) xdl) := ⟨Kd.C_below (by (with_reducible repeat (first | exact Cxdl.out | refine Kd.C_alloc ?_ _ | refine Kd.C_drew ?_))) hb⟩
  replace Cxdm : Aside0 (Kd.C k42 w16 Axdm (List.length xdm) xdm) := ⟨Kd.C_below (by (with_reducible repeat (first | exact Cxdm.out | refine Kd.C_alloc ?_ _ | refine Kd.C_drew ?_))) hb⟩
  replace Cxdn : Aside0 (Kd.C k42 w16 Axdn (List.length xdn) xdn) := ⟨Kd.C_below (by (with_reducible repeat (first | exact Cxdn.out | refine Kd.C_alloc ?_ _ | refine Kd.C_drew ?_))) hb⟩
  replace Cxdo : Aside0 (Kd.C k42 w16 Axdo (List.length xdo) xdo) := ⟨Kd.C_below (by (with_reducible repeat (first | exact Cxdo.out | refine Kd.C_alloc ?_ _ | refine Kd.C_drew ?_))) hb⟩
  replace Crow1 : Aside0 (Kd.C Kd.bool w16 Arow1 2 [true, false]) := ⟨Kd.C_below (by (with_reducible repeat (first | exact Crow1.out | refine Kd.C_alloc ?_ _ | refine Kd.C_drew ?_))) hb⟩
  obtain ⟨Arow2, crow2, rfl, hrow2, hC⟩ := Kd.R_reads hR
  clear hC
  clear hR hb hb2
  go_wp2_with fail
  refine (layout_Choices.calls Axdo cxdo xdo 1001 [] 1 _ (by (with_reducible repeat (first | exact Cxdo.out | refine Kd.C_alloc ?_ _ | refine Kd.C_drew ?_))) hxdo (by kernel_rfl)).mono ?_
  rintro e w17 ⟨v0, rfl, hR, hb⟩
  have hb2 : Below w.heap.size w _ := below_step (by repeat (first | (with_reducible first | exact Below.refl _ _ | exact HB.out | apply below_alloc | apply below_drew1) | exact Below.refl _ _ | exact HB.out)) hb
  clear HB; have HB := Aside0.mk hb2
  replace Cxdi : Aside0 (Kd.C k42 w17 Axdi (List.length xdi) xdi) := ⟨Kd.C_below (by (with_reducible repeat (first | exact Cxdi.out | refine Kd.C_alloc ?_ _ | refine Kd.C_drew ?_))) hb⟩
  replace Cxda : Aside0 (Kd.C k42 w17 Axda (List.length xda) xda) := ⟨Kd.C_below (by (with_reducible repeat (first | exact Cxda.out | refine Kd.C_alloc ?_ _ | refine Kd.C_drew ?_))) hb⟩
  replace CxdG : Aside0 (Kd.C k42 w17 AxdG (List.length xdG) xdG) := ⟨Kd.C_below (by (with_reducible repeat (first | exact CxdG.out | refine Kd.C_alloc ?_ _ | refine Kd.C_drew ?_))) hb⟩
  replace Cxdj : Aside0 (Kd.C k42 w17 Axdj (List.length xdj) xdj) := ⟨Kd.C_below (by (with_reducible repeat (first | exact Cxdj.out | refine Kd.C_alloc ?_ _ | refine Kd.C_drew ?_))) hb⟩
  replace CxdG2 : Aside0 (Kd.C k42 w17 AxdG2 (List.length xdG) xdG) := ⟨Kd.C_below (by (with_reducible repeat (first | exact CxdG2.out | refine Kd.C_alloc ?_ _ | refine Kd.C_drew ?_))) hb⟩
  replace Cxdk : Aside0 (Kd.C k42 w17 Axdk (List.length xdk) xdk) := ⟨Kd.C_below (by (with_reducible repeat (first | exact Cxdk.out | refine Kd.C_alloc ?_ _ | refine Kd.C_drew ?_))) hb⟩
  replace Cxdl : Aside0 (Kd.C k42 w17 Axdl (List.length xdl) xdl) := ⟨Kd.C_below (by (with_reducible repeat (first | exact Cxdl.out | refine Kd.C_alloc ?_ _ | refine Kd.C_drew ?_))) hb⟩
  replace Cxdm : Aside0 (Kd.C k42 w17 Axdm (List.length xdm) xdm) := ⟨Kd.C_below (by (with_reducible repeat (first | exact Cxdm.out | refine Kd.C_alloc ?_ _ | refine Kd.C_drew ?_))) hb⟩
  replace Cxdn : Aside0 (Kd.C k42 w17 Axdn (List.length xdn) xdn) := ⟨Kd.C_below (by (with_reducible repeat (first | exact Cxdn.out | refine Kd.C_alloc ?_ _ | refine Kd.C_drew ?_))) hb⟩
  replace Cxdo : Aside0 (Kd.C k42 w17 Axdo (List.length xdo) xdo) := ⟨Kd.C_below (by (with_reducible repeat (first | exact Cxdo.out | refine Kd.C_alloc ?_ _ | refine Kd.C_drew ?_))) hb⟩
  replace Crow1 : Aside0 (Kd.C Kd.bool w17 Arow1 2 [true, false]) := ⟨Kd.C_below (by (with_reducible repeat (first | exact Crow1.out | refine Kd.C_alloc ?_ _ | refine Kd.C_drew ?_))) hb⟩
  obtain ⟨Arow3, crow3, rfl, hrow3, hC⟩ := Kd.R_reads hR
  clear hC
  clear hR hb hb2
  go_wp2_with fail
  refine (layout_Best.calls (some ⟨w17.heap.size, 0, none⟩) 0 [] 5 ⟨#[]⟩ 0 0 250 _ ⟨rfl, by decide, fun h => absurd h (by decide)⟩ (by decide) (by kernel_rfl)).mono ?_
  rintro e w18 ⟨rfl, hb⟩
  have hb2 : Below w.heap.size w _ := below_step (by repeat (first | (with_reducible first | exact Below.refl _ _ | exact HB.out | apply below_alloc | apply below_drew1) | exact Below.refl _ _ | exact HB.out)) hb
  clear HB; have HB := Aside0.mk hb2
  replace Cxdi : Aside0 (Kd.C k42 w18 Axdi (List.length xdi) xdi) := ⟨Kd.C_below (by (with_reducible repeat (first | exact Cxdi.out | refine Kd.C_alloc ?_ _ | refine Kd.C_drew ?_))) hb⟩
  replace Cxda : Aside0 (Kd.C k42 w18 Axda (List.length xda) xda) := ⟨Kd.C_below (by (with_reducible repeat (first | exact Cxda.out | refine Kd.C_alloc ?_ _ | refine Kd.C_drew ?_))) hb⟩
  replace CxdG : Aside0 (Kd.C k42 w18 AxdG (List.length xdG) xdG) := ⟨Kd.C_below (by (with_reducible repeat (first | exact CxdG.out | refine Kd.C_alloc ?_ _ | refine Kd.C_drew ?_))) hb⟩
  replace Cxdj : Aside0 (Kd.C k42 w18 Axdj (List.length xdj) xdj) := ⟨Kd.C_below (by (with_reducible repeat (first | exact Cxdj.out | refine Kd.C_alloc ?_ _ | refine Kd.C_drew ?_))) hb⟩
  replace CxdG2 : Aside0 (Kd.C k42 w18 AxdG2 (List.length xdG) xdG) := ⟨Kd.C_below (by (with_reducible repeat (first | exact CxdG2.out | refine Kd.C_alloc ?_ _ | refine Kd.C_drew ?_))) hb⟩
  replace Cxdk : Aside0 (Kd.C k42 w18 Axdk (List.length xdk) xdk) := ⟨Kd.C_below (by (with_reducible repeat (first | exact Cxdk.out | refine Kd.C_alloc ?_ _ | refine Kd.C_drew ?_))) hb⟩
  replace Cxdl : Aside0 (Kd.C k42 w18 Axdl (List.length xdl) xdl) := ⟨Kd.C_below (by (with_reducible repeat (first | exact Cxdl.out | refine Kd.C_alloc ?_ _ | refine Kd.C_drew ?_))) hb⟩
  replace Cxdm : Aside0 (Kd.C k42 w18 Axdm (List.length xdm) xdm) := ⟨Kd.C_below (by (with_reducible repeat (first | exact Cxdm.out | refine Kd.C_alloc ?_ _ | refine Kd.C_drew ?_))) hb⟩
  replace Cxdn : Aside0 (Kd.C k42 w18 Axdn (List.length xdn) xdn) := ⟨Kd.C_below (by (with_reducible repeat (first | exact Cxdn.out | refine Kd.C_alloc ?_ _ | refine Kd.C_drew ?_))) hb⟩
  replace Cxdo : Aside0 (Kd.C k42 w18 Axdo (List.length xdo) xdo) := ⟨Kd.C_below (by (with_reducible repeat (first | exact Cxdo.out | refine Kd.C_alloc ?_ _ | refine Kd.C_drew ?_))) hb⟩
  replace Crow1 : Aside0 (Kd.C Kd.bool w18 Arow1 2 [true, false]) := ⟨Kd.C_below (by (with_reducible repeat (first | exact Crow1.out | refine Kd.C_alloc ?_ _ | refine Kd.C_drew ?_))) hb⟩
  clear hb hb2
  go_wp2_with fail
  refine (is_calls Axdo cxdo xdo 3 ⟨#[97, 32, 98, 10, 99]⟩ 0 1 _ (by (with_reducible repeat (first | exact Cxdo.out | refine Kd.C_alloc ?_ _ | refine Kd.C_drew ?_))) hxdo (by kernel_rfl)).mono ?_
  rintro e w19 ⟨rfl, hb⟩
  have hb2 : Below w.heap.size w _ := below_step (by repeat (first | (with_reducible first | exact Below.refl _ _ | exact HB.out | apply below_alloc | apply below_drew1) | exact Below.refl _ _ | exact HB.out)) hb
  clear HB; have HB := Aside0.mk hb2
  replace Cxdi : Aside0 (Kd.C k42 w19 Axdi (List.length xdi) xdi) := ⟨Kd.C_below (by (with_reducible repeat (first | exact Cxdi.out | refine Kd.C_alloc ?_ _ | refine Kd.C_drew ?_))) hb⟩
  replace Cxda : Aside0 (Kd.C k42 w19 Axda (List.length xda) xda) := ⟨Kd.C_below (by (with_reducible repeat (first | exact Cxda.out | refine Kd.C_alloc ?_ _ | refine Kd.C_drew ?_))) hb⟩
  replace CxdG : Aside0 (Kd.C k42 w19 AxdG (List.length xdG) xdG) := ⟨Kd.C_below (by (with_reducible repeat (first | exact CxdG.out | refine Kd.C_alloc ?_ _ | refine Kd.C_drew ?_))) hb⟩
  replace Cxdj : Aside0 (Kd.C k42 w19 Axdj (List.length xdj) xdj) := ⟨Kd.C_below (by (with_reducible repeat (first | exact Cxdj.out | refine Kd.C_alloc ?_ _ | refine Kd.C_drew ?_))) hb⟩
  replace CxdG2 : Aside0 (Kd.C k42 w19 AxdG2 (List.length xdG) xdG) := ⟨Kd.C_below (by (with_reducible repeat (first | exact CxdG2.out | refine Kd.C_alloc ?_ _ | refine Kd.C_drew ?_))) hb⟩
  replace Cxdk : Aside0 (Kd.C k42 w19 Axdk (List.length xdk) xdk) := ⟨Kd.C_below (by (with_reducible repeat (first | exact Cxdk.out | refine Kd.C_alloc ?_ _ | refine Kd.C_drew ?_))) hb⟩
  replace Cxdl : Aside0 (Kd.C k42 w19 Axdl (List.length xdl) xdl) := ⟨Kd.C_below (by (with_reducible repeat (first | exact Cxdl.out | refine Kd.C_alloc ?_ _ | refine Kd.C_drew ?_))) hb⟩
  replace Cxdm : Aside0 (Kd.C k42 w19 Axdm (List.length xdm) xdm) := ⟨Kd.C_below (by (with_reducible repeat (first | exact Cxdm.out | refine Kd.C_alloc ?_ _ | refine Kd.C_drew ?_))) hb⟩
  replace Cxdn : Aside0 (Kd.C k42 w19 Axdn (List.length xdn) xdn) := ⟨Kd.C_below (by (with_reducible repeat (first | exact Cxdn.out | refine Kd.C_alloc ?_ _ | refine Kd.C_drew ?_))) hb⟩
  replace Cxdo : Aside0 (Kd.C k42 w19 Axdo (List.length xdo) xdo) := ⟨Kd.C_below (by (with_reducible repeat (first | exact Cxdo.out | refine Kd.C_alloc ?_ _ | refine Kd.C_drew ?_))) hb⟩
  replace Crow1 : Aside0 (Kd.C Kd.bool w19 Arow1 2 [true, false]) := ⟨Kd.C_below (by (with_reducible repeat (first | exact Crow1.out | refine Kd.C_alloc ?_ _ | refine Kd.C_drew ?_))) hb⟩
  clear hb hb2
  go_wp2_with fail
  have hlb : Kd.C Kd.bool (w19.alloc (.cells #[.bool true, .bool false] 4)) (some ⟨w19.heap.size, 0, none⟩) 2 [true, false] := litb2 w19 true false
  refine (koineref26_SameBools.calls 5 Arow1 crow1 [true, false] (some ⟨w19.heap.size, 0, none⟩) 2 [true, false] true _ (Kd.C_alloc Crow1.out _) hrow1 hlb (by decide) (by kernel_rfl)).mono ?_
  rintro e w20 ⟨rfl, hd⟩
  have hb := hd.below
  clear hd
  have hb2 : Below w.heap.size w _ := below_step (by repeat (first | (with_reducible first | exact Below.refl _ _ | exact HB.out | apply below_alloc | apply below_drew1) | exact Below.refl _ _ | exact HB.out)) hb
  clear HB; have HB := Aside0.mk hb2
  clear hb hb2 hlb
  go_wp2_with fail
  refine (is_calls (some ⟨w20.heap.size, 0, none⟩) 1 [⟨1, ⟨#[120]⟩, 0, 0, 0⟩] 9 ⟨#[10]⟩ 0 1 _ (lit42 w20 ⟨1, ⟨#[120]⟩, 0, 0, 0⟩) (by decide) (by kernel_rfl)).mono ?_
  rintro e w21 ⟨rfl, hb⟩
  have hb2 : Below w.heap.size w _ := below_step (by repeat (first | (with_reducible first | exact Below.refl _ _ | exact HB.out | apply below_alloc | apply below_drew1) | exact Below.refl _ _ | exact HB.out)) hb
  clear HB; have HB := Aside0.mk hb2
  clear hb hb2
  go_wp2_with fail
  go_ret
  exact ⟨rfl, HB.out⟩
def koinelaw26_sanity.f : Option Bool := some true
theorem koinelaw26_sanity.calls (r : Bool) (w : World) (h : koinelaw26_sanity.f = some r) : Calls Try.prog 33 #[] w fun e w' => e = .returned (.bool r) ∧ Below w.heap.size w w' := by
  obtain rfl := Option.some.inj h
  exact sanity26_calls w
end Go.Proofs.Ythmmdmnbcecooaa.A
end

section
namespace Go.Proofs.Ythmmdmnbcecooaa.A
open Go.RowKit Go.Proofs.YthmmdmnbcecooaaW.PrintWords Go.Proofs.YthmmdmnbcecooaaW.PrintLast Go.Proofs.YthmmdmnbcecooaaW.PrintMore
set_option linter.unusedVariables false
set_option linter.unusedSimpArgs false
theorem lbest_f {D : List S42} (hg : Good D) (hf : Fits (E D)) {w : Int} (hw : 0 ≤ w ∧ w ≤ 1000) : layout_Best.f D w = some (⟨(bestT w (E D)).toArray⟩, (bestR w (E D)).b, (bestR w (E D)).l, 0) := by
  unfold layout_Best.f
  rw [if_neg (by simp [(check_zero_iff D).2 hg]), if_neg (by omega), if_pos (show wt (E D) ≤ 1000000000000 ∧ lv (E D) * (wt (E D) + 1) ≤ 140737488355328 from hf)]
theorem lchoices_f {D : List S42} (hg : Good D) (hf : Fits (E D)) {w : Int} (hw : 0 ≤ w ∧ w ≤ 1000) : layout_Choices.f D w = some (bestF w (E D), 0) := by
  unfold layout_Choices.f
  rw [if_neg (by simp [(check_zero_iff D).2 hg]), if_neg (by omega), if_pos (show wt (E D) ≤ 1000000000000 ∧ lv (E D) * (wt (E D) + 1) ≤ 140737488355328 from hf)]
theorem byte_of {x : Int} (h : (Lit.int .u8 x).wf = true) : 0 ≤ x ∧ x ≤ 255 := bytes_of (l := [x]) (fun z hz => by rw [List.mem_singleton.1 hz]; exact h) x (by simp)
theorem ng_good {D : List S42} (hg : Good D) : ng (E D) ≤ 65536 := by
  have hp := hg.pos
  have h2 := groups_le_any hg (D.length - 1) (by omega)
  rw [ng_eq] at h2
  have h3 : ng (E D) = ng (tree D (D.length - 1)) := er_ng _
  omega
end Go.Proofs.Ythmmdmnbcecooaa.A
end

section
namespace Go.Proofs.Ythmmdmnbcecooaa.A
open Go.RowKit Go.Proofs.YthmmdmnbcecooaaW.PrintWords Go.Proofs.YthmmdmnbcecooaaW.PrintLast Go.Proofs.YthmmdmnbcecooaaW.PrintMore
set_option linter.unusedVariables false
set_option linter.unusedSimpArgs false
/-- A document of a law with its tree and its sizes. -/
structure Shp (D : List S42) (t : Doc) (n : Nat) : Prop where
  doc : Doc20 D
  shape : E D = t
  len : D.length ≤ n
  w1 : wt t ≤ 100 * n
  w2 : lv t ≤ n
theorem fits_of2 {t : Doc} {n : Nat} (h1 : wt t ≤ 100 * n) (h2 : lv t ≤ n) (h : n ≤ 10000) : Fits t := by
  refine ⟨by omega, ?_⟩
  have := Nat.mul_le_mul h2 (show wt t + 1 ≤ 100 * n + 1 by omega)
  have := Nat.mul_le_mul h (show 100 * n + 1 ≤ 1000001 by omega)
  omega
theorem Shp.seq {a b : List S42} {s t : Doc} {n m : Nat} (ha : Shp a s n) (hb : Shp b t m) (h : n + m + 1 ≤ 10000) : Shp (seqD a b) (.seq s t) (n + m + 1) := by
  have la := ha.len
  have lb := hb.len
  have e : E (seqD a b) = .seq s t := by rw [E_seq ha.doc.good hb.doc.good (by omega), ha.shape, hb.shape]
  have w1 : wt (.seq s t) ≤ 100 * (n + m + 1) := by have := ha.w1; have := hb.w1; simp only [wt]; omega
  have w2 : lv (.seq s t) ≤ n + m + 1 := by have := ha.w2; have := hb.w2; simp only [lv]; omega
  exact ⟨⟨good_seq ha.doc.good hb.doc.good (by omega), ha.doc.tb.seq hb.doc.tb, by rw [e]; exact fits_of2 w1 w2 h⟩, e, by rw [seqD_length]; omega, w1, w2⟩
theorem Shp.nest {a : List S42} {s : Doc} {n : Nat} (ha : Shp a s n) {k : Int} (hk : 0 ≤ k ∧ k ≤ 100) (h : n + 1 ≤ 10000) : Shp (wrapD 4 k a) (.nest k s) (n + 1) := by
  have la := ha.len
  have e : E (wrapD 4 k a) = .nest k s := by rw [E_nest ha.doc.good (by omega) (by omega), ha.shape]
  have w1 : wt (.nest k s) ≤ 100 * (n + 1) := by have := ha.w1; simp only [wt]; omega
  have w2 : lv (.nest k s) ≤ n + 1 := by have := ha.w2; simp only [lv]; omega
  exact ⟨⟨good_wrap ha.doc.good (by omega) (by omega) (fun h => absurd rfl h) (by omega), ha.doc.tb.wrap _ _, by rw [e]; exact fits_of2 w1 w2 h⟩, e, by rw [wrapD_length]; omega, w1, w2⟩
theorem Shp.text {s : ByteArray} (h1 : s.size ≤ 20) (h2 : Lib.indexByte s.data.toList 10 < 0) : Shp (textD s) (.text s) 1 := by
  have hl := data_length s
  have w1 : wt (.text s) ≤ 100 * 1 := by simp only [wt]; omega
  exact ⟨⟨text_ok h2, Tb.text h1, by rw [E_text]; exact fits_of2 w1 (Nat.le_refl 1) (by omega)⟩, E_text s, Nat.le_refl 1, w1, Nat.le_refl 1⟩
theorem Shp.made {l : List Int} {most : Int} (hb : ∀ x ∈ l, 0 ≤ x ∧ x ≤ 255) (hm : most ≤ 1000) : Shp (madeDoc l most) (E (madeDoc l most)) 2000 := by
  have hs : MadeP (madeDoc l most) := made_shape hb hm
  have hn := (made_good hb hm).2
  exact ⟨made_doc hb hm, rfl, hn, by have := hs.2.2; omega, by have := hs.2.1; omega⟩
theorem Shp.best {D : List S42} {t : Doc} {n : Nat} (h : Shp D t n) {w : Int} (hw : 0 ≤ w ∧ w ≤ 1000) : layout_Best.f D w = some (⟨(bestT w t).toArray⟩, (bestR w t).b, (bestR w t).l, 0) := by
  have := lbest_f h.doc.good h.doc.fits hw
  rw [h.shape] at this
  exact this
theorem Shp.tok {D : List S42} {t : Doc} {n : Nat} (h : Shp D t n) : TOk t := by rw [← h.shape]; exact good_tok h.doc.good
theorem Shp.size {D : List S42} {t : Doc} {n : Nat} (h : Shp D t n) {w : Int} (hw : 0 ≤ w ∧ w ≤ 1000) : (bestT w t).length ≤ n * (100 * n + 1) := by
  have hb := best_of hw.1 h.tok
  have hl := norm_len t _ hb.1
  have h1 := txt_size h.doc.good h.doc.fits (bestF w t) (by rw [h.shape]; exact hl)
  rw [h.shape] at h1
  have h2 := Nat.mul_le_mul h.w2 (show wt t + 1 ≤ 100 * n + 1 by have := h.w1; omega)
  unfold bestT
  omega
theorem Shp.cost {D : List S42} {t : Doc} {n : Nat} (h : Shp D t n) {w : Int} (hw : 0 ≤ w ∧ w ≤ 1000) : 0 ≤ (bestR w t).b ∧ (bestR w t).b ≤ ((bestT w t).length : Nat) ∧ 0 ≤ (bestR w t).l ∧ (bestR w t).l ≤ ((bestT w t).length : Nat) := by
  have hb := best_of hw.1 h.tok
  have h1 := costGo_bounds w hw.1 (bestT w t) 0 (by omega)
  rw [best_cost hw.1 h.tok] at h1
  simp only at h1
  omega
end Go.Proofs.Ythmmdmnbcecooaa.A
end
