/- The contract of sanity of layer 25: it answers true. No condition of its own. -/
import Derived.Test.YthmmdmnbcecooaaK1
import Derived.Test.YthmmdmnbcecooaaC2
namespace Go.Proofs.Ythmmdmnbcecooaa.A
open Go.RowKit Go.Proofs.YthmmdmnbcecooaaW.PrintWords Go.Proofs.YthmmdmnbcecooaaW.PrintLast Go.Proofs.YthmmdmnbcecooaaW.PrintMore
set_option linter.unusedVariables false
set_option linter.unusedSimpArgs false

def sdL : List S42 := [⟨1, ⟨#[]⟩, 0, 0, 0⟩]
def sdH : List S42 := [⟨2, ⟨#[]⟩, 0, 0, 0⟩]
def sd1 : List S42 := textD ⟨#[102, 40]⟩
def sd2 : List S42 := textD ⟨#[97]⟩
def sd3 : List S42 := seqD sdL sd2
def sd4 : List S42 := wrapD 4 2 sd3
def sd5 : List S42 := textD ⟨#[41]⟩
def sd6 : List S42 := seqD sdL sd5
def sd7 : List S42 := seqD sd4 sd6
def sd8 : List S42 := seqD sd1 sd7
def sd9 : List S42 := wrapD 6 0 sd8
def sd10 : List S42 := textD ⟨#[97, 98]⟩
def sd11 : List S42 := textD ⟨#[99]⟩
def sd12 : List S42 := textD ⟨#[100]⟩
def sd13 : List S42 := seqD sdH sd12
def sd14 : List S42 := seqD sd11 sd13
def sd15 : List S42 := wrapD 5 0 sd14
def sd16 : List S42 := seqD sd10 sd15
def sd17 : List S42 := seqD sdH sdH
def sd18 : List S42 := wrapD 4 4 sd17
def sd19 : List S42 := textD ⟨#[120]⟩
def sd20 : List S42 := seqD sd18 sd19
def sd21 : List S42 := wrapD 6 0 sdH

def koinelaw25_sanity.f : Option Bool := some true

set_option maxRecDepth 100000 in
theorem sanity25_calls (w : World) : Calls Try.prog 20 #[] w fun e w' => e = .returned (.bool true) ∧ Below w.heap.size w w' := by
  have HB := Aside0.mk (Below.refl w.heap.size w)
  go_enter Try.func20, Try.ntmps20
  go_wp2_with fail
  have CsdL : Aside0 (Kd.C k42 (w.alloc _) (some ⟨w.heap.size, 0, none⟩) (List.length sdL) sdL) := ⟨lit42 w ⟨1, ⟨#[]⟩, 0, 0, 0⟩⟩
  refine (text_step sd1 ⟨#[102, 40]⟩ _ rfl).mono ?_
  rintro e w1 ⟨Asd1, csd1, rfl, hsd1, hC, hb⟩
  have hb2 : Below w.heap.size w _ := below_step (by repeat (first | (with_reducible first | exact Below.refl _ _ | exact HB.out | apply below_alloc) | exact Below.refl _ _ | exact HB.out)) hb
  clear HB; have HB := Aside0.mk hb2
  replace CsdL : Aside0 (Kd.C k42 w1 (some ⟨w.heap.size, 0, none⟩) (List.length sdL) sdL) := ⟨Kd.C_below (by (with_reducible repeat (first | exact CsdL.out | refine Kd.C_alloc ?_ _))) hb⟩
  have Csd1 := Aside0.mk hC; clear hC
  clear hb hb2
  go_wp2_with fail
  refine (text_step sd2 ⟨#[97]⟩ _ rfl).mono ?_
  rintro e w2 ⟨Asd2, csd2, rfl, hsd2, hC, hb⟩
  have hb2 : Below w.heap.size w _ := below_step (by repeat (first | (with_reducible first | exact Below.refl _ _ | exact HB.out | apply below_alloc) | exact Below.refl _ _ | exact HB.out)) hb
  clear HB; have HB := Aside0.mk hb2
  replace CsdL : Aside0 (Kd.C k42 w2 (some ⟨w.heap.size, 0, none⟩) (List.length sdL) sdL) := ⟨Kd.C_below (by (with_reducible repeat (first | exact CsdL.out | refine Kd.C_alloc ?_ _))) hb⟩
  replace Csd1 : Aside0 (Kd.C k42 w2 Asd1 (List.length sd1) sd1) := ⟨Kd.C_below (by (with_reducible repeat (first | exact Csd1.out | refine Kd.C_alloc ?_ _))) hb⟩
  have Csd2 := Aside0.mk hC; clear hC
  clear hb hb2
  go_wp2_with fail
  refine (seq_step sd3 sdL sd2 (some ⟨w.heap.size, 0, none⟩) 1 Asd2 csd2 _ rfl (by decide) (by (with_reducible repeat (first | exact CsdL.out | refine Kd.C_alloc ?_ _))) (by decide) (by (with_reducible repeat (first | exact Csd2.out | refine Kd.C_alloc ?_ _))) hsd2).mono ?_
  rintro e w3 ⟨Asd3, csd3, rfl, hsd3, hC, hb⟩
  have hb2 : Below w.heap.size w _ := below_step (by repeat (first | (with_reducible first | exact Below.refl _ _ | exact HB.out | apply below_alloc) | exact Below.refl _ _ | exact HB.out)) hb
  clear HB; have HB := Aside0.mk hb2
  replace CsdL : Aside0 (Kd.C k42 w3 (some ⟨w.heap.size, 0, none⟩) (List.length sdL) sdL) := ⟨Kd.C_below (by (with_reducible repeat (first | exact CsdL.out | refine Kd.C_alloc ?_ _))) hb⟩
  replace Csd1 : Aside0 (Kd.C k42 w3 Asd1 (List.length sd1) sd1) := ⟨Kd.C_below (by (with_reducible repeat (first | exact Csd1.out | refine Kd.C_alloc ?_ _))) hb⟩
  replace Csd2 : Aside0 (Kd.C k42 w3 Asd2 (List.length sd2) sd2) := ⟨Kd.C_below (by (with_reducible repeat (first | exact Csd2.out | refine Kd.C_alloc ?_ _))) hb⟩
  have Csd3 := Aside0.mk hC; clear hC
  clear hb hb2
  go_wp2_with fail
  refine (wrap_step sd4 sd3 4 2 Asd3 csd3 _ rfl (by decide) (by (with_reducible repeat (first | exact Csd3.out | refine Kd.C_alloc ?_ _))) hsd3).mono ?_
  rintro e w4 ⟨Asd4, csd4, rfl, hsd4, hC, hb⟩
  have hb2 : Below w.heap.size w _ := below_step (by repeat (first | (with_reducible first | exact Below.refl _ _ | exact HB.out | apply below_alloc) | exact Below.refl _ _ | exact HB.out)) hb
  clear HB; have HB := Aside0.mk hb2
  replace CsdL : Aside0 (Kd.C k42 w4 (some ⟨w.heap.size, 0, none⟩) (List.length sdL) sdL) := ⟨Kd.C_below (by (with_reducible repeat (first | exact CsdL.out | refine Kd.C_alloc ?_ _))) hb⟩
  replace Csd1 : Aside0 (Kd.C k42 w4 Asd1 (List.length sd1) sd1) := ⟨Kd.C_below (by (with_reducible repeat (first | exact Csd1.out | refine Kd.C_alloc ?_ _))) hb⟩
  replace Csd2 : Aside0 (Kd.C k42 w4 Asd2 (List.length sd2) sd2) := ⟨Kd.C_below (by (with_reducible repeat (first | exact Csd2.out | refine Kd.C_alloc ?_ _))) hb⟩
  replace Csd3 : Aside0 (Kd.C k42 w4 Asd3 (List.length sd3) sd3) := ⟨Kd.C_below (by (with_reducible repeat (first | exact Csd3.out | refine Kd.C_alloc ?_ _))) hb⟩
  have Csd4 := Aside0.mk hC; clear hC
  clear hb hb2
  go_wp2_with fail
  refine (text_step sd5 ⟨#[41]⟩ _ rfl).mono ?_
  rintro e w5 ⟨Asd5, csd5, rfl, hsd5, hC, hb⟩
  have hb2 : Below w.heap.size w _ := below_step (by repeat (first | (with_reducible first | exact Below.refl _ _ | exact HB.out | apply below_alloc) | exact Below.refl _ _ | exact HB.out)) hb
  clear HB; have HB := Aside0.mk hb2
  replace CsdL : Aside0 (Kd.C k42 w5 (some ⟨w.heap.size, 0, none⟩) (List.length sdL) sdL) := ⟨Kd.C_below (by (with_reducible repeat (first | exact CsdL.out | refine Kd.C_alloc ?_ _))) hb⟩
  replace Csd1 : Aside0 (Kd.C k42 w5 Asd1 (List.length sd1) sd1) := ⟨Kd.C_below (by (with_reducible repeat (first | exact Csd1.out | refine Kd.C_alloc ?_ _))) hb⟩
  replace Csd2 : Aside0 (Kd.C k42 w5 Asd2 (List.length sd2) sd2) := ⟨Kd.C_below (by (with_reducible repeat (first | exact Csd2.out | refine Kd.C_alloc ?_ _))) hb⟩
  replace Csd3 : Aside0 (Kd.C k42 w5 Asd3 (List.length sd3) sd3) := ⟨Kd.C_below (by (with_reducible repeat (first | exact Csd3.out | refine Kd.C_alloc ?_ _))) hb⟩
  replace Csd4 : Aside0 (Kd.C k42 w5 Asd4 (List.length sd4) sd4) := ⟨Kd.C_below (by (with_reducible repeat (first | exact Csd4.out | refine Kd.C_alloc ?_ _))) hb⟩
  have Csd5 := Aside0.mk hC; clear hC
  clear hb hb2
  go_wp2_with fail
  refine (seq_step sd6 sdL sd5 (some ⟨w.heap.size, 0, none⟩) 1 Asd5 csd5 _ rfl (by decide) (by (with_reducible repeat (first | exact CsdL.out | refine Kd.C_alloc ?_ _))) (by decide) (by (with_reducible repeat (first | exact Csd5.out | refine Kd.C_alloc ?_ _))) hsd5).mono ?_
  rintro e w6 ⟨Asd6, csd6, rfl, hsd6, hC, hb⟩
  have hb2 : Below w.heap.size w _ := below_step (by repeat (first | (with_reducible first | exact Below.refl _ _ | exact HB.out | apply below_alloc) | exact Below.refl _ _ | exact HB.out)) hb
  clear HB; have HB := Aside0.mk hb2
  replace CsdL : Aside0 (Kd.C k42 w6 (some ⟨w.heap.size, 0, none⟩) (List.length sdL) sdL) := ⟨Kd.C_below (by (with_reducible repeat (first | exact CsdL.out | refine Kd.C_alloc ?_ _))) hb⟩
  replace Csd1 : Aside0 (Kd.C k42 w6 Asd1 (List.length sd1) sd1) := ⟨Kd.C_below (by (with_reducible repeat (first | exact Csd1.out | refine Kd.C_alloc ?_ _))) hb⟩
  replace Csd2 : Aside0 (Kd.C k42 w6 Asd2 (List.length sd2) sd2) := ⟨Kd.C_below (by (with_reducible repeat (first | exact Csd2.out | refine Kd.C_alloc ?_ _))) hb⟩
  replace Csd3 : Aside0 (Kd.C k42 w6 Asd3 (List.length sd3) sd3) := ⟨Kd.C_below (by (with_reducible repeat (first | exact Csd3.out | refine Kd.C_alloc ?_ _))) hb⟩
  replace Csd4 : Aside0 (Kd.C k42 w6 Asd4 (List.length sd4) sd4) := ⟨Kd.C_below (by (with_reducible repeat (first | exact Csd4.out | refine Kd.C_alloc ?_ _))) hb⟩
  replace Csd5 : Aside0 (Kd.C k42 w6 Asd5 (List.length sd5) sd5) := ⟨Kd.C_below (by (with_reducible repeat (first | exact Csd5.out | refine Kd.C_alloc ?_ _))) hb⟩
  have Csd6 := Aside0.mk hC; clear hC
  clear hb hb2
  go_wp2_with fail
  refine (seq_step sd7 sd4 sd6 Asd4 csd4 Asd6 csd6 _ rfl (by decide) (by (with_reducible repeat (first | exact Csd4.out | refine Kd.C_alloc ?_ _))) hsd4 (by (with_reducible repeat (first | exact Csd6.out | refine Kd.C_alloc ?_ _))) hsd6).mono ?_
  rintro e w7 ⟨Asd7, csd7, rfl, hsd7, hC, hb⟩
  have hb2 : Below w.heap.size w _ := below_step (by repeat (first | (with_reducible first | exact Below.refl _ _ | exact HB.out | apply below_alloc) | exact Below.refl _ _ | exact HB.out)) hb
  clear HB; have HB := Aside0.mk hb2
  replace CsdL : Aside0 (Kd.C k42 w7 (some ⟨w.heap.size, 0, none⟩) (List.length sdL) sdL) := ⟨Kd.C_below (by (with_reducible repeat (first | exact CsdL.out | refine Kd.C_alloc ?_ _))) hb⟩
  replace Csd1 : Aside0 (Kd.C k42 w7 Asd1 (List.length sd1) sd1) := ⟨Kd.C_below (by (with_reducible repeat (first | exact Csd1.out | refine Kd.C_alloc ?_ _))) hb⟩
  replace Csd2 : Aside0 (Kd.C k42 w7 Asd2 (List.length sd2) sd2) := ⟨Kd.C_below (by (with_reducible repeat (first | exact Csd2.out | refine Kd.C_alloc ?_ _))) hb⟩
  replace Csd3 : Aside0 (Kd.C k42 w7 Asd3 (List.length sd3) sd3) := ⟨Kd.C_below (by (with_reducible repeat (first | exact Csd3.out | refine Kd.C_alloc ?_ _))) hb⟩
  replace Csd4 : Aside0 (Kd.C k42 w7 Asd4 (List.length sd4) sd4) := ⟨Kd.C_below (by (with_reducible repeat (first | exact Csd4.out | refine Kd.C_alloc ?_ _))) hb⟩
  replace Csd5 : Aside0 (Kd.C k42 w7 Asd5 (List.length sd5) sd5) := ⟨Kd.C_below (by (with_reducible repeat (first | exact Csd5.out | refine Kd.C_alloc ?_ _))) hb⟩
  replace Csd6 : Aside0 (Kd.C k42 w7 Asd6 (List.length sd6) sd6) := ⟨Kd.C_below (by (with_reducible repeat (first | exact Csd6.out | refine Kd.C_alloc ?_ _))) hb⟩
  have Csd7 := Aside0.mk hC; clear hC
  clear hb hb2
  go_wp2_with fail
  refine (seq_step sd8 sd1 sd7 Asd1 csd1 Asd7 csd7 _ rfl (by decide) (by (with_reducible repeat (first | exact Csd1.out | refine Kd.C_alloc ?_ _))) hsd1 (by (with_reducible repeat (first | exact Csd7.out | refine Kd.C_alloc ?_ _))) hsd7).mono ?_
  rintro e w8 ⟨Asd8, csd8, rfl, hsd8, hC, hb⟩
  have hb2 : Below w.heap.size w _ := below_step (by repeat (first | (with_reducible first | exact Below.refl _ _ | exact HB.out | apply below_alloc) | exact Below.refl _ _ | exact HB.out)) hb
  clear HB; have HB := Aside0.mk hb2
  replace CsdL : Aside0 (Kd.C k42 w8 (some ⟨w.heap.size, 0, none⟩) (List.length sdL) sdL) := ⟨Kd.C_below (by (with_reducible repeat (first | exact CsdL.out | refine Kd.C_alloc ?_ _))) hb⟩
  replace Csd1 : Aside0 (Kd.C k42 w8 Asd1 (List.length sd1) sd1) := ⟨Kd.C_below (by (with_reducible repeat (first | exact Csd1.out | refine Kd.C_alloc ?_ _))) hb⟩
  replace Csd2 : Aside0 (Kd.C k42 w8 Asd2 (List.length sd2) sd2) := ⟨Kd.C_below (by (with_reducible repeat (first | exact Csd2.out | refine Kd.C_alloc ?_ _))) hb⟩
  replace Csd3 : Aside0 (Kd.C k42 w8 Asd3 (List.length sd3) sd3) := ⟨Kd.C_below (by (with_reducible repeat (first | exact Csd3.out | refine Kd.C_alloc ?_ _))) hb⟩
  replace Csd4 : Aside0 (Kd.C k42 w8 Asd4 (List.length sd4) sd4) := ⟨Kd.C_below (by (with_reducible repeat (first | exact Csd4.out | refine Kd.C_alloc ?_ _))) hb⟩
  replace Csd5 : Aside0 (Kd.C k42 w8 Asd5 (List.length sd5) sd5) := ⟨Kd.C_below (by (with_reducible repeat (first | exact Csd5.out | refine Kd.C_alloc ?_ _))) hb⟩
  replace Csd6 : Aside0 (Kd.C k42 w8 Asd6 (List.length sd6) sd6) := ⟨Kd.C_below (by (with_reducible repeat (first | exact Csd6.out | refine Kd.C_alloc ?_ _))) hb⟩
  replace Csd7 : Aside0 (Kd.C k42 w8 Asd7 (List.length sd7) sd7) := ⟨Kd.C_below (by (with_reducible repeat (first | exact Csd7.out | refine Kd.C_alloc ?_ _))) hb⟩
  have Csd8 := Aside0.mk hC; clear hC
  clear hb hb2
  go_wp2_with fail
  refine (wrap_step sd9 sd8 6 0 Asd8 csd8 _ rfl (by decide) (by (with_reducible repeat (first | exact Csd8.out | refine Kd.C_alloc ?_ _))) hsd8).mono ?_
  rintro e w9 ⟨Asd9, csd9, rfl, hsd9, hC, hb⟩
  have hb2 : Below w.heap.size w _ := below_step (by repeat (first | (with_reducible first | exact Below.refl _ _ | exact HB.out | apply below_alloc) | exact Below.refl _ _ | exact HB.out)) hb
  clear HB; have HB := Aside0.mk hb2
  replace CsdL : Aside0 (Kd.C k42 w9 (some ⟨w.heap.size, 0, none⟩) (List.length sdL) sdL) := ⟨Kd.C_below (by (with_reducible repeat (first | exact CsdL.out | refine Kd.C_alloc ?_ _))) hb⟩
  replace Csd1 : Aside0 (Kd.C k42 w9 Asd1 (List.length sd1) sd1) := ⟨Kd.C_below (by (with_reducible repeat (first | exact Csd1.out | refine Kd.C_alloc ?_ _))) hb⟩
  replace Csd2 : Aside0 (Kd.C k42 w9 Asd2 (List.length sd2) sd2) := ⟨Kd.C_below (by (with_reducible repeat (first | exact Csd2.out | refine Kd.C_alloc ?_ _))) hb⟩
  replace Csd3 : Aside0 (Kd.C k42 w9 Asd3 (List.length sd3) sd3) := ⟨Kd.C_below (by (with_reducible repeat (first | exact Csd3.out | refine Kd.C_alloc ?_ _))) hb⟩
  replace Csd4 : Aside0 (Kd.C k42 w9 Asd4 (List.length sd4) sd4) := ⟨Kd.C_below (by (with_reducible repeat (first | exact Csd4.out | refine Kd.C_alloc ?_ _))) hb⟩
  replace Csd5 : Aside0 (Kd.C k42 w9 Asd5 (List.length sd5) sd5) := ⟨Kd.C_below (by (with_reducible repeat (first | exact Csd5.out | refine Kd.C_alloc ?_ _))) hb⟩
  replace Csd6 : Aside0 (Kd.C k42 w9 Asd6 (List.length sd6) sd6) := ⟨Kd.C_below (by (with_reducible repeat (first | exact Csd6.out | refine Kd.C_alloc ?_ _))) hb⟩
  replace Csd7 : Aside0 (Kd.C k42 w9 Asd7 (List.length sd7) sd7) := ⟨Kd.C_below (by (with_reducible repeat (first | exact Csd7.out | refine Kd.C_alloc ?_ _))) hb⟩
  replace Csd8 : Aside0 (Kd.C k42 w9 Asd8 (List.length sd8) sd8) := ⟨Kd.C_below (by (with_reducible repeat (first | exact Csd8.out | refine Kd.C_alloc ?_ _))) hb⟩
  have Csd9 := Aside0.mk hC; clear hC
  clear hb hb2
  go_wp2_with fail
  refine (document_Render.calls Asd9 csd9 sd9 (some ⟨w9.heap.size, 0, none⟩) 1 [true] ⟨#[102, 40, 97, 41]⟩ 0 _ (by (with_reducible repeat (first | exact Csd9.out | refine Kd.C_alloc ?_ _))) hsd9 (litb _ true) (by decide) (by kernel_rfl)).mono ?_
  rintro e w10 ⟨rfl, hb⟩
  have hb2 : Below w.heap.size w _ := below_step (by repeat (first | (with_reducible first | exact Below.refl _ _ | exact HB.out | apply below_alloc) | exact Below.refl _ _ | exact HB.out)) hb
  clear HB; have HB := Aside0.mk hb2
  replace CsdL : Aside0 (Kd.C k42 w10 (some ⟨w.heap.size, 0, none⟩) (List.length sdL) sdL) := ⟨Kd.C_below (by (with_reducible repeat (first | exact CsdL.out | refine Kd.C_alloc ?_ _))) hb⟩
  replace Csd1 : Aside0 (Kd.C k42 w10 Asd1 (List.length sd1) sd1) := ⟨Kd.C_below (by (with_reducible repeat (first | exact Csd1.out | refine Kd.C_alloc ?_ _))) hb⟩
  replace Csd2 : Aside0 (Kd.C k42 w10 Asd2 (List.length sd2) sd2) := ⟨Kd.C_below (by (with_reducible repeat (first | exact Csd2.out | refine Kd.C_alloc ?_ _))) hb⟩
  replace Csd3 : Aside0 (Kd.C k42 w10 Asd3 (List.length sd3) sd3) := ⟨Kd.C_below (by (with_reducible repeat (first | exact Csd3.out | refine Kd.C_alloc ?_ _))) hb⟩
  replace Csd4 : Aside0 (Kd.C k42 w10 Asd4 (List.length sd4) sd4) := ⟨Kd.C_below (by (with_reducible repeat (first | exact Csd4.out | refine Kd.C_alloc ?_ _))) hb⟩
  replace Csd5 : Aside0 (Kd.C k42 w10 Asd5 (List.length sd5) sd5) := ⟨Kd.C_below (by (with_reducible repeat (first | exact Csd5.out | refine Kd.C_alloc ?_ _))) hb⟩
  replace Csd6 : Aside0 (Kd.C k42 w10 Asd6 (List.length sd6) sd6) := ⟨Kd.C_below (by (with_reducible repeat (first | exact Csd6.out | refine Kd.C_alloc ?_ _))) hb⟩
  replace Csd7 : Aside0 (Kd.C k42 w10 Asd7 (List.length sd7) sd7) := ⟨Kd.C_below (by (with_reducible repeat (first | exact Csd7.out | refine Kd.C_alloc ?_ _))) hb⟩
  replace Csd8 : Aside0 (Kd.C k42 w10 Asd8 (List.length sd8) sd8) := ⟨Kd.C_below (by (with_reducible repeat (first | exact Csd8.out | refine Kd.C_alloc ?_ _))) hb⟩
  replace Csd9 : Aside0 (Kd.C k42 w10 Asd9 (List.length sd9) sd9) := ⟨Kd.C_below (by (with_reducible repeat (first | exact Csd9.out | refine Kd.C_alloc ?_ _))) hb⟩
  clear hb hb2
  go_wp2_with fail
  refine (document_Render.calls Asd9 csd9 sd9 (some ⟨w10.heap.size, 0, none⟩) 1 [false] ⟨#[102, 40, 10, 32, 32, 97, 10, 41]⟩ 0 _ (by (with_reducible repeat (first | exact Csd9.out | refine Kd.C_alloc ?_ _))) hsd9 (litb _ false) (by decide) (by kernel_rfl)).mono ?_
  rintro e w11 ⟨rfl, hb⟩
  have hb2 : Below w.heap.size w _ := below_step (by repeat (first | (with_reducible first | exact Below.refl _ _ | exact HB.out | apply below_alloc) | exact Below.refl _ _ | exact HB.out)) hb
  clear HB; have HB := Aside0.mk hb2
  replace CsdL : Aside0 (Kd.C k42 w11 (some ⟨w.heap.size, 0, none⟩) (List.length sdL) sdL) := ⟨Kd.C_below (by (with_reducible repeat (first | exact CsdL.out | refine Kd.C_alloc ?_ _))) hb⟩
  replace Csd1 : Aside0 (Kd.C k42 w11 Asd1 (List.length sd1) sd1) := ⟨Kd.C_below (by (with_reducible repeat (first | exact Csd1.out | refine Kd.C_alloc ?_ _))) hb⟩
  replace Csd2 : Aside0 (Kd.C k42 w11 Asd2 (List.length sd2) sd2) := ⟨Kd.C_below (by (with_reducible repeat (first | exact Csd2.out | refine Kd.C_alloc ?_ _))) hb⟩
  replace Csd3 : Aside0 (Kd.C k42 w11 Asd3 (List.length sd3) sd3) := ⟨Kd.C_below (by (with_reducible repeat (first | exact Csd3.out | refine Kd.C_alloc ?_ _))) hb⟩
  replace Csd4 : Aside0 (Kd.C k42 w11 Asd4 (List.length sd4) sd4) := ⟨Kd.C_below (by (with_reducible repeat (first | exact Csd4.out | refine Kd.C_alloc ?_ _))) hb⟩
  replace Csd5 : Aside0 (Kd.C k42 w11 Asd5 (List.length sd5) sd5) := ⟨Kd.C_below (by (with_reducible repeat (first | exact Csd5.out | refine Kd.C_alloc ?_ _))) hb⟩
  replace Csd6 : Aside0 (Kd.C k42 w11 Asd6 (List.length sd6) sd6) := ⟨Kd.C_below (by (with_reducible repeat (first | exact Csd6.out | refine Kd.C_alloc ?_ _))) hb⟩
  replace Csd7 : Aside0 (Kd.C k42 w11 Asd7 (List.length sd7) sd7) := ⟨Kd.C_below (by (with_reducible repeat (first | exact Csd7.out | refine Kd.C_alloc ?_ _))) hb⟩
  replace Csd8 : Aside0 (Kd.C k42 w11 Asd8 (List.length sd8) sd8) := ⟨Kd.C_below (by (with_reducible repeat (first | exact Csd8.out | refine Kd.C_alloc ?_ _))) hb⟩
  replace Csd9 : Aside0 (Kd.C k42 w11 Asd9 (List.length sd9) sd9) := ⟨Kd.C_below (by (with_reducible repeat (first | exact Csd9.out | refine Kd.C_alloc ?_ _))) hb⟩
  clear hb hb2
  go_wp2_with fail
  have CsdH : Aside0 (Kd.C k42 (w11.alloc _) (some ⟨w11.heap.size, 0, none⟩) (List.length sdH) sdH) := ⟨lit42 w11 ⟨2, ⟨#[]⟩, 0, 0, 0⟩⟩
  refine (text_step sd10 ⟨#[97, 98]⟩ _ rfl).mono ?_
  rintro e w12 ⟨Asd10, csd10, rfl, hsd10, hC, hb⟩
  have hb2 : Below w.heap.size w _ := below_step (by repeat (first | (with_reducible first | exact Below.refl _ _ | exact HB.out | apply below_alloc) | exact Below.refl _ _ | exact HB.out)) hb
  clear HB; have HB := Aside0.mk hb2
  replace CsdL : Aside0 (Kd.C k42 w12 (some ⟨w.heap.size, 0, none⟩) (List.length sdL) sdL) := ⟨Kd.C_below (by (with_reducible repeat (first | exact CsdL.out | refine Kd.C_alloc ?_ _))) hb⟩
  replace Csd1 : Aside0 (Kd.C k42 w12 Asd1 (List.length sd1) sd1) := ⟨Kd.C_below (by (with_reducible repeat (first | exact Csd1.out | refine Kd.C_alloc ?_ _))) hb⟩
  replace Csd2 : Aside0 (Kd.C k42 w12 Asd2 (List.length sd2) sd2) := ⟨Kd.C_below (by (with_reducible repeat (first | exact Csd2.out | refine Kd.C_alloc ?_ _))) hb⟩
  replace Csd3 : Aside0 (Kd.C k42 w12 Asd3 (List.length sd3) sd3) := ⟨Kd.C_below (by (with_reducible repeat (first | exact Csd3.out | refine Kd.C_alloc ?_ _))) hb⟩
  replace Csd4 : Aside0 (Kd.C k42 w12 Asd4 (List.length sd4) sd4) := ⟨Kd.C_below (by (with_reducible repeat (first | exact Csd4.out | refine Kd.C_alloc ?_ _))) hb⟩
  replace Csd5 : Aside0 (Kd.C k42 w12 Asd5 (List.length sd5) sd5) := ⟨Kd.C_below (by (with_reducible repeat (first | exact Csd5.out | refine Kd.C_alloc ?_ _))) hb⟩
  replace Csd6 : Aside0 (Kd.C k42 w12 Asd6 (List.length sd6) sd6) := ⟨Kd.C_below (by (with_reducible repeat (first | exact Csd6.out | refine Kd.C_alloc ?_ _))) hb⟩
  replace Csd7 : Aside0 (Kd.C k42 w12 Asd7 (List.length sd7) sd7) := ⟨Kd.C_below (by (with_reducible repeat (first | exact Csd7.out | refine Kd.C_alloc ?_ _))) hb⟩
  replace Csd8 : Aside0 (Kd.C k42 w12 Asd8 (List.length sd8) sd8) := ⟨Kd.C_below (by (with_reducible repeat (first | exact Csd8.out | refine Kd.C_alloc ?_ _))) hb⟩
  replace Csd9 : Aside0 (Kd.C k42 w12 Asd9 (List.length sd9) sd9) := ⟨Kd.C_below (by (with_reducible repeat (first | exact Csd9.out | refine Kd.C_alloc ?_ _))) hb⟩
  replace CsdH : Aside0 (Kd.C k42 w12 (some ⟨w11.heap.size, 0, none⟩) (List.length sdH) sdH) := ⟨Kd.C_below (by (with_reducible repeat (first | exact CsdH.out | refine Kd.C_alloc ?_ _))) hb⟩
  have Csd10 := Aside0.mk hC; clear hC
  clear hb hb2
  go_wp2_with fail
  refine (text_step sd11 ⟨#[99]⟩ _ rfl).mono ?_
  rintro e w13 ⟨Asd11, csd11, rfl, hsd11, hC, hb⟩
  have hb2 : Below w.heap.size w _ := below_step (by repeat (first | (with_reducible first | exact Below.refl _ _ | exact HB.out | apply below_alloc) | exact Below.refl _ _ | exact HB.out)) hb
  clear HB; have HB := Aside0.mk hb2
  replace CsdL : Aside0 (Kd.C k42 w13 (some ⟨w.heap.size, 0, none⟩) (List.length sdL) sdL) := ⟨Kd.C_below (by (with_reducible repeat (first | exact CsdL.out | refine Kd.C_alloc ?_ _))) hb⟩
  replace Csd1 : Aside0 (Kd.C k42 w13 Asd1 (List.length sd1) sd1) := ⟨Kd.C_below (by (with_reducible repeat (first | exact Csd1.out | refine Kd.C_alloc ?_ _))) hb⟩
  replace Csd2 : Aside0 (Kd.C k42 w13 Asd2 (List.length sd2) sd2) := ⟨Kd.C_below (by (with_reducible repeat (first | exact Csd2.out | refine Kd.C_alloc ?_ _))) hb⟩
  replace Csd3 : Aside0 (Kd.C k42 w13 Asd3 (List.length sd3) sd3) := ⟨Kd.C_below (by (with_reducible repeat (first | exact Csd3.out | refine Kd.C_alloc ?_ _))) hb⟩
  replace Csd4 : Aside0 (Kd.C k42 w13 Asd4 (List.length sd4) sd4) := ⟨Kd.C_below (by (with_reducible repeat (first | exact Csd4.out | refine Kd.C_alloc ?_ _))) hb⟩
  replace Csd5 : Aside0 (Kd.C k42 w13 Asd5 (List.length sd5) sd5) := ⟨Kd.C_below (by (with_reducible repeat (first | exact Csd5.out | refine Kd.C_alloc ?_ _))) hb⟩
  replace Csd6 : Aside0 (Kd.C k42 w13 Asd6 (List.length sd6) sd6) := ⟨Kd.C_below (by (with_reducible repeat (first | exact Csd6.out | refine Kd.C_alloc ?_ _))) hb⟩
  replace Csd7 : Aside0 (Kd.C k42 w13 Asd7 (List.length sd7) sd7) := ⟨Kd.C_below (by (with_reducible repeat (first | exact Csd7.out | refine Kd.C_alloc ?_ _))) hb⟩
  replace Csd8 : Aside0 (Kd.C k42 w13 Asd8 (List.length sd8) sd8) := ⟨Kd.C_below (by (with_reducible repeat (first | exact Csd8.out | refine Kd.C_alloc ?_ _))) hb⟩
  replace Csd9 : Aside0 (Kd.C k42 w13 Asd9 (List.length sd9) sd9) := ⟨Kd.C_below (by (with_reducible repeat (first | exact Csd9.out | refine Kd.C_alloc ?_ _))) hb⟩
  replace CsdH : Aside0 (Kd.C k42 w13 (some ⟨w11.heap.size, 0, none⟩) (List.length sdH) sdH) := ⟨Kd.C_below (by (with_reducible repeat (first | exact CsdH.out | refine Kd.C_alloc ?_ _))) hb⟩
  replace Csd10 : Aside0 (Kd.C k42 w13 Asd10 (List.length sd10) sd10) := ⟨Kd.C_below (by (with_reducible repeat (first | exact Csd10.out | refine Kd.C_alloc ?_ _))) hb⟩
  have Csd11 := Aside0.mk hC; clear hC
  clear hb hb2
  go_wp2_with fail
  refine (text_step sd12 ⟨#[100]⟩ _ rfl).mono ?_
  rintro e w14 ⟨Asd12, csd12, rfl, hsd12, hC, hb⟩
  have hb2 : Below w.heap.size w _ := below_step (by repeat (first | (with_reducible first | exact Below.refl _ _ | exact HB.out | apply below_alloc) | exact Below.refl _ _ | exact HB.out)) hb
  clear HB; have HB := Aside0.mk hb2
  replace CsdL : Aside0 (Kd.C k42 w14 (some ⟨w.heap.size, 0, none⟩) (List.length sdL) sdL) := ⟨Kd.C_below (by (with_reducible repeat (first | exact CsdL.out | refine Kd.C_alloc ?_ _))) hb⟩
  replace Csd1 : Aside0 (Kd.C k42 w14 Asd1 (List.length sd1) sd1) := ⟨Kd.C_below (by (with_reducible repeat (first | exact Csd1.out | refine Kd.C_alloc ?_ _))) hb⟩
  replace Csd2 : Aside0 (Kd.C k42 w14 Asd2 (List.length sd2) sd2) := ⟨Kd.C_below (by (with_reducible repeat (first | exact Csd2.out | refine Kd.C_alloc ?_ _))) hb⟩
  replace Csd3 : Aside0 (Kd.C k42 w14 Asd3 (List.length sd3) sd3) := ⟨Kd.C_below (by (with_reducible repeat (first | exact Csd3.out | refine Kd.C_alloc ?_ _))) hb⟩
  replace Csd4 : Aside0 (Kd.C k42 w14 Asd4 (List.length sd4) sd4) := ⟨Kd.C_below (by (with_reducible repeat (first | exact Csd4.out | refine Kd.C_alloc ?_ _))) hb⟩
  replace Csd5 : Aside0 (Kd.C k42 w14 Asd5 (List.length sd5) sd5) := ⟨Kd.C_below (by (with_reducible repeat (first | exact Csd5.out | refine Kd.C_alloc ?_ _))) hb⟩
  replace Csd6 : Aside0 (Kd.C k42 w14 Asd6 (List.length sd6) sd6) := ⟨Kd.C_below (by (with_reducible repeat (first | exact Csd6.out | refine Kd.C_alloc ?_ _))) hb⟩
  replace Csd7 : Aside0 (Kd.C k42 w14 Asd7 (List.length sd7) sd7) := ⟨Kd.C_below (by (with_reducible repeat (first | exact Csd7.out | refine Kd.C_alloc ?_ _))) hb⟩
  replace Csd8 : Aside0 (Kd.C k42 w14 Asd8 (List.length sd8) sd8) := ⟨Kd.C_below (by (with_reducible repeat (first | exact Csd8.out | refine Kd.C_alloc ?_ _))) hb⟩
  replace Csd9 : Aside0 (Kd.C k42 w14 Asd9 (List.length sd9) sd9) := ⟨Kd.C_below (by (with_reducible repeat (first | exact Csd9.out | refine Kd.C_alloc ?_ _))) hb⟩
  replace CsdH : Aside0 (Kd.C k42 w14 (some ⟨w11.heap.size, 0, none⟩) (List.length sdH) sdH) := ⟨Kd.C_below (by (with_reducible repeat (first | exact CsdH.out | refine Kd.C_alloc ?_ _))) hb⟩
  replace Csd10 : Aside0 (Kd.C k42 w14 Asd10 (List.length sd10) sd10) := ⟨Kd.C_below (by (with_reducible repeat (first | exact Csd10.out | refine Kd.C_alloc ?_ _))) hb⟩
  replace Csd11 : Aside0 (Kd.C k42 w14 Asd11 (List.length sd11) sd11) := ⟨Kd.C_below (by (with_reducible repeat (first | exact Csd11.out | refine Kd.C_alloc ?_ _))) hb⟩
  have Csd12 := Aside0.mk hC; clear hC
  clear hb hb2
  go_wp2_with fail
  refine (seq_step sd13 sdH sd12 (some ⟨w11.heap.size, 0, none⟩) 1 Asd12 csd12 _ rfl (by decide) (by (with_reducible repeat (first | exact CsdH.out | refine Kd.C_alloc ?_ _))) (by decide) (by (with_reducible repeat (first | exact Csd12.out | refine Kd.C_alloc ?_ _))) hsd12).mono ?_
  rintro e w15 ⟨Asd13, csd13, rfl, hsd13, hC, hb⟩
  have hb2 : Below w.heap.size w _ := below_step (by repeat (first | (with_reducible first | exact Below.refl _ _ | exact HB.out | apply below_alloc) | exact Below.refl _ _ | exact HB.out)) hb
  clear HB; have HB := Aside0.mk hb2
  replace CsdL : Aside0 (Kd.C k42 w15 (some ⟨w.heap.size, 0, none⟩) (List.length sdL) sdL) := ⟨Kd.C_below (by (with_reducible repeat (first | exact CsdL.out | refine Kd.C_alloc ?_ _))) hb⟩
  replace Csd1 : Aside0 (Kd.C k42 w15 Asd1 (List.length sd1) sd1) := ⟨Kd.C_below (by (with_reducible repeat (first | exact Csd1.out | refine Kd.C_alloc ?_ _))) hb⟩
  replace Csd2 : Aside0 (Kd.C k42 w15 Asd2 (List.length sd2) sd2) := ⟨Kd.C_below (by (with_reducible repeat (first | exact Csd2.out | refine Kd.C_alloc ?_ _))) hb⟩
  replace Csd3 : Aside0 (Kd.C k42 w15 Asd3 (List.length sd3) sd3) := ⟨Kd.C_below (by (with_reducible repeat (first | exact Csd3.out | refine Kd.C_alloc ?_ _))) hb⟩
  replace Csd4 : Aside0 (Kd.C k42 w15 Asd4 (List.length sd4) sd4) := ⟨Kd.C_below (by (with_reducible repeat (first | exact Csd4.out | refine Kd.C_alloc ?_ _))) hb⟩
  replace Csd5 : Aside0 (Kd.C k42 w15 Asd5 (List.length sd5) sd5) := ⟨Kd.C_below (by (with_reducible repeat (first | exact Csd5.out | refine Kd.C_alloc ?_ _))) hb⟩
  replace Csd6 : Aside0 (Kd.C k42 w15 Asd6 (List.length sd6) sd6) := ⟨Kd.C_below (by (with_reducible repeat (first | exact Csd6.out | refine Kd.C_alloc ?_ _))) hb⟩
  replace Csd7 : Aside0 (Kd.C k42 w15 Asd7 (List.length sd7) sd7) := ⟨Kd.C_below (by (with_reducible repeat (first | exact Csd7.out | refine Kd.C_alloc ?_ _))) hb⟩
  replace Csd8 : Aside0 (Kd.C k42 w15 Asd8 (List.length sd8) sd8) := ⟨Kd.C_below (by (with_reducible repeat (first | exact Csd8.out | refine Kd.C_alloc ?_ _))) hb⟩
  replace Csd9 : Aside0 (Kd.C k42 w15 Asd9 (List.length sd9) sd9) := ⟨Kd.C_below (by (with_reducible repeat (first | exact Csd9.out | refine Kd.C_alloc ?_ _))) hb⟩
  replace CsdH : Aside0 (Kd.C k42 w15 (some ⟨w11.heap.size, 0, none⟩) (List.length sdH) sdH) := ⟨Kd.C_below (by (with_reducible repeat (first | exact CsdH.out | refine Kd.C_alloc ?_ _))) hb⟩
  replace Csd10 : Aside0 (Kd.C k42 w15 Asd10 (List.length sd10) sd10) := ⟨Kd.C_below (by (with_reducible repeat (first | exact Csd10.out | refine Kd.C_alloc ?_ _))) hb⟩
  replace Csd11 : Aside0 (Kd.C k42 w15 Asd11 (List.length sd11) sd11) := ⟨Kd.C_below (by (with_reducible repeat (first | exact Csd11.out | refine Kd.C_alloc ?_ _))) hb⟩
  replace Csd12 : Aside0 (Kd.C k42 w15 Asd12 (List.length sd12) sd12) := ⟨Kd.C_below (by (with_reducible repeat (first | exact Csd12.out | refine Kd.C_alloc ?_ _))) hb⟩
  have Csd13 := Aside0.mk hC; clear hC
  clear hb hb2
  go_wp2_with fail
  refine (seq_step sd14 sd11 sd13 Asd11 csd11 Asd13 csd13 _ rfl (by decide) (by (with_reducible repeat (first | exact Csd11.out | refine Kd.C_alloc ?_ _))) hsd11 (by (with_reducible repeat (first | exact Csd13.out | refine Kd.C_alloc ?_ _))) hsd13).mono ?_
  rintro e w16 ⟨Asd14, csd14, rfl, hsd14, hC, hb⟩
  have hb2 : Below w.heap.size w _ := below_step (by repeat (first | (with_reducible first | exact Below.refl _ _ | exact HB.out | apply below_alloc) | exact Below.refl _ _ | exact HB.out)) hb
  clear HB; have HB := Aside0.mk hb2
  replace CsdL : Aside0 (Kd.C k42 w16 (some ⟨w.heap.size, 0, none⟩) (List.length sdL) sdL) := ⟨Kd.C_below (by (with_reducible repeat (first | exact CsdL.out | refine Kd.C_alloc ?_ _))) hb⟩
  replace Csd1 : Aside0 (Kd.C k42 w16 Asd1 (List.length sd1) sd1) := ⟨Kd.C_below (by (with_reducible repeat (first | exact Csd1.out | refine Kd.C_alloc ?_ _))) hb⟩
  replace Csd2 : Aside0 (Kd.C k42 w16 Asd2 (List.length sd2) sd2) := ⟨Kd.C_below (by (with_reducible repeat (first | exact Csd2.out | refine Kd.C_alloc ?_ _))) hb⟩
  replace Csd3 : Aside0 (Kd.C k42 w16 Asd3 (List.length sd3) sd3) := ⟨Kd.C_below (by (with_reducible repeat (first | exact Csd3.out | refine Kd.C_alloc ?_ _))) hb⟩
  replace Csd4 : Aside0 (Kd.C k42 w16 Asd4 (List.length sd4) sd4) := ⟨Kd.C_below (by (with_reducible repeat (first | exact Csd4.out | refine Kd.C_alloc ?_ _))) hb⟩
  replace Csd5 : Aside0 (Kd.C k42 w16 Asd5 (List.length sd5) sd5) := ⟨Kd.C_below (by (with_reducible repeat (first | exact Csd5.out | refine Kd.C_alloc ?_ _))) hb⟩
  replace Csd6 : Aside0 (Kd.C k42 w16 Asd6 (List.length sd6) sd6) := ⟨Kd.C_below (by (with_reducible repeat (first | exact Csd6.out | refine Kd.C_alloc ?_ _))) hb⟩
  replace Csd7 : Aside0 (Kd.C k42 w16 Asd7 (List.length sd7) sd7) := ⟨Kd.C_below (by (with_reducible repeat (first | exact Csd7.out | refine Kd.C_alloc ?_ _))) hb⟩
  replace Csd8 : Aside0 (Kd.C k42 w16 Asd8 (List.length sd8) sd8) := ⟨Kd.C_below (by (with_reducible repeat (first | exact Csd8.out | refine Kd.C_alloc ?_ _))) hb⟩
  replace Csd9 : Aside0 (Kd.C k42 w16 Asd9 (List.length sd9) sd9) := ⟨Kd.C_below (by (with_reducible repeat (first | exact Csd9.out | refine Kd.C_alloc ?_ _))) hb⟩
  replace CsdH : Aside0 (Kd.C k42 w16 (some ⟨w11.heap.size, 0, none⟩) (List.length sdH) sdH) := ⟨Kd.C_below (by (with_reducible repeat (first | exact CsdH.out | refine Kd.C_alloc ?_ _))) hb⟩
  replace Csd10 : Aside0 (Kd.C k42 w16 Asd10 (List.length sd10) sd10) := ⟨Kd.C_below (by (with_reducible repeat (first | exact Csd10.out | refine Kd.C_alloc ?_ _))) hb⟩
  replace Csd11 : Aside0 (Kd.C k42 w16 Asd11 (List.length sd11) sd11) := ⟨Kd.C_below (by (with_reducible repeat (first | exact Csd11.out | refine Kd.C_alloc ?_ _))) hb⟩
  replace Csd12 : Aside0 (Kd.C k42 w16 Asd12 (List.length sd12) sd12) := ⟨Kd.C_below (by (with_reducible repeat (first | exact Csd12.out | refine Kd.C_alloc ?_ _))) hb⟩
  replace Csd13 : Aside0 (Kd.C k42 w16 Asd13 (List.length sd13) sd13) := ⟨Kd.C_below (by (with_reducible repeat (first | exact Csd13.out | refine Kd.C_alloc ?_ _))) hb⟩
  have Csd14 := Aside0.mk hC; clear hC
  clear hb hb2
  go_wp2_with fail
  refine (wrap_step sd15 sd14 5 0 Asd14 csd14 _ rfl (by decide) (by (with_reducible repeat (first | exact Csd14.out | refine Kd.C_alloc ?_ _))) hsd14).mono ?_
  rintro e w17 ⟨Asd15, csd15, rfl, hsd15, hC, hb⟩
  have hb2 : Below w.heap.size w _ := below_step (by repeat (first | (with_reducible first | exact Below.refl _ _ | exact HB.out | apply below_alloc) | exact Below.refl _ _ | exact HB.out)) hb
  clear HB; have HB := Aside0.mk hb2
  replace CsdL : Aside0 (Kd.C k42 w17 (some ⟨w.heap.size, 0, none⟩) (List.length sdL) sdL) := ⟨Kd.C_below (by (with_reducible repeat (first | exact CsdL.out | refine Kd.C_alloc ?_ _))) hb⟩
  replace Csd1 : Aside0 (Kd.C k42 w17 Asd1 (List.length sd1) sd1) := ⟨Kd.C_below (by (with_reducible repeat (first | exact Csd1.out | refine Kd.C_alloc ?_ _))) hb⟩
  replace Csd2 : Aside0 (Kd.C k42 w17 Asd2 (List.length sd2) sd2) := ⟨Kd.C_below (by (with_reducible repeat (first | exact Csd2.out | refine Kd.C_alloc ?_ _))) hb⟩
  replace Csd3 : Aside0 (Kd.C k42 w17 Asd3 (List.length sd3) sd3) := ⟨Kd.C_below (by (with_reducible repeat (first | exact Csd3.out | refine Kd.C_alloc ?_ _))) hb⟩
  replace Csd4 : Aside0 (Kd.C k42 w17 Asd4 (List.length sd4) sd4) := ⟨Kd.C_below (by (with_reducible repeat (first | exact Csd4.out | refine Kd.C_alloc ?_ _))) hb⟩
  replace Csd5 : Aside0 (Kd.C k42 w17 Asd5 (List.length sd5) sd5) := ⟨Kd.C_below (by (with_reducible repeat (first | exact Csd5.out | refine Kd.C_alloc ?_ _))) hb⟩
  replace Csd6 : Aside0 (Kd.C k42 w17 Asd6 (List.length sd6) sd6) := ⟨Kd.C_below (by (with_reducible repeat (first | exact Csd6.out | refine Kd.C_alloc ?_ _))) hb⟩
  replace Csd7 : Aside0 (Kd.C k42 w17 Asd7 (List.length sd7) sd7) := ⟨Kd.C_below (by (with_reducible repeat (first | exact Csd7.out | refine Kd.C_alloc ?_ _))) hb⟩
  replace Csd8 : Aside0 (Kd.C k42 w17 Asd8 (List.length sd8) sd8) := ⟨Kd.C_below (by (with_reducible repeat (first | exact Csd8.out | refine Kd.C_alloc ?_ _))) hb⟩
  replace Csd9 : Aside0 (Kd.C k42 w17 Asd9 (List.length sd9) sd9) := ⟨Kd.C_below (by (with_reducible repeat (first | exact Csd9.out | refine Kd.C_alloc ?_ _))) hb⟩
  replace CsdH : Aside0 (Kd.C k42 w17 (some ⟨w11.heap.size, 0, none⟩) (List.length sdH) sdH) := ⟨Kd.C_below (by (with_reducible repeat (first | exact CsdH.out | refine Kd.C_alloc ?_ _))) hb⟩
  replace Csd10 : Aside0 (Kd.C k42 w17 Asd10 (List.length sd10) sd10) := ⟨Kd.C_below (by (with_reducible repeat (first | exact Csd10.out | refine Kd.C_alloc ?_ _))) hb⟩
  replace Csd11 : Aside0 (Kd.C k42 w17 Asd11 (List.length sd11) sd11) := ⟨Kd.C_below (by (with_reducible repeat (first | exact Csd11.out | refine Kd.C_alloc ?_ _))) hb⟩
  replace Csd12 : Aside0 (Kd.C k42 w17 Asd12 (List.length sd12) sd12) := ⟨Kd.C_below (by (with_reducible repeat (first | exact Csd12.out | refine Kd.C_alloc ?_ _))) hb⟩
  replace Csd13 : Aside0 (Kd.C k42 w17 Asd13 (List.length sd13) sd13) := ⟨Kd.C_below (by (with_reducible repeat (first | exact Csd13.out | refine Kd.C_alloc ?_ _))) hb⟩
  replace Csd14 : Aside0 (Kd.C k42 w17 Asd14 (List.length sd14) sd14) := ⟨Kd.C_below (by (with_reducible repeat (first | exact Csd14.out | refine Kd.C_alloc ?_ _))) hb⟩
  have Csd15 := Aside0.mk hC; clear hC
  clear hb hb2
  go_wp2_with fail
  refine (seq_step sd16 sd10 sd15 Asd10 csd10 Asd15 csd15 _ rfl (by decide) (by (with_reducible repeat (first | exact Csd10.out | refine Kd.C_alloc ?_ _))) hsd10 (by (with_reducible repeat (first | exact Csd15.out | refine Kd.C_alloc ?_ _))) hsd15).mono ?_
  rintro e w18 ⟨Asd16, csd16, rfl, hsd16, hC, hb⟩
  have hb2 : Below w.heap.size w _ := below_step (by repeat (first | (with_reducible first | exact Below.refl _ _ | exact HB.out | apply below_alloc) | exact Below.refl _ _ | exact HB.out)) hb
  clear HB; have HB := Aside0.mk hb2
  replace CsdL : Aside0 (Kd.C k42 w18 (some ⟨w.heap.size, 0, none⟩) (List.length sdL) sdL) := ⟨Kd.C_below (by (with_reducible repeat (first | exact CsdL.out | refine Kd.C_alloc ?_ _))) hb⟩
  replace Csd1 : Aside0 (Kd.C k42 w18 Asd1 (List.length sd1) sd1) := ⟨Kd.C_below (by (with_reducible repeat (first | exact Csd1.out | refine Kd.C_alloc ?_ _))) hb⟩
  replace Csd2 : Aside0 (Kd.C k42 w18 Asd2 (List.length sd2) sd2) := ⟨Kd.C_below (by (with_reducible repeat (first | exact Csd2.out | refine Kd.C_alloc ?_ _))) hb⟩
  replace Csd3 : Aside0 (Kd.C k42 w18 Asd3 (List.length sd3) sd3) := ⟨Kd.C_below (by (with_reducible repeat (first | exact Csd3.out | refine Kd.C_alloc ?_ _))) hb⟩
  replace Csd4 : Aside0 (Kd.C k42 w18 Asd4 (List.length sd4) sd4) := ⟨Kd.C_below (by (with_reducible repeat (first | exact Csd4.out | refine Kd.C_alloc ?_ _))) hb⟩
  replace Csd5 : Aside0 (Kd.C k42 w18 Asd5 (List.length sd5) sd5) := ⟨Kd.C_below (by (with_reducible repeat (first | exact Csd5.out | refine Kd.C_alloc ?_ _))) hb⟩
  replace Csd6 : Aside0 (Kd.C k42 w18 Asd6 (List.length sd6) sd6) := ⟨Kd.C_below (by (with_reducible repeat (first | exact Csd6.out | refine Kd.C_alloc ?_ _))) hb⟩
  replace Csd7 : Aside0 (Kd.C k42 w18 Asd7 (List.length sd7) sd7) := ⟨Kd.C_below (by (with_reducible repeat (first | exact Csd7.out | refine Kd.C_alloc ?_ _))) hb⟩
  replace Csd8 : Aside0 (Kd.C k42 w18 Asd8 (List.length sd8) sd8) := ⟨Kd.C_below (by (with_reducible repeat (first | exact Csd8.out | refine Kd.C_alloc ?_ _))) hb⟩
  replace Csd9 : Aside0 (Kd.C k42 w18 Asd9 (List.length sd9) sd9) := ⟨Kd.C_below (by (with_reducible repeat (first | exact Csd9.out | refine Kd.C_alloc ?_ _))) hb⟩
  replace CsdH : Aside0 (Kd.C k42 w18 (some ⟨w11.heap.size, 0, none⟩) (List.length sdH) sdH) := ⟨Kd.C_below (by (with_reducible repeat (first | exact CsdH.out | refine Kd.C_alloc ?_ _))) hb⟩
  replace Csd10 : Aside0 (Kd.C k42 w18 Asd10 (List.length sd10) sd10) := ⟨Kd.C_below (by (with_reducible repeat (first | exact Csd10.out | refine Kd.C_alloc ?_ _))) hb⟩
  replace Csd11 : Aside0 (Kd.C k42 w18 Asd11 (List.length sd11) sd11) := ⟨Kd.C_below (by (with_reducible repeat (first | exact Csd11.out | refine Kd.C_alloc ?_ _))) hb⟩
  replace Csd12 : Aside0 (Kd.C k42 w18 Asd12 (List.length sd12) sd12) := ⟨Kd.C_below (by (with_reducible repeat (first | exact Csd12.out | refine Kd.C_alloc ?_ _))) hb⟩
  replace Csd13 : Aside0 (Kd.C k42 w18 Asd13 (List.length sd13) sd13) := ⟨Kd.C_below (by (with_reducible repeat (first | exact Csd13.out | refine Kd.C_alloc ?_ _))) hb⟩
  replace Csd14 : Aside0 (Kd.C k42 w18 Asd14 (List.length sd14) sd14) := ⟨Kd.C_below (by (with_reducible repeat (first | exact Csd14.out | refine Kd.C_alloc ?_ _))) hb⟩
  replace Csd15 : Aside0 (Kd.C k42 w18 Asd15 (List.length sd15) sd15) := ⟨Kd.C_below (by (with_reducible repeat (first | exact Csd15.out | refine Kd.C_alloc ?_ _))) hb⟩
  have Csd16 := Aside0.mk hC; clear hC
  clear hb hb2
  go_wp2_with fail
  refine (document_Render.calls Asd16 csd16 sd16 none 0 [] ⟨#[97, 98, 99, 10, 32, 32, 100]⟩ 0 _ (by (with_reducible repeat (first | exact Csd16.out | refine Kd.C_alloc ?_ _))) hsd16 (Kd.C_nil _ _) (by decide) (by kernel_rfl)).mono ?_
  rintro e w19 ⟨rfl, hb⟩
  have hb2 : Below w.heap.size w _ := below_step (by repeat (first | (with_reducible first | exact Below.refl _ _ | exact HB.out | apply below_alloc) | exact Below.refl _ _ | exact HB.out)) hb
  clear HB; have HB := Aside0.mk hb2
  replace CsdL : Aside0 (Kd.C k42 w19 (some ⟨w.heap.size, 0, none⟩) (List.length sdL) sdL) := ⟨Kd.C_below (by (with_reducible repeat (first | exact CsdL.out | refine Kd.C_alloc ?_ _))) hb⟩
  replace Csd1 : Aside0 (Kd.C k42 w19 Asd1 (List.length sd1) sd1) := ⟨Kd.C_below (by (with_reducible repeat (first | exact Csd1.out | refine Kd.C_alloc ?_ _))) hb⟩
  replace Csd2 : Aside0 (Kd.C k42 w19 Asd2 (List.length sd2) sd2) := ⟨Kd.C_below (by (with_reducible repeat (first | exact Csd2.out | refine Kd.C_alloc ?_ _))) hb⟩
  replace Csd3 : Aside0 (Kd.C k42 w19 Asd3 (List.length sd3) sd3) := ⟨Kd.C_below (by (with_reducible repeat (first | exact Csd3.out | refine Kd.C_alloc ?_ _))) hb⟩
  replace Csd4 : Aside0 (Kd.C k42 w19 Asd4 (List.length sd4) sd4) := ⟨Kd.C_below (by (with_reducible repeat (first | exact Csd4.out | refine Kd.C_alloc ?_ _))) hb⟩
  replace Csd5 : Aside0 (Kd.C k42 w19 Asd5 (List.length sd5) sd5) := ⟨Kd.C_below (by (with_reducible repeat (first | exact Csd5.out | refine Kd.C_alloc ?_ _))) hb⟩
  replace Csd6 : Aside0 (Kd.C k42 w19 Asd6 (List.length sd6) sd6) := ⟨Kd.C_below (by (with_reducible repeat (first | exact Csd6.out | refine Kd.C_alloc ?_ _))) hb⟩
  replace Csd7 : Aside0 (Kd.C k42 w19 Asd7 (List.length sd7) sd7) := ⟨Kd.C_below (by (with_reducible repeat (first | exact Csd7.out | refine Kd.C_alloc ?_ _))) hb⟩
  replace Csd8 : Aside0 (Kd.C k42 w19 Asd8 (List.length sd8) sd8) := ⟨Kd.C_below (by (with_reducible repeat (first | exact Csd8.out | refine Kd.C_alloc ?_ _))) hb⟩
  replace Csd9 : Aside0 (Kd.C k42 w19 Asd9 (List.length sd9) sd9) := ⟨Kd.C_below (by (with_reducible repeat (first | exact Csd9.out | refine Kd.C_alloc ?_ _))) hb⟩
  replace CsdH : Aside0 (Kd.C k42 w19 (some ⟨w11.heap.size, 0, none⟩) (List.length sdH) sdH) := ⟨Kd.C_below (by (with_reducible repeat (first | exact CsdH.out | refine Kd.C_alloc ?_ _))) hb⟩
  replace Csd10 : Aside0 (Kd.C k42 w19 Asd10 (List.length sd10) sd10) := ⟨Kd.C_below (by (with_reducible repeat (first | exact Csd10.out | refine Kd.C_alloc ?_ _))) hb⟩
  replace Csd11 : Aside0 (Kd.C k42 w19 Asd11 (List.length sd11) sd11) := ⟨Kd.C_below (by (with_reducible repeat (first | exact Csd11.out | refine Kd.C_alloc ?_ _))) hb⟩
  replace Csd12 : Aside0 (Kd.C k42 w19 Asd12 (List.length sd12) sd12) := ⟨Kd.C_below (by (with_reducible repeat (first | exact Csd12.out | refine Kd.C_alloc ?_ _))) hb⟩
  replace Csd13 : Aside0 (Kd.C k42 w19 Asd13 (List.length sd13) sd13) := ⟨Kd.C_below (by (with_reducible repeat (first | exact Csd13.out | refine Kd.C_alloc ?_ _))) hb⟩
  replace Csd14 : Aside0 (Kd.C k42 w19 Asd14 (List.length sd14) sd14) := ⟨Kd.C_below (by (with_reducible repeat (first | exact Csd14.out | refine Kd.C_alloc ?_ _))) hb⟩
  replace Csd15 : Aside0 (Kd.C k42 w19 Asd15 (List.length sd15) sd15) := ⟨Kd.C_below (by (with_reducible repeat (first | exact Csd15.out | refine Kd.C_alloc ?_ _))) hb⟩
  replace Csd16 : Aside0 (Kd.C k42 w19 Asd16 (List.length sd16) sd16) := ⟨Kd.C_below (by (with_reducible repeat (first | exact Csd16.out | refine Kd.C_alloc ?_ _))) hb⟩
  clear hb hb2
  go_wp2_with fail
  refine (seq_step sd17 sdH sdH (some ⟨w11.heap.size, 0, none⟩) 1 (some ⟨w11.heap.size, 0, none⟩) 1 _ rfl (by decide) (by (with_reducible repeat (first | exact CsdH.out | refine Kd.C_alloc ?_ _))) (by decide) (by (with_reducible repeat (first | exact CsdH.out | refine Kd.C_alloc ?_ _))) (by decide)).mono ?_
  rintro e w20 ⟨Asd17, csd17, rfl, hsd17, hC, hb⟩
  have hb2 : Below w.heap.size w _ := below_step (by repeat (first | (with_reducible first | exact Below.refl _ _ | exact HB.out | apply below_alloc) | exact Below.refl _ _ | exact HB.out)) hb
  clear HB; have HB := Aside0.mk hb2
  replace CsdL : Aside0 (Kd.C k42 w20 (some ⟨w.heap.size, 0, none⟩) (List.length sdL) sdL) := ⟨Kd.C_below (by (with_reducible repeat (first | exact CsdL.out | refine Kd.C_alloc ?_ _))) hb⟩
  replace Csd1 : Aside0 (Kd.C k42 w20 Asd1 (List.length sd1) sd1) := ⟨Kd.C_below (by (with_reducible repeat (first | exact Csd1.out | refine Kd.C_alloc ?_ _))) hb⟩
  replace Csd2 : Aside0 (Kd.C k42 w20 Asd2 (List.length sd2) sd2) := ⟨Kd.C_below (by (with_reducible repeat (first | exact Csd2.out | refine Kd.C_alloc ?_ _))) hb⟩
  replace Csd3 : Aside0 (Kd.C k42 w20 Asd3 (List.length sd3) sd3) := ⟨Kd.C_below (by (with_reducible repeat (first | exact Csd3.out | refine Kd.C_alloc ?_ _))) hb⟩
  replace Csd4 : Aside0 (Kd.C k42 w20 Asd4 (List.length sd4) sd4) := ⟨Kd.C_below (by (with_reducible repeat (first | exact Csd4.out | refine Kd.C_alloc ?_ _))) hb⟩
  replace Csd5 : Aside0 (Kd.C k42 w20 Asd5 (List.length sd5) sd5) := ⟨Kd.C_below (by (with_reducible repeat (first | exact Csd5.out | refine Kd.C_alloc ?_ _))) hb⟩
  replace Csd6 : Aside0 (Kd.C k42 w20 Asd6 (List.length sd6) sd6) := ⟨Kd.C_below (by (with_reducible repeat (first | exact Csd6.out | refine Kd.C_alloc ?_ _))) hb⟩
  replace Csd7 : Aside0 (Kd.C k42 w20 Asd7 (List.length sd7) sd7) := ⟨Kd.C_below (by (with_reducible repeat (first | exact Csd7.out | refine Kd.C_alloc ?_ _))) hb⟩
  replace Csd8 : Aside0 (Kd.C k42 w20 Asd8 (List.length sd8) sd8) := ⟨Kd.C_below (by (with_reducible repeat (first | exact Csd8.out | refine Kd.C_alloc ?_ _))) hb⟩
  replace Csd9 : Aside0 (Kd.C k42 w20 Asd9 (List.length sd9) sd9) := ⟨Kd.C_below (by (with_reducible repeat (first | exact Csd9.out | refine Kd.C_alloc ?_ _))) hb⟩
  replace CsdH : Aside0 (Kd.C k42 w20 (some ⟨w11.heap.size, 0, none⟩) (List.length sdH) sdH) := ⟨Kd.C_below (by (with_reducible repeat (first | exact CsdH.out | refine Kd.C_alloc ?_ _))) hb⟩
  replace Csd10 : Aside0 (Kd.C k42 w20 Asd10 (List.length sd10) sd10) := ⟨Kd.C_below (by (with_reducible repeat (first | exact Csd10.out | refine Kd.C_alloc ?_ _))) hb⟩
  replace Csd11 : Aside0 (Kd.C k42 w20 Asd11 (List.length sd11) sd11) := ⟨Kd.C_below (by (with_reducible repeat (first | exact Csd11.out | refine Kd.C_alloc ?_ _))) hb⟩
  replace Csd12 : Aside0 (Kd.C k42 w20 Asd12 (List.length sd12) sd12) := ⟨Kd.C_below (by (with_reducible repeat (first | exact Csd12.out | refine Kd.C_alloc ?_ _))) hb⟩
  replace Csd13 : Aside0 (Kd.C k42 w20 Asd13 (List.length sd13) sd13) := ⟨Kd.C_below (by (with_reducible repeat (first | exact Csd13.out | refine Kd.C_alloc ?_ _))) hb⟩
  replace Csd14 : Aside0 (Kd.C k42 w20 Asd14 (List.length sd14) sd14) := ⟨Kd.C_below (by (with_reducible repeat (first | exact Csd14.out | refine Kd.C_alloc ?_ _))) hb⟩
  replace Csd15 : Aside0 (Kd.C k42 w20 Asd15 (List.length sd15) sd15) := ⟨Kd.C_below (by (with_reducible repeat (first | exact Csd15.out | refine Kd.C_alloc ?_ _))) hb⟩
  replace Csd16 : Aside0 (Kd.C k42 w20 Asd16 (List.length sd16) sd16) := ⟨Kd.C_below (by (with_reducible repeat (first | exact Csd16.out | refine Kd.C_alloc ?_ _))) hb⟩
  have Csd17 := Aside0.mk hC; clear hC
  clear hb hb2
  go_wp2_with fail
  refine (wrap_step sd18 sd17 4 4 Asd17 csd17 _ rfl (by decide) (by (with_reducible repeat (first | exact Csd17.out | refine Kd.C_alloc ?_ _))) hsd17).mono ?_
  rintro e w21 ⟨Asd18, csd18, rfl, hsd18, hC, hb⟩
  have hb2 : Below w.heap.size w _ := below_step (by repeat (first | (with_reducible first | exact Below.refl _ _ | exact HB.out | apply below_alloc) | exact Below.refl _ _ | exact HB.out)) hb
  clear HB; have HB := Aside0.mk hb2
  replace CsdL : Aside0 (Kd.C k42 w21 (some ⟨w.heap.size, 0, none⟩) (List.length sdL) sdL) := ⟨Kd.C_below (by (with_reducible repeat (first | exact CsdL.out | refine Kd.C_alloc ?_ _))) hb⟩
  replace Csd1 : Aside0 (Kd.C k42 w21 Asd1 (List.length sd1) sd1) := ⟨Kd.C_below (by (with_reducible repeat (first | exact Csd1.out | refine Kd.C_alloc ?_ _))) hb⟩
  replace Csd2 : Aside0 (Kd.C k42 w21 Asd2 (List.length sd2) sd2) := ⟨Kd.C_below (by (with_reducible repeat (first | exact Csd2.out | refine Kd.C_alloc ?_ _))) hb⟩
  replace Csd3 : Aside0 (Kd.C k42 w21 Asd3 (List.length sd3) sd3) := ⟨Kd.C_below (by (with_reducible repeat (first | exact Csd3.out | refine Kd.C_alloc ?_ _))) hb⟩
  replace Csd4 : Aside0 (Kd.C k42 w21 Asd4 (List.length sd4) sd4) := ⟨Kd.C_below (by (with_reducible repeat (first | exact Csd4.out | refine Kd.C_alloc ?_ _))) hb⟩
  replace Csd5 : Aside0 (Kd.C k42 w21 Asd5 (List.length sd5) sd5) := ⟨Kd.C_below (by (with_reducible repeat (first | exact Csd5.out | refine Kd.C_alloc ?_ _))) hb⟩
  replace Csd6 : Aside0 (Kd.C k42 w21 Asd6 (List.length sd6) sd6) := ⟨Kd.C_below (by (with_reducible repeat (first | exact Csd6.out | refine Kd.C_alloc ?_ _))) hb⟩
  replace Csd7 : Aside0 (Kd.C k42 w21 Asd7 (List.length sd7) sd7) := ⟨Kd.C_below (by (with_reducible repeat (first | exact Csd7.out | refine Kd.C_alloc ?_ _))) hb⟩
  replace Csd8 : Aside0 (Kd.C k42 w21 Asd8 (List.length sd8) sd8) := ⟨Kd.C_below (by (with_reducible repeat (first | exact Csd8.out | refine Kd.C_alloc ?_ _))) hb⟩
  replace Csd9 : Aside0 (Kd.C k42 w21 Asd9 (List.length sd9) sd9) := ⟨Kd.C_below (by (with_reducible repeat (first | exact Csd9.out | refine Kd.C_alloc ?_ _))) hb⟩
  replace CsdH : Aside0 (Kd.C k42 w21 (some ⟨w11.heap.size, 0, none⟩) (List.length sdH) sdH) := ⟨Kd.C_below (by (with_reducible repeat (first | exact CsdH.out | refine Kd.C_alloc ?_ _))) hb⟩
  replace Csd10 : Aside0 (Kd.C k42 w21 Asd10 (List.length sd10) sd10) := ⟨Kd.C_below (by (with_reducible repeat (first | exact Csd10.out | refine Kd.C_alloc ?_ _))) hb⟩
  replace Csd11 : Aside0 (Kd.C k42 w21 Asd11 (List.length sd11) sd11) := ⟨Kd.C_below (by (with_reducible repeat (first | exact Csd11.out | refine Kd.C_alloc ?_ _))) hb⟩
  replace Csd12 : Aside0 (Kd.C k42 w21 Asd12 (List.length sd12) sd12) := ⟨Kd.C_below (by (with_reducible repeat (first | exact Csd12.out | refine Kd.C_alloc ?_ _))) hb⟩
  replace Csd13 : Aside0 (Kd.C k42 w21 Asd13 (List.length sd13) sd13) := ⟨Kd.C_below (by (with_reducible repeat (first | exact Csd13.out | refine Kd.C_alloc ?_ _))) hb⟩
  replace Csd14 : Aside0 (Kd.C k42 w21 Asd14 (List.length sd14) sd14) := ⟨Kd.C_below (by (with_reducible repeat (first | exact Csd14.out | refine Kd.C_alloc ?_ _))) hb⟩
  replace Csd15 : Aside0 (Kd.C k42 w21 Asd15 (List.length sd15) sd15) := ⟨Kd.C_below (by (with_reducible repeat (first | exact Csd15.out | refine Kd.C_alloc ?_ _))) hb⟩
  replace Csd16 : Aside0 (Kd.C k42 w21 Asd16 (List.length sd16) sd16) := ⟨Kd.C_below (by (with_reducible repeat (first | exact Csd16.out | refine Kd.C_alloc ?_ _))) hb⟩
  replace Csd17 : Aside0 (Kd.C k42 w21 Asd17 (List.length sd17) sd17) := ⟨Kd.C_below (by (with_reducible repeat (first | exact Csd17.out | refine Kd.C_alloc ?_ _))) hb⟩
  have Csd18 := Aside0.mk hC; clear hC
  clear hb hb2
  go_wp2_with fail
  refine (text_step sd19 ⟨#[120]⟩ _ rfl).mono ?_
  rintro e w22 ⟨Asd19, csd19, rfl, hsd19, hC, hb⟩
  have hb2 : Below w.heap.size w _ := below_step (by repeat (first | (with_reducible first | exact Below.refl _ _ | exact HB.out | apply below_alloc) | exact Below.refl _ _ | exact HB.out)) hb
  clear HB; have HB := Aside0.mk hb2
  replace CsdL : Aside0 (Kd.C k42 w22 (some ⟨w.heap.size, 0, none⟩) (List.length sdL) sdL) := ⟨Kd.C_below (by (with_reducible repeat (first | exact CsdL.out | refine Kd.C_alloc ?_ _))) hb⟩
  replace Csd1 : Aside0 (Kd.C k42 w22 Asd1 (List.length sd1) sd1) := ⟨Kd.C_below (by (with_reducible repeat (first | exact Csd1.out | refine Kd.C_alloc ?_ _))) hb⟩
  replace Csd2 : Aside0 (Kd.C k42 w22 Asd2 (List.length sd2) sd2) := ⟨Kd.C_below (by (with_reducible repeat (first | exact Csd2.out | refine Kd.C_alloc ?_ _))) hb⟩
  replace Csd3 : Aside0 (Kd.C k42 w22 Asd3 (List.length sd3) sd3) := ⟨Kd.C_below (by (with_reducible repeat (first | exact Csd3.out | refine Kd.C_alloc ?_ _))) hb⟩
  replace Csd4 : Aside0 (Kd.C k42 w22 Asd4 (List.length sd4) sd4) := ⟨Kd.C_below (by (with_reducible repeat (first | exact Csd4.out | refine Kd.C_alloc ?_ _))) hb⟩
  replace Csd5 : Aside0 (Kd.C k42 w22 Asd5 (List.length sd5) sd5) := ⟨Kd.C_below (by (with_reducible repeat (first | exact Csd5.out | refine Kd.C_alloc ?_ _))) hb⟩
  replace Csd6 : Aside0 (Kd.C k42 w22 Asd6 (List.length sd6) sd6) := ⟨Kd.C_below (by (with_reducible repeat (first | exact Csd6.out | refine Kd.C_alloc ?_ _))) hb⟩
  replace Csd7 : Aside0 (Kd.C k42 w22 Asd7 (List.length sd7) sd7) := ⟨Kd.C_below (by (with_reducible repeat (first | exact Csd7.out | refine Kd.C_alloc ?_ _))) hb⟩
  replace Csd8 : Aside0 (Kd.C k42 w22 Asd8 (List.length sd8) sd8) := ⟨Kd.C_below (by (with_reducible repeat (first | exact Csd8.out | refine Kd.C_alloc ?_ _))) hb⟩
  replace Csd9 : Aside0 (Kd.C k42 w22 Asd9 (List.length sd9) sd9) := ⟨Kd.C_below (by (with_reducible repeat (first | exact Csd9.out | refine Kd.C_alloc ?_ _))) hb⟩
  replace CsdH : Aside0 (Kd.C k42 w22 (some ⟨w11.heap.size, 0, none⟩) (List.length sdH) sdH) := ⟨Kd.C_below (by (with_reducible repeat (first | exact CsdH.out | refine Kd.C_alloc ?_ _))) hb⟩
  replace Csd10 : Aside0 (Kd.C k42 w22 Asd10 (List.length sd10) sd10) := ⟨Kd.C_below (by (with_reducible repeat (first | exact Csd10.out | refine Kd.C_alloc ?_ _))) hb⟩
  replace Csd11 : Aside0 (Kd.C k42 w22 Asd11 (List.length sd11) sd11) := ⟨Kd.C_below (by (with_reducible repeat (first | exact Csd11.out | refine Kd.C_alloc ?_ _))) hb⟩
  replace Csd12 : Aside0 (Kd.C k42 w22 Asd12 (List.length sd12) sd12) := ⟨Kd.C_below (by (with_reducible repeat (first | exact Csd12.out | refine Kd.C_alloc ?_ _))) hb⟩
  replace Csd13 : Aside0 (Kd.C k42 w22 Asd13 (List.length sd13) sd13) := ⟨Kd.C_below (by (with_reducible repeat (first | exact Csd13.out | refine Kd.C_alloc ?_ _))) hb⟩
  replace Csd14 : Aside0 (Kd.C k42 w22 Asd14 (List.length sd14) sd14) := ⟨Kd.C_below (by (with_reducible repeat (first | exact Csd14.out | refine Kd.C_alloc ?_ _))) hb⟩
  replace Csd15 : Aside0 (Kd.C k42 w22 Asd15 (List.length sd15) sd15) := ⟨Kd.C_below (by (with_reducible repeat (first | exact Csd15.out | refine Kd.C_alloc ?_ _))) hb⟩
  replace Csd16 : Aside0 (Kd.C k42 w22 Asd16 (List.length sd16) sd16) := ⟨Kd.C_below (by (with_reducible repeat (first | exact Csd16.out | refine Kd.C_alloc ?_ _))) hb⟩
  replace Csd17 : Aside0 (Kd.C k42 w22 Asd17 (List.length sd17) sd17) := ⟨Kd.C_below (by (with_reducible repeat (first | exact Csd17.out | refine Kd.C_alloc ?_ _))) hb⟩
  replace Csd18 : Aside0 (Kd.C k42 w22 Asd18 (List.length sd18) sd18) := ⟨Kd.C_below (by (with_reducible repeat (first | exact Csd18.out | refine Kd.C_alloc ?_ _))) hb⟩
  have Csd19 := Aside0.mk hC; clear hC
  clear hb hb2
  go_wp2_with fail
  refine (seq_step sd20 sd18 sd19 Asd18 csd18 Asd19 csd19 _ rfl (by decide) (by (with_reducible repeat (first | exact Csd18.out | refine Kd.C_alloc ?_ _))) hsd18 (by (with_reducible repeat (first | exact Csd19.out | refine Kd.C_alloc ?_ _))) hsd19).mono ?_
  rintro e w23 ⟨Asd20, csd20, rfl, hsd20, hC, hb⟩
  have hb2 : Below w.heap.size w _ := below_step (by repeat (first | (with_reducible first | exact Below.refl _ _ | exact HB.out | apply below_alloc) | exact Below.refl _ _ | exact HB.out)) hb
  clear HB; have HB := Aside0.mk hb2
  replace CsdL : Aside0 (Kd.C k42 w23 (some ⟨w.heap.size, 0, none⟩) (List.length sdL) sdL) := ⟨Kd.C_below (by (with_reducible repeat (first | exact CsdL.out | refine Kd.C_alloc ?_ _))) hb⟩
  replace Csd1 : Aside0 (Kd.C k42 w23 Asd1 (List.length sd1) sd1) := ⟨Kd.C_below (by (with_reducible repeat (first | exact Csd1.out | refine Kd.C_alloc ?_ _))) hb⟩
  replace Csd2 : Aside0 (Kd.C k42 w23 Asd2 (List.length sd2) sd2) := ⟨Kd.C_below (by (with_reducible repeat (first | exact Csd2.out | refine Kd.C_alloc ?_ _))) hb⟩
  replace Csd3 : Aside0 (Kd.C k42 w23 Asd3 (List.length sd3) sd3) := ⟨Kd.C_below (by (with_reducible repeat (first | exact Csd3.out | refine Kd.C_alloc ?_ _))) hb⟩
  replace Csd4 : Aside0 (Kd.C k42 w23 Asd4 (List.length sd4) sd4) := ⟨Kd.C_below (by (with_reducible repeat (first | exact Csd4.out | refine Kd.C_alloc ?_ _))) hb⟩
  replace Csd5 : Aside0 (Kd.C k42 w23 Asd5 (List.length sd5) sd5) := ⟨Kd.C_below (by (with_reducible repeat (first | exact Csd5.out | refine Kd.C_alloc ?_ _))) hb⟩
  replace Csd6 : Aside0 (Kd.C k42 w23 Asd6 (List.length sd6) sd6) := ⟨Kd.C_below (by (with_reducible repeat (first | exact Csd6.out | refine Kd.C_alloc ?_ _))) hb⟩
  replace Csd7 : Aside0 (Kd.C k42 w23 Asd7 (List.length sd7) sd7) := ⟨Kd.C_below (by (with_reducible repeat (first | exact Csd7.out | refine Kd.C_alloc ?_ _))) hb⟩
  replace Csd8 : Aside0 (Kd.C k42 w23 Asd8 (List.length sd8) sd8) := ⟨Kd.C_below (by (with_reducible repeat (first | exact Csd8.out | refine Kd.C_alloc ?_ _))) hb⟩
  replace Csd9 : Aside0 (Kd.C k42 w23 Asd9 (List.length sd9) sd9) := ⟨Kd.C_below (by (with_reducible repeat (first | exact Csd9.out | refine Kd.C_alloc ?_ _))) hb⟩
  replace CsdH : Aside0 (Kd.C k42 w23 (some ⟨w11.heap.size, 0, none⟩) (List.length sdH) sdH) := ⟨Kd.C_below (by (with_reducible repeat (first | exact CsdH.out | refine Kd.C_alloc ?_ _))) hb⟩
  replace Csd10 : Aside0 (Kd.C k42 w23 Asd10 (List.length sd10) sd10) := ⟨Kd.C_below (by (with_reducible repeat (first | exact Csd10.out | refine Kd.C_alloc ?_ _))) hb⟩
  replace Csd11 : Aside0 (Kd.C k42 w23 Asd11 (List.length sd11) sd11) := ⟨Kd.C_below (by (with_reducible repeat (first | exact Csd11.out | refine Kd.C_alloc ?_ _))) hb⟩
  replace Csd12 : Aside0 (Kd.C k42 w23 Asd12 (List.length sd12) sd12) := ⟨Kd.C_below (by (with_reducible repeat (first | exact Csd12.out | refine Kd.C_alloc ?_ _))) hb⟩
  replace Csd13 : Aside0 (Kd.C k42 w23 Asd13 (List.length sd13) sd13) := ⟨Kd.C_below (by (with_reducible repeat (first | exact Csd13.out | refine Kd.C_alloc ?_ _))) hb⟩
  replace Csd14 : Aside0 (Kd.C k42 w23 Asd14 (List.length sd14) sd14) := ⟨Kd.C_below (by (with_reducible repeat (first | exact Csd14.out | refine Kd.C_alloc ?_ _))) hb⟩
  replace Csd15 : Aside0 (Kd.C k42 w23 Asd15 (List.length sd15) sd15) := ⟨Kd.C_below (by (with_reducible repeat (first | exact Csd15.out | refine Kd.C_alloc ?_ _))) hb⟩
  replace Csd16 : Aside0 (Kd.C k42 w23 Asd16 (List.length sd16) sd16) := ⟨Kd.C_below (by (with_reducible repeat (first | exact Csd16.out | refine Kd.C_alloc ?_ _))) hb⟩
  replace Csd17 : Aside0 (Kd.C k42 w23 Asd17 (List.length sd17) sd17) := ⟨Kd.C_below (by (with_reducible repeat (first | exact Csd17.out | refine Kd.C_alloc ?_ _))) hb⟩
  replace Csd18 : Aside0 (Kd.C k42 w23 Asd18 (List.length sd18) sd18) := ⟨Kd.C_below (by (with_reducible repeat (first | exact Csd18.out | refine Kd.C_alloc ?_ _))) hb⟩
  replace Csd19 : Aside0 (Kd.C k42 w23 Asd19 (List.length sd19) sd19) := ⟨Kd.C_below (by (with_reducible repeat (first | exact Csd19.out | refine Kd.C_alloc ?_ _))) hb⟩
  have Csd20 := Aside0.mk hC; clear hC
  clear hb hb2
  go_wp2_with fail
  refine (document_Render.calls Asd20 csd20 sd20 none 0 [] ⟨#[10, 10, 32, 32, 32, 32, 120]⟩ 0 _ (by (with_reducible repeat (first | exact Csd20.out | refine Kd.C_alloc ?_ _))) hsd20 (Kd.C_nil _ _) (by decide) (by kernel_rfl)).mono ?_
  rintro e w24 ⟨rfl, hb⟩
  have hb2 : Below w.heap.size w _ := below_step (by repeat (first | (with_reducible first | exact Below.refl _ _ | exact HB.out | apply below_alloc) | exact Below.refl _ _ | exact HB.out)) hb
  clear HB; have HB := Aside0.mk hb2
  replace CsdL : Aside0 (Kd.C k42 w24 (some ⟨w.heap.size, 0, none⟩) (List.length sdL) sdL) := ⟨Kd.C_below (by (with_reducible repeat (first | exact CsdL.out | refine Kd.C_alloc ?_ _))) hb⟩
  replace Csd1 : Aside0 (Kd.C k42 w24 Asd1 (List.length sd1) sd1) := ⟨Kd.C_below (by (with_reducible repeat (first | exact Csd1.out | refine Kd.C_alloc ?_ _))) hb⟩
  replace Csd2 : Aside0 (Kd.C k42 w24 Asd2 (List.length sd2) sd2) := ⟨Kd.C_below (by (with_reducible repeat (first | exact Csd2.out | refine Kd.C_alloc ?_ _))) hb⟩
  replace Csd3 : Aside0 (Kd.C k42 w24 Asd3 (List.length sd3) sd3) := ⟨Kd.C_below (by (with_reducible repeat (first | exact Csd3.out | refine Kd.C_alloc ?_ _))) hb⟩
  replace Csd4 : Aside0 (Kd.C k42 w24 Asd4 (List.length sd4) sd4) := ⟨Kd.C_below (by (with_reducible repeat (first | exact Csd4.out | refine Kd.C_alloc ?_ _))) hb⟩
  replace Csd5 : Aside0 (Kd.C k42 w24 Asd5 (List.length sd5) sd5) := ⟨Kd.C_below (by (with_reducible repeat (first | exact Csd5.out | refine Kd.C_alloc ?_ _))) hb⟩
  replace Csd6 : Aside0 (Kd.C k42 w24 Asd6 (List.length sd6) sd6) := ⟨Kd.C_below (by (with_reducible repeat (first | exact Csd6.out | refine Kd.C_alloc ?_ _))) hb⟩
  replace Csd7 : Aside0 (Kd.C k42 w24 Asd7 (List.length sd7) sd7) := ⟨Kd.C_below (by (with_reducible repeat (first | exact Csd7.out | refine Kd.C_alloc ?_ _))) hb⟩
  replace Csd8 : Aside0 (Kd.C k42 w24 Asd8 (List.length sd8) sd8) := ⟨Kd.C_below (by (with_reducible repeat (first | exact Csd8.out | refine Kd.C_alloc ?_ _))) hb⟩
  replace Csd9 : Aside0 (Kd.C k42 w24 Asd9 (List.length sd9) sd9) := ⟨Kd.C_below (by (with_reducible repeat (first | exact Csd9.out | refine Kd.C_alloc ?_ _))) hb⟩
  replace CsdH : Aside0 (Kd.C k42 w24 (some ⟨w11.heap.size, 0, none⟩) (List.length sdH) sdH) := ⟨Kd.C_below (by (with_reducible repeat (first | exact CsdH.out | refine Kd.C_alloc ?_ _))) hb⟩
  replace Csd10 : Aside0 (Kd.C k42 w24 Asd10 (List.length sd10) sd10) := ⟨Kd.C_below (by (with_reducible repeat (first | exact Csd10.out | refine Kd.C_alloc ?_ _))) hb⟩
  replace Csd11 : Aside0 (Kd.C k42 w24 Asd11 (List.length sd11) sd11) := ⟨Kd.C_below (by (with_reducible repeat (first | exact Csd11.out | refine Kd.C_alloc ?_ _))) hb⟩
  replace Csd12 : Aside0 (Kd.C k42 w24 Asd12 (List.length sd12) sd12) := ⟨Kd.C_below (by (with_reducible repeat (first | exact Csd12.out | refine Kd.C_alloc ?_ _))) hb⟩
  replace Csd13 : Aside0 (Kd.C k42 w24 Asd13 (List.length sd13) sd13) := ⟨Kd.C_below (by (with_reducible repeat (first | exact Csd13.out | refine Kd.C_alloc ?_ _))) hb⟩
  replace Csd14 : Aside0 (Kd.C k42 w24 Asd14 (List.length sd14) sd14) := ⟨Kd.C_below (by (with_reducible repeat (first | exact Csd14.out | refine Kd.C_alloc ?_ _))) hb⟩
  replace Csd15 : Aside0 (Kd.C k42 w24 Asd15 (List.length sd15) sd15) := ⟨Kd.C_below (by (with_reducible repeat (first | exact Csd15.out | refine Kd.C_alloc ?_ _))) hb⟩
  replace Csd16 : Aside0 (Kd.C k42 w24 Asd16 (List.length sd16) sd16) := ⟨Kd.C_below (by (with_reducible repeat (first | exact Csd16.out | refine Kd.C_alloc ?_ _))) hb⟩
  replace Csd17 : Aside0 (Kd.C k42 w24 Asd17 (List.length sd17) sd17) := ⟨Kd.C_below (by (with_reducible repeat (first | exact Csd17.out | refine Kd.C_alloc ?_ _))) hb⟩
  replace Csd18 : Aside0 (Kd.C k42 w24 Asd18 (List.length sd18) sd18) := ⟨Kd.C_below (by (with_reducible repeat (first | exact Csd18.out | refine Kd.C_alloc ?_ _))) hb⟩
  replace Csd19 : Aside0 (Kd.C k42 w24 Asd19 (List.length sd19) sd19) := ⟨Kd.C_below (by (with_reducible repeat (first | exact Csd19.out | refine Kd.C_alloc ?_ _))) hb⟩
  replace Csd20 : Aside0 (Kd.C k42 w24 Asd20 (List.length sd20) sd20) := ⟨Kd.C_below (by (with_reducible repeat (first | exact Csd20.out | refine Kd.C_alloc ?_ _))) hb⟩
  clear hb hb2
  go_wp2_with fail
  refine (wrap_step sd21 sdH 6 0 (some ⟨w11.heap.size, 0, none⟩) 1 _ rfl (by decide) (by (with_reducible repeat (first | exact CsdH.out | refine Kd.C_alloc ?_ _))) (by decide)).mono ?_
  rintro e w25 ⟨Asd21, csd21, rfl, hsd21, hC, hb⟩
  have hb2 : Below w.heap.size w _ := below_step (by repeat (first | (with_reducible first | exact Below.refl _ _ | exact HB.out | apply below_alloc) | exact Below.refl _ _ | exact HB.out)) hb
  clear HB; have HB := Aside0.mk hb2
  replace CsdL : Aside0 (Kd.C k42 w25 (some ⟨w.heap.size, 0, none⟩) (List.length sdL) sdL) := ⟨Kd.C_below (by (with_reducible repeat (first | exact CsdL.out | refine Kd.C_alloc ?_ _))) hb⟩
  replace Csd1 : Aside0 (Kd.C k42 w25 Asd1 (List.length sd1) sd1) := ⟨Kd.C_below (by (with_reducible repeat (first | exact Csd1.out | refine Kd.C_alloc ?_ _))) hb⟩
  replace Csd2 : Aside0 (Kd.C k42 w25 Asd2 (List.length sd2) sd2) := ⟨Kd.C_below (by (with_reducible repeat (first | exact Csd2.out | refine Kd.C_alloc ?_ _))) hb⟩
  replace Csd3 : Aside0 (Kd.C k42 w25 Asd3 (List.length sd3) sd3) := ⟨Kd.C_below (by (with_reducible repeat (first | exact Csd3.out | refine Kd.C_alloc ?_ _))) hb⟩
  replace Csd4 : Aside0 (Kd.C k42 w25 Asd4 (List.length sd4) sd4) := ⟨Kd.C_below (by (with_reducible repeat (first | exact Csd4.out | refine Kd.C_alloc ?_ _))) hb⟩
  replace Csd5 : Aside0 (Kd.C k42 w25 Asd5 (List.length sd5) sd5) := ⟨Kd.C_below (by (with_reducible repeat (first | exact Csd5.out | refine Kd.C_alloc ?_ _))) hb⟩
  replace Csd6 : Aside0 (Kd.C k42 w25 Asd6 (List.length sd6) sd6) := ⟨Kd.C_below (by (with_reducible repeat (first | exact Csd6.out | refine Kd.C_alloc ?_ _))) hb⟩
  replace Csd7 : Aside0 (Kd.C k42 w25 Asd7 (List.length sd7) sd7) := ⟨Kd.C_below (by (with_reducible repeat (first | exact Csd7.out | refine Kd.C_alloc ?_ _))) hb⟩
  replace Csd8 : Aside0 (Kd.C k42 w25 Asd8 (List.length sd8) sd8) := ⟨Kd.C_below (by (with_reducible repeat (first | exact Csd8.out | refine Kd.C_alloc ?_ _))) hb⟩
  replace Csd9 : Aside0 (Kd.C k42 w25 Asd9 (List.length sd9) sd9) := ⟨Kd.C_below (by (with_reducible repeat (first | exact Csd9.out | refine Kd.C_alloc ?_ _))) hb⟩
  replace CsdH : Aside0 (Kd.C k42 w25 (some ⟨w11.heap.size, 0, none⟩) (List.length sdH) sdH) := ⟨Kd.C_below (by (with_reducible repeat (first | exact CsdH.out | refine Kd.C_alloc ?_ _))) hb⟩
  replace Csd10 : Aside0 (Kd.C k42 w25 Asd10 (List.length sd10) sd10) := ⟨Kd.C_below (by (with_reducible repeat (first | exact Csd10.out | refine Kd.C_alloc ?_ _))) hb⟩
  replace Csd11 : Aside0 (Kd.C k42 w25 Asd11 (List.length sd11) sd11) := ⟨Kd.C_below (by (with_reducible repeat (first | exact Csd11.out | refine Kd.C_alloc ?_ _))) hb⟩
  replace Csd12 : Aside0 (Kd.C k42 w25 Asd12 (List.length sd12) sd12) := ⟨Kd.C_below (by (with_reducible repeat (first | exact Csd12.out | refine Kd.C_alloc ?_ _))) hb⟩
  replace Csd13 : Aside0 (Kd.C k42 w25 Asd13 (List.length sd13) sd13) := ⟨Kd.C_below (by (with_reducible repeat (first | exact Csd13.out | refine Kd.C_alloc ?_ _))) hb⟩
  replace Csd14 : Aside0 (Kd.C k42 w25 Asd14 (List.length sd14) sd14) := ⟨Kd.C_below (by (with_reducible repeat (first | exact Csd14.out | refine Kd.C_alloc ?_ _))) hb⟩
  replace Csd15 : Aside0 (Kd.C k42 w25 Asd15 (List.length sd15) sd15) := ⟨Kd.C_below (by (with_reducible repeat (first | exact Csd15.out | refine Kd.C_alloc ?_ _))) hb⟩
  replace Csd16 : Aside0 (Kd.C k42 w25 Asd16 (List.length sd16) sd16) := ⟨Kd.C_below (by (with_reducible repeat (first | exact Csd16.out | refine Kd.C_alloc ?_ _))) hb⟩
  replace Csd17 : Aside0 (Kd.C k42 w25 Asd17 (List.length sd17) sd17) := ⟨Kd.C_below (by (with_reducible repeat (first | exact Csd17.out | refine Kd.C_alloc ?_ _))) hb⟩
  replace Csd18 : Aside0 (Kd.C k42 w25 Asd18 (List.length sd18) sd18) := ⟨Kd.C_below (by (with_reducible repeat (first | exact Csd18.out | refine Kd.C_alloc ?_ _))) hb⟩
  replace Csd19 : Aside0 (Kd.C k42 w25 Asd19 (List.length sd19) sd19) := ⟨Kd.C_below (by (with_reducible repeat (first | exact Csd19.out | refine Kd.C_alloc ?_ _))) hb⟩
  replace Csd20 : Aside0 (Kd.C k42 w25 Asd20 (List.length sd20) sd20) := ⟨Kd.C_below (by (with_reducible repeat (first | exact Csd20.out | refine Kd.C_alloc ?_ _))) hb⟩
  have Csd21 := Aside0.mk hC; clear hC
  clear hb hb2
  go_wp2_with fail
  refine (document_Render.calls Asd21 csd21 sd21 (some ⟨w25.heap.size, 0, none⟩) 1 [true] ⟨#[]⟩ 1 _ (by (with_reducible repeat (first | exact Csd21.out | refine Kd.C_alloc ?_ _))) hsd21 (litb _ true) (by decide) (by kernel_rfl)).mono ?_
  rintro e w26 ⟨rfl, hb⟩
  have hb2 : Below w.heap.size w _ := below_step (by repeat (first | (with_reducible first | exact Below.refl _ _ | exact HB.out | apply below_alloc) | exact Below.refl _ _ | exact HB.out)) hb
  clear HB; have HB := Aside0.mk hb2
  replace CsdL : Aside0 (Kd.C k42 w26 (some ⟨w.heap.size, 0, none⟩) (List.length sdL) sdL) := ⟨Kd.C_below (by (with_reducible repeat (first | exact CsdL.out | refine Kd.C_alloc ?_ _))) hb⟩
  replace Csd1 : Aside0 (Kd.C k42 w26 Asd1 (List.length sd1) sd1) := ⟨Kd.C_below (by (with_reducible repeat (first | exact Csd1.out | refine Kd.C_alloc ?_ _))) hb⟩
  replace Csd2 : Aside0 (Kd.C k42 w26 Asd2 (List.length sd2) sd2) := ⟨Kd.C_below (by (with_reducible repeat (first | exact Csd2.out | refine Kd.C_alloc ?_ _))) hb⟩
  replace Csd3 : Aside0 (Kd.C k42 w26 Asd3 (List.length sd3) sd3) := ⟨Kd.C_below (by (with_reducible repeat (first | exact Csd3.out | refine Kd.C_alloc ?_ _))) hb⟩
  replace Csd4 : Aside0 (Kd.C k42 w26 Asd4 (List.length sd4) sd4) := ⟨Kd.C_below (by (with_reducible repeat (first | exact Csd4.out | refine Kd.C_alloc ?_ _))) hb⟩
  replace Csd5 : Aside0 (Kd.C k42 w26 Asd5 (List.length sd5) sd5) := ⟨Kd.C_below (by (with_reducible repeat (first | exact Csd5.out | refine Kd.C_alloc ?_ _))) hb⟩
  replace Csd6 : Aside0 (Kd.C k42 w26 Asd6 (List.length sd6) sd6) := ⟨Kd.C_below (by (with_reducible repeat (first | exact Csd6.out | refine Kd.C_alloc ?_ _))) hb⟩
  replace Csd7 : Aside0 (Kd.C k42 w26 Asd7 (List.length sd7) sd7) := ⟨Kd.C_below (by (with_reducible repeat (first | exact Csd7.out | refine Kd.C_alloc ?_ _))) hb⟩
  replace Csd8 : Aside0 (Kd.C k42 w26 Asd8 (List.length sd8) sd8) := ⟨Kd.C_below (by (with_reducible repeat (first | exact Csd8.out | refine Kd.C_alloc ?_ _))) hb⟩
  replace Csd9 : Aside0 (Kd.C k42 w26 Asd9 (List.length sd9) sd9) := ⟨Kd.C_below (by (with_reducible repeat (first | exact Csd9.out | refine Kd.C_alloc ?_ _))) hb⟩
  replace CsdH : Aside0 (Kd.C k42 w26 (some ⟨w11.heap.size, 0, none⟩) (List.length sdH) sdH) := ⟨Kd.C_below (by (with_reducible repeat (first | exact CsdH.out | refine Kd.C_alloc ?_ _))) hb⟩
  replace Csd10 : Aside0 (Kd.C k42 w26 Asd10 (List.length sd10) sd10) := ⟨Kd.C_below (by (with_reducible repeat (first | exact Csd10.out | refine Kd.C_alloc ?_ _))) hb⟩
  replace Csd11 : Aside0 (Kd.C k42 w26 Asd11 (List.length sd11) sd11) := ⟨Kd.C_below (by (with_reducible repeat (first | exact Csd11.out | refine Kd.C_alloc ?_ _))) hb⟩
  replace Csd12 : Aside0 (Kd.C k42 w26 Asd12 (List.length sd12) sd12) := ⟨Kd.C_below (by (with_reducible repeat (first | exact Csd12.out | refine Kd.C_alloc ?_ _))) hb⟩
  replace Csd13 : Aside0 (Kd.C k42 w26 Asd13 (List.length sd13) sd13) := ⟨Kd.C_below (by (with_reducible repeat (first | exact Csd13.out | refine Kd.C_alloc ?_ _))) hb⟩
  replace Csd14 : Aside0 (Kd.C k42 w26 Asd14 (List.length sd14) sd14) := ⟨Kd.C_below (by (with_reducible repeat (first | exact Csd14.out | refine Kd.C_alloc ?_ _))) hb⟩
  replace Csd15 : Aside0 (Kd.C k42 w26 Asd15 (List.length sd15) sd15) := ⟨Kd.C_below (by (with_reducible repeat (first | exact Csd15.out | refine Kd.C_alloc ?_ _))) hb⟩
  replace Csd16 : Aside0 (Kd.C k42 w26 Asd16 (List.length sd16) sd16) := ⟨Kd.C_below (by (with_reducible repeat (first | exact Csd16.out | refine Kd.C_alloc ?_ _))) hb⟩
  replace Csd17 : Aside0 (Kd.C k42 w26 Asd17 (List.length sd17) sd17) := ⟨Kd.C_below (by (with_reducible repeat (first | exact Csd17.out | refine Kd.C_alloc ?_ _))) hb⟩
  replace Csd18 : Aside0 (Kd.C k42 w26 Asd18 (List.length sd18) sd18) := ⟨Kd.C_below (by (with_reducible repeat (first | exact Csd18.out | refine Kd.C_alloc ?_ _))) hb⟩
  replace Csd19 : Aside0 (Kd.C k42 w26 Asd19 (List.length sd19) sd19) := ⟨Kd.C_below (by (with_reducible repeat (first | exact Csd19.out | refine Kd.C_alloc ?_ _))) hb⟩
  replace Csd20 : Aside0 (Kd.C k42 w26 Asd20 (List.length sd20) sd20) := ⟨Kd.C_below (by (with_reducible repeat (first | exact Csd20.out | refine Kd.C_alloc ?_ _))) hb⟩
  replace Csd21 : Aside0 (Kd.C k42 w26 Asd21 (List.length sd21) sd21) := ⟨Kd.C_below (by (with_reducible repeat (first | exact Csd21.out | refine Kd.C_alloc ?_ _))) hb⟩
  clear hb hb2
  go_wp2_with (go_at_call 27; refine (document_Cost.calls ⟨#[102, 40, 10, 32, 32, 97, 10, 41]⟩ 2 1 2 _ (by kernel_rfl)).mono ?_; rintro e w99 ⟨rfl, hb⟩; have hb2 : Below w.heap.size w _ := below_step (by repeat (first | (with_reducible first | exact Below.refl _ _ | exact HB.out | apply below_alloc) | exact Below.refl _ _ | exact HB.out)) hb; clear HB; have HB := Aside0.mk hb2; clear hb hb2)
  go_ret
  exact ⟨rfl, HB.out⟩

theorem koinelaw25_sanity.calls (r : Bool) (w : World) (h : koinelaw25_sanity.f = some r) : Calls Try.prog 20 #[] w fun e w' => e = .returned (.bool r) ∧ Below w.heap.size w w' := by
  obtain rfl := Option.some.inj h
  exact sanity25_calls w

end Go.Proofs.Ythmmdmnbcecooaa.A
