/- K2, M2, X3, PureDocumentSequences, LawDocumentSequences: texts of this seat, one behind the other. No condition of its own. -/
import Derived.Test.YthmmdmnbcecooaaZB
import Derived.Test.YthmmdmnbcecooaaZD
import Derived.Test.YthmmdmnbcecooaaZA
import Derived.Test.YthmmdmnbcecooaaWSized
import Derived.OpenShut
import Derived.ChangeSlices
import Derived.SizedLaws
import Derived.WideShapes
import Derived.Test.YthmmdmnbcecooaaRows
import Derived.WalkKit
import Derived.ProofKit
import Derived.ShutString
import Derived.ChangeOld
import Derived.Below
/-! K2 -/
namespace Go.Proofs.Ythmmdmnbcecooaa.A
open Go.RowKit Go.Proofs.YthmmdmnbcecooaaW.PrintWords Go.Proofs.YthmmdmnbcecooaaW.PrintLast Go.Proofs.YthmmdmnbcecooaaW.PrintMore
set_option linter.unusedVariables false
set_option linter.unusedSimpArgs false

def Docs (w0 W : World) (L : List (Option Addr × List S42)) : Prop := Below w0.heap.size w0 W ∧ ∀ p ∈ L, Kd.C k42 W p.1 p.2.length p.2
section
variable {w0 W W' : World} {L : List (Option Addr × List S42)}
theorem Docs.nil (w0 : World) : Docs w0 w0 [] := ⟨Below.refl _ _, fun p hp => by cases hp⟩
theorem Docs.step (h : Docs w0 W L) (hb : Below W.heap.size W W') : Docs w0 W' L := ⟨below_then h.1 h.1.size hb, fun p hp => Kd.C_below (h.2 p hp) hb⟩
theorem Docs.add (h : Docs w0 W L) {A : Option Addr} {D : List S42} (hC : Kd.C k42 W A D.length D) : Docs w0 W ((A, D) :: L) :=
  ⟨h.1, fun p hp => by
    rcases List.mem_cons.1 hp with rfl | hp
    · exact hC
    · exact h.2 p hp⟩
theorem Docs.alloc (h : Docs w0 W L) (o : Obj) : Docs w0 (W.alloc o) L := h.step (below_alloc (Below.refl _ _) o)
theorem Docs.drewN (h : Docs w0 W L) (n : Nat) : Docs w0 (W.drewN n) L := h.step (pw_below_drewN (Below.refl _ _) n)
theorem Docs.drawn (h : Docs w0 W L) (hd : Drawn0 W W') : Docs w0 W' L := by
  obtain ⟨n, rfl⟩ := hd.out
  exact h.drewN n
theorem Docs.get (h : Docs w0 W L) {A : Option Addr} {D : List S42} (hm : (A, D) ∈ L) : Kd.C k42 W A D.length D := h.2 _ hm
theorem Docs.bools (h : Docs w0 W L) {A : Option Addr} {l : List Bool} (hC : Kd.C Kd.bool w0 A l.length l) : Kd.C Kd.bool W A l.length l := Kd.C_below hC h.1
end

theorem made_step (D : List S42) (A0 : Option Addr) (c0 : Nat) (l0 : List Int) (a1 : Int) (w : World) (hr0 : Kd.C (Kd.int .u8) w A0 l0.length l0) (hc0 : l0.length ≤ c0) (h : koineref25_Made.f l0 a1 = some D) :
    Calls Try.prog 21 #[.slice A0 l0.length c0, .int .i64 a1] w (DocPost D w) :=
  (koineref25_Made.calls A0 c0 l0 a1 D w hr0 hc0 h).mono fun _ _ h => .of h

end Go.Proofs.Ythmmdmnbcecooaa.A

/-! M2 -/
namespace Go.Proofs.Ythmmdmnbcecooaa.A
open Go.RowKit Go.Proofs.YthmmdmnbcecooaaW.PrintWords Go.Proofs.YthmmdmnbcecooaaW.PrintLast Go.Proofs.YthmmdmnbcecooaaW.PrintMore
attribute [local go_sem] max2_int min2_int max_two min_two max_three min_three max_four min_four
set_option linter.unusedVariables false
set_option linter.unusedSimpArgs false

theorem textD_len (s : ByteArray) : (textD s).length = 1 := rfl

/-- What the walk needs: the texts of the documents that the law makes. -/
structure SeqsOk (a b c : List S42) (fl : List Bool) (k : Nat) (x y : Int) (R P Q : ByteArray) : Prop where
  r1 : koinelaw25_render.f k (seqD (seqD a b) c) fl = some R
  r2 : koinelaw25_render.f k (seqD a (seqD b c)) fl = some R
  r3 : koinelaw25_render.f k (seqD (seqD (textD ⟨#[]⟩) (seqD a b)) (seqD (textD ⟨#[]⟩) (seqD c (textD ⟨#[]⟩)))) fl = some R
  r4 : koinelaw25_render.f k (wrapD 4 0 (seqD a (seqD b c))) fl = some R
  r5 : koinelaw25_render.f k (seqD a (wrapD 6 0 (textD ⟨#[116, 101, 120, 116]⟩))) fl = some P
  r6 : koinelaw25_render.f k (seqD a (textD ⟨#[116, 101, 120, 116]⟩)) fl = some P
  r7 : koinelaw25_render.f k (wrapD 4 (x % 9) (wrapD 4 (y % 9) b)) fl = some Q
  r8 : koinelaw25_render.f k (wrapD 4 (x % 9 + y % 9) b) fl = some Q

set_option maxHeartbeats 4000000 in
set_option maxRecDepth 100000 in
theorem seqs_calls (w : World) (MA0 : Option Addr) (mc0 : Nat) (ml0 : List Int) (MA1 : Option Addr) (mc1 : Nat) (ml1 : List Int) (MA2 : Option Addr) (mc2 : Nat) (ml2 : List Int) (AF : Option Addr) (cF : Nat) (fl : List Bool) (x y : Int)
    (hM0 : Kd.C (Kd.int .u8) w MA0 ml0.length ml0) (hmc0 : ml0.length ≤ mc0) (hM1 : Kd.C (Kd.int .u8) w MA1 ml1.length ml1) (hmc1 : ml1.length ≤ mc1) (hM2 : Kd.C (Kd.int .u8) w MA2 ml2.length ml2) (hmc2 : ml2.length ≤ mc2)
    (hRF : Kd.C Kd.bool w AF fl.length fl) (hcF : fl.length ≤ cF) (h1 : 0 ≤ x) (h2 : x ≤ 255) (h3 : 0 ≤ y) (h4 : y ≤ 255) (a b c : List S42) (k : Nat) (R P Q : ByteArray)
    (hf0 : koineref25_Made.f ml0 20 = some a) (hf1 : koineref25_Made.f ml1 20 = some b) (hf2 : koineref25_Made.f ml2 20 = some c) (hl : a.length ≤ 10000 ∧ b.length ≤ 10000 ∧ c.length ≤ 10000) (ho : SeqsOk a b c fl k x y R P Q) :
    Calls Try.prog 10 #[.agg #[.slice MA0 ml0.length mc0, .slice MA1 ml1.length mc1, .slice MA2 ml2.length mc2], .slice AF fl.length cF, .agg #[.int .u8 x, .int .u8 y]] w fun e w' => e = .returned (.bool true) ∧ Below w.heap.size w w' := by
  have HM0 := Aside0.mk hM0
  have HM1 := Aside0.mk hM1
  have HM2 := Aside0.mk hM2
  have HRF := Aside0.mk hRF
  have HF0 := Aside0.mk hf0
  have HF1 := Aside0.mk hf1
  have HF2 := Aside0.mk hf2
  have HL := Aside0.mk hl
  have HO := Aside0.mk ho
  clear hM0 hM1 hM2 hRF hf0 hf1 hf2 hl ho
  go_enter Try.func10, Try.ntmps10
  go_wp2_with fail
  have HD0 := Aside0.mk (((Docs.nil w).alloc (.cells #[.slice MA0 ml0.length mc0, .slice MA1 ml1.length mc1, .slice MA2 ml2.length mc2] 57)).alloc (.cells #[.int .u8 x, .int .u8 y] 58))
  have m0 : ((w.alloc (.cells #[.slice MA0 ml0.length mc0, .slice MA1 ml1.length mc1, .slice MA2 ml2.length mc2] 57)).alloc (.cells #[.int .u8 x, .int .u8 y] 58)).cell? ⟨w.heap.size, 0, none⟩ = some (.slice MA0 ml0.length mc0) := by simp [go_sem]
  have m1 : ((w.alloc (.cells #[.slice MA0 ml0.length mc0, .slice MA1 ml1.length mc1, .slice MA2 ml2.length mc2] 57)).alloc (.cells #[.int .u8 x, .int .u8 y] 58)).cell? ⟨w.heap.size, 1, none⟩ = some (.slice MA1 ml1.length mc1) := by simp [go_sem]
  have m2 : ((w.alloc (.cells #[.slice MA0 ml0.length mc0, .slice MA1 ml1.length mc1, .slice MA2 ml2.length mc2] 57)).alloc (.cells #[.int .u8 x, .int .u8 y] 58)).cell? ⟨w.heap.size, 2, none⟩ = some (.slice MA2 ml2.length mc2) := by simp [go_sem]
  have n0 : ((w.alloc (.cells #[.slice MA0 ml0.length mc0, .slice MA1 ml1.length mc1, .slice MA2 ml2.length mc2] 57)).alloc (.cells #[.int .u8 x, .int .u8 y] 58)).cell? ⟨w.heap.size + 1, 0, none⟩ = some (.int .u8 x) := by simp [go_sem]
  have n1 : ((w.alloc (.cells #[.slice MA0 ml0.length mc0, .slice MA1 ml1.length mc1, .slice MA2 ml2.length mc2] 57)).alloc (.cells #[.int .u8 x, .int .u8 y] 58)).cell? ⟨w.heap.size + 1, 1, none⟩ = some (.int .u8 y) := by simp [go_sem]
  refine (koinelaw25_sanity.calls true _ rfl).mono ?_
  rintro e w1 ⟨rfl, hb⟩
  have m0' := pw_cell_below hb m0
  clear m0
  have m0 := m0'
  clear m0'
  have m1' := pw_cell_below hb m1
  clear m1
  have m1 := m1'
  clear m1'
  have m2' := pw_cell_below hb m2
  clear m2
  have m2 := m2'
  clear m2'
  have n0' := pw_cell_below hb n0
  clear n0
  have n0 := n0'
  clear n0'
  have n1' := pw_cell_below hb n1
  clear n1
  have n1 := n1'
  clear n1'
  have HD1 := Aside0.mk (HD0.out.step hb)
  clear hb
  go_wp2_with fail
  refine (made_step a MA0 mc0 ml0 20 _ (Kd.C_below HM0.out HD1.out.1) hmc0 HF0.out).mono ?_
  rintro e w2 ⟨A2, c2, rfl, hc2, hC, hb⟩
  have m0' := pw_cell_below hb m0
  clear m0
  have m0 := m0'
  clear m0'
  have m1' := pw_cell_below hb m1
  clear m1
  have m1 := m1'
  clear m1'
  have m2' := pw_cell_below hb m2
  clear m2
  have m2 := m2'
  clear m2'
  have n0' := pw_cell_below hb n0
  clear n0
  have n0 := n0'
  clear n0'
  have n1' := pw_cell_below hb n1
  clear n1
  have n1 := n1'
  clear n1'
  have HD2 := Aside0.mk ((HD1.out.step hb).add hC)
  clear hC hb
  go_wp2_with fail
  refine (made_step b MA1 mc1 ml1 20 _ (Kd.C_below HM1.out HD2.out.1) hmc1 HF1.out).mono ?_
  rintro e w3 ⟨A3, c3, rfl, hc3, hC, hb⟩
  have m0' := pw_cell_below hb m0
  clear m0
  have m0 := m0'
  clear m0'
  have m1' := pw_cell_below hb m1
  clear m1
  have m1 := m1'
  clear m1'
  have m2' := pw_cell_below hb m2
  clear m2
  have m2 := m2'
  clear m2'
  have n0' := pw_cell_below hb n0
  clear n0
  have n0 := n0'
  clear n0'
  have n1' := pw_cell_below hb n1
  clear n1
  have n1 := n1'
  clear n1'
  have HD3 := Aside0.mk ((HD2.out.step hb).add hC)
  clear hC hb
  go_wp2_with fail
  refine (made_step c MA2 mc2 ml2 20 _ (Kd.C_below HM2.out HD3.out.1) hmc2 HF2.out).mono ?_
  rintro e w4 ⟨A4, c4, rfl, hc4, hC, hb⟩
  have m0' := pw_cell_below hb m0
  clear m0
  have m0 := m0'
  clear m0'
  have m1' := pw_cell_below hb m1
  clear m1
  have m1 := m1'
  clear m1'
  have m2' := pw_cell_below hb m2
  clear m2
  have m2 := m2'
  clear m2'
  have n0' := pw_cell_below hb n0
  clear n0
  have n0 := n0'
  clear n0'
  have n1' := pw_cell_below hb n1
  clear n1
  have n1 := n1'
  clear n1'
  have HD4 := Aside0.mk ((HD3.out.step hb).add hC)
  clear hC hb
  go_wp2_with fail
  refine (seq_step (seqD a b) a b A2 c2 A3 c3 _ rfl (by have := HL.out; (try simp only [seqD_length, wrapD_length, textD_len]); omega) (HD4.out.get (by simp)) hc2 (HD4.out.get (by simp)) hc3).mono ?_
  rintro e w5 ⟨A5, c5, rfl, hc5, hC, hb⟩
  have m0' := pw_cell_below hb m0
  clear m0
  have m0 := m0'
  clear m0'
  have m1' := pw_cell_below hb m1
  clear m1
  have m1 := m1'
  clear m1'
  have m2' := pw_cell_below hb m2
  clear m2
  have m2 := m2'
  clear m2'
  have n0' := pw_cell_below hb n0
  clear n0
  have n0 := n0'
  clear n0'
  have n1' := pw_cell_below hb n1
  clear n1
  have n1 := n1'
  clear n1'
  have HD5 := Aside0.mk ((HD4.out.step hb).add hC)
  clear hC hb
  go_wp2_with fail
  refine (seq_step (seqD (seqD a b) c) (seqD a b) c A5 c5 A4 c4 _ rfl (by have := HL.out; (try simp only [seqD_length, wrapD_length, textD_len]); omega) (HD5.out.get (by simp)) hc5 (HD5.out.get (by simp)) hc4).mono ?_
  rintro e w6 ⟨A6, c6, rfl, hc6, hC, hb⟩
  have m0' := pw_cell_below hb m0
  clear m0
  have m0 := m0'
  clear m0'
  have m1' := pw_cell_below hb m1
  clear m1
  have m1 := m1'
  clear m1'
  have m2' := pw_cell_below hb m2
  clear m2
  have m2 := m2'
  clear m2'
  have n0' := pw_cell_below hb n0
  clear n0
  have n0 := n0'
  clear n0'
  have n1' := pw_cell_below hb n1
  clear n1
  have n1 := n1'
  clear n1'
  have HD6 := Aside0.mk ((HD5.out.step hb).add hC)
  clear hC hb
  go_wp2_with fail
  refine (koinelaw25_render.calls k A6 c6 _ AF cF fl R _ (HD6.out.get (by simp)) hc6 (HD6.out.bools HRF.out) hcF HO.out.r1).mono ?_
  rintro e w7 ⟨rfl, hb⟩
  have m0' := pw_cell_below hb m0
  clear m0
  have m0 := m0'
  clear m0'
  have m1' := pw_cell_below hb m1
  clear m1
  have m1 := m1'
  clear m1'
  have m2' := pw_cell_below hb m2
  clear m2
  have m2 := m2'
  clear m2'
  have n0' := pw_cell_below hb n0
  clear n0
  have n0 := n0'
  clear n0'
  have n1' := pw_cell_below hb n1
  clear n1
  have n1 := n1'
  clear n1'
  have HD7 := Aside0.mk (HD6.out.step hb)
  clear hb
  go_wp2_with fail
  refine (text_step (textD ⟨#[]⟩) ⟨#[]⟩ _ rfl).mono ?_
  rintro e w8 ⟨A8, c8, rfl, hc8, hC, hb⟩
  have m0' := pw_cell_below hb m0
  clear m0
  have m0 := m0'
  clear m0'
  have m1' := pw_cell_below hb m1
  clear m1
  have m1 := m1'
  clear m1'
  have m2' := pw_cell_below hb m2
  clear m2
  have m2 := m2'
  clear m2'
  have n0' := pw_cell_below hb n0
  clear n0
  have n0 := n0'
  clear n0'
  have n1' := pw_cell_below hb n1
  clear n1
  have n1 := n1'
  clear n1'
  have HD8 := Aside0.mk ((HD7.out.step hb).add hC)
  clear hC hb
  go_wp2_with fail
  refine (seq_step (seqD b c) b c A3 c3 A4 c4 _ rfl (by have := HL.out; (try simp only [seqD_length, wrapD_length, textD_len]); omega) (HD8.out.get (by simp)) hc3 (HD8.out.get (by simp)) hc4).mono ?_
  rintro e w9 ⟨A9, c9, rfl, hc9, hC, hb⟩
  have m0' := pw_cell_below hb m0
  clear m0
  have m0 := m0'
  clear m0'
  have m1' := pw_cell_below hb m1
  clear m1
  have m1 := m1'
  clear m1'
  have m2' := pw_cell_below hb m2
  clear m2
  have m2 := m2'
  clear m2'
  have n0' := pw_cell_below hb n0
  clear n0
  have n0 := n0'
  clear n0'
  have n1' := pw_cell_below hb n1
  clear n1
  have n1 := n1'
  clear n1'
  have HD9 := Aside0.mk ((HD8.out.step hb).add hC)
  clear hC hb
  go_wp2_with fail
  refine (seq_step (seqD a (seqD b c)) a (seqD b c) A2 c2 A9 c9 _ rfl (by have := HL.out; (try simp only [seqD_length, wrapD_length, textD_len]); omega) (HD9.out.get (by simp)) hc2 (HD9.out.get (by simp)) hc9).mono ?_
  rintro e w10 ⟨A10, c10, rfl, hc10, hC, hb⟩
  have m0' := pw_cell_below hb m0
  clear m0
  have m0 := m0'
  clear m0'
  have m1' := pw_cell_below hb m1
  clear m1
  have m1 := m1'
  clear m1'
  have m2' := pw_cell_below hb m2
  clear m2
  have m2 := m2'
  clear m2'
  have n0' := pw_cell_below hb n0
  clear n0
  have n0 := n0'
  clear n0'
  have n1' := pw_cell_below hb n1
  clear n1
  have n1 := n1'
  clear n1'
  have HD10 := Aside0.mk ((HD9.out.step hb).add hC)
  clear hC hb
  go_wp2_with fail
  refine (koinelaw25_render.calls k A10 c10 _ AF cF fl R _ (HD10.out.get (by simp)) hc10 (HD10.out.bools HRF.out) hcF HO.out.r2).mono ?_
  rintro e w11 ⟨rfl, hb⟩
  have m0' := pw_cell_below hb m0
  clear m0
  have m0 := m0'
  clear m0'
  have m1' := pw_cell_below hb m1
  clear m1
  have m1 := m1'
  clear m1'
  have m2' := pw_cell_below hb m2
  clear m2
  have m2 := m2'
  clear m2'
  have n0' := pw_cell_below hb n0
  clear n0
  have n0 := n0'
  clear n0'
  have n1' := pw_cell_below hb n1
  clear n1
  have n1 := n1'
  clear n1'
  have HD11 := Aside0.mk (HD10.out.step hb)
  clear hb
  go_wp2_with fail
  refine (seq_step (seqD a b) a b A2 c2 A3 c3 _ rfl (by have := HL.out; (try simp only [seqD_length, wrapD_length, textD_len]); omega) (HD11.out.get (by simp)) hc2 (HD11.out.get (by simp)) hc3).mono ?_
  rintro e w12 ⟨A12, c12, rfl, hc12, hC, hb⟩
  have m0' := pw_cell_below hb m0
  clear m0
  have m0 := m0'
  clear m0'
  have m1' := pw_cell_below hb m1
  clear m1
  have m1 := m1'
  clear m1'
  have m2' := pw_cell_below hb m2
  clear m2
  have m2 := m2'
  clear m2'
  have n0' := pw_cell_below hb n0
  clear n0
  have n0 := n0'
  clear n0'
  have n1' := pw_cell_below hb n1
  clear n1
  have n1 := n1'
  clear n1'
  have HD12 := Aside0.mk ((HD11.out.step hb).add hC)
  clear hC hb
  go_wp2_with fail
  refine (seq_step (seqD (textD ⟨#[]⟩) (seqD a b)) (textD ⟨#[]⟩) (seqD a b) A8 c8 A12 c12 _ rfl (by have := HL.out; (try simp only [seqD_length, wrapD_length, textD_len]); omega) (HD12.out.get (by simp)) hc8 (HD12.out.get (by simp)) hc12).mono ?_
  rintro e w13 ⟨A13, c13, rfl, hc13, hC, hb⟩
  have m0' := pw_cell_below hb m0
  clear m0
  have m0 := m0'
  clear m0'
  have m1' := pw_cell_below hb m1
  clear m1
  have m1 := m1'
  clear m1'
  have m2' := pw_cell_below hb m2
  clear m2
  have m2 := m2'
  clear m2'
  have n0' := pw_cell_below hb n0
  clear n0
  have n0 := n0'
  clear n0'
  have n1' := pw_cell_below hb n1
  clear n1
  have n1 := n1'
  clear n1'
  have HD13 := Aside0.mk ((HD12.out.step hb).add hC)
  clear hC hb
  go_wp2_with fail
  refine (seq_step (seqD c (textD ⟨#[]⟩)) c (textD ⟨#[]⟩) A4 c4 A8 c8 _ rfl (by have := HL.out; (try simp only [seqD_length, wrapD_length, textD_len]); omega) (HD13.out.get (by simp)) hc4 (HD13.out.get (by simp)) hc8).mono ?_
  rintro e w14 ⟨A14, c14, rfl, hc14, hC, hb⟩
  have m0' := pw_cell_below hb m0
  clear m0
  have m0 := m0'
  clear m0'
  have m1' := pw_cell_below hb m1
  clear m1
  have m1 := m1'
  clear m1'
  have m2' := pw_cell_below hb m2
  clear m2
  have m2 := m2'
  clear m2'
  have n0' := pw_cell_below hb n0
  clear n0
  have n0 := n0'
  clear n0'
  have n1' := pw_cell_below hb n1
  clear n1
  have n1 := n1'
  clear n1'
  have HD14 := Aside0.mk ((HD13.out.step hb).add hC)
  clear hC hb
  go_wp2_with fail
  refine (seq_step (seqD (textD ⟨#[]⟩) (seqD c (textD ⟨#[]⟩))) (textD ⟨#[]⟩) (seqD c (textD ⟨#[]⟩)) A8 c8 A14 c14 _ rfl (by have := HL.out; (try simp only [seqD_length, wrapD_length, textD_len]); omega) (HD14.out.get (by simp)) hc8 (HD14.out.get (by simp)) hc14).mono ?_
  rintro e w15 ⟨A15, c15, rfl, hc15, hC, hb⟩
  have m0' := pw_cell_below hb m0
  clear m0
  have m0 := m0'
  clear m0'
  have m1' := pw_cell_below hb m1
  clear m1
  have m1 := m1'
  clear m1'
  have m2' := pw_cell_below hb m2
  clear m2
  have m2 := m2'
  clear m2'
  have n0' := pw_cell_below hb n0
  clear n0
  have n0 := n0'
  clear n0'
  have n1' := pw_cell_below hb n1
  clear n1
  have n1 := n1'
  clear n1'
  have HD15 := Aside0.mk ((HD14.out.step hb).add hC)
  clear hC hb
  go_wp2_with fail
  refine (seq_step (seqD (seqD (textD ⟨#[]⟩) (seqD a b)) (seqD (textD ⟨#[]⟩) (seqD c (textD ⟨#[]⟩)))) (seqD (textD ⟨#[]⟩) (seqD a b)) (seqD (textD ⟨#[]⟩) (seqD c (textD ⟨#[]⟩))) A13 c13 A15 c15 _ rfl (by have := HL.out; (try simp only [seqD_length, wrapD_length, textD_len]); omega) (HD15.out.get (by simp)) hc13 (HD15.out.get (by simp)) hc15).mono ?_
  rintro e w16 ⟨A16, c16, rfl, hc16, hC, hb⟩
  have m0' := pw_cell_below hb m0
  clear m0
  have m0 := m0'
  clear m0'
  have m1' := pw_cell_below hb m1
  clear m1
  have m1 := m1'
  clear m1'
  have m2' := pw_cell_below hb m2
  clear m2
  have m2 := m2'
  clear m2'
  have n0' := pw_cell_below hb n0
  clear n0
  have n0 := n0'
  clear n0'
  have n1' := pw_cell_below hb n1
  clear n1
  have n1 := n1'
  clear n1'
  have HD16 := Aside0.mk ((HD15.out.step hb).add hC)
  clear hC hb
  go_wp2_with fail
  refine (koinelaw25_render.calls k A16 c16 _ AF cF fl R _ (HD16.out.get (by simp)) hc16 (HD16.out.bools HRF.out) hcF HO.out.r3).mono ?_
  rintro e w17 ⟨rfl, hb⟩
  have m0' := pw_cell_below hb m0
  clear m0
  have m0 := m0'
  clear m0'
  have m1' := pw_cell_below hb m1
  clear m1
  have m1 := m1'
  clear m1'
  have m2' := pw_cell_below hb m2
  clear m2
  have m2 := m2'
  clear m2'
  have n0' := pw_cell_below hb n0
  clear n0
  have n0 := n0'
  clear n0'
  have n1' := pw_cell_below hb n1
  clear n1
  have n1 := n1'
  clear n1'
  have HD17 := Aside0.mk (HD16.out.step hb)
  clear hb
  go_wp2_with fail
  refine (seq_step (seqD b c) b c A3 c3 A4 c4 _ rfl (by have := HL.out; (try simp only [seqD_length, wrapD_length, textD_len]); omega) (HD17.out.get (by simp)) hc3 (HD17.out.get (by simp)) hc4).mono ?_
  rintro e w18 ⟨A18, c18, rfl, hc18, hC, hb⟩
  have m0' := pw_cell_below hb m0
  clear m0
  have m0 := m0'
  clear m0'
  have m1' := pw_cell_below hb m1
  clear m1
  have m1 := m1'
  clear m1'
  have m2' := pw_cell_below hb m2
  clear m2
  have m2 := m2'
  clear m2'
  have n0' := pw_cell_below hb n0
  clear n0
  have n0 := n0'
  clear n0'
  have n1' := pw_cell_below hb n1
  clear n1
  have n1 := n1'
  clear n1'
  have HD18 := Aside0.mk ((HD17.out.step hb).add hC)
  clear hC hb
  go_wp2_with fail
  refine (seq_step (seqD a (seqD b c)) a (seqD b c) A2 c2 A18 c18 _ rfl (by have := HL.out; (try simp only [seqD_length, wrapD_length, textD_len]); omega) (HD18.out.get (by simp)) hc2 (HD18.out.get (by simp)) hc18).mono ?_
  rintro e w19 ⟨A19, c19, rfl, hc19, hC, hb⟩
  have m0' := pw_cell_below hb m0
  clear m0
  have m0 := m0'
  clear m0'
  have m1' := pw_cell_below hb m1
  clear m1
  have m1 := m1'
  clear m1'
  have m2' := pw_cell_below hb m2
  clear m2
  have m2 := m2'
  clear m2'
  have n0' := pw_cell_below hb n0
  clear n0
  have n0 := n0'
  clear n0'
  have n1' := pw_cell_below hb n1
  clear n1
  have n1 := n1'
  clear n1'
  have HD19 := Aside0.mk ((HD18.out.step hb).add hC)
  clear hC hb
  go_wp2_with fail
  refine (wrap_step (wrapD 4 0 (seqD a (seqD b c))) (seqD a (seqD b c)) 4 0 A19 c19 _ rfl (by have := HL.out; (try simp only [seqD_length, wrapD_length, textD_len]); omega) (HD19.out.get (by simp)) hc19).mono ?_
  rintro e w20 ⟨A20, c20, rfl, hc20, hC, hb⟩
  have m0' := pw_cell_below hb m0
  clear m0
  have m0 := m0'
  clear m0'
  have m1' := pw_cell_below hb m1
  clear m1
  have m1 := m1'
  clear m1'
  have m2' := pw_cell_below hb m2
  clear m2
  have m2 := m2'
  clear m2'
  have n0' := pw_cell_below hb n0
  clear n0
  have n0 := n0'
  clear n0'
  have n1' := pw_cell_below hb n1
  clear n1
  have n1 := n1'
  clear n1'
  have HD20 := Aside0.mk ((HD19.out.step hb).add hC)
  clear hC hb
  go_wp2_with fail
  refine (koinelaw25_render.calls k A20 c20 _ AF cF fl R _ (HD20.out.get (by simp)) hc20 (HD20.out.bools HRF.out) hcF HO.out.r4).mono ?_
  rintro e w21 ⟨rfl, hb⟩
  have m0' := pw_cell_below hb m0
  clear m0
  have m0 := m0'
  clear m0'
  have m1' := pw_cell_below hb m1
  clear m1
  have m1 := m1'
  clear m1'
  have m2' := pw_cell_below hb m2
  clear m2
  have m2 := m2'
  clear m2'
  have n0' := pw_cell_below hb n0
  clear n0
  have n0 := n0'
  clear n0'
  have n1' := pw_cell_below hb n1
  clear n1
  have n1 := n1'
  clear n1'
  have HD21 := Aside0.mk (HD20.out.step hb)
  clear hb
  go_wp2_with fail
  refine (text_step (textD ⟨#[116, 101, 120, 116]⟩) ⟨#[116, 101, 120, 116]⟩ _ rfl).mono ?_
  rintro e w22 ⟨A22, c22, rfl, hc22, hC, hb⟩
  have m0' := pw_cell_below hb m0
  clear m0
  have m0 := m0'
  clear m0'
  have m1' := pw_cell_below hb m1
  clear m1
  have m1 := m1'
  clear m1'
  have m2' := pw_cell_below hb m2
  clear m2
  have m2 := m2'
  clear m2'
  have n0' := pw_cell_below hb n0
  clear n0
  have n0 := n0'
  clear n0'
  have n1' := pw_cell_below hb n1
  clear n1
  have n1 := n1'
  clear n1'
  have HD22 := Aside0.mk ((HD21.out.step hb).add hC)
  clear hC hb
  go_wp2_with fail
  refine (wrap_step (wrapD 6 0 (textD ⟨#[116, 101, 120, 116]⟩)) (textD ⟨#[116, 101, 120, 116]⟩) 6 0 A22 c22 _ rfl (by have := HL.out; (try simp only [seqD_length, wrapD_length, textD_len]); omega) (HD22.out.get (by simp)) hc22).mono ?_
  rintro e w23 ⟨A23, c23, rfl, hc23, hC, hb⟩
  have m0' := pw_cell_below hb m0
  clear m0
  have m0 := m0'
  clear m0'
  have m1' := pw_cell_below hb m1
  clear m1
  have m1 := m1'
  clear m1'
  have m2' := pw_cell_below hb m2
  clear m2
  have m2 := m2'
  clear m2'
  have n0' := pw_cell_below hb n0
  clear n0
  have n0 := n0'
  clear n0'
  have n1' := pw_cell_below hb n1
  clear n1
  have n1 := n1'
  clear n1'
  have HD23 := Aside0.mk ((HD22.out.step hb).add hC)
  clear hC hb
  go_wp2_with fail
  refine (seq_step (seqD a (wrapD 6 0 (textD ⟨#[116, 101, 120, 116]⟩))) a (wrapD 6 0 (textD ⟨#[116, 101, 120, 116]⟩)) A2 c2 A23 c23 _ rfl (by have := HL.out; (try simp only [seqD_length, wrapD_length, textD_len]); omega) (HD23.out.get (by simp)) hc2 (HD23.out.get (by simp)) hc23).mono ?_
  rintro e w24 ⟨A24, c24, rfl, hc24, hC, hb⟩
  have m0' := pw_cell_below hb m0
  clear m0
  have m0 := m0'
  clear m0'
  have m1' := pw_cell_below hb m1
  clear m1
  have m1 := m1'
  clear m1'
  have m2' := pw_cell_below hb m2
  clear m2
  have m2 := m2'
  clear m2'
  have n0' := pw_cell_below hb n0
  clear n0
  have n0 := n0'
  clear n0'
  have n1' := pw_cell_below hb n1
  clear n1
  have n1 := n1'
  clear n1'
  have HD24 := Aside0.mk ((HD23.out.step hb).add hC)
  clear hC hb
  go_wp2_with fail
  refine (koinelaw25_render.calls k A24 c24 _ AF cF fl P _ (HD24.out.get (by simp)) hc24 (HD24.out.bools HRF.out) hcF HO.out.r5).mono ?_
  rintro e w25 ⟨rfl, hb⟩
  have m0' := pw_cell_below hb m0
  clear m0
  have m0 := m0'
  clear m0'
  have m1' := pw_cell_below hb m1
  clear m1
  have m1 := m1'
  clear m1'
  have m2' := pw_cell_below hb m2
  clear m2
  have m2 := m2'
  clear m2'
  have n0' := pw_cell_below hb n0
  clear n0
  have n0 := n0'
  clear n0'
  have n1' := pw_cell_below hb n1
  clear n1
  have n1 := n1'
  clear n1'
  have HD25 := Aside0.mk (HD24.out.step hb)
  clear hb
  go_wp2_with fail
  refine (text_step (textD ⟨#[116, 101, 120, 116]⟩) ⟨#[116, 101, 120, 116]⟩ _ rfl).mono ?_
  rintro e w26 ⟨A26, c26, rfl, hc26, hC, hb⟩
  have m0' := pw_cell_below hb m0
  clear m0
  have m0 := m0'
  clear m0'
  have m1' := pw_cell_below hb m1
  clear m1
  have m1 := m1'
  clear m1'
  have m2' := pw_cell_below hb m2
  clear m2
  have m2 := m2'
  clear m2'
  have n0' := pw_cell_below hb n0
  clear n0
  have n0 := n0'
  clear n0'
  have n1' := pw_cell_below hb n1
  clear n1
  have n1 := n1'
  clear n1'
  have HD26 := Aside0.mk ((HD25.out.step hb).add hC)
  clear hC hb
  go_wp2_with fail
  refine (seq_step (seqD a (textD ⟨#[116, 101, 120, 116]⟩)) a (textD ⟨#[116, 101, 120, 116]⟩) A2 c2 A26 c26 _ rfl (by have := HL.out; (try simp only [seqD_length, wrapD_length, textD_len]); omega) (HD26.out.get (by simp)) hc2 (HD26.out.get (by simp)) hc26).mono ?_
  rintro e w27 ⟨A27, c27, rfl, hc27, hC, hb⟩
  have m0' := pw_cell_below hb m0
  clear m0
  have m0 := m0'
  clear m0'
  have m1' := pw_cell_below hb m1
  clear m1
  have m1 := m1'
  clear m1'
  have m2' := pw_cell_below hb m2
  clear m2
  have m2 := m2'
  clear m2'
  have n0' := pw_cell_below hb n0
  clear n0
  have n0 := n0'
  clear n0'
  have n1' := pw_cell_below hb n1
  clear n1
  have n1 := n1'
  clear n1'
  have HD27 := Aside0.mk ((HD26.out.step hb).add hC)
  clear hC hb
  go_wp2_with fail
  refine (koinelaw25_render.calls k A27 c27 _ AF cF fl P _ (HD27.out.get (by simp)) hc27 (HD27.out.bools HRF.out) hcF HO.out.r6).mono ?_
  rintro e w28 ⟨rfl, hb⟩
  have m0' := pw_cell_below hb m0
  clear m0
  have m0 := m0'
  clear m0'
  have m1' := pw_cell_below hb m1
  clear m1
  have m1 := m1'
  clear m1'
  have m2' := pw_cell_below hb m2
  clear m2
  have m2 := m2'
  clear m2'
  have n0' := pw_cell_below hb n0
  clear n0
  have n0 := n0'
  clear n0'
  have n1' := pw_cell_below hb n1
  clear n1
  have n1 := n1'
  clear n1'
  have HD28 := Aside0.mk (HD27.out.step hb)
  clear hb
  go_wp2_with fail
  refine (wrap_step (wrapD 4 (y % 9) b) b 4 (y % 9) A3 c3 _ rfl (by have := HL.out; (try simp only [seqD_length, wrapD_length, textD_len]); omega) (HD28.out.get (by simp)) hc3).mono ?_
  rintro e w29 ⟨A29, c29, rfl, hc29, hC, hb⟩
  have m0' := pw_cell_below hb m0
  clear m0
  have m0 := m0'
  clear m0'
  have m1' := pw_cell_below hb m1
  clear m1
  have m1 := m1'
  clear m1'
  have m2' := pw_cell_below hb m2
  clear m2
  have m2 := m2'
  clear m2'
  have n0' := pw_cell_below hb n0
  clear n0
  have n0 := n0'
  clear n0'
  have n1' := pw_cell_below hb n1
  clear n1
  have n1 := n1'
  clear n1'
  have HD29 := Aside0.mk ((HD28.out.step hb).add hC)
  clear hC hb
  go_wp2_with fail
  refine (wrap_step (wrapD 4 (x % 9) (wrapD 4 (y % 9) b)) (wrapD 4 (y % 9) b) 4 (x % 9) A29 c29 _ rfl (by have := HL.out; (try simp only [seqD_length, wrapD_length, textD_len]); omega) (HD29.out.get (by simp)) hc29).mono ?_
  rintro e w30 ⟨A30, c30, rfl, hc30, hC, hb⟩
  have m0' := pw_cell_below hb m0
  clear m0
  have m0 := m0'
  clear m0'
  have m1' := pw_cell_below hb m1
  clear m1
  have m1 := m1'
  clear m1'
  have m2' := pw_cell_below hb m2
  clear m2
  have m2 := m2'
  clear m2'
  have n0' := pw_cell_below hb n0
  clear n0
  have n0 := n0'
  clear n0'
  have n1' := pw_cell_below hb n1
  clear n1
  have n1 := n1'
  clear n1'
  have HD30 := Aside0.mk ((HD29.out.step hb).add hC)
  clear hC hb
  go_wp2_with fail
  refine (koinelaw25_render.calls k A30 c30 _ AF cF fl Q _ (HD30.out.get (by simp)) hc30 (HD30.out.bools HRF.out) hcF HO.out.r7).mono ?_
  rintro e w31 ⟨rfl, hb⟩
  have m0' := pw_cell_below hb m0
  clear m0
  have m0 := m0'
  clear m0'
  have m1' := pw_cell_below hb m1
  clear m1
  have m1 := m1'
  clear m1'
  have m2' := pw_cell_below hb m2
  clear m2
  have m2 := m2'
  clear m2'
  have n0' := pw_cell_below hb n0
  clear n0
  have n0 := n0'
  clear n0'
  have n1' := pw_cell_below hb n1
  clear n1
  have n1 := n1'
  clear n1'
  have HD31 := Aside0.mk (HD30.out.step hb)
  clear hb
  go_wp2_with fail
  refine (wrap_step (wrapD 4 (x % 9 + y % 9) b) b 4 (x % 9 + y % 9) A3 c3 _ rfl (by have := HL.out; (try simp only [seqD_length, wrapD_length, textD_len]); omega) (HD31.out.get (by simp)) hc3).mono ?_
  rintro e w32 ⟨A32, c32, rfl, hc32, hC, hb⟩
  have m0' := pw_cell_below hb m0
  clear m0
  have m0 := m0'
  clear m0'
  have m1' := pw_cell_below hb m1
  clear m1
  have m1 := m1'
  clear m1'
  have m2' := pw_cell_below hb m2
  clear m2
  have m2 := m2'
  clear m2'
  have n0' := pw_cell_below hb n0
  clear n0
  have n0 := n0'
  clear n0'
  have n1' := pw_cell_below hb n1
  clear n1
  have n1 := n1'
  clear n1'
  have HD32 := Aside0.mk ((HD31.out.step hb).add hC)
  clear hC hb
  go_wp2_with fail
  refine (koinelaw25_render.calls k A32 c32 _ AF cF fl Q _ (HD32.out.get (by simp)) hc32 (HD32.out.bools HRF.out) hcF HO.out.r8).mono ?_
  rintro e w33 ⟨rfl, hb⟩
  have m0' := pw_cell_below hb m0
  clear m0
  have m0 := m0'
  clear m0'
  have m1' := pw_cell_below hb m1
  clear m1
  have m1 := m1'
  clear m1'
  have m2' := pw_cell_below hb m2
  clear m2
  have m2 := m2'
  clear m2'
  have n0' := pw_cell_below hb n0
  clear n0
  have n0 := n0'
  clear n0'
  have n1' := pw_cell_below hb n1
  clear n1
  have n1 := n1'
  clear n1'
  have HD33 := Aside0.mk (HD32.out.step hb)
  clear hb
  go_wp2_with fail
  go_ret
  exact ⟨rfl, HD33.out.1⟩

end Go.Proofs.Ythmmdmnbcecooaa.A

/-! X3 -/
namespace Go.Proofs.Ythmmdmnbcecooaa.A
open Go.RowKit Go.Proofs.YthmmdmnbcecooaaW.PrintWords Go.Proofs.YthmmdmnbcecooaaW.PrintLast Go.Proofs.YthmmdmnbcecooaaW.PrintMore
open Go.ChangeShapes Go.WideShapes
set_option linter.unusedVariables false
set_option maxRecDepth 100000

def U8s (W : World) (A : Option Addr) (c : Nat) (l : List Int) : Prop := Kd.C (Kd.int .u8) W A l.length l ∧ l.length ≤ c ∧ (∀ x ∈ l, (Lit.int .u8 x).wf = true) ∧ l.length ≤ 140737488351232

theorem cellsU8s : Try.prog.cellsOf 22 = 1 := by kernel_rfl
theorem cellsU8 : Try.prog.cellsOf 5 = 1 := by kernel_rfl
theorem cellsA3 : Try.prog.cellsOf 57 = 3 := by kernel_rfl
theorem cellsA2 : Try.prog.cellsOf 47 = 2 := by kernel_rfl
theorem cellsN2 : Try.prog.cellsOf 58 = 2 := by kernel_rfl
theorem bytesU8 : Try.prog.bytesOf 5 = 1 := by kernel_rfl

section
variable {H : Type} {enc : TypeId × Value → H} {W : World} {base : Nat} {held : Bool}
theorem u8s_cell {n : Nat} {v : Value} {y : DataW H × List MemPlace} (h : DataW.trod enc Try.prog W base (fun _ => true) held n 22 [v] = some y) (hz : ∀ m ∈ y.1.weights Try.prog 22, m ≤ reachBytes) : ∃ A c l, v = .slice A l.length c ∧ U8s W A c l := by
  rcases open_ints Try.underlying22 Try.underlying5 cellsU8 h with ⟨hcs, _⟩ | ⟨x, l, c, zs, hcs, _, hl, hm, hz', hy, hcell, hwz⟩
  · simp at hcs
    exact ⟨none, 0, [], hcs, Kd.C_of_reads (d := (0 : Int)) (h1 := fun _ => rfl) ⟨rfl, Nat.zero_le _, fun h => absurd h (Nat.lt_irrefl 0)⟩, Nat.zero_le _, (fun x hx => by cases hx), Nat.zero_le _⟩
  · simp at hcs
    subst hcs
    have hlen : zs.length = c := by simpa using hz'
    obtain ⟨L, e1, h1, h2, h3, h4⟩ := ReadsInt.ofRowC (k := .u8) (w := W) (a := some x) (len := l) (cap := c) (zs := zs) (.inr ⟨x, rfl, hl, hm, hlen, hcell, hwz⟩)
    subst e1
    refine ⟨some x, c, L, rfl, Kd.C_of_reads (d := (0 : Int)) (h1 := fun _ => rfl) h1, h4, h3, ?_⟩
    obtain ⟨hx, _⟩ := Prod.mk.inj hy
    rw [hx] at hz
    simp only [DataW.weights, Try.underlying22] at hz
    have := hz _ (List.mem_cons_self)
    rw [bytesU8] at this
    have h5 : (lits (H := H) IntKind.u8 (zs.take L.length)).length + (lits (H := H) IntKind.u8 (zs.drop L.length)).length = zs.length := by
      simp [lits]
      omega
    rw [h5, hlen] at this
    have hr : reachBytes = 140737488351232 := rfl
    omega

theorem mem_weightsAll {P : Program} {e : TypeId} : ∀ {l : List (DataW H)} {i : Nat} {d : DataW H}, l[i]? = some d → ∀ m ∈ d.weights P e, m ∈ DataW.weightsAll P e l
  | x :: t, 0, d, h, m, hm => by
    simp at h
    subst h
    simp only [DataW.weightsAll, List.mem_append]
    exact .inl hm
  | x :: t, i + 1, d, h, m, hm => by
    simp only [List.getElem?_cons_succ] at h
    simp only [DataW.weightsAll, List.mem_append]
    exact .inr (mem_weightsAll h m hm)
  | [], i, d, h, m, hm => by simp at h

/-- The elements of an array of slices. -/
theorem arr_slices {t n fuel : Nat} (hu : Try.prog.underlying t = some (.array n 22)) {cs : List Value} {d : DataW H} {ps : List MemPlace} (h : DataW.trod enc Try.prog W base (fun _ => true) held fuel t cs = some (d, ps)) (hz : ∀ m ∈ d.weights Try.prog t, m ≤ reachBytes) :
    cs.length = Try.prog.cellsOf t ∧ ∀ i, i < n → ∀ v, cs[i]? = some v → ∃ A c l, v = .slice A l.length c ∧ U8s W A c l := by
  obtain ⟨xs, m, _, hx, hl, hxl, hi⟩ := DataW.trod_array hu h
  obtain ⟨rfl, _⟩ := Prod.mk.inj hx
  simp only [DataW.weights, hu] at hz
  refine ⟨hl, fun i hin v hv => ?_⟩
  have hg := hi i hin
  rw [cellsU8s, Nat.mul_one] at hg
  obtain ⟨hlt, hv'⟩ := List.getElem?_eq_some_iff.1 hv
  rw [List.drop_eq_getElem_cons hlt, hv'] at hg
  have hys : xs[i]? = some (xs[i]'(by omega)) := List.getElem?_eq_getElem (by omega)
  rw [hys] at hg
  refine u8s_cell hg (fun m hm => hz m (mem_weightsAll (i := i) (d := (xs[i]'(by omega)).1) ?_ m hm))
  rw [List.getElem?_map, hys]
  rfl

theorem two_cells {cs : List Value} (h : cs.length = 2) : ∃ a b, cs = [a, b] := by
  match cs, h with
  | [a, b], _ => exact ⟨a, b, rfl⟩
theorem three_cells {cs : List Value} (h : cs.length = 3) : ∃ a b c, cs = [a, b, c] := by
  match cs, h with
  | [a, b, c], _ => exact ⟨a, b, c, rfl⟩

theorem arr3_arg {v : Value} {d : DataW H} {ps : List MemPlace} {b : Nat} (hw : Value.okWide Try.prog W .any b 57 v) (h : DataW.Trod enc Try.prog W base (fun _ => true) held 57 v d ps) (hz : ∀ m ∈ d.weights Try.prog 57, m ≤ reachBytes) :
    ∃ A0 c0 l0 A1 c1 l1 A2 c2 l2, v = .agg #[.slice A0 l0.length c0, .slice A1 l1.length c1, .slice A2 l2.length c2] ∧ U8s W A0 c0 l0 ∧ U8s W A1 c1 l1 ∧ U8s W A2 c2 l2 := by
  simp only [Value.okWide, Try.underlying57] at hw
  obtain ⟨cs, rfl, hsz, _⟩ := hw
  obtain ⟨fuel, hf⟩ := h
  obtain ⟨hl, hi⟩ := arr_slices Try.underlying57 hf hz
  obtain ⟨L⟩ := cs
  rw [cellsA3] at hsz
  obtain ⟨v0, v1, v2, rfl⟩ := three_cells (cs := L) (by simpa using hsz)
  obtain ⟨A0, c0, l0, rfl, h0⟩ := hi 0 (by omega) v0 rfl
  obtain ⟨A1, c1, l1, rfl, h1⟩ := hi 1 (by omega) v1 rfl
  obtain ⟨A2, c2, l2, rfl, h2⟩ := hi 2 (by omega) v2 rfl
  exact ⟨A0, c0, l0, A1, c1, l1, A2, c2, l2, rfl, h0, h1, h2⟩

theorem arr2_arg {v : Value} {d : DataW H} {ps : List MemPlace} {b : Nat} (hw : Value.okWide Try.prog W .any b 47 v) (h : DataW.Trod enc Try.prog W base (fun _ => true) held 47 v d ps) (hz : ∀ m ∈ d.weights Try.prog 47, m ≤ reachBytes) :
    ∃ A0 c0 l0 A1 c1 l1, v = .agg #[.slice A0 l0.length c0, .slice A1 l1.length c1] ∧ U8s W A0 c0 l0 ∧ U8s W A1 c1 l1 := by
  simp only [Value.okWide, Try.underlying47] at hw
  obtain ⟨cs, rfl, hsz, _⟩ := hw
  obtain ⟨fuel, hf⟩ := h
  obtain ⟨hl, hi⟩ := arr_slices Try.underlying47 hf hz
  obtain ⟨L⟩ := cs
  rw [cellsA2] at hsz
  obtain ⟨v0, v1, rfl⟩ := two_cells (cs := L) (by simpa using hsz)
  obtain ⟨A0, c0, l0, rfl, h0⟩ := hi 0 (by omega) v0 rfl
  obtain ⟨A1, c1, l1, rfl, h1⟩ := hi 1 (by omega) v1 rfl
  exact ⟨A0, c0, l0, A1, c1, l1, rfl, h0, h1⟩

theorem nums2_arg {v : Value} {d : DataW H} {ps : List MemPlace} {b : Nat} (hw : Value.okWide Try.prog W .any b 58 v) (h : DataW.Trod enc Try.prog W base (fun _ => true) held 58 v d ps) :
    ∃ x y, v = .agg #[.int .u8 x, .int .u8 y] ∧ (Lit.int .u8 x).wf = true ∧ (Lit.int .u8 y).wf = true := by
  simp only [Value.okWide, Try.underlying58] at hw
  obtain ⟨cs, rfl, hsz, _⟩ := hw
  obtain ⟨fuel, hf⟩ := h
  obtain ⟨xs, m, _, hx, hl, hxl, hi⟩ := DataW.trod_array Try.underlying58 hf
  obtain ⟨L⟩ := cs
  rw [cellsN2] at hsz
  obtain ⟨v0, v1, rfl⟩ := two_cells (cs := L) (by simpa using hsz)
  have g0 : DataW.trod enc Try.prog W base (fun _ => true) held m 5 (List.take (Try.prog.cellsOf 5) (List.drop (0 * Try.prog.cellsOf 5) [v0, v1])) = xs[0]? := hi 0 (by omega)
  have g1 : DataW.trod enc Try.prog W base (fun _ => true) held m 5 (List.take (Try.prog.cellsOf 5) (List.drop (1 * Try.prog.cellsOf 5) [v0, v1])) = xs[1]? := hi 1 (by omega)
  rw [cellsU8, List.getElem?_eq_getElem (by omega)] at g0 g1
  obtain ⟨x, h0, _, w0⟩ := DataW.trod_int Try.underlying5 g0
  obtain ⟨y, h1, _, w1⟩ := DataW.trod_int Try.underlying5 g1
  simp at h0 h1
  subst h0 h1
  exact ⟨x, y, rfl, w0, w1⟩
end

end Go.Proofs.Ythmmdmnbcecooaa.A

/-! PureDocumentSequences -/
namespace Go.Proofs.Ythmmdmnbcecooaa.A
open Go.RowKit Go.Proofs.YthmmdmnbcecooaaW.PrintWords Go.Proofs.YthmmdmnbcecooaaW.PrintLast Go.Proofs.YthmmdmnbcecooaaW.PrintMore
set_option linter.unusedVariables false
set_option linter.unusedSimpArgs false

/-- A document of a law with its tree and its sizes. -/
structure Shp (D : List S42) (t : Doc) (n : Nat) : Prop where
  doc : Doc20 D
  shape : E D = t
  len : D.length ≤ n
  w1 : wt t ≤ 100 * n
  w2 : lv t ≤ n

theorem fits_of2 {t : Doc} {n : Nat} (h1 : wt t ≤ 100 * n) (h2 : lv t ≤ n) (h : n ≤ 10000) : Fits t := by
  refine ⟨by omega, ?_⟩
  have := Nat.mul_le_mul h2 (show wt t + 1 ≤ 100 * n + 1 by omega)
  have := Nat.mul_le_mul h (show 100 * n + 1 ≤ 1000001 by omega)
  omega
theorem Shp.seq {a b : List S42} {s t : Doc} {n m : Nat} (ha : Shp a s n) (hb : Shp b t m) (h : n + m + 1 ≤ 10000) : Shp (seqD a b) (.seq s t) (n + m + 1) := by
  have la := ha.len
  have lb := hb.len
  have e : E (seqD a b) = .seq s t := by rw [E_seq ha.doc.good hb.doc.good (by omega), ha.shape, hb.shape]
  have w1 : wt (.seq s t) ≤ 100 * (n + m + 1) := by have := ha.w1; have := hb.w1; simp only [wt]; omega
  have w2 : lv (.seq s t) ≤ n + m + 1 := by have := ha.w2; have := hb.w2; simp only [lv]; omega
  exact ⟨⟨good_seq ha.doc.good hb.doc.good (by omega), ha.doc.tb.seq hb.doc.tb, by rw [e]; exact fits_of2 w1 w2 h⟩, e, by rw [seqD_length]; omega, w1, w2⟩
theorem Shp.nest {a : List S42} {s : Doc} {n : Nat} (ha : Shp a s n) {k : Int} (hk : 0 ≤ k ∧ k ≤ 100) (h : n + 1 ≤ 10000) : Shp (wrapD 4 k a) (.nest k s) (n + 1) := by
  have la := ha.len
  have e : E (wrapD 4 k a) = .nest k s := by rw [E_nest ha.doc.good (by omega) (by omega), ha.shape]
  have w1 : wt (.nest k s) ≤ 100 * (n + 1) := by have := ha.w1; simp only [wt]; omega
  have w2 : lv (.nest k s) ≤ n + 1 := by have := ha.w2; simp only [lv]; omega
  exact ⟨⟨good_wrap ha.doc.good (by omega) (by omega) (fun h => absurd rfl h) (by omega), ha.doc.tb.wrap _ _, by rw [e]; exact fits_of2 w1 w2 h⟩, e, by rw [wrapD_length]; omega, w1, w2⟩
theorem Shp.group {a : List S42} {s : Doc} {n : Nat} (ha : Shp a s n) (h : n + 1 ≤ 10000) : Shp (wrapD 6 0 a) (.group 0 s) (n + 1) := by
  have la := ha.len
  have e : E (wrapD 6 0 a) = .group 0 s := by rw [E_group ha.doc.good (by omega), ha.shape]
  have w1 : wt (.group 0 s) ≤ 100 * (n + 1) := by have := ha.w1; simp only [wt]; omega
  have w2 : lv (.group 0 s) ≤ n + 1 := by have := ha.w2; simp only [lv]; omega
  exact ⟨⟨good_wrap ha.doc.good (by omega) (by omega) (fun _ => rfl) (by omega), ha.doc.tb.wrap _ _, by rw [e]; exact fits_of2 w1 w2 h⟩, e, by rw [wrapD_length]; omega, w1, w2⟩
theorem Shp.text {s : ByteArray} (h1 : s.size ≤ 20) (h2 : Lib.indexByte s.data.toList 10 < 0) : Shp (textD s) (.text s) 1 := by
  have hl := data_length s
  have w1 : wt (.text s) ≤ 100 * 1 := by simp only [wt]; omega
  exact ⟨⟨text_ok h2, Tb.text h1, by rw [E_text]; exact fits_of2 w1 (Nat.le_refl 1) (by omega)⟩, E_text s, Nat.le_refl 1, w1, Nat.le_refl 1⟩
theorem Shp.made {l : List Int} {most : Int} (hb : ∀ x ∈ l, 0 ≤ x ∧ x ≤ 255) (hm : most ≤ 1000) : Shp (madeDoc l most) (E (madeDoc l most)) 2000 := by
  have hs : MadeP (madeDoc l most) := made_shape hb hm
  have hn := (made_good hb hm).2
  exact ⟨made_doc hb hm, rfl, hn, by have := hs.2.2; omega, by have := hs.2.1; omega⟩
theorem Shp.render {D : List S42} {t : Doc} {n : Nat} (h : Shp D t n) (fl : List Bool) {k : Nat} (hk : 1000000 ≤ k) : koinelaw25_render.f k D fl = some ⟨(rnd t fl).toArray⟩ := by
  rw [lawrender_f h.doc fl hk, h.shape]

/-! ### Sequences are associative; empty texts, indentations of 0 and groups without line breaks change nothing -/
theorem ng_gh (t : Doc) (fl : List Bool) : (chz (gh t) fl).length = ng t := by rw [chz_length, gh_length]
/-- Writing with the possible flags that begin with fl. -/
def wq (t : Doc) (ind : Int) (flat : Bool) (fl : List Bool) (st : St) : St := wrP t ind flat (chz (gh t) fl) st
theorem wq_seq (a b : Doc) (ind : Int) (flat : Bool) (fl : List Bool) (st : St) : wq (.seq a b) ind flat fl st = wq b ind flat (fl.drop (ng a)) (wq a ind flat fl st) := by
  unfold wq
  simp only [wrP, gh]
  rw [chz_append, List.drop_left' (ng_gh a fl), List.take_left' (ng_gh a fl), gh_length]
theorem rnd_wq (t : Doc) (fl : List Bool) : rnd t fl = (wq t 0 false fl st0).out := rfl
theorem wq_empty (ind : Int) (flat : Bool) (fl : List Bool) (st : St) : wq (.text ⟨#[]⟩) ind flat fl st = st := rfl
theorem wq_nest (n : Int) (a : Doc) (ind : Int) (flat : Bool) (fl : List Bool) (st : St) : wq (.nest n a) ind flat fl st = wq a (ind + n) flat fl st := rfl

theorem rnd_assoc (a b c : Doc) (fl : List Bool) : rnd (.seq a (.seq b c)) fl = rnd (.seq (.seq a b) c) fl := by
  rw [rnd_wq, rnd_wq, wq_seq, wq_seq, wq_seq, wq_seq, List.drop_drop]
  simp only [ng]
theorem rnd_empties (a b c : Doc) (fl : List Bool) : rnd (.seq (.seq (.text ⟨#[]⟩) (.seq a b)) (.seq (.text ⟨#[]⟩) (.seq c (.text ⟨#[]⟩)))) fl = rnd (.seq (.seq a b) c) fl := by
  rw [rnd_wq, rnd_wq]
  simp only [wq_seq, wq_empty, ng, List.drop_zero, List.drop_drop, Nat.zero_add, Nat.add_zero]
theorem rnd_nest0 (t : Doc) (fl : List Bool) : rnd (.nest 0 t) fl = rnd t fl := rfl
theorem rnd_nests (n m : Int) (t : Doc) (fl : List Bool) : rnd (.nest n (.nest m t)) fl = rnd (.nest (n + m) t) fl := by
  rw [rnd_wq, rnd_wq, wq_nest, wq_nest, wq_nest, Int.add_assoc]
theorem rnd_plain (a : Doc) (s : ByteArray) (fl : List Bool) : rnd (.seq a (.group 0 (.text s))) fl = rnd (.seq a (.text s)) fl := by
  rw [rnd_wq, rnd_wq, wq_seq, wq_seq]
  rfl

theorem seqs_ok {l0 l1 l2 : List Int} (h0 : ∀ x ∈ l0, 0 ≤ x ∧ x ≤ 255) (h1 : ∀ x ∈ l1, 0 ≤ x ∧ x ≤ 255) (h2 : ∀ x ∈ l2, 0 ≤ x ∧ x ≤ 255) (fl : List Bool) {x y : Int} (hx : 0 ≤ x) (hy : 0 ≤ y) :
    ∃ R P Q, SeqsOk (madeDoc l0 20) (madeDoc l1 20) (madeDoc l2 20) fl 2000000 x y R P Q := by
  have a := Shp.made (most := 20) h0 (by decide)
  have b := Shp.made (most := 20) h1 (by decide)
  have c := Shp.made (most := 20) h2 (by decide)
  have e := Shp.text (s := ⟨#[]⟩) (by decide) (by decide)
  have t := Shp.text (s := ⟨#[116, 101, 120, 116]⟩) (by decide) (by decide)
  refine ⟨_, _, _, (((a.seq b (by decide)).seq c (by decide)).render fl (by decide)), ?_, ?_, ?_, ((a.seq (t.group (by decide)) (by decide)).render fl (by decide)), ?_, (((b.nest (k := y % 9) (by omega) (by decide)).nest (k := x % 9) (by omega) (by decide)).render fl (by decide)), ?_⟩
  · rw [(a.seq (b.seq c (by decide)) (by decide)).render fl (by decide), rnd_assoc]
  · rw [((e.seq (a.seq b (by decide)) (by decide)).seq (e.seq (c.seq e (by decide)) (by decide)) (by decide)).render fl (by decide), rnd_empties]
  · rw [((a.seq (b.seq c (by decide)) (by decide)).nest (k := 0) (by decide) (by decide)).render fl (by decide), rnd_nest0, rnd_assoc]
  · rw [(a.seq t (by decide)).render fl (by decide), rnd_plain]
  · rw [(b.nest (k := x % 9 + y % 9) (by omega) (by decide)).render fl (by decide), rnd_nests]

theorem documentSequences_walk (w : World) (A0 : Option Addr) (c0 : Nat) (l0 : List Int) (hr0 : Kd.C (Kd.int .u8) w A0 l0.length l0) (hc0 : l0.length ≤ c0) (hw0 : ∀ x ∈ l0, (Lit.int .u8 x).wf = true) (y0 : l0.length ≤ 281474976710656)
    (A1 : Option Addr) (c1 : Nat) (l1 : List Int) (hr1 : Kd.C (Kd.int .u8) w A1 l1.length l1) (hc1 : l1.length ≤ c1) (hw1 : ∀ x ∈ l1, (Lit.int .u8 x).wf = true) (y1 : l1.length ≤ 281474976710656)
    (A2 : Option Addr) (c2 : Nat) (l2 : List Int) (hr2 : Kd.C (Kd.int .u8) w A2 l2.length l2) (hc2 : l2.length ≤ c2) (hw2 : ∀ x ∈ l2, (Lit.int .u8 x).wf = true) (y2 : l2.length ≤ 281474976710656)
    (AF : Option Addr) (cF : Nat) (fl : List Bool) (hrF : Kd.C Kd.bool w AF fl.length fl) (hcF : fl.length ≤ cF) (hmF : fl.length ≤ maxLen) (x y : Int) (wx : (Lit.int .u8 x).wf = true) (wy : (Lit.int .u8 y).wf = true) :
    Calls Try.prog 10 #[.agg #[.slice A0 l0.length c0, .slice A1 l1.length c1, .slice A2 l2.length c2], .slice AF fl.length cF, .agg #[.int .u8 x, .int .u8 y]] w fun e w' => e = .returned (.bool true) ∧ Below w.heap.size w w' := by
  have hx := bytes_of (l := [x]) (fun z hz => by rw [List.mem_singleton.1 hz]; exact wx) x (by simp)
  have hy := bytes_of (l := [y]) (fun z hz => by rw [List.mem_singleton.1 hz]; exact wy) y (by simp)
  have b0 := bytes_of hw0
  have b1 := bytes_of hw1
  have b2 := bytes_of hw2
  obtain ⟨R, P, Q, ho⟩ := seqs_ok b0 b1 b2 fl hx.1 hy.1
  exact seqs_calls w A0 c0 l0 A1 c1 l1 A2 c2 l2 AF cF fl x y hr0 hc0 hr1 hc1 hr2 hc2 hrF hcF hx.1 hx.2 hy.1 hy.2 _ _ _ 2000000 R P Q (made_f b0 (by decide) y0) (made_f b1 (by decide) y1) (made_f b2 (by decide) y2)
    ⟨by have := (Shp.made (most := 20) b0 (by decide)).len; omega, by have := (Shp.made (most := 20) b1 (by decide)).len; omega, by have := (Shp.made (most := 20) b2 (by decide)).len; omega⟩ ho

end Go.Proofs.Ythmmdmnbcecooaa.A

/-! LawDocumentSequences -/
namespace Go.Proofs.Ythmmdmnbcecooaa.documentSequences
open Go.ChangeShapes Go.WideShapes Go.ChangeAt Go.RowKit
open Go.ChangeMaps (open_string shut_string)
open Go.Proofs.YthmmdmnbcecooaaW.PrintWords
set_option linter.unusedVariables false
theorem own : ownKnob Try.prog.godebug = none := by kernel_rfl
theorem laidOut : laidOutB Try.prog = true := by kernel_rfl
def IsRow (k : IntKind) (w : World) (a : Option Addr) (len cap : Nat) (zs : List Int) : Prop :=
  (a = none ∧ len = 0 ∧ cap = 0 ∧ zs = []) ∨
  ∃ x, a = some x ∧ len ≤ cap ∧ cap ≤ maxLen ∧ zs.length = cap ∧ (∀ i, i < zs.length → w.cell? (x.add i) = some (.int k (zs.getD i 0))) ∧ ∀ n ∈ zs, (Lit.int k n).wf = true
set_option maxRecDepth 100000 in
theorem lifted (os : Os) (started : os.Started) (H : Type) (enc : TypeId × Value → H) :
    ReturnsInHanded {} Try.checked os 10 .any (Rows.documentSequencesSpec.pre6 enc Try.prog Try.f10 Rows.documentSequencesRow.domain false) (Rows.documentSequencesSpec.post enc Try.prog Try.f10 false true false false) := by
  refine returnsInHanded_of_change_sized (C := Try.checked) own started (by kernel_rfl) Try.func10
    (ChangeSpec.witness6 (enc := enc) (C := Try.checked) false ⟨#[], #[.agg #[.slice none 0 0, .slice none 0 0, .slice none 0 0], .slice none 0 0, .agg #[.int .u8 0, .int .u8 0]], []⟩ 8 (by kernel_rfl) (by kernel_rfl) (by kernel_rfl) (by kernel_rfl)) ?_
  intro W base args ds gs before hval0 hW hcnd hsz0 _
  have hsz : (DataW.weightsEach Try.prog (Try.f10.params.toList ++ Rows.documentSequencesSpec.plain.varTypes Try.prog) (ds ++ gs)).all (· ≤ reachBytes) = true := hsz0
  have hval : ∀ (j : Nat) t v, Try.f10.params[j]? = some t → args[j]? = some v → Value.okWide Try.prog W .any base t v := hval0
  have hW' := hW
  obtain ⟨p, q, hA0, hV, rfl, hfz, hnd⟩ := hW
  have hA : DataW.TrodAll enc Try.prog W 0 (fun _ => true) true Try.f10.params.toList args.toList ds p := hA0
  rw [Try.params10] at hA hval hsz
  obtain ⟨v0, vs0, d0, ds0, p0, q0, hargs, rfl, rfl, h0, r0⟩ := trodAll_cons hA
  obtain ⟨v1, vs1, d1, ds1, p1, q1, rfl, rfl, rfl, h1, r1⟩ := trodAll_cons r0
  obtain ⟨v2, vs2, d2, ds2, p2, q2, rfl, rfl, rfl, h2, r2⟩ := trodAll_cons r1
  obtain ⟨rfl, rfl, rfl⟩ := trodAll_nil r2
  obtain rfl : args = #[v0, v1, v2] := by cases args; simp_all
  obtain ⟨rfl, rfl⟩ := trodVars_none hV
  have k0 := h0
  have lt0 : ∀ x ∈ p0, x.block < W.heap.size := by obtain ⟨m, hm⟩ := k0; exact DataW.trod_lt m _ _ _ hm
  have z0 : ∀ m ∈ d0.weights Try.prog 57, m ≤ reachBytes := fun m hm => by simpa using List.all_eq_true.1 hsz m (DataW.weights_mem_each (j := 0) (t := 57) rfl rfl m hm)
  obtain ⟨A00, c00, l00, A01, c01, l01, A02, c02, l02, rfl, u00, u01, u02⟩ := A.arr3_arg (hval 0 57 v0 rfl rfl) h0 z0
  obtain ⟨a1, len1, cap1, rfl⟩ := okWide_slice Try.underlying23 (hval 1 23 v1 rfl rfl)
  have k1 := h1
  have lt1 : ∀ x ∈ p1, x.block < W.heap.size := by obtain ⟨m, hm⟩ := k1; exact DataW.trod_lt m _ _ _ hm
  obtain ⟨l1, rfl, hr1, hm1, hc1⟩ := A.bools_arg Try.underlying23 Try.underlying4 (by kernel_rfl) h1
  have k2 := h2
  have lt2 : ∀ x ∈ p2, x.block < W.heap.size := by obtain ⟨m, hm⟩ := k2; exact DataW.trod_lt m _ _ _ hm
  obtain ⟨x2, y2, rfl, wx2, wy2⟩ := A.nums2_arg (hval 2 58 v2 rfl rfl) h2
  clear hA0 hval0 hsz0 hsz
  refine (A.documentSequences_walk W A00 c00 l00 u00.1 u00.2.1 u00.2.2.1 (Nat.le_trans u00.2.2.2 (by decide)) A01 c01 l01 u01.1 u01.2.1 u01.2.2.1 (Nat.le_trans u01.2.2.2 (by decide)) A02 c02 l02 u02.1 u02.2.1 u02.2.2.1 (Nat.le_trans u02.2.2.2 (by decide)) a1 cap1 l1 hr1 hc1 hm1 x2 y2 wx2 wy2).mono fun e W' ⟨he, bel⟩ => ?_
  subst he
  exact ⟨_, rfl, _, _, _, [], _, [], hW', trodAll_mk1 (shut_bool Try.underlying4 _), (trodAll_cons_mk (Below.trod laidOut (by kernel_rfl) (of_decide_eq_true (by kernel_rfl)) k0 bel lt0) (trodAll_cons_mk (Below.trod laidOut (by kernel_rfl) (of_decide_eq_true (by kernel_rfl)) k1 bel lt1) (trodAll_cons_mk (Below.trod laidOut (by kernel_rfl) (of_decide_eq_true (by kernel_rfl)) k2 bel lt2) trodAll_mk0))), rfl, bel.frame _, fun h => by cases h⟩
theorem over : Rows.documentSequencesRow.holds Try.pinned (OpenSpec.ofChange Rows.documentSequencesSpec) :=
  OpenClaim.holds_of_wide 10 Try.f10 rfl rfl rfl rfl rfl rfl rfl ⟨rfl, rfl, rfl, rfl, rfl⟩ rfl rfl rfl rfl rfl (by kernel_rfl) Try.func10 (by kernel_rfl)
    (of_decide_eq_true (by kernel_rfl)) (by unfold Func.isWrapper; first | (rw [if_pos (by decide +kernel)]; kernel_rfl) | (rw [if_neg (by decide +kernel)]; exact ⟨rfl, rfl⟩))
    (fun os started H enc _ => lifted os started H enc)
theorem proved : Rows.DocumentSequencesSaid := over
end Go.Proofs.Ythmmdmnbcecooaa.documentSequences
namespace Go.Proofs.Ythmmdmnbcecooaa
/-- The row, under a short name, for the claim. -/
theorem documentSequences_holds : Rows.DocumentSequencesSaid := documentSequences.proved
#print axioms documentSequences_holds
end Go.Proofs.Ythmmdmnbcecooaa
