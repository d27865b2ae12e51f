/- V3, PureLayoutCongruence, LawLayoutCongruence: what the claims rest on of these texts, one behind the other. No condition of its own. -/
import Derived.Test.YthmmdmnbcecooaaZY14
import Derived.Deep.DeepCutAuto
import Derived.Deep.CutBlock
import Derived.Deep.RegionHeld3
import Derived.WalkKit
import Derived.ProofKit
import Derived.OpenShut
import Derived.ShutString
import Derived.ChangeOld
import Derived.ChangeSlices
import Derived.Below
import Derived.SizedLaws
import Derived.Test.YthmmdmnbcecooaaRows
section
namespace Go.Proofs.Ythmmdmnbcecooaa.A
open Go.RowKit Go.Proofs.YthmmdmnbcecooaaW.PrintWords Go.Proofs.YthmmdmnbcecooaaW.PrintLast Go.Proofs.YthmmdmnbcecooaaW.PrintMore
attribute [local go_sem] max2_int max_two
set_option linter.unusedVariables false
set_option linter.unusedSimpArgs false
attribute [local go_sem high] eqA36
theorem docs_of {w W : World} {L : List (Option Addr × List S42)} (h : Below w.heap.size w W) (hL : ∀ p ∈ L, Kd.C k42 W p.1 p.2.length p.2) : Docs w W L := ⟨h, hL⟩
theorem textD_len26 (s : ByteArray) : (textD s).length = 1 := rfl
set_option maxHeartbeats 4000000 in
set_option maxRecDepth 100000 in
theorem congruence_calls (w : World) (MA0 : Option Addr) (mc0 : Nat) (ml0 : List Int) (MA1 : Option Addr) (mc1 : Nat) (ml1 : List Int) (MA2 : Option Addr) (mc2 : Nat) (ml2 : List Int)
    (hM0 : Kd.C (Kd.int .u8) w MA0 ml0.length ml0) (hmc0 : ml0.length ≤ mc0) (hM1 : Kd.C (Kd.int .u8) w MA1 ml1.length ml1) (hmc1 : ml1.length ≤ mc1) (hM2 : Kd.C (Kd.int .u8) w MA2 ml2.length ml2) (hmc2 : ml2.length ≤ mc2) (y : Int) (hy : 0 ≤ y) (hy2 : y ≤ 255) (a b c : List S42)
    (hf0 : koineref25_Made.f ml0 20 = some a) (hf1 : koineref25_Made.f ml1 20 = some b) (hf2 : koineref25_Made.f ml2 20 = some c) (hl : a.length ≤ 10000 ∧ b.length ≤ 10000 ∧ c.length ≤ 10000) (T1 : ByteArray) (B1 L1 : Int)
    (h1 : layout_Best.f (seqD (seqD a b) c) (y % 40) = some (T1, B1, L1, 0)) (h2 : layout_Best.f (seqD a (seqD b c)) (y % 40) = some (T1, B1, L1, 0)) (h3 : layout_Best.f (seqD (textD ⟨#[]⟩) (wrapD 4 0 (seqD (seqD a (seqD b c)) (textD ⟨#[]⟩)))) (y % 40) = some (T1, B1, L1, 0)) :
    Calls Try.prog 19 #[.agg #[.slice MA0 ml0.length mc0, .slice MA1 ml1.length mc1, .slice MA2 ml2.length mc2], .int .u8 y] w fun e w' => e = .returned (.bool true) ∧ Below w.heap.size w w' := by
  have HM0 := Aside0.mk hM0
  have HF0 := Aside0.mk hf0
  have HM1 := Aside0.mk hM1
  have HF1 := Aside0.mk hf1
  have HM2 := Aside0.mk hM2
  have HF2 := Aside0.mk hf2
  have HL := Aside0.mk hl
  have H1 := Aside0.mk h1
  have H2 := Aside0.mk h2
  have H3 := Aside0.mk h3
  clear hM0 hf0 hM1 hf1 hM2 hf2 hl h1 h2 h3
  go_enter Try.func19, Try.ntmps19
  go_wp2_with fail
  refine (koinelaw26_sanity.calls true _ rfl).mono ?_
  rintro e w1 ⟨rfl, hb⟩
  have hbl := (hb.block w.heap.size (by rw [alloc_sz]; omega)).trans (heap_alloc_new w _)
  have HS := Aside0.mk (show w1.drew.cell? ⟨w.heap.size, 0, none⟩ = some (.slice MA0 ml0.length mc0) ∧ w1.drew.cell? ⟨w.heap.size, 1, none⟩ = some (.slice MA1 ml1.length mc1) ∧ w1.drew.cell? ⟨w.heap.size, 2, none⟩ = some (.slice MA2 ml2.length mc2) ∧ Below w.heap.size w w1.drew from ⟨(blk_cell hbl 0).trans rfl, (blk_cell hbl 1).trans rfl, (blk_cell hbl 2).trans rfl, below_drew1 (below_then (below_alloc (Below.refl _ _) _) (below_alloc (Below.refl _ _) _).size hb)⟩)
  clear hb hbl
  go_upto_region 2 with fail
  go_cut [6, 7, 8] (fun v6 v7 v8 wc => ∃ (A0 : Option Addr) (c0 : Nat) (A1 : Option Addr) (c1 : Nat) (A2 : Option Addr) (c2 : Nat), v6 = .slice A0 a.length c0 ∧ v7 = .slice A1 b.length c1 ∧ v8 = .slice A2 c.length c2 ∧ Aside0 (Docs w wc [(A0, a), (A1, b), (A2, c)]) ∧ Aside0 (a.length ≤ c0 ∧ b.length ≤ c1 ∧ c.length ≤ c2))
  case first =>
    go_region_held3 (fun w' => w'.cell? ⟨w.heap.size, 0, none⟩ = some (.slice MA0 ml0.length mc0) ∧ w'.cell? ⟨w.heap.size, 1, none⟩ = some (.slice MA1 ml1.length mc1) ∧ w'.cell? ⟨w.heap.size, 2, none⟩ = some (.slice MA2 ml2.length mc2) ∧ Below w.heap.size w w') (exact ⟨HS.out.1, HS.out.2.1, HS.out.2.2.1, HS.out.2.2.2⟩) (first | (go_at_call_of 21 (Value.slice MA0 ml0.length mc0); refine (made_step a MA0 mc0 ml0 20 _ (Kd.C_below HM0.out HS.out.2.2.2) hmc0 HF0.out).mono ?_; rintro e w5 ⟨A0, c0, rfl, hc0, hC, hb⟩; have n_ := Aside0.mk (And.intro (pw_cell_below hb HS.out.1) (And.intro (pw_cell_below hb HS.out.2.1) (And.intro (pw_cell_below hb HS.out.2.2.1) (below_step HS.out.2.2.2 hb)))); clear HS; have HS := n_; clear n_; (try have m_ := Aside0.mk (Kd.C_below HD1.out hb)); (try clear HD1); (try have HD1 := m_); (try clear m_); (try have m_ := Aside0.mk (Kd.C_below HD2.out hb)); (try clear HD2); (try have HD2 := m_); (try clear m_); have HD0 := Aside0.mk hC; clear hC hb) | (go_at_call_of 21 (Value.slice MA1 ml1.length mc1); refine (made_step b MA1 mc1 ml1 20 _ (Kd.C_below HM1.out HS.out.2.2.2) hmc1 HF1.out).mono ?_; rintro e w5 ⟨A1, c1, rfl, hc1, hC, hb⟩; have n_ := Aside0.mk (And.intro (pw_cell_below hb HS.out.1) (And.intro (pw_cell_below hb HS.out.2.1) (And.intro (pw_cell_below hb HS.out.2.2.1) (below_step HS.out.2.2.2 hb)))); clear HS; have HS := n_; clear n_; (try have m_ := Aside0.mk (Kd.C_below HD0.out hb)); (try clear HD0); (try have HD0 := m_); (try clear m_); (try have m_ := Aside0.mk (Kd.C_below HD2.out hb)); (try clear HD2); (try have HD2 := m_); (try clear m_); have HD1 := Aside0.mk hC; clear hC hb) | (go_at_call_of 21 (Value.slice MA2 ml2.length mc2); refine (made_step c MA2 mc2 ml2 20 _ (Kd.C_below HM2.out HS.out.2.2.2) hmc2 HF2.out).mono ?_; rintro e w5 ⟨A2, c2, rfl, hc2, hC, hb⟩; have n_ := Aside0.mk (And.intro (pw_cell_below hb HS.out.1) (And.intro (pw_cell_below hb HS.out.2.1) (And.intro (pw_cell_below hb HS.out.2.2.1) (below_step HS.out.2.2.2 hb)))); clear HS; have HS := n_; clear n_; (try have m_ := Aside0.mk (Kd.C_below HD0.out hb)); (try clear HD0); (try have HD0 := m_); (try clear m_); (try have m_ := Aside0.mk (Kd.C_below HD1.out hb)); (try clear HD1); (try have HD1 := m_); (try clear m_); have HD2 := Aside0.mk hC; clear hC hb))
    all_goals
      go_wp2_with fail
      go_meet
      case rel => exact ⟨A0, c0, A1, c1, A2, c2, rfl, rfl, rfl, ⟨docs_of HS.out.2.2.2 (by intro p hp; simp only [List.mem_cons, List.not_mem_nil, or_false] at hp; rcases hp with rfl | rfl | rfl <;> first | exact HD0.out | exact HD1.out | exact HD2.out)⟩, ⟨hc0, hc1, hc2⟩⟩
  case rest =>
  obtain ⟨A0, c0, A1, c1, A2, c2, rfl, rfl, rfl, HD, hcs⟩ := hcut
  obtain ⟨hc0, hc1, hc2⟩ := hcs.out
  clear hcs
  go_wp2_with fail
  refine (seq_step (seqD a b) a b A0 c0 A1 c1 _ rfl (by have := HL.out; (try simp only [seqD_length, wrapD_length, textD_len26, List.length_cons, List.length_nil]); omega) (HD.out.get (by simp)) hc0 (HD.out.get (by simp)) hc1).mono ?_
  rintro e w11 ⟨A11, c11, rfl, hc11, hC, hb⟩
  have HD11 := Aside0.mk ((HD.out.step hb).add hC)
  clear hC hb
  go_wp2_with fail
  refine (seq_step (seqD (seqD a b) c) (seqD a b) c A11 c11 A2 c2 _ rfl (by have := HL.out; (try simp only [seqD_length, wrapD_length, textD_len26, List.length_cons, List.length_nil]); omega) (HD11.out.get (by simp)) hc11 (HD11.out.get (by simp)) hc2).mono ?_
  rintro e w12 ⟨A12, c12, rfl, hc12, hC, hb⟩
  have HD12 := Aside0.mk ((HD11.out.step hb).add hC)
  clear hC hb
  go_wp2_with fail
  refine (layout_Best.calls A12 c12 (seqD (seqD a b) c) (y % 40) T1 B1 L1 0 _ (HD12.out.get (by simp)) hc12 H1.out).mono ?_
  rintro e w13 ⟨rfl, hb⟩
  have HD13 := Aside0.mk ((HD12.out.step hb).alloc (.cells #[.int .i64 (B1), .int .i64 (L1)] 36))
  have K13 := Aside0.mk (heap_alloc_new w13 (.cells #[.int .i64 (B1), .int .i64 (L1)] 36))
  clear hb
  go_wp2_with fail
  refine (seq_step (seqD b c) b c A1 c1 A2 c2 _ rfl (by have := HL.out; (try simp only [seqD_length, wrapD_length, textD_len26, List.length_cons, List.length_nil]); omega) (HD13.out.get (by simp)) hc1 (HD13.out.get (by simp)) hc2).mono ?_
  rintro e w14 ⟨A14, c14, rfl, hc14, hC, hb⟩
  have k_ := Aside0.mk ((hb.block _ (blk_lt K13.out)).trans K13.out); clear K13; have K13 := k_; clear k_
  have HD14 := Aside0.mk ((HD13.out.step hb).add hC)
  clear hC hb
  go_wp2_with fail
  refine (seq_step (seqD a (seqD b c)) a (seqD b c) A0 c0 A14 c14 _ rfl (by have := HL.out; (try simp only [seqD_length, wrapD_length, textD_len26, List.length_cons, List.length_nil]); omega) (HD14.out.get (by simp)) hc0 (HD14.out.get (by simp)) hc14).mono ?_
  rintro e w15 ⟨A15, c15, rfl, hc15, hC, hb⟩
  have k_ := Aside0.mk ((hb.block _ (blk_lt K13.out)).trans K13.out); clear K13; have K13 := k_; clear k_
  have HD15 := Aside0.mk ((HD14.out.step hb).add hC)
  clear hC hb
  go_wp2_with fail
  refine (layout_Best.calls A15 c15 (seqD a (seqD b c)) (y % 40) T1 B1 L1 0 _ (HD15.out.get (by simp)) hc15 H2.out).mono ?_
  rintro e w16 ⟨rfl, hb⟩
  have k_ := Aside0.mk ((hb.block _ (blk_lt K13.out)).trans K13.out); clear K13; have K13 := k_; clear k_
  have HD16 := Aside0.mk ((HD15.out.step hb).alloc (.cells #[.int .i64 (B1), .int .i64 (L1)] 36))
  have k_ := Aside0.mk (blk_alloc K13.out (.cells #[.int .i64 (B1), .int .i64 (L1)] 36)); clear K13; have K13 := k_; clear k_
  have K16 := Aside0.mk (heap_alloc_new w16 (.cells #[.int .i64 (B1), .int .i64 (L1)] 36))
  clear hb
  go_wp2_with fail
  refine (text_step (textD ⟨#[]⟩) ⟨#[]⟩ _ rfl).mono ?_
  rintro e w17 ⟨A17, c17, rfl, hc17, hC, hb⟩
  have k_ := Aside0.mk ((hb.block _ (blk_lt K13.out)).trans K13.out); clear K13; have K13 := k_; clear k_
  have k_ := Aside0.mk ((hb.block _ (blk_lt K16.out)).trans K16.out); clear K16; have K16 := k_; clear k_
  have HD17 := Aside0.mk ((HD16.out.step hb).add hC)
  clear hC hb
  go_wp2_with fail
  refine (seq_step (seqD b c) b c A1 c1 A2 c2 _ rfl (by have := HL.out; (try simp only [seqD_length, wrapD_length, textD_len26, List.length_cons, List.length_nil]); omega) (HD17.out.get (by simp)) hc1 (HD17.out.get (by simp)) hc2).mono ?_
  rintro e w18 ⟨A18, c18, rfl, hc18, hC, hb⟩
  have k_ := Aside0.mk ((hb.block _ (blk_lt K13.out)).trans K13.out); clear K13; have K13 := k_; clear k_
  have k_ := Aside0.mk ((hb.block _ (blk_lt K16.out)).trans K16.out); clear K16; have K16 := k_; clear k_
  have HD18 := Aside0.mk ((HD17.out.step hb).add hC)
  clear hC hb
  go_wp2_with fail
  refine (seq_step (seqD a (seqD b c)) a (seqD b c) A0 c0 A18 c18 _ rfl (by have := HL.out; (try simp only [seqD_length, wrapD_length, textD_len26, List.length_cons, List.length_nil]); omega) (HD18.out.get (by simp)) hc0 (HD18.out.get (by simp)) hc18).mono ?_
  rintro e w19 ⟨A19, c19, rfl, hc19, hC, hb⟩
  have k_ := Aside0.mk ((hb.block _ (blk_lt K13.out)).trans K13.out); clear K13; have K13 := k_; clear k_
  have k_ := Aside0.mk ((hb.block _ (blk_lt K16.out)).trans K16.out); clear K16; have K16 := k_; clear k_
  have HD19 := Aside0.mk ((HD18.out.step hb).add hC)
  clear hC hb
  go_wp2_with fail
  refine (text_step (textD ⟨#[]⟩) ⟨#[]⟩ _ rfl).mono ?_
  rintro e w20 ⟨A20, c20, rfl, hc20, hC, hb⟩
  have k_ := Aside0.mk ((hb.block _ (blk_lt K13.out)).trans K13.out); clear K13; have K13 := k_; clear k_
  have k_ := Aside0.mk ((hb.block _ (blk_lt K16.out)).trans K16.out); clear K16; have K16 := k_; clear k_
  have HD20 := Aside0.mk ((HD19.out.step hb).add hC)
  clear hC hb
  go_wp2_with fail
  refine (seq_step (seqD (seqD a (seqD b c)) (textD ⟨#[]⟩)) (seqD a (seqD b c)) (textD ⟨#[]⟩) A19 c19 A20 c20 _ rfl (by have := HL.out; (try simp only [seqD_length, wrapD_length, textD_len26, List.length_cons, List.length_nil]); omega) (HD20.out.get (by simp)) hc19 (HD20.out.get (by simp)) hc20).mono ?_
  rintro e w21 ⟨A21, c21, rfl, hc21, hC, hb⟩
  have k_ := Aside0.mk ((hb.block _ (blk_lt K13.out)).trans K13.out); clear K13; have K13 := k_; clear k_
  have k_ := Aside0.mk ((hb.block _ (blk_lt K16.out)).trans K16.out); clear K16; have K16 := k_; clear k_
  have HD21 := Aside0.mk ((HD20.out.step hb).add hC)
  clear hC hb
  go_wp2_with fail
  refine (wrap_step (wrapD 4 0 (seqD (seqD a (seqD b c)) (textD ⟨#[]⟩))) (seqD (seqD a (seqD b c)) (textD ⟨#[]⟩)) 4 0 A21 c21 _ rfl (by have := HL.out; (try simp only [seqD_length, wrapD_length, textD_len26, List.length_cons, List.length_nil]); omega) (HD21.out.get (by simp)) hc21).mono ?_
  rintro e w22 ⟨A22, c22, rfl, hc22, hC, hb⟩
  have k_ := Aside0.mk ((hb.block _ (blk_lt K13.out)).trans K13.out); clear K13; have K13 := k_; clear k_
  have k_ := Aside0.mk ((hb.block _ (blk_lt K16.out)).trans K16.out); clear K16; have K16 := k_; clear k_
  have HD22 := Aside0.mk ((HD21.out.step hb).add hC)
  clear hC hb
  go_wp2_with fail
  refine (seq_step (seqD (textD ⟨#[]⟩) (wrapD 4 0 (seqD (seqD a (seqD b c)) (textD ⟨#[]⟩)))) (textD ⟨#[]⟩) (wrapD 4 0 (seqD (seqD a (seqD b c)) (textD ⟨#[]⟩))) A17 c17 A22 c22 _ rfl (by have := HL.out; (try simp only [seqD_length, wrapD_length, textD_len26, List.length_cons, List.length_nil]); omega) (HD22.out.get (by simp)) hc17 (HD22.out.get (by simp)) hc22).mono ?_
  rintro e w23 ⟨A23, c23, rfl, hc23, hC, hb⟩
  have k_ := Aside0.mk ((hb.block _ (blk_lt K13.out)).trans K13.out); clear K13; have K13 := k_; clear k_
  have k_ := Aside0.mk ((hb.block _ (blk_lt K16.out)).trans K16.out); clear K16; have K16 := k_; clear k_
  have HD23 := Aside0.mk ((HD22.out.step hb).add hC)
  clear hC hb
  go_wp2_with fail
  refine (layout_Best.calls A23 c23 (seqD (textD ⟨#[]⟩) (wrapD 4 0 (seqD (seqD a (seqD b c)) (textD ⟨#[]⟩)))) (y % 40) T1 B1 L1 0 _ (HD23.out.get (by simp)) hc23 H3.out).mono ?_
  rintro e w24 ⟨rfl, hb⟩
  have k_ := Aside0.mk ((hb.block _ (blk_lt K13.out)).trans K13.out); clear K13; have K13 := k_; clear k_
  have k_ := Aside0.mk ((hb.block _ (blk_lt K16.out)).trans K16.out); clear K16; have K16 := k_; clear k_
  have HD24 := Aside0.mk ((HD23.out.step hb).alloc (.cells #[.int .i64 (B1), .int .i64 (L1)] 36))
  have k_ := Aside0.mk (blk_alloc K13.out (.cells #[.int .i64 (B1), .int .i64 (L1)] 36)); clear K13; have K13 := k_; clear k_
  have k_ := Aside0.mk (blk_alloc K16.out (.cells #[.int .i64 (B1), .int .i64 (L1)] 36)); clear K16; have K16 := k_; clear k_
  have K24 := Aside0.mk (heap_alloc_new w24 (.cells #[.int .i64 (B1), .int .i64 (L1)] 36))
  clear hb
  have k13_0 : (w24.alloc (.cells #[.int .i64 (B1), .int .i64 (L1)] 36)).cell? ⟨w13.heap.size, 0, none⟩ = some (.int .i64 (B1)) := (blk_cell K13.out 0).trans rfl
  have k13_1 : (w24.alloc (.cells #[.int .i64 (B1), .int .i64 (L1)] 36)).cell? ⟨w13.heap.size, 1, none⟩ = some (.int .i64 (L1)) := (blk_cell K13.out 1).trans rfl
  have k16_0 : (w24.alloc (.cells #[.int .i64 (B1), .int .i64 (L1)] 36)).cell? ⟨w16.heap.size, 0, none⟩ = some (.int .i64 (B1)) := (blk_cell K16.out 0).trans rfl
  have k16_1 : (w24.alloc (.cells #[.int .i64 (B1), .int .i64 (L1)] 36)).cell? ⟨w16.heap.size, 1, none⟩ = some (.int .i64 (L1)) := (blk_cell K16.out 1).trans rfl
  have k24_0 : (w24.alloc (.cells #[.int .i64 (B1), .int .i64 (L1)] 36)).cell? ⟨w24.heap.size, 0, none⟩ = some (.int .i64 (B1)) := (blk_cell K24.out 0).trans rfl
  have k24_1 : (w24.alloc (.cells #[.int .i64 (B1), .int .i64 (L1)] 36)).cell? ⟨w24.heap.size, 1, none⟩ = some (.int .i64 (L1)) := (blk_cell K24.out 1).trans rfl
  go_wp2_with fail
  go_ret
  exact ⟨rfl, HD24.out.1⟩
end Go.Proofs.Ythmmdmnbcecooaa.A
end

section
namespace Go.Proofs.Ythmmdmnbcecooaa.A
open Go.RowKit Go.Proofs.YthmmdmnbcecooaaW.PrintWords Go.Proofs.YthmmdmnbcecooaaW.PrintLast Go.Proofs.YthmmdmnbcecooaaW.PrintMore
set_option linter.unusedVariables false
set_option linter.unusedSimpArgs false
theorem layoutCongruence_walk (w : World) (A0 : Option Addr) (c0 : Nat) (l0 : List Int) (hr0 : Kd.C (Kd.int .u8) w A0 l0.length l0) (hc0 : l0.length ≤ c0) (hw0 : ∀ x ∈ l0, (Lit.int .u8 x).wf = true) (y0 : l0.length ≤ 281474976710656)
    (A1 : Option Addr) (c1 : Nat) (l1 : List Int) (hr1 : Kd.C (Kd.int .u8) w A1 l1.length l1) (hc1 : l1.length ≤ c1) (hw1 : ∀ x ∈ l1, (Lit.int .u8 x).wf = true) (y1 : l1.length ≤ 281474976710656)
    (A2 : Option Addr) (c2 : Nat) (l2 : List Int) (hr2 : Kd.C (Kd.int .u8) w A2 l2.length l2) (hc2 : l2.length ≤ c2) (hw2 : ∀ x ∈ l2, (Lit.int .u8 x).wf = true) (y2 : l2.length ≤ 281474976710656) (y : Int) (wy : (Lit.int .u8 y).wf = true) :
    Calls Try.prog 19 #[.agg #[.slice A0 l0.length c0, .slice A1 l1.length c1, .slice A2 l2.length c2], .int .u8 y] w fun e w' => e = .returned (.bool true) ∧ Below w.heap.size w w' := by
  have hy := byte_of wy
  have b0 := bytes_of hw0
  have b1 := bytes_of hw1
  have b2 := bytes_of hw2
  have a := Shp.made (most := 20) b0 (by decide)
  have b := Shp.made (most := 20) b1 (by decide)
  have c := Shp.made (most := 20) b2 (by decide)
  have e := Shp.text (s := ⟨#[]⟩) (by decide) (by decide)
  have hw : 0 ≤ y % 40 ∧ y % 40 ≤ 1000 := by omega
  have s1 := (a.seq b (by decide)).seq c (by decide)
  have s2 := a.seq (b.seq c (by decide)) (by decide)
  have s3 := e.seq ((s2.seq e (by decide)).nest (k := 0) (by decide) (by decide)) (by decide)
  have h1 := s1.best hw
  have h2 := s2.best hw
  have h3 := s3.best hw
  obtain ⟨q1, q2⟩ := best_assoc (y % 40) (E (madeDoc l0 20)) (E (madeDoc l1 20)) (E (madeDoc l2 20))
  obtain ⟨q3, q4⟩ := best_pad hw.1 s2.tok
  rw [← q1, ← q2] at h2
  rw [q3, q4, ← q1, ← q2] at h3
  exact congruence_calls w A0 c0 l0 A1 c1 l1 A2 c2 l2 hr0 hc0 hr1 hc1 hr2 hc2 y hy.1 hy.2 _ _ _ (made_f b0 (by decide) y0) (made_f b1 (by decide) y1) (made_f b2 (by decide) y2) ⟨by have := a.len; omega, by have := b.len; omega, by have := c.len; omega⟩ _ _ _ h1 h2 h3
end Go.Proofs.Ythmmdmnbcecooaa.A
end

section
namespace Go.Proofs.Ythmmdmnbcecooaa.layoutCongruence
open Go.ChangeShapes Go.WideShapes Go.ChangeAt Go.RowKit
open Go.ChangeMaps (open_string shut_string)
open Go.Proofs.YthmmdmnbcecooaaW.PrintWords
set_option linter.unusedVariables false
theorem own : ownKnob Try.prog.godebug = none := by kernel_rfl
theorem laidOut : laidOutB Try.prog = true := by kernel_rfl
def IsRow (k : IntKind) (w : World) (a : Option Addr) (len cap : Nat) (zs : List Int) : Prop :=
  (a = none ∧ len = 0 ∧ cap = 0 ∧ zs = []) ∨
  ∃ x, a = some x ∧ len ≤ cap ∧ cap ≤ maxLen ∧ zs.length = cap ∧ (∀ i, i < zs.length → w.cell? (x.add i) = some (.int k (zs.getD i 0))) ∧ ∀ n ∈ zs, (Lit.int k n).wf = true
set_option maxRecDepth 100000 in
theorem lifted (os : Os) (started : os.Started) (H : Type) (enc : TypeId × Value → H) :
    ReturnsInHanded {} Try.checked os 19 .any (Rows.layoutCongruenceSpec.pre6 enc Try.prog Try.f19 Rows.layoutCongruenceRow.domain false) (Rows.layoutCongruenceSpec.post enc Try.prog Try.f19 false true false false) := by
  refine returnsInHanded_of_change_sized (C := Try.checked) own started (by kernel_rfl) Try.func19
    (ChangeSpec.witness6 (enc := enc) (C := Try.checked) false ⟨#[], #[.agg #[.slice none 0 0, .slice none 0 0, .slice none 0 0], .int .u8 0], []⟩ 8 (by kernel_rfl) (by kernel_rfl) (by kernel_rfl) (by kernel_rfl)) ?_
  intro W base args ds gs before hval0 hW hcnd hsz0 _
  have hsz : (DataW.weightsEach Try.prog (Try.f19.params.toList ++ Rows.layoutCongruenceSpec.plain.varTypes Try.prog) (ds ++ gs)).all (· ≤ reachBytes) = true := hsz0
  have hval : ∀ (j : Nat) t v, Try.f19.params[j]? = some t → args[j]? = some v → Value.okWide Try.prog W .any base t v := hval0
  have hW' := hW
  obtain ⟨p, q, hA0, hV, rfl, hfz, hnd⟩ := hW
  have hA : DataW.TrodAll enc Try.prog W 0 (fun _ => true) true Try.f19.params.toList args.toList ds p := hA0
  rw [Try.params19] at hA hval hsz
  obtain ⟨v0, vs0, d0, ds0, p0, q0, hargs, rfl, rfl, h0, r0⟩ := trodAll_cons hA
  obtain ⟨v1, vs1, d1, ds1, p1, q1, rfl, rfl, rfl, h1, r1⟩ := trodAll_cons r0
  obtain ⟨rfl, rfl, rfl⟩ := trodAll_nil r1
  obtain rfl : args = #[v0, v1] := by cases args; simp_all
  obtain ⟨rfl, rfl⟩ := trodVars_none hV
  have k0 := h0
  have lt0 : ∀ x ∈ p0, x.block < W.heap.size := by obtain ⟨m, hm⟩ := k0; exact DataW.trod_lt m _ _ _ hm
  have z0 : ∀ m ∈ d0.weights Try.prog 57, m ≤ reachBytes := fun m hm => by simpa using List.all_eq_true.1 hsz m (DataW.weights_mem_each (j := 0) (t := 57) rfl rfl m hm)
  obtain ⟨A00, c00, l00, A01, c01, l01, A02, c02, l02, rfl, u00, u01, u02⟩ := A.arr3_arg (hval 0 57 v0 rfl rfl) h0 z0
  obtain ⟨a1, rfl, rfl, rfl, w1⟩ := open_int Try.underlying5 (hval 1 5 v1 rfl rfl) h1
  clear hA0 hval0 hsz0 hsz
  refine (A.layoutCongruence_walk W A00 c00 l00 u00.1 u00.2.1 u00.2.2.1 (Nat.le_trans u00.2.2.2 (by decide)) A01 c01 l01 u01.1 u01.2.1 u01.2.2.1 (Nat.le_trans u01.2.2.2 (by decide)) A02 c02 l02 u02.1 u02.2.1 u02.2.2.1 (Nat.le_trans u02.2.2.2 (by decide)) a1 w1).mono fun e W' ⟨he, bel⟩ => ?_
  subst he
  exact ⟨_, rfl, _, _, _, [], _, [], hW', trodAll_mk1 (shut_bool Try.underlying4 _), (trodAll_cons_mk (Below.trod laidOut (by kernel_rfl) (of_decide_eq_true (by kernel_rfl)) k0 bel lt0) (trodAll_cons_mk (shut_int Try.underlying5 w1) trodAll_mk0)), rfl, bel.frame _, fun h => by cases h⟩
theorem over : Rows.layoutCongruenceRow.holds Try.pinned (OpenSpec.ofChange Rows.layoutCongruenceSpec) :=
  OpenClaim.holds_of_wide 19 Try.f19 rfl rfl rfl rfl rfl rfl rfl ⟨rfl, rfl, rfl, rfl, rfl⟩ rfl rfl rfl rfl rfl (by kernel_rfl) Try.func19 (by kernel_rfl)
    (of_decide_eq_true (by kernel_rfl)) (by unfold Func.isWrapper; first | (rw [if_pos (by decide +kernel)]; kernel_rfl) | (rw [if_neg (by decide +kernel)]; exact ⟨rfl, rfl⟩))
    (fun os started H enc _ => lifted os started H enc)
theorem proved : Rows.LayoutCongruenceSaid := over
end Go.Proofs.Ythmmdmnbcecooaa.layoutCongruence
namespace Go.Proofs.Ythmmdmnbcecooaa
/-- The row, under a short name, for the claim. -/
theorem layoutCongruence_holds : Rows.LayoutCongruenceSaid := layoutCongruence.proved
end Go.Proofs.Ythmmdmnbcecooaa
end
#print axioms Go.Proofs.Ythmmdmnbcecooaa.layoutCongruence_holds
