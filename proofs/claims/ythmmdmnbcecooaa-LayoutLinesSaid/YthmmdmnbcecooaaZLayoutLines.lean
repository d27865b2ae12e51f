/- V2, PureLayoutLines, LawLayoutLines: what the claims rest on of these texts, one behind the other. No condition of its own. -/
import Derived.Test.YthmmdmnbcecooaaZY14
import Derived.Deep.DeepCutAuto
import Derived.Deep.CutBlock
import Derived.Deep.RegionHeld3
import Derived.WalkKit
import Derived.ProofKit
import Derived.OpenShut
import Derived.ShutString
import Derived.ChangeOld
import Derived.ChangeSlices
import Derived.Below
import Derived.SizedLaws
import Derived.Test.YthmmdmnbcecooaaRows
section
namespace Go.Proofs.Ythmmdmnbcecooaa.A
open Go.RowKit Go.Proofs.YthmmdmnbcecooaaW.PrintWords Go.Proofs.YthmmdmnbcecooaaW.PrintLast Go.Proofs.YthmmdmnbcecooaaW.PrintMore
attribute [local go_sem] max2_int max_two
set_option linter.unusedVariables false
set_option linter.unusedSimpArgs false
attribute [local go_sem high] eqA36
theorem docs_of {w W : World} {L : List (Option Addr × List S42)} (h : Below w.heap.size w W) (hL : ∀ p ∈ L, Kd.C k42 W p.1 p.2.length p.2) : Docs w W L := ⟨h, hL⟩
theorem textD_len26 (s : ByteArray) : (textD s).length = 1 := rfl
set_option maxHeartbeats 4000000 in
set_option maxRecDepth 100000 in
theorem lines_calls (w : World) (MA0 : Option Addr) (mc0 : Nat) (ml0 : List Int) (MA1 : Option Addr) (mc1 : Nat) (ml1 : List Int)
    (hM0 : Kd.C (Kd.int .u8) w MA0 ml0.length ml0) (hmc0 : ml0.length ≤ mc0) (hM1 : Kd.C (Kd.int .u8) w MA1 ml1.length ml1) (hmc1 : ml1.length ≤ mc1) (y : Int) (hy : 0 ≤ y) (hy2 : y ≤ 255) (a b : List S42)
    (hf0 : koineref25_Made.f ml0 30 = some a) (hf1 : koineref25_Made.f ml1 30 = some b) (hl : a.length ≤ 10000 ∧ b.length ≤ 10000) (T1 T2 TA T3 : ByteArray) (hTA : T1 ++ ⟨#[10]⟩ = TA) (hT3 : TA ++ T2 = T3) (B1 L1 B2 L2 : Int) (hT : T1.size ≤ 100000000000 ∧ T2.size ≤ 100000000000) (hB : (0 ≤ B1 ∧ B1 ≤ 100000000000 ∧ 0 ≤ L1 ∧ L1 ≤ 100000000000) ∧ 0 ≤ B2 ∧ B2 ≤ 100000000000 ∧ 0 ≤ L2 ∧ L2 ≤ 100000000000)
    (h1 : layout_Best.f a (y % 40) = some (T1, B1, L1, 0)) (h2 : layout_Best.f b (y % 40) = some (T2, B2, L2, 0)) (h3 : layout_Best.f (seqD a (seqD [⟨2, ⟨#[]⟩, 0, 0, 0⟩] b)) (y % 40) = some (T3, B1 + B2, L1 + L2 + 1, 0)) :
    Calls Try.prog 7 #[.agg #[.slice MA0 ml0.length mc0, .slice MA1 ml1.length mc1], .int .u8 y] w fun e w' => e = .returned (.bool true) ∧ Below w.heap.size w w' := by
  have HM0 := Aside0.mk hM0
  have HF0 := Aside0.mk hf0
  have HM1 := Aside0.mk hM1
  have HF1 := Aside0.mk hf1
  have HL := Aside0.mk hl
  have H1 := Aside0.mk h1
  have H2 := Aside0.mk h2
  have H3 := Aside0.mk h3
  have HB := Aside0.mk hB
  have HT := Aside0.mk hT
  have HTA := Aside0.mk (And.intro hTA hT3)
  clear hTA hT3
  clear hM0 hf0 hM1 hf1 hl h1 h2 h3 hB hT
  go_enter Try.func7, Try.ntmps7
  go_wp2_with fail
  refine (koinelaw26_sanity.calls true _ rfl).mono ?_
  rintro e w1 ⟨rfl, hb⟩
  have hbl := (hb.block w.heap.size (by rw [alloc_sz]; omega)).trans (heap_alloc_new w _)
  have HS := Aside0.mk (show w1.drew.cell? ⟨w.heap.size, 0, none⟩ = some (.slice MA0 ml0.length mc0) ∧ w1.drew.cell? ⟨w.heap.size, 1, none⟩ = some (.slice MA1 ml1.length mc1) ∧ Below w.heap.size w w1.drew from ⟨(blk_cell hbl 0).trans rfl, (blk_cell hbl 1).trans rfl, below_drew1 (below_then (below_alloc (Below.refl _ _) _) (below_alloc (Below.refl _ _) _).size hb)⟩)
  clear hb hbl
  go_upto_region 2 with fail
  go_cut [6, 7] (fun v6 v7 wc => ∃ (A0 : Option Addr) (c0 : Nat) (A1 : Option Addr) (c1 : Nat), v6 = .slice A0 a.length c0 ∧ v7 = .slice A1 b.length c1 ∧ Aside0 (Docs w wc [(A0, a), (A1, b)]) ∧ Aside0 (a.length ≤ c0 ∧ b.length ≤ c1))
  case first =>
    go_region_held3 (fun w' => w'.cell? ⟨w.heap.size, 0, none⟩ = some (.slice MA0 ml0.length mc0) ∧ w'.cell? ⟨w.heap.size, 1, none⟩ = some (.slice MA1 ml1.length mc1) ∧ Below w.heap.size w w') (exact ⟨HS.out.1, HS.out.2.1, HS.out.2.2⟩) (first | (go_at_call_of 21 (Value.slice MA0 ml0.length mc0); refine (made_step a MA0 mc0 ml0 30 _ (Kd.C_below HM0.out HS.out.2.2) hmc0 HF0.out).mono ?_; rintro e w5 ⟨A0, c0, rfl, hc0, hC, hb⟩; have n_ := Aside0.mk (And.intro (pw_cell_below hb HS.out.1) (And.intro (pw_cell_below hb HS.out.2.1) (below_step HS.out.2.2 hb))); clear HS; have HS := n_; clear n_; (try have m_ := Aside0.mk (Kd.C_below HD1.out hb)); (try clear HD1); (try have HD1 := m_); (try clear m_); have HD0 := Aside0.mk hC; clear hC hb) | (go_at_call_of 21 (Value.slice MA1 ml1.length mc1); refine (made_step b MA1 mc1 ml1 30 _ (Kd.C_below HM1.out HS.out.2.2) hmc1 HF1.out).mono ?_; rintro e w5 ⟨A1, c1, rfl, hc1, hC, hb⟩; have n_ := Aside0.mk (And.intro (pw_cell_below hb HS.out.1) (And.intro (pw_cell_below hb HS.out.2.1) (below_step HS.out.2.2 hb))); clear HS; have HS := n_; clear n_; (try have m_ := Aside0.mk (Kd.C_below HD0.out hb)); (try clear HD0); (try have HD0 := m_); (try clear m_); have HD1 := Aside0.mk hC; clear hC hb))
    all_goals
      go_wp2_with fail
      go_meet
      case rel => exact ⟨A0, c0, A1, c1, rfl, rfl, ⟨docs_of HS.out.2.2 (by intro p hp; simp only [List.mem_cons, List.not_mem_nil, or_false] at hp; rcases hp with rfl | rfl <;> first | exact HD0.out | exact HD1.out)⟩, ⟨hc0, hc1⟩⟩
  case rest =>
  obtain ⟨A0, c0, A1, c1, rfl, rfl, HD, hcs⟩ := hcut
  obtain ⟨hc0, hc1⟩ := hcs.out
  clear hcs
  go_wp2_with fail
  refine (layout_Best.calls A0 c0 a (y % 40) T1 B1 L1 0 _ (HD.out.get (by simp)) hc0 H1.out).mono ?_
  rintro e w11 ⟨rfl, hb⟩
  have HD11 := Aside0.mk ((HD.out.step hb).alloc (.cells #[.int .i64 (B1), .int .i64 (L1)] 36))
  have K11 := Aside0.mk (heap_alloc_new w11 (.cells #[.int .i64 (B1), .int .i64 (L1)] 36))
  clear hb
  go_wp2_with fail
  refine (layout_Best.calls A1 c1 b (y % 40) T2 B2 L2 0 _ (HD11.out.get (by simp)) hc1 H2.out).mono ?_
  rintro e w12 ⟨rfl, hb⟩
  have k_ := Aside0.mk ((hb.block _ (blk_lt K11.out)).trans K11.out); clear K11; have K11 := k_; clear k_
  have HD12 := Aside0.mk ((HD11.out.step hb).alloc (.cells #[.int .i64 (B2), .int .i64 (L2)] 36))
  have k_ := Aside0.mk (blk_alloc K11.out (.cells #[.int .i64 (B2), .int .i64 (L2)] 36)); clear K11; have K11 := k_; clear k_
  have K12 := Aside0.mk (heap_alloc_new w12 (.cells #[.int .i64 (B2), .int .i64 (L2)] 36))
  clear hb
  go_wp2_with fail
  have HDl := Aside0.mk ((HD12.out.alloc (.cells #[.int .i64 2, .string ⟨#[]⟩, .int .i64 0, .int .i64 0, .int .i64 0] 42)).add (A := some ⟨w12.heap.size + 1, 0, none⟩) (D := [⟨2, ⟨#[]⟩, 0, 0, 0⟩]) (by have h := lit42 (w12.alloc (.cells #[.int .i64 (B2), .int .i64 (L2)] 36)) ⟨2, ⟨#[]⟩, 0, 0, 0⟩; rw [alloc_sz] at h; exact h))
  have k_ := Aside0.mk (blk_alloc K11.out (.cells #[.int .i64 2, .string ⟨#[]⟩, .int .i64 0, .int .i64 0, .int .i64 0] 42)); clear K11; have K11 := k_; clear k_
  have k_ := Aside0.mk (blk_alloc K12.out (.cells #[.int .i64 2, .string ⟨#[]⟩, .int .i64 0, .int .i64 0, .int .i64 0] 42)); clear K12; have K12 := k_; clear k_
  have hclit : ([⟨2, ⟨#[]⟩, 0, 0, 0⟩] : List S42).length ≤ 1 := Nat.le_refl _
  refine (seq_step (seqD [⟨2, ⟨#[]⟩, 0, 0, 0⟩] b) [⟨2, ⟨#[]⟩, 0, 0, 0⟩] b (some ⟨w12.heap.size + 1, 0, none⟩) 1 A1 c1 _ rfl (by have := HL.out; (try simp only [seqD_length, wrapD_length, textD_len26, List.length_cons, List.length_nil]); omega) (HDl.out.get (by simp)) hclit (HDl.out.get (by simp)) hc1).mono ?_
  rintro e w13 ⟨A13, c13, rfl, hc13, hC, hb⟩
  have k_ := Aside0.mk ((hb.block _ (blk_lt K11.out)).trans K11.out); clear K11; have K11 := k_; clear k_
  have k_ := Aside0.mk ((hb.block _ (blk_lt K12.out)).trans K12.out); clear K12; have K12 := k_; clear k_
  have HD13 := Aside0.mk ((HDl.out.step hb).add hC)
  clear hC hb
  go_wp2_with fail
  refine (seq_step (seqD a (seqD [⟨2, ⟨#[]⟩, 0, 0, 0⟩] b)) a (seqD [⟨2, ⟨#[]⟩, 0, 0, 0⟩] b) A0 c0 A13 c13 _ rfl (by have := HL.out; (try simp only [seqD_length, wrapD_length, textD_len26, List.length_cons, List.length_nil]); omega) (HD13.out.get (by simp)) hc0 (HD13.out.get (by simp)) hc13).mono ?_
  rintro e w14 ⟨A14, c14, rfl, hc14, hC, hb⟩
  have k_ := Aside0.mk ((hb.block _ (blk_lt K11.out)).trans K11.out); clear K11; have K11 := k_; clear k_
  have k_ := Aside0.mk ((hb.block _ (blk_lt K12.out)).trans K12.out); clear K12; have K12 := k_; clear k_
  have HD14 := Aside0.mk ((HD13.out.step hb).add hC)
  clear hC hb
  go_wp2_with fail
  refine (layout_Best.calls A14 c14 (seqD a (seqD [⟨2, ⟨#[]⟩, 0, 0, 0⟩] b)) (y % 40) T3 (B1 + B2) (L1 + L2 + 1) 0 _ (HD14.out.get (by simp)) hc14 H3.out).mono ?_
  rintro e w15 ⟨rfl, hb⟩
  have k_ := Aside0.mk ((hb.block _ (blk_lt K11.out)).trans K11.out); clear K11; have K11 := k_; clear k_
  have k_ := Aside0.mk ((hb.block _ (blk_lt K12.out)).trans K12.out); clear K12; have K12 := k_; clear k_
  have HD15 := Aside0.mk ((HD14.out.step hb).alloc (.cells #[.int .i64 ((B1 + B2)), .int .i64 ((L1 + L2 + 1))] 36))
  have k_ := Aside0.mk (blk_alloc K11.out (.cells #[.int .i64 ((B1 + B2)), .int .i64 ((L1 + L2 + 1))] 36)); clear K11; have K11 := k_; clear k_
  have k_ := Aside0.mk (blk_alloc K12.out (.cells #[.int .i64 ((B1 + B2)), .int .i64 ((L1 + L2 + 1))] 36)); clear K12; have K12 := k_; clear k_
  have K15 := Aside0.mk (heap_alloc_new w15 (.cells #[.int .i64 ((B1 + B2)), .int .i64 ((L1 + L2 + 1))] 36))
  clear hb
  have k11_0 : (w15.alloc (.cells #[.int .i64 ((B1 + B2)), .int .i64 ((L1 + L2 + 1))] 36)).cell? ⟨w11.heap.size, 0, none⟩ = some (.int .i64 (B1)) := (blk_cell K11.out 0).trans rfl
  have k11_1 : (w15.alloc (.cells #[.int .i64 ((B1 + B2)), .int .i64 ((L1 + L2 + 1))] 36)).cell? ⟨w11.heap.size, 1, none⟩ = some (.int .i64 (L1)) := (blk_cell K11.out 1).trans rfl
  have k12_0 : (w15.alloc (.cells #[.int .i64 ((B1 + B2)), .int .i64 ((L1 + L2 + 1))] 36)).cell? ⟨w12.heap.size, 0, none⟩ = some (.int .i64 (B2)) := (blk_cell K12.out 0).trans rfl
  have k12_1 : (w15.alloc (.cells #[.int .i64 ((B1 + B2)), .int .i64 ((L1 + L2 + 1))] 36)).cell? ⟨w12.heap.size, 1, none⟩ = some (.int .i64 (L2)) := (blk_cell K12.out 1).trans rfl
  have k15_0 : (w15.alloc (.cells #[.int .i64 ((B1 + B2)), .int .i64 ((L1 + L2 + 1))] 36)).cell? ⟨w15.heap.size, 0, none⟩ = some (.int .i64 ((B1 + B2))) := (blk_cell K15.out 0).trans rfl
  have k15_1 : (w15.alloc (.cells #[.int .i64 ((B1 + B2)), .int .i64 ((L1 + L2 + 1))] 36)).cell? ⟨w15.heap.size, 1, none⟩ = some (.int .i64 ((L1 + L2 + 1))) := (blk_cell K15.out 1).trans rfl
  obtain ⟨⟨p1, p2, p3, p4⟩, p5, p6, p7, p8⟩ := HB.out
  have ov1 := eq_false (show ¬ (9223372036854775807 < T1.size + 1) by have := HT.out; omega)
  have hTA := HTA.out.1
  have hT3 := HTA.out.2
  have hTAs : TA.size = T1.size + 1 := by rw [← hTA, ByteArray.size_append]; rfl
  have ov2 := eq_false (show ¬ (9223372036854775807 < TA.size + T2.size) by have := HT.out; omega)
  have ov3 := eq_false (show ¬ (9223372036854775807 < T1.size + 1 + T2.size) by have := HT.out; omega)
  clear hTAs
  go_wp2_with fail
  go_ret
  exact ⟨rfl, HD15.out.1⟩
end Go.Proofs.Ythmmdmnbcecooaa.A
end

section
namespace Go.Proofs.Ythmmdmnbcecooaa.A
open Go.RowKit Go.Proofs.YthmmdmnbcecooaaW.PrintWords Go.Proofs.YthmmdmnbcecooaaW.PrintLast Go.Proofs.YthmmdmnbcecooaaW.PrintMore
set_option linter.unusedVariables false
set_option linter.unusedSimpArgs false
theorem layoutLines_walk (w : World) (A0 : Option Addr) (c0 : Nat) (l0 : List Int) (hr0 : Kd.C (Kd.int .u8) w A0 l0.length l0) (hc0 : l0.length ≤ c0) (hw0 : ∀ x ∈ l0, (Lit.int .u8 x).wf = true) (y0 : l0.length ≤ 281474976710656)
    (A1 : Option Addr) (c1 : Nat) (l1 : List Int) (hr1 : Kd.C (Kd.int .u8) w A1 l1.length l1) (hc1 : l1.length ≤ c1) (hw1 : ∀ x ∈ l1, (Lit.int .u8 x).wf = true) (y1 : l1.length ≤ 281474976710656) (y : Int) (wy : (Lit.int .u8 y).wf = true) :
    Calls Try.prog 7 #[.agg #[.slice A0 l0.length c0, .slice A1 l1.length c1], .int .u8 y] w fun e w' => e = .returned (.bool true) ∧ Below w.heap.size w w' := by
  have hy := byte_of wy
  have b0 := bytes_of hw0
  have b1 := bytes_of hw1
  have a := Shp.made (most := 30) b0 (by decide)
  have b := Shp.made (most := 30) b1 (by decide)
  have h : Shp [⟨2, ⟨#[]⟩, 0, 0, 0⟩] .hard 1 := ⟨⟨(check_zero_iff _).1 (by decide +kernel), by intro x hx; rw [List.mem_singleton.1 hx]; decide, by show Fits .hard; exact ⟨by decide, by decide⟩⟩, rfl, Nat.le_refl 1, by decide, by decide⟩
  have hw : 0 ≤ y % 40 ∧ y % 40 ≤ 1000 := by omega
  have h1 := a.best hw
  have h2 := b.best hw
  have h3 := (a.seq (h.seq b (by decide)) (by decide)).best hw
  obtain ⟨q1, q2, q3⟩ := best_lines hw.1 a.tok b.tok
  rw [q1, q2, q3] at h3
  have z1 := a.size hw
  have z2 := b.size hw
  have k1 := a.cost hw
  have k2 := b.cost hw
  have e : (⟨(bestT (y % 40) (E (madeDoc l0 30)) ++ 10 :: bestT (y % 40) (E (madeDoc l1 30))).toArray⟩ : ByteArray) = ⟨(bestT (y % 40) (E (madeDoc l0 30))).toArray⟩ ++ ⟨#[10]⟩ ++ ⟨(bestT (y % 40) (E (madeDoc l1 30))).toArray⟩ := by
    apply ByteArray.ext
    simp [ByteArray.data_append]
  rw [e] at h3
  have g1 : ∀ l : List UInt8, (⟨l.toArray⟩ : ByteArray).size = l.length := fun l => by show l.toArray.size = _; simp
  exact lines_calls w A0 c0 l0 A1 c1 l1 hr0 hc0 hr1 hc1 y hy.1 hy.2 _ _ (made_f b0 (by decide) y0) (made_f b1 (by decide) y1) ⟨by have := a.len; omega, by have := b.len; omega⟩ _ _ _ _ rfl rfl _ _ _ _ (by rw [g1, g1]; omega) (by omega) h1 h2 h3
end Go.Proofs.Ythmmdmnbcecooaa.A
end

section
namespace Go.Proofs.Ythmmdmnbcecooaa.layoutLines
open Go.ChangeShapes Go.WideShapes Go.ChangeAt Go.RowKit
open Go.ChangeMaps (open_string shut_string)
open Go.Proofs.YthmmdmnbcecooaaW.PrintWords
set_option linter.unusedVariables false
theorem own : ownKnob Try.prog.godebug = none := by kernel_rfl
theorem laidOut : laidOutB Try.prog = true := by kernel_rfl
def IsRow (k : IntKind) (w : World) (a : Option Addr) (len cap : Nat) (zs : List Int) : Prop :=
  (a = none ∧ len = 0 ∧ cap = 0 ∧ zs = []) ∨
  ∃ x, a = some x ∧ len ≤ cap ∧ cap ≤ maxLen ∧ zs.length = cap ∧ (∀ i, i < zs.length → w.cell? (x.add i) = some (.int k (zs.getD i 0))) ∧ ∀ n ∈ zs, (Lit.int k n).wf = true
set_option maxRecDepth 100000 in
theorem lifted (os : Os) (started : os.Started) (H : Type) (enc : TypeId × Value → H) :
    ReturnsInHanded {} Try.checked os 7 .any (Rows.layoutLinesSpec.pre6 enc Try.prog Try.f7 Rows.layoutLinesRow.domain false) (Rows.layoutLinesSpec.post enc Try.prog Try.f7 false true false false) := by
  refine returnsInHanded_of_change_sized (C := Try.checked) own started (by kernel_rfl) Try.func7
    (ChangeSpec.witness6 (enc := enc) (C := Try.checked) false ⟨#[], #[.agg #[.slice none 0 0, .slice none 0 0], .int .u8 0], []⟩ 8 (by kernel_rfl) (by kernel_rfl) (by kernel_rfl) (by kernel_rfl)) ?_
  intro W base args ds gs before hval0 hW hcnd hsz0 _
  have hsz : (DataW.weightsEach Try.prog (Try.f7.params.toList ++ Rows.layoutLinesSpec.plain.varTypes Try.prog) (ds ++ gs)).all (· ≤ reachBytes) = true := hsz0
  have hval : ∀ (j : Nat) t v, Try.f7.params[j]? = some t → args[j]? = some v → Value.okWide Try.prog W .any base t v := hval0
  have hW' := hW
  obtain ⟨p, q, hA0, hV, rfl, hfz, hnd⟩ := hW
  have hA : DataW.TrodAll enc Try.prog W 0 (fun _ => true) true Try.f7.params.toList args.toList ds p := hA0
  rw [Try.params7] at hA hval hsz
  obtain ⟨v0, vs0, d0, ds0, p0, q0, hargs, rfl, rfl, h0, r0⟩ := trodAll_cons hA
  obtain ⟨v1, vs1, d1, ds1, p1, q1, rfl, rfl, rfl, h1, r1⟩ := trodAll_cons r0
  obtain ⟨rfl, rfl, rfl⟩ := trodAll_nil r1
  obtain rfl : args = #[v0, v1] := by cases args; simp_all
  obtain ⟨rfl, rfl⟩ := trodVars_none hV
  have k0 := h0
  have lt0 : ∀ x ∈ p0, x.block < W.heap.size := by obtain ⟨m, hm⟩ := k0; exact DataW.trod_lt m _ _ _ hm
  have z0 : ∀ m ∈ d0.weights Try.prog 47, m ≤ reachBytes := fun m hm => by simpa using List.all_eq_true.1 hsz m (DataW.weights_mem_each (j := 0) (t := 47) rfl rfl m hm)
  obtain ⟨A00, c00, l00, A01, c01, l01, rfl, u00, u01⟩ := A.arr2_arg (hval 0 47 v0 rfl rfl) h0 z0
  obtain ⟨a1, rfl, rfl, rfl, w1⟩ := open_int Try.underlying5 (hval 1 5 v1 rfl rfl) h1
  clear hA0 hval0 hsz0 hsz
  refine (A.layoutLines_walk W A00 c00 l00 u00.1 u00.2.1 u00.2.2.1 (Nat.le_trans u00.2.2.2 (by decide)) A01 c01 l01 u01.1 u01.2.1 u01.2.2.1 (Nat.le_trans u01.2.2.2 (by decide)) a1 w1).mono fun e W' ⟨he, bel⟩ => ?_
  subst he
  exact ⟨_, rfl, _, _, _, [], _, [], hW', trodAll_mk1 (shut_bool Try.underlying4 _), (trodAll_cons_mk (Below.trod laidOut (by kernel_rfl) (of_decide_eq_true (by kernel_rfl)) k0 bel lt0) (trodAll_cons_mk (shut_int Try.underlying5 w1) trodAll_mk0)), rfl, bel.frame _, fun h => by cases h⟩
theorem over : Rows.layoutLinesRow.holds Try.pinned (OpenSpec.ofChange Rows.layoutLinesSpec) :=
  OpenClaim.holds_of_wide 7 Try.f7 rfl rfl rfl rfl rfl rfl rfl ⟨rfl, rfl, rfl, rfl, rfl⟩ rfl rfl rfl rfl rfl (by kernel_rfl) Try.func7 (by kernel_rfl)
    (of_decide_eq_true (by kernel_rfl)) (by unfold Func.isWrapper; first | (rw [if_pos (by decide +kernel)]; kernel_rfl) | (rw [if_neg (by decide +kernel)]; exact ⟨rfl, rfl⟩))
    (fun os started H enc _ => lifted os started H enc)
theorem proved : Rows.LayoutLinesSaid := over
end Go.Proofs.Ythmmdmnbcecooaa.layoutLines
namespace Go.Proofs.Ythmmdmnbcecooaa
/-- The row, under a short name, for the claim. -/
theorem layoutLines_holds : Rows.LayoutLinesSaid := layoutLines.proved
end Go.Proofs.Ythmmdmnbcecooaa
end
#print axioms Go.Proofs.Ythmmdmnbcecooaa.layoutLines_holds
