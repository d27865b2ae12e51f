/- V4, PureLayoutLeast, LawLayoutLeast: what the claims rest on of these texts, one behind the other. No condition of its own. -/
import Derived.Test.YthmmdmnbcecooaaZY14
import Derived.Deep.RegionHeld3
import Derived.WalkKit
import Derived.ProofKit
import Derived.OpenShut
import Derived.ShutString
import Derived.ChangeOld
import Derived.ChangeSlices
import Derived.Below
import Derived.SizedLaws
import Derived.Test.YthmmdmnbcecooaaRows
section
namespace Go.Proofs.Ythmmdmnbcecooaa.A
open Go.RowKit Go.Proofs.YthmmdmnbcecooaaW.PrintWords Go.Proofs.YthmmdmnbcecooaaW.PrintLast Go.Proofs.YthmmdmnbcecooaaW.PrintMore
attribute [local go_sem] max2_int max_two
set_option linter.unusedVariables false
set_option linter.unusedSimpArgs false
attribute [local go_sem high] eqA36
set_option maxRecDepth 100000 in
theorem less47_calls (a b c d : Int) (w : World) (h1 : ¬ a < c) (h2 : ¬ (a = c ∧ b < d)) :
    Calls Try.prog 47 #[.agg #[.int .i64 a, .int .i64 b], .agg #[.int .i64 c, .int .i64 d]] w (BoolPost false w) := by
  have d1 := decide_eq_false h1
  by_cases e : a = c
  · subst e
    have d2 := decide_eq_false (show ¬ b < d by omega)
    clear h1 h2
    go_enter Try.func47, Try.ntmps47
    go_wp2_with fail
    go_ret
    exact ⟨rfl, below_alloc2 w _ _⟩
  · have d3 : (a == c) = false := beq_eq_false_iff_ne.2 e
    clear h1 h2 e
    go_enter Try.func47, Try.ntmps47
    go_wp2_with fail
    go_ret
    exact ⟨rfl, below_alloc2 w _ _⟩
def NotLess (bo lo B L : Int) : Prop := ¬ bo < B ∧ ¬ (bo = B ∧ lo < L)
theorem less47_not {a b c d : Int} (w : World) (h : NotLess a b c d) : Calls Try.prog 47 #[.agg #[.int .i64 a, .int .i64 b], .agg #[.int .i64 c, .int .i64 d]] w (BoolPost false w) := less47_calls a b c d w h.1 h.2
set_option maxHeartbeats 4000000 in
set_option maxRecDepth 100000 in
theorem least_calls (w : World) (MA0 : Option Addr) (mc0 : Nat) (ml0 : List Int) (hM0 : Kd.C (Kd.int .u8) w MA0 ml0.length ml0) (hmc0 : ml0.length ≤ mc0) (AF : Option Addr) (cF : Nat) (fl : List Bool) (hRF : Kd.C Kd.bool w AF fl.length fl) (hcF : fl.length ≤ cF)
    (y : Int) (hy : 0 ≤ y) (hy2 : y ≤ 255) (D : List S42) (hf0 : koineref25_Made.f ml0 60 = some D) (T O : ByteArray) (B L bo lo : Int) (F G : List Bool) (k : Nat)
    (h1 : layout_Best.f D (y % 40) = some (T, B, L, 0)) (h2 : layout_Choices.f D (y % 40) = some (F, 0)) (h3 : document_Render.f D F = some (T, 0)) (h4 : koineref25_Choice.f k D fl = some G) (h5 : document_Render.f D G = some (O, 0)) (h6 : document_Cost.f T (y % 40) = some (B, L)) (h7 : document_Cost.f O (y % 40) = some (bo, lo)) (h8 : NotLess bo lo B L) :
    Calls Try.prog 16 #[.slice MA0 ml0.length mc0, .slice AF fl.length cF, .int .u8 y] w fun e w' => e = .returned (.bool true) ∧ Below w.heap.size w w' := by
  have HM0 := Aside0.mk hM0
  have HRF := Aside0.mk hRF
  have HF0 := Aside0.mk hf0
  have H1 := Aside0.mk h1
  have H2 := Aside0.mk h2
  have H3 := Aside0.mk h3
  have H4 := Aside0.mk h4
  have H5 := Aside0.mk h5
  have H6 := Aside0.mk h6
  have H7 := Aside0.mk h7
  have H8 := Aside0.mk h8
  clear hM0 hRF hf0 h1 h2 h3 h4 h5 h6 h7 h8
  go_enter Try.func16, Try.ntmps16
  go_wp2_with fail
  refine (koinelaw26_sanity.calls true _ rfl).mono ?_
  rintro e w1 ⟨rfl, hb⟩
  have HB1 := Aside0.mk hb
  clear hb
  go_wp2_with fail
  refine (made_step D MA0 mc0 ml0 60 _ (Kd.C_below HM0.out HB1.out) hmc0 HF0.out).mono ?_
  rintro e w2 ⟨A2, c2, rfl, hc2, hC, hb⟩
  have HB2 := Aside0.mk (below_step HB1.out hb)
  have HD2 := Aside0.mk hC
  clear hC hb
  go_wp2_with fail
  refine (layout_Best.calls A2 c2 D (y % 40) T B L 0 _ HD2.out hc2 H1.out).mono ?_
  rintro e w3 ⟨rfl, hb⟩
  have HB3 := Aside0.mk ((below_step HB2.out hb).alloc (below_step HB2.out hb).size (.cells #[.int .i64 B, .int .i64 L] 36))
  have HD3 := Aside0.mk (Kd.C_alloc (Kd.C_below HD2.out hb) (.cells #[.int .i64 B, .int .i64 L] 36))
  have K3 := Aside0.mk (heap_alloc_new w3 (.cells #[.int .i64 B, .int .i64 L] 36))
  clear hb
  go_wp2_with fail
  refine (layout_Choices.calls A2 c2 D (y % 40) F 0 _ HD3.out hc2 H2.out).mono ?_
  rintro e w4 ⟨v0, rfl, hR, hb⟩
  obtain ⟨A4, c4, rfl, hc4, hr4⟩ := Kd.R_reads hR
  have HB4 := Aside0.mk (below_step HB3.out hb)
  have HD4 := Aside0.mk (Kd.C_below HD3.out hb)
  have K4 := Aside0.mk ((hb.block _ (blk_lt K3.out)).trans K3.out)
  have HR4 := Aside0.mk hr4
  clear hR hr4 hb
  go_wp2_with fail
  refine (document_Render.calls A2 c2 D A4 c4 F T 0 _ HD4.out hc2 HR4.out hc4 H3.out).mono ?_
  rintro e w5 ⟨rfl, hb⟩
  have HB5 := Aside0.mk (below_step HB4.out hb)
  have HD5 := Aside0.mk (Kd.C_below HD4.out hb)
  have K5 := Aside0.mk ((hb.block _ (blk_lt K4.out)).trans K4.out)
  clear hb
  go_wp2_with fail
  refine (koineref25_Choice.calls k A2 c2 D AF cF fl G _ HD5.out hc2 (Kd.C_below HRF.out HB5.out) hcF H4.out).mono ?_
  rintro e w6 ⟨v0, rfl, hR, hb⟩
  obtain ⟨A6, c6, rfl, hc6, hr6⟩ := Kd.R_reads hR
  have HB6 := Aside0.mk (below_step HB5.out hb)
  have HD6 := Aside0.mk (Kd.C_below HD5.out hb)
  have K6 := Aside0.mk ((hb.block _ (blk_lt K5.out)).trans K5.out)
  have HR6 := Aside0.mk hr6
  clear hR hr6 hb
  go_wp2_with fail
  refine (document_Render.calls A2 c2 D A6 c6 G O 0 _ HD6.out hc2 HR6.out hc6 H5.out).mono ?_
  rintro e w7 ⟨rfl, hb⟩
  have HS := Aside0.mk (show w7.drew.cell? ⟨w3.heap.size, 0, none⟩ = some (.int .i64 B) ∧ w7.drew.cell? ⟨w3.heap.size, 1, none⟩ = some (.int .i64 L) from ⟨(blk_cell ((hb.block _ (blk_lt K6.out)).trans K6.out) 0).trans rfl, (blk_cell ((hb.block _ (blk_lt K6.out)).trans K6.out) 1).trans rfl⟩)
  have HBL := Aside0.mk (below_drew1 (below_step HB6.out hb))
  clear hb
  go_wp2_with fail
  go_region_held3 (fun w' => w'.cell? ⟨w3.heap.size, 0, none⟩ = some (.int .i64 B) ∧ w'.cell? ⟨w3.heap.size, 1, none⟩ = some (.int .i64 L)) (exact HS.out)
    (first
      | (go_at_call_of 27 (Value.string T); refine (document_Cost.calls T (y % 40) B L _ H6.out).mono ?_; rintro e w8 ⟨rfl, hb⟩; have n_ := Aside0.mk (And.intro (pw_cell_below hb HS.out.1) (pw_cell_below hb HS.out.2)); clear HS; have HS := n_; clear n_; have n_ := Aside0.mk (below_step HBL.out hb); clear HBL; have HBL := n_; clear n_ hb)
      | (go_at_call_of 27 (Value.string O); refine (document_Cost.calls O (y % 40) bo lo _ H7.out).mono ?_; rintro e w8 ⟨rfl, hb⟩; have n_ := Aside0.mk (And.intro (pw_cell_below hb HS.out.1) (pw_cell_below hb HS.out.2)); clear HS; have HS := n_; clear n_; have n_ := Aside0.mk (below_step HBL.out hb); clear HBL; have HBL := n_; clear n_ hb)
      | (go_at_call 47; refine (less47_not _ H8.out).mono ?_; rintro e w8 ⟨rfl, hb⟩; have n_ := Aside0.mk (And.intro (pw_cell_below hb HS.out.1) (pw_cell_below hb HS.out.2)); clear HS; have HS := n_; clear n_; have n_ := Aside0.mk (below_step HBL.out hb); clear HBL; have HBL := n_; clear n_ hb))
  all_goals go_wp2_with fail
  all_goals go_ret
  all_goals exact ⟨rfl, HBL.out⟩
end Go.Proofs.Ythmmdmnbcecooaa.A
end

section
namespace Go.Proofs.Ythmmdmnbcecooaa.A
open Go.RowKit Go.Proofs.YthmmdmnbcecooaaW.PrintWords Go.Proofs.YthmmdmnbcecooaaW.PrintLast Go.Proofs.YthmmdmnbcecooaaW.PrintMore
set_option linter.unusedVariables false
set_option linter.unusedSimpArgs false
theorem layoutLeast_walk (w : World) (A0 : Option Addr) (c0 : Nat) (l0 : List Int) (hr0 : Kd.C (Kd.int .u8) w A0 l0.length l0) (hc0 : l0.length ≤ c0) (hw0 : ∀ x ∈ l0, (Lit.int .u8 x).wf = true) (y0 : l0.length * 1 ≤ 140737488351232)
    (A1 : Option Addr) (c1 : Nat) (l1 : List Bool) (hr1 : Kd.C Kd.bool w A1 l1.length l1) (hc1 : l1.length ≤ c1) (hm1 : l1.length ≤ maxLen) (y : Int) (wy : (Lit.int .u8 y).wf = true) :
    Calls Try.prog 16 #[.slice A0 l0.length c0, .slice A1 l1.length c1, .int .u8 y] w fun e w' => e = .returned (.bool true) ∧ Below w.heap.size w w' := by
  have hy := byte_of wy
  have hb := bytes_of hw0
  have hd := made_doc hb (most := 60) (by decide)
  have hs := made_shape hb (most := 60) (by decide)
  have hlen := (made_good hb (most := 60) (by decide)).2
  have hw : 0 ≤ y % 40 ∧ y % 40 ≤ 1000 := by omega
  have hbr := best_render hd.good hd.fits hw
  have h4 := choice_f hd l1 (k := 1000000) (by decide)
  have h5 := render_choice hd.good hd.fits l1
  have hcl : choiceL (madeDoc l0 60) l1 = chz (gh (E (madeDoc l0 60))) l1 := choiceL_eq hd.good l1
  have hsz : (rnd (E (madeDoc l0 60)) l1).length ≤ 20000000 := by
    have h1 := txt_size hd.good hd.fits (chz (gh (E (madeDoc l0 60))) l1) (by rw [chz_length, gh_length])
    have h2 := Nat.mul_le_mul (show lv (E (madeDoc l0 60)) ≤ 2000 by have := hs.2.1; omega) (show wt (E (madeDoc l0 60)) + 1 ≤ 8001 by have := hs.2.2; omega)
    have h3 : rnd (E (madeDoc l0 60)) l1 = txt (E (madeDoc l0 60)) (chz (gh (E (madeDoc l0 60))) l1) := rfl
    rw [h3]
    omega
  have g1 : (⟨(rnd (E (madeDoc l0 60)) l1).toArray⟩ : ByteArray).size = (rnd (E (madeDoc l0 60)) l1).length := by show (rnd (E (madeDoc l0 60)) l1).toArray.size = _; simp
  have h7 := cost_f_x ⟨(rnd (E (madeDoc l0 60)) l1).toArray⟩ (y % 40) (by rw [g1]; omega) (by omega)
  rw [show mx (y % 40) 0 = y % 40 by unfold mx; rw [if_neg (by omega)]] at h7
  exact least_calls w A0 c0 l0 hr0 hc0 A1 c1 l1 hr1 hc1 y hy.1 hy.2 _ (made_f hb (by decide) (by omega)) _ _ _ _ _ _ _ _ 1000000 (lbest_f hd.good hd.fits hw) (lchoices_f hd.good hd.fits hw) hbr.1 h4 h5 hbr.2 h7 (best_least hw.1 (good_tok hd.good) l1)
end Go.Proofs.Ythmmdmnbcecooaa.A
end

section
namespace Go.Proofs.Ythmmdmnbcecooaa.layoutLeast
open Go.ChangeShapes Go.WideShapes Go.ChangeAt Go.RowKit
open Go.ChangeMaps (open_string shut_string)
open Go.Proofs.YthmmdmnbcecooaaW.PrintWords
set_option linter.unusedVariables false
theorem own : ownKnob Try.prog.godebug = none := by kernel_rfl
theorem laidOut : laidOutB Try.prog = true := by kernel_rfl
def IsRow (k : IntKind) (w : World) (a : Option Addr) (len cap : Nat) (zs : List Int) : Prop :=
  (a = none ∧ len = 0 ∧ cap = 0 ∧ zs = []) ∨
  ∃ x, a = some x ∧ len ≤ cap ∧ cap ≤ maxLen ∧ zs.length = cap ∧ (∀ i, i < zs.length → w.cell? (x.add i) = some (.int k (zs.getD i 0))) ∧ ∀ n ∈ zs, (Lit.int k n).wf = true
set_option maxRecDepth 100000 in
theorem lifted (os : Os) (started : os.Started) (H : Type) (enc : TypeId × Value → H) :
    ReturnsInHanded {} Try.checked os 16 .any (Rows.layoutLeastSpec.pre6 enc Try.prog Try.f16 Rows.layoutLeastRow.domain false) (Rows.layoutLeastSpec.post enc Try.prog Try.f16 false true false false) := by
  refine returnsInHanded_of_change_sized (C := Try.checked) own started (by kernel_rfl) Try.func16
    (ChangeSpec.witness6 (enc := enc) (C := Try.checked) false ⟨#[], #[.slice none 0 0, .slice none 0 0, .int .u8 0], []⟩ 8 (by kernel_rfl) (by kernel_rfl) (by kernel_rfl) (by kernel_rfl)) ?_
  intro W base args ds gs before hval0 hW hcnd hsz0 _
  have hsz : (DataW.weightsEach Try.prog (Try.f16.params.toList ++ Rows.layoutLeastSpec.plain.varTypes Try.prog) (ds ++ gs)).all (· ≤ reachBytes) = true := hsz0
  have hval : ∀ (j : Nat) t v, Try.f16.params[j]? = some t → args[j]? = some v → Value.okWide Try.prog W .any base t v := hval0
  have hW' := hW
  obtain ⟨p, q, hA0, hV, rfl, hfz, hnd⟩ := hW
  have hA : DataW.TrodAll enc Try.prog W 0 (fun _ => true) true Try.f16.params.toList args.toList ds p := hA0
  rw [Try.params16] at hA hval hsz
  obtain ⟨v0, vs0, d0, ds0, p0, q0, hargs, rfl, rfl, h0, r0⟩ := trodAll_cons hA
  obtain ⟨v1, vs1, d1, ds1, p1, q1, rfl, rfl, rfl, h1, r1⟩ := trodAll_cons r0
  obtain ⟨v2, vs2, d2, ds2, p2, q2, rfl, rfl, rfl, h2, r2⟩ := trodAll_cons r1
  obtain ⟨rfl, rfl, rfl⟩ := trodAll_nil r2
  obtain rfl : args = #[v0, v1, v2] := by cases args; simp_all
  obtain ⟨rfl, rfl⟩ := trodVars_none hV
  obtain ⟨a0, len0, cap0, rfl⟩ := okWide_slice Try.underlying22 (hval 0 22 v0 rfl rfl)
  have k0 := h0
  have lt0 : ∀ x ∈ p0, x.block < W.heap.size := by obtain ⟨m, hm⟩ := k0; exact DataW.trod_lt m _ _ _ hm
  obtain ⟨z0, w0⟩ : ∃ zs, IsRow .u8 W a0 len0 cap0 zs := by
    obtain ⟨fuel, hf⟩ := h0
    rcases open_ints Try.underlying22 Try.underlying5 (by kernel_rfl) hf with ⟨hcs, _⟩ | ⟨x, l, c, zs, hcs, _, hl, hm, hz, _, hcell, hwz⟩
    · simp [Value.cells] at hcs
      obtain ⟨rfl, rfl, rfl⟩ := hcs
      exact ⟨[], .inl ⟨rfl, rfl, rfl, rfl⟩⟩
    · simp [Value.cells] at hcs
      obtain ⟨rfl, rfl, rfl⟩ := hcs
      exact ⟨zs, .inr ⟨_, rfl, hl, hm, by simpa using hz, hcell, hwz⟩⟩
  have y0 : len0 * 1 ≤ 140737488351232 := sized_ints hsz (j := 0) (t := 22) rfl rfl Try.underlying22 Try.underlying5 (by kernel_rfl) (by kernel_rfl) h0
  obtain ⟨l0, rfl, hr0, hm0, hw0, hc0⟩ := ReadsInt.ofRowC w0
  obtain ⟨a1, len1, cap1, rfl⟩ := okWide_slice Try.underlying23 (hval 1 23 v1 rfl rfl)
  have k1 := h1
  have lt1 : ∀ x ∈ p1, x.block < W.heap.size := by obtain ⟨m, hm⟩ := k1; exact DataW.trod_lt m _ _ _ hm
  obtain ⟨l1, rfl, hr1, hm1, hc1⟩ := A.bools_arg Try.underlying23 Try.underlying4 (by kernel_rfl) h1
  obtain ⟨a2, rfl, rfl, rfl, w2⟩ := open_int Try.underlying5 (hval 2 5 v2 rfl rfl) h2
  clear hA0 hval0 hsz0 hsz
  refine (A.layoutLeast_walk W a0 cap0 l0 (Kd.C_of_reads (d := (0 : Int)) (h1 := fun _ => rfl) hr0) hc0 hw0 y0 a1 cap1 l1 hr1 hc1 hm1 a2 w2).mono fun e W' ⟨he, bel⟩ => ?_
  subst he
  exact ⟨_, rfl, _, _, _, [], _, [], hW', trodAll_mk1 (shut_bool Try.underlying4 _), (trodAll_cons_mk (Below.trod laidOut (by kernel_rfl) (of_decide_eq_true (by kernel_rfl)) k0 bel lt0) (trodAll_cons_mk (Below.trod laidOut (by kernel_rfl) (of_decide_eq_true (by kernel_rfl)) k1 bel lt1) (trodAll_cons_mk (shut_int Try.underlying5 w2) trodAll_mk0))), rfl, bel.frame _, fun h => by cases h⟩
theorem over : Rows.layoutLeastRow.holds Try.pinned (OpenSpec.ofChange Rows.layoutLeastSpec) :=
  OpenClaim.holds_of_wide 16 Try.f16 rfl rfl rfl rfl rfl rfl rfl ⟨rfl, rfl, rfl, rfl, rfl⟩ rfl rfl rfl rfl rfl (by kernel_rfl) Try.func16 (by kernel_rfl)
    (of_decide_eq_true (by kernel_rfl)) (by unfold Func.isWrapper; first | (rw [if_pos (by decide +kernel)]; kernel_rfl) | (rw [if_neg (by decide +kernel)]; exact ⟨rfl, rfl⟩))
    (fun os started H enc _ => lifted os started H enc)
theorem proved : Rows.LayoutLeastSaid := over
end Go.Proofs.Ythmmdmnbcecooaa.layoutLeast
namespace Go.Proofs.Ythmmdmnbcecooaa
/-- The row, under a short name, for the claim. -/
theorem layoutLeast_holds : Rows.LayoutLeastSaid := layoutLeast.proved
end Go.Proofs.Ythmmdmnbcecooaa
end
#print axioms Go.Proofs.Ythmmdmnbcecooaa.layoutLeast_holds
