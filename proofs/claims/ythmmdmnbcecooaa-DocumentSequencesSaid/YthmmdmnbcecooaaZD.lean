/- A10, Q7, Q8, Q9, A15, Q10: texts of this seat, one behind the other. No condition of its own. -/
import Derived.Test.YthmmdmnbcecooaaZA
import Derived.Test.YthmmdmnbcecooaaZC
import Derived.Test.YthmmdmnbcecooaaZB
/-! A10 -/
namespace Go.Proofs.Ythmmdmnbcecooaa.A
open Go.RowKit Go.Proofs.YthmmdmnbcecooaaW.PrintWords Go.Proofs.YthmmdmnbcecooaaW.PrintLast Go.Proofs.YthmmdmnbcecooaaW.PrintMore
attribute [local go_sem] max2_int min2_int max_two min_two max_three min_three max_four min_four   -- for this text's walks alone
set_option linter.unusedVariables false
set_option linter.unusedSimpArgs false

/-! ### koineref25_Choice: function 26 -/
def koineref25_Choice.l0 : Nat → List (S42) → List Bool → List Int → List Bool → Int → Option (List Bool)
  | 0, _, _, _, _, _ => none
  | k + 1, x0, x1, x5, x7, x8 => if x8 < (x5.length : Int) then (if x8 < (x1.length : Int) then (if 0 ≤ x8 then (if rdOf false x1 x8 = true then ((koineref25_hard.f k x0 (rd x5 x8)).bind fun t219 => (if x7.length < 140737488355328 then (koineref25_Choice.l0 k x0 x1 x5 (x7 ++ [!t219]) (wrap64 (x8 + 1))) else (none))) else (if x7.length < 140737488355328 then (koineref25_Choice.l0 k x0 x1 x5 (x7 ++ [false]) (wrap64 (x8 + 1))) else (none))) else (none)) else (if x7.length < 140737488355328 then (koineref25_Choice.l0 k x0 x1 x5 (x7 ++ [false]) (wrap64 (x8 + 1))) else (none))) else (some x7)
def koineref25_Choice.f (k : Nat) (l0 : List (S42)) (l1 : List Bool) : Option (List Bool) := (koineref25_Groups.f k l0).bind fun bt210 => (koineref25_Choice.l0 k l0 l1 bt210.1 (([] : List Bool)) 0)
theorem koineref25_Choice.mono_l : ∀ k, (∀ y0 y1 y2 y3 y4, LeO (koineref25_Choice.l0 k y0 y1 y2 y3 y4) (koineref25_Choice.l0 (k + 1) y0 y1 y2 y3 y4))
  | 0 => fun _ _ _ _ _ r h => by simp [koineref25_Choice.l0] at h
  | k + 1 => by
    have ih0 := koineref25_Choice.mono_l k
    · intro y0 y1 y2 y3 y4
      unfold koineref25_Choice.l0
      repeat' first
      | (with_reducible exact ih0 _ _ _ _ _)
      | (with_reducible exact koineref25_Groups.mono _ _)
      | (with_reducible exact koineref25_hard.mono _ _ _)
      | (with_reducible exact LeO.refl _)
      | (with_reducible exact LeO.none _)
      | (with_reducible refine LeO.ite ?_ ?_)
      | (with_reducible refine LeO.bind ?_ (fun _ => ?_))
      | exact ih0 _ _ _ _ _
      | exact koineref25_Groups.mono _ _
      | exact koineref25_hard.mono _ _ _
      | exact LeO.none _
      | refine LeO.ite ?_ ?_
      | refine LeO.bind ?_ (fun _ => ?_)
theorem koineref25_Choice.mono : ∀ a0 a1 k, LeO (koineref25_Choice.f k a0 a1) (koineref25_Choice.f (k + 1) a0 a1) := by
  intro a0 a1 k
  have ih0 := koineref25_Choice.mono_l k
  unfold koineref25_Choice.f
  repeat' first
      | (with_reducible exact ih0 _ _ _ _ _)
      | (with_reducible exact koineref25_Groups.mono _ _)
      | (with_reducible exact koineref25_hard.mono _ _ _)
      | (with_reducible exact LeO.refl _)
      | (with_reducible exact LeO.none _)
      | (with_reducible refine LeO.ite ?_ ?_)
      | (with_reducible refine LeO.bind ?_ (fun _ => ?_))
      | exact ih0 _ _ _ _ _
      | exact koineref25_Groups.mono _ _
      | exact koineref25_hard.mono _ _ _
      | exact LeO.none _
      | refine LeO.ite ?_ ?_
      | refine LeO.bind ?_ (fun _ => ?_)
set_option maxHeartbeats 8000000 in
set_option maxRecDepth 100000 in
theorem koineref25_Choice.calls (k : Nat) (A0 : Option Addr) (c0 : Nat) (l0 : List (S42)) (A1 : Option Addr) (c1 : Nat) (l1 : List Bool) (r : List Bool) (w : World) (hr0 : Kd.C k42 w A0 l0.length l0) (hc0 : l0.length ≤ c0) (hr1 : Kd.C Kd.bool w A1 l1.length l1) (hc1 : l1.length ≤ c1) (h : koineref25_Choice.f k l0 l1 = some r) :
    Calls Try.prog 26 #[.slice A0 l0.length c0, .slice A1 l1.length c1] w fun e w' => ∃ v0_ : Value, e = .returned (v0_) ∧ Kd.R Kd.bool 4 w' w.heap.size (fun _ => True) v0_ r ∧ Below w.heap.size w w' := by
  have HR0 := Aside0.mk hr0
  have HC0 := Aside0.mk hc0
  clear hr0 hc0
  have HR1 := Aside0.mk hr1
  have HC1 := Aside0.mk hc1
  clear hr1 hc1
  have HB := Aside0.mk (Below.refl w.heap.size w)
  have H : ((koineref25_Groups.f k l0).bind fun bt210 => (koineref25_Choice.l0 k l0 l1 bt210.1 (([] : List Bool)) 0)) = some r := h
  clear h
  replace H := Option.bind_eq_some_iff.mp H
  obtain ⟨⟨t210, t211⟩, A30, H⟩ := H
  replace H : (koineref25_Choice.l0 k l0 l1 t210 (([] : List Bool)) 0) = some r := H
  have A3 := Aside0.mk A30
  clear A30
  obtain ⟨y214, hy214⟩ : ∃ y_ : List Bool, y_ = (([] : List Bool)) := ⟨_, rfl⟩
  replace H : (koineref25_Choice.l0 k l0 l1 t210 y214 0) = some r := by first | (rw [hy214]; with_reducible exact H) | (have H2_ := (Option.bind_some _ _).symm.trans H; rw [hy214]; with_reducible exact H2_) | (have H2_ := (Option.bind_some _ _).symm.trans H; with_reducible exact H2_) | with_reducible exact H | (rw [hy214]; exact H) | exact H
  have Ny214 := Aside0.mk hy214
  clear hy214
  have H' := Aside0.mk H
  clear H
  go_enter Try.func26, Try.ntmps26
  go_wp2_with (first | ((with_reducible refine gate_callee (f := 23) rfl ?_); refine goesL_ (some 12) rfl rfl Try.func23 (by kernel_rfl) rfl #[.slice A0 l0.length c0] rfl (by (try simp only [List.map_toArray, List.map_cons, List.map_nil]); first | done | rfl | (simp only [List.length_drop, List.length_take]; rfl)) ?_; (with_reducible refine (koineref25_Groups.calls k _ _ l0 t210 t211 _ ?side1 ?side2 A3.out).mono ?_); (case side1 => repeat (first | exact HR0.out | (with_reducible refine Kd.C_alloc ?_ _) | (with_reducible refine Kd.C_drewN ?_ _) | (with_reducible refine Kd.C_drew ?_))); (case side2 => exact HC0.out); rintro e w4 ⟨v212, rfl, ho0, hb⟩; refine ⟨_, rfl, ?_⟩; have n0_ := Aside0.mk (Kd.R_lower ho0 (below_size (by repeat (first | (with_reducible first | exact HB.out | apply below_alloc | apply pw_below_drewN | apply below_drew1) | exact HB.out)))); have n1_ := Aside0.mk (below_step (by repeat (first | (with_reducible first | exact HB.out | apply below_alloc | apply pw_below_drewN | apply below_drew1) | exact HB.out)) hb); clear HB; have HO213 := n0_; have HB := n1_; clear n0_ n1_; (try clear hb); (try clear hb2); (try clear hk); (try clear hi); (try clear ho0)) | ((with_reducible refine gate_dst (N := 15) rfl ?_); refine Kd.R_lit Kd.bool _ 4 ?hg (N := 15) ?hd (xs := ([] : List Bool)) (inner := []) (ok := fun _ => True) (okp := fun _ => True) ?hr ?hp (fun _ hk => hk) trivial (Below.refl _ _) (Nat.le_refl _) (by simp) ?_; (case hd => rfl); (case hg => rfl); (case hr => first | (go_simp; done) | (go_simp; rfl)); (case hp => exact (Reps.none _ _)); intro v215 w5 ho6 hb hg_ hnew_; clear hg_ hnew_; (first | rw [← Ny214.out] at ho6 | (simp only [Int.reduceToNat] at ho6; rw [← Ny214.out] at ho6)); have n0_ := Aside0.mk (Kd.R_below (by (with_reducible repeat (first | apply Kd.R_alloc | apply Kd.R_drewN | apply Kd.R_drew)); exact HO213.out) hb); have n1_ := Aside0.mk (Kd.R_lower ho6 (below_size (by repeat (first | (with_reducible first | exact HB.out | apply below_alloc | apply pw_below_drewN | apply below_drew1) | exact HB.out)))); have n2_ := Aside0.mk (below_step (by repeat (first | (with_reducible first | exact HB.out | apply below_alloc | apply pw_below_drewN | apply below_drew1) | exact HB.out)) hb); clear HO213; clear HB; have HO213 := n0_; have HO216 := n1_; have HB := n2_; clear n0_ n1_ n2_; clear hb ho6))
  go_loopg [7, 8] k (fun kq v7 v8 w' => ∃ (x7_1 : List Bool) (x8_1 : Int), v8 = .int .i64 x8_1 ∧ Aside0 (koineref25_Choice.l0 kq l0 l1 t210 x7_1 x8_1 = some r) ∧ Aside0 (kq ≤ k) ∧ Aside0 (Kd.R (Kd.int .i64) 3 w' w.heap.size (fun _ => True) v212 t210) ∧ Aside0 (Kd.R Kd.bool 4 w' w.heap.size (fun _ => True) v7 x7_1) ∧ Aside0 (Below w.heap.size w w'))
  case atStart => exact ⟨(y214), (0), (by first | rfl | (simp; done) | (simp [*]; done)), H', ⟨Nat.le_refl _⟩, ⟨by (with_reducible repeat (first | apply Kd.R_alloc | apply Kd.R_drewN | apply Kd.R_drew)); exact HO213.out⟩, ⟨by (with_reducible repeat (first | apply Kd.R_alloc | apply Kd.R_drewN | apply Kd.R_drew)); exact HO216.out⟩, ⟨by repeat (first | (with_reducible first | exact HB.out | apply below_alloc | apply pw_below_drewN | apply below_drew1) | exact HB.out)⟩⟩
  case round =>
    clear H'
    try clear c1
    try clear c2
    try clear p2
    obtain ⟨x7_1, x8_1, rfl, HA, HK1, HO_5, HO_7, HB⟩ := hrel
    cases gk with
    | zero => exact absurd HA.out (by simp [koineref25_Choice.l0])
    | succ k1 =>
      have H := HA.out
      clear HA
      simp only [koineref25_Choice.l0] at H
      by_cases c7 : x8_1 < (t210.length : Int)
      · rw [if_pos c7] at H
        have c7b0 : decide (x8_1 < (t210.length : Int)) = true := decide_eq_true c7
        clear c7
        by_cases c8 : x8_1 < (l1.length : Int)
        · rw [if_pos c8] at H
          have c8b0 : decide (x8_1 < (l1.length : Int)) = true := decide_eq_true c8
          clear c8
          by_cases c9 : 0 ≤ x8_1
          · rw [if_pos c9] at H
            have c9b0 : decide (0 ≤ x8_1) = true := decide_eq_true c9
            clear c9
            obtain ⟨bq10, hbq10⟩ : ∃ b_ : Bool, b_ = (rdOf false l1 x8_1) := ⟨_, rfl⟩
            replace H : (if bq10 = true then ((koineref25_hard.f k1 l0 (rd t210 x8_1)).bind fun t219 => (if x7_1.length < 140737488355328 then (koineref25_Choice.l0 k1 l0 l1 t210 (x7_1 ++ [!t219]) (wrap64 (x8_1 + 1))) else (none))) else (if x7_1.length < 140737488355328 then (koineref25_Choice.l0 k1 l0 l1 t210 (x7_1 ++ [false]) (wrap64 (x8_1 + 1))) else (none))) = some r := by rw [← hbq10] at H; exact H
            have Nbq10 := Aside0.mk hbq10
            clear hbq10
            by_cases c11 : bq10 = true
            · subst c11
              have H1 : ((koineref25_hard.f k1 l0 (rd t210 x8_1)).bind fun t219 => (if x7_1.length < 140737488355328 then (koineref25_Choice.l0 k1 l0 l1 t210 (x7_1 ++ [!t219]) (wrap64 (x8_1 + 1))) else (none))) = some r := by rw [if_pos rfl] at H; exact H
              clear H
              have H := H1
              clear H1
              replace H := Option.bind_eq_some_iff.mp H
              obtain ⟨t219, A120, H⟩ := H
              replace H : (if x7_1.length < 140737488355328 then (koineref25_Choice.l0 k1 l0 l1 t210 (x7_1 ++ [!t219]) (wrap64 (x8_1 + 1))) else (none)) = some r := H
              have A12 := Aside0.mk A120
              clear A120
              by_cases c13 : x7_1.length < 140737488355328
              · rw [if_pos c13] at H
                have LMc13 := Aside0.mk c13
                clear c13
                obtain ⟨y220, hy220⟩ : ∃ y_ : List Bool, y_ = (x7_1 ++ [!t219]) := ⟨_, rfl⟩
                replace H : (koineref25_Choice.l0 k1 l0 l1 t210 y220 (wrap64 (x8_1 + 1))) = some r := by first | (rw [hy220]; with_reducible exact H) | (have H2_ := (Option.bind_some _ _).symm.trans H; rw [hy220]; with_reducible exact H2_) | (have H2_ := (Option.bind_some _ _).symm.trans H; with_reducible exact H2_) | with_reducible exact H | (rw [hy220]; exact H) | exact H
                have Ny220 := Aside0.mk hy220
                clear hy220
                have H' := Aside0.mk H
                clear H
                obtain ⟨Ao14, co14, eo14⟩ := Kd.R_slice HO_5.out
                subst eo14
                have p217 : 0 ≤ (x8_1 : Int) := of_decide_eq_true (by first | (with_reducible assumption) | assumption)
                have q217 : x8_1 < (l1.length : Int) := of_decide_eq_true (by first | (with_reducible assumption) | assumption)
                obtain ⟨ad217, e217, hx217_0⟩ := Kd.at_bool HR1.out x8_1 p217 q217
                (try rw [← Nbq10.out] at hx217_0)
                cases e217
                replace hx217_0 := (HB.out.cell (World.block_lt_of_cell? w _ hx217_0)).trans hx217_0
                replace p217 := eq_true p217
                replace q217 := eq_true q217
                have p218 : 0 ≤ (x8_1 : Int) := of_decide_eq_true (by first | (with_reducible assumption) | assumption)
                have q218 : x8_1 < (t210.length : Int) := of_decide_eq_true (by first | (with_reducible assumption) | assumption)
                obtain ⟨ad218, e218, hx218_0⟩ := Kd.at_int (Kd.R_reads' HO_5.out).2.2 x8_1 p218 q218
                cases e218
                replace p218 := eq_true p218
                replace q218 := eq_true q218
                go_wp2_with (first | (go_at_call 55; (with_reducible refine (koineref25_hard.calls k1 _ _ l0 (rd t210 x8_1) t219 _ ?side1 ?side2 A12.out).mono ?_); (case side1 => repeat (first | exact (Kd.C_below HR0.out HB.out) | (with_reducible refine Kd.C_alloc ?_ _) | (with_reducible refine Kd.C_drewN ?_ _) | (with_reducible refine Kd.C_drew ?_))); (case side2 => exact HC0.out); rintro e w15 ⟨rfl, hb⟩; have n0_ := Aside0.mk (Kd.R_below (by (with_reducible repeat (first | apply Kd.R_alloc | apply Kd.R_drewN | apply Kd.R_drew)); exact HO_5.out) hb); have n1_ := Aside0.mk (Kd.R_below (by (with_reducible repeat (first | apply Kd.R_alloc | apply Kd.R_drewN | apply Kd.R_drew)); exact HO_7.out) hb); have n2_ := Aside0.mk (below_step (by repeat (first | (with_reducible first | exact HB.out | apply below_alloc | apply pw_below_drewN | apply below_drew1) | exact HB.out)) hb); clear HO_5; clear HO_7; clear HB; have HO_5 := n0_; have HO_7 := n1_; have HB := n2_; clear n0_ n1_ n2_; (try clear hb); (try clear hb2); (try clear hk); (try clear hi)) | ((with_reducible refine gate_builtin (b := .append) (xs := #[.tmp 32, .tmp 43]) rfl ?_); at_builtin; refine Kd.R_append Kd.bool (w0 := w) w.heap.size rfl (.tmp 32) (.tmp 43) 23 4 (.bool false) 1 rfl Try.underlying23 info4 rfl (by decide) (by omega) u7 x7_1 (!t219) [.bool (!t219)] (fun _ => True) (fun _ => False) rfl rfl ?aP (fun _ hk => hk.elim) ?aF ?aO ?aB ?aS ?aL ?_; (case aP => exact rfl); (case aB => exact (by repeat (first | (with_reducible first | exact HB.out | apply below_alloc | apply pw_below_drewN | apply below_drew1) | exact HB.out))); (case aF => exact (fun _ _ => trivial)); (case aO => exact (by (with_reducible repeat (first | apply Kd.R_alloc | apply Kd.R_drewN | apply Kd.R_drew)); exact HO_7.out)); (case aS => exact (below_size (by repeat (first | (with_reducible first | exact HB.out | apply below_alloc | apply pw_below_drewN | apply below_drew1) | exact HB.out)))); (case aL => have := LMc13.out; omega); intro v221 w16 ho hb hg hat; rw [← Ny220.out] at ho; have n0_ := Aside0.mk (Kd.R_over' (by (with_reducible repeat (first | apply Kd.R_alloc | apply Kd.R_drewN | apply Kd.R_drew)); exact HO_5.out) (Kd.R_typed (by (with_reducible repeat (first | apply Kd.R_alloc | apply Kd.R_drewN | apply Kd.R_drew)); exact HO_7.out)) (by decide) hg); have n1_ := Aside0.mk (hb); have n2_ := Aside0.mk (ho); clear HO_5; clear HB; clear HO_7; have HO_5 := n0_; have HB := n1_; have HO222 := n2_; clear n0_ n1_ n2_; clear ho hb hg hat))
                go_roundg k1
                case measure => have := HK1.out; omega
                case rel => exact ⟨(y220), (wrap64 (x8_1 + 1)), (by first | rfl | (simp; done) | (simp [*]; done)), H', ⟨by have := HK1.out; omega⟩, ⟨by (with_reducible repeat (first | apply Kd.R_alloc | apply Kd.R_drewN | apply Kd.R_drew)); exact HO_5.out⟩, ⟨by (with_reducible repeat (first | apply Kd.R_alloc | apply Kd.R_drewN | apply Kd.R_drew)); exact HO222.out⟩, ⟨by repeat (first | (with_reducible first | exact HB.out | apply below_alloc | apply pw_below_drewN | apply below_drew1) | exact HB.out)⟩⟩
              · rw [if_neg c13] at H
                exact absurd H (by simp)
            · replace c11 := Bool.eq_false_iff.mpr c11
              subst c11
              have H1 : (if x7_1.length < 140737488355328 then (koineref25_Choice.l0 k1 l0 l1 t210 (x7_1 ++ [false]) (wrap64 (x8_1 + 1))) else (none)) = some r := by rw [if_neg (show ¬ (false = true) by decide)] at H; exact H
              clear H
              have H := H1
              clear H1
              by_cases c17 : x7_1.length < 140737488355328
              · rw [if_pos c17] at H
                have LMc17 := Aside0.mk c17
                clear c17
                obtain ⟨y223, hy223⟩ : ∃ y_ : List Bool, y_ = (x7_1 ++ [false]) := ⟨_, rfl⟩
                replace H : (koineref25_Choice.l0 k1 l0 l1 t210 y223 (wrap64 (x8_1 + 1))) = some r := by first | (rw [hy223]; with_reducible exact H) | (have H2_ := (Option.bind_some _ _).symm.trans H; rw [hy223]; with_reducible exact H2_) | (have H2_ := (Option.bind_some _ _).symm.trans H; with_reducible exact H2_) | with_reducible exact H | (rw [hy223]; exact H) | exact H
                have Ny223 := Aside0.mk hy223
                clear hy223
                have H' := Aside0.mk H
                clear H
                obtain ⟨Ao18, co18, eo18⟩ := Kd.R_slice HO_5.out
                subst eo18
                have p217 : 0 ≤ (x8_1 : Int) := of_decide_eq_true (by first | (with_reducible assumption) | assumption)
                have q217 : x8_1 < (l1.length : Int) := of_decide_eq_true (by first | (with_reducible assumption) | assumption)
                obtain ⟨ad217, e217, hx217_0⟩ := Kd.at_bool HR1.out x8_1 p217 q217
                (try rw [← Nbq10.out] at hx217_0)
                cases e217
                replace hx217_0 := (HB.out.cell (World.block_lt_of_cell? w _ hx217_0)).trans hx217_0
                replace p217 := eq_true p217
                replace q217 := eq_true q217
                go_wp2_with (first | ((with_reducible refine gate_builtin (b := .append) (xs := #[.tmp 32, .tmp 43]) rfl ?_); at_builtin; refine Kd.R_append Kd.bool (w0 := w) w.heap.size rfl (.tmp 32) (.tmp 43) 23 4 (.bool false) 1 rfl Try.underlying23 info4 rfl (by decide) (by omega) u7 x7_1 false [.bool false] (fun _ => True) (fun _ => False) rfl rfl ?aP (fun _ hk => hk.elim) ?aF ?aO ?aB ?aS ?aL ?_; (case aP => exact rfl); (case aB => exact (by repeat (first | (with_reducible first | exact HB.out | apply below_alloc | apply pw_below_drewN | apply below_drew1) | exact HB.out))); (case aF => exact (fun _ _ => trivial)); (case aO => exact (by (with_reducible repeat (first | apply Kd.R_alloc | apply Kd.R_drewN | apply Kd.R_drew)); exact HO_7.out)); (case aS => exact (below_size (by repeat (first | (with_reducible first | exact HB.out | apply below_alloc | apply pw_below_drewN | apply below_drew1) | exact HB.out)))); (case aL => have := LMc17.out; omega); intro v224 w19 ho hb hg hat; rw [← Ny223.out] at ho; have n0_ := Aside0.mk (Kd.R_over' (by (with_reducible repeat (first | apply Kd.R_alloc | apply Kd.R_drewN | apply Kd.R_drew)); exact HO_5.out) (Kd.R_typed (by (with_reducible repeat (first | apply Kd.R_alloc | apply Kd.R_drewN | apply Kd.R_drew)); exact HO_7.out)) (by decide) hg); have n1_ := Aside0.mk (hb); have n2_ := Aside0.mk (ho); clear HO_5; clear HB; clear HO_7; have HO_5 := n0_; have HB := n1_; have HO225 := n2_; clear n0_ n1_ n2_; clear ho hb hg hat))
                go_roundg k1
                case measure => have := HK1.out; omega
                case rel => exact ⟨(y223), (wrap64 (x8_1 + 1)), (by first | rfl | (simp; done) | (simp [*]; done)), H', ⟨by have := HK1.out; omega⟩, ⟨by (with_reducible repeat (first | apply Kd.R_alloc | apply Kd.R_drewN | apply Kd.R_drew)); exact HO_5.out⟩, ⟨by (with_reducible repeat (first | apply Kd.R_alloc | apply Kd.R_drewN | apply Kd.R_drew)); exact HO225.out⟩, ⟨by repeat (first | (with_reducible first | exact HB.out | apply below_alloc | apply pw_below_drewN | apply below_drew1) | exact HB.out)⟩⟩
              · rw [if_neg c17] at H
                exact absurd H (by simp)
          · rw [if_neg c9] at H
            exact absurd H (by simp)
        · rw [if_neg c8] at H
          have c8b0 : decide (x8_1 < (l1.length : Int)) = false := decide_eq_false c8
          clear c8
          by_cases c20 : x7_1.length < 140737488355328
          · rw [if_pos c20] at H
            have LMc20 := Aside0.mk c20
            clear c20
            obtain ⟨y226, hy226⟩ : ∃ y_ : List Bool, y_ = (x7_1 ++ [false]) := ⟨_, rfl⟩
            replace H : (koineref25_Choice.l0 k1 l0 l1 t210 y226 (wrap64 (x8_1 + 1))) = some r := by first | (rw [hy226]; with_reducible exact H) | (have H2_ := (Option.bind_some _ _).symm.trans H; rw [hy226]; with_reducible exact H2_) | (have H2_ := (Option.bind_some _ _).symm.trans H; with_reducible exact H2_) | with_reducible exact H | (rw [hy226]; exact H) | exact H
            have Ny226 := Aside0.mk hy226
            clear hy226
            have H' := Aside0.mk H
            clear H
            obtain ⟨Ao21, co21, eo21⟩ := Kd.R_slice HO_5.out
            subst eo21
            go_wp2_with (first | ((with_reducible refine gate_builtin (b := .append) (xs := #[.tmp 32, .tmp 43]) rfl ?_); at_builtin; refine Kd.R_append Kd.bool (w0 := w) w.heap.size rfl (.tmp 32) (.tmp 43) 23 4 (.bool false) 1 rfl Try.underlying23 info4 rfl (by decide) (by omega) u7 x7_1 false [.bool false] (fun _ => True) (fun _ => False) rfl rfl ?aP (fun _ hk => hk.elim) ?aF ?aO ?aB ?aS ?aL ?_; (case aP => exact rfl); (case aB => exact (by repeat (first | (with_reducible first | exact HB.out | apply below_alloc | apply pw_below_drewN | apply below_drew1) | exact HB.out))); (case aF => exact (fun _ _ => trivial)); (case aO => exact (by (with_reducible repeat (first | apply Kd.R_alloc | apply Kd.R_drewN | apply Kd.R_drew)); exact HO_7.out)); (case aS => exact (below_size (by repeat (first | (with_reducible first | exact HB.out | apply below_alloc | apply pw_below_drewN | apply below_drew1) | exact HB.out)))); (case aL => have := LMc20.out; omega); intro v227 w22 ho hb hg hat; rw [← Ny226.out] at ho; have n0_ := Aside0.mk (Kd.R_over' (by (with_reducible repeat (first | apply Kd.R_alloc | apply Kd.R_drewN | apply Kd.R_drew)); exact HO_5.out) (Kd.R_typed (by (with_reducible repeat (first | apply Kd.R_alloc | apply Kd.R_drewN | apply Kd.R_drew)); exact HO_7.out)) (by decide) hg); have n1_ := Aside0.mk (hb); have n2_ := Aside0.mk (ho); clear HO_5; clear HB; clear HO_7; have HO_5 := n0_; have HB := n1_; have HO228 := n2_; clear n0_ n1_ n2_; clear ho hb hg hat))
            go_roundg k1
            case measure => have := HK1.out; omega
            case rel => exact ⟨(y226), (wrap64 (x8_1 + 1)), (by first | rfl | (simp; done) | (simp [*]; done)), H', ⟨by have := HK1.out; omega⟩, ⟨by (with_reducible repeat (first | apply Kd.R_alloc | apply Kd.R_drewN | apply Kd.R_drew)); exact HO_5.out⟩, ⟨by (with_reducible repeat (first | apply Kd.R_alloc | apply Kd.R_drewN | apply Kd.R_drew)); exact HO228.out⟩, ⟨by repeat (first | (with_reducible first | exact HB.out | apply below_alloc | apply pw_below_drewN | apply below_drew1) | exact HB.out)⟩⟩
          · rw [if_neg c20] at H
            exact absurd H (by simp)
      · rw [if_neg c7] at H
        have c7b0 : decide (x8_1 < (t210.length : Int)) = false := decide_eq_false c7
        clear c7
        obtain rfl := Option.some.inj H
        obtain ⟨Ao23, co23, eo23⟩ := Kd.R_slice HO_5.out
        subst eo23
        go_wp2
        go_ret
        exact ⟨_, by first | rfl | (simp [errW_none, errW_some] <;> rfl) | (simp [*, errW_none, errW_some] <;> rfl), by (with_reducible repeat (first | apply Kd.R_alloc | apply Kd.R_drewN | apply Kd.R_drew)); exact HO_7.out, by repeat (first | (with_reducible first | exact HB.out | apply below_alloc | apply pw_below_drewN | apply below_drew1) | exact HB.out)⟩

end Go.Proofs.Ythmmdmnbcecooaa.A

/-! Q7 -/
namespace Go.Proofs.Ythmmdmnbcecooaa.A
open Go.RowKit Go.Proofs.YthmmdmnbcecooaaW.PrintWords Go.Proofs.YthmmdmnbcecooaaW.PrintLast Go.Proofs.YthmmdmnbcecooaaW.PrintMore
set_option linter.unusedVariables false
set_option linter.unusedSimpArgs false

theorem groups_le_any {l : List S42} (h : Good l) (i : Nat) (hi : i < l.length) : (groupsI (tree l i)).length ≤ 65536 := by
  have h0 := (check_zero_iff l).2 h
  have hone := check_once h0
  have hnd := groups_nodup h.ok hone i hi
  have hb := nodup_bound l.length _ hnd (fun g hg => by
    have := Up.le h.ok (groups_up h.ok i hi g hg)
    omega)
  have := h.le
  omega

theorem Groups_eq (l : List S42) (T : Nat) (hT : ∀ i, i < l.length → (l.getD i z42).f1.size ≤ T) (hT2 : T ≤ 140737488355328) (k : Nat) (hk : 4 * 65536 + T + 5 ≤ k) : koineref25_Groups.f k l = document_Groups.f l := by
  unfold koineref25_Groups.f document_Groups.f
  rw [Check_eq l T hT hT2 k (by omega), Option.bind_some]
  by_cases hc : checkI l = 0
  · have hg := (check_zero_iff l).1 hc
    have hp := hg.pos
    have hle := hg.le
    rw [if_pos hc, if_pos hc, wrap64_small (by omega) (by omega), show (l.length : Int) - 1 = ((l.length - 1 : Nat) : Int) by omega,
      walk_eq hg.ok (fun i hi => by have := groups_le_any hg i hi; omega) (l.length - 1) k (by omega) (by omega)]
    rfl
  · rw [if_neg hc, if_neg hc]

/-- The choice: for each group, the flag if there is one and the group has no hard break. -/
def choiceGo (l : List S42) (fl : List Bool) : List Nat → Nat → List Bool
  | [], _ => []
  | g :: t, j => (fl.getD j false && !hardT (tree l g)) :: choiceGo l fl t (j + 1)
def choiceL (l : List S42) (fl : List Bool) : List Bool := choiceGo l fl (groupsI (tree l (l.length - 1))) 0

theorem choiceGo_length (l : List S42) (fl : List Bool) : ∀ (gs : List Nat) (j : Nat), (choiceGo l fl gs j).length = gs.length
  | [], _ => rfl
  | g :: t, j => by simp [choiceGo, choiceGo_length l fl t (j + 1)]

theorem choice_loop {l : List S42} (hg : Good l) (fl : List Bool) (gs : List Nat) (hgs : ∀ g ∈ gs, g < l.length) (hlen : gs.length ≤ 65536) : ∀ (d j k : Nat) (out : List Bool), j + d = gs.length → out.length = j → 65536 + 1 ≤ k →
    koineref25_Choice.l0 (k + d + 1) l fl (gs.map Int.ofNat) out j = some (out ++ choiceGo l fl (gs.drop j) j)
  | 0, j, k, out, hj, ho, hk => by
    rw [koineref25_Choice.l0, if_neg (by simp; omega), List.drop_eq_nil_of_le (by omega)]
    simp [choiceGo]
  | d + 1, j, k, out, hj, ho, hk => by
    have hlt : j < gs.length := by omega
    have hw : wrap64 ((j : Int) + 1) = ((j + 1 : Nat) : Int) := by rw [wrap64_small (by omega) (by omega)]; omega
    have hle := hg.le
    rw [show k + (d + 1) + 1 = (k + d + 1) + 1 by omega, koineref25_Choice.l0, if_pos (by simp; omega), List.drop_eq_getElem_cons hlt, hw]
    have hgj := hgs gs[j] (List.getElem_mem hlt)
    have hrd : rd (gs.map Int.ofNat) (j : Int) = ((gs[j] : Nat) : Int) := by simp [rd, List.getD, hlt]
    have fin : ∀ b : Bool, b = (fl.getD j false && !hardT (tree l gs[j])) → koineref25_Choice.l0 (k + d + 1) l fl (gs.map Int.ofNat) (out ++ [b]) ((j + 1 : Nat) : Int) = some (out ++ choiceGo l fl (gs[j] :: gs.drop (j + 1)) j) := by
      intro b hb
      rw [choice_loop hg fl gs hgs hlen d (j + 1) k (out ++ [b]) (by omega) (by simp; omega) hk, choiceGo, hb, List.append_assoc]
      rfl
    by_cases hf : j < fl.length
    · have hrf : rdOf false fl (j : Int) = fl.getD j false := by simp [rdOf]
      rw [if_pos (by omega), if_pos (by omega), hrf]
      by_cases hb : fl.getD j false = true
      · rw [if_pos hb, hrd, hard_eq hg.ok _ _ (by omega) hgj, Option.bind_some, if_pos (by omega)]
        exact fin _ (by rw [hb]; rfl)
      · have hb' : fl.getD j false = false := by simpa using hb
        rw [if_neg hb, if_pos (by omega)]
        exact fin _ (by rw [hb']; rfl)
    · rw [if_neg (by omega), if_pos (by omega)]
      refine fin _ ?_
      have : fl.getD j false = false := by simp [List.getD, List.getElem?_eq_none (by omega : fl.length ≤ j)]
      rw [this]; rfl

theorem Choice_eq {l : List S42} (hg : Good l) (T : Nat) (hT : ∀ i, i < l.length → (l.getD i z42).f1.size ≤ T) (hT2 : T ≤ 140737488355328) (fl : List Bool) (k : Nat) (hk : 8 * 65536 + T + 5 ≤ k) : koineref25_Choice.f k l fl = some (choiceL l fl) := by
  unfold koineref25_Choice.f
  have hp := hg.pos
  have hgl := groups_le_any hg (l.length - 1) (by omega)
  rw [Groups_eq l T hT hT2 k (by omega)]
  unfold document_Groups.f
  rw [if_pos ((check_zero_iff l).2 hg), Option.bind_some]
  obtain ⟨k, rfl⟩ : ∃ k', k = k' + (groupsI (tree l (l.length - 1))).length + 1 := ⟨k - (groupsI (tree l (l.length - 1))).length - 1, by omega⟩
  have := choice_loop hg fl (groupsI (tree l (l.length - 1))) (fun g hgm => by
    have := Up.le hg.ok (groups_up hg.ok _ (by omega) g hgm)
    omega) hgl (groupsI (tree l (l.length - 1))).length 0 k [] (by omega) rfl (by omega)
  rw [show ((0 : Nat) : Int) = 0 from rfl, List.drop_zero, List.nil_append] at this
  exact this

end Go.Proofs.Ythmmdmnbcecooaa.A

/-! Q8 -/
namespace Go.Proofs.Ythmmdmnbcecooaa.A
open Go.RowKit Go.Proofs.YthmmdmnbcecooaaW.PrintWords Go.Proofs.YthmmdmnbcecooaaW.PrintLast Go.Proofs.YthmmdmnbcecooaaW.PrintMore
set_option linter.unusedVariables false
set_option linter.unusedSimpArgs false

def addT (st : St) (s : List UInt8) : St :=
  if s = [] then st
  else if st.col = 0 then ⟨st.out ++ (List.replicate st.pend.toNat 32 ++ s), st.pend + s.length, st.pend, st.wrong⟩
  else ⟨st.out ++ s, st.col + s.length, st.pend, st.wrong⟩
def feedT (st : St) (ind : Int) : St := ⟨st.out ++ [10], 0, ind, st.wrong⟩

/-- The number of groups. -/
def ng : Doc → Nat
  | .text _ | .line _ | .hard => 0
  | .seq a b => ng a + ng b
  | .nest _ a | .align a => ng a
  | .group _ a => ng a + 1

def wrP : Doc → Int → Bool → List Bool → St → St
  | .text s, _, _, _, st => addT st s.data.toList
  | .line s, ind, flat, _, st => if flat then addT st s.data.toList else feedT st ind
  | .hard, ind, flat, _, st => feedT { st with wrong := st.wrong || flat } ind
  | .seq a b, ind, flat, fl, st => wrP b ind flat (fl.drop (ng a)) (wrP a ind flat (fl.take (ng a)) st)
  | .nest n a, ind, flat, fl, st => wrP a (ind + n) flat fl st
  | .align a, _, flat, fl, st => wrP a (if st.col = 0 then st.pend else st.col) flat fl st
  | .group _ a, ind, flat, fl, st => wrP a ind (flat || fl.headD false) fl.tail st

theorem ng_eq : ∀ t : Doc, (groupsI t).length = ng t
  | .text _ | .line _ | .hard => rfl
  | .seq a b => by simp [groupsI, ng, ng_eq a, ng_eq b]
  | .nest _ a | .align a => by simp [groupsI, ng, ng_eq a]
  | .group _ a => by simp [groupsI, ng, ng_eq a]

/-- Bytes of texts and indentations. -/
def wt : Doc → Nat
  | .text s | .line s => s.data.toList.length
  | .hard => 0
  | .seq a b => wt a + wt b
  | .nest n a => n.toNat + wt a
  | .align a | .group _ a => wt a
/-- Leaves. -/
def lv : Doc → Nat
  | .text _ | .line _ | .hard => 1
  | .seq a b => lv a + lv b
  | .nest _ a | .align a | .group _ a => lv a
/-- No indentation is negative. -/
def nn : Doc → Prop
  | .text _ | .line _ | .hard => True
  | .seq a b => nn a ∧ nn b
  | .nest n a => 0 ≤ n ∧ nn a
  | .align a | .group _ a => nn a

def InB (st : St) (B : Nat) : Prop := 0 ≤ st.col ∧ st.col ≤ B ∧ 0 ≤ st.pend ∧ st.pend ≤ B

theorem addO_eq {st : St} {s : List UInt8} {B : Nat} (h : InB st B) (h1 : st.out.length + (B + s.length) ≤ 140737488355328) :
    addO st s = some (addT st s) ∧ InB (addT st s) (B + s.length) ∧ (addT st s).out.length ≤ st.out.length + (B + s.length) := by
  obtain ⟨a1, a2, a3, a4⟩ := h
  unfold addO addT
  by_cases hs : s = []
  · subst hs
    rw [if_pos rfl, if_pos rfl]
    exact ⟨rfl, ⟨a1, by omega, a3, by omega⟩, by omega⟩
  rw [if_neg hs, if_neg hs]
  by_cases hc : st.col = 0
  · rw [if_pos hc, if_pos hc, if_pos ⟨a3, by omega⟩]
    exact ⟨rfl, ⟨by simp only; omega, by simp only; omega, by simp only; omega, by simp only; omega⟩, by simp; omega⟩
  · rw [if_neg hc, if_neg hc, if_pos ⟨a1, by omega, by omega⟩]
    exact ⟨rfl, ⟨by simp only; omega, by simp only; omega, by simp only; omega, by simp only; omega⟩, by simp only [List.length_append]; omega⟩

theorem feedO_eq {st : St} {ind : Int} {B : Nat} (h : InB st B) (hi : 0 ≤ ind ∧ ind ≤ B) (h1 : st.out.length + 1 ≤ 140737488355328) :
    feedO st ind = some (feedT st ind) ∧ InB (feedT st ind) B ∧ (feedT st ind).out.length ≤ st.out.length + 1 := by
  unfold feedO feedT
  rw [if_pos h1]
  exact ⟨rfl, ⟨by simp only; omega, by simp only; omega, by simp only; omega, by simp only; omega⟩, by simp⟩

theorem wrO_eq (ch : Nat → Bool) : ∀ (t : Doc) (B : Nat) (ind : Int) (flat : Bool) (st : St), nn t → InB st B → 0 ≤ ind ∧ ind ≤ B → B + wt t ≤ 1000000000000 → st.out.length + lv t * (B + wt t + 1) ≤ 140737488355328 →
    wrO ch t ind flat st = some (wrP t ind flat ((groupsI t).map ch) st) ∧ InB (wrP t ind flat ((groupsI t).map ch) st) (B + wt t) ∧
      (wrP t ind flat ((groupsI t).map ch) st).out.length ≤ st.out.length + lv t * (B + wt t + 1)
  | .text s, B, ind, flat, st, hn, hb, hi, hw, hl => by
    simp only [lv, wt] at hl ⊢
    obtain ⟨h1, h2, h3⟩ := addO_eq (s := s.data.toList) hb (by omega)
    exact ⟨h1, h2, by show (addT st s.data.toList).out.length ≤ _; omega⟩
  | .line s, B, ind, flat, st, hn, hb, hi, hw, hl => by
    simp only [lv, wt] at hl ⊢
    cases flat with
    | true =>
      obtain ⟨h1, h2, h3⟩ := addO_eq (s := s.data.toList) hb (by omega)
      exact ⟨h1, h2, by show (addT st s.data.toList).out.length ≤ _; omega⟩
    | false =>
      obtain ⟨h1, h2, h3⟩ := feedO_eq (ind := ind) hb hi (by omega)
      refine ⟨h1, ?_, by show (feedT st ind).out.length ≤ _; omega⟩
      show InB (feedT st ind) _
      obtain ⟨a1, a2, a3, a4⟩ := h2
      exact ⟨a1, by omega, a3, by omega⟩
  | .hard, B, ind, flat, st, hn, hb, hi, hw, hl => by
    simp only [lv, wt] at hl ⊢
    obtain ⟨h1, h2, h3⟩ := feedO_eq (st := { st with wrong := st.wrong || flat }) (ind := ind) hb hi (by show st.out.length + 1 ≤ _; omega)
    refine ⟨h1, ?_, by show (feedT { st with wrong := st.wrong || flat } ind).out.length ≤ _; have : ({ st with wrong := st.wrong || flat } : St).out = st.out := rfl; rw [this] at h3; omega⟩
    exact h2
  | .seq a b, B, ind, flat, st, hn, hb, hi, hw, hl => by
    simp only [lv, wt] at hl hw ⊢
    have e1 : lv a * (B + (wt a + wt b) + 1) = lv a * (B + wt a + 1) + lv a * wt b := by rw [← Nat.mul_add]; congr 1; omega
    have e2 : (lv a + lv b) * (B + (wt a + wt b) + 1) = lv a * (B + (wt a + wt b) + 1) + lv b * (B + (wt a + wt b) + 1) := Nat.add_mul ..
    rw [e2] at hl ⊢
    rw [e1] at hl ⊢
    obtain ⟨h1, h2, h3⟩ := wrO_eq ch a B ind flat st hn.1 hb hi (by omega) (by omega)
    have e3 : B + wt a + wt b + 1 = B + (wt a + wt b) + 1 := by omega
    obtain ⟨g1, g2, g3⟩ := wrO_eq ch b (B + wt a) ind flat _ hn.2 h2 ⟨by omega, by omega⟩ (by omega) (by rw [e3]; omega)
    rw [e3] at g3
    have et : ((groupsI (.seq a b)).map ch).take (ng a) = (groupsI a).map ch := by rw [← ng_eq a]; simp [groupsI]
    have ed : ((groupsI (.seq a b)).map ch).drop (ng a) = (groupsI b).map ch := by rw [← ng_eq a]; simp [groupsI]
    simp only [wrO, wrP]
    rw [et, ed, h1, Option.bind_some]
    exact ⟨g1, by rw [← Nat.add_assoc]; exact g2, by omega⟩
  | .nest n a, B, ind, flat, st, hn, hb, hi, hw, hl => by
    simp only [lv, wt] at hl hw ⊢
    obtain ⟨a1, a2, a3, a4⟩ := hb
    have hn1 := hn.1
    have := wrO_eq ch a (B + n.toNat) (ind + n) flat st hn.2 ⟨a1, by omega, a3, by omega⟩ ⟨by omega, by omega⟩ (by omega) (by rw [Nat.add_assoc B]; exact hl)
    rw [Nat.add_assoc B] at this
    simp only [wrO, wrP]
    rw [if_pos ⟨by omega, by omega⟩]
    exact this
  | .align a, B, ind, flat, st, hn, hb, hi, hw, hl => by
    simp only [lv, wt] at hl hw ⊢
    simp only [wrO, wrP]
    refine wrO_eq ch a B _ flat st hn hb ?_ hw hl
    obtain ⟨a1, a2, a3, a4⟩ := hb
    split
    · exact ⟨a3, a4⟩
    · exact ⟨a1, a2⟩
  | .group i a, B, ind, flat, st, hn, hb, hi, hw, hl => by
    simp only [lv, wt] at hl hw ⊢
    simp only [wrO, wrP, groupsI, List.map_cons, List.headD_cons, List.tail_cons]
    exact wrO_eq ch a B ind (flat || ch i) st hn hb hi hw hl

/-! ### The choice as a list -/
def gh : Doc → List Bool
  | .text _ | .line _ | .hard => []
  | .seq a b => gh a ++ gh b
  | .nest _ a | .align a => gh a
  | .group _ a => hardT a :: gh a
theorem gh_length : ∀ t : Doc, (gh t).length = ng t
  | .text _ | .line _ | .hard => rfl
  | .seq a b => by simp [gh, ng, gh_length a, gh_length b]
  | .nest _ a | .align a => by simp [gh, ng, gh_length a]
  | .group _ a => by simp [gh, ng, gh_length a]

def chz : List Bool → List Bool → List Bool
  | [], _ => []
  | h :: t, fl => (fl.headD false && !h) :: chz t fl.tail
theorem chz_length : ∀ (g fl : List Bool), (chz g fl).length = g.length
  | [], _ => rfl
  | h :: t, fl => by simp [chz, chz_length t fl.tail]
theorem chz_append : ∀ (g h fl : List Bool), chz (g ++ h) fl = chz g fl ++ chz h (fl.drop g.length)
  | [], h, fl => by simp [chz]
  | x :: g, h, fl => by simp [chz, chz_append g h fl.tail]
theorem choiceGo_chz (l : List S42) (fl : List Bool) : ∀ (gs : List Nat) (j : Nat), choiceGo l fl gs j = chz (gs.map fun g => hardT (tree l g)) (fl.drop j)
  | [], _ => rfl
  | g :: t, j => by
    rw [choiceGo, choiceGo_chz l fl t (j + 1), List.map_cons, chz]
    congr 1
    · simp [List.headD_eq_head?_getD, List.head?_drop, List.getD]
    · rw [List.tail_drop]

theorem gh_tree {l : List S42} (hv : nodesOk l) : ∀ i, i < l.length → (groupsI (tree l i)).map (fun g => hardT (tree l g)) = gh (tree l i) := by
  intro i
  induction i using Nat.strongRecOn with
  | _ i ih =>
    intro hi
    have h := hv i hi
    have hkd := h.kind
    rcases (show (l.getD i z42).f0 = 0 ∨ (l.getD i z42).f0 = 1 ∨ (l.getD i z42).f0 = 2 ∨ (l.getD i z42).f0 = 3 ∨ (l.getD i z42).f0 = 4 ∨ (l.getD i z42).f0 = 5 ∨ (l.getD i z42).f0 = 6 by omega) with h4 | h4 | h4 | h4 | h4 | h4 | h4
    · rw [tree_text h4]; rfl
    · rw [tree_line h4]; rfl
    · rw [tree_hard h4]; rfl
    · have ha := h.a (by omega)
      have hb := h.b h4
      rw [tree_seq hv hi h4]
      simp only [groupsI, List.map_append, gh]
      rw [ih _ (by omega) (by omega), ih _ (by omega) (by omega)]
    · have ha := h.a (by omega)
      rw [tree_nest hv hi h4]
      simp only [groupsI, gh]
      exact ih _ (by omega) (by omega)
    · have ha := h.a (by omega)
      rw [tree_align hv hi h4]
      simp only [groupsI, gh]
      exact ih _ (by omega) (by omega)
    · have ha := h.a (by omega)
      rw [tree_group hv hi h4]
      simp only [groupsI, gh, List.map_cons]
      rw [ih _ (by omega) (by omega), tree_group hv hi h4]
      rfl

/-- The tree without the groups' numbers. -/
def er : Doc → Doc
  | .text s => .text s
  | .line s => .line s
  | .hard => .hard
  | .seq a b => .seq (er a) (er b)
  | .nest n a => .nest n (er a)
  | .align a => .align (er a)
  | .group _ a => .group 0 (er a)
theorem er_ng : ∀ t, ng (er t) = ng t
  | .text _ | .line _ | .hard => rfl
  | .seq a b => by simp [er, ng, er_ng a, er_ng b]
  | .nest _ a | .align a | .group _ a => by simp [er, ng, er_ng a]
theorem er_hard : ∀ t, hardT (er t) = hardT t
  | .text _ | .line _ | .hard => rfl
  | .seq a b => by simp [er, hardT, er_hard a, er_hard b]
  | .nest _ a | .align a | .group _ a => by simp [er, hardT, er_hard a]
theorem er_gh : ∀ t, gh (er t) = gh t
  | .text _ | .line _ | .hard => rfl
  | .seq a b => by simp [er, gh, er_gh a, er_gh b]
  | .nest _ a | .align a => by simp [er, gh, er_gh a]
  | .group _ a => by simp [er, gh, er_gh a, er_hard a]
theorem er_wrP : ∀ t ind flat fl st, wrP (er t) ind flat fl st = wrP t ind flat fl st
  | .text _, _, _, _, _ | .line _, _, _, _, _ | .hard, _, _, _, _ => rfl
  | .seq a b, ind, flat, fl, st => by simp only [er, wrP]; rw [er_ng, er_wrP a, er_wrP b]
  | .nest n a, ind, flat, fl, st => by simp only [er, wrP]; rw [er_wrP a]
  | .align a, ind, flat, fl, st => by simp only [er, wrP]; rw [er_wrP a]
  | .group _ a, ind, flat, fl, st => by simp only [er, wrP]; rw [er_wrP a]
theorem er_wt : ∀ t, wt (er t) = wt t
  | .text _ | .line _ | .hard => rfl
  | .seq a b => by simp [er, wt, er_wt a, er_wt b]
  | .nest _ a | .align a | .group _ a => by simp [er, wt, er_wt a]
theorem er_lv : ∀ t, lv (er t) = lv t
  | .text _ | .line _ | .hard => rfl
  | .seq a b => by simp [er, lv, er_lv a, er_lv b]
  | .nest _ a | .align a | .group _ a => by simp [er, lv, er_lv a]

def E (l : List S42) : Doc := er (rootT l)

theorem nn_tree {l : List S42} (hv : nodesOk l) : ∀ i, i < l.length → nn (tree l i) := by
  intro i
  induction i using Nat.strongRecOn with
  | _ i ih =>
    intro hi
    have h := hv i hi
    have hkd := h.kind
    rcases (show (l.getD i z42).f0 = 0 ∨ (l.getD i z42).f0 = 1 ∨ (l.getD i z42).f0 = 2 ∨ (l.getD i z42).f0 = 3 ∨ (l.getD i z42).f0 = 4 ∨ (l.getD i z42).f0 = 5 ∨ (l.getD i z42).f0 = 6 by omega) with h4 | h4 | h4 | h4 | h4 | h4 | h4
    · rw [tree_text h4]; trivial
    · rw [tree_line h4]; trivial
    · rw [tree_hard h4]; trivial
    · have ha := h.a (by omega)
      have hb := h.b h4
      rw [tree_seq hv hi h4]
      exact ⟨ih _ (by omega) (by omega), ih _ (by omega) (by omega)⟩
    · have ha := h.a (by omega)
      rw [tree_nest hv hi h4]
      exact ⟨h.n.1, ih _ (by omega) (by omega)⟩
    · have ha := h.a (by omega)
      rw [tree_align hv hi h4]
      exact ih _ (by omega) (by omega)
    · have ha := h.a (by omega)
      rw [tree_group hv hi h4]
      exact ih _ (by omega) (by omega)

theorem chOf_zip : ∀ (gs : List Nat) (fl : List Bool), gs.Nodup → gs.length = fl.length → gs.map (chOf (gs.zip fl)) = fl
  | [], [], _, _ => rfl
  | [], _ :: _, _, h => by simp at h
  | _ :: _, [], _, h => by simp at h
  | g :: gs, f :: fl, hn, h => by
    obtain ⟨hn1, hn2⟩ := List.nodup_cons.1 hn
    have ih := chOf_zip gs fl hn2 (by simpa using h)
    simp only [List.zip_cons_cons, List.map_cons, chOf, if_true]
    congr 1
    have : gs.map (chOf ((g, f) :: gs.zip fl)) = gs.map (chOf (gs.zip fl)) := by
      apply List.map_congr_left
      intro a ha
      simp only [chOf]
      rw [if_neg (fun e => hn1 (by rw [e]; exact ha))]
    simp only [chOf] at this
    rw [this, ih]

end Go.Proofs.Ythmmdmnbcecooaa.A

/-! Q9 -/
namespace Go.Proofs.Ythmmdmnbcecooaa.A
open Go.RowKit Go.Proofs.YthmmdmnbcecooaaW.PrintWords Go.Proofs.YthmmdmnbcecooaaW.PrintLast Go.Proofs.YthmmdmnbcecooaaW.PrintMore
set_option linter.unusedVariables false
set_option linter.unusedSimpArgs false

theorem docOf_pref {a : List S42} (r : List S42) (hv : nodesOk a) : ∀ (k i : Nat), i < k → i < a.length → docOf (a ++ r) k i = docOf a k i := by
  intro k
  induction k with
  | zero => intro i h; omega
  | succ k ih =>
    intro i hk hi
    have h := hv i hi
    have hkd := h.kind
    simp only [docOf]
    rw [getD_fst _ _ _ hi]
    split
    · rfl
    split
    · rfl
    split
    · rfl
    have ha := h.a (by omega)
    have e3 := ih (a.getD i z42).f3.toNat (by omega) (by omega)
    rw [e3]
    by_cases h3 : (a.getD i z42).f0 = 3
    · have hb := h.b h3
      rw [if_pos h3, if_pos h3, ih (a.getD i z42).f4.toNat (by omega) (by omega)]
    · rw [if_neg h3, if_neg h3]

theorem docOf_suf {b : List S42} (L : List S42) (n : Nat) (hn : n ≤ 1000000) (hbl : b.length ≤ 1000000) (hv : nodesOk b) (hL : ∀ j, j < b.length → L.getD (n + j) z42 = shiftN n (b.getD j z42)) :
    ∀ (j k k' : Nat), j < k → j < k' → j < b.length → er (docOf L k (n + j)) = er (docOf b k' j) := by
  intro j
  induction j using Nat.strongRecOn with
  | _ j ih =>
    intro k k' hk hk' hj
    obtain ⟨k, rfl⟩ : ∃ m, k = m + 1 := ⟨k - 1, by omega⟩
    obtain ⟨k', rfl⟩ : ∃ m, k' = m + 1 := ⟨k' - 1, by omega⟩
    have h := hv j hj
    have hkd := h.kind
    obtain ⟨s0, s1, s2⟩ := shiftN_kind n (b.getD j z42)
    have hs := shiftN_small h (by omega) n hn
    simp only [docOf]
    rw [hL j hj, s0, s1, s2]
    split
    · rfl
    split
    · rfl
    split
    · rfl
    have ha := h.a (by omega)
    have e3 : (shiftN n (b.getD j z42)).f3.toNat = n + (b.getD j z42).f3.toNat := by
      rw [hs]
      split
      · simp only; omega
      · rw [if_pos (by omega)]; simp only; omega
    have c3 := ih (b.getD j z42).f3.toNat (by omega) k k' (by omega) (by omega) (by omega)
    rw [e3]
    split
    · rename_i h3
      have hb := h.b h3
      have e4 : (shiftN n (b.getD j z42)).f4.toNat = n + (b.getD j z42).f4.toNat := by
        rw [hs, if_pos h3]; simp only; omega
      rw [e4]
      simp only [er]
      rw [c3, ih (b.getD j z42).f4.toNat (by omega) k k' (by omega) (by omega) (by omega)]
    split
    · simp only [er]; rw [c3]
    split
    · simp only [er]; rw [c3]
    · simp only [er]; rw [c3]

theorem E_seq {a b : List S42} (ha : Good a) (hb : Good b) (hl : a.length + b.length + 1 ≤ 65536) : E (seqD a b) = .seq (E a) (E b) := by
  have hpa := ha.pos
  have hpb := hb.pos
  have hg := good_seq ha hb hl
  have hlen : (seqD a b).length = a.length + b.length + 1 := seqD_length a b
  have hroot : (seqD a b).getD ((seqD a b).length - 1) z42 = ⟨3, ⟨#[]⟩, 0, (a.length : Int) - 1, (a.length : Int) + b.length - 1⟩ := by
    rw [hlen]
    unfold seqD joinD
    have := getD_snd (a ++ b.map (shiftN a.length)) [(⟨3, ⟨#[]⟩, 0, (a.length : Int) - 1, (a.length : Int) + b.length - 1⟩ : S42)] 0
    rw [List.length_append, List.length_map, Nat.add_zero] at this
    rw [Nat.add_sub_cancel, this]
    rfl
  unfold E rootT
  rw [tree_seq hg.ok (by omega) (by rw [hroot]), hroot]
  simp only [er]
  rw [show ((a.length : Int) - 1).toNat = a.length - 1 by omega, show ((a.length : Int) + b.length - 1).toNat = a.length + (b.length - 1) by omega]
  congr 1
  · unfold tree seqD joinD
    rw [List.append_assoc, docOf_pref _ ha.ok _ _ (by omega) (by omega)]
  · unfold tree
    refine docOf_suf _ a.length (by omega) (by omega) hb.ok (fun j hj => ?_) _ _ _ (by omega) (by omega) (by omega)
    unfold seqD joinD
    rw [List.append_assoc, getD_snd, getD_fst _ _ _ (by simpa using hj), getD_map _ _ _ hj]

theorem wrap_root (a : List S42) (kind n : Int) : (wrapD kind n a).getD ((wrapD kind n a).length - 1) z42 = ⟨kind, ⟨#[]⟩, n, (a.length : Int) - 1, 0⟩ := by
  rw [wrapD_length]
  unfold wrapD
  have := getD_snd a [(⟨kind, ⟨#[]⟩, n, (a.length : Int) - 1, 0⟩ : S42)] 0
  rw [Nat.add_zero] at this
  rw [Nat.add_sub_cancel, this]
  rfl
theorem wrap_sub {a : List S42} (ha : Good a) (kind n : Int) : tree (wrapD kind n a) ((a.length : Int) - 1).toNat = rootT a := by
  have hpa := ha.pos
  rw [show ((a.length : Int) - 1).toNat = a.length - 1 by omega]
  unfold tree rootT wrapD
  rw [docOf_pref _ ha.ok _ _ (by omega) (by omega)]
  rfl
theorem E_nest {a : List S42} {n : Int} (ha : Good a) (hn : 0 ≤ n ∧ n ≤ 1000) (hl : a.length + 1 ≤ 65536) : E (wrapD 4 n a) = .nest n (E a) := by
  have hg := good_wrap (kind := 4) ha (by omega) hn (fun h => absurd rfl h) hl
  have hr := wrap_root a 4 n
  unfold E
  rw [rootT, tree_nest hg.ok (by rw [wrapD_length]; omega) (by rw [hr]), hr]
  simp only [er]
  rw [wrap_sub ha]
theorem E_align {a : List S42} (ha : Good a) (hl : a.length + 1 ≤ 65536) : E (wrapD 5 0 a) = .align (E a) := by
  have hg := good_wrap (kind := 5) (n := 0) ha (by omega) (by omega) (fun h => rfl) hl
  have hr := wrap_root a 5 0
  unfold E
  rw [rootT, tree_align hg.ok (by rw [wrapD_length]; omega) (by rw [hr]), hr]
  simp only [er]
  rw [wrap_sub ha]
theorem E_group {a : List S42} (ha : Good a) (hl : a.length + 1 ≤ 65536) : E (wrapD 6 0 a) = .group 0 (E a) := by
  have hg := good_wrap (kind := 6) (n := 0) ha (by omega) (by omega) (fun h => rfl) hl
  have hr := wrap_root a 6 0
  unfold E
  rw [rootT, tree_group hg.ok (by rw [wrapD_length]; omega) (by rw [hr]), hr]
  simp only [er]
  rw [wrap_sub ha]
theorem E_text (s : ByteArray) : E (textD s) = .text s := rfl
theorem text_ok {s : ByteArray} (h : Lib.indexByte s.data.toList 10 < 0) : Good (textD s) :=
  good_leaf ⟨⟨by simp only; omega, by simp only; omega⟩, fun h => by simp at h, fun h => by simp at h, fun _ => rfl, fun _ => rfl, ⟨by simp only; omega, by simp only; omega⟩, fun _ => rfl, h, fun h => absurd (Or.inl rfl) h⟩

/-! ### Whatever holds of leaves and goes on to sequences and wraps holds of the documents of Made -/
section
variable {P : List S42 → Prop} (hleaf : ∀ k : Int, 0 ≤ k → k ≤ 255 → P (leafD k)) (htext : P (textD ⟨#[]⟩))
  (hseq : ∀ a b, Good a → Good b → a.length + b.length + 1 ≤ 65536 → P a → P b → P (seqD a b))
  (hwrap : ∀ (kind n : Int) a, Good a → a.length + 1 ≤ 65536 → (kind = 4 ∧ 0 ≤ n ∧ n ≤ 4 ∨ (kind = 5 ∨ kind = 6) ∧ n = 0) → P a → P (wrapD kind n a))
include hleaf hseq hwrap
theorem madeStep_ind {k : Int} (hk : 0 ≤ k ∧ k ≤ 255) {sz : Nat} {D : List (List S42)} (hg : ∀ d ∈ D, Good d ∧ P d) (hz : stOk D sz) (hs : sz ≤ 2000) : ∀ d ∈ (madeStep k sz D).2, P d := by
  unfold stOk at hz
  unfold madeStep
  by_cases c1 : k % 10 < 4 ∨ D.length = 0 ∨ (D.length = 1 ∧ 8 ≤ k % 10)
  · rw [if_pos c1]
    intro d hd
    rcases List.mem_append.1 hd with h | h
    · exact (hg d h).2
    · rw [List.mem_singleton.1 h]; exact hleaf k hk.1 hk.2
  rw [if_neg c1]
  by_cases c2 : 8 ≤ k % 10
  · rw [if_pos c2]
    intro d hd
    rcases List.mem_append.1 hd with h | h
    · exact (hg d (List.mem_of_mem_take h)).2
    · rw [List.mem_singleton.1 h]
      obtain ⟨m, hm⟩ : ∃ m, D.length = m + 2 := ⟨D.length - 2, by omega⟩
      have hsp := sum_split D m hm
      rw [hm, show m + 2 - 2 = m from by omega, show m + 2 - 1 = m + 1 from by omega]
      have g1 := hg _ (getD_memD (D := D) (j := m) (by omega))
      have g2 := hg _ (getD_memD (D := D) (j := m + 1) (by omega))
      exact hseq _ _ g1.1 g2.1 (by omega) g1.2 g2.2
  · rw [if_neg c2]
    intro d hd
    have hx := getD_memD (D := D) (j := D.length - 1) (by omega)
    have hl := len_le_sum D _ hx
    rcases List.mem_or_eq_of_mem_set hd with h | h
    · exact (hg d h).2
    · rw [h]
      have g := hg _ hx
      split
      · exact hwrap _ _ _ g.1 (by omega) (.inl ⟨rfl, by omega, by omega⟩) g.2
      · split
        · exact hwrap _ _ _ g.1 (by omega) (.inr ⟨.inl rfl, rfl⟩) g.2
        · exact hwrap _ _ _ g.1 (by omega) (.inr ⟨.inr rfl, rfl⟩) g.2
theorem madeGo_ind {most : Int} (hm : most ≤ 1000) : ∀ (l : List Int) (sz : Nat) (D : List (List S42)), (∀ x ∈ l, 0 ≤ x ∧ x ≤ 255) → (∀ d ∈ D, Good d ∧ P d) → stOk D sz ∧ sz ≤ 2000 ∧ D.length ≤ 2000 →
    (∀ d ∈ madeGo most l sz D, P d)
  | [], sz, D, _, hg, hz => fun d hd => (hg d hd).2
  | k :: t, sz, D, hb, hg, hz => by
    unfold madeGo
    by_cases hs : (sz : Int) + 2 < most
    · rw [if_pos hs]
      have hk := hb k (by simp)
      refine madeGo_ind hm t _ _ (fun x hx => hb x (by simp [hx])) (fun d hd => ⟨madeStep_good hk (fun d hd => (hg d hd).1) hz.1 hz.2.1 d hd, madeStep_ind hleaf hseq hwrap hk hg hz.1 hz.2.1 d hd⟩) (made_ok hs hm hk rfl hz)
    · rw [if_neg hs]
      exact fun d hd => (hg d hd).2
omit hleaf hwrap in
theorem fold_ind : ∀ (t : List (List S42)) (a : List S42), Good a → P a → (∀ d ∈ t, Good d ∧ P d) → a.length + (t.map List.length).sum + t.length ≤ 65536 → P (t.foldl seqD a)
  | [], a, _, ha, _, _ => ha
  | b :: t, a, ga, ha, hg, hl => by
    simp only [List.map_cons, List.sum_cons, List.length_cons] at hl
    have hs := seqD_length a b
    have g := hg b (by simp)
    exact fold_ind t (seqD a b) (good_seq ga g.1 (by omega)) (hseq a b ga g.1 (by omega) ha g.2) (fun d hd => hg d (by simp [hd])) (by omega)
include htext in
theorem made_ind {l : List Int} {most : Int} (hb : ∀ x ∈ l, 0 ≤ x ∧ x ≤ 255) (hm : most ≤ 1000) : P (madeDoc l most) := by
  obtain ⟨h1, sz, h2, h3⟩ := madeGo_good hm l 0 [] hb (by simp) ⟨by simp [stOk], by omega, by simp⟩
  have h4 := madeGo_ind hleaf hseq hwrap hm l 0 [] hb (by simp) ⟨by simp [stOk], by omega, by simp⟩
  unfold madeDoc
  cases hD : madeGo most l 0 [] with
  | nil => exact htext
  | cons a t =>
    rw [hD] at h1 h2 h4
    unfold stOk at h2
    simp only [List.map_cons, List.sum_cons, List.length_cons] at h2
    exact fold_ind hseq t a (h1 a (by simp)) (h4 a (by simp)) (fun d hd => ⟨h1 d (by simp [hd]), h4 d (by simp [hd])⟩) (by omega)
end

/-! ### What the texts of the documents of Made are -/
/-- Small texts; line breaks are spaces when flat; no text has a line feed. -/
def TxOk : Doc → Prop
  | .text s => s.data.toList.length ≤ 4 ∧ (∀ c ∈ s.data.toList, c ≠ 10)
  | .line s => s.data.toList.length ≤ 4 ∧ (∀ c ∈ s.data.toList, c = 32)
  | .hard => True
  | .seq a b => TxOk a ∧ TxOk b
  | .nest n a => 0 ≤ n ∧ n ≤ 4 ∧ TxOk a
  | .align a | .group _ a => TxOk a
def txOkB : Doc → Bool
  | .text s => decide (s.data.toList.length ≤ 4) && s.data.toList.all (· != 10)
  | .line s => decide (s.data.toList.length ≤ 4) && s.data.toList.all (· == 32)
  | .hard => true
  | _ => false
theorem txOk_of : ∀ t, txOkB t = true → TxOk t ∧ lv t ≤ 1 ∧ wt t ≤ 4
  | .text s, h => by
    simp only [txOkB, Bool.and_eq_true, decide_eq_true_iff, List.all_eq_true, bne_iff_ne] at h
    exact ⟨h, Nat.le_refl _, h.1⟩
  | .line s, h => by
    simp only [txOkB, Bool.and_eq_true, decide_eq_true_iff, List.all_eq_true, beq_iff_eq] at h
    exact ⟨h, Nat.le_refl _, h.1⟩
  | .hard, _ => ⟨trivial, Nat.le_refl _, by decide⟩
  | .seq _ _, h | .nest _ _, h | .align _, h | .group _ _, h => by cases h

def MadeP (l : List S42) : Prop := TxOk (E l) ∧ lv (E l) ≤ l.length ∧ wt (E l) ≤ 4 * l.length

theorem made_shape {l : List Int} {most : Int} (hb : ∀ x ∈ l, 0 ≤ x ∧ x ≤ 255) (hm : most ≤ 1000) : MadeP (madeDoc l most) := by
  refine made_ind (P := MadeP) (fun k h0 h1 => ?_) ⟨⟨by decide, by decide⟩, by decide, by decide⟩ (fun a b ga gb hl ha hb => ?_) (fun kind n a ga hl hk ha => ?_) hb hm
  · have h : ∀ i : Fin 256, (decide ((leafD (i.val : Int)).length = 1) && txOkB (E (leafD (i.val : Int)))) = true := by decide +kernel
    have := h ⟨k.toNat, by omega⟩
    simp only [Int.toNat_of_nonneg h0, Bool.and_eq_true, decide_eq_true_iff] at this
    obtain ⟨t1, t2, t3⟩ := txOk_of _ this.2
    exact ⟨t1, by omega, by omega⟩
  · unfold MadeP
    rw [E_seq ga gb hl, seqD_length]
    exact ⟨⟨ha.1, hb.1⟩, by have := ha.2; have := hb.2; simp only [lv]; omega, by have := ha.2; have := hb.2; simp only [wt]; omega⟩
  · unfold MadeP
    rw [wrapD_length]
    rcases hk with ⟨rfl, h1, h2⟩ | ⟨rfl | rfl, rfl⟩
    · rw [E_nest ga ⟨h1, by omega⟩ hl]
      exact ⟨⟨h1, h2, ha.1⟩, by have := ha.2; simp only [lv]; omega, by have := ha.2; simp only [wt]; omega⟩
    · rw [E_align ga hl]
      exact ⟨ha.1, by have := ha.2; simp only [lv]; omega, by have := ha.2; simp only [wt]; omega⟩
    · rw [E_group ga hl]
      exact ⟨ha.1, by have := ha.2; simp only [lv]; omega, by have := ha.2; simp only [wt]; omega⟩

/-! ### Rendering -/
/-- The flags are a possible choice: no group that is flat, and nothing flat, has a hard line break. -/
theorem wrP_wrong : ∀ (t : Doc) (ind : Int) (flat : Bool) (fl : List Bool) (st : St), (flat = true → hardT t = false) → (wrP t ind flat (chz (gh t) fl) st).wrong = st.wrong
  | .text s, ind, flat, fl, st, h => by simp only [wrP, addT]; split <;> (try split) <;> rfl
  | .line s, ind, flat, fl, st, h => by
    simp only [wrP, addT, feedT]; split
    · split <;> (try split) <;> rfl
    · rfl
  | .hard, ind, flat, fl, st, h => by
    have : flat = false := by cases flat with
      | false => rfl
      | true => exact absurd (h rfl) (by decide)
    subst this
    simp [wrP, feedT]
  | .seq a b, ind, flat, fl, st, h => by
    have h2 : flat = true → hardT a = false ∧ hardT b = false := fun hf => by
      have := h hf
      simpa [hardT] using this
    simp only [wrP, gh]
    rw [chz_append]
    have el : (chz (gh a) fl).length = ng a := by rw [chz_length, gh_length]
    rw [List.drop_left' el, List.take_left' el, wrP_wrong b _ _ _ _ (fun hf => (h2 hf).2), wrP_wrong a _ _ _ _ (fun hf => (h2 hf).1)]
  | .nest n a, ind, flat, fl, st, h => by simp only [wrP, gh]; exact wrP_wrong a _ _ _ _ h
  | .align a, ind, flat, fl, st, h => by simp only [wrP, gh]; exact wrP_wrong a _ _ _ _ h
  | .group i a, ind, flat, fl, st, h => by
    simp only [wrP, gh, chz, List.headD_cons, List.tail_cons]
    refine wrP_wrong a _ _ _ _ (fun hf => ?_)
    cases flat with
    | true => exact h rfl
    | false =>
      simp only [Bool.false_or, Bool.and_eq_true, Bool.not_eq_true'] at hf
      exact hf.2

/-- Small enough to be written. -/
def Fits (t : Doc) : Prop := wt t ≤ 1000000000000 ∧ lv t * (wt t + 1) ≤ 140737488355328

theorem render_any {l : List S42} (hg : Good l) (hf : Fits (E l)) (fl : List Bool) (hl : fl.length = ng (E l)) :
    document_Render.f l fl = some (if (wrP (E l) 0 false fl st0).wrong = true then (⟨#[]⟩, 1) else (⟨(wrP (E l) 0 false fl st0).out.toArray⟩, 0)) := by
  have h0 := (check_zero_iff l).2 hg
  have hp := hg.pos
  have hgl : (groupsI (rootT l)).length = ng (E l) := by rw [ng_eq]; exact (er_ng _).symm
  have hnd : (groupsI (rootT l)).Nodup := groups_nodup hg.ok (check_once h0) (l.length - 1) (by omega)
  unfold document_Render.f
  rw [if_neg (by rw [h0]; decide), if_neg (by omega)]
  unfold renderO
  have hw := wrO_eq (chOf ((groupsI (rootT l)).zip fl)) (rootT l) 0 0 false st0 (nn_tree hg.ok _ (by omega)) ⟨by decide, by decide, by decide, by decide⟩ ⟨by decide, by decide⟩
    (by have := hf.1; unfold E at this; rw [er_wt] at this; omega) (by
      have := hf.2; unfold E at this; rw [er_wt, er_lv] at this
      rw [Nat.zero_add]
      show 0 + _ ≤ _
      omega)
  rw [hw.1, Option.bind_some, chOf_zip _ _ hnd (by omega)]
  unfold E
  rw [er_wrP]

/-- The text of a tree under the flags, but for those that are not possible. -/
def rnd (t : Doc) (fl : List Bool) : List UInt8 := (wrP t 0 false (chz (gh t) fl) st0).out

theorem choiceL_eq {l : List S42} (hg : Good l) (fl : List Bool) : choiceL l fl = chz (gh (E l)) fl := by
  have hp := hg.pos
  unfold choiceL E
  rw [choiceGo_chz, List.drop_zero, gh_tree hg.ok _ (by omega), er_gh]
  rfl

theorem render_choice {l : List S42} (hg : Good l) (hf : Fits (E l)) (fl : List Bool) : document_Render.f l (choiceL l fl) = some (⟨(rnd (E l) fl).toArray⟩, 0) := by
  rw [choiceL_eq hg, render_any hg hf _ (by rw [chz_length, gh_length]), wrP_wrong _ _ _ _ _ (fun h => by cases h)]
  rfl

theorem made_fits {l : List Int} {most : Int} (hb : ∀ x ∈ l, 0 ≤ x ∧ x ≤ 255) (hm : most ≤ 1000) : Fits (E (madeDoc l most)) := by
  obtain ⟨h1, h2, h3⟩ := made_shape hb hm
  obtain ⟨g1, g2⟩ := made_good hb hm
  refine ⟨by omega, ?_⟩
  have := Nat.mul_le_mul (show lv (E (madeDoc l most)) ≤ 2000 by omega) (show wt (E (madeDoc l most)) + 1 ≤ 8001 by omega)
  omega

end Go.Proofs.Ythmmdmnbcecooaa.A

/-! A15 -/
namespace Go.Proofs.Ythmmdmnbcecooaa.A
open Go.RowKit Go.Proofs.YthmmdmnbcecooaaW.PrintWords Go.Proofs.YthmmdmnbcecooaaW.PrintLast Go.Proofs.YthmmdmnbcecooaaW.PrintMore
attribute [local go_sem] max2_int min2_int max_two min_two max_three min_three max_four min_four   -- for this text's walks alone
set_option linter.unusedVariables false
set_option linter.unusedSimpArgs false

/-! ### koineref25_Has: function 37 -/
def koineref25_Has.l0 : Nat → List (S42) → Int → Int → Option (Bool)
  | 0, _, _, _ => none
  | k + 1, x0, x1, x5 => if x5 < (x0.length : Int) then (if 0 ≤ x5 then (if ((rd_T42 x0 x5).f0) = x1 then (some true) else (koineref25_Has.l0 k x0 x1 (wrap64 (x5 + 1)))) else (none)) else (some false)
def koineref25_Has.f (k : Nat) (l0 : List (S42)) (a1 : Int) : Option (Bool) := koineref25_Has.l0 k l0 a1 0
theorem koineref25_Has.mono_l : ∀ k, (∀ y0 y1 y2, LeO (koineref25_Has.l0 k y0 y1 y2) (koineref25_Has.l0 (k + 1) y0 y1 y2))
  | 0 => fun _ _ _ r h => by simp [koineref25_Has.l0] at h
  | k + 1 => by
    have ih0 := koineref25_Has.mono_l k
    · intro y0 y1 y2
      unfold koineref25_Has.l0
      repeat' first
      | (with_reducible exact ih0 _ _ _)
      | (with_reducible exact LeO.refl _)
      | (with_reducible exact LeO.none _)
      | (with_reducible refine LeO.ite ?_ ?_)
      | (with_reducible refine LeO.bind ?_ (fun _ => ?_))
      | exact ih0 _ _ _
      | exact LeO.none _
      | refine LeO.ite ?_ ?_
      | refine LeO.bind ?_ (fun _ => ?_)
theorem koineref25_Has.mono : ∀ a0 a1 k, LeO (koineref25_Has.f k a0 a1) (koineref25_Has.f (k + 1) a0 a1) := by
  intro a0 a1 k
  have ih0 := koineref25_Has.mono_l k
  unfold koineref25_Has.f
  repeat' first
      | (with_reducible exact ih0 _ _ _)
      | (with_reducible exact LeO.refl _)
      | (with_reducible exact LeO.none _)
      | (with_reducible refine LeO.ite ?_ ?_)
      | (with_reducible refine LeO.bind ?_ (fun _ => ?_))
      | exact ih0 _ _ _
      | exact LeO.none _
      | refine LeO.ite ?_ ?_
      | refine LeO.bind ?_ (fun _ => ?_)
set_option maxHeartbeats 8000000 in
set_option maxRecDepth 100000 in
theorem koineref25_Has.calls (k : Nat) (A0 : Option Addr) (c0 : Nat) (l0 : List (S42)) (a1 : Int) (r : Bool) (w : World) (hr0 : Kd.C k42 w A0 l0.length l0) (hc0 : l0.length ≤ c0) (h : koineref25_Has.f k l0 a1 = some r) :
    Calls Try.prog 37 #[.slice A0 l0.length c0, .int .i64 a1] w fun e w' => e = .returned (.bool r) ∧ Drawn0 w w' := by
  have HR0 := Aside0.mk hr0
  have HC0 := Aside0.mk hc0
  clear hr0 hc0
  have H : (koineref25_Has.l0 k l0 a1 0) = some r := h
  clear h
  have H' := Aside0.mk H
  clear H
  go_enter Try.func37, Try.ntmps37
  go_wp2
  go_loopg [5] k (fun kq v5 w' => ∃ (x5_1 : Int), v5 = .int .i64 x5_1 ∧ Aside0 (koineref25_Has.l0 kq l0 a1 x5_1 = some r) ∧ Aside0 (kq ≤ k) ∧ Drawn0 w w')
  case atStart => exact ⟨(0), (by first | rfl | (simp; done) | (simp [*]; done)), H', ⟨Nat.le_refl _⟩, by repeat (first | exact Drawn0.refl _ | apply Drawn0.step)⟩
  case round =>
    clear H'
    try clear p2
    obtain ⟨x5_1, rfl, HA, HK1, ⟨m1, rfl⟩⟩ := hrel
    cases gk with
    | zero => exact absurd HA.out (by simp [koineref25_Has.l0])
    | succ k1 =>
      have H := HA.out
      clear HA
      simp only [koineref25_Has.l0] at H
      by_cases c3 : x5_1 < (l0.length : Int)
      · rw [if_pos c3] at H
        have c3b0 : decide (x5_1 < (l0.length : Int)) = true := decide_eq_true c3
        clear c3
        by_cases c4 : 0 ≤ x5_1
        · rw [if_pos c4] at H
          have c4b0 : decide (0 ≤ x5_1) = true := decide_eq_true c4
          clear c4
          by_cases c5 : ((rd_T42 l0 x5_1).f0) = a1
          · rw [if_pos c5] at H
            have c5b0 : (((rd_T42 l0 x5_1).f0) == a1) = true := beq_iff_eq.mpr c5
            have c5b1 : (((rd_T42 l0 x5_1).f0) != a1) = false := bne_eq_false_iff_eq.mpr c5
            clear c5
            obtain rfl := Option.some.inj H
            have p349 : 0 ≤ (x5_1 : Int) := of_decide_eq_true (by first | (with_reducible assumption) | assumption)
            have q349 : x5_1 < (l0.length : Int) := of_decide_eq_true (by first | (with_reducible assumption) | assumption)
            obtain ⟨ad349, e349, hx349_0, hx349_1, hx349_2, hx349_3, hx349_4⟩ := at_T42 HR0.out x5_1 p349 q349
            cases e349
            replace p349 := eq_true p349
            replace q349 := eq_true q349
            go_wp2
            go_ret
            exact ⟨by first | rfl | (simp; done) | (simp [*]; done), by repeat (first | exact Drawn0.refl _ | apply Drawn0.step)⟩
          · rw [if_neg c5] at H
            have c5b0 : (((rd_T42 l0 x5_1).f0) == a1) = false := beq_eq_false_iff_ne.mpr c5
            have c5b1 : (((rd_T42 l0 x5_1).f0) != a1) = true := bne_iff_ne.mpr c5
            have H' := Aside0.mk H
            clear H
            have p349 : 0 ≤ (x5_1 : Int) := of_decide_eq_true (by first | (with_reducible assumption) | assumption)
            have q349 : x5_1 < (l0.length : Int) := of_decide_eq_true (by first | (with_reducible assumption) | assumption)
            obtain ⟨ad349, e349, hx349_0, hx349_1, hx349_2, hx349_3, hx349_4⟩ := at_T42 HR0.out x5_1 p349 q349
            cases e349
            replace p349 := eq_true p349
            replace q349 := eq_true q349
            go_wp2
            go_roundg k1
            case measure => have := HK1.out; omega
            case rel => exact ⟨(wrap64 (x5_1 + 1)), (by first | rfl | (simp; done) | (simp [*]; done)), H', ⟨by have := HK1.out; omega⟩, by repeat (first | exact Drawn0.refl _ | apply Drawn0.step)⟩
        · rw [if_neg c4] at H
          exact absurd H (by simp)
      · rw [if_neg c3] at H
        have c3b0 : decide (x5_1 < (l0.length : Int)) = false := decide_eq_false c3
        clear c3
        obtain rfl := Option.some.inj H
        go_wp2
        go_ret
        exact ⟨by first | rfl | (simp; done) | (simp [*]; done), by repeat (first | exact Drawn0.refl _ | apply Drawn0.step)⟩

/-! ### koinelaw25_render: function 40 -/
def koinelaw25_render.f (k : Nat) (l0 : List (S42)) (l1 : List Bool) : Option (ByteArray) := (koineref25_Choice.f k l0 l1).bind fun t419 => ((document_Render.f l0 t419).bind fun bt422 => (if bt422.2 = 0 then (some bt422.1) else (some (⟨#[110, 111, 32, 116, 101, 120, 116]⟩ : ByteArray))))
theorem koinelaw25_render.mono : ∀ a0 a1 k, LeO (koinelaw25_render.f k a0 a1) (koinelaw25_render.f (k + 1) a0 a1) := by
  intro a0 a1 k
  unfold koinelaw25_render.f
  repeat' first
      | (with_reducible exact koineref25_Choice.mono _ _ _)
      | (with_reducible exact LeO.refl _)
      | (with_reducible exact LeO.none _)
      | (with_reducible refine LeO.ite ?_ ?_)
      | (with_reducible refine LeO.bind ?_ (fun _ => ?_))
      | exact koineref25_Choice.mono _ _ _
      | exact LeO.none _
      | refine LeO.ite ?_ ?_
      | refine LeO.bind ?_ (fun _ => ?_)
set_option maxHeartbeats 8000000 in
set_option maxRecDepth 100000 in
theorem koinelaw25_render.calls (k : Nat) (A0 : Option Addr) (c0 : Nat) (l0 : List (S42)) (A1 : Option Addr) (c1 : Nat) (l1 : List Bool) (r : ByteArray) (w : World) (hr0 : Kd.C k42 w A0 l0.length l0) (hc0 : l0.length ≤ c0) (hr1 : Kd.C Kd.bool w A1 l1.length l1) (hc1 : l1.length ≤ c1) (h : koinelaw25_render.f k l0 l1 = some r) :
    Calls Try.prog 40 #[.slice A0 l0.length c0, .slice A1 l1.length c1] w fun e w' => e = .returned (.string r) ∧ Below w.heap.size w w' := by
  have HR0 := Aside0.mk hr0
  have HC0 := Aside0.mk hc0
  clear hr0 hc0
  have HR1 := Aside0.mk hr1
  have HC1 := Aside0.mk hc1
  clear hr1 hc1
  have HB := Aside0.mk (Below.refl w.heap.size w)
  have H : ((koineref25_Choice.f k l0 l1).bind fun t419 => ((document_Render.f l0 t419).bind fun bt422 => (if bt422.2 = 0 then (some bt422.1) else (some (⟨#[110, 111, 32, 116, 101, 120, 116]⟩ : ByteArray))))) = some r := h
  clear h
  replace H := Option.bind_eq_some_iff.mp H
  obtain ⟨t419, A30, H⟩ := H
  replace H : ((document_Render.f l0 t419).bind fun bt422 => (if bt422.2 = 0 then (some bt422.1) else (some (⟨#[110, 111, 32, 116, 101, 120, 116]⟩ : ByteArray)))) = some r := H
  have A3 := Aside0.mk A30
  clear A30
  replace H := Option.bind_eq_some_iff.mp H
  obtain ⟨⟨t422, t423⟩, A40, H⟩ := H
  replace H : (if t423 = 0 then (some t422) else (some (⟨#[110, 111, 32, 116, 101, 120, 116]⟩ : ByteArray))) = some r := H
  have A4 := Aside0.mk A40
  clear A40
  by_cases c5 : t423 = 0
  · rw [if_pos c5] at H
    have c5b0 : (t423 == 0) = true := beq_iff_eq.mpr c5
    have c5b1 : (t423 != 0) = false := bne_eq_false_iff_eq.mpr c5
    clear c5
    obtain rfl := Option.some.inj H
    go_enter Try.func40, Try.ntmps40
    go_wp2_with (first | ((with_reducible refine gate_callee (f := 26) rfl ?_); refine goesL_ (some 11) rfl rfl Try.func26 (by kernel_rfl) rfl #[.slice A0 l0.length c0, .slice A1 l1.length c1] rfl (by (try simp only [List.map_toArray, List.map_cons, List.map_nil]); first | done | rfl | (simp only [List.length_drop, List.length_take]; rfl)) ?_; (with_reducible refine (koineref25_Choice.calls k _ _ l0 _ _ l1 t419 _ ?side1 ?side2 ?side3 ?side4 A3.out).mono ?_); (case side1 => repeat (first | exact HR0.out | (with_reducible refine Kd.C_alloc ?_ _) | (with_reducible refine Kd.C_drewN ?_ _) | (with_reducible refine Kd.C_drew ?_))); (case side2 => exact HC0.out); (case side3 => repeat (first | exact HR1.out | (with_reducible refine Kd.C_alloc ?_ _) | (with_reducible refine Kd.C_drewN ?_ _) | (with_reducible refine Kd.C_drew ?_))); (case side4 => exact HC1.out); rintro e w6 ⟨v420, rfl, ho0, hb⟩; refine ⟨_, rfl, ?_⟩; have n0_ := Aside0.mk (Kd.R_lower ho0 (below_size (by repeat (first | (with_reducible first | exact HB.out | apply below_alloc | apply pw_below_drewN | apply below_drew1) | exact HB.out)))); have n1_ := Aside0.mk (below_step (by repeat (first | (with_reducible first | exact HB.out | apply below_alloc | apply pw_below_drewN | apply below_drew1) | exact HB.out)) hb); clear HB; have HO421 := n0_; have HB := n1_; clear n0_ n1_; (try clear hb); (try clear hb2); (try clear hk); (try clear hi); (try clear ho0); obtain ⟨Ao7, co7, eo7⟩ := Kd.R_slice HO421.out; subst eo7) | ((with_reducible refine gate_callee (f := 24) rfl ?_); refine goesL_ (some 12) rfl rfl Try.func24 (by kernel_rfl) rfl #[.slice A0 l0.length c0, .slice Ao7 t419.length co7] rfl (by (try simp only [List.map_toArray, List.map_cons, List.map_nil]); first | done | rfl | (simp only [List.length_drop, List.length_take]; rfl)) ?_; (with_reducible refine (document_Render.calls _ _ l0 _ _ t419 t422 t423 _ ?side1 ?side2 ?side3 ?side4 A4.out).mono ?_); (case side1 => repeat (first | exact (Kd.C_below HR0.out HB.out) | (with_reducible refine Kd.C_alloc ?_ _) | (with_reducible refine Kd.C_drewN ?_ _) | (with_reducible refine Kd.C_drew ?_))); (case side2 => exact HC0.out); (case side3 => repeat (first | exact (Kd.R_reads' HO421.out).2.2 | (with_reducible refine Kd.C_alloc ?_ _) | (with_reducible refine Kd.C_drewN ?_ _) | (with_reducible refine Kd.C_drew ?_))); (case side4 => exact (Kd.R_reads' HO421.out).2.1); rintro e w8 ⟨rfl, hb⟩; refine ⟨_, rfl, ?_⟩; have n0_ := Aside0.mk (Kd.R_below (by (with_reducible repeat (first | apply Kd.R_alloc | apply Kd.R_drewN | apply Kd.R_drew)); exact HO421.out) hb); have n1_ := Aside0.mk (below_step (by repeat (first | (with_reducible first | exact HB.out | apply below_alloc | apply pw_below_drewN | apply below_drew1) | exact HB.out)) hb); clear HO421; clear HB; have HO421 := n0_; have HB := n1_; clear n0_ n1_; (try clear hb); (try clear hb2); (try clear hk); (try clear hi)))
    go_ret
    exact ⟨by first | rfl | (simp [errW_none, errW_some] <;> rfl) | (simp [*, errW_none, errW_some] <;> rfl), by repeat (first | (with_reducible first | exact HB.out | apply below_alloc | apply pw_below_drewN | apply below_drew1) | exact HB.out)⟩
  · rw [if_neg c5] at H
    have c5b0 : (t423 == 0) = false := beq_eq_false_iff_ne.mpr c5
    have c5b1 : (t423 != 0) = true := bne_iff_ne.mpr c5
    obtain rfl := Option.some.inj H
    go_enter Try.func40, Try.ntmps40
    go_wp2_with (first | ((with_reducible refine gate_callee (f := 26) rfl ?_); refine goesL_ (some 11) rfl rfl Try.func26 (by kernel_rfl) rfl #[.slice A0 l0.length c0, .slice A1 l1.length c1] rfl (by (try simp only [List.map_toArray, List.map_cons, List.map_nil]); first | done | rfl | (simp only [List.length_drop, List.length_take]; rfl)) ?_; (with_reducible refine (koineref25_Choice.calls k _ _ l0 _ _ l1 t419 _ ?side1 ?side2 ?side3 ?side4 A3.out).mono ?_); (case side1 => repeat (first | exact HR0.out | (with_reducible refine Kd.C_alloc ?_ _) | (with_reducible refine Kd.C_drewN ?_ _) | (with_reducible refine Kd.C_drew ?_))); (case side2 => exact HC0.out); (case side3 => repeat (first | exact HR1.out | (with_reducible refine Kd.C_alloc ?_ _) | (with_reducible refine Kd.C_drewN ?_ _) | (with_reducible refine Kd.C_drew ?_))); (case side4 => exact HC1.out); rintro e w9 ⟨v420, rfl, ho0, hb⟩; refine ⟨_, rfl, ?_⟩; have n0_ := Aside0.mk (Kd.R_lower ho0 (below_size (by repeat (first | (with_reducible first | exact HB.out | apply below_alloc | apply pw_below_drewN | apply below_drew1) | exact HB.out)))); have n1_ := Aside0.mk (below_step (by repeat (first | (with_reducible first | exact HB.out | apply below_alloc | apply pw_below_drewN | apply below_drew1) | exact HB.out)) hb); clear HB; have HO421 := n0_; have HB := n1_; clear n0_ n1_; (try clear hb); (try clear hb2); (try clear hk); (try clear hi); (try clear ho0); obtain ⟨Ao10, co10, eo10⟩ := Kd.R_slice HO421.out; subst eo10) | ((with_reducible refine gate_callee (f := 24) rfl ?_); refine goesL_ (some 12) rfl rfl Try.func24 (by kernel_rfl) rfl #[.slice A0 l0.length c0, .slice Ao10 t419.length co10] rfl (by (try simp only [List.map_toArray, List.map_cons, List.map_nil]); first | done | rfl | (simp only [List.length_drop, List.length_take]; rfl)) ?_; (with_reducible refine (document_Render.calls _ _ l0 _ _ t419 t422 t423 _ ?side1 ?side2 ?side3 ?side4 A4.out).mono ?_); (case side1 => repeat (first | exact (Kd.C_below HR0.out HB.out) | (with_reducible refine Kd.C_alloc ?_ _) | (with_reducible refine Kd.C_drewN ?_ _) | (with_reducible refine Kd.C_drew ?_))); (case side2 => exact HC0.out); (case side3 => repeat (first | exact (Kd.R_reads' HO421.out).2.2 | (with_reducible refine Kd.C_alloc ?_ _) | (with_reducible refine Kd.C_drewN ?_ _) | (with_reducible refine Kd.C_drew ?_))); (case side4 => exact (Kd.R_reads' HO421.out).2.1); rintro e w11 ⟨rfl, hb⟩; refine ⟨_, rfl, ?_⟩; have n0_ := Aside0.mk (Kd.R_below (by (with_reducible repeat (first | apply Kd.R_alloc | apply Kd.R_drewN | apply Kd.R_drew)); exact HO421.out) hb); have n1_ := Aside0.mk (below_step (by repeat (first | (with_reducible first | exact HB.out | apply below_alloc | apply pw_below_drewN | apply below_drew1) | exact HB.out)) hb); clear HO421; clear HB; have HO421 := n0_; have HB := n1_; clear n0_ n1_; (try clear hb); (try clear hb2); (try clear hk); (try clear hi)))
    go_ret
    exact ⟨by first | rfl | (simp [errW_none, errW_some] <;> rfl) | (simp [*, errW_none, errW_some] <;> rfl), by repeat (first | (with_reducible first | exact HB.out | apply below_alloc | apply pw_below_drewN | apply below_drew1) | exact HB.out)⟩

end Go.Proofs.Ythmmdmnbcecooaa.A

/-! Q10 -/
namespace Go.Proofs.Ythmmdmnbcecooaa.A
open Go.RowKit Go.Proofs.YthmmdmnbcecooaaW.PrintWords Go.Proofs.YthmmdmnbcecooaaW.PrintLast Go.Proofs.YthmmdmnbcecooaaW.PrintMore
set_option linter.unusedVariables false
set_option linter.unusedSimpArgs false

/-- No node's text is longer than T. -/
def Tb (T : Nat) (l : List S42) : Prop := ∀ x ∈ l, x.f1.size ≤ T
theorem Tb.at_ {T : Nat} {l : List S42} (h : Tb T l) (i : Nat) (hi : i < l.length) : (l.getD i z42).f1.size ≤ T := by
  refine h _ ?_
  simp [List.getD, hi]
theorem Tb.seq {T : Nat} {a b : List S42} (ha : Tb T a) (hb : Tb T b) : Tb T (seqD a b) := by
  intro x hx
  unfold seqD joinD at hx
  rcases List.mem_append.1 hx with hx | hx
  · rcases List.mem_append.1 hx with hx | hx
    · exact ha x hx
    · obtain ⟨y, hy, rfl⟩ := List.mem_map.1 hx
      rw [(shiftN_kind _ y).2.1]
      exact hb y hy
  · rw [List.mem_singleton.1 hx]; exact Nat.zero_le _
theorem Tb.wrap {T : Nat} {a : List S42} (ha : Tb T a) (kind n : Int) : Tb T (wrapD kind n a) := by
  intro x hx
  unfold wrapD at hx
  rcases List.mem_append.1 hx with hx | hx
  · exact ha x hx
  · rw [List.mem_singleton.1 hx]; exact Nat.zero_le _
theorem Tb.text {T : Nat} {s : ByteArray} (h : s.size ≤ T) : Tb T (textD s) := by
  intro x hx
  rw [List.mem_singleton.1 hx]; exact h
theorem made_tb {l : List Int} {most : Int} (hb : ∀ x ∈ l, 0 ≤ x ∧ x ≤ 255) (hm : most ≤ 1000) : Tb 20 (madeDoc l most) := by
  refine made_ind (P := Tb 20) (fun k h0 h1 => ?_) (Tb.text (by decide)) (fun a b _ _ _ ha hb => ha.seq hb) (fun kind n a _ _ _ ha => ha.wrap kind n) hb hm
  have h : ∀ i : Fin 256, ((leafD (i.val : Int)).all fun x => decide (x.f1.size ≤ 20)) = true := by decide +kernel
  have := h ⟨k.toNat, by omega⟩
  simp only [Int.toNat_of_nonneg h0] at this
  intro x hx
  simpa using List.all_eq_true.1 this x hx

theorem made_f {l : List Int} {most : Int} (hb : ∀ x ∈ l, 0 ≤ x ∧ x ≤ 255) (hm : 0 ≤ most ∧ most ≤ 1000) (hl : l.length ≤ 281474976710656) : koineref25_Made.f l most = some (madeDoc l most) := by
  unfold koineref25_Made.f
  have : (l.all (fun x => decide (0 ≤ x) && decide (x ≤ 255))) = true := by
    rw [List.all_eq_true]
    intro x hx
    simpa using hb x hx
  rw [if_pos ⟨this, hm, hl⟩]

/-- A document that the laws make: in order, with short texts, small enough. -/
structure Doc20 (l : List S42) : Prop where
  good : Good l
  tb : Tb 20 l
  fits : Fits (E l)

theorem made_doc {l : List Int} {most : Int} (hb : ∀ x ∈ l, 0 ≤ x ∧ x ≤ 255) (hm : most ≤ 1000) : Doc20 (madeDoc l most) :=
  ⟨(made_good hb hm).1, made_tb hb hm, made_fits hb hm⟩

theorem choice_f {l : List S42} (h : Doc20 l) (fl : List Bool) {k : Nat} (hk : 1000000 ≤ k) : koineref25_Choice.f k l fl = some (choiceL l fl) :=
  Choice_eq h.good 20 h.tb.at_ (by decide) fl k (by omega)

theorem render_f {l : List S42} (h : Doc20 l) (fl : List Bool) : document_Render.f l (choiceL l fl) = some (⟨(rnd (E l) fl).toArray⟩, 0) := render_choice h.good h.fits fl

theorem lawrender_f {l : List S42} (h : Doc20 l) (fl : List Bool) {k : Nat} (hk : 1000000 ≤ k) : koinelaw25_render.f k l fl = some ⟨(rnd (E l) fl).toArray⟩ := by
  unfold koinelaw25_render.f
  rw [choice_f h fl hk, Option.bind_some, render_f h, Option.bind_some]
  rfl

/-! ### Bytes -/
theorem bt_get (s : ByteArray) (j : Nat) (h : j < s.data.toList.length) : bt s (j : Int) = ((s.data.toList[j]'h).toNat : Int) := by
  unfold bt
  rw [dif_pos (by simp at h ⊢; omega)]
  simp
  rfl
theorem bytes_ext {a b : List UInt8} (h : a = b) : (⟨a.toArray⟩ : ByteArray).toList = (⟨b.toArray⟩ : ByteArray).toList := by rw [h]
theorem bytes_of {l : List Int} (h : ∀ x ∈ l, (Lit.int .u8 x).wf = true) : ∀ x ∈ l, 0 ≤ x ∧ x ≤ 255 := by
  intro x hx
  have := h x hx
  simp only [Lit.wf, Bool.and_eq_true, decide_eq_true_iff, show IntKind.u8.min = 0 from rfl, show IntKind.u8.max = 255 from rfl] at this
  exact this

end Go.Proofs.Ythmmdmnbcecooaa.A
