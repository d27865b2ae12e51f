/- A9, G6, Q4, A3, A4, A6, Q5, Q6, A10, Q7: what the claims rest on of these texts, one behind the other. No condition of its own. -/
import Derived.Test.YthmmdmnbcecooaaZY9
import Derived.Outline
section
namespace Go.Proofs.Ythmmdmnbcecooaa.A
open Go.RowKit Go.Proofs.YthmmdmnbcecooaaW.PrintWords Go.Proofs.YthmmdmnbcecooaaW.PrintLast Go.Proofs.YthmmdmnbcecooaaW.PrintMore
attribute [local go_sem] max2_int max_two
set_option linter.unusedVariables false
set_option linter.unusedSimpArgs false
def koineref25_hard.f : Nat → List (S42) → Int → Option (Bool)
  | 0, _, _ => none
  | k + 1, l0, a1 => if 0 ≤ a1 then (if a1 < (l0.length : Int) then ((koineref25_operands.f ((rd_T42 l0 a1).f0)).bind fun t206 => (if ((rd_T42 l0 a1).f0) = 2 then (some true) else (if t206 ≥ 1 then ((koineref25_hard.f k l0 ((rd_T42 l0 a1).f3)).bind fun t207 => (if t207 = true then (some true) else (if t206 ≥ 2 then ((koineref25_hard.f k l0 ((rd_T42 l0 a1).f4)).bind fun t208 => (some t208)) else (some false)))) else (if t206 ≥ 2 then ((koineref25_hard.f k l0 ((rd_T42 l0 a1).f4)).bind fun t209 => (some t209)) else (some false))))) else (none)) else (none)
set_option maxHeartbeats 8000000 in
set_option maxRecDepth 100000 in
theorem koineref25_hard.calls (k : Nat) : ∀ (A0 : Option Addr) (c0 : Nat) (l0 : List (S42)) (a1 : Int) (r : Bool) (w : World) (hr0 : Kd.C k42 w A0 l0.length l0) (hc0 : l0.length ≤ c0) (h : koineref25_hard.f k l0 a1 = some r),
    Calls Try.prog 55 #[.slice A0 l0.length c0, .int .i64 a1] w fun e w' => e = .returned (.bool r) ∧ Below w.heap.size w w' := by
  induction k using Nat.strongRecOn with
  | _ k ih =>
  intro A0 c0 l0 a1 r w hr0 hc0 h
  cases k with
  | zero => exact absurd h (by simp [koineref25_hard.f])
  | succ k =>
  simp only [koineref25_hard.f] at h
  have hu42 := Try.underlying42
  have HR0 := Aside0.mk hr0
  have HC0 := Aside0.mk hc0
  clear hr0 hc0
  have HB := Aside0.mk (Below.refl w.heap.size w)
  have H : (if 0 ≤ a1 then (if a1 < (l0.length : Int) then ((koineref25_operands.f ((rd_T42 l0 a1).f0)).bind fun t206 => (if ((rd_T42 l0 a1).f0) = 2 then (some true) else (if t206 ≥ 1 then ((koineref25_hard.f k l0 ((rd_T42 l0 a1).f3)).bind fun t207 => (if t207 = true then (some true) else (if t206 ≥ 2 then ((koineref25_hard.f k l0 ((rd_T42 l0 a1).f4)).bind fun t208 => (some t208)) else (some false)))) else (if t206 ≥ 2 then ((koineref25_hard.f k l0 ((rd_T42 l0 a1).f4)).bind fun t209 => (some t209)) else (some false))))) else (none)) else (none)) = some r := h
  clear h
  by_cases c3 : 0 ≤ a1
  · rw [if_pos c3] at H
    have c3b0 : decide (0 ≤ a1) = true := decide_eq_true c3
    clear c3
    by_cases c4 : a1 < (l0.length : Int)
    · rw [if_pos c4] at H
      have c4b0 : decide (a1 < (l0.length : Int)) = true := decide_eq_true c4
      clear c4
      replace H := Option.bind_eq_some_iff.mp H
      obtain ⟨t206, A50, H⟩ := H
      replace H : (if ((rd_T42 l0 a1).f0) = 2 then (some true) else (if t206 ≥ 1 then ((koineref25_hard.f k l0 ((rd_T42 l0 a1).f3)).bind fun t207 => (if t207 = true then (some true) else (if t206 ≥ 2 then ((koineref25_hard.f k l0 ((rd_T42 l0 a1).f4)).bind fun t208 => (some t208)) else (some false)))) else (if t206 ≥ 2 then ((koineref25_hard.f k l0 ((rd_T42 l0 a1).f4)).bind fun t209 => (some t209)) else (some false)))) = some r := H
      have A5 := Aside0.mk A50
      clear A50
      by_cases c6 : ((rd_T42 l0 a1).f0) = 2
      · rw [if_pos c6] at H
        have c6b0 : (((rd_T42 l0 a1).f0) == 2) = true := beq_iff_eq.mpr c6
        have c6b1 : (((rd_T42 l0 a1).f0) != 2) = false := bne_eq_false_iff_eq.mpr c6
        clear c6
        obtain rfl := Option.some.inj H
        have p204 : 0 ≤ (a1 : Int) := of_decide_eq_true (by first | (with_reducible assumption) | assumption)
        have q204 : a1 < (l0.length : Int) := of_decide_eq_true (by first | (with_reducible assumption) | assumption)
        obtain ⟨ad204, e204, hx204_0, hx204_1, hx204_2, hx204_3, hx204_4⟩ := at_T42 HR0.out a1 p204 q204
        cases e204
        replace p204 := eq_true p204
        replace q204 := eq_true q204
        go_enter Try.func55, Try.ntmps55
        go_wp2_with (first | ((with_reducible refine gate_dst (N := 5) rfl ?_); refine box_event ?hg (N := 5) ?hd (cs := #[.int .i64 0, .string (⟨#[]⟩ : ByteArray), .int .i64 0, .int .i64 0, .int .i64 0]) (t := 42) ?hr ?_; (case hd => rfl); (case hg => rfl); (case hr => first | (go_simp; done) | (go_simp; rfl)); intro gb205 hg w7 hbox hb; have n0_ := Aside0.mk (below_step (by repeat (first | (with_reducible first | exact HB.out | apply below_alloc | apply pw_below_drewN | apply below_drew1) | exact HB.out)) hb); have n1_ := Aside0.mk (hbox); have n2_ := Aside0.mk ((by rw [hg]; exact (below_size (by repeat (first | (with_reducible first | exact HB.out | apply below_alloc | apply pw_below_drewN | apply below_drew1) | exact HB.out))) : w.heap.size ≤ gb205)); have n3_ := Aside0.mk ((by rw [hg]; exact (below_size (by repeat (first | (with_reducible first | exact HB.out | apply below_alloc | apply pw_below_drewN | apply below_drew1) | exact HB.out))) : w.heap.size ≤ gb205)); clear HB; have HB := n0_; have BK205 := n1_; have GW205 := n2_; have GE205 := n3_; clear n0_ n1_ n2_ n3_; clear hb hbox hg; have hcz8_0 : w7.cell? ⟨gb205, 0, none⟩ = some (.int .i64 0) := (blk_cell BK205.out 0).trans rfl; have hcz8_1 : w7.cell? ⟨gb205, 1, none⟩ = some (.string (⟨#[]⟩ : ByteArray)) := (blk_cell BK205.out 1).trans rfl; have hcz8_2 : w7.cell? ⟨gb205, 2, none⟩ = some (.int .i64 0) := (blk_cell BK205.out 2).trans rfl; have hcz8_3 : w7.cell? ⟨gb205, 3, none⟩ = some (.int .i64 0) := (blk_cell BK205.out 3).trans rfl; have hcz8_4 : w7.cell? ⟨gb205, 4, none⟩ = some (.int .i64 0) := (blk_cell BK205.out 4).trans rfl; have hfz8_0 := blk_frozen BK205.out 0; have hfz8_1 := blk_frozen BK205.out 1; have hfz8_2 := blk_frozen BK205.out 2; have hfz8_3 := blk_frozen BK205.out 3; have hfz8_4 := blk_frozen BK205.out 4) | ((with_reducible refine gate_callee (f := 60) rfl ?_); refine goesL_ (some 13) rfl rfl Try.func60 (by kernel_rfl) rfl #[.int .i64 ((rd_T42 l0 a1).f0)] rfl (by (try simp only [List.map_toArray, List.map_cons, List.map_nil]); first | done | rfl | (simp only [List.length_drop, List.length_take]; rfl)) ?_; (with_reducible refine (koineref25_operands.calls ((rd_T42 l0 a1).f0) t206 _ A5.out).mono ?_); rintro e w' ⟨rfl, ⟨nd, rfl⟩⟩; refine ⟨_, rfl, ?_⟩))
        go_ret
        exact ⟨by first | rfl | (simp [errW_none, errW_some] <;> rfl) | (simp [*, errW_none, errW_some] <;> rfl), by repeat (first | (with_reducible first | exact HB.out | apply below_alloc | apply pw_below_drewN | apply below_drew1 | refine below_set ?_ GE205.out) | exact HB.out)⟩
      · rw [if_neg c6] at H
        have c6b0 : (((rd_T42 l0 a1).f0) == 2) = false := beq_eq_false_iff_ne.mpr c6
        have c6b1 : (((rd_T42 l0 a1).f0) != 2) = true := bne_iff_ne.mpr c6
        by_cases c9 : t206 ≥ 1
        · rw [if_pos c9] at H
          have c9b0 : decide (1 ≤ t206) = true := decide_eq_true c9
          clear c9
          replace H := Option.bind_eq_some_iff.mp H
          obtain ⟨t207, A100, H⟩ := H
          replace H : (if t207 = true then (some true) else (if t206 ≥ 2 then ((koineref25_hard.f k l0 ((rd_T42 l0 a1).f4)).bind fun t208 => (some t208)) else (some false))) = some r := H
          have A10 := Aside0.mk A100
          clear A100
          by_cases c11 : t207 = true
          · subst c11
            have H1 : (some true) = some r := by rw [if_pos rfl] at H; exact H
            clear H
            have H := H1
            clear H1
            obtain rfl := Option.some.inj H
            have p204 : 0 ≤ (a1 : Int) := of_decide_eq_true (by first | (with_reducible assumption) | assumption)
            have q204 : a1 < (l0.length : Int) := of_decide_eq_true (by first | (with_reducible assumption) | assumption)
            obtain ⟨ad204, e204, hx204_0, hx204_1, hx204_2, hx204_3, hx204_4⟩ := at_T42 HR0.out a1 p204 q204
            cases e204
            replace p204 := eq_true p204
            replace q204 := eq_true q204
            go_enter Try.func55, Try.ntmps55
            go_wp2_with (first | ((with_reducible refine gate_dst (N := 5) rfl ?_); refine box_event ?hg (N := 5) ?hd (cs := #[.int .i64 0, .string (⟨#[]⟩ : ByteArray), .int .i64 0, .int .i64 0, .int .i64 0]) (t := 42) ?hr ?_; (case hd => rfl); (case hg => rfl); (case hr => first | (go_simp; done) | (go_simp; rfl)); intro gb205 hg w12 hbox hb; have n0_ := Aside0.mk (below_step (by repeat (first | (with_reducible first | exact HB.out | apply below_alloc | apply pw_below_drewN | apply below_drew1) | exact HB.out)) hb); have n1_ := Aside0.mk (hbox); have n2_ := Aside0.mk ((by rw [hg]; exact (below_size (by repeat (first | (with_reducible first | exact HB.out | apply below_alloc | apply pw_below_drewN | apply below_drew1) | exact HB.out))) : w.heap.size ≤ gb205)); have n3_ := Aside0.mk ((by rw [hg]; exact (below_size (by repeat (first | (with_reducible first | exact HB.out | apply below_alloc | apply pw_below_drewN | apply below_drew1) | exact HB.out))) : w.heap.size ≤ gb205)); clear HB; have HB := n0_; have BK205 := n1_; have GW205 := n2_; have GE205 := n3_; clear n0_ n1_ n2_ n3_; clear hb hbox hg; have hcz13_0 : w12.cell? ⟨gb205, 0, none⟩ = some (.int .i64 0) := (blk_cell BK205.out 0).trans rfl; have hcz13_1 : w12.cell? ⟨gb205, 1, none⟩ = some (.string (⟨#[]⟩ : ByteArray)) := (blk_cell BK205.out 1).trans rfl; have hcz13_2 : w12.cell? ⟨gb205, 2, none⟩ = some (.int .i64 0) := (blk_cell BK205.out 2).trans rfl; have hcz13_3 : w12.cell? ⟨gb205, 3, none⟩ = some (.int .i64 0) := (blk_cell BK205.out 3).trans rfl; have hcz13_4 : w12.cell? ⟨gb205, 4, none⟩ = some (.int .i64 0) := (blk_cell BK205.out 4).trans rfl; have hfz13_0 := blk_frozen BK205.out 0; have hfz13_1 := blk_frozen BK205.out 1; have hfz13_2 := blk_frozen BK205.out 2; have hfz13_3 := blk_frozen BK205.out 3; have hfz13_4 := blk_frozen BK205.out 4) | ((with_reducible refine gate_callee (f := 60) rfl ?_); refine goesL_ (some 13) rfl rfl Try.func60 (by kernel_rfl) rfl #[.int .i64 ((rd_T42 l0 a1).f0)] rfl (by (try simp only [List.map_toArray, List.map_cons, List.map_nil]); first | done | rfl | (simp only [List.length_drop, List.length_take]; rfl)) ?_; (with_reducible refine (koineref25_operands.calls ((rd_T42 l0 a1).f0) t206 _ A5.out).mono ?_); rintro e w' ⟨rfl, ⟨nd, rfl⟩⟩; refine ⟨_, rfl, ?_⟩) | (go_at_call 55; (with_reducible refine (ih k (by omega) _ _ l0 ((rd_T42 l0 a1).f3) true _ ?side1 ?side2 A10.out).mono ?_); (case side1 => exact Kd.C_below HR0.out (by repeat (first | (with_reducible first | exact HB.out | apply below_alloc | apply pw_below_drewN | apply below_drew1 | refine below_set ?_ GE205.out) | exact HB.out))); (case side2 => exact HC0.out); rintro e w14 ⟨rfl, hb⟩; have n0_ := Aside0.mk (blk_below (g := gb205) (o := .cells #[.int .i64 ((rd_T42 l0 a1).f0), .string ((rd_T42 l0 a1).f1), .int .i64 ((rd_T42 l0 a1).f2), .int .i64 ((rd_T42 l0 a1).f3), .int .i64 ((rd_T42 l0 a1).f4)] 42 (0, 0)) (by (with_reducible repeat (first | refine blk_drewN ?_ _ | refine blk_drew ?_ | refine blk_alloc ?_ _)); refine blk_put (cs := #[.int .i64 ((rd_T42 l0 a1).f0), .string ((rd_T42 l0 a1).f1), .int .i64 ((rd_T42 l0 a1).f2), .int .i64 ((rd_T42 l0 a1).f3), .int .i64 0]) ?_ 4 _ rfl; (with_reducible repeat (first | refine blk_drewN ?_ _ | refine blk_drew ?_ | refine blk_alloc ?_ _)); refine blk_put (cs := #[.int .i64 ((rd_T42 l0 a1).f0), .string ((rd_T42 l0 a1).f1), .int .i64 ((rd_T42 l0 a1).f2), .int .i64 0, .int .i64 0]) ?_ 3 _ rfl; (with_reducible repeat (first | refine blk_drewN ?_ _ | refine blk_drew ?_ | refine blk_alloc ?_ _)); refine blk_put (cs := #[.int .i64 ((rd_T42 l0 a1).f0), .string ((rd_T42 l0 a1).f1), .int .i64 0, .int .i64 0, .int .i64 0]) ?_ 2 _ rfl; (with_reducible repeat (first | refine blk_drewN ?_ _ | refine blk_drew ?_ | refine blk_alloc ?_ _)); refine blk_put (cs := #[.int .i64 ((rd_T42 l0 a1).f0), .string (⟨#[]⟩ : ByteArray), .int .i64 0, .int .i64 0, .int .i64 0]) ?_ 1 _ rfl; (with_reducible repeat (first | refine blk_drewN ?_ _ | refine blk_drew ?_ | refine blk_alloc ?_ _)); refine blk_put (cs := #[.int .i64 0, .string (⟨#[]⟩ : ByteArray), .int .i64 0, .int .i64 0, .int .i64 0]) ?_ 0 _ rfl; (with_reducible repeat (first | refine blk_drewN ?_ _ | refine blk_drew ?_ | refine blk_alloc ?_ _)); exact BK205.out) hb); have n1_ := Aside0.mk (below_step (by repeat (first | (with_reducible first | exact HB.out | apply below_alloc | apply pw_below_drewN | apply below_drew1 | refine below_set ?_ GE205.out) | exact HB.out)) hb); clear BK205; clear HB; have BK205 := n0_; have HB := n1_; clear n0_ n1_; (try clear hb); (try clear hb2); (try clear hk); (try clear hi)))
            go_ret
            exact ⟨by first | rfl | (simp [errW_none, errW_some] <;> rfl) | (simp [*, errW_none, errW_some] <;> rfl), by repeat (first | (with_reducible first | exact HB.out | apply below_alloc | apply pw_below_drewN | apply below_drew1 | refine below_set ?_ GE205.out) | exact HB.out)⟩
          · replace c11 := Bool.eq_false_iff.mpr c11
            subst c11
            have H1 : (if t206 ≥ 2 then ((koineref25_hard.f k l0 ((rd_T42 l0 a1).f4)).bind fun t208 => (some t208)) else (some false)) = some r := by rw [if_neg (show ¬ (false = true) by decide)] at H; exact H
            clear H
            have H := H1
            clear H1
            by_cases c15 : t206 ≥ 2
            · rw [if_pos c15] at H
              have c15b0 : decide (2 ≤ t206) = true := decide_eq_true c15
              clear c15
              replace H := Option.bind_eq_some_iff.mp H
              obtain ⟨t208, A160, H⟩ := H
              replace H : (some t208) = some r := H
              have A16 := Aside0.mk A160
              clear A160
              obtain rfl := Option.some.inj H
              have p204 : 0 ≤ (a1 : Int) := of_decide_eq_true (by first | (with_reducible assumption) | assumption)
              have q204 : a1 < (l0.length : Int) := of_decide_eq_true (by first | (with_reducible assumption) | assumption)
              obtain ⟨ad204, e204, hx204_0, hx204_1, hx204_2, hx204_3, hx204_4⟩ := at_T42 HR0.out a1 p204 q204
              cases e204
              replace p204 := eq_true p204
              replace q204 := eq_true q204
              go_enter Try.func55, Try.ntmps55
              go_wp2_with (first | ((with_reducible refine gate_dst (N := 5) rfl ?_); refine box_event ?hg (N := 5) ?hd (cs := #[.int .i64 0, .string (⟨#[]⟩ : ByteArray), .int .i64 0, .int .i64 0, .int .i64 0]) (t := 42) ?hr ?_; (case hd => rfl); (case hg => rfl); (case hr => first | (go_simp; done) | (go_simp; rfl)); intro gb205 hg w17 hbox hb; have n0_ := Aside0.mk (below_step (by repeat (first | (with_reducible first | exact HB.out | apply below_alloc | apply pw_below_drewN | apply below_drew1) | exact HB.out)) hb); have n1_ := Aside0.mk (hbox); have n2_ := Aside0.mk ((by rw [hg]; exact (below_size (by repeat (first | (with_reducible first | exact HB.out | apply below_alloc | apply pw_below_drewN | apply below_drew1) | exact HB.out))) : w.heap.size ≤ gb205)); have n3_ := Aside0.mk ((by rw [hg]; exact (below_size (by repeat (first | (with_reducible first | exact HB.out | apply below_alloc | apply pw_below_drewN | apply below_drew1) | exact HB.out))) : w.heap.size ≤ gb205)); clear HB; have HB := n0_; have BK205 := n1_; have GW205 := n2_; have GE205 := n3_; clear n0_ n1_ n2_ n3_; clear hb hbox hg; have hcz18_0 : w17.cell? ⟨gb205, 0, none⟩ = some (.int .i64 0) := (blk_cell BK205.out 0).trans rfl; have hcz18_1 : w17.cell? ⟨gb205, 1, none⟩ = some (.string (⟨#[]⟩ : ByteArray)) := (blk_cell BK205.out 1).trans rfl; have hcz18_2 : w17.cell? ⟨gb205, 2, none⟩ = some (.int .i64 0) := (blk_cell BK205.out 2).trans rfl; have hcz18_3 : w17.cell? ⟨gb205, 3, none⟩ = some (.int .i64 0) := (blk_cell BK205.out 3).trans rfl; have hcz18_4 : w17.cell? ⟨gb205, 4, none⟩ = some (.int .i64 0) := (blk_cell BK205.out 4).trans rfl; have hfz18_0 := blk_frozen BK205.out 0; have hfz18_1 := blk_frozen BK205.out 1; have hfz18_2 := blk_frozen BK205.out 2; have hfz18_3 := blk_frozen BK205.out 3; have hfz18_4 := blk_frozen BK205.out 4) | ((with_reducible refine gate_callee (f := 60) rfl ?_); refine goesL_ (some 13) rfl rfl Try.func60 (by kernel_rfl) rfl #[.int .i64 ((rd_T42 l0 a1).f0)] rfl (by (try simp only [List.map_toArray, List.map_cons, List.map_nil]); first | done | rfl | (simp only [List.length_drop, List.length_take]; rfl)) ?_; (with_reducible refine (koineref25_operands.calls ((rd_T42 l0 a1).f0) t206 _ A5.out).mono ?_); rintro e w' ⟨rfl, ⟨nd, rfl⟩⟩; refine ⟨_, rfl, ?_⟩) | (go_at_call 55; (with_reducible refine (ih k (by omega) _ _ l0 ((rd_T42 l0 a1).f3) false _ ?side1 ?side2 A10.out).mono ?_); (case side1 => exact Kd.C_below HR0.out (by repeat (first | (with_reducible first | exact HB.out | apply below_alloc | apply pw_below_drewN | apply below_drew1 | refine below_set ?_ GE205.out) | exact HB.out))); (case side2 => exact HC0.out); rintro e w19 ⟨rfl, hb⟩; have n0_ := Aside0.mk (blk_below (g := gb205) (o := .cells #[.int .i64 ((rd_T42 l0 a1).f0), .string ((rd_T42 l0 a1).f1), .int .i64 ((rd_T42 l0 a1).f2), .int .i64 ((rd_T42 l0 a1).f3), .int .i64 ((rd_T42 l0 a1).f4)] 42 (0, 0)) (by (with_reducible repeat (first | refine blk_drewN ?_ _ | refine blk_drew ?_ | refine blk_alloc ?_ _)); refine blk_put (cs := #[.int .i64 ((rd_T42 l0 a1).f0), .string ((rd_T42 l0 a1).f1), .int .i64 ((rd_T42 l0 a1).f2), .int .i64 ((rd_T42 l0 a1).f3), .int .i64 0]) ?_ 4 _ rfl; (with_reducible repeat (first | refine blk_drewN ?_ _ | refine blk_drew ?_ | refine blk_alloc ?_ _)); refine blk_put (cs := #[.int .i64 ((rd_T42 l0 a1).f0), .string ((rd_T42 l0 a1).f1), .int .i64 ((rd_T42 l0 a1).f2), .int .i64 0, .int .i64 0]) ?_ 3 _ rfl; (with_reducible repeat (first | refine blk_drewN ?_ _ | refine blk_drew ?_ | refine blk_alloc ?_ _)); refine blk_put (cs := #[.int .i64 ((rd_T42 l0 a1).f0), .string ((rd_T42 l0 a1).f1), .int .i64 0, .int .i64 0, .int .i64 0]) ?_ 2 _ rfl; (with_reducible repeat (first | refine blk_drewN ?_ _ | refine blk_drew ?_ | refine blk_alloc ?_ _)); refine blk_put (cs := #[.int .i64 ((rd_T42 l0 a1).f0), .string (⟨#[]⟩ : ByteArray), .int .i64 0, .int .i64 0, .int .i64 0]) ?_ 1 _ rfl; (with_reducible repeat (first | refine blk_drewN ?_ _ | refine blk_drew ?_ | refine blk_alloc ?_ _)); refine blk_put (cs := #[.int .i64 0, .string (⟨#[]⟩ : ByteArray), .int .i64 0, .int .i64 0, .int .i64 0]) ?_ 0 _ rfl; (with_reducible repeat (first | refine blk_drewN ?_ _ | refine blk_drew ?_ | refine blk_alloc ?_ _)); exact BK205.out) hb); have n1_ := Aside0.mk (below_step (by repeat (first | (with_reducible first | exact HB.out | apply below_alloc | apply pw_below_drewN | apply below_drew1 | refine below_set ?_ GE205.out) | exact HB.out)) hb); clear BK205; clear HB; have BK205 := n0_; have HB := n1_; clear n0_ n1_; (try clear hb); (try clear hb2); (try clear hk); (try clear hi); have hcz20_0 : w19.cell? ⟨gb205, 0, none⟩ = some (.int .i64 ((rd_T42 l0 a1).f0)) := (blk_cell BK205.out 0).trans rfl; have hcz20_1 : w19.cell? ⟨gb205, 1, none⟩ = some (.string ((rd_T42 l0 a1).f1)) := (blk_cell BK205.out 1).trans rfl; have hcz20_2 : w19.cell? ⟨gb205, 2, none⟩ = some (.int .i64 ((rd_T42 l0 a1).f2)) := (blk_cell BK205.out 2).trans rfl; have hcz20_3 : w19.cell? ⟨gb205, 3, none⟩ = some (.int .i64 ((rd_T42 l0 a1).f3)) := (blk_cell BK205.out 3).trans rfl; have hcz20_4 : w19.cell? ⟨gb205, 4, none⟩ = some (.int .i64 ((rd_T42 l0 a1).f4)) := (blk_cell BK205.out 4).trans rfl; have hfz20_0 := blk_frozen BK205.out 0; have hfz20_1 := blk_frozen BK205.out 1; have hfz20_2 := blk_frozen BK205.out 2; have hfz20_3 := blk_frozen BK205.out 3; have hfz20_4 := blk_frozen BK205.out 4) | (go_at_call 55; (with_reducible refine (ih k (by omega) _ _ l0 ((rd_T42 l0 a1).f4) t208 _ ?side1 ?side2 A16.out).mono ?_); (case side1 => repeat (first | exact (Kd.C_below HR0.out HB.out) | (with_reducible refine Kd.C_alloc ?_ _) | (with_reducible refine Kd.C_drewN ?_ _) | (with_reducible refine Kd.C_drew ?_))); (case side2 => exact HC0.out); rintro e w21 ⟨rfl, hb⟩; have n0_ := Aside0.mk (blk_below (g := gb205) (o := .cells #[.int .i64 ((rd_T42 l0 a1).f0), .string ((rd_T42 l0 a1).f1), .int .i64 ((rd_T42 l0 a1).f2), .int .i64 ((rd_T42 l0 a1).f3), .int .i64 ((rd_T42 l0 a1).f4)] 42 (0, 0)) (by (with_reducible repeat (first | refine blk_drewN ?_ _ | refine blk_drew ?_ | refine blk_alloc ?_ _)); exact BK205.out) hb); have n1_ := Aside0.mk (below_step (by repeat (first | (with_reducible first | exact HB.out | apply below_alloc | apply pw_below_drewN | apply below_drew1 | refine below_set ?_ GE205.out) | exact HB.out)) hb); clear BK205; clear HB; have BK205 := n0_; have HB := n1_; clear n0_ n1_; (try clear hb); (try clear hb2); (try clear hk); (try clear hi)))
              go_ret
              exact ⟨by first | rfl | (simp [errW_none, errW_some] <;> rfl) | (simp [*, errW_none, errW_some] <;> rfl), by repeat (first | (with_reducible first | exact HB.out | apply below_alloc | apply pw_below_drewN | apply below_drew1 | refine below_set ?_ GE205.out) | exact HB.out)⟩
            · rw [if_neg c15] at H
              have c15b0 : decide (2 ≤ t206) = false := decide_eq_false c15
              clear c15
              obtain rfl := Option.some.inj H
              have p204 : 0 ≤ (a1 : Int) := of_decide_eq_true (by first | (with_reducible assumption) | assumption)
              have q204 : a1 < (l0.length : Int) := of_decide_eq_true (by first | (with_reducible assumption) | assumption)
              obtain ⟨ad204, e204, hx204_0, hx204_1, hx204_2, hx204_3, hx204_4⟩ := at_T42 HR0.out a1 p204 q204
              cases e204
              replace p204 := eq_true p204
              replace q204 := eq_true q204
              go_enter Try.func55, Try.ntmps55
              go_wp2_with (first | ((with_reducible refine gate_dst (N := 5) rfl ?_); refine box_event ?hg (N := 5) ?hd (cs := #[.int .i64 0, .string (⟨#[]⟩ : ByteArray), .int .i64 0, .int .i64 0, .int .i64 0]) (t := 42) ?hr ?_; (case hd => rfl); (case hg => rfl); (case hr => first | (go_simp; done) | (go_simp; rfl)); intro gb205 hg w22 hbox hb; have n0_ := Aside0.mk (below_step (by repeat (first | (with_reducible first | exact HB.out | apply below_alloc | apply pw_below_drewN | apply below_drew1) | exact HB.out)) hb); have n1_ := Aside0.mk (hbox); have n2_ := Aside0.mk ((by rw [hg]; exact (below_size (by repeat (first | (with_reducible first | exact HB.out | apply below_alloc | apply pw_below_drewN | apply below_drew1) | exact HB.out))) : w.heap.size ≤ gb205)); have n3_ := Aside0.mk ((by rw [hg]; exact (below_size (by repeat (first | (with_reducible first | exact HB.out | apply below_alloc | apply pw_below_drewN | apply below_drew1) | exact HB.out))) : w.heap.size ≤ gb205)); clear HB; have HB := n0_; have BK205 := n1_; have GW205 := n2_; have GE205 := n3_; clear n0_ n1_ n2_ n3_; clear hb hbox hg; have hcz23_0 : w22.cell? ⟨gb205, 0, none⟩ = some (.int .i64 0) := (blk_cell BK205.out 0).trans rfl; have hcz23_1 : w22.cell? ⟨gb205, 1, none⟩ = some (.string (⟨#[]⟩ : ByteArray)) := (blk_cell BK205.out 1).trans rfl; have hcz23_2 : w22.cell? ⟨gb205, 2, none⟩ = some (.int .i64 0) := (blk_cell BK205.out 2).trans rfl; have hcz23_3 : w22.cell? ⟨gb205, 3, none⟩ = some (.int .i64 0) := (blk_cell BK205.out 3).trans rfl; have hcz23_4 : w22.cell? ⟨gb205, 4, none⟩ = some (.int .i64 0) := (blk_cell BK205.out 4).trans rfl; have hfz23_0 := blk_frozen BK205.out 0; have hfz23_1 := blk_frozen BK205.out 1; have hfz23_2 := blk_frozen BK205.out 2; have hfz23_3 := blk_frozen BK205.out 3; have hfz23_4 := blk_frozen BK205.out 4) | ((with_reducible refine gate_callee (f := 60) rfl ?_); refine goesL_ (some 13) rfl rfl Try.func60 (by kernel_rfl) rfl #[.int .i64 ((rd_T42 l0 a1).f0)] rfl (by (try simp only [List.map_toArray, List.map_cons, List.map_nil]); first | done | rfl | (simp only [List.length_drop, List.length_take]; rfl)) ?_; (with_reducible refine (koineref25_operands.calls ((rd_T42 l0 a1).f0) t206 _ A5.out).mono ?_); rintro e w' ⟨rfl, ⟨nd, rfl⟩⟩; refine ⟨_, rfl, ?_⟩) | (go_at_call 55; (with_reducible refine (ih k (by omega) _ _ l0 ((rd_T42 l0 a1).f3) false _ ?side1 ?side2 A10.out).mono ?_); (case side1 => exact Kd.C_below HR0.out (by repeat (first | (with_reducible first | exact HB.out | apply below_alloc | apply pw_below_drewN | apply below_drew1 | refine below_set ?_ GE205.out) | exact HB.out))); (case side2 => exact HC0.out); rintro e w24 ⟨rfl, hb⟩; have n0_ := Aside0.mk (blk_below (g := gb205) (o := .cells #[.int .i64 ((rd_T42 l0 a1).f0), .string ((rd_T42 l0 a1).f1), .int .i64 ((rd_T42 l0 a1).f2), .int .i64 ((rd_T42 l0 a1).f3), .int .i64 ((rd_T42 l0 a1).f4)] 42 (0, 0)) (by (with_reducible repeat (first | refine blk_drewN ?_ _ | refine blk_drew ?_ | refine blk_alloc ?_ _)); refine blk_put (cs := #[.int .i64 ((rd_T42 l0 a1).f0), .string ((rd_T42 l0 a1).f1), .int .i64 ((rd_T42 l0 a1).f2), .int .i64 ((rd_T42 l0 a1).f3), .int .i64 0]) ?_ 4 _ rfl; (with_reducible repeat (first | refine blk_drewN ?_ _ | refine blk_drew ?_ | refine blk_alloc ?_ _)); refine blk_put (cs := #[.int .i64 ((rd_T42 l0 a1).f0), .string ((rd_T42 l0 a1).f1), .int .i64 ((rd_T42 l0 a1).f2), .int .i64 0, .int .i64 0]) ?_ 3 _ rfl; (with_reducible repeat (first | refine blk_drewN ?_ _ | refine blk_drew ?_ | refine blk_alloc ?_ _)); refine blk_put (cs := #[.int .i64 ((rd_T42 l0 a1).f0), .string ((rd_T42 l0 a1).f1), .int .i64 0, .int .i64 0, .int .i64 0]) ?_ 2 _ rfl; (with_reducible repeat (first | refine blk_drewN ?_ _ | refine blk_drew ?_ | refine blk_alloc ?_ _)); refine blk_put (cs := #[.int .i64 ((rd_T42 l0 a1).f0), .string (⟨#[]⟩ : ByteArray), .int .i64 0, .int .i64 0, .int .i64 0]) ?_ 1 _ rfl; (with_reducible repeat (first | refine blk_drewN ?_ _ | refine blk_drew ?_ | refine blk_alloc ?_ _)); refine blk_put (cs := #[.int .i64 0, .string (⟨#[]⟩ : ByteArray), .int .i64 0, .int .i64 0, .int .i64 0]) ?_ 0 _ rfl; (with_reducible repeat (first | refine blk_drewN ?_ _ | refine blk_drew ?_ | refine blk_alloc ?_ _)); exact BK205.out) hb); have n1_ := Aside0.mk (below_step (by repeat (first | (with_reducible first | exact HB.out | apply below_alloc | apply pw_below_drewN | apply below_drew1 | refine below_set ?_ GE205.out) | exact HB.out)) hb); clear BK205; clear HB; have BK205 := n0_; have HB := n1_; clear n0_ n1_; (try clear hb); (try clear hb2); (try clear hk); (try clear hi)))
              go_ret
              exact ⟨by first | rfl | (simp [errW_none, errW_some] <;> rfl) | (simp [*, errW_none, errW_some] <;> rfl), by repeat (first | (with_reducible first | exact HB.out | apply below_alloc | apply pw_below_drewN | apply below_drew1 | refine below_set ?_ GE205.out) | exact HB.out)⟩
        · rw [if_neg c9] at H
          have c9b0 : decide (1 ≤ t206) = false := decide_eq_false c9
          clear c9
          by_cases c25 : t206 ≥ 2
          · rw [if_pos c25] at H
            have c25b0 : decide (2 ≤ t206) = true := decide_eq_true c25
            clear c25
            replace H := Option.bind_eq_some_iff.mp H
            obtain ⟨t209, A260, H⟩ := H
            replace H : (some t209) = some r := H
            have A26 := Aside0.mk A260
            clear A260
            obtain rfl := Option.some.inj H
            have p204 : 0 ≤ (a1 : Int) := of_decide_eq_true (by first | (with_reducible assumption) | assumption)
            have q204 : a1 < (l0.length : Int) := of_decide_eq_true (by first | (with_reducible assumption) | assumption)
            obtain ⟨ad204, e204, hx204_0, hx204_1, hx204_2, hx204_3, hx204_4⟩ := at_T42 HR0.out a1 p204 q204
            cases e204
            replace p204 := eq_true p204
            replace q204 := eq_true q204
            go_enter Try.func55, Try.ntmps55
            go_wp2_with (first | ((with_reducible refine gate_dst (N := 5) rfl ?_); refine box_event ?hg (N := 5) ?hd (cs := #[.int .i64 0, .string (⟨#[]⟩ : ByteArray), .int .i64 0, .int .i64 0, .int .i64 0]) (t := 42) ?hr ?_; (case hd => rfl); (case hg => rfl); (case hr => first | (go_simp; done) | (go_simp; rfl)); intro gb205 hg w27 hbox hb; have n0_ := Aside0.mk (below_step (by repeat (first | (with_reducible first | exact HB.out | apply below_alloc | apply pw_below_drewN | apply below_drew1) | exact HB.out)) hb); have n1_ := Aside0.mk (hbox); have n2_ := Aside0.mk ((by rw [hg]; exact (below_size (by repeat (first | (with_reducible first | exact HB.out | apply below_alloc | apply pw_below_drewN | apply below_drew1) | exact HB.out))) : w.heap.size ≤ gb205)); have n3_ := Aside0.mk ((by rw [hg]; exact (below_size (by repeat (first | (with_reducible first | exact HB.out | apply below_alloc | apply pw_below_drewN | apply below_drew1) | exact HB.out))) : w.heap.size ≤ gb205)); clear HB; have HB := n0_; have BK205 := n1_; have GW205 := n2_; have GE205 := n3_; clear n0_ n1_ n2_ n3_; clear hb hbox hg; have hcz28_0 : w27.cell? ⟨gb205, 0, none⟩ = some (.int .i64 0) := (blk_cell BK205.out 0).trans rfl; have hcz28_1 : w27.cell? ⟨gb205, 1, none⟩ = some (.string (⟨#[]⟩ : ByteArray)) := (blk_cell BK205.out 1).trans rfl; have hcz28_2 : w27.cell? ⟨gb205, 2, none⟩ = some (.int .i64 0) := (blk_cell BK205.out 2).trans rfl; have hcz28_3 : w27.cell? ⟨gb205, 3, none⟩ = some (.int .i64 0) := (blk_cell BK205.out 3).trans rfl; have hcz28_4 : w27.cell? ⟨gb205, 4, none⟩ = some (.int .i64 0) := (blk_cell BK205.out 4).trans rfl; have hfz28_0 := blk_frozen BK205.out 0; have hfz28_1 := blk_frozen BK205.out 1; have hfz28_2 := blk_frozen BK205.out 2; have hfz28_3 := blk_frozen BK205.out 3; have hfz28_4 := blk_frozen BK205.out 4) | ((with_reducible refine gate_callee (f := 60) rfl ?_); refine goesL_ (some 13) rfl rfl Try.func60 (by kernel_rfl) rfl #[.int .i64 ((rd_T42 l0 a1).f0)] rfl (by (try simp only [List.map_toArray, List.map_cons, List.map_nil]); first | done | rfl | (simp only [List.length_drop, List.length_take]; rfl)) ?_; (with_reducible refine (koineref25_operands.calls ((rd_T42 l0 a1).f0) t206 _ A5.out).mono ?_); rintro e w' ⟨rfl, ⟨nd, rfl⟩⟩; refine ⟨_, rfl, ?_⟩) | (go_at_call 55; (with_reducible refine (ih k (by omega) _ _ l0 ((rd_T42 l0 a1).f4) t209 _ ?side1 ?side2 A26.out).mono ?_); (case side1 => exact Kd.C_below HR0.out (by repeat (first | (with_reducible first | exact HB.out | apply below_alloc | apply pw_below_drewN | apply below_drew1 | refine below_set ?_ GE205.out) | exact HB.out))); (case side2 => exact HC0.out); rintro e w29 ⟨rfl, hb⟩; have n0_ := Aside0.mk (blk_below (g := gb205) (o := .cells #[.int .i64 ((rd_T42 l0 a1).f0), .string ((rd_T42 l0 a1).f1), .int .i64 ((rd_T42 l0 a1).f2), .int .i64 ((rd_T42 l0 a1).f3), .int .i64 ((rd_T42 l0 a1).f4)] 42 (0, 0)) (by (with_reducible repeat (first | refine blk_drewN ?_ _ | refine blk_drew ?_ | refine blk_alloc ?_ _)); refine blk_put (cs := #[.int .i64 ((rd_T42 l0 a1).f0), .string ((rd_T42 l0 a1).f1), .int .i64 ((rd_T42 l0 a1).f2), .int .i64 ((rd_T42 l0 a1).f3), .int .i64 0]) ?_ 4 _ rfl; (with_reducible repeat (first | refine blk_drewN ?_ _ | refine blk_drew ?_ | refine blk_alloc ?_ _)); refine blk_put (cs := #[.int .i64 ((rd_T42 l0 a1).f0), .string ((rd_T42 l0 a1).f1), .int .i64 ((rd_T42 l0 a1).f2), .int .i64 0, .int .i64 0]) ?_ 3 _ rfl; (with_reducible repeat (first | refine blk_drewN ?_ _ | refine blk_drew ?_ | refine blk_alloc ?_ _)); refine blk_put (cs := #[.int .i64 ((rd_T42 l0 a1).f0), .string ((rd_T42 l0 a1).f1), .int .i64 0, .int .i64 0, .int .i64 0]) ?_ 2 _ rfl; (with_reducible repeat (first | refine blk_drewN ?_ _ | refine blk_drew ?_ | refine blk_alloc ?_ _)); refine blk_put (cs := #[.int .i64 ((rd_T42 l0 a1).f0), .string (⟨#[]⟩ : ByteArray), .int .i64 0, .int .i64 0, .int .i64 0]) ?_ 1 _ rfl; (with_reducible repeat (first | refine blk_drewN ?_ _ | refine blk_drew ?_ | refine blk_alloc ?_ _)); refine blk_put (cs := #[.int .i64 0, .string (⟨#[]⟩ : ByteArray), .int .i64 0, .int .i64 0, .int .i64 0]) ?_ 0 _ rfl; (with_reducible repeat (first | refine blk_drewN ?_ _ | refine blk_drew ?_ | refine blk_alloc ?_ _)); exact BK205.out) hb); have n1_ := Aside0.mk (below_step (by repeat (first | (with_reducible first | exact HB.out | apply below_alloc | apply pw_below_drewN | apply below_drew1 | refine below_set ?_ GE205.out) | exact HB.out)) hb); clear BK205; clear HB; have BK205 := n0_; have HB := n1_; clear n0_ n1_; (try clear hb); (try clear hb2); (try clear hk); (try clear hi)))
            go_ret
            exact ⟨by first | rfl | (simp [errW_none, errW_some] <;> rfl) | (simp [*, errW_none, errW_some] <;> rfl), by repeat (first | (with_reducible first | exact HB.out | apply below_alloc | apply pw_below_drewN | apply below_drew1 | refine below_set ?_ GE205.out) | exact HB.out)⟩
          · rw [if_neg c25] at H
            have c25b0 : decide (2 ≤ t206) = false := decide_eq_false c25
            clear c25
            obtain rfl := Option.some.inj H
            have p204 : 0 ≤ (a1 : Int) := of_decide_eq_true (by first | (with_reducible assumption) | assumption)
            have q204 : a1 < (l0.length : Int) := of_decide_eq_true (by first | (with_reducible assumption) | assumption)
            obtain ⟨ad204, e204, hx204_0, hx204_1, hx204_2, hx204_3, hx204_4⟩ := at_T42 HR0.out a1 p204 q204
            cases e204
            replace p204 := eq_true p204
            replace q204 := eq_true q204
            go_enter Try.func55, Try.ntmps55
            go_wp2_with (first | ((with_reducible refine gate_dst (N := 5) rfl ?_); refine box_event ?hg (N := 5) ?hd (cs := #[.int .i64 0, .string (⟨#[]⟩ : ByteArray), .int .i64 0, .int .i64 0, .int .i64 0]) (t := 42) ?hr ?_; (case hd => rfl); (case hg => rfl); (case hr => first | (go_simp; done) | (go_simp; rfl)); intro gb205 hg w30 hbox hb; have n0_ := Aside0.mk (below_step (by repeat (first | (with_reducible first | exact HB.out | apply below_alloc | apply pw_below_drewN | apply below_drew1) | exact HB.out)) hb); have n1_ := Aside0.mk (hbox); have n2_ := Aside0.mk ((by rw [hg]; exact (below_size (by repeat (first | (with_reducible first | exact HB.out | apply below_alloc | apply pw_below_drewN | apply below_drew1) | exact HB.out))) : w.heap.size ≤ gb205)); have n3_ := Aside0.mk ((by rw [hg]; exact (below_size (by repeat (first | (with_reducible first | exact HB.out | apply below_alloc | apply pw_below_drewN | apply below_drew1) | exact HB.out))) : w.heap.size ≤ gb205)); clear HB; have HB := n0_; have BK205 := n1_; have GW205 := n2_; have GE205 := n3_; clear n0_ n1_ n2_ n3_; clear hb hbox hg; have hcz31_0 : w30.cell? ⟨gb205, 0, none⟩ = some (.int .i64 0) := (blk_cell BK205.out 0).trans rfl; have hcz31_1 : w30.cell? ⟨gb205, 1, none⟩ = some (.string (⟨#[]⟩ : ByteArray)) := (blk_cell BK205.out 1).trans rfl; have hcz31_2 : w30.cell? ⟨gb205, 2, none⟩ = some (.int .i64 0) := (blk_cell BK205.out 2).trans rfl; have hcz31_3 : w30.cell? ⟨gb205, 3, none⟩ = some (.int .i64 0) := (blk_cell BK205.out 3).trans rfl; have hcz31_4 : w30.cell? ⟨gb205, 4, none⟩ = some (.int .i64 0) := (blk_cell BK205.out 4).trans rfl; have hfz31_0 := blk_frozen BK205.out 0; have hfz31_1 := blk_frozen BK205.out 1; have hfz31_2 := blk_frozen BK205.out 2; have hfz31_3 := blk_frozen BK205.out 3; have hfz31_4 := blk_frozen BK205.out 4) | ((with_reducible refine gate_callee (f := 60) rfl ?_); refine goesL_ (some 13) rfl rfl Try.func60 (by kernel_rfl) rfl #[.int .i64 ((rd_T42 l0 a1).f0)] rfl (by (try simp only [List.map_toArray, List.map_cons, List.map_nil]); first | done | rfl | (simp only [List.length_drop, List.length_take]; rfl)) ?_; (with_reducible refine (koineref25_operands.calls ((rd_T42 l0 a1).f0) t206 _ A5.out).mono ?_); rintro e w' ⟨rfl, ⟨nd, rfl⟩⟩; refine ⟨_, rfl, ?_⟩))
            go_ret
            exact ⟨by first | rfl | (simp [errW_none, errW_some] <;> rfl) | (simp [*, errW_none, errW_some] <;> rfl), by repeat (first | (with_reducible first | exact HB.out | apply below_alloc | apply pw_below_drewN | apply below_drew1 | refine below_set ?_ GE205.out) | exact HB.out)⟩
    · rw [if_neg c4] at H
      exact absurd H (by simp)
  · rw [if_neg c3] at H
    exact absurd H (by simp)
end Go.Proofs.Ythmmdmnbcecooaa.A
end

section
namespace Go.Proofs.Ythmmdmnbcecooaa.A
open Go.RowKit Go.Proofs.YthmmdmnbcecooaaW.PrintWords Go.Proofs.YthmmdmnbcecooaaW.PrintLast Go.Proofs.YthmmdmnbcecooaaW.PrintMore
set_option linter.unusedVariables false
set_option linter.unusedSimpArgs false
theorem wrap64_small {x : Int} (h0 : -9223372036854775808 ≤ x) (h1 : x ≤ 9223372036854775807) : wrap64 x = x := by
  unfold wrap64
  omega
/-- A node of the second document behind n nodes of the first. -/
def shiftN (n : Int) (x : S42) : S42 :=
  if 1 ≤ arityI x.f0 then (if 2 ≤ arityI x.f0 then ⟨x.f0, x.f1, x.f2, wrap64 (x.f3 + n), wrap64 (x.f4 + n)⟩ else ⟨x.f0, x.f1, x.f2, wrap64 (x.f3 + n), x.f4⟩) else x
def joinD (a b : List S42) : List S42 := a ++ b.map (shiftN a.length)
theorem R42_empty (w : World) : Kd.R k42 42 (w.alloc (.cells #[] 42)) w.heap.size (fun _ => True) (.slice (some ⟨w.heap.size, 0, none⟩) 0 0) [] := by
  refine ⟨fun _ _ => trivial, [], ?_, Reps.none _ _⟩
  exact World.ownsRow_lit (base := w.heap.size) (e := 42) (size := 5) w #[] 0 (Nat.le_refl _) (by simp) (by simp)
theorem shiftN0 {n : Int} {k : Int} {s : ByteArray} {n' a b : Int} (h : arityI k < 1) : shiftN n ⟨k, s, n', a, b⟩ = ⟨k, s, n', a, b⟩ := by unfold shiftN; simp only; rw [if_neg (by omega)]
theorem shiftN1 {n : Int} {k : Int} {s : ByteArray} {n' a b : Int} (h : 1 ≤ arityI k) (h2 : arityI k < 2) : shiftN n ⟨k, s, n', a, b⟩ = ⟨k, s, n', wrap64 (a + n), b⟩ := by unfold shiftN; simp only; rw [if_pos h, if_neg (by omega)]
theorem shiftN2 {n : Int} {k : Int} {s : ByteArray} {n' a b : Int} (h2 : 2 ≤ arityI k) : shiftN n ⟨k, s, n', a, b⟩ = ⟨k, s, n', wrap64 (a + n), wrap64 (b + n)⟩ := by unfold shiftN; simp only; rw [if_pos (by omega), if_pos h2]
theorem joined_next {l0 l1 : List S42} {i : Nat} {x : S42} (h : i < l1.length) (hx : l1.getD i z42 = x) : l0 ++ (l1.take (i + 1)).map (shiftN l0.length) = (l0 ++ (l1.take i).map (shiftN l0.length)) ++ [shiftN l0.length x] := by
  subst hx
  rw [List.take_succ_eq_append_getElem h, List.map_append, List.append_assoc]
  simp [List.getD, h]
set_option maxHeartbeats 1000000 in
set_option maxRecDepth 100000 in
theorem joined_calls (A0 : Option Addr) (c0 : Nat) (l0 : List S42) (A1 : Option Addr) (c1 : Nat) (l1 : List S42) (w : World) (hr0 : Kd.C k42 w A0 l0.length l0) (hc0 : l0.length ≤ c0) (hr1 : Kd.C k42 w A1 l1.length l1) (hc1 : l1.length ≤ c1) (hl : l0.length + l1.length ≤ 1000000) :
    Calls Try.prog 64 #[.slice A0 l0.length c0, .slice A1 l1.length c1] w fun e w' => ∃ v0_ : Value, e = .returned (v0_) ∧ Kd.R k42 42 w' w.heap.size (fun _ => True) v0_ (joinD l0 l1) ∧ Below w.heap.size w w' := by
  have hu42 := Try.underlying42
  have HR0 := Aside0.mk hr0
  have HR1 := Aside0.mk hr1
  have HB0 := Aside0.mk (Below.refl w.heap.size w)
  clear hr0 hr1
  go_enter Try.func64, Try.ntmps64
  go_wp2_with (at_builtin; refine Kd.R_append_rows k42 (w0 := w) w.heap.size rfl (.tmp 8) (.tmp 9) 26 42 (.agg #[(.int .i64 0), (.string ⟨#[]⟩), (.int .i64 0), (.int .i64 0), (.int .i64 0)]) 48 rfl Try.underlying26 info42 rfl (by decide) (by omega) (.slice (some ⟨w.heap.size, 0, none⟩) 0 0) [] l0 _ _ _ (fun _ => True) (fun _ => False) rfl rfl ?aO ?aR (fun _ _ h => h) (fun _ h => h.elim) ?aF ?aB ?aS ?aL ?_; (case aR => exact Kd.C_below HR0.out ((Below.refl _ _).alloc (Nat.le_refl _) _)); (case aO => exact R42_empty w); (case aF => exact (fun _ _ => trivial)); (case aB => exact (Below.refl _ _).alloc (Nat.le_refl _) _); (case aS => simp); (case aL => simp; omega); intro v1 w1 ho hb hg hat; obtain ⟨Av, cv, hv1⟩ := Kd.R_slice ho; have HO := Aside0.mk ho; have HB := Aside0.mk hb; clear ho hb hg hat hv1)
  go_loopg [5, 6] l1.length (fun d v5 v6 W => ∃ (i : Nat) (v : Value), v6 = .int .i64 i ∧ v = v5 ∧ Aside0 (i + d = l1.length) ∧ Aside0 (Kd.R k42 42 W w.heap.size (fun _ => True) v (l0 ++ (l1.take i).map (shiftN l0.length))) ∧ Aside0 (Below w.heap.size w W))
  case atStart => exact ⟨0, _, rfl, rfl, ⟨by simp⟩, ⟨by simpa using HO.out⟩, HB⟩
  case round =>
    clear HO HB
    obtain ⟨i, v, rfl, rfl, HI, HR, HB⟩ := hrel
    by_cases hlt : i < l1.length
    · obtain ⟨k, s, n, a, b, hx⟩ : ∃ k s n a b, l1.getD i z42 = ⟨k, s, n, a, b⟩ := ⟨_, _, _, _, _, rfl⟩
      obtain ⟨ad, rfl, _⟩ := at_T42 HR1.out i (by omega) (by omega)
      obtain ⟨k0, k1, k2, k3, k4⟩ := cells42 HR1.out hlt hx HB.out
      have HX := Aside0.mk hx
      have HG := Aside0.mk HB.out.size
      have hlt' := hlt
      clear hx
      obtain ⟨d', rfl⟩ : ∃ d', gk = d' + 1 := ⟨gk - 1, by have := HI.out; omega⟩
      by_cases h1 : 1 ≤ arityI k
      · by_cases h2 : 2 ≤ arityI k
        · go_wp2_with (first | (go_at_call 60; refine (operands_calls k _).mono ?_; rintro e w' ⟨rfl, rfl⟩) | (at_builtin; refine Kd.R_append k42 (w0 := w) w.heap.size rfl (.tmp 41) (.tmp 43) 26 42 (.agg #[(.int .i64 0), (.string ⟨#[]⟩), (.int .i64 0), (.int .i64 0), (.int .i64 0)]) 48 rfl Try.underlying26 info42 rfl (by decide) (by omega) v (l0 ++ (l1.take i).map (shiftN l0.length)) ⟨k, s, n, wrap64 (a + l0.length), wrap64 (b + l0.length)⟩ _ (fun _ => True) (fun _ => False) rfl ?aX ?aP (fun _ hk => hk.elim) ?aF ?aO ?aB ?aS ?aL ?_; (case aX => first | (simp [Act.eval]; done) | (go_simp; done) | (go_simp; rfl)); (case aP => exact k42_mkM _ _ _ ⟨k, s, n, wrap64 (a + l0.length), wrap64 (b + l0.length)⟩); (case aF => exact (fun _ _ => trivial)); (case aO => exact Kd.R_below HR.out (by repeat (first | (with_reducible first | exact Below.refl _ _ | exact HB.out | apply below_alloc | refine below_set ?_ (Nat.le_refl _) | refine below_set ?_ HG.out) | exact Below.refl _ _ | exact HB.out))); (case aB => exact (by repeat (first | (with_reducible first | exact Below.refl _ _ | exact HB.out | apply below_alloc | refine below_set ?_ (Nat.le_refl _) | refine below_set ?_ HG.out) | exact Below.refl _ _ | exact HB.out))); (case aS => exact Below.size (by repeat (first | (with_reducible first | exact Below.refl _ _ | exact HB.out | apply below_alloc | refine below_set ?_ (Nat.le_refl _) | refine below_set ?_ HG.out) | exact Below.refl _ _ | exact HB.out))); (case aL => simp only [List.length_append, List.length_map, List.length_take]; omega); intro v1 w1 hR1 hB1 hg1 hat1; obtain ⟨A1, c1, rfl⟩ := R_slice1 hR1; have HR' := Aside0.mk hR1; have HB' := Aside0.mk hB1; clear hR1 hB1 hg1 hat1))
          go_roundg d'
          case measure => omega
          case rel => exact ⟨i + 1, _, by go_num, rfl, ⟨by have := HI.out; omega⟩, ⟨by rw [joined_next hlt' HX.out, shiftN2 h2]; have hR9 := HR'.out; simp only [List.length_append, List.length_map, List.length_take] at hR9; exact hR9⟩, HB'⟩ -- using HR'.out⟩, HB'⟩
        · go_wp2_with (first | (go_at_call 60; refine (operands_calls k _).mono ?_; rintro e w' ⟨rfl, rfl⟩) | (at_builtin; refine Kd.R_append k42 (w0 := w) w.heap.size rfl (.tmp 41) (.tmp 43) 26 42 (.agg #[(.int .i64 0), (.string ⟨#[]⟩), (.int .i64 0), (.int .i64 0), (.int .i64 0)]) 48 rfl Try.underlying26 info42 rfl (by decide) (by omega) v (l0 ++ (l1.take i).map (shiftN l0.length)) ⟨k, s, n, wrap64 (a + l0.length), b⟩ _ (fun _ => True) (fun _ => False) rfl ?aX ?aP (fun _ hk => hk.elim) ?aF ?aO ?aB ?aS ?aL ?_; (case aX => first | (simp [Act.eval]; done) | (go_simp; done) | (go_simp; rfl)); (case aP => exact k42_mkM _ _ _ ⟨k, s, n, wrap64 (a + l0.length), b⟩); (case aF => exact (fun _ _ => trivial)); (case aO => exact Kd.R_below HR.out (by repeat (first | (with_reducible first | exact Below.refl _ _ | exact HB.out | apply below_alloc | refine below_set ?_ (Nat.le_refl _) | refine below_set ?_ HG.out) | exact Below.refl _ _ | exact HB.out))); (case aB => exact (by repeat (first | (with_reducible first | exact Below.refl _ _ | exact HB.out | apply below_alloc | refine below_set ?_ (Nat.le_refl _) | refine below_set ?_ HG.out) | exact Below.refl _ _ | exact HB.out))); (case aS => exact Below.size (by repeat (first | (with_reducible first | exact Below.refl _ _ | exact HB.out | apply below_alloc | refine below_set ?_ (Nat.le_refl _) | refine below_set ?_ HG.out) | exact Below.refl _ _ | exact HB.out))); (case aL => simp only [List.length_append, List.length_map, List.length_take]; omega); intro v1 w1 hR1 hB1 hg1 hat1; obtain ⟨A1, c1, rfl⟩ := R_slice1 hR1; have HR' := Aside0.mk hR1; have HB' := Aside0.mk hB1; clear hR1 hB1 hg1 hat1))
          go_roundg d'
          case measure => omega
          case rel => exact ⟨i + 1, _, by go_num, rfl, ⟨by have := HI.out; omega⟩, ⟨by rw [joined_next hlt' HX.out, shiftN1 h1 (by omega)]; have hR9 := HR'.out; simp only [List.length_append, List.length_map, List.length_take] at hR9; exact hR9⟩, HB'⟩ -- using HR'.out⟩, HB'⟩
      · have h2 : ¬ 2 ≤ arityI k := by omega
        go_wp2_with (first | (go_at_call 60; refine (operands_calls k _).mono ?_; rintro e w' ⟨rfl, rfl⟩) | (at_builtin; refine Kd.R_append k42 (w0 := w) w.heap.size rfl (.tmp 41) (.tmp 43) 26 42 (.agg #[(.int .i64 0), (.string ⟨#[]⟩), (.int .i64 0), (.int .i64 0), (.int .i64 0)]) 48 rfl Try.underlying26 info42 rfl (by decide) (by omega) v (l0 ++ (l1.take i).map (shiftN l0.length)) ⟨k, s, n, a, b⟩ _ (fun _ => True) (fun _ => False) rfl ?aX ?aP (fun _ hk => hk.elim) ?aF ?aO ?aB ?aS ?aL ?_; (case aX => first | (simp [Act.eval]; done) | (go_simp; done) | (go_simp; rfl)); (case aP => exact k42_mkM _ _ _ ⟨k, s, n, a, b⟩); (case aF => exact (fun _ _ => trivial)); (case aO => exact Kd.R_below HR.out (by repeat (first | (with_reducible first | exact Below.refl _ _ | exact HB.out | apply below_alloc | refine below_set ?_ (Nat.le_refl _) | refine below_set ?_ HG.out) | exact Below.refl _ _ | exact HB.out))); (case aB => exact (by repeat (first | (with_reducible first | exact Below.refl _ _ | exact HB.out | apply below_alloc | refine below_set ?_ (Nat.le_refl _) | refine below_set ?_ HG.out) | exact Below.refl _ _ | exact HB.out))); (case aS => exact Below.size (by repeat (first | (with_reducible first | exact Below.refl _ _ | exact HB.out | apply below_alloc | refine below_set ?_ (Nat.le_refl _) | refine below_set ?_ HG.out) | exact Below.refl _ _ | exact HB.out))); (case aL => simp only [List.length_append, List.length_map, List.length_take]; omega); intro v1 w1 hR1 hB1 hg1 hat1; obtain ⟨A1, c1, rfl⟩ := R_slice1 hR1; have HR' := Aside0.mk hR1; have HB' := Aside0.mk hB1; clear hR1 hB1 hg1 hat1))
        go_roundg d'
        case measure => omega
        case rel => exact ⟨i + 1, _, by go_num, rfl, ⟨by have := HI.out; omega⟩, ⟨by rw [joined_next hlt' HX.out, shiftN0 (by omega)]; have hR9 := HR'.out; simp only [List.length_append, List.length_map, List.length_take] at hR9; exact hR9⟩, HB'⟩ -- using HR'.out⟩, HB'⟩
    · have hi : i = l1.length := by have := HI.out; omega
      subst hi
      go_wp2_with fail
      go_ret
      exact ⟨_, rfl, by have := HR.out; rw [List.take_length] at this; exact this, HB.out⟩
/-- No condition but the size of the two. -/
def koineref25_joined.f (l0 l1 : List S42) : Option (List S42) := if l0.length + l1.length ≤ 1000000 then some (joinD l0 l1) else none
theorem koineref25_joined.calls (A0 : Option Addr) (c0 : Nat) (l0 : List (S42)) (A1 : Option Addr) (c1 : Nat) (l1 : List (S42)) (r : List (S42)) (w : World) (hr0 : Kd.C k42 w A0 l0.length l0) (hc0 : l0.length ≤ c0) (hr1 : Kd.C k42 w A1 l1.length l1) (hc1 : l1.length ≤ c1) (h : koineref25_joined.f l0 l1 = some r) :
    Calls Try.prog 64 #[.slice A0 l0.length c0, .slice A1 l1.length c1] w fun e w' => ∃ v0_ : Value, e = .returned (v0_) ∧ Kd.R k42 42 w' w.heap.size (fun _ => True) v0_ r ∧ Below w.heap.size w w' := by
  unfold koineref25_joined.f at h
  split at h
  · obtain rfl := Option.some.inj h
    exact joined_calls A0 c0 l0 A1 c1 l1 w hr0 hc0 hr1 hc1 (by omega)
  · exact absurd h (by simp)
end Go.Proofs.Ythmmdmnbcecooaa.A
end

section
namespace Go.Proofs.Ythmmdmnbcecooaa.A
open Go.RowKit Go.Proofs.YthmmdmnbcecooaaW.PrintWords Go.Proofs.YthmmdmnbcecooaaW.PrintLast Go.Proofs.YthmmdmnbcecooaaW.PrintMore
set_option linter.unusedVariables false
set_option linter.unusedSimpArgs false
def hardT : Doc → Bool
  | .text _ | .line _ => false
  | .hard => true
  | .seq a b => hardT a || hardT b
  | .nest _ a | .align a | .group _ a => hardT a
theorem rd42_nat (l : List S42) (i : Nat) : rd_T42 l (i : Int) = l.getD i z42 := by simp [rd_T42]
theorem hard_eq {l : List S42} (hv : nodesOk l) : ∀ (k i : Nat), i < k → i < l.length → koineref25_hard.f k l i = some (hardT (tree l i)) := by
  intro k
  induction k with
  | zero => intro i h; omega
  | succ k ih =>
    intro i hk hi
    have h := hv i hi
    rw [koineref25_hard.f, if_pos (by omega), if_pos (by omega), rd42_nat, show koineref25_operands.f (l.getD i z42).f0 = some (arityI (l.getD i z42).f0) from rfl, Option.bind_some]
    by_cases h2 : (l.getD i z42).f0 = 2
    · rw [if_pos h2, tree_hard h2]; rfl
    rw [if_neg h2]
    have hkd := h.kind
    by_cases h3 : (l.getD i z42).f0 = 3
    · have e2 : arityI (l.getD i z42).f0 = 2 := by rw [h3]; rfl
      have ha := h.a (by omega)
      have hb := h.b h3
      obtain ⟨a, ha'⟩ := Int.eq_ofNat_of_zero_le ha.1
      obtain ⟨b, hb'⟩ := Int.eq_ofNat_of_zero_le hb.1
      rw [e2, if_pos (by omega), if_pos (by omega), tree_seq hv hi h3, ha', hb', Int.toNat_natCast, Int.toNat_natCast, ih a (by omega) (by omega), Option.bind_some, ih b (by omega) (by omega), Option.bind_some]
      simp only [hardT]
      cases hardT (tree l a) <;> simp
    · by_cases hg : 3 < (l.getD i z42).f0
      · have e1 := arityI_big hg hkd.2
        have ha := h.a (by omega)
        obtain ⟨a, ha'⟩ := Int.eq_ofNat_of_zero_le ha.1
        have ht : hardT (tree l i) = hardT (tree l a) := by
          rcases (show (l.getD i z42).f0 = 4 ∨ (l.getD i z42).f0 = 5 ∨ (l.getD i z42).f0 = 6 by omega) with h4 | h4 | h4
          · rw [tree_nest hv hi h4, ha', Int.toNat_natCast]; rfl
          · rw [tree_align hv hi h4, ha', Int.toNat_natCast]; rfl
          · rw [tree_group hv hi h4, ha', Int.toNat_natCast]; rfl
        rw [e1, if_pos (by omega), if_neg (by omega), ha', ih a (by omega) (by omega), Option.bind_some, ht]
        cases hardT (tree l a) <;> simp
      · have e0 := arityI_small (k := (l.getD i z42).f0) (by omega) hkd.1
        rw [e0, if_neg (by omega), if_neg (by omega)]
        rcases (show (l.getD i z42).f0 = 0 ∨ (l.getD i z42).f0 = 1 by omega) with h4 | h4
        · rw [tree_text h4]; rfl
        · rw [tree_line h4]; rfl
def grI (t : Doc) : List Int := (groupsI t).map Int.ofNat
theorem walk_eq {l : List S42} (hv : nodesOk l) (hb : ∀ i, i < l.length → (groupsI (tree l i)).length ≤ 100000) : ∀ (i k : Nat), 3 * i + 3 ≤ k → i < l.length → koineref25_walk.f k l i = some (grI (tree l i)) := by
  intro i
  induction i using Nat.strongRecOn with
  | _ i ih =>
    intro k hk hi
    obtain ⟨k, rfl⟩ : ∃ k', k = k' + 1 + 1 + 1 := ⟨k - 3, by omega⟩
    have h := hv i hi
    have hkd := h.kind
    have j1 : ∀ out : List Int, out.length ≤ 200000 → koineref25_walk.j1 (k + 1) l i out = some (out ++ (if (l.getD i z42).f0 = 3 then grI (tree l (l.getD i z42).f4.toNat) else [])) := by
      intro out ho
      rw [koineref25_walk.j1, if_pos (by omega), if_pos (by omega), rd42_nat, show koineref25_operands.f (l.getD i z42).f0 = some (arityI (l.getD i z42).f0) from rfl, Option.bind_some]
      by_cases h3 : (l.getD i z42).f0 = 3
      · have e2 : arityI (l.getD i z42).f0 = 2 := by rw [h3]; rfl
        have hb3 := h.b h3
        obtain ⟨b, hb'⟩ := Int.eq_ofNat_of_zero_le hb3.1
        have hbb := hb b (by omega)
        rw [e2, if_pos (by omega), if_pos h3, hb', Int.toNat_natCast, ih b (by omega) k (by omega) (by omega), Option.bind_some, if_pos (by simp [grI]; omega)]
      · have e1 : arityI (l.getD i z42).f0 < 2 := by
          by_cases hg : 3 < (l.getD i z42).f0
          · rw [arityI_big hg hkd.2]; omega
          · rw [arityI_small (by omega) hkd.1]; omega
        rw [if_neg (by omega), if_neg h3, List.append_nil]
    have j0 : ∀ out : List Int, out.length ≤ 10 → koineref25_walk.j0 (k + 1 + 1) l i out = some ((out ++ (if 3 ≤ (l.getD i z42).f0 then grI (tree l (l.getD i z42).f3.toNat) else [])) ++ (if (l.getD i z42).f0 = 3 then grI (tree l (l.getD i z42).f4.toNat) else [])) := by
      intro out ho
      rw [koineref25_walk.j0, if_pos (by omega), if_pos (by omega), rd42_nat, show koineref25_operands.f (l.getD i z42).f0 = some (arityI (l.getD i z42).f0) from rfl, Option.bind_some]
      by_cases h3 : 3 ≤ (l.getD i z42).f0
      · have e1 : 1 ≤ arityI (l.getD i z42).f0 := by
          by_cases hg : 3 < (l.getD i z42).f0
          · rw [arityI_big hg hkd.2]; omega
          · have : (l.getD i z42).f0 = 3 := by omega
            rw [this]; decide
        have ha := h.a h3
        obtain ⟨a, ha'⟩ := Int.eq_ofNat_of_zero_le ha.1
        have hba := hb a (by omega)
        rw [if_pos (by omega), if_pos h3, ha', Int.toNat_natCast, ih a (by omega) (k + 1) (by omega) (by omega), Option.bind_some, if_pos (by simp [grI]; omega), j1 _ (by simp [grI]; omega)]
      · rw [arityI_small (by omega) hkd.1, if_neg (by omega), if_neg h3, List.append_nil, j1 _ (by omega)]
    rw [koineref25_walk.f, Option.bind_some, if_pos (by omega), if_pos (by omega), rd42_nat]
    by_cases h6 : (l.getD i z42).f0 = 6
    · rw [if_pos h6, if_pos (by simp), j0 _ (by simp), if_pos (by omega), if_neg (by omega), tree_group hv hi h6]
      simp [grI, groupsI]
    · rw [if_neg h6, j0 _ (by simp)]
      rcases (show (l.getD i z42).f0 = 0 ∨ (l.getD i z42).f0 = 1 ∨ (l.getD i z42).f0 = 2 ∨ (l.getD i z42).f0 = 3 ∨ (l.getD i z42).f0 = 4 ∨ (l.getD i z42).f0 = 5 by omega) with h4 | h4 | h4 | h4 | h4 | h4
      · rw [if_neg (by omega), if_neg (by omega), tree_text h4]; rfl
      · rw [if_neg (by omega), if_neg (by omega), tree_line h4]; rfl
      · rw [if_neg (by omega), if_neg (by omega), tree_hard h4]; rfl
      · rw [if_pos (by omega), if_pos h4, tree_seq hv hi h4]; simp [grI, groupsI]
      · rw [if_pos (by omega), if_neg (by omega), tree_nest hv hi h4]; simp [grI, groupsI]
      · rw [if_pos (by omega), if_neg (by omega), tree_align hv hi h4]; simp [grI, groupsI]
end Go.Proofs.Ythmmdmnbcecooaa.A
end

section
namespace Go.Proofs.Ythmmdmnbcecooaa.A
open Go.RowKit Go.Proofs.YthmmdmnbcecooaaW.PrintWords Go.Proofs.YthmmdmnbcecooaaW.PrintLast Go.Proofs.YthmmdmnbcecooaaW.PrintMore
attribute [local go_sem] max2_int max_two
set_option linter.unusedVariables false
set_option linter.unusedSimpArgs false
mutual
def koineref25_valid.j0 : Nat → Int → Int → Bool → Int → ByteArray → Int → Int → Int → Option (Bool)
  | 0, _, _, _, _, _, _, _, _ => none
  | k + 1, x1, x6, x31, x148000, x148001, x148002, x148003, x148004 => if x31 = true then (some false) else (koineref25_valid.l0 k x1 x6 0 x148000 x148001 x148002 x148003 x148004)
def koineref25_valid.l0 : Nat → Int → Int → Int → Int → ByteArray → Int → Int → Int → Option (Bool)
  | 0, _, _, _, _, _, _, _, _ => none
  | k + 1, x1, x6, x7, x148000, x148001, x148002, x148003, x148004 => if x7 < (x148001.size : Int) then (if 0 ≤ x7 then (if (bt x148001 x7) = 10 then (some false) else (koineref25_valid.l0 k x1 x6 (wrap64 (x7 + 1)) x148000 x148001 x148002 x148003 x148004)) else (none)) else (if x148002 < 0 then (koineref25_valid.j2 k x1 x6 true x148000 x148001 x148002 x148003 x148004) else (if x148002 > 1000 then (koineref25_valid.j2 k x1 x6 true x148000 x148001 x148002 x148003 x148004) else (if x148002 = 0 then (koineref25_valid.j2 k x1 x6 false x148000 x148001 x148002 x148003 x148004) else (koineref25_valid.j2 k x1 x6 (x148000 != 4) x148000 x148001 x148002 x148003 x148004))))
def koineref25_valid.j2 : Nat → Int → Int → Bool → Int → ByteArray → Int → Int → Int → Option (Bool)
  | 0, _, _, _, _, _, _, _, _ => none
  | k + 1, x1, x6, x61, x148000, x148001, x148002, x148003, x148004 => if x61 = true then (some false) else (if x6 < 1 then (if x148003 = 0 then (if x6 < 2 then (if x148004 = 0 then (some true) else (some false)) else (if x148004 ≥ 0 then (some (decide (x148004 < x1))) else (some false))) else (some false)) else (if x6 < 2 then (if x148004 = 0 then (if x148003 ≥ 0 then (if x148003 < x1 then (some true) else (some false)) else (some false)) else (some false)) else (if x148003 ≥ 0 then (if x148003 < x1 then (if x148004 ≥ 0 then (some (decide (x148004 < x1))) else (some false)) else (some false)) else (some false))))
end
def koineref25_valid.f (k : Nat) (l0 : List (S42)) (a1 : Int) : Option (Bool) := if 0 ≤ a1 then (if a1 < (l0.length : Int) then ((koineref25_operands.f ((rd_T42 l0 a1).f0)).bind fun t148 => (if t148 < 0 then (koineref25_valid.j0 k a1 t148 true ((rd_T42 l0 a1).f0) ((rd_T42 l0 a1).f1) ((rd_T42 l0 a1).f2) ((rd_T42 l0 a1).f3) ((rd_T42 l0 a1).f4)) else (if ((rd_T42 l0 a1).f1).toList = ([] : List UInt8) then (koineref25_valid.j0 k a1 t148 false ((rd_T42 l0 a1).f0) ((rd_T42 l0 a1).f1) ((rd_T42 l0 a1).f2) ((rd_T42 l0 a1).f3) ((rd_T42 l0 a1).f4)) else (if ((rd_T42 l0 a1).f0) = 0 then (koineref25_valid.j0 k a1 t148 false ((rd_T42 l0 a1).f0) ((rd_T42 l0 a1).f1) ((rd_T42 l0 a1).f2) ((rd_T42 l0 a1).f3) ((rd_T42 l0 a1).f4)) else (koineref25_valid.j0 k a1 t148 (((rd_T42 l0 a1).f0) != 1) ((rd_T42 l0 a1).f0) ((rd_T42 l0 a1).f1) ((rd_T42 l0 a1).f2) ((rd_T42 l0 a1).f3) ((rd_T42 l0 a1).f4)))))) else (none)) else (none)
set_option maxHeartbeats 8000000 in
set_option maxRecDepth 100000 in
theorem koineref25_valid.calls (k : Nat) (A0 : Option Addr) (c0 : Nat) (l0 : List (S42)) (a1 : Int) (r : Bool) (w : World) (hr0 : Kd.C k42 w A0 l0.length l0) (hc0 : l0.length ≤ c0) (h : koineref25_valid.f k l0 a1 = some r) :
    Calls Try.prog 59 #[.slice A0 l0.length c0, .int .i64 a1] w fun e w' => e = .returned (.bool r) ∧ Below w.heap.size w w' := by
  have hu42 := Try.underlying42
  have HR0 := Aside0.mk hr0
  have HC0 := Aside0.mk hc0
  clear hr0 hc0
  have HB := Aside0.mk (Below.refl w.heap.size w)
  have H : (if 0 ≤ a1 then (if a1 < (l0.length : Int) then ((koineref25_operands.f ((rd_T42 l0 a1).f0)).bind fun t148 => (if t148 < 0 then (koineref25_valid.j0 k a1 t148 true ((rd_T42 l0 a1).f0) ((rd_T42 l0 a1).f1) ((rd_T42 l0 a1).f2) ((rd_T42 l0 a1).f3) ((rd_T42 l0 a1).f4)) else (if ((rd_T42 l0 a1).f1).toList = ([] : List UInt8) then (koineref25_valid.j0 k a1 t148 false ((rd_T42 l0 a1).f0) ((rd_T42 l0 a1).f1) ((rd_T42 l0 a1).f2) ((rd_T42 l0 a1).f3) ((rd_T42 l0 a1).f4)) else (if ((rd_T42 l0 a1).f0) = 0 then (koineref25_valid.j0 k a1 t148 false ((rd_T42 l0 a1).f0) ((rd_T42 l0 a1).f1) ((rd_T42 l0 a1).f2) ((rd_T42 l0 a1).f3) ((rd_T42 l0 a1).f4)) else (koineref25_valid.j0 k a1 t148 (((rd_T42 l0 a1).f0) != 1) ((rd_T42 l0 a1).f0) ((rd_T42 l0 a1).f1) ((rd_T42 l0 a1).f2) ((rd_T42 l0 a1).f3) ((rd_T42 l0 a1).f4)))))) else (none)) else (none)) = some r := h
  clear h
  by_cases c3 : 0 ≤ a1
  · rw [if_pos c3] at H
    have c3b0 : decide (0 ≤ a1) = true := decide_eq_true c3
    clear c3
    by_cases c4 : a1 < (l0.length : Int)
    · rw [if_pos c4] at H
      have c4b0 : decide (a1 < (l0.length : Int)) = true := decide_eq_true c4
      clear c4
      replace H := Option.bind_eq_some_iff.mp H
      obtain ⟨t148, A50, H⟩ := H
      replace H : (if t148 < 0 then (koineref25_valid.j0 k a1 t148 true ((rd_T42 l0 a1).f0) ((rd_T42 l0 a1).f1) ((rd_T42 l0 a1).f2) ((rd_T42 l0 a1).f3) ((rd_T42 l0 a1).f4)) else (if ((rd_T42 l0 a1).f1).toList = ([] : List UInt8) then (koineref25_valid.j0 k a1 t148 false ((rd_T42 l0 a1).f0) ((rd_T42 l0 a1).f1) ((rd_T42 l0 a1).f2) ((rd_T42 l0 a1).f3) ((rd_T42 l0 a1).f4)) else (if ((rd_T42 l0 a1).f0) = 0 then (koineref25_valid.j0 k a1 t148 false ((rd_T42 l0 a1).f0) ((rd_T42 l0 a1).f1) ((rd_T42 l0 a1).f2) ((rd_T42 l0 a1).f3) ((rd_T42 l0 a1).f4)) else (koineref25_valid.j0 k a1 t148 (((rd_T42 l0 a1).f0) != 1) ((rd_T42 l0 a1).f0) ((rd_T42 l0 a1).f1) ((rd_T42 l0 a1).f2) ((rd_T42 l0 a1).f3) ((rd_T42 l0 a1).f4))))) = some r := H
      have A5 := Aside0.mk A50
      clear A50
      have HC6 := Aside0.mk H
      clear H
      have p146 : 0 ≤ (a1 : Int) := of_decide_eq_true (by first | (with_reducible assumption) | assumption)
      have q146 : a1 < (l0.length : Int) := of_decide_eq_true (by first | (with_reducible assumption) | assumption)
      obtain ⟨ad146, e146, hx146_0, hx146_1, hx146_2, hx146_3, hx146_4⟩ := at_T42 HR0.out a1 p146 q146
      cases e146
      replace p146 := eq_true p146
      replace q146 := eq_true q146
      go_enter Try.func59, Try.ntmps59
      go_upto_region 3 with (first | ((with_reducible refine gate_dst (N := 5) rfl ?_); refine box_event ?hg (N := 5) ?hd (cs := #[.int .i64 0, .string (⟨#[]⟩ : ByteArray), .int .i64 0, .int .i64 0, .int .i64 0]) (t := 42) ?hr ?_; (case hd => rfl); (case hg => rfl); (case hr => first | (go_simp; done) | (go_simp; rfl)); intro gb147 hg w7 hbox hb; have n0_ := Aside0.mk (below_step (by repeat (first | (with_reducible first | exact HB.out | apply below_alloc | apply pw_below_drewN | apply below_drew1) | exact HB.out)) hb); have n1_ := Aside0.mk (hbox); have n2_ := Aside0.mk ((by rw [hg]; exact (below_size (by repeat (first | (with_reducible first | exact HB.out | apply below_alloc | apply pw_below_drewN | apply below_drew1) | exact HB.out))) : w.heap.size ≤ gb147)); have n3_ := Aside0.mk ((by rw [hg]; exact (below_size (by repeat (first | (with_reducible first | exact HB.out | apply below_alloc | apply pw_below_drewN | apply below_drew1) | exact HB.out))) : w.heap.size ≤ gb147)); clear HB; have HB := n0_; have BK147 := n1_; have GW147 := n2_; have GE147 := n3_; clear n0_ n1_ n2_ n3_; clear hb hbox hg; have hcz8_0 : w7.cell? ⟨gb147, 0, none⟩ = some (.int .i64 0) := (blk_cell BK147.out 0).trans rfl; have hcz8_1 : w7.cell? ⟨gb147, 1, none⟩ = some (.string (⟨#[]⟩ : ByteArray)) := (blk_cell BK147.out 1).trans rfl; have hcz8_2 : w7.cell? ⟨gb147, 2, none⟩ = some (.int .i64 0) := (blk_cell BK147.out 2).trans rfl; have hcz8_3 : w7.cell? ⟨gb147, 3, none⟩ = some (.int .i64 0) := (blk_cell BK147.out 3).trans rfl; have hcz8_4 : w7.cell? ⟨gb147, 4, none⟩ = some (.int .i64 0) := (blk_cell BK147.out 4).trans rfl; have hfz8_0 := blk_frozen BK147.out 0; have hfz8_1 := blk_frozen BK147.out 1; have hfz8_2 := blk_frozen BK147.out 2; have hfz8_3 := blk_frozen BK147.out 3; have hfz8_4 := blk_frozen BK147.out 4) | ((with_reducible refine gate_callee (f := 60) rfl ?_); refine goesL_ (some 14) rfl rfl Try.func60 (by kernel_rfl) rfl #[.int .i64 ((rd_T42 l0 a1).f0)] rfl (by (try simp only [List.map_toArray, List.map_cons, List.map_nil]); first | done | rfl | (simp only [List.length_drop, List.length_take]; rfl)) ?_; (with_reducible refine (koineref25_operands.calls ((rd_T42 l0 a1).f0) t148 _ A5.out).mono ?_); rintro e w' ⟨rfl, ⟨nd, rfl⟩⟩; refine ⟨_, rfl, ?_⟩))
      (try simp only [Act.put, List.setIfInBounds_toArray, List.set_cons_zero, List.set_cons_succ])
      go_cut [31] (fun v31 wc => ∃ (kq : Nat) (x31_5 : Bool), v31 = .bool x31_5 ∧ Aside0 (koineref25_valid.j0 kq a1 t148 x31_5 ((rd_T42 l0 a1).f0) ((rd_T42 l0 a1).f1) ((rd_T42 l0 a1).f2) ((rd_T42 l0 a1).f3) ((rd_T42 l0 a1).f4) = some r) ∧ Aside0 (kq ≤ k) ∧ Aside0 (wc.heap[gb147]? = some (.cells #[.int .i64 ((rd_T42 l0 a1).f0), .string ((rd_T42 l0 a1).f1), .int .i64 ((rd_T42 l0 a1).f2), .int .i64 ((rd_T42 l0 a1).f3), .int .i64 ((rd_T42 l0 a1).f4)] 42 (0, 0))) ∧ Aside0 (Below w.heap.size w wc))
      case first =>
        have H := HC6.out
        clear HC6
        by_cases c9 : t148 < 0
        · rw [if_pos c9] at H
          have c9b0 : decide (t148 < 0) = true := decide_eq_true c9
          clear c9
          (first | rw [c9b0] | (simp only [i64_w, i32_w]; rw [c9b0]) | skip)
          have H' := Aside0.mk H
          clear H
          go_wp2
          go_meet
          case rel => exact ⟨_, (true), (by first | rfl | (simp; done) | (simp [*]; done)), H', ⟨by first | omega | exact Nat.le_refl _⟩, ⟨by (with_reducible repeat (first | refine blk_drewN ?_ _ | refine blk_drew ?_ | refine blk_alloc ?_ _)); refine blk_put (cs := #[.int .i64 ((rd_T42 l0 a1).f0), .string ((rd_T42 l0 a1).f1), .int .i64 ((rd_T42 l0 a1).f2), .int .i64 ((rd_T42 l0 a1).f3), .int .i64 0]) ?_ 4 _ rfl; (with_reducible repeat (first | refine blk_drewN ?_ _ | refine blk_drew ?_ | refine blk_alloc ?_ _)); refine blk_put (cs := #[.int .i64 ((rd_T42 l0 a1).f0), .string ((rd_T42 l0 a1).f1), .int .i64 ((rd_T42 l0 a1).f2), .int .i64 0, .int .i64 0]) ?_ 3 _ rfl; (with_reducible repeat (first | refine blk_drewN ?_ _ | refine blk_drew ?_ | refine blk_alloc ?_ _)); refine blk_put (cs := #[.int .i64 ((rd_T42 l0 a1).f0), .string ((rd_T42 l0 a1).f1), .int .i64 0, .int .i64 0, .int .i64 0]) ?_ 2 _ rfl; (with_reducible repeat (first | refine blk_drewN ?_ _ | refine blk_drew ?_ | refine blk_alloc ?_ _)); refine blk_put (cs := #[.int .i64 ((rd_T42 l0 a1).f0), .string (⟨#[]⟩ : ByteArray), .int .i64 0, .int .i64 0, .int .i64 0]) ?_ 1 _ rfl; (with_reducible repeat (first | refine blk_drewN ?_ _ | refine blk_drew ?_ | refine blk_alloc ?_ _)); refine blk_put (cs := #[.int .i64 0, .string (⟨#[]⟩ : ByteArray), .int .i64 0, .int .i64 0, .int .i64 0]) ?_ 0 _ rfl; (with_reducible repeat (first | refine blk_drewN ?_ _ | refine blk_drew ?_ | refine blk_alloc ?_ _)); exact BK147.out⟩, ⟨by repeat (first | (with_reducible first | exact HB.out | apply below_alloc | apply pw_below_drewN | apply below_drew1 | refine below_set ?_ GE147.out) | exact HB.out)⟩⟩
        · rw [if_neg c9] at H
          have c9b0 : decide (t148 < 0) = false := decide_eq_false c9
          clear c9
          (first | rw [c9b0] | (simp only [i64_w, i32_w]; rw [c9b0]) | skip)
          by_cases c10 : ((rd_T42 l0 a1).f1).toList = ([] : List UInt8)
          · rw [if_pos c10] at H
            have c10b0 : (((rd_T42 l0 a1).f1).toList == ([] : List UInt8)) = true := beq_iff_eq.mpr c10
            have c10b1 : (((rd_T42 l0 a1).f1).toList != ([] : List UInt8)) = false := bne_eq_false_iff_eq.mpr c10
            clear c10
            have H' := Aside0.mk H
            clear H
            have hcz11_0 : w7.cell? ⟨gb147, 0, none⟩ = some (.int .i64 0) := (blk_cell BK147.out 0).trans rfl
            have hcz11_1 : w7.cell? ⟨gb147, 1, none⟩ = some (.string (⟨#[]⟩ : ByteArray)) := (blk_cell BK147.out 1).trans rfl
            have hcz11_2 : w7.cell? ⟨gb147, 2, none⟩ = some (.int .i64 0) := (blk_cell BK147.out 2).trans rfl
            have hcz11_3 : w7.cell? ⟨gb147, 3, none⟩ = some (.int .i64 0) := (blk_cell BK147.out 3).trans rfl
            have hcz11_4 : w7.cell? ⟨gb147, 4, none⟩ = some (.int .i64 0) := (blk_cell BK147.out 4).trans rfl
            have hfz11_0 := blk_frozen BK147.out 0
            have hfz11_1 := blk_frozen BK147.out 1
            have hfz11_2 := blk_frozen BK147.out 2
            have hfz11_3 := blk_frozen BK147.out 3
            have hfz11_4 := blk_frozen BK147.out 4
            go_wp2
            go_meet
            case rel => exact ⟨_, (false), (by first | rfl | (simp; done) | (simp [*]; done)), H', ⟨by first | omega | exact Nat.le_refl _⟩, ⟨by (with_reducible repeat (first | refine blk_drewN ?_ _ | refine blk_drew ?_ | refine blk_alloc ?_ _)); refine blk_put (cs := #[.int .i64 ((rd_T42 l0 a1).f0), .string ((rd_T42 l0 a1).f1), .int .i64 ((rd_T42 l0 a1).f2), .int .i64 ((rd_T42 l0 a1).f3), .int .i64 0]) ?_ 4 _ rfl; (with_reducible repeat (first | refine blk_drewN ?_ _ | refine blk_drew ?_ | refine blk_alloc ?_ _)); refine blk_put (cs := #[.int .i64 ((rd_T42 l0 a1).f0), .string ((rd_T42 l0 a1).f1), .int .i64 ((rd_T42 l0 a1).f2), .int .i64 0, .int .i64 0]) ?_ 3 _ rfl; (with_reducible repeat (first | refine blk_drewN ?_ _ | refine blk_drew ?_ | refine blk_alloc ?_ _)); refine blk_put (cs := #[.int .i64 ((rd_T42 l0 a1).f0), .string ((rd_T42 l0 a1).f1), .int .i64 0, .int .i64 0, .int .i64 0]) ?_ 2 _ rfl; (with_reducible repeat (first | refine blk_drewN ?_ _ | refine blk_drew ?_ | refine blk_alloc ?_ _)); refine blk_put (cs := #[.int .i64 ((rd_T42 l0 a1).f0), .string (⟨#[]⟩ : ByteArray), .int .i64 0, .int .i64 0, .int .i64 0]) ?_ 1 _ rfl; (with_reducible repeat (first | refine blk_drewN ?_ _ | refine blk_drew ?_ | refine blk_alloc ?_ _)); refine blk_put (cs := #[.int .i64 0, .string (⟨#[]⟩ : ByteArray), .int .i64 0, .int .i64 0, .int .i64 0]) ?_ 0 _ rfl; (with_reducible repeat (first | refine blk_drewN ?_ _ | refine blk_drew ?_ | refine blk_alloc ?_ _)); exact BK147.out⟩, ⟨by repeat (first | (with_reducible first | exact HB.out | apply below_alloc | apply pw_below_drewN | apply below_drew1 | refine below_set ?_ GE147.out) | exact HB.out)⟩⟩
          · rw [if_neg c10] at H
            have c10b0 : (((rd_T42 l0 a1).f1).toList == ([] : List UInt8)) = false := beq_eq_false_iff_ne.mpr c10
            have c10b1 : (((rd_T42 l0 a1).f1).toList != ([] : List UInt8)) = true := bne_iff_ne.mpr c10
            by_cases c12 : ((rd_T42 l0 a1).f0) = 0
            · rw [if_pos c12] at H
              have c12b0 : (((rd_T42 l0 a1).f0) == 0) = true := beq_iff_eq.mpr c12
              have c12b1 : (((rd_T42 l0 a1).f0) != 0) = false := bne_eq_false_iff_eq.mpr c12
              clear c12
              have H' := Aside0.mk H
              clear H
              have hcz13_0 : w7.cell? ⟨gb147, 0, none⟩ = some (.int .i64 0) := (blk_cell BK147.out 0).trans rfl
              have hcz13_1 : w7.cell? ⟨gb147, 1, none⟩ = some (.string (⟨#[]⟩ : ByteArray)) := (blk_cell BK147.out 1).trans rfl
              have hcz13_2 : w7.cell? ⟨gb147, 2, none⟩ = some (.int .i64 0) := (blk_cell BK147.out 2).trans rfl
              have hcz13_3 : w7.cell? ⟨gb147, 3, none⟩ = some (.int .i64 0) := (blk_cell BK147.out 3).trans rfl
              have hcz13_4 : w7.cell? ⟨gb147, 4, none⟩ = some (.int .i64 0) := (blk_cell BK147.out 4).trans rfl
              have hfz13_0 := blk_frozen BK147.out 0
              have hfz13_1 := blk_frozen BK147.out 1
              have hfz13_2 := blk_frozen BK147.out 2
              have hfz13_3 := blk_frozen BK147.out 3
              have hfz13_4 := blk_frozen BK147.out 4
              go_wp2
              go_meet
              case rel => exact ⟨_, (false), (by first | rfl | (simp; done) | (simp [*]; done)), H', ⟨by first | omega | exact Nat.le_refl _⟩, ⟨by (with_reducible repeat (first | refine blk_drewN ?_ _ | refine blk_drew ?_ | refine blk_alloc ?_ _)); refine blk_put (cs := #[.int .i64 ((rd_T42 l0 a1).f0), .string ((rd_T42 l0 a1).f1), .int .i64 ((rd_T42 l0 a1).f2), .int .i64 ((rd_T42 l0 a1).f3), .int .i64 0]) ?_ 4 _ rfl; (with_reducible repeat (first | refine blk_drewN ?_ _ | refine blk_drew ?_ | refine blk_alloc ?_ _)); refine blk_put (cs := #[.int .i64 ((rd_T42 l0 a1).f0), .string ((rd_T42 l0 a1).f1), .int .i64 ((rd_T42 l0 a1).f2), .int .i64 0, .int .i64 0]) ?_ 3 _ rfl; (with_reducible repeat (first | refine blk_drewN ?_ _ | refine blk_drew ?_ | refine blk_alloc ?_ _)); refine blk_put (cs := #[.int .i64 ((rd_T42 l0 a1).f0), .string ((rd_T42 l0 a1).f1), .int .i64 0, .int .i64 0, .int .i64 0]) ?_ 2 _ rfl; (with_reducible repeat (first | refine blk_drewN ?_ _ | refine blk_drew ?_ | refine blk_alloc ?_ _)); refine blk_put (cs := #[.int .i64 ((rd_T42 l0 a1).f0), .string (⟨#[]⟩ : ByteArray), .int .i64 0, .int .i64 0, .int .i64 0]) ?_ 1 _ rfl; (with_reducible repeat (first | refine blk_drewN ?_ _ | refine blk_drew ?_ | refine blk_alloc ?_ _)); refine blk_put (cs := #[.int .i64 0, .string (⟨#[]⟩ : ByteArray), .int .i64 0, .int .i64 0, .int .i64 0]) ?_ 0 _ rfl; (with_reducible repeat (first | refine blk_drewN ?_ _ | refine blk_drew ?_ | refine blk_alloc ?_ _)); exact BK147.out⟩, ⟨by repeat (first | (with_reducible first | exact HB.out | apply below_alloc | apply pw_below_drewN | apply below_drew1 | refine below_set ?_ GE147.out) | exact HB.out)⟩⟩
            · rw [if_neg c12] at H
              have c12b0 : (((rd_T42 l0 a1).f0) == 0) = false := beq_eq_false_iff_ne.mpr c12
              have c12b1 : (((rd_T42 l0 a1).f0) != 0) = true := bne_iff_ne.mpr c12
              have H' := Aside0.mk H
              clear H
              have hcz14_0 : w7.cell? ⟨gb147, 0, none⟩ = some (.int .i64 0) := (blk_cell BK147.out 0).trans rfl
              have hcz14_1 : w7.cell? ⟨gb147, 1, none⟩ = some (.string (⟨#[]⟩ : ByteArray)) := (blk_cell BK147.out 1).trans rfl
              have hcz14_2 : w7.cell? ⟨gb147, 2, none⟩ = some (.int .i64 0) := (blk_cell BK147.out 2).trans rfl
              have hcz14_3 : w7.cell? ⟨gb147, 3, none⟩ = some (.int .i64 0) := (blk_cell BK147.out 3).trans rfl
              have hcz14_4 : w7.cell? ⟨gb147, 4, none⟩ = some (.int .i64 0) := (blk_cell BK147.out 4).trans rfl
              have hfz14_0 := blk_frozen BK147.out 0
              have hfz14_1 := blk_frozen BK147.out 1
              have hfz14_2 := blk_frozen BK147.out 2
              have hfz14_3 := blk_frozen BK147.out 3
              have hfz14_4 := blk_frozen BK147.out 4
              go_wp2
              go_meet
              case rel => exact ⟨_, ((((rd_T42 l0 a1).f0) != 1)), (by first | rfl | (simp; done) | (simp [*]; done)), H', ⟨by first | omega | exact Nat.le_refl _⟩, ⟨by (with_reducible repeat (first | refine blk_drewN ?_ _ | refine blk_drew ?_ | refine blk_alloc ?_ _)); refine blk_put (cs := #[.int .i64 ((rd_T42 l0 a1).f0), .string ((rd_T42 l0 a1).f1), .int .i64 ((rd_T42 l0 a1).f2), .int .i64 ((rd_T42 l0 a1).f3), .int .i64 0]) ?_ 4 _ rfl; (with_reducible repeat (first | refine blk_drewN ?_ _ | refine blk_drew ?_ | refine blk_alloc ?_ _)); refine blk_put (cs := #[.int .i64 ((rd_T42 l0 a1).f0), .string ((rd_T42 l0 a1).f1), .int .i64 ((rd_T42 l0 a1).f2), .int .i64 0, .int .i64 0]) ?_ 3 _ rfl; (with_reducible repeat (first | refine blk_drewN ?_ _ | refine blk_drew ?_ | refine blk_alloc ?_ _)); refine blk_put (cs := #[.int .i64 ((rd_T42 l0 a1).f0), .string ((rd_T42 l0 a1).f1), .int .i64 0, .int .i64 0, .int .i64 0]) ?_ 2 _ rfl; (with_reducible repeat (first | refine blk_drewN ?_ _ | refine blk_drew ?_ | refine blk_alloc ?_ _)); refine blk_put (cs := #[.int .i64 ((rd_T42 l0 a1).f0), .string (⟨#[]⟩ : ByteArray), .int .i64 0, .int .i64 0, .int .i64 0]) ?_ 1 _ rfl; (with_reducible repeat (first | refine blk_drewN ?_ _ | refine blk_drew ?_ | refine blk_alloc ?_ _)); refine blk_put (cs := #[.int .i64 0, .string (⟨#[]⟩ : ByteArray), .int .i64 0, .int .i64 0, .int .i64 0]) ?_ 0 _ rfl; (with_reducible repeat (first | refine blk_drewN ?_ _ | refine blk_drew ?_ | refine blk_alloc ?_ _)); exact BK147.out⟩, ⟨by repeat (first | (with_reducible first | exact HB.out | apply below_alloc | apply pw_below_drewN | apply below_drew1 | refine below_set ?_ GE147.out) | exact HB.out)⟩⟩
      case rest =>
        clear HC6
        try clear c1
        try clear p1
        try clear q1
        try clear hx1
        try clear p2
        try clear c3
        try clear c3b0
        try clear c4
        try clear c4b0
        try clear c5
        try clear c6
        try clear c9
        try clear c9b0
        try clear c10
        try clear c10b0
        try clear c10b1
        try clear c12
        try clear c12b0
        try clear c12b1
        try clear p14
        try clear q14
        try clear hx14
        try clear hcz11_0
        try clear hcz11_1
        try clear hcz11_2
        try clear hcz11_3
        try clear hcz11_4
        try clear hcz13_0
        try clear hcz13_1
        try clear hcz13_2
        try clear hcz13_3
        try clear hcz13_4
        try clear hcz14_0
        try clear hcz14_1
        try clear hcz14_2
        try clear hcz14_3
        try clear hcz14_4
        try clear hcz8_0
        try clear hcz8_1
        try clear hcz8_2
        try clear hcz8_3
        try clear hcz8_4
        try clear hfz11_0
        try clear hfz11_1
        try clear hfz11_2
        try clear hfz11_3
        try clear hfz11_4
        try clear hfz13_0
        try clear hfz13_1
        try clear hfz13_2
        try clear hfz13_3
        try clear hfz13_4
        try clear hfz14_0
        try clear hfz14_1
        try clear hfz14_2
        try clear hfz14_3
        try clear hfz14_4
        try clear hfz8_0
        try clear hfz8_1
        try clear hfz8_2
        try clear hfz8_3
        try clear hfz8_4
        try clear hx146_0
        try clear hx146_1
        try clear hx146_2
        try clear hx146_3
        try clear hx146_4
        try clear p146
        try clear q146
        obtain ⟨kq, x31_5, rfl, HA, HJ5, BK147, HB⟩ := hcut
        cases kq with
        | zero => exact absurd HA.out (by simp [koineref25_valid.j0])
        | succ kj5 =>
          have H := HA.out
          clear HA
          simp only [koineref25_valid.j0] at H
          by_cases c15 : x31_5 = true
          · subst c15
            have H1 : (some false) = some r := by rw [if_pos rfl] at H; exact H
            clear H
            have H := H1
            clear H1
            obtain rfl := Option.some.inj H
            go_wp2
            go_ret
            exact ⟨by first | rfl | (simp [errW_none, errW_some] <;> rfl) | (simp [*, errW_none, errW_some] <;> rfl), by repeat (first | (with_reducible first | exact HB.out | apply below_alloc | apply pw_below_drewN | apply below_drew1 | refine below_set ?_ GE147.out) | exact HB.out)⟩
          · replace c15 := Bool.eq_false_iff.mpr c15
            subst c15
            have H1 : (koineref25_valid.l0 kj5 a1 t148 0 ((rd_T42 l0 a1).f0) ((rd_T42 l0 a1).f1) ((rd_T42 l0 a1).f2) ((rd_T42 l0 a1).f3) ((rd_T42 l0 a1).f4)) = some r := by rw [if_neg (show ¬ (false = true) by decide)] at H; exact H
            clear H
            have H := H1
            clear H1
            have H' := Aside0.mk H
            clear H
            go_wp2
            go_loopg [7] kj5 (fun kq v7 w' => ∃ (x7_2 : Int), v7 = .int .i64 x7_2 ∧ Aside0 (koineref25_valid.l0 kq a1 t148 x7_2 ((rd_T42 l0 a1).f0) ((rd_T42 l0 a1).f1) ((rd_T42 l0 a1).f2) ((rd_T42 l0 a1).f3) ((rd_T42 l0 a1).f4) = some r) ∧ Aside0 (kq ≤ kj5) ∧ Aside0 (w'.heap[gb147]? = some (.cells #[.int .i64 ((rd_T42 l0 a1).f0), .string ((rd_T42 l0 a1).f1), .int .i64 ((rd_T42 l0 a1).f2), .int .i64 ((rd_T42 l0 a1).f3), .int .i64 ((rd_T42 l0 a1).f4)] 42 (0, 0))) ∧ Aside0 (Below w.heap.size w w'))
            case atStart => exact ⟨(0), (by first | rfl | (simp; done) | (simp [*]; done)), H', ⟨Nat.le_refl _⟩, ⟨by (with_reducible repeat (first | refine blk_drewN ?_ _ | refine blk_drew ?_ | refine blk_alloc ?_ _)); exact BK147.out⟩, ⟨by repeat (first | (with_reducible first | exact HB.out | apply below_alloc | apply pw_below_drewN | apply below_drew1 | refine below_set ?_ GE147.out) | exact HB.out)⟩⟩
            case round =>
              clear H'
              try clear c1
              try clear p1
              try clear q1
              try clear hx1
              try clear p2
              try clear c3
              try clear c3b0
              try clear c4
              try clear c4b0
              try clear c5
              try clear c6
              try clear c9
              try clear c9b0
              try clear c10
              try clear c10b0
              try clear c10b1
              try clear c12
              try clear c12b0
              try clear c12b1
              try clear p14
              try clear q14
              try clear hx14
              try clear c15
              try clear hcz11_0
              try clear hcz11_1
              try clear hcz11_2
              try clear hcz11_3
              try clear hcz11_4
              try clear hcz13_0
              try clear hcz13_1
              try clear hcz13_2
              try clear hcz13_3
              try clear hcz13_4
              try clear hcz14_0
              try clear hcz14_1
              try clear hcz14_2
              try clear hcz14_3
              try clear hcz14_4
              try clear hcz8_0
              try clear hcz8_1
              try clear hcz8_2
              try clear hcz8_3
              try clear hcz8_4
              try clear hfz11_0
              try clear hfz11_1
              try clear hfz11_2
              try clear hfz11_3
              try clear hfz11_4
              try clear hfz13_0
              try clear hfz13_1
              try clear hfz13_2
              try clear hfz13_3
              try clear hfz13_4
              try clear hfz14_0
              try clear hfz14_1
              try clear hfz14_2
              try clear hfz14_3
              try clear hfz14_4
              try clear hfz8_0
              try clear hfz8_1
              try clear hfz8_2
              try clear hfz8_3
              try clear hfz8_4
              try clear hx146_0
              try clear hx146_1
              try clear hx146_2
              try clear hx146_3
              try clear hx146_4
              try clear p1
              try clear p14
              try clear p146
              try clear p2
              try clear q1
              try clear q14
              try clear q146
              obtain ⟨x7_2, rfl, HA, HK2, BK147, HB⟩ := hrel
              cases gk with
              | zero => exact absurd HA.out (by simp [koineref25_valid.l0])
              | succ k2 =>
                have H := HA.out
                clear HA
                simp only [koineref25_valid.l0] at H
                by_cases c16 : x7_2 < (((rd_T42 l0 a1).f1).size : Int)
                · rw [if_pos c16] at H
                  have c16b0 : decide (x7_2 < (((rd_T42 l0 a1).f1).size : Int)) = true := decide_eq_true c16
                  clear c16
                  by_cases c17 : 0 ≤ x7_2
                  · rw [if_pos c17] at H
                    have c17b0 : decide (0 ≤ x7_2) = true := decide_eq_true c17
                    clear c17
                    by_cases c19 : (bt ((rd_T42 l0 a1).f1) x7_2) = 10
                    · rw [if_pos c19] at H
                      have c19b0 : ((bt ((rd_T42 l0 a1).f1) x7_2) == 10) = true := beq_iff_eq.mpr c19
                      have c19b1 : ((bt ((rd_T42 l0 a1).f1) x7_2) != 10) = false := bne_eq_false_iff_eq.mpr c19
                      clear c19
                      obtain rfl := Option.some.inj H
                      have hcz20_0 : wr.cell? ⟨gb147, 0, none⟩ = some (.int .i64 ((rd_T42 l0 a1).f0)) := (blk_cell BK147.out 0).trans rfl
                      have hcz20_1 : wr.cell? ⟨gb147, 1, none⟩ = some (.string ((rd_T42 l0 a1).f1)) := (blk_cell BK147.out 1).trans rfl
                      have hcz20_2 : wr.cell? ⟨gb147, 2, none⟩ = some (.int .i64 ((rd_T42 l0 a1).f2)) := (blk_cell BK147.out 2).trans rfl
                      have hcz20_3 : wr.cell? ⟨gb147, 3, none⟩ = some (.int .i64 ((rd_T42 l0 a1).f3)) := (blk_cell BK147.out 3).trans rfl
                      have hcz20_4 : wr.cell? ⟨gb147, 4, none⟩ = some (.int .i64 ((rd_T42 l0 a1).f4)) := (blk_cell BK147.out 4).trans rfl
                      have hfz20_0 := blk_frozen BK147.out 0
                      have hfz20_1 := blk_frozen BK147.out 1
                      have hfz20_2 := blk_frozen BK147.out 2
                      have hfz20_3 := blk_frozen BK147.out 3
                      have hfz20_4 := blk_frozen BK147.out 4
                      have p18 : 0 ≤ (x7_2 : Int) := of_decide_eq_true (by first | (with_reducible assumption) | assumption)
                      have q18 : x7_2 < (((rd_T42 l0 a1).f1).size : Int) := of_decide_eq_true (by first | (with_reducible assumption) | assumption)
                      have hx18 := bt_at ((rd_T42 l0 a1).f1) x7_2
                      replace p18 := eq_true p18
                      replace q18 := eq_true q18
                      go_wp2
                      go_ret
                      exact ⟨by first | rfl | (simp [errW_none, errW_some] <;> rfl) | (simp [*, errW_none, errW_some] <;> rfl), by repeat (first | (with_reducible first | exact HB.out | apply below_alloc | apply pw_below_drewN | apply below_drew1 | refine below_set ?_ GE147.out) | exact HB.out)⟩
                    · rw [if_neg c19] at H
                      have c19b0 : ((bt ((rd_T42 l0 a1).f1) x7_2) == 10) = false := beq_eq_false_iff_ne.mpr c19
                      have c19b1 : ((bt ((rd_T42 l0 a1).f1) x7_2) != 10) = true := bne_iff_ne.mpr c19
                      have H' := Aside0.mk H
                      clear H
                      have hcz21_0 : wr.cell? ⟨gb147, 0, none⟩ = some (.int .i64 ((rd_T42 l0 a1).f0)) := (blk_cell BK147.out 0).trans rfl
                      have hcz21_1 : wr.cell? ⟨gb147, 1, none⟩ = some (.string ((rd_T42 l0 a1).f1)) := (blk_cell BK147.out 1).trans rfl
                      have hcz21_2 : wr.cell? ⟨gb147, 2, none⟩ = some (.int .i64 ((rd_T42 l0 a1).f2)) := (blk_cell BK147.out 2).trans rfl
                      have hcz21_3 : wr.cell? ⟨gb147, 3, none⟩ = some (.int .i64 ((rd_T42 l0 a1).f3)) := (blk_cell BK147.out 3).trans rfl
                      have hcz21_4 : wr.cell? ⟨gb147, 4, none⟩ = some (.int .i64 ((rd_T42 l0 a1).f4)) := (blk_cell BK147.out 4).trans rfl
                      have hfz21_0 := blk_frozen BK147.out 0
                      have hfz21_1 := blk_frozen BK147.out 1
                      have hfz21_2 := blk_frozen BK147.out 2
                      have hfz21_3 := blk_frozen BK147.out 3
                      have hfz21_4 := blk_frozen BK147.out 4
                      have p18 : 0 ≤ (x7_2 : Int) := of_decide_eq_true (by first | (with_reducible assumption) | assumption)
                      have q18 : x7_2 < (((rd_T42 l0 a1).f1).size : Int) := of_decide_eq_true (by first | (with_reducible assumption) | assumption)
                      have hx18 := bt_at ((rd_T42 l0 a1).f1) x7_2
                      replace p18 := eq_true p18
                      replace q18 := eq_true q18
                      go_wp2
                      go_roundg k2
                      case measure => have := HJ5.out; have := HK2.out; omega
                      case rel => exact ⟨(wrap64 (x7_2 + 1)), (by first | rfl | (simp; done) | (simp [*]; done)), H', ⟨by have := HJ5.out; have := HK2.out; omega⟩, ⟨by (with_reducible repeat (first | refine blk_drewN ?_ _ | refine blk_drew ?_ | refine blk_alloc ?_ _)); exact BK147.out⟩, ⟨by repeat (first | (with_reducible first | exact HB.out | apply below_alloc | apply pw_below_drewN | apply below_drew1 | refine below_set ?_ GE147.out) | exact HB.out)⟩⟩
                  · rw [if_neg c17] at H
                    exact absurd H (by simp)
                · rw [if_neg c16] at H
                  have c16b0 : decide (x7_2 < (((rd_T42 l0 a1).f1).size : Int)) = false := decide_eq_false c16
                  clear c16
                  have HC22 := Aside0.mk H
                  clear H
                  have hcz23_0 : wr.cell? ⟨gb147, 0, none⟩ = some (.int .i64 ((rd_T42 l0 a1).f0)) := (blk_cell BK147.out 0).trans rfl
                  have hcz23_1 : wr.cell? ⟨gb147, 1, none⟩ = some (.string ((rd_T42 l0 a1).f1)) := (blk_cell BK147.out 1).trans rfl
                  have hcz23_2 : wr.cell? ⟨gb147, 2, none⟩ = some (.int .i64 ((rd_T42 l0 a1).f2)) := (blk_cell BK147.out 2).trans rfl
                  have hcz23_3 : wr.cell? ⟨gb147, 3, none⟩ = some (.int .i64 ((rd_T42 l0 a1).f3)) := (blk_cell BK147.out 3).trans rfl
                  have hcz23_4 : wr.cell? ⟨gb147, 4, none⟩ = some (.int .i64 ((rd_T42 l0 a1).f4)) := (blk_cell BK147.out 4).trans rfl
                  have hfz23_0 := blk_frozen BK147.out 0
                  have hfz23_1 := blk_frozen BK147.out 1
                  have hfz23_2 := blk_frozen BK147.out 2
                  have hfz23_3 := blk_frozen BK147.out 3
                  have hfz23_4 := blk_frozen BK147.out 4
                  go_upto_region 10 with (fail)
                  go_cut [61] (fun v61 wc => ∃ (kq : Nat) (x61_21 : Bool), v61 = .bool x61_21 ∧ Aside0 (koineref25_valid.j2 kq a1 t148 x61_21 ((rd_T42 l0 a1).f0) ((rd_T42 l0 a1).f1) ((rd_T42 l0 a1).f2) ((rd_T42 l0 a1).f3) ((rd_T42 l0 a1).f4) = some r) ∧ Aside0 (kq ≤ k2) ∧ Aside0 (wc.heap[gb147]? = some (.cells #[.int .i64 ((rd_T42 l0 a1).f0), .string ((rd_T42 l0 a1).f1), .int .i64 ((rd_T42 l0 a1).f2), .int .i64 ((rd_T42 l0 a1).f3), .int .i64 ((rd_T42 l0 a1).f4)] 42 (0, 0))) ∧ Aside0 (Below w.heap.size w wc))
                  case first =>
                    have H := HC22.out
                    clear HC22
                    by_cases c24 : ((rd_T42 l0 a1).f2) < 0
                    · rw [if_pos c24] at H
                      have c24b0 : decide (((rd_T42 l0 a1).f2) < 0) = true := decide_eq_true c24
                      clear c24
                      (first | rw [c24b0] | (simp only [i64_w, i32_w]; rw [c24b0]) | skip)
                      have H' := Aside0.mk H
                      clear H
                      have hcz25_0 : wr.cell? ⟨gb147, 0, none⟩ = some (.int .i64 ((rd_T42 l0 a1).f0)) := (blk_cell BK147.out 0).trans rfl
                      have hcz25_1 : wr.cell? ⟨gb147, 1, none⟩ = some (.string ((rd_T42 l0 a1).f1)) := (blk_cell BK147.out 1).trans rfl
                      have hcz25_2 : wr.cell? ⟨gb147, 2, none⟩ = some (.int .i64 ((rd_T42 l0 a1).f2)) := (blk_cell BK147.out 2).trans rfl
                      have hcz25_3 : wr.cell? ⟨gb147, 3, none⟩ = some (.int .i64 ((rd_T42 l0 a1).f3)) := (blk_cell BK147.out 3).trans rfl
                      have hcz25_4 : wr.cell? ⟨gb147, 4, none⟩ = some (.int .i64 ((rd_T42 l0 a1).f4)) := (blk_cell BK147.out 4).trans rfl
                      have hfz25_0 := blk_frozen BK147.out 0
                      have hfz25_1 := blk_frozen BK147.out 1
                      have hfz25_2 := blk_frozen BK147.out 2
                      have hfz25_3 := blk_frozen BK147.out 3
                      have hfz25_4 := blk_frozen BK147.out 4
                      go_wp2
                      go_meet
                      case rel => exact ⟨_, (true), (by first | rfl | (simp; done) | (simp [*]; done)), H', ⟨by have := HJ5.out; have := HK2.out; first | omega | exact Nat.le_refl _⟩, ⟨by (with_reducible repeat (first | refine blk_drewN ?_ _ | refine blk_drew ?_ | refine blk_alloc ?_ _)); exact BK147.out⟩, ⟨by repeat (first | (with_reducible first | exact HB.out | apply below_alloc | apply pw_below_drewN | apply below_drew1 | refine below_set ?_ GE147.out) | exact HB.out)⟩⟩
                    · rw [if_neg c24] at H
                      have c24b0 : decide (((rd_T42 l0 a1).f2) < 0) = false := decide_eq_false c24
                      clear c24
                      (first | rw [c24b0] | (simp only [i64_w, i32_w]; rw [c24b0]) | skip)
                      by_cases c26 : ((rd_T42 l0 a1).f2) > 1000
                      · rw [if_pos c26] at H
                        have c26b0 : decide (1000 < ((rd_T42 l0 a1).f2)) = true := decide_eq_true c26
                        clear c26
                        have H' := Aside0.mk H
                        clear H
                        have hcz27_0 : wr.cell? ⟨gb147, 0, none⟩ = some (.int .i64 ((rd_T42 l0 a1).f0)) := (blk_cell BK147.out 0).trans rfl
                        have hcz27_1 : wr.cell? ⟨gb147, 1, none⟩ = some (.string ((rd_T42 l0 a1).f1)) := (blk_cell BK147.out 1).trans rfl
                        have hcz27_2 : wr.cell? ⟨gb147, 2, none⟩ = some (.int .i64 ((rd_T42 l0 a1).f2)) := (blk_cell BK147.out 2).trans rfl
                        have hcz27_3 : wr.cell? ⟨gb147, 3, none⟩ = some (.int .i64 ((rd_T42 l0 a1).f3)) := (blk_cell BK147.out 3).trans rfl
                        have hcz27_4 : wr.cell? ⟨gb147, 4, none⟩ = some (.int .i64 ((rd_T42 l0 a1).f4)) := (blk_cell BK147.out 4).trans rfl
                        have hfz27_0 := blk_frozen BK147.out 0
                        have hfz27_1 := blk_frozen BK147.out 1
                        have hfz27_2 := blk_frozen BK147.out 2
                        have hfz27_3 := blk_frozen BK147.out 3
                        have hfz27_4 := blk_frozen BK147.out 4
                        go_wp2
                        go_meet
                        case rel => exact ⟨_, (true), (by first | rfl | (simp; done) | (simp [*]; done)), H', ⟨by have := HJ5.out; have := HK2.out; first | omega | exact Nat.le_refl _⟩, ⟨by (with_reducible repeat (first | refine blk_drewN ?_ _ | refine blk_drew ?_ | refine blk_alloc ?_ _)); exact BK147.out⟩, ⟨by repeat (first | (with_reducible first | exact HB.out | apply below_alloc | apply pw_below_drewN | apply below_drew1 | refine below_set ?_ GE147.out) | exact HB.out)⟩⟩
                      · rw [if_neg c26] at H
                        have c26b0 : decide (1000 < ((rd_T42 l0 a1).f2)) = false := decide_eq_false c26
                        clear c26
                        by_cases c28 : ((rd_T42 l0 a1).f2) = 0
                        · rw [if_pos c28] at H
                          have c28b0 : (((rd_T42 l0 a1).f2) == 0) = true := beq_iff_eq.mpr c28
                          have c28b1 : (((rd_T42 l0 a1).f2) != 0) = false := bne_eq_false_iff_eq.mpr c28
                          clear c28
                          have H' := Aside0.mk H
                          clear H
                          have hcz29_0 : wr.cell? ⟨gb147, 0, none⟩ = some (.int .i64 ((rd_T42 l0 a1).f0)) := (blk_cell BK147.out 0).trans rfl
                          have hcz29_1 : wr.cell? ⟨gb147, 1, none⟩ = some (.string ((rd_T42 l0 a1).f1)) := (blk_cell BK147.out 1).trans rfl
                          have hcz29_2 : wr.cell? ⟨gb147, 2, none⟩ = some (.int .i64 ((rd_T42 l0 a1).f2)) := (blk_cell BK147.out 2).trans rfl
                          have hcz29_3 : wr.cell? ⟨gb147, 3, none⟩ = some (.int .i64 ((rd_T42 l0 a1).f3)) := (blk_cell BK147.out 3).trans rfl
                          have hcz29_4 : wr.cell? ⟨gb147, 4, none⟩ = some (.int .i64 ((rd_T42 l0 a1).f4)) := (blk_cell BK147.out 4).trans rfl
                          have hfz29_0 := blk_frozen BK147.out 0
                          have hfz29_1 := blk_frozen BK147.out 1
                          have hfz29_2 := blk_frozen BK147.out 2
                          have hfz29_3 := blk_frozen BK147.out 3
                          have hfz29_4 := blk_frozen BK147.out 4
                          go_wp2
                          go_meet
                          case rel => exact ⟨_, (false), (by first | rfl | (simp; done) | (simp [*]; done)), H', ⟨by have := HJ5.out; have := HK2.out; first | omega | exact Nat.le_refl _⟩, ⟨by (with_reducible repeat (first | refine blk_drewN ?_ _ | refine blk_drew ?_ | refine blk_alloc ?_ _)); exact BK147.out⟩, ⟨by repeat (first | (with_reducible first | exact HB.out | apply below_alloc | apply pw_below_drewN | apply below_drew1 | refine below_set ?_ GE147.out) | exact HB.out)⟩⟩
                        · rw [if_neg c28] at H
                          have c28b0 : (((rd_T42 l0 a1).f2) == 0) = false := beq_eq_false_iff_ne.mpr c28
                          have c28b1 : (((rd_T42 l0 a1).f2) != 0) = true := bne_iff_ne.mpr c28
                          have H' := Aside0.mk H
                          clear H
                          have hcz30_0 : wr.cell? ⟨gb147, 0, none⟩ = some (.int .i64 ((rd_T42 l0 a1).f0)) := (blk_cell BK147.out 0).trans rfl
                          have hcz30_1 : wr.cell? ⟨gb147, 1, none⟩ = some (.string ((rd_T42 l0 a1).f1)) := (blk_cell BK147.out 1).trans rfl
                          have hcz30_2 : wr.cell? ⟨gb147, 2, none⟩ = some (.int .i64 ((rd_T42 l0 a1).f2)) := (blk_cell BK147.out 2).trans rfl
                          have hcz30_3 : wr.cell? ⟨gb147, 3, none⟩ = some (.int .i64 ((rd_T42 l0 a1).f3)) := (blk_cell BK147.out 3).trans rfl
                          have hcz30_4 : wr.cell? ⟨gb147, 4, none⟩ = some (.int .i64 ((rd_T42 l0 a1).f4)) := (blk_cell BK147.out 4).trans rfl
                          have hfz30_0 := blk_frozen BK147.out 0
                          have hfz30_1 := blk_frozen BK147.out 1
                          have hfz30_2 := blk_frozen BK147.out 2
                          have hfz30_3 := blk_frozen BK147.out 3
                          have hfz30_4 := blk_frozen BK147.out 4
                          go_wp2
                          go_meet
                          case rel => exact ⟨_, ((((rd_T42 l0 a1).f0) != 4)), (by first | rfl | (simp; done) | (simp [*]; done)), H', ⟨by have := HJ5.out; have := HK2.out; first | omega | exact Nat.le_refl _⟩, ⟨by (with_reducible repeat (first | refine blk_drewN ?_ _ | refine blk_drew ?_ | refine blk_alloc ?_ _)); exact BK147.out⟩, ⟨by repeat (first | (with_reducible first | exact HB.out | apply below_alloc | apply pw_below_drewN | apply below_drew1 | refine below_set ?_ GE147.out) | exact HB.out)⟩⟩
                  case rest =>
                    clear HC22
                    try clear c1
                    try clear p1
                    try clear q1
                    try clear hx1
                    try clear c2
                    try clear p2
                    try clear c3
                    try clear c3b0
                    try clear c4
                    try clear c4b0
                    try clear c5
                    try clear c6
                    try clear p6
                    try clear c9
                    try clear c9b0
                    try clear c10
                    try clear c10b0
                    try clear c10b1
                    try clear c12
                    try clear c12b0
                    try clear c12b1
                    try clear p14
                    try clear q14
                    try clear hx14
                    try clear c15
                    try clear c16
                    try clear c16b0
                    try clear c17
                    try clear c17b0
                    try clear p18
                    try clear q18
                    try clear hx18
                    try clear c19
                    try clear c19b0
                    try clear c19b1
                    try clear c24
                    try clear c24b0
                    try clear c26
                    try clear c26b0
                    try clear c28
                    try clear c28b0
                    try clear c28b1
                    try clear hcz11_0
                    try clear hcz11_1
                    try clear hcz11_2
                    try clear hcz11_3
                    try clear hcz11_4
                    try clear hcz13_0
                    try clear hcz13_1
                    try clear hcz13_2
                    try clear hcz13_3
                    try clear hcz13_4
                    try clear hcz14_0
                    try clear hcz14_1
                    try clear hcz14_2
                    try clear hcz14_3
                    try clear hcz14_4
                    try clear hcz20_0
                    try clear hcz20_1
                    try clear hcz20_2
                    try clear hcz20_3
                    try clear hcz20_4
                    try clear hcz21_0
                    try clear hcz21_1
                    try clear hcz21_2
                    try clear hcz21_3
                    try clear hcz21_4
                    try clear hcz23_0
                    try clear hcz23_1
                    try clear hcz23_2
                    try clear hcz23_3
                    try clear hcz23_4
                    try clear hcz25_0
                    try clear hcz25_1
                    try clear hcz25_2
                    try clear hcz25_3
                    try clear hcz25_4
                    try clear hcz27_0
                    try clear hcz27_1
                    try clear hcz27_2
                    try clear hcz27_3
                    try clear hcz27_4
                    try clear hcz29_0
                    try clear hcz29_1
                    try clear hcz29_2
                    try clear hcz29_3
                    try clear hcz29_4
                    try clear hcz30_0
                    try clear hcz30_1
                    try clear hcz30_2
                    try clear hcz30_3
                    try clear hcz30_4
                    try clear hcz8_0
                    try clear hcz8_1
                    try clear hcz8_2
                    try clear hcz8_3
                    try clear hcz8_4
                    try clear hfz11_0
                    try clear hfz11_1
                    try clear hfz11_2
                    try clear hfz11_3
                    try clear hfz11_4
                    try clear hfz13_0
                    try clear hfz13_1
                    try clear hfz13_2
                    try clear hfz13_3
                    try clear hfz13_4
                    try clear hfz14_0
                    try clear hfz14_1
                    try clear hfz14_2
                    try clear hfz14_3
                    try clear hfz14_4
                    try clear hfz20_0
                    try clear hfz20_1
                    try clear hfz20_2
                    try clear hfz20_3
                    try clear hfz20_4
                    try clear hfz21_0
                    try clear hfz21_1
                    try clear hfz21_2
                    try clear hfz21_3
                    try clear hfz21_4
                    try clear hfz23_0
                    try clear hfz23_1
                    try clear hfz23_2
                    try clear hfz23_3
                    try clear hfz23_4
                    try clear hfz25_0
                    try clear hfz25_1
                    try clear hfz25_2
                    try clear hfz25_3
                    try clear hfz25_4
                    try clear hfz27_0
                    try clear hfz27_1
                    try clear hfz27_2
                    try clear hfz27_3
                    try clear hfz27_4
                    try clear hfz29_0
                    try clear hfz29_1
                    try clear hfz29_2
                    try clear hfz29_3
                    try clear hfz29_4
                    try clear hfz30_0
                    try clear hfz30_1
                    try clear hfz30_2
                    try clear hfz30_3
                    try clear hfz30_4
                    try clear hfz8_0
                    try clear hfz8_1
                    try clear hfz8_2
                    try clear hfz8_3
                    try clear hfz8_4
                    try clear hx146_0
                    try clear hx146_1
                    try clear hx146_2
                    try clear hx146_3
                    try clear hx146_4
                    try clear p1
                    try clear p14
                    try clear p146
                    try clear p18
                    try clear p2
                    try clear q1
                    try clear q14
                    try clear q146
                    try clear q18
                    obtain ⟨kq, x61_21, rfl, HA, HJ21, BK147, HB⟩ := hcut
                    cases kq with
                    | zero => exact absurd HA.out (by simp [koineref25_valid.j2])
                    | succ kj21 =>
                      have H := HA.out
                      clear HA
                      simp only [koineref25_valid.j2] at H
                      by_cases c31 : x61_21 = true
                      · subst c31
                        have H1 : (some false) = some r := by rw [if_pos rfl] at H; exact H
                        clear H
                        have H := H1
                        clear H1
                        obtain rfl := Option.some.inj H
                        go_wp2
                        go_ret
                        exact ⟨by first | rfl | (simp [errW_none, errW_some] <;> rfl) | (simp [*, errW_none, errW_some] <;> rfl), by repeat (first | (with_reducible first | exact HB.out | apply below_alloc | apply pw_below_drewN | apply below_drew1 | refine below_set ?_ GE147.out) | exact HB.out)⟩
                      · replace c31 := Bool.eq_false_iff.mpr c31
                        subst c31
                        have H1 : (if t148 < 1 then (if ((rd_T42 l0 a1).f3) = 0 then (if t148 < 2 then (if ((rd_T42 l0 a1).f4) = 0 then (some true) else (some false)) else (if ((rd_T42 l0 a1).f4) ≥ 0 then (some (decide (((rd_T42 l0 a1).f4) < a1))) else (some false))) else (some false)) else (if t148 < 2 then (if ((rd_T42 l0 a1).f4) = 0 then (if ((rd_T42 l0 a1).f3) ≥ 0 then (if ((rd_T42 l0 a1).f3) < a1 then (some true) else (some false)) else (some false)) else (some false)) else (if ((rd_T42 l0 a1).f3) ≥ 0 then (if ((rd_T42 l0 a1).f3) < a1 then (if ((rd_T42 l0 a1).f4) ≥ 0 then (some (decide (((rd_T42 l0 a1).f4) < a1))) else (some false)) else (some false)) else (some false)))) = some r := by rw [if_neg (show ¬ (false = true) by decide)] at H; exact H
                        clear H
                        have H := H1
                        clear H1
                        by_cases c32 : t148 < 1
                        · rw [if_pos c32] at H
                          have c32b0 : decide (t148 < 1) = true := decide_eq_true c32
                          clear c32
                          by_cases c33 : ((rd_T42 l0 a1).f3) = 0
                          · rw [if_pos c33] at H
                            have c33b0 : (((rd_T42 l0 a1).f3) == 0) = true := beq_iff_eq.mpr c33
                            have c33b1 : (((rd_T42 l0 a1).f3) != 0) = false := bne_eq_false_iff_eq.mpr c33
                            clear c33
                            by_cases c34 : t148 < 2
                            · rw [if_pos c34] at H
                              have c34b0 : decide (t148 < 2) = true := decide_eq_true c34
                              clear c34
                              by_cases c35 : ((rd_T42 l0 a1).f4) = 0
                              · rw [if_pos c35] at H
                                have c35b0 : (((rd_T42 l0 a1).f4) == 0) = true := beq_iff_eq.mpr c35
                                have c35b1 : (((rd_T42 l0 a1).f4) != 0) = false := bne_eq_false_iff_eq.mpr c35
                                clear c35
                                obtain rfl := Option.some.inj H
                                have hcz36_0 : wc.cell? ⟨gb147, 0, none⟩ = some (.int .i64 ((rd_T42 l0 a1).f0)) := (blk_cell BK147.out 0).trans rfl
                                have hcz36_1 : wc.cell? ⟨gb147, 1, none⟩ = some (.string ((rd_T42 l0 a1).f1)) := (blk_cell BK147.out 1).trans rfl
                                have hcz36_2 : wc.cell? ⟨gb147, 2, none⟩ = some (.int .i64 ((rd_T42 l0 a1).f2)) := (blk_cell BK147.out 2).trans rfl
                                have hcz36_3 : wc.cell? ⟨gb147, 3, none⟩ = some (.int .i64 ((rd_T42 l0 a1).f3)) := (blk_cell BK147.out 3).trans rfl
                                have hcz36_4 : wc.cell? ⟨gb147, 4, none⟩ = some (.int .i64 ((rd_T42 l0 a1).f4)) := (blk_cell BK147.out 4).trans rfl
                                have hfz36_0 := blk_frozen BK147.out 0
                                have hfz36_1 := blk_frozen BK147.out 1
                                have hfz36_2 := blk_frozen BK147.out 2
                                have hfz36_3 := blk_frozen BK147.out 3
                                have hfz36_4 := blk_frozen BK147.out 4
                                go_wp2
                                go_ret
                                exact ⟨by first | rfl | (simp [errW_none, errW_some] <;> rfl) | (simp [*, errW_none, errW_some] <;> rfl), by repeat (first | (with_reducible first | exact HB.out | apply below_alloc | apply pw_below_drewN | apply below_drew1 | refine below_set ?_ GE147.out) | exact HB.out)⟩
                              · rw [if_neg c35] at H
                                have c35b0 : (((rd_T42 l0 a1).f4) == 0) = false := beq_eq_false_iff_ne.mpr c35
                                have c35b1 : (((rd_T42 l0 a1).f4) != 0) = true := bne_iff_ne.mpr c35
                                obtain rfl := Option.some.inj H
                                have hcz37_0 : wc.cell? ⟨gb147, 0, none⟩ = some (.int .i64 ((rd_T42 l0 a1).f0)) := (blk_cell BK147.out 0).trans rfl
                                have hcz37_1 : wc.cell? ⟨gb147, 1, none⟩ = some (.string ((rd_T42 l0 a1).f1)) := (blk_cell BK147.out 1).trans rfl
                                have hcz37_2 : wc.cell? ⟨gb147, 2, none⟩ = some (.int .i64 ((rd_T42 l0 a1).f2)) := (blk_cell BK147.out 2).trans rfl
                                have hcz37_3 : wc.cell? ⟨gb147, 3, none⟩ = some (.int .i64 ((rd_T42 l0 a1).f3)) := (blk_cell BK147.out 3).trans rfl
                                have hcz37_4 : wc.cell? ⟨gb147, 4, none⟩ = some (.int .i64 ((rd_T42 l0 a1).f4)) := (blk_cell BK147.out 4).trans rfl
                                have hfz37_0 := blk_frozen BK147.out 0
                                have hfz37_1 := blk_frozen BK147.out 1
                                have hfz37_2 := blk_frozen BK147.out 2
                                have hfz37_3 := blk_frozen BK147.out 3
                                have hfz37_4 := blk_frozen BK147.out 4
                                go_wp2
                                go_ret
                                exact ⟨by first | rfl | (simp [errW_none, errW_some] <;> rfl) | (simp [*, errW_none, errW_some] <;> rfl), by repeat (first | (with_reducible first | exact HB.out | apply below_alloc | apply pw_below_drewN | apply below_drew1 | refine below_set ?_ GE147.out) | exact HB.out)⟩
                            · rw [if_neg c34] at H
                              have c34b0 : decide (t148 < 2) = false := decide_eq_false c34
                              clear c34
                              by_cases c38 : ((rd_T42 l0 a1).f4) ≥ 0
                              · rw [if_pos c38] at H
                                have c38b0 : decide (0 ≤ ((rd_T42 l0 a1).f4)) = true := decide_eq_true c38
                                clear c38
                                obtain rfl := Option.some.inj H
                                have hcz39_0 : wc.cell? ⟨gb147, 0, none⟩ = some (.int .i64 ((rd_T42 l0 a1).f0)) := (blk_cell BK147.out 0).trans rfl
                                have hcz39_1 : wc.cell? ⟨gb147, 1, none⟩ = some (.string ((rd_T42 l0 a1).f1)) := (blk_cell BK147.out 1).trans rfl
                                have hcz39_2 : wc.cell? ⟨gb147, 2, none⟩ = some (.int .i64 ((rd_T42 l0 a1).f2)) := (blk_cell BK147.out 2).trans rfl
                                have hcz39_3 : wc.cell? ⟨gb147, 3, none⟩ = some (.int .i64 ((rd_T42 l0 a1).f3)) := (blk_cell BK147.out 3).trans rfl
                                have hcz39_4 : wc.cell? ⟨gb147, 4, none⟩ = some (.int .i64 ((rd_T42 l0 a1).f4)) := (blk_cell BK147.out 4).trans rfl
                                have hfz39_0 := blk_frozen BK147.out 0
                                have hfz39_1 := blk_frozen BK147.out 1
                                have hfz39_2 := blk_frozen BK147.out 2
                                have hfz39_3 := blk_frozen BK147.out 3
                                have hfz39_4 := blk_frozen BK147.out 4
                                go_wp2
                                go_ret
                                exact ⟨by first | rfl | (simp [errW_none, errW_some] <;> rfl) | (simp [*, errW_none, errW_some] <;> rfl), by repeat (first | (with_reducible first | exact HB.out | apply below_alloc | apply pw_below_drewN | apply below_drew1 | refine below_set ?_ GE147.out) | exact HB.out)⟩
                              · rw [if_neg c38] at H
                                have c38b0 : decide (0 ≤ ((rd_T42 l0 a1).f4)) = false := decide_eq_false c38
                                clear c38
                                obtain rfl := Option.some.inj H
                                have hcz40_0 : wc.cell? ⟨gb147, 0, none⟩ = some (.int .i64 ((rd_T42 l0 a1).f0)) := (blk_cell BK147.out 0).trans rfl
                                have hcz40_1 : wc.cell? ⟨gb147, 1, none⟩ = some (.string ((rd_T42 l0 a1).f1)) := (blk_cell BK147.out 1).trans rfl
                                have hcz40_2 : wc.cell? ⟨gb147, 2, none⟩ = some (.int .i64 ((rd_T42 l0 a1).f2)) := (blk_cell BK147.out 2).trans rfl
                                have hcz40_3 : wc.cell? ⟨gb147, 3, none⟩ = some (.int .i64 ((rd_T42 l0 a1).f3)) := (blk_cell BK147.out 3).trans rfl
                                have hcz40_4 : wc.cell? ⟨gb147, 4, none⟩ = some (.int .i64 ((rd_T42 l0 a1).f4)) := (blk_cell BK147.out 4).trans rfl
                                have hfz40_0 := blk_frozen BK147.out 0
                                have hfz40_1 := blk_frozen BK147.out 1
                                have hfz40_2 := blk_frozen BK147.out 2
                                have hfz40_3 := blk_frozen BK147.out 3
                                have hfz40_4 := blk_frozen BK147.out 4
                                go_wp2
                                go_ret
                                exact ⟨by first | rfl | (simp [errW_none, errW_some] <;> rfl) | (simp [*, errW_none, errW_some] <;> rfl), by repeat (first | (with_reducible first | exact HB.out | apply below_alloc | apply pw_below_drewN | apply below_drew1 | refine below_set ?_ GE147.out) | exact HB.out)⟩
                          · rw [if_neg c33] at H
                            have c33b0 : (((rd_T42 l0 a1).f3) == 0) = false := beq_eq_false_iff_ne.mpr c33
                            have c33b1 : (((rd_T42 l0 a1).f3) != 0) = true := bne_iff_ne.mpr c33
                            obtain rfl := Option.some.inj H
                            have hcz41_0 : wc.cell? ⟨gb147, 0, none⟩ = some (.int .i64 ((rd_T42 l0 a1).f0)) := (blk_cell BK147.out 0).trans rfl
                            have hcz41_1 : wc.cell? ⟨gb147, 1, none⟩ = some (.string ((rd_T42 l0 a1).f1)) := (blk_cell BK147.out 1).trans rfl
                            have hcz41_2 : wc.cell? ⟨gb147, 2, none⟩ = some (.int .i64 ((rd_T42 l0 a1).f2)) := (blk_cell BK147.out 2).trans rfl
                            have hcz41_3 : wc.cell? ⟨gb147, 3, none⟩ = some (.int .i64 ((rd_T42 l0 a1).f3)) := (blk_cell BK147.out 3).trans rfl
                            have hcz41_4 : wc.cell? ⟨gb147, 4, none⟩ = some (.int .i64 ((rd_T42 l0 a1).f4)) := (blk_cell BK147.out 4).trans rfl
                            have hfz41_0 := blk_frozen BK147.out 0
                            have hfz41_1 := blk_frozen BK147.out 1
                            have hfz41_2 := blk_frozen BK147.out 2
                            have hfz41_3 := blk_frozen BK147.out 3
                            have hfz41_4 := blk_frozen BK147.out 4
                            go_wp2
                            go_ret
                            exact ⟨by first | rfl | (simp [errW_none, errW_some] <;> rfl) | (simp [*, errW_none, errW_some] <;> rfl), by repeat (first | (with_reducible first | exact HB.out | apply below_alloc | apply pw_below_drewN | apply below_drew1 | refine below_set ?_ GE147.out) | exact HB.out)⟩
                        · rw [if_neg c32] at H
                          have c32b0 : decide (t148 < 1) = false := decide_eq_false c32
                          clear c32
                          by_cases c42 : t148 < 2
                          · rw [if_pos c42] at H
                            have c42b0 : decide (t148 < 2) = true := decide_eq_true c42
                            clear c42
                            by_cases c43 : ((rd_T42 l0 a1).f4) = 0
                            · rw [if_pos c43] at H
                              have c43b0 : (((rd_T42 l0 a1).f4) == 0) = true := beq_iff_eq.mpr c43
                              have c43b1 : (((rd_T42 l0 a1).f4) != 0) = false := bne_eq_false_iff_eq.mpr c43
                              clear c43
                              by_cases c44 : ((rd_T42 l0 a1).f3) ≥ 0
                              · rw [if_pos c44] at H
                                have c44b0 : decide (0 ≤ ((rd_T42 l0 a1).f3)) = true := decide_eq_true c44
                                clear c44
                                by_cases c45 : ((rd_T42 l0 a1).f3) < a1
                                · rw [if_pos c45] at H
                                  have c45b0 : decide (((rd_T42 l0 a1).f3) < a1) = true := decide_eq_true c45
                                  clear c45
                                  obtain rfl := Option.some.inj H
                                  have hcz46_0 : wc.cell? ⟨gb147, 0, none⟩ = some (.int .i64 ((rd_T42 l0 a1).f0)) := (blk_cell BK147.out 0).trans rfl
                                  have hcz46_1 : wc.cell? ⟨gb147, 1, none⟩ = some (.string ((rd_T42 l0 a1).f1)) := (blk_cell BK147.out 1).trans rfl
                                  have hcz46_2 : wc.cell? ⟨gb147, 2, none⟩ = some (.int .i64 ((rd_T42 l0 a1).f2)) := (blk_cell BK147.out 2).trans rfl
                                  have hcz46_3 : wc.cell? ⟨gb147, 3, none⟩ = some (.int .i64 ((rd_T42 l0 a1).f3)) := (blk_cell BK147.out 3).trans rfl
                                  have hcz46_4 : wc.cell? ⟨gb147, 4, none⟩ = some (.int .i64 ((rd_T42 l0 a1).f4)) := (blk_cell BK147.out 4).trans rfl
                                  have hfz46_0 := blk_frozen BK147.out 0
                                  have hfz46_1 := blk_frozen BK147.out 1
                                  have hfz46_2 := blk_frozen BK147.out 2
                                  have hfz46_3 := blk_frozen BK147.out 3
                                  have hfz46_4 := blk_frozen BK147.out 4
                                  go_wp2
                                  go_ret
                                  exact ⟨by first | rfl | (simp [errW_none, errW_some] <;> rfl) | (simp [*, errW_none, errW_some] <;> rfl), by repeat (first | (with_reducible first | exact HB.out | apply below_alloc | apply pw_below_drewN | apply below_drew1 | refine below_set ?_ GE147.out) | exact HB.out)⟩
                                · rw [if_neg c45] at H
                                  have c45b0 : decide (((rd_T42 l0 a1).f3) < a1) = false := decide_eq_false c45
                                  clear c45
                                  obtain rfl := Option.some.inj H
                                  have hcz47_0 : wc.cell? ⟨gb147, 0, none⟩ = some (.int .i64 ((rd_T42 l0 a1).f0)) := (blk_cell BK147.out 0).trans rfl
                                  have hcz47_1 : wc.cell? ⟨gb147, 1, none⟩ = some (.string ((rd_T42 l0 a1).f1)) := (blk_cell BK147.out 1).trans rfl
                                  have hcz47_2 : wc.cell? ⟨gb147, 2, none⟩ = some (.int .i64 ((rd_T42 l0 a1).f2)) := (blk_cell BK147.out 2).trans rfl
                                  have hcz47_3 : wc.cell? ⟨gb147, 3, none⟩ = some (.int .i64 ((rd_T42 l0 a1).f3)) := (blk_cell BK147.out 3).trans rfl
                                  have hcz47_4 : wc.cell? ⟨gb147, 4, none⟩ = some (.int .i64 ((rd_T42 l0 a1).f4)) := (blk_cell BK147.out 4).trans rfl
                                  have hfz47_0 := blk_frozen BK147.out 0
                                  have hfz47_1 := blk_frozen BK147.out 1
                                  have hfz47_2 := blk_frozen BK147.out 2
                                  have hfz47_3 := blk_frozen BK147.out 3
                                  have hfz47_4 := blk_frozen BK147.out 4
                                  go_wp2
                                  go_ret
                                  exact ⟨by first | rfl | (simp [errW_none, errW_some] <;> rfl) | (simp [*, errW_none, errW_some] <;> rfl), by repeat (first | (with_reducible first | exact HB.out | apply below_alloc | apply pw_below_drewN | apply below_drew1 | refine below_set ?_ GE147.out) | exact HB.out)⟩
                              · rw [if_neg c44] at H
                                have c44b0 : decide (0 ≤ ((rd_T42 l0 a1).f3)) = false := decide_eq_false c44
                                clear c44
                                obtain rfl := Option.some.inj H
                                have hcz48_0 : wc.cell? ⟨gb147, 0, none⟩ = some (.int .i64 ((rd_T42 l0 a1).f0)) := (blk_cell BK147.out 0).trans rfl
                                have hcz48_1 : wc.cell? ⟨gb147, 1, none⟩ = some (.string ((rd_T42 l0 a1).f1)) := (blk_cell BK147.out 1).trans rfl
                                have hcz48_2 : wc.cell? ⟨gb147, 2, none⟩ = some (.int .i64 ((rd_T42 l0 a1).f2)) := (blk_cell BK147.out 2).trans rfl
                                have hcz48_3 : wc.cell? ⟨gb147, 3, none⟩ = some (.int .i64 ((rd_T42 l0 a1).f3)) := (blk_cell BK147.out 3).trans rfl
                                have hcz48_4 : wc.cell? ⟨gb147, 4, none⟩ = some (.int .i64 ((rd_T42 l0 a1).f4)) := (blk_cell BK147.out 4).trans rfl
                                have hfz48_0 := blk_frozen BK147.out 0
                                have hfz48_1 := blk_frozen BK147.out 1
                                have hfz48_2 := blk_frozen BK147.out 2
                                have hfz48_3 := blk_frozen BK147.out 3
                                have hfz48_4 := blk_frozen BK147.out 4
                                go_wp2
                                go_ret
                                exact ⟨by first | rfl | (simp [errW_none, errW_some] <;> rfl) | (simp [*, errW_none, errW_some] <;> rfl), by repeat (first | (with_reducible first | exact HB.out | apply below_alloc | apply pw_below_drewN | apply below_drew1 | refine below_set ?_ GE147.out) | exact HB.out)⟩
                            · rw [if_neg c43] at H
                              have c43b0 : (((rd_T42 l0 a1).f4) == 0) = false := beq_eq_false_iff_ne.mpr c43
                              have c43b1 : (((rd_T42 l0 a1).f4) != 0) = true := bne_iff_ne.mpr c43
                              obtain rfl := Option.some.inj H
                              have hcz49_0 : wc.cell? ⟨gb147, 0, none⟩ = some (.int .i64 ((rd_T42 l0 a1).f0)) := (blk_cell BK147.out 0).trans rfl
                              have hcz49_1 : wc.cell? ⟨gb147, 1, none⟩ = some (.string ((rd_T42 l0 a1).f1)) := (blk_cell BK147.out 1).trans rfl
                              have hcz49_2 : wc.cell? ⟨gb147, 2, none⟩ = some (.int .i64 ((rd_T42 l0 a1).f2)) := (blk_cell BK147.out 2).trans rfl
                              have hcz49_3 : wc.cell? ⟨gb147, 3, none⟩ = some (.int .i64 ((rd_T42 l0 a1).f3)) := (blk_cell BK147.out 3).trans rfl
                              have hcz49_4 : wc.cell? ⟨gb147, 4, none⟩ = some (.int .i64 ((rd_T42 l0 a1).f4)) := (blk_cell BK147.out 4).trans rfl
                              have hfz49_0 := blk_frozen BK147.out 0
                              have hfz49_1 := blk_frozen BK147.out 1
                              have hfz49_2 := blk_frozen BK147.out 2
                              have hfz49_3 := blk_frozen BK147.out 3
                              have hfz49_4 := blk_frozen BK147.out 4
                              go_wp2
                              go_ret
                              exact ⟨by first | rfl | (simp [errW_none, errW_some] <;> rfl) | (simp [*, errW_none, errW_some] <;> rfl), by repeat (first | (with_reducible first | exact HB.out | apply below_alloc | apply pw_below_drewN | apply below_drew1 | refine below_set ?_ GE147.out) | exact HB.out)⟩
                          · rw [if_neg c42] at H
                            have c42b0 : decide (t148 < 2) = false := decide_eq_false c42
                            clear c42
                            by_cases c50 : ((rd_T42 l0 a1).f3) ≥ 0
                            · rw [if_pos c50] at H
                              have c50b0 : decide (0 ≤ ((rd_T42 l0 a1).f3)) = true := decide_eq_true c50
                              clear c50
                              by_cases c51 : ((rd_T42 l0 a1).f3) < a1
                              · rw [if_pos c51] at H
                                have c51b0 : decide (((rd_T42 l0 a1).f3) < a1) = true := decide_eq_true c51
                                clear c51
                                by_cases c52 : ((rd_T42 l0 a1).f4) ≥ 0
                                · rw [if_pos c52] at H
                                  have c52b0 : decide (0 ≤ ((rd_T42 l0 a1).f4)) = true := decide_eq_true c52
                                  clear c52
                                  obtain rfl := Option.some.inj H
                                  have hcz53_0 : wc.cell? ⟨gb147, 0, none⟩ = some (.int .i64 ((rd_T42 l0 a1).f0)) := (blk_cell BK147.out 0).trans rfl
                                  have hcz53_1 : wc.cell? ⟨gb147, 1, none⟩ = some (.string ((rd_T42 l0 a1).f1)) := (blk_cell BK147.out 1).trans rfl
                                  have hcz53_2 : wc.cell? ⟨gb147, 2, none⟩ = some (.int .i64 ((rd_T42 l0 a1).f2)) := (blk_cell BK147.out 2).trans rfl
                                  have hcz53_3 : wc.cell? ⟨gb147, 3, none⟩ = some (.int .i64 ((rd_T42 l0 a1).f3)) := (blk_cell BK147.out 3).trans rfl
                                  have hcz53_4 : wc.cell? ⟨gb147, 4, none⟩ = some (.int .i64 ((rd_T42 l0 a1).f4)) := (blk_cell BK147.out 4).trans rfl
                                  have hfz53_0 := blk_frozen BK147.out 0
                                  have hfz53_1 := blk_frozen BK147.out 1
                                  have hfz53_2 := blk_frozen BK147.out 2
                                  have hfz53_3 := blk_frozen BK147.out 3
                                  have hfz53_4 := blk_frozen BK147.out 4
                                  go_wp2
                                  go_ret
                                  exact ⟨by first | rfl | (simp [errW_none, errW_some] <;> rfl) | (simp [*, errW_none, errW_some] <;> rfl), by repeat (first | (with_reducible first | exact HB.out | apply below_alloc | apply pw_below_drewN | apply below_drew1 | refine below_set ?_ GE147.out) | exact HB.out)⟩
                                · rw [if_neg c52] at H
                                  have c52b0 : decide (0 ≤ ((rd_T42 l0 a1).f4)) = false := decide_eq_false c52
                                  clear c52
                                  obtain rfl := Option.some.inj H
                                  have hcz54_0 : wc.cell? ⟨gb147, 0, none⟩ = some (.int .i64 ((rd_T42 l0 a1).f0)) := (blk_cell BK147.out 0).trans rfl
                                  have hcz54_1 : wc.cell? ⟨gb147, 1, none⟩ = some (.string ((rd_T42 l0 a1).f1)) := (blk_cell BK147.out 1).trans rfl
                                  have hcz54_2 : wc.cell? ⟨gb147, 2, none⟩ = some (.int .i64 ((rd_T42 l0 a1).f2)) := (blk_cell BK147.out 2).trans rfl
                                  have hcz54_3 : wc.cell? ⟨gb147, 3, none⟩ = some (.int .i64 ((rd_T42 l0 a1).f3)) := (blk_cell BK147.out 3).trans rfl
                                  have hcz54_4 : wc.cell? ⟨gb147, 4, none⟩ = some (.int .i64 ((rd_T42 l0 a1).f4)) := (blk_cell BK147.out 4).trans rfl
                                  have hfz54_0 := blk_frozen BK147.out 0
                                  have hfz54_1 := blk_frozen BK147.out 1
                                  have hfz54_2 := blk_frozen BK147.out 2
                                  have hfz54_3 := blk_frozen BK147.out 3
                                  have hfz54_4 := blk_frozen BK147.out 4
                                  go_wp2
                                  go_ret
                                  exact ⟨by first | rfl | (simp [errW_none, errW_some] <;> rfl) | (simp [*, errW_none, errW_some] <;> rfl), by repeat (first | (with_reducible first | exact HB.out | apply below_alloc | apply pw_below_drewN | apply below_drew1 | refine below_set ?_ GE147.out) | exact HB.out)⟩
                              · rw [if_neg c51] at H
                                have c51b0 : decide (((rd_T42 l0 a1).f3) < a1) = false := decide_eq_false c51
                                clear c51
                                obtain rfl := Option.some.inj H
                                have hcz55_0 : wc.cell? ⟨gb147, 0, none⟩ = some (.int .i64 ((rd_T42 l0 a1).f0)) := (blk_cell BK147.out 0).trans rfl
                                have hcz55_1 : wc.cell? ⟨gb147, 1, none⟩ = some (.string ((rd_T42 l0 a1).f1)) := (blk_cell BK147.out 1).trans rfl
                                have hcz55_2 : wc.cell? ⟨gb147, 2, none⟩ = some (.int .i64 ((rd_T42 l0 a1).f2)) := (blk_cell BK147.out 2).trans rfl
                                have hcz55_3 : wc.cell? ⟨gb147, 3, none⟩ = some (.int .i64 ((rd_T42 l0 a1).f3)) := (blk_cell BK147.out 3).trans rfl
                                have hcz55_4 : wc.cell? ⟨gb147, 4, none⟩ = some (.int .i64 ((rd_T42 l0 a1).f4)) := (blk_cell BK147.out 4).trans rfl
                                have hfz55_0 := blk_frozen BK147.out 0
                                have hfz55_1 := blk_frozen BK147.out 1
                                have hfz55_2 := blk_frozen BK147.out 2
                                have hfz55_3 := blk_frozen BK147.out 3
                                have hfz55_4 := blk_frozen BK147.out 4
                                go_wp2
                                go_ret
                                exact ⟨by first | rfl | (simp [errW_none, errW_some] <;> rfl) | (simp [*, errW_none, errW_some] <;> rfl), by repeat (first | (with_reducible first | exact HB.out | apply below_alloc | apply pw_below_drewN | apply below_drew1 | refine below_set ?_ GE147.out) | exact HB.out)⟩
                            · rw [if_neg c50] at H
                              have c50b0 : decide (0 ≤ ((rd_T42 l0 a1).f3)) = false := decide_eq_false c50
                              clear c50
                              obtain rfl := Option.some.inj H
                              have hcz56_0 : wc.cell? ⟨gb147, 0, none⟩ = some (.int .i64 ((rd_T42 l0 a1).f0)) := (blk_cell BK147.out 0).trans rfl
                              have hcz56_1 : wc.cell? ⟨gb147, 1, none⟩ = some (.string ((rd_T42 l0 a1).f1)) := (blk_cell BK147.out 1).trans rfl
                              have hcz56_2 : wc.cell? ⟨gb147, 2, none⟩ = some (.int .i64 ((rd_T42 l0 a1).f2)) := (blk_cell BK147.out 2).trans rfl
                              have hcz56_3 : wc.cell? ⟨gb147, 3, none⟩ = some (.int .i64 ((rd_T42 l0 a1).f3)) := (blk_cell BK147.out 3).trans rfl
                              have hcz56_4 : wc.cell? ⟨gb147, 4, none⟩ = some (.int .i64 ((rd_T42 l0 a1).f4)) := (blk_cell BK147.out 4).trans rfl
                              have hfz56_0 := blk_frozen BK147.out 0
                              have hfz56_1 := blk_frozen BK147.out 1
                              have hfz56_2 := blk_frozen BK147.out 2
                              have hfz56_3 := blk_frozen BK147.out 3
                              have hfz56_4 := blk_frozen BK147.out 4
                              go_wp2
                              go_ret
                              exact ⟨by first | rfl | (simp [errW_none, errW_some] <;> rfl) | (simp [*, errW_none, errW_some] <;> rfl), by repeat (first | (with_reducible first | exact HB.out | apply below_alloc | apply pw_below_drewN | apply below_drew1 | refine below_set ?_ GE147.out) | exact HB.out)⟩
    · rw [if_neg c4] at H
      exact absurd H (by simp)
  · rw [if_neg c3] at H
    exact absurd H (by simp)
end Go.Proofs.Ythmmdmnbcecooaa.A
end

section
namespace Go.Proofs.Ythmmdmnbcecooaa.A
open Go.RowKit Go.Proofs.YthmmdmnbcecooaaW.PrintWords Go.Proofs.YthmmdmnbcecooaaW.PrintLast Go.Proofs.YthmmdmnbcecooaaW.PrintMore
attribute [local go_sem] max2_int max_two
set_option linter.unusedVariables false
set_option linter.unusedSimpArgs false
mutual
def koineref25_Check.l0 : Nat → List (S42) → List Int → Int → Option (Int)
  | 0, _, _, _ => none
  | k + 1, x0, x3, x4 => if x4 < (x0.length : Int) then ((koineref25_valid.f k x0 x4).bind fun t152 => (if t152 = true then (if 0 ≤ x4 then ((koineref25_operands.f ((rd_T42 x0 x4).f0)).bind fun t154 => (if t154 ≥ 1 then (if 0 ≤ ((rd_T42 x0 x4).f3) then (if ((rd_T42 x0 x4).f3) < (x3.length : Int) then ((some (x3.set (((rd_T42 x0 x4).f3) : Int).toNat (wrap64 ((rd x3 ((rd_T42 x0 x4).f3)) + 1)) : List Int)).bind fun y157 => ((koineref25_operands.f ((rd_T42 x0 x4).f0)).bind fun t159 => (if t159 ≥ 2 then (if 0 ≤ ((rd_T42 x0 x4).f4) then (if ((rd_T42 x0 x4).f4) < (x3.length : Int) then (koineref25_Check.l0 k x0 (y157.set (((rd_T42 x0 x4).f4) : Int).toNat (wrap64 ((rd y157 ((rd_T42 x0 x4).f4)) + 1))) (wrap64 (x4 + 1))) else (none)) else (none)) else (koineref25_Check.l0 k x0 y157 (wrap64 (x4 + 1)))))) else (none)) else (none)) else ((koineref25_operands.f ((rd_T42 x0 x4).f0)).bind fun t164 => (if t164 ≥ 2 then (if 0 ≤ ((rd_T42 x0 x4).f4) then (if ((rd_T42 x0 x4).f4) < (x3.length : Int) then (koineref25_Check.l0 k x0 (x3.set (((rd_T42 x0 x4).f4) : Int).toNat (wrap64 ((rd x3 ((rd_T42 x0 x4).f4)) + 1))) (wrap64 (x4 + 1))) else (none)) else (none)) else (koineref25_Check.l0 k x0 x3 (wrap64 (x4 + 1))))))) else (none)) else (some 250))) else (koineref25_Check.l1 k x0 x3 0)
def koineref25_Check.l1 : Nat → List (S42) → List Int → Int → Option (Int)
  | 0, _, _, _ => none
  | k + 1, x0, x3, x5 => if x5 < (wrap64 ((x0.length : Int) - 1)) then (if 0 ≤ x5 then (if x5 < (x3.length : Int) then (if (rd x3 x5) = 1 then (koineref25_Check.l1 k x0 x3 (wrap64 (x5 + 1))) else (some 250)) else (none)) else (none)) else (if (x0.length : Int) = 0 then (some 250) else (some 0))
end
def koineref25_Check.f (k : Nat) (l0 : List (S42)) : Option (Int) := if (l0.length : Int) > 65536 then (some 2) else (if 0 ≤ (l0.length : Int) then (if ((l0.length : Int) : Int).toNat ≤ 35184372088832 then (koineref25_Check.l0 k l0 (List.replicate ((l0.length : Int) : Int).toNat 0) 0) else (none)) else (none))
set_option maxHeartbeats 8000000 in
set_option maxRecDepth 100000 in
theorem koineref25_Check.calls (k : Nat) (A0 : Option Addr) (c0 : Nat) (l0 : List (S42)) (r : Int) (w : World) (hr0 : Kd.C k42 w A0 l0.length l0) (hc0 : l0.length ≤ c0) (h : koineref25_Check.f k l0 = some r) :
    Calls Try.prog 31 #[.slice A0 l0.length c0] w fun e w' => e = .returned (.int .i64 r) ∧ Below w.heap.size w w' := by
  have HR0 := Aside0.mk hr0
  have HC0 := Aside0.mk hc0
  clear hr0 hc0
  have HB := Aside0.mk (Below.refl w.heap.size w)
  have H : (if (l0.length : Int) > 65536 then (some 2) else (if 0 ≤ (l0.length : Int) then (if ((l0.length : Int) : Int).toNat ≤ 35184372088832 then (koineref25_Check.l0 k l0 (List.replicate ((l0.length : Int) : Int).toNat 0) 0) else (none)) else (none))) = some r := h
  clear h
  by_cases c2 : (l0.length : Int) > 65536
  · rw [if_pos c2] at H
    have c2b0 : decide (65536 < (l0.length : Int)) = true := decide_eq_true c2
    have c2b1 : decide (65536 < l0.length) = true := decide_eq_true (by omega)
    clear c2
    obtain rfl := Option.some.inj H
    go_enter Try.func31, Try.ntmps31
    go_wp2
    go_ret
    exact ⟨by first | rfl | (simp [errW_none, errW_some] <;> rfl) | (simp [*, errW_none, errW_some] <;> rfl), by repeat (first | (with_reducible first | exact HB.out | apply below_alloc | apply pw_below_drewN | apply below_drew1) | exact HB.out)⟩
  · rw [if_neg c2] at H
    have c2b0 : decide (65536 < (l0.length : Int)) = false := decide_eq_false c2
    have c2b1 : decide (65536 < l0.length) = false := decide_eq_false (by omega)
    clear c2
    by_cases c3 : 0 ≤ (l0.length : Int)
    · rw [if_pos c3] at H
      have c3b0 := eq_true c3
      have c3b1 : decide (0 ≤ (l0.length : Int)) = true := decide_eq_true c3
      clear c3
      by_cases c4 : ((l0.length : Int) : Int).toNat ≤ 35184372088832
      · rw [if_pos c4] at H
        have c4b0 := eq_true c4
        have c4b1 : decide (((l0.length : Int) : Int).toNat ≤ 35184372088832) = true := decide_eq_true c4
        clear c4
        obtain ⟨y149, hy149⟩ : ∃ y_ : List Int, y_ = (List.replicate ((l0.length : Int) : Int).toNat 0) := ⟨_, rfl⟩
        replace H : (koineref25_Check.l0 k l0 y149 0) = some r := by first | (rw [hy149]; with_reducible exact H) | (have H2_ := (Option.bind_some _ _).symm.trans H; rw [hy149]; with_reducible exact H2_) | (have H2_ := (Option.bind_some _ _).symm.trans H; with_reducible exact H2_) | with_reducible exact H | (rw [hy149]; exact H) | exact H
        have Ny149 := Aside0.mk hy149
        clear hy149
        have H' := Aside0.mk H
        clear H
        go_enter Try.func31, Try.ntmps31
        go_wp2_with (first | ((with_reducible refine gate_dst (N := 11) rfl ?_); refine Kd.R_make (Kd.int .i64) _ 3 rfl (N := 11) rfl 28 _ _ rfl (l0.length : Int) rfl rfl Try.underlying28 (.int .i64 0) 8 info3 rfl (by decide) (by omega) 0 (ok := fun _ => True) (okp := fun _ => True) rfl (fun _ hk => hk) trivial (of_decide_eq_true (by first | (with_reducible assumption) | assumption)) (Nat.le_trans (Nat.mul_le_mul_right _ (of_decide_eq_true (by first | (with_reducible assumption) | assumption) : (l0.length : Int).toNat ≤ 35184372088832)) (by omega)) (Below.refl _ _) (Nat.le_refl _) ?_; intro v150 w5 ho6 hb hg_ hnew_; clear hg_ hnew_; (first | rw [← Ny149.out] at ho6 | (simp only [Int.reduceToNat] at ho6; rw [← Ny149.out] at ho6)); have n0_ := Aside0.mk (Kd.R_lower ho6 (below_size (by repeat (first | (with_reducible first | exact HB.out | apply below_alloc | apply pw_below_drewN | apply below_drew1) | exact HB.out)))); have n1_ := Aside0.mk (below_step (by repeat (first | (with_reducible first | exact HB.out | apply below_alloc | apply pw_below_drewN | apply below_drew1) | exact HB.out)) hb); clear HB; have HO151 := n0_; have HB := n1_; clear n0_ n1_; clear hb ho6))
        go_loopg [4] k (fun kq v4 w' => ∃ (x3_1 : List Int) (x4_1 : Int), v4 = .int .i64 x4_1 ∧ Aside0 (koineref25_Check.l0 kq l0 x3_1 x4_1 = some r) ∧ Aside0 (kq ≤ k) ∧ Aside0 (Kd.R (Kd.int .i64) 3 w' w.heap.size (fun _ => True) v150 x3_1) ∧ Aside0 (Below w.heap.size w w'))
        case atStart => exact ⟨(y149), (0), (by first | rfl | (simp; done) | (simp [*]; done)), H', ⟨Nat.le_refl _⟩, ⟨by (with_reducible repeat (first | apply Kd.R_alloc | apply Kd.R_drewN | apply Kd.R_drew)); exact HO151.out⟩, ⟨by repeat (first | (with_reducible first | exact HB.out | apply below_alloc | apply pw_below_drewN | apply below_drew1) | exact HB.out)⟩⟩
        case round =>
          clear H'
          try clear c2
          try clear c2b0
          try clear c2b1
          try clear p2
          try clear c3
          try clear c3b0
          try clear c3b1
          try clear c4
          try clear c4b0
          try clear c4b1
          obtain ⟨x3_1, x4_1, rfl, HA, HK1, HO_3, HB⟩ := hrel
          cases gk with
          | zero => exact absurd HA.out (by simp [koineref25_Check.l0])
          | succ k1 =>
            have H := HA.out
            clear HA
            simp only [koineref25_Check.l0] at H
            by_cases c7 : x4_1 < (l0.length : Int)
            · rw [if_pos c7] at H
              have c7b0 : decide (x4_1 < (l0.length : Int)) = true := decide_eq_true c7
              clear c7
              replace H := Option.bind_eq_some_iff.mp H
              obtain ⟨t152, A80, H⟩ := H
              replace H : (if t152 = true then (if 0 ≤ x4_1 then ((koineref25_operands.f ((rd_T42 l0 x4_1).f0)).bind fun t154 => (if t154 ≥ 1 then (if 0 ≤ ((rd_T42 l0 x4_1).f3) then (if ((rd_T42 l0 x4_1).f3) < (x3_1.length : Int) then ((some (x3_1.set (((rd_T42 l0 x4_1).f3) : Int).toNat (wrap64 ((rd x3_1 ((rd_T42 l0 x4_1).f3)) + 1)) : List Int)).bind fun y157 => ((koineref25_operands.f ((rd_T42 l0 x4_1).f0)).bind fun t159 => (if t159 ≥ 2 then (if 0 ≤ ((rd_T42 l0 x4_1).f4) then (if ((rd_T42 l0 x4_1).f4) < (x3_1.length : Int) then (koineref25_Check.l0 k1 l0 (y157.set (((rd_T42 l0 x4_1).f4) : Int).toNat (wrap64 ((rd y157 ((rd_T42 l0 x4_1).f4)) + 1))) (wrap64 (x4_1 + 1))) else (none)) else (none)) else (koineref25_Check.l0 k1 l0 y157 (wrap64 (x4_1 + 1)))))) else (none)) else (none)) else ((koineref25_operands.f ((rd_T42 l0 x4_1).f0)).bind fun t164 => (if t164 ≥ 2 then (if 0 ≤ ((rd_T42 l0 x4_1).f4) then (if ((rd_T42 l0 x4_1).f4) < (x3_1.length : Int) then (koineref25_Check.l0 k1 l0 (x3_1.set (((rd_T42 l0 x4_1).f4) : Int).toNat (wrap64 ((rd x3_1 ((rd_T42 l0 x4_1).f4)) + 1))) (wrap64 (x4_1 + 1))) else (none)) else (none)) else (koineref25_Check.l0 k1 l0 x3_1 (wrap64 (x4_1 + 1))))))) else (none)) else (some 250)) = some r := H
              have A8 := Aside0.mk A80
              clear A80
              by_cases c9 : t152 = true
              · subst c9
                have H1 : (if 0 ≤ x4_1 then ((koineref25_operands.f ((rd_T42 l0 x4_1).f0)).bind fun t154 => (if t154 ≥ 1 then (if 0 ≤ ((rd_T42 l0 x4_1).f3) then (if ((rd_T42 l0 x4_1).f3) < (x3_1.length : Int) then ((some (x3_1.set (((rd_T42 l0 x4_1).f3) : Int).toNat (wrap64 ((rd x3_1 ((rd_T42 l0 x4_1).f3)) + 1)) : List Int)).bind fun y157 => ((koineref25_operands.f ((rd_T42 l0 x4_1).f0)).bind fun t159 => (if t159 ≥ 2 then (if 0 ≤ ((rd_T42 l0 x4_1).f4) then (if ((rd_T42 l0 x4_1).f4) < (x3_1.length : Int) then (koineref25_Check.l0 k1 l0 (y157.set (((rd_T42 l0 x4_1).f4) : Int).toNat (wrap64 ((rd y157 ((rd_T42 l0 x4_1).f4)) + 1))) (wrap64 (x4_1 + 1))) else (none)) else (none)) else (koineref25_Check.l0 k1 l0 y157 (wrap64 (x4_1 + 1)))))) else (none)) else (none)) else ((koineref25_operands.f ((rd_T42 l0 x4_1).f0)).bind fun t164 => (if t164 ≥ 2 then (if 0 ≤ ((rd_T42 l0 x4_1).f4) then (if ((rd_T42 l0 x4_1).f4) < (x3_1.length : Int) then (koineref25_Check.l0 k1 l0 (x3_1.set (((rd_T42 l0 x4_1).f4) : Int).toNat (wrap64 ((rd x3_1 ((rd_T42 l0 x4_1).f4)) + 1))) (wrap64 (x4_1 + 1))) else (none)) else (none)) else (koineref25_Check.l0 k1 l0 x3_1 (wrap64 (x4_1 + 1))))))) else (none)) = some r := by rw [if_pos rfl] at H; exact H
                clear H
                have H := H1
                clear H1
                by_cases c10 : 0 ≤ x4_1
                · rw [if_pos c10] at H
                  have c10b0 : decide (0 ≤ x4_1) = true := decide_eq_true c10
                  clear c10
                  replace H := Option.bind_eq_some_iff.mp H
                  obtain ⟨t154, A110, H⟩ := H
                  replace H : (if t154 ≥ 1 then (if 0 ≤ ((rd_T42 l0 x4_1).f3) then (if ((rd_T42 l0 x4_1).f3) < (x3_1.length : Int) then ((some (x3_1.set (((rd_T42 l0 x4_1).f3) : Int).toNat (wrap64 ((rd x3_1 ((rd_T42 l0 x4_1).f3)) + 1)) : List Int)).bind fun y157 => ((koineref25_operands.f ((rd_T42 l0 x4_1).f0)).bind fun t159 => (if t159 ≥ 2 then (if 0 ≤ ((rd_T42 l0 x4_1).f4) then (if ((rd_T42 l0 x4_1).f4) < (x3_1.length : Int) then (koineref25_Check.l0 k1 l0 (y157.set (((rd_T42 l0 x4_1).f4) : Int).toNat (wrap64 ((rd y157 ((rd_T42 l0 x4_1).f4)) + 1))) (wrap64 (x4_1 + 1))) else (none)) else (none)) else (koineref25_Check.l0 k1 l0 y157 (wrap64 (x4_1 + 1)))))) else (none)) else (none)) else ((koineref25_operands.f ((rd_T42 l0 x4_1).f0)).bind fun t164 => (if t164 ≥ 2 then (if 0 ≤ ((rd_T42 l0 x4_1).f4) then (if ((rd_T42 l0 x4_1).f4) < (x3_1.length : Int) then (koineref25_Check.l0 k1 l0 (x3_1.set (((rd_T42 l0 x4_1).f4) : Int).toNat (wrap64 ((rd x3_1 ((rd_T42 l0 x4_1).f4)) + 1))) (wrap64 (x4_1 + 1))) else (none)) else (none)) else (koineref25_Check.l0 k1 l0 x3_1 (wrap64 (x4_1 + 1)))))) = some r := H
                  have A11 := Aside0.mk A110
                  clear A110
                  by_cases c12 : t154 ≥ 1
                  · rw [if_pos c12] at H
                    have c12b0 : decide (1 ≤ t154) = true := decide_eq_true c12
                    clear c12
                    by_cases c13 : 0 ≤ ((rd_T42 l0 x4_1).f3)
                    · rw [if_pos c13] at H
                      have c13b0 : decide (0 ≤ ((rd_T42 l0 x4_1).f3)) = true := decide_eq_true c13
                      clear c13
                      by_cases c14 : ((rd_T42 l0 x4_1).f3) < (x3_1.length : Int)
                      · rw [if_pos c14] at H
                        have c14b0 : decide (((rd_T42 l0 x4_1).f3) < (x3_1.length : Int)) = true := decide_eq_true c14
                        clear c14
                        obtain ⟨y157, hy157⟩ : ∃ y_ : List Int, y_ = (x3_1.set (((rd_T42 l0 x4_1).f3) : Int).toNat (wrap64 ((rd x3_1 ((rd_T42 l0 x4_1).f3)) + 1))) := ⟨_, rfl⟩
                        replace H : ((koineref25_operands.f ((rd_T42 l0 x4_1).f0)).bind fun t159 => (if t159 ≥ 2 then (if 0 ≤ ((rd_T42 l0 x4_1).f4) then (if ((rd_T42 l0 x4_1).f4) < (x3_1.length : Int) then (koineref25_Check.l0 k1 l0 (y157.set (((rd_T42 l0 x4_1).f4) : Int).toNat (wrap64 ((rd y157 ((rd_T42 l0 x4_1).f4)) + 1))) (wrap64 (x4_1 + 1))) else (none)) else (none)) else (koineref25_Check.l0 k1 l0 y157 (wrap64 (x4_1 + 1))))) = some r := by first | (rw [hy157]; with_reducible exact H) | (have H2_ := (Option.bind_some _ _).symm.trans H; rw [hy157]; with_reducible exact H2_) | (have H2_ := (Option.bind_some _ _).symm.trans H; with_reducible exact H2_) | with_reducible exact H | (rw [hy157]; exact H) | exact H
                        have Ny157 := Aside0.mk hy157
                        clear hy157
                        replace H := Option.bind_eq_some_iff.mp H
                        obtain ⟨t159, A160, H⟩ := H
                        replace H : (if t159 ≥ 2 then (if 0 ≤ ((rd_T42 l0 x4_1).f4) then (if ((rd_T42 l0 x4_1).f4) < (x3_1.length : Int) then (koineref25_Check.l0 k1 l0 (y157.set (((rd_T42 l0 x4_1).f4) : Int).toNat (wrap64 ((rd y157 ((rd_T42 l0 x4_1).f4)) + 1))) (wrap64 (x4_1 + 1))) else (none)) else (none)) else (koineref25_Check.l0 k1 l0 y157 (wrap64 (x4_1 + 1)))) = some r := H
                        have A16 := Aside0.mk A160
                        clear A160
                        by_cases c17 : t159 ≥ 2
                        · rw [if_pos c17] at H
                          have c17b0 : decide (2 ≤ t159) = true := decide_eq_true c17
                          clear c17
                          by_cases c18 : 0 ≤ ((rd_T42 l0 x4_1).f4)
                          · rw [if_pos c18] at H
                            have c18b0 : decide (0 ≤ ((rd_T42 l0 x4_1).f4)) = true := decide_eq_true c18
                            clear c18
                            by_cases c19 : ((rd_T42 l0 x4_1).f4) < (x3_1.length : Int)
                            · rw [if_pos c19] at H
                              have c19b0 : decide (((rd_T42 l0 x4_1).f4) < (x3_1.length : Int)) = true := decide_eq_true c19
                              clear c19
                              obtain ⟨y162, hy162⟩ : ∃ y_ : List Int, y_ = (y157.set (((rd_T42 l0 x4_1).f4) : Int).toNat (wrap64 ((rd y157 ((rd_T42 l0 x4_1).f4)) + 1))) := ⟨_, rfl⟩
                              replace H : (koineref25_Check.l0 k1 l0 y162 (wrap64 (x4_1 + 1))) = some r := by first | (rw [hy162]; with_reducible exact H) | (have H2_ := (Option.bind_some _ _).symm.trans H; rw [hy162]; with_reducible exact H2_) | (have H2_ := (Option.bind_some _ _).symm.trans H; with_reducible exact H2_) | with_reducible exact H | (rw [hy162]; exact H) | exact H
                              have Ny162 := Aside0.mk hy162
                              clear hy162
                              have H' := Aside0.mk H
                              clear H
                              go_wp2_with (first | ((with_reducible refine gate_callee (f := 59) rfl ?_); refine goesL_ (some 20) rfl rfl Try.func59 (by kernel_rfl) rfl #[.slice A0 l0.length c0, .int .i64 x4_1] rfl (by (try simp only [List.map_toArray, List.map_cons, List.map_nil]); first | done | rfl | (simp only [List.length_drop, List.length_take]; rfl)) ?_; (with_reducible refine (koineref25_valid.calls k1 _ _ l0 x4_1 true _ ?side1 ?side2 A8.out).mono ?_); (case side1 => repeat (first | exact (Kd.C_below HR0.out HB.out) | (with_reducible refine Kd.C_alloc ?_ _) | (with_reducible refine Kd.C_drewN ?_ _) | (with_reducible refine Kd.C_drew ?_))); (case side2 => exact HC0.out); rintro e w21 ⟨rfl, hb⟩; refine ⟨_, rfl, ?_⟩; have n0_ := Aside0.mk (Kd.R_below (by (with_reducible repeat (first | apply Kd.R_alloc | apply Kd.R_drewN | apply Kd.R_drew)); exact HO_3.out) hb); have n1_ := Aside0.mk (below_step (by repeat (first | (with_reducible first | exact HB.out | apply below_alloc | apply pw_below_drewN | apply below_drew1) | exact HB.out)) hb); clear HO_3; clear HB; have HO_3 := n0_; have HB := n1_; clear n0_ n1_; (try clear hb); (try clear hb2); (try clear hk); (try clear hi); have p153 : 0 ≤ (x4_1 : Int) := of_decide_eq_true (by first | (with_reducible assumption) | assumption); have q153 : x4_1 < (l0.length : Int) := of_decide_eq_true (by first | (with_reducible assumption) | assumption); obtain ⟨ad153, e153, hx153_0, hx153_1, hx153_2, hx153_3, hx153_4⟩ := at_T42 HR0.out x4_1 p153 q153; cases e153; replace hx153_0 := (HB.out.cell (World.block_lt_of_cell? w _ hx153_0)).trans hx153_0; replace hx153_1 := (HB.out.cell (World.block_lt_of_cell? w _ hx153_1)).trans hx153_1; replace hx153_2 := (HB.out.cell (World.block_lt_of_cell? w _ hx153_2)).trans hx153_2; replace hx153_3 := (HB.out.cell (World.block_lt_of_cell? w _ hx153_3)).trans hx153_3; replace hx153_4 := (HB.out.cell (World.block_lt_of_cell? w _ hx153_4)).trans hx153_4; replace p153 := eq_true p153; replace q153 := eq_true q153) | ((with_reducible refine gate_callee (f := 60) rfl ?_); refine goesL_ (some 27) rfl rfl Try.func60 (by kernel_rfl) rfl #[.int .i64 ((rd_T42 l0 x4_1).f0)] rfl (by (try simp only [List.map_toArray, List.map_cons, List.map_nil]); first | done | rfl | (simp only [List.length_drop, List.length_take]; rfl)) ?_; (with_reducible refine (koineref25_operands.calls ((rd_T42 l0 x4_1).f0) t154 _ A11.out).mono ?_); rintro e w' ⟨rfl, ⟨nd, rfl⟩⟩; refine ⟨_, rfl, ?_⟩; (try (rw [drewN_self w21]; generalize hq_ : World.drewN w21 _ = w21; have n0_ : Aside0 (Kd.R (Kd.int .i64) 3 w21 w.heap.size (fun _ => True) v150 x3_1) := ⟨by rw [← hq_]; exact (by (with_reducible repeat (first | apply Kd.R_alloc | apply Kd.R_drewN | apply Kd.R_drew)); exact HO_3.out)⟩; have n1_ : Aside0 (Below w.heap.size w w21) := ⟨by rw [← hq_]; exact (by repeat (first | (with_reducible first | exact HB.out | apply below_alloc | apply pw_below_drewN | apply below_drew1) | exact HB.out))⟩; clear HO_3 HB hq_; have HO_3 := n0_; have HB := n1_; clear n0_ n1_)); have p155 : 0 ≤ (x4_1 : Int) := of_decide_eq_true (by first | (with_reducible assumption) | assumption); have q155 : x4_1 < (l0.length : Int) := of_decide_eq_true (by first | (with_reducible assumption) | assumption); obtain ⟨ad155, e155, hx155_0, hx155_1, hx155_2, hx155_3, hx155_4⟩ := at_T42 HR0.out x4_1 p155 q155; obtain rfl : ad153 = ad155 := (by injection e155); replace hx155_0 := (HB.out.cell (World.block_lt_of_cell? w _ hx155_0)).trans hx155_0; replace hx155_1 := (HB.out.cell (World.block_lt_of_cell? w _ hx155_1)).trans hx155_1; replace hx155_2 := (HB.out.cell (World.block_lt_of_cell? w _ hx155_2)).trans hx155_2; replace hx155_3 := (HB.out.cell (World.block_lt_of_cell? w _ hx155_3)).trans hx155_3; replace hx155_4 := (HB.out.cell (World.block_lt_of_cell? w _ hx155_4)).trans hx155_4; replace p155 := eq_true p155; replace q155 := eq_true q155; obtain ⟨Ao22, co22, eo22⟩ := Kd.R_slice HO_3.out; subst eo22; have p156 : 0 ≤ (((rd_T42 l0 x4_1).f3) : Int) := of_decide_eq_true (by first | (with_reducible assumption) | assumption); have q156 : ((rd_T42 l0 x4_1).f3) < (x3_1.length : Int) := of_decide_eq_true (by first | (with_reducible assumption) | assumption); obtain ⟨ad156, e156, hx156_0⟩ := Kd.at_int (Kd.R_reads' HO_3.out).2.2 ((rd_T42 l0 x4_1).f3) p156 q156; cases e156; replace p156 := eq_true p156; replace q156 := eq_true q156; have p15 : 0 ≤ (((rd_T42 l0 x4_1).f3) : Int) := of_decide_eq_true (by first | (with_reducible assumption) | assumption); have q15 : (((rd_T42 l0 x4_1).f3) : Int) < ((x3_1.length : Int) : Int) := of_decide_eq_true (by first | (with_reducible assumption) | assumption); obtain ⟨go15, co15, eo15, gb15, gl15, cl15, HG15⟩ := Kd.R_form HO_3.out (by omega); (first | cases eo15 | (injection eo15 with ea_ en_ ec_; (first | subst ea_ | (injection ea_ with ea_; subst ea_)); subst ec_; clear en_)); have GB15 := Aside0.mk gb15; have GG15 := Aside0.mk HG15; clear gb15 gl15 HG15; (first | simp only [add_plain] at hx156_0 | skip); obtain ⟨hx15_0, hf15_0⟩ := Kd.R_celln 0 HO_3.out (((rd_T42 l0 x4_1).f3) : Int) p15 q15; replace p15 := eq_true p15; replace q15 := eq_true q15; obtain ⟨hy23_, hz23_⟩ := Kd.R_celln 0 HO_3.out (((rd_T42 l0 x4_1).f3) : Int) (of_decide_eq_true (by first | (with_reducible assumption) | assumption)) (of_decide_eq_true (by first | (with_reducible assumption) | assumption)); have HP23 := Kd.R_putg HO_3.out (((rd_T42 l0 x4_1).f3) : Int) (wrap64 ((rd x3_1 ((rd_T42 l0 x4_1).f3)) + 1))) | ((with_reducible refine gate_store (t := 3) (p := 38) rfl ?_); refine store_event (t := 3) (p := 38) (v := ?vo_w24) (w1 := (w21.setCell ⟨go15, (((rd_T42 l0 x4_1).f3) : Int).toNat, none⟩ (.int .i64 (wrap64 ((rd x3_1 ((rd_T42 l0 x4_1).f3)) + 1))))) ?hg ?ho ?hn ?hr ?_; (case ho => rfl); (case hg => rfl); (case hn => rfl); (case hr => first | (go_simp; done) | (go_simp; rfl)); intro w24 hw; have hg : w21.grownBy w24 (some go15) := (by rw [hw]; exact HP23.2); have hp_ : Kd.R (Kd.int .i64) 3 w24 w.heap.size (fun _ => True) (.slice (some ⟨go15, 0, none⟩) x3_1.length co22) y157 := (by rw [hw, Ny157.out]; exact HP23.1); clear HP23; have n0_ := Aside0.mk (hp_); have n1_ := Aside0.mk ((by rw [hw]; exact below_set (HB.out) GB15.out : Below w.heap.size w w24)); clear HO_3; clear HB; have HO_3 := n0_; have HB := n1_; clear n0_ n1_; clear hg hw hp_; have p158 : 0 ≤ (x4_1 : Int) := of_decide_eq_true (by first | (with_reducible assumption) | assumption); have q158 : x4_1 < (l0.length : Int) := of_decide_eq_true (by first | (with_reducible assumption) | assumption); obtain ⟨ad158, e158, hx158_0, hx158_1, hx158_2, hx158_3, hx158_4⟩ := at_T42 HR0.out x4_1 p158 q158; obtain rfl : ad153 = ad158 := (by injection e158); replace hx158_0 := (HB.out.cell (World.block_lt_of_cell? w _ hx158_0)).trans hx158_0; replace hx158_1 := (HB.out.cell (World.block_lt_of_cell? w _ hx158_1)).trans hx158_1; replace hx158_2 := (HB.out.cell (World.block_lt_of_cell? w _ hx158_2)).trans hx158_2; replace hx158_3 := (HB.out.cell (World.block_lt_of_cell? w _ hx158_3)).trans hx158_3; replace hx158_4 := (HB.out.cell (World.block_lt_of_cell? w _ hx158_4)).trans hx158_4; replace p158 := eq_true p158; replace q158 := eq_true q158) | ((with_reducible refine gate_callee (f := 60) rfl ?_); refine goesL_ (some 44) rfl rfl Try.func60 (by kernel_rfl) rfl #[.int .i64 ((rd_T42 l0 x4_1).f0)] rfl (by (try simp only [List.map_toArray, List.map_cons, List.map_nil]); first | done | rfl | (simp only [List.length_drop, List.length_take]; rfl)) ?_; (with_reducible refine (koineref25_operands.calls ((rd_T42 l0 x4_1).f0) t159 _ A16.out).mono ?_); rintro e w' ⟨rfl, ⟨nd, rfl⟩⟩; refine ⟨_, rfl, ?_⟩; (try (rw [drewN_self w24]; generalize hq_ : World.drewN w24 _ = w24; have n0_ : Aside0 (Kd.R (Kd.int .i64) 3 w24 w.heap.size (fun _ => True) (.slice (some ⟨go15, 0, none⟩) x3_1.length co22) y157) := ⟨by rw [← hq_]; exact (by (with_reducible repeat (first | apply Kd.R_alloc | apply Kd.R_drewN | apply Kd.R_drew)); exact HO_3.out)⟩; have n1_ : Aside0 (Below w.heap.size w w24) := ⟨by rw [← hq_]; exact (by repeat (first | (with_reducible first | exact HB.out | apply below_alloc | apply pw_below_drewN | apply below_drew1) | exact HB.out))⟩; clear HO_3 HB hq_; have HO_3 := n0_; have HB := n1_; clear n0_ n1_)); have p160 : 0 ≤ (x4_1 : Int) := of_decide_eq_true (by first | (with_reducible assumption) | assumption); have q160 : x4_1 < (l0.length : Int) := of_decide_eq_true (by first | (with_reducible assumption) | assumption); obtain ⟨ad160, e160, hx160_0, hx160_1, hx160_2, hx160_3, hx160_4⟩ := at_T42 HR0.out x4_1 p160 q160; obtain rfl : ad153 = ad160 := (by injection e160); replace hx160_0 := (HB.out.cell (World.block_lt_of_cell? w _ hx160_0)).trans hx160_0; replace hx160_1 := (HB.out.cell (World.block_lt_of_cell? w _ hx160_1)).trans hx160_1; replace hx160_2 := (HB.out.cell (World.block_lt_of_cell? w _ hx160_2)).trans hx160_2; replace hx160_3 := (HB.out.cell (World.block_lt_of_cell? w _ hx160_3)).trans hx160_3; replace hx160_4 := (HB.out.cell (World.block_lt_of_cell? w _ hx160_4)).trans hx160_4; replace p160 := eq_true p160; replace q160 := eq_true q160; have p161 : 0 ≤ (((rd_T42 l0 x4_1).f4) : Int) := of_decide_eq_true (by first | (with_reducible assumption) | assumption); have q161 : ((rd_T42 l0 x4_1).f4) < (y157.length : Int) := (by have h_ : (((rd_T42 l0 x4_1).f4) : Int) < ((x3_1.length : Int) : Int) := of_decide_eq_true (by first | (with_reducible assumption) | assumption); first | (have e_ := (Kd.R_reads' HO_3.out).1; omega) | simpa only [Ny157.out, List.length_set] using h_); have ql161 : ((((rd_T42 l0 x4_1).f4) : Int) < ((x3_1.length : Int) : Int)) = True := eq_true (of_decide_eq_true (by first | (with_reducible assumption) | assumption)); obtain ⟨ad161, e161, hx161_0⟩ := Kd.at_int (Kd.R_reads' HO_3.out).2.2 ((rd_T42 l0 x4_1).f4) p161 q161; obtain rfl : (⟨go15, 0, none⟩ : Addr) = ad161 := (by injection e161); (first | simp only [add_plain] at hx161_0 | simp only [add_at] at hx161_0 | simp only [Addr.add, Nat.zero_add] at hx161_0 | skip); replace p161 := eq_true p161; replace q161 := eq_true q161; have p20 : 0 ≤ (((rd_T42 l0 x4_1).f4) : Int) := of_decide_eq_true (by first | (with_reducible assumption) | assumption); have q20 : (((rd_T42 l0 x4_1).f4) : Int) < ((x3_1.length : Int) : Int) := of_decide_eq_true (by first | (with_reducible assumption) | assumption); obtain ⟨hx20_0, hf20_0⟩ := Kd.R_celln 0 HO_3.out (((rd_T42 l0 x4_1).f4) : Int) p20 q20; replace p20 := eq_true p20; replace q20 := eq_true q20; obtain ⟨hy25_, hz25_⟩ := Kd.R_celln 0 HO_3.out (((rd_T42 l0 x4_1).f4) : Int) (of_decide_eq_true (by first | (with_reducible assumption) | assumption)) (of_decide_eq_true (by first | (with_reducible assumption) | assumption)); have HP25 := Kd.R_putg HO_3.out (((rd_T42 l0 x4_1).f4) : Int) (wrap64 ((rd y157 ((rd_T42 l0 x4_1).f4)) + 1))) | ((with_reducible refine gate_store (t := 3) (p := 55) rfl ?_); refine store_event (t := 3) (p := 55) (v := ?vo_w26) (w1 := (w24.setCell ⟨go15, (((rd_T42 l0 x4_1).f4) : Int).toNat, none⟩ (.int .i64 (wrap64 ((rd y157 ((rd_T42 l0 x4_1).f4)) + 1))))) ?hg ?ho ?hn ?hr ?_; (case ho => rfl); (case hg => rfl); (case hn => rfl); (case hr => first | (go_simp; done) | (go_simp; rfl)); intro w26 hw; have hg : w24.grownBy w26 (some go15) := (by rw [hw]; exact HP25.2); have hp_ : Kd.R (Kd.int .i64) 3 w26 w.heap.size (fun _ => True) (.slice (some ⟨go15, 0, none⟩) x3_1.length co22) y162 := (by rw [hw, Ny162.out]; exact HP25.1); clear HP25; have n0_ := Aside0.mk (hp_); have n1_ := Aside0.mk ((by rw [hw]; exact below_set (HB.out) GB15.out : Below w.heap.size w w26)); clear HO_3; clear HB; have HO_3 := n0_; have HB := n1_; clear n0_ n1_; clear hg hw hp_))
                              go_roundg k1
                              case measure => have := HK1.out; omega
                              case rel => exact ⟨(y162), (wrap64 (x4_1 + 1)), (by first | rfl | (simp; done) | (simp [*]; done)), H', ⟨by have := HK1.out; omega⟩, ⟨by (with_reducible repeat (first | apply Kd.R_alloc | apply Kd.R_drewN | apply Kd.R_drew)); exact HO_3.out⟩, ⟨by repeat (first | (with_reducible first | exact HB.out | apply below_alloc | apply pw_below_drewN | apply below_drew1) | exact HB.out)⟩⟩
                            · rw [if_neg c19] at H
                              exact absurd H (by simp)
                          · rw [if_neg c18] at H
                            exact absurd H (by simp)
                        · rw [if_neg c17] at H
                          have c17b0 : decide (2 ≤ t159) = false := decide_eq_false c17
                          clear c17
                          have H' := Aside0.mk H
                          clear H
                          go_wp2_with (first | ((with_reducible refine gate_callee (f := 59) rfl ?_); refine goesL_ (some 20) rfl rfl Try.func59 (by kernel_rfl) rfl #[.slice A0 l0.length c0, .int .i64 x4_1] rfl (by (try simp only [List.map_toArray, List.map_cons, List.map_nil]); first | done | rfl | (simp only [List.length_drop, List.length_take]; rfl)) ?_; (with_reducible refine (koineref25_valid.calls k1 _ _ l0 x4_1 true _ ?side1 ?side2 A8.out).mono ?_); (case side1 => repeat (first | exact (Kd.C_below HR0.out HB.out) | (with_reducible refine Kd.C_alloc ?_ _) | (with_reducible refine Kd.C_drewN ?_ _) | (with_reducible refine Kd.C_drew ?_))); (case side2 => exact HC0.out); rintro e w27 ⟨rfl, hb⟩; refine ⟨_, rfl, ?_⟩; have n0_ := Aside0.mk (Kd.R_below (by (with_reducible repeat (first | apply Kd.R_alloc | apply Kd.R_drewN | apply Kd.R_drew)); exact HO_3.out) hb); have n1_ := Aside0.mk (below_step (by repeat (first | (with_reducible first | exact HB.out | apply below_alloc | apply pw_below_drewN | apply below_drew1) | exact HB.out)) hb); clear HO_3; clear HB; have HO_3 := n0_; have HB := n1_; clear n0_ n1_; (try clear hb); (try clear hb2); (try clear hk); (try clear hi); have p153 : 0 ≤ (x4_1 : Int) := of_decide_eq_true (by first | (with_reducible assumption) | assumption); have q153 : x4_1 < (l0.length : Int) := of_decide_eq_true (by first | (with_reducible assumption) | assumption); obtain ⟨ad153, e153, hx153_0, hx153_1, hx153_2, hx153_3, hx153_4⟩ := at_T42 HR0.out x4_1 p153 q153; cases e153; replace hx153_0 := (HB.out.cell (World.block_lt_of_cell? w _ hx153_0)).trans hx153_0; replace hx153_1 := (HB.out.cell (World.block_lt_of_cell? w _ hx153_1)).trans hx153_1; replace hx153_2 := (HB.out.cell (World.block_lt_of_cell? w _ hx153_2)).trans hx153_2; replace hx153_3 := (HB.out.cell (World.block_lt_of_cell? w _ hx153_3)).trans hx153_3; replace hx153_4 := (HB.out.cell (World.block_lt_of_cell? w _ hx153_4)).trans hx153_4; replace p153 := eq_true p153; replace q153 := eq_true q153) | ((with_reducible refine gate_callee (f := 60) rfl ?_); refine goesL_ (some 27) rfl rfl Try.func60 (by kernel_rfl) rfl #[.int .i64 ((rd_T42 l0 x4_1).f0)] rfl (by (try simp only [List.map_toArray, List.map_cons, List.map_nil]); first | done | rfl | (simp only [List.length_drop, List.length_take]; rfl)) ?_; (with_reducible refine (koineref25_operands.calls ((rd_T42 l0 x4_1).f0) t154 _ A11.out).mono ?_); rintro e w' ⟨rfl, ⟨nd, rfl⟩⟩; refine ⟨_, rfl, ?_⟩; (try (rw [drewN_self w27]; generalize hq_ : World.drewN w27 _ = w27; have n0_ : Aside0 (Kd.R (Kd.int .i64) 3 w27 w.heap.size (fun _ => True) v150 x3_1) := ⟨by rw [← hq_]; exact (by (with_reducible repeat (first | apply Kd.R_alloc | apply Kd.R_drewN | apply Kd.R_drew)); exact HO_3.out)⟩; have n1_ : Aside0 (Below w.heap.size w w27) := ⟨by rw [← hq_]; exact (by repeat (first | (with_reducible first | exact HB.out | apply below_alloc | apply pw_below_drewN | apply below_drew1) | exact HB.out))⟩; clear HO_3 HB hq_; have HO_3 := n0_; have HB := n1_; clear n0_ n1_)); have p155 : 0 ≤ (x4_1 : Int) := of_decide_eq_true (by first | (with_reducible assumption) | assumption); have q155 : x4_1 < (l0.length : Int) := of_decide_eq_true (by first | (with_reducible assumption) | assumption); obtain ⟨ad155, e155, hx155_0, hx155_1, hx155_2, hx155_3, hx155_4⟩ := at_T42 HR0.out x4_1 p155 q155; obtain rfl : ad153 = ad155 := (by injection e155); replace hx155_0 := (HB.out.cell (World.block_lt_of_cell? w _ hx155_0)).trans hx155_0; replace hx155_1 := (HB.out.cell (World.block_lt_of_cell? w _ hx155_1)).trans hx155_1; replace hx155_2 := (HB.out.cell (World.block_lt_of_cell? w _ hx155_2)).trans hx155_2; replace hx155_3 := (HB.out.cell (World.block_lt_of_cell? w _ hx155_3)).trans hx155_3; replace hx155_4 := (HB.out.cell (World.block_lt_of_cell? w _ hx155_4)).trans hx155_4; replace p155 := eq_true p155; replace q155 := eq_true q155; obtain ⟨Ao28, co28, eo28⟩ := Kd.R_slice HO_3.out; subst eo28; have p156 : 0 ≤ (((rd_T42 l0 x4_1).f3) : Int) := of_decide_eq_true (by first | (with_reducible assumption) | assumption); have q156 : ((rd_T42 l0 x4_1).f3) < (x3_1.length : Int) := of_decide_eq_true (by first | (with_reducible assumption) | assumption); obtain ⟨ad156, e156, hx156_0⟩ := Kd.at_int (Kd.R_reads' HO_3.out).2.2 ((rd_T42 l0 x4_1).f3) p156 q156; cases e156; replace p156 := eq_true p156; replace q156 := eq_true q156; have p15 : 0 ≤ (((rd_T42 l0 x4_1).f3) : Int) := of_decide_eq_true (by first | (with_reducible assumption) | assumption); have q15 : (((rd_T42 l0 x4_1).f3) : Int) < ((x3_1.length : Int) : Int) := of_decide_eq_true (by first | (with_reducible assumption) | assumption); obtain ⟨go15, co15, eo15, gb15, gl15, cl15, HG15⟩ := Kd.R_form HO_3.out (by omega); (first | cases eo15 | (injection eo15 with ea_ en_ ec_; (first | subst ea_ | (injection ea_ with ea_; subst ea_)); subst ec_; clear en_)); have GB15 := Aside0.mk gb15; have GG15 := Aside0.mk HG15; clear gb15 gl15 HG15; (first | simp only [add_plain] at hx156_0 | skip); obtain ⟨hx15_0, hf15_0⟩ := Kd.R_celln 0 HO_3.out (((rd_T42 l0 x4_1).f3) : Int) p15 q15; replace p15 := eq_true p15; replace q15 := eq_true q15; obtain ⟨hy29_, hz29_⟩ := Kd.R_celln 0 HO_3.out (((rd_T42 l0 x4_1).f3) : Int) (of_decide_eq_true (by first | (with_reducible assumption) | assumption)) (of_decide_eq_true (by first | (with_reducible assumption) | assumption)); have HP29 := Kd.R_putg HO_3.out (((rd_T42 l0 x4_1).f3) : Int) (wrap64 ((rd x3_1 ((rd_T42 l0 x4_1).f3)) + 1))) | ((with_reducible refine gate_store (t := 3) (p := 38) rfl ?_); refine store_event (t := 3) (p := 38) (v := ?vo_w30) (w1 := (w27.setCell ⟨go15, (((rd_T42 l0 x4_1).f3) : Int).toNat, none⟩ (.int .i64 (wrap64 ((rd x3_1 ((rd_T42 l0 x4_1).f3)) + 1))))) ?hg ?ho ?hn ?hr ?_; (case ho => rfl); (case hg => rfl); (case hn => rfl); (case hr => first | (go_simp; done) | (go_simp; rfl)); intro w30 hw; have hg : w27.grownBy w30 (some go15) := (by rw [hw]; exact HP29.2); have hp_ : Kd.R (Kd.int .i64) 3 w30 w.heap.size (fun _ => True) (.slice (some ⟨go15, 0, none⟩) x3_1.length co28) y157 := (by rw [hw, Ny157.out]; exact HP29.1); clear HP29; have n0_ := Aside0.mk (hp_); have n1_ := Aside0.mk ((by rw [hw]; exact below_set (HB.out) GB15.out : Below w.heap.size w w30)); clear HO_3; clear HB; have HO_3 := n0_; have HB := n1_; clear n0_ n1_; clear hg hw hp_; have p158 : 0 ≤ (x4_1 : Int) := of_decide_eq_true (by first | (with_reducible assumption) | assumption); have q158 : x4_1 < (l0.length : Int) := of_decide_eq_true (by first | (with_reducible assumption) | assumption); obtain ⟨ad158, e158, hx158_0, hx158_1, hx158_2, hx158_3, hx158_4⟩ := at_T42 HR0.out x4_1 p158 q158; obtain rfl : ad153 = ad158 := (by injection e158); replace hx158_0 := (HB.out.cell (World.block_lt_of_cell? w _ hx158_0)).trans hx158_0; replace hx158_1 := (HB.out.cell (World.block_lt_of_cell? w _ hx158_1)).trans hx158_1; replace hx158_2 := (HB.out.cell (World.block_lt_of_cell? w _ hx158_2)).trans hx158_2; replace hx158_3 := (HB.out.cell (World.block_lt_of_cell? w _ hx158_3)).trans hx158_3; replace hx158_4 := (HB.out.cell (World.block_lt_of_cell? w _ hx158_4)).trans hx158_4; replace p158 := eq_true p158; replace q158 := eq_true q158) | ((with_reducible refine gate_callee (f := 60) rfl ?_); refine goesL_ (some 44) rfl rfl Try.func60 (by kernel_rfl) rfl #[.int .i64 ((rd_T42 l0 x4_1).f0)] rfl (by (try simp only [List.map_toArray, List.map_cons, List.map_nil]); first | done | rfl | (simp only [List.length_drop, List.length_take]; rfl)) ?_; (with_reducible refine (koineref25_operands.calls ((rd_T42 l0 x4_1).f0) t159 _ A16.out).mono ?_); rintro e w' ⟨rfl, ⟨nd, rfl⟩⟩; refine ⟨_, rfl, ?_⟩))
                          go_roundg k1
                          case measure => have := HK1.out; omega
                          case rel => exact ⟨(y157), (wrap64 (x4_1 + 1)), (by first | rfl | (simp; done) | (simp [*]; done)), H', ⟨by have := HK1.out; omega⟩, ⟨by (with_reducible repeat (first | apply Kd.R_alloc | apply Kd.R_drewN | apply Kd.R_drew)); exact HO_3.out⟩, ⟨by repeat (first | (with_reducible first | exact HB.out | apply below_alloc | apply pw_below_drewN | apply below_drew1) | exact HB.out)⟩⟩
                      · rw [if_neg c14] at H
                        exact absurd H (by simp)
                    · rw [if_neg c13] at H
                      exact absurd H (by simp)
                  · rw [if_neg c12] at H
                    have c12b0 : decide (1 ≤ t154) = false := decide_eq_false c12
                    clear c12
                    replace H := Option.bind_eq_some_iff.mp H
                    obtain ⟨t164, A310, H⟩ := H
                    replace H : (if t164 ≥ 2 then (if 0 ≤ ((rd_T42 l0 x4_1).f4) then (if ((rd_T42 l0 x4_1).f4) < (x3_1.length : Int) then (koineref25_Check.l0 k1 l0 (x3_1.set (((rd_T42 l0 x4_1).f4) : Int).toNat (wrap64 ((rd x3_1 ((rd_T42 l0 x4_1).f4)) + 1))) (wrap64 (x4_1 + 1))) else (none)) else (none)) else (koineref25_Check.l0 k1 l0 x3_1 (wrap64 (x4_1 + 1)))) = some r := H
                    have A31 := Aside0.mk A310
                    clear A310
                    by_cases c32 : t164 ≥ 2
                    · rw [if_pos c32] at H
                      have c32b0 : decide (2 ≤ t164) = true := decide_eq_true c32
                      clear c32
                      by_cases c33 : 0 ≤ ((rd_T42 l0 x4_1).f4)
                      · rw [if_pos c33] at H
                        have c33b0 : decide (0 ≤ ((rd_T42 l0 x4_1).f4)) = true := decide_eq_true c33
                        clear c33
                        by_cases c34 : ((rd_T42 l0 x4_1).f4) < (x3_1.length : Int)
                        · rw [if_pos c34] at H
                          have c34b0 : decide (((rd_T42 l0 x4_1).f4) < (x3_1.length : Int)) = true := decide_eq_true c34
                          clear c34
                          obtain ⟨y167, hy167⟩ : ∃ y_ : List Int, y_ = (x3_1.set (((rd_T42 l0 x4_1).f4) : Int).toNat (wrap64 ((rd x3_1 ((rd_T42 l0 x4_1).f4)) + 1))) := ⟨_, rfl⟩
                          replace H : (koineref25_Check.l0 k1 l0 y167 (wrap64 (x4_1 + 1))) = some r := by first | (rw [hy167]; with_reducible exact H) | (have H2_ := (Option.bind_some _ _).symm.trans H; rw [hy167]; with_reducible exact H2_) | (have H2_ := (Option.bind_some _ _).symm.trans H; with_reducible exact H2_) | with_reducible exact H | (rw [hy167]; exact H) | exact H
                          have Ny167 := Aside0.mk hy167
                          clear hy167
                          have H' := Aside0.mk H
                          clear H
                          go_wp2_with (first | ((with_reducible refine gate_callee (f := 59) rfl ?_); refine goesL_ (some 20) rfl rfl Try.func59 (by kernel_rfl) rfl #[.slice A0 l0.length c0, .int .i64 x4_1] rfl (by (try simp only [List.map_toArray, List.map_cons, List.map_nil]); first | done | rfl | (simp only [List.length_drop, List.length_take]; rfl)) ?_; (with_reducible refine (koineref25_valid.calls k1 _ _ l0 x4_1 true _ ?side1 ?side2 A8.out).mono ?_); (case side1 => repeat (first | exact (Kd.C_below HR0.out HB.out) | (with_reducible refine Kd.C_alloc ?_ _) | (with_reducible refine Kd.C_drewN ?_ _) | (with_reducible refine Kd.C_drew ?_))); (case side2 => exact HC0.out); rintro e w36 ⟨rfl, hb⟩; refine ⟨_, rfl, ?_⟩; have n0_ := Aside0.mk (Kd.R_below (by (with_reducible repeat (first | apply Kd.R_alloc | apply Kd.R_drewN | apply Kd.R_drew)); exact HO_3.out) hb); have n1_ := Aside0.mk (below_step (by repeat (first | (with_reducible first | exact HB.out | apply below_alloc | apply pw_below_drewN | apply below_drew1) | exact HB.out)) hb); clear HO_3; clear HB; have HO_3 := n0_; have HB := n1_; clear n0_ n1_; (try clear hb); (try clear hb2); (try clear hk); (try clear hi); have p153 : 0 ≤ (x4_1 : Int) := of_decide_eq_true (by first | (with_reducible assumption) | assumption); have q153 : x4_1 < (l0.length : Int) := of_decide_eq_true (by first | (with_reducible assumption) | assumption); obtain ⟨ad153, e153, hx153_0, hx153_1, hx153_2, hx153_3, hx153_4⟩ := at_T42 HR0.out x4_1 p153 q153; cases e153; replace hx153_0 := (HB.out.cell (World.block_lt_of_cell? w _ hx153_0)).trans hx153_0; replace hx153_1 := (HB.out.cell (World.block_lt_of_cell? w _ hx153_1)).trans hx153_1; replace hx153_2 := (HB.out.cell (World.block_lt_of_cell? w _ hx153_2)).trans hx153_2; replace hx153_3 := (HB.out.cell (World.block_lt_of_cell? w _ hx153_3)).trans hx153_3; replace hx153_4 := (HB.out.cell (World.block_lt_of_cell? w _ hx153_4)).trans hx153_4; replace p153 := eq_true p153; replace q153 := eq_true q153) | ((with_reducible refine gate_callee (f := 60) rfl ?_); refine goesL_ (some 27) rfl rfl Try.func60 (by kernel_rfl) rfl #[.int .i64 ((rd_T42 l0 x4_1).f0)] rfl (by (try simp only [List.map_toArray, List.map_cons, List.map_nil]); first | done | rfl | (simp only [List.length_drop, List.length_take]; rfl)) ?_; (with_reducible refine (koineref25_operands.calls ((rd_T42 l0 x4_1).f0) t154 _ A11.out).mono ?_); rintro e w' ⟨rfl, ⟨nd, rfl⟩⟩; refine ⟨_, rfl, ?_⟩; (try (rw [drewN_self w36]; generalize hq_ : World.drewN w36 _ = w36; have n0_ : Aside0 (Kd.R (Kd.int .i64) 3 w36 w.heap.size (fun _ => True) v150 x3_1) := ⟨by rw [← hq_]; exact (by (with_reducible repeat (first | apply Kd.R_alloc | apply Kd.R_drewN | apply Kd.R_drew)); exact HO_3.out)⟩; have n1_ : Aside0 (Below w.heap.size w w36) := ⟨by rw [← hq_]; exact (by repeat (first | (with_reducible first | exact HB.out | apply below_alloc | apply pw_below_drewN | apply below_drew1) | exact HB.out))⟩; clear HO_3 HB hq_; have HO_3 := n0_; have HB := n1_; clear n0_ n1_)); have p163 : 0 ≤ (x4_1 : Int) := of_decide_eq_true (by first | (with_reducible assumption) | assumption); have q163 : x4_1 < (l0.length : Int) := of_decide_eq_true (by first | (with_reducible assumption) | assumption); obtain ⟨ad163, e163, hx163_0, hx163_1, hx163_2, hx163_3, hx163_4⟩ := at_T42 HR0.out x4_1 p163 q163; obtain rfl : ad153 = ad163 := (by injection e163); replace hx163_0 := (HB.out.cell (World.block_lt_of_cell? w _ hx163_0)).trans hx163_0; replace hx163_1 := (HB.out.cell (World.block_lt_of_cell? w _ hx163_1)).trans hx163_1; replace hx163_2 := (HB.out.cell (World.block_lt_of_cell? w _ hx163_2)).trans hx163_2; replace hx163_3 := (HB.out.cell (World.block_lt_of_cell? w _ hx163_3)).trans hx163_3; replace hx163_4 := (HB.out.cell (World.block_lt_of_cell? w _ hx163_4)).trans hx163_4; replace p163 := eq_true p163; replace q163 := eq_true q163) | ((with_reducible refine gate_callee (f := 60) rfl ?_); refine goesL_ (some 44) rfl rfl Try.func60 (by kernel_rfl) rfl #[.int .i64 ((rd_T42 l0 x4_1).f0)] rfl (by (try simp only [List.map_toArray, List.map_cons, List.map_nil]); first | done | rfl | (simp only [List.length_drop, List.length_take]; rfl)) ?_; (with_reducible refine (koineref25_operands.calls ((rd_T42 l0 x4_1).f0) t164 _ A31.out).mono ?_); rintro e w' ⟨rfl, ⟨nd, rfl⟩⟩; refine ⟨_, rfl, ?_⟩; (try (rw [drewN_self w36]; generalize hq_ : World.drewN w36 _ = w36; have n0_ : Aside0 (Kd.R (Kd.int .i64) 3 w36 w.heap.size (fun _ => True) v150 x3_1) := ⟨by rw [← hq_]; exact (by (with_reducible repeat (first | apply Kd.R_alloc | apply Kd.R_drewN | apply Kd.R_drew)); exact HO_3.out)⟩; have n1_ : Aside0 (Below w.heap.size w w36) := ⟨by rw [← hq_]; exact (by repeat (first | (with_reducible first | exact HB.out | apply below_alloc | apply pw_below_drewN | apply below_drew1) | exact HB.out))⟩; clear HO_3 HB hq_; have HO_3 := n0_; have HB := n1_; clear n0_ n1_)); have p165 : 0 ≤ (x4_1 : Int) := of_decide_eq_true (by first | (with_reducible assumption) | assumption); have q165 : x4_1 < (l0.length : Int) := of_decide_eq_true (by first | (with_reducible assumption) | assumption); obtain ⟨ad165, e165, hx165_0, hx165_1, hx165_2, hx165_3, hx165_4⟩ := at_T42 HR0.out x4_1 p165 q165; obtain rfl : ad153 = ad165 := (by injection e165); replace hx165_0 := (HB.out.cell (World.block_lt_of_cell? w _ hx165_0)).trans hx165_0; replace hx165_1 := (HB.out.cell (World.block_lt_of_cell? w _ hx165_1)).trans hx165_1; replace hx165_2 := (HB.out.cell (World.block_lt_of_cell? w _ hx165_2)).trans hx165_2; replace hx165_3 := (HB.out.cell (World.block_lt_of_cell? w _ hx165_3)).trans hx165_3; replace hx165_4 := (HB.out.cell (World.block_lt_of_cell? w _ hx165_4)).trans hx165_4; replace p165 := eq_true p165; replace q165 := eq_true q165; obtain ⟨Ao37, co37, eo37⟩ := Kd.R_slice HO_3.out; subst eo37; have p166 : 0 ≤ (((rd_T42 l0 x4_1).f4) : Int) := of_decide_eq_true (by first | (with_reducible assumption) | assumption); have q166 : ((rd_T42 l0 x4_1).f4) < (x3_1.length : Int) := of_decide_eq_true (by first | (with_reducible assumption) | assumption); obtain ⟨ad166, e166, hx166_0⟩ := Kd.at_int (Kd.R_reads' HO_3.out).2.2 ((rd_T42 l0 x4_1).f4) p166 q166; cases e166; replace p166 := eq_true p166; replace q166 := eq_true q166; have p35 : 0 ≤ (((rd_T42 l0 x4_1).f4) : Int) := of_decide_eq_true (by first | (with_reducible assumption) | assumption); have q35 : (((rd_T42 l0 x4_1).f4) : Int) < ((x3_1.length : Int) : Int) := of_decide_eq_true (by first | (with_reducible assumption) | assumption); obtain ⟨go35, co35, eo35, gb35, gl35, cl35, HG35⟩ := Kd.R_form HO_3.out (by omega); (first | cases eo35 | (injection eo35 with ea_ en_ ec_; (first | subst ea_ | (injection ea_ with ea_; subst ea_)); subst ec_; clear en_)); have GB35 := Aside0.mk gb35; have GG35 := Aside0.mk HG35; clear gb35 gl35 HG35; (first | simp only [add_plain] at hx166_0 | skip); obtain ⟨hx35_0, hf35_0⟩ := Kd.R_celln 0 HO_3.out (((rd_T42 l0 x4_1).f4) : Int) p35 q35; replace p35 := eq_true p35; replace q35 := eq_true q35; obtain ⟨hy38_, hz38_⟩ := Kd.R_celln 0 HO_3.out (((rd_T42 l0 x4_1).f4) : Int) (of_decide_eq_true (by first | (with_reducible assumption) | assumption)) (of_decide_eq_true (by first | (with_reducible assumption) | assumption)); have HP38 := Kd.R_putg HO_3.out (((rd_T42 l0 x4_1).f4) : Int) (wrap64 ((rd x3_1 ((rd_T42 l0 x4_1).f4)) + 1))) | ((with_reducible refine gate_store (t := 3) (p := 55) rfl ?_); refine store_event (t := 3) (p := 55) (v := ?vo_w39) (w1 := (w36.setCell ⟨go35, (((rd_T42 l0 x4_1).f4) : Int).toNat, none⟩ (.int .i64 (wrap64 ((rd x3_1 ((rd_T42 l0 x4_1).f4)) + 1))))) ?hg ?ho ?hn ?hr ?_; (case ho => rfl); (case hg => rfl); (case hn => rfl); (case hr => first | (go_simp; done) | (go_simp; rfl)); intro w39 hw; have hg : w36.grownBy w39 (some go35) := (by rw [hw]; exact HP38.2); have hp_ : Kd.R (Kd.int .i64) 3 w39 w.heap.size (fun _ => True) (.slice (some ⟨go35, 0, none⟩) x3_1.length co37) y167 := (by rw [hw, Ny167.out]; exact HP38.1); clear HP38; have n0_ := Aside0.mk (hp_); have n1_ := Aside0.mk ((by rw [hw]; exact below_set (HB.out) GB35.out : Below w.heap.size w w39)); clear HO_3; clear HB; have HO_3 := n0_; have HB := n1_; clear n0_ n1_; clear hg hw hp_))
                          go_roundg k1
                          case measure => have := HK1.out; omega
                          case rel => exact ⟨(y167), (wrap64 (x4_1 + 1)), (by first | rfl | (simp; done) | (simp [*]; done)), H', ⟨by have := HK1.out; omega⟩, ⟨by (with_reducible repeat (first | apply Kd.R_alloc | apply Kd.R_drewN | apply Kd.R_drew)); exact HO_3.out⟩, ⟨by repeat (first | (with_reducible first | exact HB.out | apply below_alloc | apply pw_below_drewN | apply below_drew1) | exact HB.out)⟩⟩
                        · rw [if_neg c34] at H
                          exact absurd H (by simp)
                      · rw [if_neg c33] at H
                        exact absurd H (by simp)
                    · rw [if_neg c32] at H
                      have c32b0 : decide (2 ≤ t164) = false := decide_eq_false c32
                      clear c32
                      have H' := Aside0.mk H
                      clear H
                      go_wp2_with (first | ((with_reducible refine gate_callee (f := 59) rfl ?_); refine goesL_ (some 20) rfl rfl Try.func59 (by kernel_rfl) rfl #[.slice A0 l0.length c0, .int .i64 x4_1] rfl (by (try simp only [List.map_toArray, List.map_cons, List.map_nil]); first | done | rfl | (simp only [List.length_drop, List.length_take]; rfl)) ?_; (with_reducible refine (koineref25_valid.calls k1 _ _ l0 x4_1 true _ ?side1 ?side2 A8.out).mono ?_); (case side1 => repeat (first | exact (Kd.C_below HR0.out HB.out) | (with_reducible refine Kd.C_alloc ?_ _) | (with_reducible refine Kd.C_drewN ?_ _) | (with_reducible refine Kd.C_drew ?_))); (case side2 => exact HC0.out); rintro e w40 ⟨rfl, hb⟩; refine ⟨_, rfl, ?_⟩; have n0_ := Aside0.mk (Kd.R_below (by (with_reducible repeat (first | apply Kd.R_alloc | apply Kd.R_drewN | apply Kd.R_drew)); exact HO_3.out) hb); have n1_ := Aside0.mk (below_step (by repeat (first | (with_reducible first | exact HB.out | apply below_alloc | apply pw_below_drewN | apply below_drew1) | exact HB.out)) hb); clear HO_3; clear HB; have HO_3 := n0_; have HB := n1_; clear n0_ n1_; (try clear hb); (try clear hb2); (try clear hk); (try clear hi); have p153 : 0 ≤ (x4_1 : Int) := of_decide_eq_true (by first | (with_reducible assumption) | assumption); have q153 : x4_1 < (l0.length : Int) := of_decide_eq_true (by first | (with_reducible assumption) | assumption); obtain ⟨ad153, e153, hx153_0, hx153_1, hx153_2, hx153_3, hx153_4⟩ := at_T42 HR0.out x4_1 p153 q153; cases e153; replace hx153_0 := (HB.out.cell (World.block_lt_of_cell? w _ hx153_0)).trans hx153_0; replace hx153_1 := (HB.out.cell (World.block_lt_of_cell? w _ hx153_1)).trans hx153_1; replace hx153_2 := (HB.out.cell (World.block_lt_of_cell? w _ hx153_2)).trans hx153_2; replace hx153_3 := (HB.out.cell (World.block_lt_of_cell? w _ hx153_3)).trans hx153_3; replace hx153_4 := (HB.out.cell (World.block_lt_of_cell? w _ hx153_4)).trans hx153_4; replace p153 := eq_true p153; replace q153 := eq_true q153) | ((with_reducible refine gate_callee (f := 60) rfl ?_); refine goesL_ (some 27) rfl rfl Try.func60 (by kernel_rfl) rfl #[.int .i64 ((rd_T42 l0 x4_1).f0)] rfl (by (try simp only [List.map_toArray, List.map_cons, List.map_nil]); first | done | rfl | (simp only [List.length_drop, List.length_take]; rfl)) ?_; (with_reducible refine (koineref25_operands.calls ((rd_T42 l0 x4_1).f0) t154 _ A11.out).mono ?_); rintro e w' ⟨rfl, ⟨nd, rfl⟩⟩; refine ⟨_, rfl, ?_⟩; have p163 : 0 ≤ (x4_1 : Int) := of_decide_eq_true (by first | (with_reducible assumption) | assumption); have q163 : x4_1 < (l0.length : Int) := of_decide_eq_true (by first | (with_reducible assumption) | assumption); obtain ⟨ad163, e163, hx163_0, hx163_1, hx163_2, hx163_3, hx163_4⟩ := at_T42 HR0.out x4_1 p163 q163; obtain rfl : ad153 = ad163 := (by injection e163); replace hx163_0 := (HB.out.cell (World.block_lt_of_cell? w _ hx163_0)).trans hx163_0; replace hx163_1 := (HB.out.cell (World.block_lt_of_cell? w _ hx163_1)).trans hx163_1; replace hx163_2 := (HB.out.cell (World.block_lt_of_cell? w _ hx163_2)).trans hx163_2; replace hx163_3 := (HB.out.cell (World.block_lt_of_cell? w _ hx163_3)).trans hx163_3; replace hx163_4 := (HB.out.cell (World.block_lt_of_cell? w _ hx163_4)).trans hx163_4; replace p163 := eq_true p163; replace q163 := eq_true q163) | ((with_reducible refine gate_callee (f := 60) rfl ?_); refine goesL_ (some 44) rfl rfl Try.func60 (by kernel_rfl) rfl #[.int .i64 ((rd_T42 l0 x4_1).f0)] rfl (by (try simp only [List.map_toArray, List.map_cons, List.map_nil]); first | done | rfl | (simp only [List.length_drop, List.length_take]; rfl)) ?_; (with_reducible refine (koineref25_operands.calls ((rd_T42 l0 x4_1).f0) t164 _ A31.out).mono ?_); rintro e w' ⟨rfl, ⟨nd, rfl⟩⟩; refine ⟨_, rfl, ?_⟩))
                      go_roundg k1
                      case measure => have := HK1.out; omega
                      case rel => exact ⟨(x3_1), (wrap64 (x4_1 + 1)), (by first | rfl | (simp; done) | (simp [*]; done)), H', ⟨by have := HK1.out; omega⟩, ⟨by (with_reducible repeat (first | apply Kd.R_alloc | apply Kd.R_drewN | apply Kd.R_drew)); exact HO_3.out⟩, ⟨by repeat (first | (with_reducible first | exact HB.out | apply below_alloc | apply pw_below_drewN | apply below_drew1) | exact HB.out)⟩⟩
                · rw [if_neg c10] at H
                  exact absurd H (by simp)
              · replace c9 := Bool.eq_false_iff.mpr c9
                subst c9
                have H1 : (some 250) = some r := by rw [if_neg (show ¬ (false = true) by decide)] at H; exact H
                clear H
                have H := H1
                clear H1
                obtain rfl := Option.some.inj H
                go_wp2_with (first | ((with_reducible refine gate_callee (f := 59) rfl ?_); refine goesL_ (some 20) rfl rfl Try.func59 (by kernel_rfl) rfl #[.slice A0 l0.length c0, .int .i64 x4_1] rfl (by (try simp only [List.map_toArray, List.map_cons, List.map_nil]); first | done | rfl | (simp only [List.length_drop, List.length_take]; rfl)) ?_; (with_reducible refine (koineref25_valid.calls k1 _ _ l0 x4_1 false _ ?side1 ?side2 A8.out).mono ?_); (case side1 => repeat (first | exact (Kd.C_below HR0.out HB.out) | (with_reducible refine Kd.C_alloc ?_ _) | (with_reducible refine Kd.C_drewN ?_ _) | (with_reducible refine Kd.C_drew ?_))); (case side2 => exact HC0.out); rintro e w41 ⟨rfl, hb⟩; refine ⟨_, rfl, ?_⟩; have n0_ := Aside0.mk (Kd.R_below (by (with_reducible repeat (first | apply Kd.R_alloc | apply Kd.R_drewN | apply Kd.R_drew)); exact HO_3.out) hb); have n1_ := Aside0.mk (below_step (by repeat (first | (with_reducible first | exact HB.out | apply below_alloc | apply pw_below_drewN | apply below_drew1) | exact HB.out)) hb); clear HO_3; clear HB; have HO_3 := n0_; have HB := n1_; clear n0_ n1_; (try clear hb); (try clear hb2); (try clear hk); (try clear hi)))
                go_ret
                exact ⟨by first | rfl | (simp [errW_none, errW_some] <;> rfl) | (simp [*, errW_none, errW_some] <;> rfl), by repeat (first | (with_reducible first | exact HB.out | apply below_alloc | apply pw_below_drewN | apply below_drew1) | exact HB.out)⟩
            · rw [if_neg c7] at H
              have c7b0 : decide (x4_1 < (l0.length : Int)) = false := decide_eq_false c7
              clear c7
              have H' := Aside0.mk H
              clear H
              go_wp2
              go_loopg [5] k1 (fun kq v5 w' => ∃ (x5_2 : Int), v5 = .int .i64 x5_2 ∧ Aside0 (koineref25_Check.l1 kq l0 x3_1 x5_2 = some r) ∧ Aside0 (kq ≤ k1) ∧ Aside0 (Kd.R (Kd.int .i64) 3 w' w.heap.size (fun _ => True) v150 x3_1) ∧ Aside0 (Below w.heap.size w w'))
              case atStart => exact ⟨(0), (by first | rfl | (simp; done) | (simp [*]; done)), H', ⟨Nat.le_refl _⟩, ⟨by (with_reducible repeat (first | apply Kd.R_alloc | apply Kd.R_drewN | apply Kd.R_drew)); exact HO_3.out⟩, ⟨by repeat (first | (with_reducible first | exact HB.out | apply below_alloc | apply pw_below_drewN | apply below_drew1) | exact HB.out)⟩⟩
              case round =>
                clear H'
                try clear c1
                try clear p1
                try clear q1
                try clear hx1
                try clear hf1
                try clear c2
                try clear c2b0
                try clear c2b1
                try clear p2
                try clear q2
                try clear hx2
                try clear hf2
                try clear c3
                try clear c3b0
                try clear c3b1
                try clear p3
                try clear q3
                try clear hx3
                try clear hf3
                try clear c4
                try clear c4b0
                try clear c4b1
                try clear c5
                try clear c6
                try clear p6
                try clear c7
                try clear c7b0
                try clear c9
                try clear c10
                try clear c10b0
                try clear c12
                try clear c12b0
                try clear c13
                try clear c13b0
                try clear c14
                try clear c14b0
                try clear p15
                try clear q15
                try clear hx15
                try clear hf15
                try clear p16
                try clear q16
                try clear hx16
                try clear c17
                try clear c17b0
                try clear c18
                try clear c18b0
                try clear c19
                try clear c19b0
                try clear p20
                try clear q20
                try clear hx20
                try clear hf20
                try clear c31
                try clear c32
                try clear c32b0
                try clear c33
                try clear c33b0
                try clear c34
                try clear c34b0
                try clear p35
                try clear q35
                try clear hx35
                try clear hf35
                try clear hx153_0
                try clear hx153_1
                try clear hx153_2
                try clear hx153_3
                try clear hx153_4
                try clear hx155_0
                try clear hx155_1
                try clear hx155_2
                try clear hx155_3
                try clear hx155_4
                try clear hx156_0
                try clear hx158_0
                try clear hx158_1
                try clear hx158_2
                try clear hx158_3
                try clear hx158_4
                try clear hx15_0
                try clear hx160_0
                try clear hx160_1
                try clear hx160_2
                try clear hx160_3
                try clear hx160_4
                try clear hx161_0
                try clear hx163_0
                try clear hx163_1
                try clear hx163_2
                try clear hx163_3
                try clear hx163_4
                try clear hx165_0
                try clear hx165_1
                try clear hx165_2
                try clear hx165_3
                try clear hx165_4
                try clear hx166_0
                try clear hx20_0
                try clear hx35_0
                try clear p15
                try clear p153
                try clear p155
                try clear p156
                try clear p158
                try clear p160
                try clear p161
                try clear p163
                try clear p165
                try clear p166
                try clear p2
                try clear p20
                try clear p35
                try clear q15
                try clear q153
                try clear q155
                try clear q156
                try clear q158
                try clear q160
                try clear q161
                try clear q163
                try clear q165
                try clear q166
                try clear q20
                try clear q35
                obtain ⟨x5_2, rfl, HA, HK2, HO_3, HB⟩ := hrel
                cases gk with
                | zero => exact absurd HA.out (by simp [koineref25_Check.l1])
                | succ k2 =>
                  have H := HA.out
                  clear HA
                  simp only [koineref25_Check.l1] at H
                  by_cases c42 : x5_2 < (wrap64 ((l0.length : Int) - 1))
                  · rw [if_pos c42] at H
                    have c42b0 : decide (x5_2 < (wrap64 ((l0.length : Int) - 1))) = true := decide_eq_true c42
                    clear c42
                    by_cases c43 : 0 ≤ x5_2
                    · rw [if_pos c43] at H
                      have c43b0 : decide (0 ≤ x5_2) = true := decide_eq_true c43
                      clear c43
                      by_cases c44 : x5_2 < (x3_1.length : Int)
                      · rw [if_pos c44] at H
                        have c44b0 : decide (x5_2 < (x3_1.length : Int)) = true := decide_eq_true c44
                        clear c44
                        by_cases c45 : (rd x3_1 x5_2) = 1
                        · rw [if_pos c45] at H
                          have c45b0 : ((rd x3_1 x5_2) == 1) = true := beq_iff_eq.mpr c45
                          have c45b1 : ((rd x3_1 x5_2) != 1) = false := bne_eq_false_iff_eq.mpr c45
                          clear c45
                          have H' := Aside0.mk H
                          clear H
                          obtain ⟨Ao46, co46, eo46⟩ := Kd.R_slice HO_3.out
                          subst eo46
                          have p168 : 0 ≤ (x5_2 : Int) := of_decide_eq_true (by first | (with_reducible assumption) | assumption)
                          have q168 : x5_2 < (x3_1.length : Int) := of_decide_eq_true (by first | (with_reducible assumption) | assumption)
                          obtain ⟨ad168, e168, hx168_0⟩ := Kd.at_int (Kd.R_reads' HO_3.out).2.2 x5_2 p168 q168
                          cases e168
                          replace p168 := eq_true p168
                          replace q168 := eq_true q168
                          go_wp2
                          go_roundg k2
                          case measure => have := HK1.out; have := HK2.out; omega
                          case rel => exact ⟨(wrap64 (x5_2 + 1)), (by first | rfl | (simp; done) | (simp [*]; done)), H', ⟨by have := HK1.out; have := HK2.out; omega⟩, ⟨by (with_reducible repeat (first | apply Kd.R_alloc | apply Kd.R_drewN | apply Kd.R_drew)); exact HO_3.out⟩, ⟨by repeat (first | (with_reducible first | exact HB.out | apply below_alloc | apply pw_below_drewN | apply below_drew1) | exact HB.out)⟩⟩
                        · rw [if_neg c45] at H
                          have c45b0 : ((rd x3_1 x5_2) == 1) = false := beq_eq_false_iff_ne.mpr c45
                          have c45b1 : ((rd x3_1 x5_2) != 1) = true := bne_iff_ne.mpr c45
                          obtain rfl := Option.some.inj H
                          obtain ⟨Ao47, co47, eo47⟩ := Kd.R_slice HO_3.out
                          subst eo47
                          have p168 : 0 ≤ (x5_2 : Int) := of_decide_eq_true (by first | (with_reducible assumption) | assumption)
                          have q168 : x5_2 < (x3_1.length : Int) := of_decide_eq_true (by first | (with_reducible assumption) | assumption)
                          obtain ⟨ad168, e168, hx168_0⟩ := Kd.at_int (Kd.R_reads' HO_3.out).2.2 x5_2 p168 q168
                          cases e168
                          replace p168 := eq_true p168
                          replace q168 := eq_true q168
                          go_wp2
                          go_ret
                          exact ⟨by first | rfl | (simp [errW_none, errW_some] <;> rfl) | (simp [*, errW_none, errW_some] <;> rfl), by repeat (first | (with_reducible first | exact HB.out | apply below_alloc | apply pw_below_drewN | apply below_drew1) | exact HB.out)⟩
                      · rw [if_neg c44] at H
                        exact absurd H (by simp)
                    · rw [if_neg c43] at H
                      exact absurd H (by simp)
                  · rw [if_neg c42] at H
                    have c42b0 : decide (x5_2 < (wrap64 ((l0.length : Int) - 1))) = false := decide_eq_false c42
                    clear c42
                    by_cases c48 : (l0.length : Int) = 0
                    · rw [if_pos c48] at H
                      have c48b0 : ((l0.length : Int) == 0) = true := beq_iff_eq.mpr c48
                      have c48b1 : ((l0.length : Int) != 0) = false := bne_eq_false_iff_eq.mpr c48
                      clear c48
                      obtain rfl := Option.some.inj H
                      go_wp2
                      go_ret
                      exact ⟨by first | rfl | (simp [errW_none, errW_some] <;> rfl) | (simp [*, errW_none, errW_some] <;> rfl), by repeat (first | (with_reducible first | exact HB.out | apply below_alloc | apply pw_below_drewN | apply below_drew1) | exact HB.out)⟩
                    · rw [if_neg c48] at H
                      have c48b0 : ((l0.length : Int) == 0) = false := beq_eq_false_iff_ne.mpr c48
                      have c48b1 : ((l0.length : Int) != 0) = true := bne_iff_ne.mpr c48
                      have c48b2 : ¬ (l0 = []) := fun h_ => c48 (by rw [h_]; rfl)
                      obtain rfl := Option.some.inj H
                      go_wp2
                      go_ret
                      exact ⟨by first | rfl | (simp [errW_none, errW_some] <;> rfl) | (simp [*, errW_none, errW_some] <;> rfl), by repeat (first | (with_reducible first | exact HB.out | apply below_alloc | apply pw_below_drewN | apply below_drew1) | exact HB.out)⟩
      · rw [if_neg c4] at H
        exact absurd H (by simp)
    · rw [if_neg c3] at H
      exact absurd H (by simp)
end Go.Proofs.Ythmmdmnbcecooaa.A
end

section
namespace Go.Proofs.Ythmmdmnbcecooaa.A
open Go.RowKit Go.Proofs.YthmmdmnbcecooaaW.PrintWords Go.Proofs.YthmmdmnbcecooaaW.PrintLast Go.Proofs.YthmmdmnbcecooaaW.PrintMore
attribute [local go_sem] max2_int max_two
set_option linter.unusedVariables false
set_option linter.unusedSimpArgs false
def koineref25_Groups.f (k : Nat) (l0 : List (S42)) : Option (List Int × Int) := (koineref25_Check.f k l0).bind fun t194 => (if t194 = 0 then ((koineref25_walk.f k l0 (wrap64 ((l0.length : Int) - 1))).bind fun t195 => (some (t195, 0))) else (some (([] : List Int), t194)))
set_option maxHeartbeats 8000000 in
set_option maxRecDepth 100000 in
theorem koineref25_Groups.calls (k : Nat) (A0 : Option Addr) (c0 : Nat) (l0 : List (S42)) (r1 : List Int) (r2 : Int) (w : World) (hr0 : Kd.C k42 w A0 l0.length l0) (hc0 : l0.length ≤ c0) (h : koineref25_Groups.f k l0 = some (r1, r2)) :
    Calls Try.prog 23 #[.slice A0 l0.length c0] w fun e w' => ∃ v0_ : Value, e = .returned (.tuple #[v0_, .int .i64 r2]) ∧ Kd.R (Kd.int .i64) 3 w' w.heap.size (fun _ => True) v0_ r1 ∧ Below w.heap.size w w' := by
  have HR0 := Aside0.mk hr0
  have HC0 := Aside0.mk hc0
  clear hr0 hc0
  have HB := Aside0.mk (Below.refl w.heap.size w)
  have H : ((koineref25_Check.f k l0).bind fun t194 => (if t194 = 0 then ((koineref25_walk.f k l0 (wrap64 ((l0.length : Int) - 1))).bind fun t195 => (some (t195, 0))) else (some (([] : List Int), t194)))) = some (r1, r2) := h
  clear h
  replace H := Option.bind_eq_some_iff.mp H
  obtain ⟨t194, A20, H⟩ := H
  replace H : (if t194 = 0 then ((koineref25_walk.f k l0 (wrap64 ((l0.length : Int) - 1))).bind fun t195 => (some (t195, 0))) else (some (([] : List Int), t194))) = some (r1, r2) := H
  have A2 := Aside0.mk A20
  clear A20
  by_cases c3 : t194 = 0
  · rw [if_pos c3] at H
    have c3b0 : (t194 == 0) = true := beq_iff_eq.mpr c3
    have c3b1 : (t194 != 0) = false := bne_eq_false_iff_eq.mpr c3
    clear c3
    replace H := Option.bind_eq_some_iff.mp H
    obtain ⟨t195, A40, H⟩ := H
    replace H : (some (t195, 0)) = some (r1, r2) := H
    have A4 := Aside0.mk A40
    clear A40
    simp only [Option.some.injEq, Prod.mk.injEq] at H
    obtain ⟨rfl, rfl⟩ := H
    go_enter Try.func23, Try.ntmps23
    go_wp2_with (first | ((with_reducible refine gate_callee (f := 31) rfl ?_); refine goesL_ (some 6) rfl rfl Try.func31 (by kernel_rfl) rfl #[.slice A0 l0.length c0] rfl (by (try simp only [List.map_toArray, List.map_cons, List.map_nil]); first | done | rfl | (simp only [List.length_drop, List.length_take]; rfl)) ?_; (with_reducible refine (koineref25_Check.calls k _ _ l0 t194 _ ?side1 ?side2 A2.out).mono ?_); (case side1 => repeat (first | exact HR0.out | (with_reducible refine Kd.C_alloc ?_ _) | (with_reducible refine Kd.C_drewN ?_ _) | (with_reducible refine Kd.C_drew ?_))); (case side2 => exact HC0.out); rintro e w5 ⟨rfl, hb⟩; refine ⟨_, rfl, ?_⟩; have n0_ := Aside0.mk (below_step (by repeat (first | (with_reducible first | exact HB.out | apply below_alloc | apply pw_below_drewN | apply below_drew1) | exact HB.out)) hb); clear HB; have HB := n0_; clear n0_; (try clear hb); (try clear hb2); (try clear hk); (try clear hi)) | ((with_reducible refine gate_callee (f := 51) rfl ?_); refine goesL_ (some 14) rfl rfl Try.func51 (by kernel_rfl) rfl #[.slice A0 l0.length c0, .int .i64 (wrap64 ((l0.length : Int) - 1))] rfl (by (try simp only [List.map_toArray, List.map_cons, List.map_nil]); first | done | rfl | (simp only [List.length_drop, List.length_take]; rfl)) ?_; (with_reducible refine (koineref25_walk.calls k _ _ l0 (wrap64 ((l0.length : Int) - 1)) t195 _ ?side1 ?side2 A4.out).mono ?_); (case side1 => repeat (first | exact (Kd.C_below HR0.out HB.out) | (with_reducible refine Kd.C_alloc ?_ _) | (with_reducible refine Kd.C_drewN ?_ _) | (with_reducible refine Kd.C_drew ?_))); (case side2 => exact HC0.out); rintro e w6 ⟨v196, rfl, ho0, hb⟩; refine ⟨_, rfl, ?_⟩; have n0_ := Aside0.mk (Kd.R_lower ho0 (below_size (by repeat (first | (with_reducible first | exact HB.out | apply below_alloc | apply pw_below_drewN | apply below_drew1) | exact HB.out)))); have n1_ := Aside0.mk (below_step (by repeat (first | (with_reducible first | exact HB.out | apply below_alloc | apply pw_below_drewN | apply below_drew1) | exact HB.out)) hb); clear HB; have HO197 := n0_; have HB := n1_; clear n0_ n1_; (try clear hb); (try clear hb2); (try clear hk); (try clear hi); (try clear ho0)))
    go_ret2
    exact ⟨_, by first | rfl | (simp [errW_none, errW_some] <;> rfl) | (simp [*, errW_none, errW_some] <;> rfl), by (with_reducible repeat (first | apply Kd.R_alloc | apply Kd.R_drewN | apply Kd.R_drew)); exact HO197.out, by repeat (first | (with_reducible first | exact HB.out | apply below_alloc | apply pw_below_drewN | apply below_drew1) | exact HB.out)⟩
  · rw [if_neg c3] at H
    have c3b0 : (t194 == 0) = false := beq_eq_false_iff_ne.mpr c3
    have c3b1 : (t194 != 0) = true := bne_iff_ne.mpr c3
    simp only [Option.some.injEq, Prod.mk.injEq] at H
    obtain ⟨rfl, rfl⟩ := H
    go_enter Try.func23, Try.ntmps23
    go_wp2_with (first | ((with_reducible refine gate_callee (f := 31) rfl ?_); refine goesL_ (some 6) rfl rfl Try.func31 (by kernel_rfl) rfl #[.slice A0 l0.length c0] rfl (by (try simp only [List.map_toArray, List.map_cons, List.map_nil]); first | done | rfl | (simp only [List.length_drop, List.length_take]; rfl)) ?_; (with_reducible refine (koineref25_Check.calls k _ _ l0 t194 _ ?side1 ?side2 A2.out).mono ?_); (case side1 => repeat (first | exact HR0.out | (with_reducible refine Kd.C_alloc ?_ _) | (with_reducible refine Kd.C_drewN ?_ _) | (with_reducible refine Kd.C_drew ?_))); (case side2 => exact HC0.out); rintro e w7 ⟨rfl, hb⟩; refine ⟨_, rfl, ?_⟩; have n0_ := Aside0.mk (below_step (by repeat (first | (with_reducible first | exact HB.out | apply below_alloc | apply pw_below_drewN | apply below_drew1) | exact HB.out)) hb); clear HB; have HB := n0_; clear n0_; (try clear hb); (try clear hb2); (try clear hk); (try clear hi)))
    go_ret2
    exact ⟨_, by first | rfl | (simp [errW_none, errW_some] <;> rfl) | (simp [*, errW_none, errW_some] <;> rfl), by first | exact Kd.R_nil _ _ _ _ _ | exact Kd.N_nil _ _ _ _ _ | exact Kd.V_nil _ _ _ _ _ | exact Kd.Q_nil _ _ _ _ _ | exact Kd.S_nil _ _ _ _ _, by repeat (first | (with_reducible first | exact HB.out | apply below_alloc | apply pw_below_drewN | apply below_drew1) | exact HB.out)⟩
end Go.Proofs.Ythmmdmnbcecooaa.A
end

section
namespace Go.Proofs.Ythmmdmnbcecooaa.A
open Go.RowKit Go.Proofs.YthmmdmnbcecooaaW.PrintWords Go.Proofs.YthmmdmnbcecooaaW.PrintLast Go.Proofs.YthmmdmnbcecooaaW.PrintMore
set_option linter.unusedVariables false
set_option linter.unusedSimpArgs false
def noNl (l : List UInt8) : Bool := l.all (fun c => c != 10)
theorem noNl_iff : ∀ l : List UInt8, noNl l = true ↔ Lib.indexByte l 10 < 0
  | [] => by simp [noNl, Lib.indexByte]
  | c :: t => by
    have ih := noNl_iff t
    have hge := Lib.indexByte_ge t 10
    simp only [noNl, List.all_cons, Lib.indexByte, Bool.and_eq_true] at ih ⊢
    by_cases hc : c = 10
    · subst hc; simp
    · have hb : (c == 10) = false := by simpa using hc
      simp only [hb]
      constructor
      · rintro ⟨_, h⟩
        have := ih.1 h
        simp
        omega
      · intro h
        refine ⟨by simpa using hc, ih.2 ?_⟩
        simp at h
        split at h <;> omega
/-- The end of valid: number, indentation, operands. -/
def endV (i ar : Int) (kd n a b : Int) : Bool :=
  decide (0 ≤ n ∧ n ≤ 1000 ∧ (n = 0 ∨ kd = 4) ∧ (ar < 1 → a = 0) ∧ (ar < 2 → b = 0) ∧ (1 ≤ ar → 0 ≤ a ∧ a < i) ∧ (2 ≤ ar → 0 ≤ b ∧ b < i))
theorem j2_eq (m : Nat) (i ar : Int) (bad : Bool) (kd : Int) (s : ByteArray) (n a b : Int) : koineref25_valid.j2 (m + 1) i ar bad kd s n a b = some (!bad && decide ((ar < 1 → a = 0) ∧ (ar < 2 → b = 0) ∧ (1 ≤ ar → 0 ≤ a ∧ a < i) ∧ (2 ≤ ar → 0 ≤ b ∧ b < i))) := by
  rw [koineref25_valid.j2]
  cases bad with
  | true => simp
  | false =>
    rw [if_neg (by simp)]
    simp only [Bool.not_false, Bool.true_and]
    repeat' split
    all_goals
      congr 1
      first
      | (rw [eq_comm, decide_eq_true_iff]; omega)
      | (rw [eq_comm, decide_eq_false_iff_not]; omega)
      | (apply decide_eq_decide.2; omega)
theorem valid_loop (i ar kd : Int) (s : ByteArray) (n a b : Int) (hs : s.size ≤ 140737488355328) : ∀ (d j m : Nat), j + d = s.size → koineref25_valid.l0 (d + (m + 2)) i ar j kd s n a b = some (noNl (s.data.toList.drop j) && endV i ar kd n a b)
  | 0, j, m, hj => by
    have hlen := data_length s
    rw [show 0 + (m + 2) = (m + 1) + 1 by omega, koineref25_valid.l0, if_neg (by omega), List.drop_eq_nil_of_le (by omega)]
    simp only [noNl, List.all_nil, Bool.true_and]
    unfold endV
    by_cases h1 : n < 0
    · rw [if_pos h1, j2_eq]
      congr 1
      rw [eq_comm]; simp; omega
    rw [if_neg h1]
    by_cases h2 : n > 1000
    · rw [if_pos h2, j2_eq]
      congr 1
      rw [eq_comm]; simp; omega
    rw [if_neg h2]
    by_cases h3 : n = 0
    · rw [if_pos h3, j2_eq]
      congr 1
      simp only [Bool.not_false, Bool.true_and]
      apply decide_eq_decide.2
      exact ⟨fun h => ⟨by omega, by omega, Or.inl h3, h⟩, fun h => h.2.2.2⟩
    · rw [if_neg h3, j2_eq]
      congr 1
      by_cases h4 : kd = 4
      · have : (kd != 4) = false := by simpa using h4
        rw [this]
        simp only [Bool.not_false, Bool.true_and]
        apply decide_eq_decide.2
        exact ⟨fun h => ⟨by omega, by omega, Or.inr h4, h⟩, fun h => h.2.2.2⟩
      · have : (kd != 4) = true := by simpa using h4
        rw [this]
        simp only [Bool.not_true, Bool.false_and]
        rw [eq_comm, decide_eq_false_iff_not]
        omega
  | d + 1, j, m, hj => by
    have hlen := data_length s
    have hlt : j < s.data.toList.length := by omega
    rw [show d + 1 + (m + 2) = (d + (m + 2)) + 1 by omega, koineref25_valid.l0, if_pos (by omega), if_pos (by omega), List.drop_eq_getElem_cons hlt]
    have hbt : bt s j = ((s.data.toList[j]'hlt).toNat : Int) := by
      unfold bt
      rw [dif_pos (by simp; omega)]
      simp
      rfl
    rw [hbt]
    simp only [noNl, List.all_cons]
    by_cases hc : s.data.toList[j] = 10
    · rw [if_pos (by rw [hc]; rfl), hc]; rfl
    · have hb : (s.data.toList[j] != 10) = true := by simpa using hc
      rw [if_neg (fun h => hc (by apply UInt8.toNat_inj.1; have : s.data.toList[j].toNat = 10 := by omega
                                  rw [this]; rfl)), hb, wrap64_small (by omega) (by omega)]
      have := valid_loop i ar kd s n a b hs d (j + 1) m (by omega)
      rw [show ((j + 1 : Nat) : Int) = (j : Int) + 1 by omega] at this
      rw [this]
      simp [noNl]
theorem toList_nil (s : ByteArray) : s.toList = ([] : List UInt8) ↔ s.data.toList.isEmpty = true := by
  rw [ByteArray.toList_eq]; cases s.data.toList <;> simp
open Classical in
theorem valid_eq {l : List S42} {i : Nat} (hi : i < l.length) (hs : (l.getD i z42).f1.size ≤ 140737488355328) (k : Nat) (hk : (l.getD i z42).f1.size + 3 ≤ k) :
    koineref25_valid.f k l i = some (decide (NodeOk i (l.getD i z42))) := by
  obtain ⟨m, rfl⟩ : ∃ m, k = (l.getD i z42).f1.size + (m + 2) + 1 := ⟨k - (l.getD i z42).f1.size - 3, by omega⟩
  obtain ⟨kd, s, n, a, b, hx⟩ : ∃ kd s n a b, l.getD i z42 = ⟨kd, s, n, a, b⟩ := ⟨_, _, _, _, _, rfl⟩
  unfold koineref25_valid.f
  rw [if_pos (by omega), if_pos (by omega), rd42_nat, show koineref25_operands.f (l.getD i z42).f0 = some (arityI (l.getD i z42).f0) from rfl, Option.bind_some]
  rw [hx] at hs ⊢
  simp only at hs ⊢
  have hloop := valid_loop i (arityI kd) kd s n a b hs s.size 0 m (by omega)
  rw [List.drop_zero] at hloop
  have j0f : koineref25_valid.j0 (s.size + (m + 2) + 1) i (arityI kd) false kd s n a b = some (noNl s.data.toList && endV i (arityI kd) kd n a b) := by
    rw [koineref25_valid.j0, if_neg (by decide)]; exact hloop
  have j0t : koineref25_valid.j0 (s.size + (m + 2) + 1) i (arityI kd) true kd s n a b = some false := by
    rw [koineref25_valid.j0, if_pos rfl]
  by_cases hneg : arityI kd < 0
  · rw [if_pos hneg, j0t]
    congr 1
    rw [eq_comm, decide_eq_false_iff_not]
    intro h
    have hkd : 0 ≤ kd ∧ kd ≤ 6 := h.kind
    unfold arityI at hneg
    split at hneg
    · omega
    split at hneg
    · omega
    split at hneg
    · omega
    · omega
  rw [if_neg hneg]
  have hkd : 0 ≤ kd ∧ kd ≤ 6 := by
    unfold arityI at hneg
    split at hneg
    · omega
    split at hneg
    · omega
    split at hneg
    · omega
    · omega
  have har : (kd < 3 → arityI kd = 0) ∧ (kd = 3 → arityI kd = 2) ∧ (3 < kd → arityI kd = 1) :=
    ⟨fun h => arityI_small h hkd.1, fun h => by rw [h]; rfl, fun h => arityI_big h hkd.2⟩
  have hmain : (s.data.toList.isEmpty = true ∨ kd = 0 ∨ kd = 1) → (noNl s.data.toList && endV i (arityI kd) kd n a b) = decide (NodeOk i (⟨kd, s, n, a, b⟩ : S42)) := by
    intro ht
    rw [Bool.eq_iff_iff, Bool.and_eq_true, decide_eq_true_iff, noNl_iff]
    unfold endV
    rw [decide_eq_true_iff]
    constructor
    · rintro ⟨h1, h2, h3, h4, h5, h6, h7, h8⟩
      refine ⟨hkd, fun h => ?_, fun h => ?_, fun h => ?_, fun h => ?_, ⟨h2, h3⟩, fun h => ?_, h1, fun h => ?_⟩
      · simp only at h
        by_cases h' : kd = 3
        · exact h7 (by rw [har.2.1 h']; omega)
        · exact h7 (by rw [har.2.2 (by omega)]; omega)
      · exact h8 (by rw [har.2.1 h]; omega)
      · exact h5 (by rw [har.1 h]; omega)
      · simp only at h
        refine h6 ?_
        by_cases h' : kd < 3
        · rw [har.1 h']; omega
        · rw [har.2.2 (by omega)]; omega
      · rcases h4 with h4 | h4
        · exact h4
        · exact absurd h4 h
      · rcases ht with ht | ht
        · exact ht
        · exact absurd ht h
    · intro h
      refine ⟨h.nl, h.n.1, h.n.2, ?_, fun h1 => ?_, fun h1 => ?_, fun h1 => ?_, fun h1 => ?_⟩
      · by_cases h4 : kd = 4
        · exact Or.inr h4
        · exact Or.inl (h.n0 h4)
      · refine h.a0 ?_
        show kd < 3
        by_cases h' : kd = 3
        · rw [har.2.1 h'] at h1; omega
        · by_cases h'' : 3 < kd
          · rw [har.2.2 h''] at h1; omega
          · omega
      · refine h.b0 ?_
        intro h'
        rw [har.2.1 h'] at h1; omega
      · refine h.a ?_
        show 3 ≤ kd
        by_cases h' : kd < 3
        · rw [har.1 h'] at h1; omega
        · omega
      · refine h.b ?_
        show kd = 3
        by_cases h' : kd < 3
        · rw [har.1 h'] at h1; omega
        · by_cases h'' : 3 < kd
          · rw [har.2.2 h''] at h1; omega
          · omega
  by_cases he : s.toList = ([] : List UInt8)
  · rw [if_pos he, j0f, hmain (Or.inl ((toList_nil s).1 he))]
  rw [if_neg he]
  by_cases h0 : kd = 0
  · rw [if_pos h0, j0f, hmain (Or.inr (Or.inl h0))]
  rw [if_neg h0]
  by_cases h1 : kd = 1
  · rw [show (kd != 1) = false from by simpa using h1, j0f, hmain (Or.inr (Or.inr h1))]
  · rw [show (kd != 1) = true from by simpa using h1, j0t]
    congr 1
    rw [eq_comm, decide_eq_false_iff_not]
    intro h
    exact he ((toList_nil s).2 (h.t0 (by show ¬ (kd = 0 ∨ kd = 1); omega)))
end Go.Proofs.Ythmmdmnbcecooaa.A
end

section
namespace Go.Proofs.Ythmmdmnbcecooaa.A
open Go.RowKit Go.Proofs.YthmmdmnbcecooaaW.PrintWords Go.Proofs.YthmmdmnbcecooaaW.PrintLast Go.Proofs.YthmmdmnbcecooaaW.PrintMore
set_option linter.unusedVariables false
set_option linter.unusedSimpArgs false
def cntL (n : Nat) (L : List Nat) : List Int := (List.range n).map (fun j => (L.count j : Int))
theorem cntL_length (n : Nat) (L : List Nat) : (cntL n L).length = n := by simp [cntL]
theorem cntL_nil (n : Nat) : List.replicate n (0 : Int) = cntL n [] := by
  apply List.ext_getElem <;> simp [cntL]
theorem cntL_rd (n : Nat) (L : List Nat) (j : Nat) (h : j < n) : rd (cntL n L) (j : Int) = (L.count j : Int) := by
  simp [rd, cntL, List.getD, h]
theorem cntL_put (n : Nat) (L : List Nat) (j : Nat) (h : j < n) (hl : L.length ≤ 1000000) : (cntL n L).set ((j : Int)).toNat (wrap64 (rd (cntL n L) (j : Int) + 1)) = cntL n (L ++ [j]) := by
  have hc := List.count_le_length (a := j) (l := L)
  rw [cntL_rd n L j h, wrap64_small (by omega) (by omega), Int.toNat_natCast]
  apply List.ext_getElem
  · simp [cntL]
  · intro i h1 h2
    simp only [cntL, List.getElem_set, List.getElem_map, List.getElem_range, List.count_append]
    by_cases e : j = i
    · subst e; simp
    · rw [if_neg e]; simp [List.count_cons, e]
theorem ops_len (x : S42) : (opsAt x).length ≤ 2 := by
  unfold opsAt; split
  · simp
  split <;> simp
theorem refs_len : ∀ l : List S42, (refs l).length ≤ 2 * l.length
  | [] => by simp [refs]
  | x :: t => by
    have := ops_len x
    have ih := refs_len t
    show (opsAt x ++ refs t).length ≤ _
    simp only [List.length_append, List.length_cons]
    omega
open Classical in
theorem check_l1 (l : List S42) (hn : l.length ≤ 65536) : ∀ (d j k : Nat), j + d = l.length - 1 → koineref25_Check.l1 (k + d + 1) l (cntL l.length (refs l)) j =
    some (if (∀ i, j ≤ i → i < l.length - 1 → (refs l).count i = 1) ∧ 0 < l.length then 0 else 250)
  | 0, j, k, hj => by
    have hw : wrap64 ((l.length : Int) - 1) = (l.length : Int) - 1 := wrap64_small (by omega) (by omega)
    rw [koineref25_Check.l1, hw, if_neg (by omega)]
    by_cases h0 : l.length = 0
    · rw [if_pos (by omega), if_neg (by omega)]
    · rw [if_neg (by omega), if_pos ⟨fun i h1 h2 => by omega, by omega⟩]
  | d + 1, j, k, hj => by
    have hw : wrap64 ((l.length : Int) - 1) = (l.length : Int) - 1 := wrap64_small (by omega) (by omega)
    rw [koineref25_Check.l1, hw, if_pos (by omega), if_pos (by omega), if_pos (by rw [cntL_length]; omega), cntL_rd _ _ _ (by omega)]
    by_cases hc : (refs l).count j = 1
    · rw [if_pos (by omega), wrap64_small (by omega) (by omega), show (j : Int) + 1 = ((j + 1 : Nat) : Int) by omega, show k + (d + 1) = k + d + 1 by omega, check_l1 l hn d (j + 1) k (by omega)]
      congr 1
      have : ((∀ i, j + 1 ≤ i → i < l.length - 1 → (refs l).count i = 1) ∧ 0 < l.length) ↔ ((∀ i, j ≤ i → i < l.length - 1 → (refs l).count i = 1) ∧ 0 < l.length) := by
        constructor
        · rintro ⟨h1, h2⟩
          refine ⟨fun i a b => ?_, h2⟩
          by_cases e : i = j
          · subst e; exact hc
          · exact h1 i (by omega) b
        · rintro ⟨h1, h2⟩
          exact ⟨fun i a b => h1 i (by omega) b, h2⟩
      simp only [this]
    · rw [if_neg (by omega), if_neg]
      rintro ⟨h1, _⟩
      exact hc (h1 j (by omega) (by omega))
theorem ops3 {x : S42} (h : x.f0 = 3) : opsAt x = [x.f3.toNat, x.f4.toNat] := by unfold opsAt; rw [if_pos h]
theorem ops1 {x : S42} (h : 3 < x.f0) : opsAt x = [x.f3.toNat] := by unfold opsAt; rw [if_neg (by omega), if_pos h]
theorem ops0 {x : S42} (h : x.f0 < 3) : opsAt x = [] := by unfold opsAt; rw [if_neg (by omega), if_neg (by omega)]
open Classical in
theorem check_l0 (l : List S42) (hn : l.length ≤ 65536) (T : Nat) (hT : ∀ i, i < l.length → (l.getD i z42).f1.size ≤ T) (hT2 : T ≤ 140737488355328) : ∀ (d i k : Nat), i + d = l.length → l.length + T + 5 ≤ k →
    koineref25_Check.l0 (k + d) l (cntL l.length (refs (l.take i))) i = some (if (∀ j, i ≤ j → j < l.length → NodeOk j (l.getD j z42)) ∧ (∀ j, j < l.length - 1 → (refs l).count j = 1) ∧ 0 < l.length then 0 else 250)
  | 0, i, k, hi, hk => by
    obtain ⟨k, rfl⟩ : ∃ k', k = k' + (l.length - 1) + 1 + 1 := ⟨k - (l.length - 1) - 2, by omega⟩
    rw [Nat.add_zero, koineref25_Check.l0, if_neg (by omega), show l.take i = l from List.take_of_length_le (by omega)]
    have := check_l1 l hn (l.length - 1) 0 k (by omega)
    rw [show ((0 : Nat) : Int) = 0 from rfl] at this
    rw [this]
    congr 1
    have e : ((∀ i, 0 ≤ i → i < l.length - 1 → (refs l).count i = 1) ∧ 0 < l.length) ↔ ((∀ j, i ≤ j → j < l.length → NodeOk j (l.getD j z42)) ∧ (∀ j, j < l.length - 1 → (refs l).count j = 1) ∧ 0 < l.length) :=
      ⟨fun h => ⟨fun j a b => by omega, fun j a => h.1 j (by omega) a, h.2⟩, fun h => ⟨fun j _ a => h.2.1 j a, h.2.2⟩⟩
    simp only [e]
  | d + 1, i, k, hi, hk => by
    have hil : i < l.length := by omega
    rw [show k + (d + 1) = (k + d) + 1 by omega, koineref25_Check.l0, if_pos (by omega), valid_eq hil (by have := hT i hil; omega) (k + d) (by have := hT i hil; omega), Option.bind_some]
    by_cases hok : NodeOk i (l.getD i z42)
    · rw [if_pos (decide_eq_true hok), if_pos (by omega), rd42_nat, show koineref25_operands.f (l.getD i z42).f0 = some (arityI (l.getD i z42).f0) from rfl, Option.bind_some]
      have hkd := hok.kind
      have hrl := refs_len (l.take i)
      rw [List.length_take, Nat.min_eq_left (by omega)] at hrl
      have hrt := refs_take hil
      have ih := check_l0 l hn T hT hT2 d (i + 1) k (by omega) hk
      rw [hrt] at ih
      have hw : wrap64 ((i : Int) + 1) = ((i + 1 : Nat) : Int) := by rw [wrap64_small (by omega) (by omega)]; omega
      have e : ((∀ j, i + 1 ≤ j → j < l.length → NodeOk j (l.getD j z42)) ∧ (∀ j, j < l.length - 1 → (refs l).count j = 1) ∧ 0 < l.length) ↔ ((∀ j, i ≤ j → j < l.length → NodeOk j (l.getD j z42)) ∧ (∀ j, j < l.length - 1 → (refs l).count j = 1) ∧ 0 < l.length) := by
        constructor
        · rintro ⟨h1, h2⟩
          refine ⟨fun j a b => ?_, h2⟩
          by_cases e : j = i
          · subst e; exact hok
          · exact h1 j (by omega) b
        · rintro ⟨h1, h2⟩
          exact ⟨fun j a b => h1 j (by omega) b, h2⟩
      simp only [e] at ih
      rw [← ih]
      by_cases h3 : (l.getD i z42).f0 = 3
      · have e2 : arityI (l.getD i z42).f0 = 2 := by rw [h3]; rfl
        have ha := hok.a (by omega)
        have hb := hok.b h3
        obtain ⟨a, ha'⟩ := Int.eq_ofNat_of_zero_le ha.1
        obtain ⟨b, hb'⟩ := Int.eq_ofNat_of_zero_le hb.1
        rw [e2, if_pos (by omega), ha', hb', if_pos (by omega), cntL_length, if_pos (by omega), Option.bind_some, Option.bind_some, if_pos (by omega), if_pos (by omega), if_pos (by omega),
          cntL_put _ _ a (by omega) (by omega), cntL_put _ _ b (by omega) (by simp; omega), hw, ops3 h3, ha', hb']
        simp
      · by_cases hg : 3 < (l.getD i z42).f0
        · have ha := hok.a (by omega)
          obtain ⟨a, ha'⟩ := Int.eq_ofNat_of_zero_le ha.1
          rw [arityI_big hg hkd.2, if_pos (by omega), ha', if_pos (by omega), cntL_length, if_pos (by omega), Option.bind_some, Option.bind_some, if_neg (by omega),
            cntL_put _ _ a (by omega) (by omega), hw, ops1 hg, ha']
          simp
        · rw [arityI_small (by omega) hkd.1, if_neg (by omega), Option.bind_some, if_neg (by omega), hw, ops0 (by omega), List.append_nil]
    · rw [if_neg (by rw [decide_eq_false hok]; decide), if_neg]
      rintro ⟨h1, _⟩
      exact hok (h1 i (Nat.le_refl _) hil)
theorem Check_eq (l : List S42) (T : Nat) (hT : ∀ i, i < l.length → (l.getD i z42).f1.size ≤ T) (hT2 : T ≤ 140737488355328) (k : Nat) (hk : 2 * 65536 + T + 5 ≤ k) : koineref25_Check.f k l = some (checkI l) := by
  unfold koineref25_Check.f
  by_cases hb : 65536 < l.length
  · rw [if_pos (by omega), checkI_big hb]
  rw [if_neg (by omega), if_pos (by omega), Int.toNat_natCast, if_pos (by omega), cntL_nil]
  have h := check_l0 l (by omega) T hT hT2 l.length 0 (k - l.length) (by omega) (by omega)
  rw [show k - l.length + l.length = k by omega, show refs (l.take 0) = [] from by simp [refs], show ((0 : Nat) : Int) = 0 from rfl] at h
  rw [h]
  congr 1
  have e : ((∀ j, 0 ≤ j → j < l.length → NodeOk j (l.getD j z42)) ∧ (∀ j, j < l.length - 1 → (refs l).count j = 1) ∧ 0 < l.length) ↔ Good l :=
    ⟨fun h => ⟨h.2.2, by omega, fun i hi => h.1 i (by omega) hi, h.2.1⟩, fun g => ⟨fun j _ hj => g.ok j hj, g.once, g.pos⟩⟩
  rcases check_cases l (by omega) with ⟨h1, h2⟩ | ⟨h1, h2⟩
  · rw [if_pos (e.2 h1), h2]
  · rw [if_neg (fun hh => h1 (e.1 hh)), h2]
end Go.Proofs.Ythmmdmnbcecooaa.A
end

section
namespace Go.Proofs.Ythmmdmnbcecooaa.A
open Go.RowKit Go.Proofs.YthmmdmnbcecooaaW.PrintWords Go.Proofs.YthmmdmnbcecooaaW.PrintLast Go.Proofs.YthmmdmnbcecooaaW.PrintMore
attribute [local go_sem] max2_int max_two
set_option linter.unusedVariables false
set_option linter.unusedSimpArgs false
def koineref25_Choice.l0 : Nat → List (S42) → List Bool → List Int → List Bool → Int → Option (List Bool)
  | 0, _, _, _, _, _ => none
  | k + 1, x0, x1, x5, x7, x8 => if x8 < (x5.length : Int) then (if x8 < (x1.length : Int) then (if 0 ≤ x8 then (if rdOf false x1 x8 = true then ((koineref25_hard.f k x0 (rd x5 x8)).bind fun t219 => (if x7.length < 140737488355328 then (koineref25_Choice.l0 k x0 x1 x5 (x7 ++ [!t219]) (wrap64 (x8 + 1))) else (none))) else (if x7.length < 140737488355328 then (koineref25_Choice.l0 k x0 x1 x5 (x7 ++ [false]) (wrap64 (x8 + 1))) else (none))) else (none)) else (if x7.length < 140737488355328 then (koineref25_Choice.l0 k x0 x1 x5 (x7 ++ [false]) (wrap64 (x8 + 1))) else (none))) else (some x7)
def koineref25_Choice.f (k : Nat) (l0 : List (S42)) (l1 : List Bool) : Option (List Bool) := (koineref25_Groups.f k l0).bind fun bt210 => (koineref25_Choice.l0 k l0 l1 bt210.1 (([] : List Bool)) 0)
set_option maxHeartbeats 8000000 in
set_option maxRecDepth 100000 in
theorem koineref25_Choice.calls (k : Nat) (A0 : Option Addr) (c0 : Nat) (l0 : List (S42)) (A1 : Option Addr) (c1 : Nat) (l1 : List Bool) (r : List Bool) (w : World) (hr0 : Kd.C k42 w A0 l0.length l0) (hc0 : l0.length ≤ c0) (hr1 : Kd.C Kd.bool w A1 l1.length l1) (hc1 : l1.length ≤ c1) (h : koineref25_Choice.f k l0 l1 = some r) :
    Calls Try.prog 26 #[.slice A0 l0.length c0, .slice A1 l1.length c1] w fun e w' => ∃ v0_ : Value, e = .returned (v0_) ∧ Kd.R Kd.bool 4 w' w.heap.size (fun _ => True) v0_ r ∧ Below w.heap.size w w' := by
  have HR0 := Aside0.mk hr0
  have HC0 := Aside0.mk hc0
  clear hr0 hc0
  have HR1 := Aside0.mk hr1
  have HC1 := Aside0.mk hc1
  clear hr1 hc1
  have HB := Aside0.mk (Below.refl w.heap.size w)
  have H : ((koineref25_Groups.f k l0).bind fun bt210 => (koineref25_Choice.l0 k l0 l1 bt210.1 (([] : List Bool)) 0)) = some r := h
  clear h
  replace H := Option.bind_eq_some_iff.mp H
  obtain ⟨⟨t210, t211⟩, A30, H⟩ := H
  replace H : (koineref25_Choice.l0 k l0 l1 t210 (([] : List Bool)) 0) = some r := H
  have A3 := Aside0.mk A30
  clear A30
  obtain ⟨y214, hy214⟩ : ∃ y_ : List Bool, y_ = (([] : List Bool)) := ⟨_, rfl⟩
  replace H : (koineref25_Choice.l0 k l0 l1 t210 y214 0) = some r := by first | (rw [hy214]; with_reducible exact H) | (have H2_ := (Option.bind_some _ _).symm.trans H; rw [hy214]; with_reducible exact H2_) | (have H2_ := (Option.bind_some _ _).symm.trans H; with_reducible exact H2_) | with_reducible exact H | (rw [hy214]; exact H) | exact H
  have Ny214 := Aside0.mk hy214
  clear hy214
  have H' := Aside0.mk H
  clear H
  go_enter Try.func26, Try.ntmps26
  go_wp2_with (first | ((with_reducible refine gate_callee (f := 23) rfl ?_); refine goesL_ (some 12) rfl rfl Try.func23 (by kernel_rfl) rfl #[.slice A0 l0.length c0] rfl (by (try simp only [List.map_toArray, List.map_cons, List.map_nil]); first | done | rfl | (simp only [List.length_drop, List.length_take]; rfl)) ?_; (with_reducible refine (koineref25_Groups.calls k _ _ l0 t210 t211 _ ?side1 ?side2 A3.out).mono ?_); (case side1 => repeat (first | exact HR0.out | (with_reducible refine Kd.C_alloc ?_ _) | (with_reducible refine Kd.C_drewN ?_ _) | (with_reducible refine Kd.C_drew ?_))); (case side2 => exact HC0.out); rintro e w4 ⟨v212, rfl, ho0, hb⟩; refine ⟨_, rfl, ?_⟩; have n0_ := Aside0.mk (Kd.R_lower ho0 (below_size (by repeat (first | (with_reducible first | exact HB.out | apply below_alloc | apply pw_below_drewN | apply below_drew1) | exact HB.out)))); have n1_ := Aside0.mk (below_step (by repeat (first | (with_reducible first | exact HB.out | apply below_alloc | apply pw_below_drewN | apply below_drew1) | exact HB.out)) hb); clear HB; have HO213 := n0_; have HB := n1_; clear n0_ n1_; (try clear hb); (try clear hb2); (try clear hk); (try clear hi); (try clear ho0)) | ((with_reducible refine gate_dst (N := 15) rfl ?_); refine Kd.R_lit Kd.bool _ 4 ?hg (N := 15) ?hd (xs := ([] : List Bool)) (inner := []) (ok := fun _ => True) (okp := fun _ => True) ?hr ?hp (fun _ hk => hk) trivial (Below.refl _ _) (Nat.le_refl _) (by simp) ?_; (case hd => rfl); (case hg => rfl); (case hr => first | (go_simp; done) | (go_simp; rfl)); (case hp => exact (Reps.none _ _)); intro v215 w5 ho6 hb hg_ hnew_; clear hg_ hnew_; (first | rw [← Ny214.out] at ho6 | (simp only [Int.reduceToNat] at ho6; rw [← Ny214.out] at ho6)); have n0_ := Aside0.mk (Kd.R_below (by (with_reducible repeat (first | apply Kd.R_alloc | apply Kd.R_drewN | apply Kd.R_drew)); exact HO213.out) hb); have n1_ := Aside0.mk (Kd.R_lower ho6 (below_size (by repeat (first | (with_reducible first | exact HB.out | apply below_alloc | apply pw_below_drewN | apply below_drew1) | exact HB.out)))); have n2_ := Aside0.mk (below_step (by repeat (first | (with_reducible first | exact HB.out | apply below_alloc | apply pw_below_drewN | apply below_drew1) | exact HB.out)) hb); clear HO213; clear HB; have HO213 := n0_; have HO216 := n1_; have HB := n2_; clear n0_ n1_ n2_; clear hb ho6))
  go_loopg [7, 8] k (fun kq v7 v8 w' => ∃ (x7_1 : List Bool) (x8_1 : Int), v8 = .int .i64 x8_1 ∧ Aside0 (koineref25_Choice.l0 kq l0 l1 t210 x7_1 x8_1 = some r) ∧ Aside0 (kq ≤ k) ∧ Aside0 (Kd.R (Kd.int .i64) 3 w' w.heap.size (fun _ => True) v212 t210) ∧ Aside0 (Kd.R Kd.bool 4 w' w.heap.size (fun _ => True) v7 x7_1) ∧ Aside0 (Below w.heap.size w w'))
  case atStart => exact ⟨(y214), (0), (by first | rfl | (simp; done) | (simp [*]; done)), H', ⟨Nat.le_refl _⟩, ⟨by (with_reducible repeat (first | apply Kd.R_alloc | apply Kd.R_drewN | apply Kd.R_drew)); exact HO213.out⟩, ⟨by (with_reducible repeat (first | apply Kd.R_alloc | apply Kd.R_drewN | apply Kd.R_drew)); exact HO216.out⟩, ⟨by repeat (first | (with_reducible first | exact HB.out | apply below_alloc | apply pw_below_drewN | apply below_drew1) | exact HB.out)⟩⟩
  case round =>
    clear H'
    try clear c1
    try clear c2
    try clear p2
    obtain ⟨x7_1, x8_1, rfl, HA, HK1, HO_5, HO_7, HB⟩ := hrel
    cases gk with
    | zero => exact absurd HA.out (by simp [koineref25_Choice.l0])
    | succ k1 =>
      have H := HA.out
      clear HA
      simp only [koineref25_Choice.l0] at H
      by_cases c7 : x8_1 < (t210.length : Int)
      · rw [if_pos c7] at H
        have c7b0 : decide (x8_1 < (t210.length : Int)) = true := decide_eq_true c7
        clear c7
        by_cases c8 : x8_1 < (l1.length : Int)
        · rw [if_pos c8] at H
          have c8b0 : decide (x8_1 < (l1.length : Int)) = true := decide_eq_true c8
          clear c8
          by_cases c9 : 0 ≤ x8_1
          · rw [if_pos c9] at H
            have c9b0 : decide (0 ≤ x8_1) = true := decide_eq_true c9
            clear c9
            obtain ⟨bq10, hbq10⟩ : ∃ b_ : Bool, b_ = (rdOf false l1 x8_1) := ⟨_, rfl⟩
            replace H : (if bq10 = true then ((koineref25_hard.f k1 l0 (rd t210 x8_1)).bind fun t219 => (if x7_1.length < 140737488355328 then (koineref25_Choice.l0 k1 l0 l1 t210 (x7_1 ++ [!t219]) (wrap64 (x8_1 + 1))) else (none))) else (if x7_1.length < 140737488355328 then (koineref25_Choice.l0 k1 l0 l1 t210 (x7_1 ++ [false]) (wrap64 (x8_1 + 1))) else (none))) = some r := by rw [← hbq10] at H; exact H
            have Nbq10 := Aside0.mk hbq10
            clear hbq10
            by_cases c11 : bq10 = true
            · subst c11
              have H1 : ((koineref25_hard.f k1 l0 (rd t210 x8_1)).bind fun t219 => (if x7_1.length < 140737488355328 then (koineref25_Choice.l0 k1 l0 l1 t210 (x7_1 ++ [!t219]) (wrap64 (x8_1 + 1))) else (none))) = some r := by rw [if_pos rfl] at H; exact H
              clear H
              have H := H1
              clear H1
              replace H := Option.bind_eq_some_iff.mp H
              obtain ⟨t219, A120, H⟩ := H
              replace H : (if x7_1.length < 140737488355328 then (koineref25_Choice.l0 k1 l0 l1 t210 (x7_1 ++ [!t219]) (wrap64 (x8_1 + 1))) else (none)) = some r := H
              have A12 := Aside0.mk A120
              clear A120
              by_cases c13 : x7_1.length < 140737488355328
              · rw [if_pos c13] at H
                have LMc13 := Aside0.mk c13
                clear c13
                obtain ⟨y220, hy220⟩ : ∃ y_ : List Bool, y_ = (x7_1 ++ [!t219]) := ⟨_, rfl⟩
                replace H : (koineref25_Choice.l0 k1 l0 l1 t210 y220 (wrap64 (x8_1 + 1))) = some r := by first | (rw [hy220]; with_reducible exact H) | (have H2_ := (Option.bind_some _ _).symm.trans H; rw [hy220]; with_reducible exact H2_) | (have H2_ := (Option.bind_some _ _).symm.trans H; with_reducible exact H2_) | with_reducible exact H | (rw [hy220]; exact H) | exact H
                have Ny220 := Aside0.mk hy220
                clear hy220
                have H' := Aside0.mk H
                clear H
                obtain ⟨Ao14, co14, eo14⟩ := Kd.R_slice HO_5.out
                subst eo14
                have p217 : 0 ≤ (x8_1 : Int) := of_decide_eq_true (by first | (with_reducible assumption) | assumption)
                have q217 : x8_1 < (l1.length : Int) := of_decide_eq_true (by first | (with_reducible assumption) | assumption)
                obtain ⟨ad217, e217, hx217_0⟩ := Kd.at_bool HR1.out x8_1 p217 q217
                (try rw [← Nbq10.out] at hx217_0)
                cases e217
                replace hx217_0 := (HB.out.cell (World.block_lt_of_cell? w _ hx217_0)).trans hx217_0
                replace p217 := eq_true p217
                replace q217 := eq_true q217
                have p218 : 0 ≤ (x8_1 : Int) := of_decide_eq_true (by first | (with_reducible assumption) | assumption)
                have q218 : x8_1 < (t210.length : Int) := of_decide_eq_true (by first | (with_reducible assumption) | assumption)
                obtain ⟨ad218, e218, hx218_0⟩ := Kd.at_int (Kd.R_reads' HO_5.out).2.2 x8_1 p218 q218
                cases e218
                replace p218 := eq_true p218
                replace q218 := eq_true q218
                go_wp2_with (first | (go_at_call 55; (with_reducible refine (koineref25_hard.calls k1 _ _ l0 (rd t210 x8_1) t219 _ ?side1 ?side2 A12.out).mono ?_); (case side1 => repeat (first | exact (Kd.C_below HR0.out HB.out) | (with_reducible refine Kd.C_alloc ?_ _) | (with_reducible refine Kd.C_drewN ?_ _) | (with_reducible refine Kd.C_drew ?_))); (case side2 => exact HC0.out); rintro e w15 ⟨rfl, hb⟩; have n0_ := Aside0.mk (Kd.R_below (by (with_reducible repeat (first | apply Kd.R_alloc | apply Kd.R_drewN | apply Kd.R_drew)); exact HO_5.out) hb); have n1_ := Aside0.mk (Kd.R_below (by (with_reducible repeat (first | apply Kd.R_alloc | apply Kd.R_drewN | apply Kd.R_drew)); exact HO_7.out) hb); have n2_ := Aside0.mk (below_step (by repeat (first | (with_reducible first | exact HB.out | apply below_alloc | apply pw_below_drewN | apply below_drew1) | exact HB.out)) hb); clear HO_5; clear HO_7; clear HB; have HO_5 := n0_; have HO_7 := n1_; have HB := n2_; clear n0_ n1_ n2_; (try clear hb); (try clear hb2); (try clear hk); (try clear hi)) | ((with_reducible refine gate_builtin (b := .append) (xs := #[.tmp 32, .tmp 43]) rfl ?_); at_builtin; refine Kd.R_append Kd.bool (w0 := w) w.heap.size rfl (.tmp 32) (.tmp 43) 23 4 (.bool false) 1 rfl Try.underlying23 info4 rfl (by decide) (by omega) u7 x7_1 (!t219) [.bool (!t219)] (fun _ => True) (fun _ => False) rfl rfl ?aP (fun _ hk => hk.elim) ?aF ?aO ?aB ?aS ?aL ?_; (case aP => exact rfl); (case aB => exact (by repeat (first | (with_reducible first | exact HB.out | apply below_alloc | apply pw_below_drewN | apply below_drew1) | exact HB.out))); (case aF => exact (fun _ _ => trivial)); (case aO => exact (by (with_reducible repeat (first | apply Kd.R_alloc | apply Kd.R_drewN | apply Kd.R_drew)); exact HO_7.out)); (case aS => exact (below_size (by repeat (first | (with_reducible first | exact HB.out | apply below_alloc | apply pw_below_drewN | apply below_drew1) | exact HB.out)))); (case aL => have := LMc13.out; omega); intro v221 w16 ho hb hg hat; rw [← Ny220.out] at ho; have n0_ := Aside0.mk (Kd.R_over' (by (with_reducible repeat (first | apply Kd.R_alloc | apply Kd.R_drewN | apply Kd.R_drew)); exact HO_5.out) (Kd.R_typed (by (with_reducible repeat (first | apply Kd.R_alloc | apply Kd.R_drewN | apply Kd.R_drew)); exact HO_7.out)) (by decide) hg); have n1_ := Aside0.mk (hb); have n2_ := Aside0.mk (ho); clear HO_5; clear HB; clear HO_7; have HO_5 := n0_; have HB := n1_; have HO222 := n2_; clear n0_ n1_ n2_; clear ho hb hg hat))
                go_roundg k1
                case measure => have := HK1.out; omega
                case rel => exact ⟨(y220), (wrap64 (x8_1 + 1)), (by first | rfl | (simp; done) | (simp [*]; done)), H', ⟨by have := HK1.out; omega⟩, ⟨by (with_reducible repeat (first | apply Kd.R_alloc | apply Kd.R_drewN | apply Kd.R_drew)); exact HO_5.out⟩, ⟨by (with_reducible repeat (first | apply Kd.R_alloc | apply Kd.R_drewN | apply Kd.R_drew)); exact HO222.out⟩, ⟨by repeat (first | (with_reducible first | exact HB.out | apply below_alloc | apply pw_below_drewN | apply below_drew1) | exact HB.out)⟩⟩
              · rw [if_neg c13] at H
                exact absurd H (by simp)
            · replace c11 := Bool.eq_false_iff.mpr c11
              subst c11
              have H1 : (if x7_1.length < 140737488355328 then (koineref25_Choice.l0 k1 l0 l1 t210 (x7_1 ++ [false]) (wrap64 (x8_1 + 1))) else (none)) = some r := by rw [if_neg (show ¬ (false = true) by decide)] at H; exact H
              clear H
              have H := H1
              clear H1
              by_cases c17 : x7_1.length < 140737488355328
              · rw [if_pos c17] at H
                have LMc17 := Aside0.mk c17
                clear c17
                obtain ⟨y223, hy223⟩ : ∃ y_ : List Bool, y_ = (x7_1 ++ [false]) := ⟨_, rfl⟩
                replace H : (koineref25_Choice.l0 k1 l0 l1 t210 y223 (wrap64 (x8_1 + 1))) = some r := by first | (rw [hy223]; with_reducible exact H) | (have H2_ := (Option.bind_some _ _).symm.trans H; rw [hy223]; with_reducible exact H2_) | (have H2_ := (Option.bind_some _ _).symm.trans H; with_reducible exact H2_) | with_reducible exact H | (rw [hy223]; exact H) | exact H
                have Ny223 := Aside0.mk hy223
                clear hy223
                have H' := Aside0.mk H
                clear H
                obtain ⟨Ao18, co18, eo18⟩ := Kd.R_slice HO_5.out
                subst eo18
                have p217 : 0 ≤ (x8_1 : Int) := of_decide_eq_true (by first | (with_reducible assumption) | assumption)
                have q217 : x8_1 < (l1.length : Int) := of_decide_eq_true (by first | (with_reducible assumption) | assumption)
                obtain ⟨ad217, e217, hx217_0⟩ := Kd.at_bool HR1.out x8_1 p217 q217
                (try rw [← Nbq10.out] at hx217_0)
                cases e217
                replace hx217_0 := (HB.out.cell (World.block_lt_of_cell? w _ hx217_0)).trans hx217_0
                replace p217 := eq_true p217
                replace q217 := eq_true q217
                go_wp2_with (first | ((with_reducible refine gate_builtin (b := .append) (xs := #[.tmp 32, .tmp 43]) rfl ?_); at_builtin; refine Kd.R_append Kd.bool (w0 := w) w.heap.size rfl (.tmp 32) (.tmp 43) 23 4 (.bool false) 1 rfl Try.underlying23 info4 rfl (by decide) (by omega) u7 x7_1 false [.bool false] (fun _ => True) (fun _ => False) rfl rfl ?aP (fun _ hk => hk.elim) ?aF ?aO ?aB ?aS ?aL ?_; (case aP => exact rfl); (case aB => exact (by repeat (first | (with_reducible first | exact HB.out | apply below_alloc | apply pw_below_drewN | apply below_drew1) | exact HB.out))); (case aF => exact (fun _ _ => trivial)); (case aO => exact (by (with_reducible repeat (first | apply Kd.R_alloc | apply Kd.R_drewN | apply Kd.R_drew)); exact HO_7.out)); (case aS => exact (below_size (by repeat (first | (with_reducible first | exact HB.out | apply below_alloc | apply pw_below_drewN | apply below_drew1) | exact HB.out)))); (case aL => have := LMc17.out; omega); intro v224 w19 ho hb hg hat; rw [← Ny223.out] at ho; have n0_ := Aside0.mk (Kd.R_over' (by (with_reducible repeat (first | apply Kd.R_alloc | apply Kd.R_drewN | apply Kd.R_drew)); exact HO_5.out) (Kd.R_typed (by (with_reducible repeat (first | apply Kd.R_alloc | apply Kd.R_drewN | apply Kd.R_drew)); exact HO_7.out)) (by decide) hg); have n1_ := Aside0.mk (hb); have n2_ := Aside0.mk (ho); clear HO_5; clear HB; clear HO_7; have HO_5 := n0_; have HB := n1_; have HO225 := n2_; clear n0_ n1_ n2_; clear ho hb hg hat))
                go_roundg k1
                case measure => have := HK1.out; omega
                case rel => exact ⟨(y223), (wrap64 (x8_1 + 1)), (by first | rfl | (simp; done) | (simp [*]; done)), H', ⟨by have := HK1.out; omega⟩, ⟨by (with_reducible repeat (first | apply Kd.R_alloc | apply Kd.R_drewN | apply Kd.R_drew)); exact HO_5.out⟩, ⟨by (with_reducible repeat (first | apply Kd.R_alloc | apply Kd.R_drewN | apply Kd.R_drew)); exact HO225.out⟩, ⟨by repeat (first | (with_reducible first | exact HB.out | apply below_alloc | apply pw_below_drewN | apply below_drew1) | exact HB.out)⟩⟩
              · rw [if_neg c17] at H
                exact absurd H (by simp)
          · rw [if_neg c9] at H
            exact absurd H (by simp)
        · rw [if_neg c8] at H
          have c8b0 : decide (x8_1 < (l1.length : Int)) = false := decide_eq_false c8
          clear c8
          by_cases c20 : x7_1.length < 140737488355328
          · rw [if_pos c20] at H
            have LMc20 := Aside0.mk c20
            clear c20
            obtain ⟨y226, hy226⟩ : ∃ y_ : List Bool, y_ = (x7_1 ++ [false]) := ⟨_, rfl⟩
            replace H : (koineref25_Choice.l0 k1 l0 l1 t210 y226 (wrap64 (x8_1 + 1))) = some r := by first | (rw [hy226]; with_reducible exact H) | (have H2_ := (Option.bind_some _ _).symm.trans H; rw [hy226]; with_reducible exact H2_) | (have H2_ := (Option.bind_some _ _).symm.trans H; with_reducible exact H2_) | with_reducible exact H | (rw [hy226]; exact H) | exact H
            have Ny226 := Aside0.mk hy226
            clear hy226
            have H' := Aside0.mk H
            clear H
            obtain ⟨Ao21, co21, eo21⟩ := Kd.R_slice HO_5.out
            subst eo21
            go_wp2_with (first | ((with_reducible refine gate_builtin (b := .append) (xs := #[.tmp 32, .tmp 43]) rfl ?_); at_builtin; refine Kd.R_append Kd.bool (w0 := w) w.heap.size rfl (.tmp 32) (.tmp 43) 23 4 (.bool false) 1 rfl Try.underlying23 info4 rfl (by decide) (by omega) u7 x7_1 false [.bool false] (fun _ => True) (fun _ => False) rfl rfl ?aP (fun _ hk => hk.elim) ?aF ?aO ?aB ?aS ?aL ?_; (case aP => exact rfl); (case aB => exact (by repeat (first | (with_reducible first | exact HB.out | apply below_alloc | apply pw_below_drewN | apply below_drew1) | exact HB.out))); (case aF => exact (fun _ _ => trivial)); (case aO => exact (by (with_reducible repeat (first | apply Kd.R_alloc | apply Kd.R_drewN | apply Kd.R_drew)); exact HO_7.out)); (case aS => exact (below_size (by repeat (first | (with_reducible first | exact HB.out | apply below_alloc | apply pw_below_drewN | apply below_drew1) | exact HB.out)))); (case aL => have := LMc20.out; omega); intro v227 w22 ho hb hg hat; rw [← Ny226.out] at ho; have n0_ := Aside0.mk (Kd.R_over' (by (with_reducible repeat (first | apply Kd.R_alloc | apply Kd.R_drewN | apply Kd.R_drew)); exact HO_5.out) (Kd.R_typed (by (with_reducible repeat (first | apply Kd.R_alloc | apply Kd.R_drewN | apply Kd.R_drew)); exact HO_7.out)) (by decide) hg); have n1_ := Aside0.mk (hb); have n2_ := Aside0.mk (ho); clear HO_5; clear HB; clear HO_7; have HO_5 := n0_; have HB := n1_; have HO228 := n2_; clear n0_ n1_ n2_; clear ho hb hg hat))
            go_roundg k1
            case measure => have := HK1.out; omega
            case rel => exact ⟨(y226), (wrap64 (x8_1 + 1)), (by first | rfl | (simp; done) | (simp [*]; done)), H', ⟨by have := HK1.out; omega⟩, ⟨by (with_reducible repeat (first | apply Kd.R_alloc | apply Kd.R_drewN | apply Kd.R_drew)); exact HO_5.out⟩, ⟨by (with_reducible repeat (first | apply Kd.R_alloc | apply Kd.R_drewN | apply Kd.R_drew)); exact HO228.out⟩, ⟨by repeat (first | (with_reducible first | exact HB.out | apply below_alloc | apply pw_below_drewN | apply below_drew1) | exact HB.out)⟩⟩
          · rw [if_neg c20] at H
            exact absurd H (by simp)
      · rw [if_neg c7] at H
        have c7b0 : decide (x8_1 < (t210.length : Int)) = false := decide_eq_false c7
        clear c7
        obtain rfl := Option.some.inj H
        obtain ⟨Ao23, co23, eo23⟩ := Kd.R_slice HO_5.out
        subst eo23
        go_wp2
        go_ret
        exact ⟨_, by first | rfl | (simp [errW_none, errW_some] <;> rfl) | (simp [*, errW_none, errW_some] <;> rfl), by (with_reducible repeat (first | apply Kd.R_alloc | apply Kd.R_drewN | apply Kd.R_drew)); exact HO_7.out, by repeat (first | (with_reducible first | exact HB.out | apply below_alloc | apply pw_below_drewN | apply below_drew1) | exact HB.out)⟩
end Go.Proofs.Ythmmdmnbcecooaa.A
end

section
namespace Go.Proofs.Ythmmdmnbcecooaa.A
open Go.RowKit Go.Proofs.YthmmdmnbcecooaaW.PrintWords Go.Proofs.YthmmdmnbcecooaaW.PrintLast Go.Proofs.YthmmdmnbcecooaaW.PrintMore
set_option linter.unusedVariables false
set_option linter.unusedSimpArgs false
theorem groups_le_any {l : List S42} (h : Good l) (i : Nat) (hi : i < l.length) : (groupsI (tree l i)).length ≤ 65536 := by
  have h0 := (check_zero_iff l).2 h
  have hone := check_once h0
  have hnd := groups_nodup h.ok hone i hi
  have hb := nodup_bound l.length _ hnd (fun g hg => by
    have := Up.le h.ok (groups_up h.ok i hi g hg)
    omega)
  have := h.le
  omega
theorem Groups_eq (l : List S42) (T : Nat) (hT : ∀ i, i < l.length → (l.getD i z42).f1.size ≤ T) (hT2 : T ≤ 140737488355328) (k : Nat) (hk : 4 * 65536 + T + 5 ≤ k) : koineref25_Groups.f k l = document_Groups.f l := by
  unfold koineref25_Groups.f document_Groups.f
  rw [Check_eq l T hT hT2 k (by omega), Option.bind_some]
  by_cases hc : checkI l = 0
  · have hg := (check_zero_iff l).1 hc
    have hp := hg.pos
    have hle := hg.le
    rw [if_pos hc, if_pos hc, wrap64_small (by omega) (by omega), show (l.length : Int) - 1 = ((l.length - 1 : Nat) : Int) by omega,
      walk_eq hg.ok (fun i hi => by have := groups_le_any hg i hi; omega) (l.length - 1) k (by omega) (by omega)]
    rfl
  · rw [if_neg hc, if_neg hc]
/-- The choice: for each group, the flag if there is one and the group has no hard break. -/
def choiceGo (l : List S42) (fl : List Bool) : List Nat → Nat → List Bool
  | [], _ => []
  | g :: t, j => (fl.getD j false && !hardT (tree l g)) :: choiceGo l fl t (j + 1)
def choiceL (l : List S42) (fl : List Bool) : List Bool := choiceGo l fl (groupsI (tree l (l.length - 1))) 0
theorem choice_loop {l : List S42} (hg : Good l) (fl : List Bool) (gs : List Nat) (hgs : ∀ g ∈ gs, g < l.length) (hlen : gs.length ≤ 65536) : ∀ (d j k : Nat) (out : List Bool), j + d = gs.length → out.length = j → 65536 + 1 ≤ k →
    koineref25_Choice.l0 (k + d + 1) l fl (gs.map Int.ofNat) out j = some (out ++ choiceGo l fl (gs.drop j) j)
  | 0, j, k, out, hj, ho, hk => by
    rw [koineref25_Choice.l0, if_neg (by simp; omega), List.drop_eq_nil_of_le (by omega)]
    simp [choiceGo]
  | d + 1, j, k, out, hj, ho, hk => by
    have hlt : j < gs.length := by omega
    have hw : wrap64 ((j : Int) + 1) = ((j + 1 : Nat) : Int) := by rw [wrap64_small (by omega) (by omega)]; omega
    have hle := hg.le
    rw [show k + (d + 1) + 1 = (k + d + 1) + 1 by omega, koineref25_Choice.l0, if_pos (by simp; omega), List.drop_eq_getElem_cons hlt, hw]
    have hgj := hgs gs[j] (List.getElem_mem hlt)
    have hrd : rd (gs.map Int.ofNat) (j : Int) = ((gs[j] : Nat) : Int) := by simp [rd, List.getD, hlt]
    have fin : ∀ b : Bool, b = (fl.getD j false && !hardT (tree l gs[j])) → koineref25_Choice.l0 (k + d + 1) l fl (gs.map Int.ofNat) (out ++ [b]) ((j + 1 : Nat) : Int) = some (out ++ choiceGo l fl (gs[j] :: gs.drop (j + 1)) j) := by
      intro b hb
      rw [choice_loop hg fl gs hgs hlen d (j + 1) k (out ++ [b]) (by omega) (by simp; omega) hk, choiceGo, hb, List.append_assoc]
      rfl
    by_cases hf : j < fl.length
    · have hrf : rdOf false fl (j : Int) = fl.getD j false := by simp [rdOf]
      rw [if_pos (by omega), if_pos (by omega), hrf]
      by_cases hb : fl.getD j false = true
      · rw [if_pos hb, hrd, hard_eq hg.ok _ _ (by omega) hgj, Option.bind_some, if_pos (by omega)]
        exact fin _ (by rw [hb]; rfl)
      · have hb' : fl.getD j false = false := by simpa using hb
        rw [if_neg hb, if_pos (by omega)]
        exact fin _ (by rw [hb']; rfl)
    · rw [if_neg (by omega), if_pos (by omega)]
      refine fin _ ?_
      have : fl.getD j false = false := by simp [List.getD, List.getElem?_eq_none (by omega : fl.length ≤ j)]
      rw [this]; rfl
theorem Choice_eq {l : List S42} (hg : Good l) (T : Nat) (hT : ∀ i, i < l.length → (l.getD i z42).f1.size ≤ T) (hT2 : T ≤ 140737488355328) (fl : List Bool) (k : Nat) (hk : 8 * 65536 + T + 5 ≤ k) : koineref25_Choice.f k l fl = some (choiceL l fl) := by
  unfold koineref25_Choice.f
  have hp := hg.pos
  have hgl := groups_le_any hg (l.length - 1) (by omega)
  rw [Groups_eq l T hT hT2 k (by omega)]
  unfold document_Groups.f
  rw [if_pos ((check_zero_iff l).2 hg), Option.bind_some]
  obtain ⟨k, rfl⟩ : ∃ k', k = k' + (groupsI (tree l (l.length - 1))).length + 1 := ⟨k - (groupsI (tree l (l.length - 1))).length - 1, by omega⟩
  have := choice_loop hg fl (groupsI (tree l (l.length - 1))) (fun g hgm => by
    have := Up.le hg.ok (groups_up hg.ok _ (by omega) g hgm)
    omega) hgl (groupsI (tree l (l.length - 1))).length 0 k [] (by omega) rfl (by omega)
  rw [show ((0 : Nat) : Int) = 0 from rfl, List.drop_zero, List.nil_append] at this
  exact this
end Go.Proofs.Ythmmdmnbcecooaa.A
end
