-- written by wip/mkprint.py's copy of the kit's printer, with hand-proved functions given
import Derived.Test.YthmmdmnbcecooaaA0
import Derived.Test.YthmmdmnbcecooaaA1
import Derived.Test.YthmmdmnbcecooaaC2
import Derived.Test.YthmmdmnbcecooaaS1
namespace Go.Proofs.Ythmmdmnbcecooaa.A
open Go.RowKit Go.Proofs.YthmmdmnbcecooaaW.PrintWords Go.Proofs.YthmmdmnbcecooaaW.PrintLast Go.Proofs.YthmmdmnbcecooaaW.PrintMore
attribute [local go_sem] max2_int min2_int max_two min_two max_three min_three max_four min_four   -- for this text's walks alone
set_option linter.unusedVariables false
set_option linter.unusedSimpArgs false

attribute [local go_sem high] eqA36
-- LAW
/-! ### koinelaw25_DocumentCosts: function 13 -/
mutual
def koinelaw25_DocumentCosts.j0 : Nat → ByteArray → ByteArray → Int → Bool → Bool → Option (Bool)
  | 0, _, _, _, _, _ => none
  | k + 1, x0, x1, x2, x7, x31 => if x31 = true then (some x7) else ((document_Cost.f x0 x2).bind fun bt478 => ((document_Cost.f x1 x2).bind fun bt481 => (if x0.size + 1 ≤ 9223372036854775807 then (if (x0 ++ (⟨#[10]⟩ : ByteArray)).size + x1.size ≤ 9223372036854775807 then ((document_Cost.f ((x0 ++ (⟨#[10]⟩ : ByteArray)) ++ x1) x2).bind fun bt484 => ((document_Cost.f x0 (wrap64 (x2 + 1))).bind fun bt487 => (if bt484.1 = (wrap64 (bt478.1 + bt481.1)) then (if bt484.2 = (wrap64 ((wrap64 (bt478.2 + bt481.2)) + 1)) then (if bt487.1 > bt478.1 then (koinelaw25_DocumentCosts.j1 k x0 x2 x7 true bt478.1 bt478.2) else (koinelaw25_DocumentCosts.j1 k x0 x2 x7 (bt487.2 != bt478.2) bt478.1 bt478.2)) else (koinelaw25_DocumentCosts.j1 k x0 x2 x7 true bt478.1 bt478.2)) else (koinelaw25_DocumentCosts.j1 k x0 x2 x7 true bt478.1 bt478.2)))) else (none)) else (none))))
def koinelaw25_DocumentCosts.j1 : Nat → ByteArray → Int → Bool → Bool → Int → Int → Option (Bool)
  | 0, _, _, _, _, _, _ => none
  | k + 1, x0, x2, x7, x81, x481000, x481001 => if x81 = true then (some false) else (koinelaw25_DocumentCosts.l0 k x0 x2 x7 0 0 0 x481000 x481001)
def koinelaw25_DocumentCosts.l0 : Nat → ByteArray → Int → Bool → Int → Int → Int → Int → Int → Option (Bool)
  | 0, _, _, _, _, _, _, _, _ => none
  | k + 1, x0, x2, x7, x12, x13, x14, x481000, x481001 => if x14 < (x0.size : Int) then (if 0 ≤ x14 then (if (bt x0 x14) = 10 then (koinelaw25_DocumentCosts.l0 k x0 x2 x7 (mx x12 0) 0 (wrap64 (x14 + 1)) x481000 x481001) else (koinelaw25_DocumentCosts.l0 k x0 x2 x7 (mx x12 (wrap64 (x13 + 1))) (wrap64 (x13 + 1)) (wrap64 (x14 + 1)) x481000 x481001)) else (none)) else (if ((x481000 == 0) == (decide (x12 ≤ x2))) = true then ((document_Cost.f x0 (-5)).bind fun bt490 => ((document_Cost.f x0 0).bind fun bt492 => (if (bt490.1 == bt492.1 && (bt490.2 == bt492.2)) = true then (some x7) else (some false)))) else (some false))
end
def koinelaw25_DocumentCosts.f (k : Nat) (a0 : ByteArray) (a1 : ByteArray) (a2 : Int) : Option (Bool) := (koinelaw25_sanity.f).bind fun t477 => (if (a0.size : Int) > 200 then (koinelaw25_DocumentCosts.j0 k a0 a1 a2 t477 true) else (if (a1.size : Int) > 200 then (koinelaw25_DocumentCosts.j0 k a0 a1 a2 t477 true) else (if a2 < 0 then (koinelaw25_DocumentCosts.j0 k a0 a1 a2 t477 true) else (koinelaw25_DocumentCosts.j0 k a0 a1 a2 t477 (decide (a2 > 1000))))))
theorem koinelaw25_DocumentCosts.mono_l : ∀ k, (∀ y0 y1 y2 y3 y4, LeO (koinelaw25_DocumentCosts.j0 k y0 y1 y2 y3 y4) (koinelaw25_DocumentCosts.j0 (k + 1) y0 y1 y2 y3 y4)) ∧ (∀ y0 y1 y2 y3 y4 y5, LeO (koinelaw25_DocumentCosts.j1 k y0 y1 y2 y3 y4 y5) (koinelaw25_DocumentCosts.j1 (k + 1) y0 y1 y2 y3 y4 y5)) ∧ (∀ y0 y1 y2 y3 y4 y5 y6 y7, LeO (koinelaw25_DocumentCosts.l0 k y0 y1 y2 y3 y4 y5 y6 y7) (koinelaw25_DocumentCosts.l0 (k + 1) y0 y1 y2 y3 y4 y5 y6 y7))
  | 0 => ⟨fun _ _ _ _ _ r h => by simp [koinelaw25_DocumentCosts.j0] at h, fun _ _ _ _ _ _ r h => by simp [koinelaw25_DocumentCosts.j1] at h, fun _ _ _ _ _ _ _ _ r h => by simp [koinelaw25_DocumentCosts.l0] at h⟩
  | k + 1 => by
    obtain ⟨ih0, ih1, ih2⟩ := koinelaw25_DocumentCosts.mono_l k
    refine ⟨?_, ?_, ?_⟩
    · intro y0 y1 y2 y3 y4
      unfold koinelaw25_DocumentCosts.j0
      repeat' first
      | (with_reducible exact ih0 _ _ _ _ _)
      | (with_reducible exact ih1 _ _ _ _ _ _)
      | (with_reducible exact ih2 _ _ _ _ _ _ _ _)
      | (with_reducible exact LeO.refl _)
      | (with_reducible exact LeO.none _)
      | (with_reducible refine LeO.ite ?_ ?_)
      | (with_reducible refine LeO.bind ?_ (fun _ => ?_))
      | exact ih0 _ _ _ _ _
      | exact ih1 _ _ _ _ _ _
      | exact ih2 _ _ _ _ _ _ _ _
      | exact LeO.none _
      | refine LeO.ite ?_ ?_
      | refine LeO.bind ?_ (fun _ => ?_)
    · intro y0 y1 y2 y3 y4 y5
      unfold koinelaw25_DocumentCosts.j1
      repeat' first
      | (with_reducible exact ih0 _ _ _ _ _)
      | (with_reducible exact ih1 _ _ _ _ _ _)
      | (with_reducible exact ih2 _ _ _ _ _ _ _ _)
      | (with_reducible exact LeO.refl _)
      | (with_reducible exact LeO.none _)
      | (with_reducible refine LeO.ite ?_ ?_)
      | (with_reducible refine LeO.bind ?_ (fun _ => ?_))
      | exact ih0 _ _ _ _ _
      | exact ih1 _ _ _ _ _ _
      | exact ih2 _ _ _ _ _ _ _ _
      | exact LeO.none _
      | refine LeO.ite ?_ ?_
      | refine LeO.bind ?_ (fun _ => ?_)
    · intro y0 y1 y2 y3 y4 y5 y6 y7
      unfold koinelaw25_DocumentCosts.l0
      repeat' first
      | (with_reducible exact ih0 _ _ _ _ _)
      | (with_reducible exact ih1 _ _ _ _ _ _)
      | (with_reducible exact ih2 _ _ _ _ _ _ _ _)
      | (with_reducible exact LeO.refl _)
      | (with_reducible exact LeO.none _)
      | (with_reducible refine LeO.ite ?_ ?_)
      | (with_reducible refine LeO.bind ?_ (fun _ => ?_))
      | exact ih0 _ _ _ _ _
      | exact ih1 _ _ _ _ _ _
      | exact ih2 _ _ _ _ _ _ _ _
      | exact LeO.none _
      | refine LeO.ite ?_ ?_
      | refine LeO.bind ?_ (fun _ => ?_)
theorem koinelaw25_DocumentCosts.mono : ∀ a0 a1 a2 k, LeO (koinelaw25_DocumentCosts.f k a0 a1 a2) (koinelaw25_DocumentCosts.f (k + 1) a0 a1 a2) := by
  intro a0 a1 a2 k
  obtain ⟨ih0, ih1, ih2⟩ := koinelaw25_DocumentCosts.mono_l k
  unfold koinelaw25_DocumentCosts.f
  repeat' first
      | (with_reducible exact ih0 _ _ _ _ _)
      | (with_reducible exact ih1 _ _ _ _ _ _)
      | (with_reducible exact ih2 _ _ _ _ _ _ _ _)
      | (with_reducible exact LeO.refl _)
      | (with_reducible exact LeO.none _)
      | (with_reducible refine LeO.ite ?_ ?_)
      | (with_reducible refine LeO.bind ?_ (fun _ => ?_))
      | exact ih0 _ _ _ _ _
      | exact ih1 _ _ _ _ _ _
      | exact ih2 _ _ _ _ _ _ _ _
      | exact LeO.none _
      | refine LeO.ite ?_ ?_
      | refine LeO.bind ?_ (fun _ => ?_)
set_option maxHeartbeats 8000000 in
set_option maxRecDepth 100000 in
theorem koinelaw25_DocumentCosts.calls (k : Nat) (a0 : ByteArray) (a1 : ByteArray) (a2 : Int) (r : Bool) (w : World) (h : koinelaw25_DocumentCosts.f k a0 a1 a2 = some r) :
    Calls Try.prog 13 #[.string a0, .string a1, .int .i64 a2] w fun e w' => e = .returned (.bool r) ∧ Below w.heap.size w w' := by
  have hu36 := Try.underlying36
  have HB := Aside0.mk (Below.refl w.heap.size w)
  have H : ((koinelaw25_sanity.f).bind fun t477 => (if (a0.size : Int) > 200 then (koinelaw25_DocumentCosts.j0 k a0 a1 a2 t477 true) else (if (a1.size : Int) > 200 then (koinelaw25_DocumentCosts.j0 k a0 a1 a2 t477 true) else (if a2 < 0 then (koinelaw25_DocumentCosts.j0 k a0 a1 a2 t477 true) else (koinelaw25_DocumentCosts.j0 k a0 a1 a2 t477 (decide (a2 > 1000))))))) = some r := h
  clear h
  replace H := Option.bind_eq_some_iff.mp H
  obtain ⟨t477, A40, H⟩ := H
  replace H : (if (a0.size : Int) > 200 then (koinelaw25_DocumentCosts.j0 k a0 a1 a2 t477 true) else (if (a1.size : Int) > 200 then (koinelaw25_DocumentCosts.j0 k a0 a1 a2 t477 true) else (if a2 < 0 then (koinelaw25_DocumentCosts.j0 k a0 a1 a2 t477 true) else (koinelaw25_DocumentCosts.j0 k a0 a1 a2 t477 (decide (a2 > 1000)))))) = some r := H
  have A4 := Aside0.mk A40
  clear A40
  have HC5 := Aside0.mk H
  clear H
  go_enter Try.func13, Try.ntmps13
  go_upto_region 2 with (first | ((with_reducible refine gate_callee (f := 20) rfl ?_); refine goesL_ (some 15) rfl rfl Try.func20 (by kernel_rfl) rfl #[] rfl (by (try simp only [List.map_toArray, List.map_cons, List.map_nil]); first | done | rfl | (simp only [List.length_drop, List.length_take]; rfl)) ?_; (with_reducible refine (koinelaw25_sanity.calls  t477 _ A4.out).mono ?_); rintro e w6 ⟨rfl, hb⟩; refine ⟨_, rfl, ?_⟩; have n0_ := Aside0.mk (below_step (by repeat (first | (with_reducible first | exact HB.out | apply below_alloc | apply pw_below_drewN | apply below_drew1) | exact HB.out)) hb); clear HB; have HB := n0_; clear n0_; (try clear hb); (try clear hb2); (try clear hk); (try clear hi)))
  (try simp only [Act.put, List.setIfInBounds_toArray, List.set_cons_zero, List.set_cons_succ])
  go_cut [31] (fun v31 wc => ∃ (kq : Nat) (x31_4 : Bool), v31 = .bool x31_4 ∧ Aside0 (koinelaw25_DocumentCosts.j0 kq a0 a1 a2 t477 x31_4 = some r) ∧ Aside0 (kq ≤ k) ∧ Aside0 (Below w.heap.size w wc))
  case first =>
    have H := HC5.out
    clear HC5
    by_cases c7 : (a0.size : Int) > 200
    · rw [if_pos c7] at H
      have c7b0 : decide (200 < (a0.size : Int)) = true := decide_eq_true c7
      have c7b1 : decide (200 < a0.size) = true := decide_eq_true (by omega)
      clear c7
      (first | rw [c7b0] | (simp only [i64_w, i32_w]; rw [c7b0]) | skip)
      have H' := Aside0.mk H
      clear H
      go_wp2
      go_meet
      case rel => exact ⟨_, (true), (by first | rfl | (simp; done) | (simp [*]; done)), H', ⟨by first | omega | exact Nat.le_refl _⟩, ⟨by repeat (first | (with_reducible first | exact HB.out | apply below_alloc | apply pw_below_drewN | apply below_drew1) | exact HB.out)⟩⟩
    · rw [if_neg c7] at H
      have c7b0 : decide (200 < (a0.size : Int)) = false := decide_eq_false c7
      have c7b1 : decide (200 < a0.size) = false := decide_eq_false (by omega)
      clear c7
      (first | rw [c7b0] | (simp only [i64_w, i32_w]; rw [c7b0]) | skip)
      by_cases c8 : (a1.size : Int) > 200
      · rw [if_pos c8] at H
        have c8b0 : decide (200 < (a1.size : Int)) = true := decide_eq_true c8
        have c8b1 : decide (200 < a1.size) = true := decide_eq_true (by omega)
        clear c8
        have H' := Aside0.mk H
        clear H
        go_wp2
        go_meet
        case rel => exact ⟨_, (true), (by first | rfl | (simp; done) | (simp [*]; done)), H', ⟨by first | omega | exact Nat.le_refl _⟩, ⟨by repeat (first | (with_reducible first | exact HB.out | apply below_alloc | apply pw_below_drewN | apply below_drew1) | exact HB.out)⟩⟩
      · rw [if_neg c8] at H
        have c8b0 : decide (200 < (a1.size : Int)) = false := decide_eq_false c8
        have c8b1 : decide (200 < a1.size) = false := decide_eq_false (by omega)
        clear c8
        by_cases c9 : a2 < 0
        · rw [if_pos c9] at H
          have c9b0 : decide (a2 < 0) = true := decide_eq_true c9
          clear c9
          have H' := Aside0.mk H
          clear H
          go_wp2
          go_meet
          case rel => exact ⟨_, (true), (by first | rfl | (simp; done) | (simp [*]; done)), H', ⟨by first | omega | exact Nat.le_refl _⟩, ⟨by repeat (first | (with_reducible first | exact HB.out | apply below_alloc | apply pw_below_drewN | apply below_drew1) | exact HB.out)⟩⟩
        · rw [if_neg c9] at H
          have c9b0 : decide (a2 < 0) = false := decide_eq_false c9
          clear c9
          have H' := Aside0.mk H
          clear H
          go_wp2
          go_meet
          case rel => exact ⟨_, (decide (a2 > 1000)), (by first | rfl | (simp; done) | (simp [*]; done)), H', ⟨by first | omega | exact Nat.le_refl _⟩, ⟨by repeat (first | (with_reducible first | exact HB.out | apply below_alloc | apply pw_below_drewN | apply below_drew1) | exact HB.out)⟩⟩
  case rest =>
    clear HC5
    try clear c1
    try clear c2
    try clear p2
    try clear c7
    try clear c7b0
    try clear c7b1
    try clear c8
    try clear c8b0
    try clear c8b1
    try clear c9
    try clear c9b0
    obtain ⟨kq, x31_4, rfl, HA, HJ4, HB⟩ := hcut
    cases kq with
    | zero => exact absurd HA.out (by simp [koinelaw25_DocumentCosts.j0])
    | succ kj4 =>
      have H := HA.out
      clear HA
      simp only [koinelaw25_DocumentCosts.j0] at H
      by_cases c10 : x31_4 = true
      · subst c10
        have H1 : (some t477) = some r := by rw [if_pos rfl] at H; exact H
        clear H
        have H := H1
        clear H1
        obtain rfl := Option.some.inj H
        go_wp2
        go_ret
        exact ⟨by first | rfl | (simp [errW_none, errW_some] <;> rfl) | (simp [*, errW_none, errW_some] <;> rfl), by repeat (first | (with_reducible first | exact HB.out | apply below_alloc | apply pw_below_drewN | apply below_drew1) | exact HB.out)⟩
      · replace c10 := Bool.eq_false_iff.mpr c10
        subst c10
        have H1 : ((document_Cost.f a0 a2).bind fun bt478 => ((document_Cost.f a1 a2).bind fun bt481 => (if a0.size + 1 ≤ 9223372036854775807 then (if (a0 ++ (⟨#[10]⟩ : ByteArray)).size + a1.size ≤ 9223372036854775807 then ((document_Cost.f ((a0 ++ (⟨#[10]⟩ : ByteArray)) ++ a1) a2).bind fun bt484 => ((document_Cost.f a0 (wrap64 (a2 + 1))).bind fun bt487 => (if bt484.1 = (wrap64 (bt478.1 + bt481.1)) then (if bt484.2 = (wrap64 ((wrap64 (bt478.2 + bt481.2)) + 1)) then (if bt487.1 > bt478.1 then (koinelaw25_DocumentCosts.j1 kj4 a0 a2 t477 true bt478.1 bt478.2) else (koinelaw25_DocumentCosts.j1 kj4 a0 a2 t477 (bt487.2 != bt478.2) bt478.1 bt478.2)) else (koinelaw25_DocumentCosts.j1 kj4 a0 a2 t477 true bt478.1 bt478.2)) else (koinelaw25_DocumentCosts.j1 kj4 a0 a2 t477 true bt478.1 bt478.2)))) else (none)) else (none)))) = some r := by rw [if_neg (show ¬ (false = true) by decide)] at H; exact H
        clear H
        have H := H1
        clear H1
        replace H := Option.bind_eq_some_iff.mp H
        obtain ⟨⟨t478, t479⟩, A110, H⟩ := H
        replace H : ((document_Cost.f a1 a2).bind fun bt481 => (if a0.size + 1 ≤ 9223372036854775807 then (if (a0 ++ (⟨#[10]⟩ : ByteArray)).size + a1.size ≤ 9223372036854775807 then ((document_Cost.f ((a0 ++ (⟨#[10]⟩ : ByteArray)) ++ a1) a2).bind fun bt484 => ((document_Cost.f a0 (wrap64 (a2 + 1))).bind fun bt487 => (if bt484.1 = (wrap64 (t478 + bt481.1)) then (if bt484.2 = (wrap64 ((wrap64 (t479 + bt481.2)) + 1)) then (if bt487.1 > t478 then (koinelaw25_DocumentCosts.j1 kj4 a0 a2 t477 true t478 t479) else (koinelaw25_DocumentCosts.j1 kj4 a0 a2 t477 (bt487.2 != t479) t478 t479)) else (koinelaw25_DocumentCosts.j1 kj4 a0 a2 t477 true t478 t479)) else (koinelaw25_DocumentCosts.j1 kj4 a0 a2 t477 true t478 t479)))) else (none)) else (none))) = some r := H
        have A11 := Aside0.mk A110
        clear A110
        replace H := Option.bind_eq_some_iff.mp H
        obtain ⟨⟨t481, t482⟩, A120, H⟩ := H
        replace H : (if a0.size + 1 ≤ 9223372036854775807 then (if (a0 ++ (⟨#[10]⟩ : ByteArray)).size + a1.size ≤ 9223372036854775807 then ((document_Cost.f ((a0 ++ (⟨#[10]⟩ : ByteArray)) ++ a1) a2).bind fun bt484 => ((document_Cost.f a0 (wrap64 (a2 + 1))).bind fun bt487 => (if bt484.1 = (wrap64 (t478 + t481)) then (if bt484.2 = (wrap64 ((wrap64 (t479 + t482)) + 1)) then (if bt487.1 > t478 then (koinelaw25_DocumentCosts.j1 kj4 a0 a2 t477 true t478 t479) else (koinelaw25_DocumentCosts.j1 kj4 a0 a2 t477 (bt487.2 != t479) t478 t479)) else (koinelaw25_DocumentCosts.j1 kj4 a0 a2 t477 true t478 t479)) else (koinelaw25_DocumentCosts.j1 kj4 a0 a2 t477 true t478 t479)))) else (none)) else (none)) = some r := H
        have A12 := Aside0.mk A120
        clear A120
        by_cases c13 : a0.size + 1 ≤ 9223372036854775807
        · rw [if_pos c13] at H
          have c13b0 := eq_true c13
          have c13b1 : decide (a0.size + 1 ≤ 9223372036854775807) = true := decide_eq_true c13
          try have c13b2 : (9223372036854775807 < a0.size + 1) = False := eq_false (Nat.not_lt.2 c13)
          by_cases c14 : (a0 ++ (⟨#[10]⟩ : ByteArray)).size + a1.size ≤ 9223372036854775807
          · rw [if_pos c14] at H
            have c14b0 := eq_true c14
            have c14b1 : decide ((a0 ++ (⟨#[10]⟩ : ByteArray)).size + a1.size ≤ 9223372036854775807) = true := decide_eq_true c14
            try have c14b2 : (9223372036854775807 < (a0 ++ (⟨#[10]⟩ : ByteArray)).size + a1.size) = False := eq_false (Nat.not_lt.2 c14)
            replace H := Option.bind_eq_some_iff.mp H
            obtain ⟨⟨t484, t485⟩, A150, H⟩ := H
            replace H : ((document_Cost.f a0 (wrap64 (a2 + 1))).bind fun bt487 => (if t484 = (wrap64 (t478 + t481)) then (if t485 = (wrap64 ((wrap64 (t479 + t482)) + 1)) then (if bt487.1 > t478 then (koinelaw25_DocumentCosts.j1 kj4 a0 a2 t477 true t478 t479) else (koinelaw25_DocumentCosts.j1 kj4 a0 a2 t477 (bt487.2 != t479) t478 t479)) else (koinelaw25_DocumentCosts.j1 kj4 a0 a2 t477 true t478 t479)) else (koinelaw25_DocumentCosts.j1 kj4 a0 a2 t477 true t478 t479))) = some r := H
            have A15 := Aside0.mk A150
            clear A150
            replace H := Option.bind_eq_some_iff.mp H
            obtain ⟨⟨t487, t488⟩, A160, H⟩ := H
            replace H : (if t484 = (wrap64 (t478 + t481)) then (if t485 = (wrap64 ((wrap64 (t479 + t482)) + 1)) then (if t487 > t478 then (koinelaw25_DocumentCosts.j1 kj4 a0 a2 t477 true t478 t479) else (koinelaw25_DocumentCosts.j1 kj4 a0 a2 t477 (t488 != t479) t478 t479)) else (koinelaw25_DocumentCosts.j1 kj4 a0 a2 t477 true t478 t479)) else (koinelaw25_DocumentCosts.j1 kj4 a0 a2 t477 true t478 t479)) = some r := H
            have A16 := Aside0.mk A160
            clear A160
            have HC17 := Aside0.mk H
            clear H
            go_upto_region 8 with (first | ((with_reducible refine gate_callee (f := 27) rfl ?_); refine goesL_ (some 35) rfl rfl Try.func27 (by kernel_rfl) rfl #[.string a0, .int .i64 a2] rfl (by (try simp only [List.map_toArray, List.map_cons, List.map_nil]); first | done | rfl | (simp only [List.length_drop, List.length_take]; rfl)) ?_; (with_reducible refine (document_Cost.calls a0 a2 t478 t479 _ A11.out).mono ?_); rintro e w18 ⟨rfl, hb⟩; refine ⟨_, rfl, ?_⟩; have n0_ := Aside0.mk (below_step (by repeat (first | (with_reducible first | exact HB.out | apply below_alloc | apply pw_below_drewN | apply below_drew1) | exact HB.out)) hb); clear HB; have HB := n0_; clear n0_; (try clear hb); (try clear hb2); (try clear hk); (try clear hi)) | ((with_reducible refine gate_dst (N := 8) rfl ?_); (try (refine gate_guard (by rfl) ?_; dsimp only)); refine box_event ?hg (N := 8) ?hd (cs := #[.int .i64 0, .int .i64 0]) (t := 36) ?hr ?_; (case hd => rfl); (case hg => rfl); (case hr => first | (go_simp; done) | (go_simp; rfl)); intro gb480 hg w19 hbox hb; have n0_ := Aside0.mk (below_step (by repeat (first | (with_reducible first | exact HB.out | apply below_alloc | apply pw_below_drewN | apply below_drew1) | exact HB.out)) hb); have n1_ := Aside0.mk (hbox); have n2_ := Aside0.mk ((by rw [hg]; exact (below_size (by repeat (first | (with_reducible first | exact HB.out | apply below_alloc | apply pw_below_drewN | apply below_drew1) | exact HB.out))) : w.heap.size ≤ gb480)); have n3_ := Aside0.mk ((by rw [hg]; exact (below_size (by repeat (first | (with_reducible first | exact HB.out | apply below_alloc | apply pw_below_drewN | apply below_drew1) | exact HB.out))) : w.heap.size ≤ gb480)); clear HB; have HB := n0_; have BK480 := n1_; have GW480 := n2_; have GE480 := n3_; clear n0_ n1_ n2_ n3_; clear hb hbox hg; have hcz20_0 : w19.cell? ⟨gb480, 0, none⟩ = some (.int .i64 0) := (blk_cell BK480.out 0).trans rfl; have hcz20_1 : w19.cell? ⟨gb480, 1, none⟩ = some (.int .i64 0) := (blk_cell BK480.out 1).trans rfl; have hfz20_0 := blk_frozen BK480.out 0; have hfz20_1 := blk_frozen BK480.out 1) | ((with_reducible refine gate_callee (f := 27) rfl ?_); refine goesL_ (some 38) rfl rfl Try.func27 (by kernel_rfl) rfl #[.string a1, .int .i64 a2] rfl (by (try simp only [List.map_toArray, List.map_cons, List.map_nil]); first | done | rfl | (simp only [List.length_drop, List.length_take]; rfl)) ?_; (with_reducible refine (document_Cost.calls a1 a2 t481 t482 _ A12.out).mono ?_); rintro e w21 ⟨rfl, hb⟩; refine ⟨_, rfl, ?_⟩; have n0_ := Aside0.mk (blk_below (g := gb480) (o := .cells #[.int .i64 t478, .int .i64 t479] 36 (0, 0)) (by (with_reducible repeat (first | refine blk_drewN ?_ _ | refine blk_drew ?_ | refine blk_alloc ?_ _)); refine blk_put (cs := #[.int .i64 t478, .int .i64 0]) ?_ 1 _ rfl; (with_reducible repeat (first | refine blk_drewN ?_ _ | refine blk_drew ?_ | refine blk_alloc ?_ _)); refine blk_put (cs := #[.int .i64 0, .int .i64 0]) ?_ 0 _ rfl; (with_reducible repeat (first | refine blk_drewN ?_ _ | refine blk_drew ?_ | refine blk_alloc ?_ _)); exact BK480.out) hb); have n1_ := Aside0.mk (below_step (by repeat (first | (with_reducible first | exact HB.out | apply below_alloc | apply pw_below_drewN | apply below_drew1 | refine below_set ?_ GE480.out) | exact HB.out)) hb); clear BK480; clear HB; have BK480 := n0_; have HB := n1_; clear n0_ n1_; (try clear hb); (try clear hb2); (try clear hk); (try clear hi)) | ((with_reducible refine gate_dst (N := 9) rfl ?_); (try (refine gate_guard (by rfl) ?_; dsimp only)); refine box_event ?hg (N := 9) ?hd (cs := #[.int .i64 0, .int .i64 0]) (t := 36) ?hr ?_; (case hd => rfl); (case hg => rfl); (case hr => first | (go_simp; done) | (go_simp; rfl)); intro gb483 hg w22 hbox hb; have n0_ := Aside0.mk (blk_below (g := gb480) (o := .cells #[.int .i64 t478, .int .i64 t479] 36 (0, 0)) (by (with_reducible repeat (first | refine blk_drewN ?_ _ | refine blk_drew ?_ | refine blk_alloc ?_ _)); exact BK480.out) hb); have n1_ := Aside0.mk (below_step (by repeat (first | (with_reducible first | exact HB.out | apply below_alloc | apply pw_below_drewN | apply below_drew1 | refine below_set ?_ GE480.out) | exact HB.out)) hb); have n2_ := Aside0.mk (hbox); have n3_ := Aside0.mk ((by rw [hg]; exact (below_size (by repeat (first | (with_reducible first | exact HB.out | apply below_alloc | apply pw_below_drewN | apply below_drew1 | refine below_set ?_ GE480.out) | exact HB.out))) : w.heap.size ≤ gb483)); have n4_ := Aside0.mk ((by rw [hg]; exact (below_size (by repeat (first | (with_reducible first | exact HB.out | apply below_alloc | apply pw_below_drewN | apply below_drew1 | refine below_set ?_ GE480.out) | exact HB.out))) : w.heap.size ≤ gb483)); have n5_ := Aside0.mk ((by rw [hg]; exact Nat.ne_of_lt (blk_lt (g := gb480) (o := .cells #[.int .i64 t478, .int .i64 t479] 36 (0, 0)) (by (with_reducible repeat (first | refine blk_drewN ?_ _ | refine blk_drew ?_ | refine blk_alloc ?_ _)); exact BK480.out)) : gb480 ≠ gb483)); have n6_ := Aside0.mk ((by rw [hg]; exact Nat.ne_of_gt (blk_lt (g := gb480) (o := .cells #[.int .i64 t478, .int .i64 t479] 36 (0, 0)) (by (with_reducible repeat (first | refine blk_drewN ?_ _ | refine blk_drew ?_ | refine blk_alloc ?_ _)); exact BK480.out)) : gb483 ≠ gb480)); clear BK480; clear HB; have BK480 := n0_; have HB := n1_; have BK483 := n2_; have GW483 := n3_; have GE483 := n4_; have NB480_483 := n5_; have NB483_480 := n6_; clear n0_ n1_ n2_ n3_ n4_ n5_ n6_; clear hb hbox hg; have hnb23 := NB483_480.out; have hnc23 := NB480_483.out; have hcz24_0 : w22.cell? ⟨gb483, 0, none⟩ = some (.int .i64 0) := (blk_cell BK483.out 0).trans rfl; have hcz24_1 : w22.cell? ⟨gb483, 1, none⟩ = some (.int .i64 0) := (blk_cell BK483.out 1).trans rfl; have hfz24_0 := blk_frozen BK483.out 0; have hfz24_1 := blk_frozen BK483.out 1) | ((with_reducible refine gate_callee (f := 27) rfl ?_); refine goesL_ (some 44) rfl rfl Try.func27 (by kernel_rfl) rfl #[.string ((a0 ++ (⟨#[10]⟩ : ByteArray)) ++ a1), .int .i64 a2] rfl (by (try simp only [List.map_toArray, List.map_cons, List.map_nil]); first | done | rfl | (simp only [List.length_drop, List.length_take]; rfl)) ?_; (with_reducible refine (document_Cost.calls ((a0 ++ (⟨#[10]⟩ : ByteArray)) ++ a1) a2 t484 t485 _ A15.out).mono ?_); rintro e w25 ⟨rfl, hb⟩; refine ⟨_, rfl, ?_⟩; have n0_ := Aside0.mk (blk_below (g := gb480) (o := .cells #[.int .i64 t478, .int .i64 t479] 36 (0, 0)) (by (with_reducible repeat (first | refine blk_drewN ?_ _ | refine blk_drew ?_ | refine blk_alloc ?_ _)); refine blk_far ?_ NB480_483.out _; (with_reducible repeat (first | refine blk_drewN ?_ _ | refine blk_drew ?_ | refine blk_alloc ?_ _)); refine blk_far ?_ NB480_483.out _; (with_reducible repeat (first | refine blk_drewN ?_ _ | refine blk_drew ?_ | refine blk_alloc ?_ _)); exact BK480.out) hb); have n1_ := Aside0.mk (blk_below (g := gb483) (o := .cells #[.int .i64 t481, .int .i64 t482] 36 (0, 0)) (by (with_reducible repeat (first | refine blk_drewN ?_ _ | refine blk_drew ?_ | refine blk_alloc ?_ _)); refine blk_put (cs := #[.int .i64 t481, .int .i64 0]) ?_ 1 _ rfl; (with_reducible repeat (first | refine blk_drewN ?_ _ | refine blk_drew ?_ | refine blk_alloc ?_ _)); refine blk_put (cs := #[.int .i64 0, .int .i64 0]) ?_ 0 _ rfl; (with_reducible repeat (first | refine blk_drewN ?_ _ | refine blk_drew ?_ | refine blk_alloc ?_ _)); exact BK483.out) hb); have n2_ := Aside0.mk (below_step (by repeat (first | (with_reducible first | exact HB.out | apply below_alloc | apply pw_below_drewN | apply below_drew1 | refine below_set ?_ GE480.out | refine below_set ?_ GE483.out) | exact HB.out)) hb); clear BK480; clear BK483; clear HB; have BK480 := n0_; have BK483 := n1_; have HB := n2_; clear n0_ n1_ n2_; (try clear hb); (try clear hb2); (try clear hk); (try clear hi)) | ((with_reducible refine gate_dst (N := 10) rfl ?_); (try (refine gate_guard (by rfl) ?_; dsimp only)); refine box_event ?hg (N := 10) ?hd (cs := #[.int .i64 0, .int .i64 0]) (t := 36) ?hr ?_; (case hd => rfl); (case hg => rfl); (case hr => first | (go_simp; done) | (go_simp; rfl)); intro gb486 hg w26 hbox hb; have n0_ := Aside0.mk (blk_below (g := gb480) (o := .cells #[.int .i64 t478, .int .i64 t479] 36 (0, 0)) (by (with_reducible repeat (first | refine blk_drewN ?_ _ | refine blk_drew ?_ | refine blk_alloc ?_ _)); exact BK480.out) hb); have n1_ := Aside0.mk (blk_below (g := gb483) (o := .cells #[.int .i64 t481, .int .i64 t482] 36 (0, 0)) (by (with_reducible repeat (first | refine blk_drewN ?_ _ | refine blk_drew ?_ | refine blk_alloc ?_ _)); exact BK483.out) hb); have n2_ := Aside0.mk (below_step (by repeat (first | (with_reducible first | exact HB.out | apply below_alloc | apply pw_below_drewN | apply below_drew1 | refine below_set ?_ GE480.out | refine below_set ?_ GE483.out) | exact HB.out)) hb); have n3_ := Aside0.mk (hbox); have n4_ := Aside0.mk ((by rw [hg]; exact (below_size (by repeat (first | (with_reducible first | exact HB.out | apply below_alloc | apply pw_below_drewN | apply below_drew1 | refine below_set ?_ GE480.out | refine below_set ?_ GE483.out) | exact HB.out))) : w.heap.size ≤ gb486)); have n5_ := Aside0.mk ((by rw [hg]; exact (below_size (by repeat (first | (with_reducible first | exact HB.out | apply below_alloc | apply pw_below_drewN | apply below_drew1 | refine below_set ?_ GE480.out | refine below_set ?_ GE483.out) | exact HB.out))) : w.heap.size ≤ gb486)); have n6_ := Aside0.mk ((by rw [hg]; exact Nat.ne_of_lt (blk_lt (g := gb480) (o := .cells #[.int .i64 t478, .int .i64 t479] 36 (0, 0)) (by (with_reducible repeat (first | refine blk_drewN ?_ _ | refine blk_drew ?_ | refine blk_alloc ?_ _)); exact BK480.out)) : gb480 ≠ gb486)); have n7_ := Aside0.mk ((by rw [hg]; exact Nat.ne_of_gt (blk_lt (g := gb480) (o := .cells #[.int .i64 t478, .int .i64 t479] 36 (0, 0)) (by (with_reducible repeat (first | refine blk_drewN ?_ _ | refine blk_drew ?_ | refine blk_alloc ?_ _)); exact BK480.out)) : gb486 ≠ gb480)); have n8_ := Aside0.mk ((by rw [hg]; exact Nat.ne_of_lt (blk_lt (g := gb483) (o := .cells #[.int .i64 t481, .int .i64 t482] 36 (0, 0)) (by (with_reducible repeat (first | refine blk_drewN ?_ _ | refine blk_drew ?_ | refine blk_alloc ?_ _)); exact BK483.out)) : gb483 ≠ gb486)); have n9_ := Aside0.mk ((by rw [hg]; exact Nat.ne_of_gt (blk_lt (g := gb483) (o := .cells #[.int .i64 t481, .int .i64 t482] 36 (0, 0)) (by (with_reducible repeat (first | refine blk_drewN ?_ _ | refine blk_drew ?_ | refine blk_alloc ?_ _)); exact BK483.out)) : gb486 ≠ gb483)); clear BK480; clear BK483; clear HB; have BK480 := n0_; have BK483 := n1_; have HB := n2_; have BK486 := n3_; have GW486 := n4_; have GE486 := n5_; have NB480_486 := n6_; have NB486_480 := n7_; have NB483_486 := n8_; have NB486_483 := n9_; clear n0_ n1_ n2_ n3_ n4_ n5_ n6_ n7_ n8_ n9_; clear hb hbox hg; have hnb27 := NB486_480.out; have hnc27 := NB480_486.out; have hnb28 := NB486_483.out; have hnc28 := NB483_486.out; have hcz29_0 : w26.cell? ⟨gb486, 0, none⟩ = some (.int .i64 0) := (blk_cell BK486.out 0).trans rfl; have hcz29_1 : w26.cell? ⟨gb486, 1, none⟩ = some (.int .i64 0) := (blk_cell BK486.out 1).trans rfl; have hfz29_0 := blk_frozen BK486.out 0; have hfz29_1 := blk_frozen BK486.out 1) | ((with_reducible refine gate_callee (f := 27) rfl ?_); refine goesL_ (some 48) rfl rfl Try.func27 (by kernel_rfl) rfl #[.string a0, .int .i64 (wrap64 (a2 + 1))] rfl (by (try simp only [List.map_toArray, List.map_cons, List.map_nil]); first | done | rfl | (simp only [List.length_drop, List.length_take]; rfl)) ?_; (with_reducible refine (document_Cost.calls a0 (wrap64 (a2 + 1)) t487 t488 _ A16.out).mono ?_); rintro e w30 ⟨rfl, hb⟩; refine ⟨_, rfl, ?_⟩; have n0_ := Aside0.mk (blk_below (g := gb480) (o := .cells #[.int .i64 t478, .int .i64 t479] 36 (0, 0)) (by (with_reducible repeat (first | refine blk_drewN ?_ _ | refine blk_drew ?_ | refine blk_alloc ?_ _)); refine blk_far ?_ NB480_486.out _; (with_reducible repeat (first | refine blk_drewN ?_ _ | refine blk_drew ?_ | refine blk_alloc ?_ _)); refine blk_far ?_ NB480_486.out _; (with_reducible repeat (first | refine blk_drewN ?_ _ | refine blk_drew ?_ | refine blk_alloc ?_ _)); exact BK480.out) hb); have n1_ := Aside0.mk (blk_below (g := gb483) (o := .cells #[.int .i64 t481, .int .i64 t482] 36 (0, 0)) (by (with_reducible repeat (first | refine blk_drewN ?_ _ | refine blk_drew ?_ | refine blk_alloc ?_ _)); refine blk_far ?_ NB483_486.out _; (with_reducible repeat (first | refine blk_drewN ?_ _ | refine blk_drew ?_ | refine blk_alloc ?_ _)); refine blk_far ?_ NB483_486.out _; (with_reducible repeat (first | refine blk_drewN ?_ _ | refine blk_drew ?_ | refine blk_alloc ?_ _)); exact BK483.out) hb); have n2_ := Aside0.mk (blk_below (g := gb486) (o := .cells #[.int .i64 t484, .int .i64 t485] 36 (0, 0)) (by (with_reducible repeat (first | refine blk_drewN ?_ _ | refine blk_drew ?_ | refine blk_alloc ?_ _)); refine blk_put (cs := #[.int .i64 t484, .int .i64 0]) ?_ 1 _ rfl; (with_reducible repeat (first | refine blk_drewN ?_ _ | refine blk_drew ?_ | refine blk_alloc ?_ _)); refine blk_put (cs := #[.int .i64 0, .int .i64 0]) ?_ 0 _ rfl; (with_reducible repeat (first | refine blk_drewN ?_ _ | refine blk_drew ?_ | refine blk_alloc ?_ _)); exact BK486.out) hb); have n3_ := Aside0.mk (below_step (by repeat (first | (with_reducible first | exact HB.out | apply below_alloc | apply pw_below_drewN | apply below_drew1 | refine below_set ?_ GE480.out | refine below_set ?_ GE483.out | refine below_set ?_ GE486.out) | exact HB.out)) hb); clear BK480; clear BK483; clear BK486; clear HB; have BK480 := n0_; have BK483 := n1_; have BK486 := n2_; have HB := n3_; clear n0_ n1_ n2_ n3_; (try clear hb); (try clear hb2); (try clear hk); (try clear hi)) | ((with_reducible refine gate_dst (N := 11) rfl ?_); (try (refine gate_guard (by rfl) ?_; dsimp only)); refine box_event ?hg (N := 11) ?hd (cs := #[.int .i64 0, .int .i64 0]) (t := 36) ?hr ?_; (case hd => rfl); (case hg => rfl); (case hr => first | (go_simp; done) | (go_simp; rfl)); intro gb489 hg w31 hbox hb; have n0_ := Aside0.mk (blk_below (g := gb480) (o := .cells #[.int .i64 t478, .int .i64 t479] 36 (0, 0)) (by (with_reducible repeat (first | refine blk_drewN ?_ _ | refine blk_drew ?_ | refine blk_alloc ?_ _)); exact BK480.out) hb); have n1_ := Aside0.mk (blk_below (g := gb483) (o := .cells #[.int .i64 t481, .int .i64 t482] 36 (0, 0)) (by (with_reducible repeat (first | refine blk_drewN ?_ _ | refine blk_drew ?_ | refine blk_alloc ?_ _)); exact BK483.out) hb); have n2_ := Aside0.mk (blk_below (g := gb486) (o := .cells #[.int .i64 t484, .int .i64 t485] 36 (0, 0)) (by (with_reducible repeat (first | refine blk_drewN ?_ _ | refine blk_drew ?_ | refine blk_alloc ?_ _)); exact BK486.out) hb); have n3_ := Aside0.mk (below_step (by repeat (first | (with_reducible first | exact HB.out | apply below_alloc | apply pw_below_drewN | apply below_drew1 | refine below_set ?_ GE480.out | refine below_set ?_ GE483.out | refine below_set ?_ GE486.out) | exact HB.out)) hb); have n4_ := Aside0.mk (hbox); have n5_ := Aside0.mk ((by rw [hg]; exact (below_size (by repeat (first | (with_reducible first | exact HB.out | apply below_alloc | apply pw_below_drewN | apply below_drew1 | refine below_set ?_ GE480.out | refine below_set ?_ GE483.out | refine below_set ?_ GE486.out) | exact HB.out))) : w.heap.size ≤ gb489)); have n6_ := Aside0.mk ((by rw [hg]; exact (below_size (by repeat (first | (with_reducible first | exact HB.out | apply below_alloc | apply pw_below_drewN | apply below_drew1 | refine below_set ?_ GE480.out | refine below_set ?_ GE483.out | refine below_set ?_ GE486.out) | exact HB.out))) : w.heap.size ≤ gb489)); have n7_ := Aside0.mk ((by rw [hg]; exact Nat.ne_of_lt (blk_lt (g := gb480) (o := .cells #[.int .i64 t478, .int .i64 t479] 36 (0, 0)) (by (with_reducible repeat (first | refine blk_drewN ?_ _ | refine blk_drew ?_ | refine blk_alloc ?_ _)); exact BK480.out)) : gb480 ≠ gb489)); have n8_ := Aside0.mk ((by rw [hg]; exact Nat.ne_of_gt (blk_lt (g := gb480) (o := .cells #[.int .i64 t478, .int .i64 t479] 36 (0, 0)) (by (with_reducible repeat (first | refine blk_drewN ?_ _ | refine blk_drew ?_ | refine blk_alloc ?_ _)); exact BK480.out)) : gb489 ≠ gb480)); have n9_ := Aside0.mk ((by rw [hg]; exact Nat.ne_of_lt (blk_lt (g := gb483) (o := .cells #[.int .i64 t481, .int .i64 t482] 36 (0, 0)) (by (with_reducible repeat (first | refine blk_drewN ?_ _ | refine blk_drew ?_ | refine blk_alloc ?_ _)); exact BK483.out)) : gb483 ≠ gb489)); have n10_ := Aside0.mk ((by rw [hg]; exact Nat.ne_of_gt (blk_lt (g := gb483) (o := .cells #[.int .i64 t481, .int .i64 t482] 36 (0, 0)) (by (with_reducible repeat (first | refine blk_drewN ?_ _ | refine blk_drew ?_ | refine blk_alloc ?_ _)); exact BK483.out)) : gb489 ≠ gb483)); have n11_ := Aside0.mk ((by rw [hg]; exact Nat.ne_of_lt (blk_lt (g := gb486) (o := .cells #[.int .i64 t484, .int .i64 t485] 36 (0, 0)) (by (with_reducible repeat (first | refine blk_drewN ?_ _ | refine blk_drew ?_ | refine blk_alloc ?_ _)); exact BK486.out)) : gb486 ≠ gb489)); have n12_ := Aside0.mk ((by rw [hg]; exact Nat.ne_of_gt (blk_lt (g := gb486) (o := .cells #[.int .i64 t484, .int .i64 t485] 36 (0, 0)) (by (with_reducible repeat (first | refine blk_drewN ?_ _ | refine blk_drew ?_ | refine blk_alloc ?_ _)); exact BK486.out)) : gb489 ≠ gb486)); clear BK480; clear BK483; clear BK486; clear HB; have BK480 := n0_; have BK483 := n1_; have BK486 := n2_; have HB := n3_; have BK489 := n4_; have GW489 := n5_; have GE489 := n6_; have NB480_489 := n7_; have NB489_480 := n8_; have NB483_489 := n9_; have NB489_483 := n10_; have NB486_489 := n11_; have NB489_486 := n12_; clear n0_ n1_ n2_ n3_ n4_ n5_ n6_ n7_ n8_ n9_ n10_ n11_ n12_; clear hb hbox hg; have hnb32 := NB489_480.out; have hnc32 := NB480_489.out; have hnb33 := NB489_483.out; have hnc33 := NB483_489.out; have hnb34 := NB489_486.out; have hnc34 := NB486_489.out; have hcz35_0 : w31.cell? ⟨gb489, 0, none⟩ = some (.int .i64 0) := (blk_cell BK489.out 0).trans rfl; have hcz35_1 : w31.cell? ⟨gb489, 1, none⟩ = some (.int .i64 0) := (blk_cell BK489.out 1).trans rfl; have hfz35_0 := blk_frozen BK489.out 0; have hfz35_1 := blk_frozen BK489.out 1))
            (try simp only [Act.put, List.setIfInBounds_toArray, List.set_cons_zero, List.set_cons_succ])
            go_cut [81] (fun v81 wc => ∃ (kq : Nat) (x81_16 : Bool), v81 = .bool x81_16 ∧ Aside0 (koinelaw25_DocumentCosts.j1 kq a0 a2 t477 x81_16 t478 t479 = some r) ∧ Aside0 (kq ≤ kj4) ∧ Aside0 (wc.heap[gb480]? = some (.cells #[.int .i64 t478, .int .i64 t479] 36 (0, 0))) ∧ Aside0 (wc.heap[gb483]? = some (.cells #[.int .i64 t481, .int .i64 t482] 36 (0, 0))) ∧ Aside0 (wc.heap[gb486]? = some (.cells #[.int .i64 t484, .int .i64 t485] 36 (0, 0))) ∧ Aside0 (wc.heap[gb489]? = some (.cells #[.int .i64 t487, .int .i64 t488] 36 (0, 0))) ∧ Aside0 (Below w.heap.size w wc))
            case first =>
              have H := HC17.out
              clear HC17
              by_cases c36 : t484 = (wrap64 (t478 + t481))
              · rw [if_pos c36] at H
                have c36b0 : (t484 == (wrap64 (t478 + t481))) = true := beq_iff_eq.mpr c36
                have c36b1 : (t484 != (wrap64 (t478 + t481))) = false := bne_eq_false_iff_eq.mpr c36
                clear c36
                (first | rw [c36b0] | (simp only [i64_w, i32_w]; rw [c36b0]) | skip)
                by_cases c37 : t485 = (wrap64 ((wrap64 (t479 + t482)) + 1))
                · rw [if_pos c37] at H
                  have c37b0 : (t485 == (wrap64 ((wrap64 (t479 + t482)) + 1))) = true := beq_iff_eq.mpr c37
                  have c37b1 : (t485 != (wrap64 ((wrap64 (t479 + t482)) + 1))) = false := bne_eq_false_iff_eq.mpr c37
                  clear c37
                  by_cases c38 : t487 > t478
                  · rw [if_pos c38] at H
                    have c38b0 : decide (t478 < t487) = true := decide_eq_true c38
                    clear c38
                    have H' := Aside0.mk H
                    clear H
                    have hnb39 := NB486_480.out
                    have hnc39 := NB480_486.out
                    have hnb40 := NB486_483.out
                    have hnc40 := NB483_486.out
                    have hnb41 := NB486_489.out
                    have hnc41 := NB489_486.out
                    have hcz42_0 : w31.cell? ⟨gb486, 0, none⟩ = some (.int .i64 t484) := (blk_cell BK486.out 0).trans rfl
                    have hcz42_1 : w31.cell? ⟨gb486, 1, none⟩ = some (.int .i64 t485) := (blk_cell BK486.out 1).trans rfl
                    have hfz42_0 := blk_frozen BK486.out 0
                    have hfz42_1 := blk_frozen BK486.out 1
                    have hnb43 := NB480_483.out
                    have hnc43 := NB483_480.out
                    have hnb44 := NB480_489.out
                    have hnc44 := NB489_480.out
                    have hcz45_0 : w31.cell? ⟨gb480, 0, none⟩ = some (.int .i64 t478) := (blk_cell BK480.out 0).trans rfl
                    have hcz45_1 : w31.cell? ⟨gb480, 1, none⟩ = some (.int .i64 t479) := (blk_cell BK480.out 1).trans rfl
                    have hfz45_0 := blk_frozen BK480.out 0
                    have hfz45_1 := blk_frozen BK480.out 1
                    have hnb46 := NB483_489.out
                    have hnc46 := NB489_483.out
                    have hcz47_0 : w31.cell? ⟨gb483, 0, none⟩ = some (.int .i64 t481) := (blk_cell BK483.out 0).trans rfl
                    have hcz47_1 : w31.cell? ⟨gb483, 1, none⟩ = some (.int .i64 t482) := (blk_cell BK483.out 1).trans rfl
                    have hfz47_0 := blk_frozen BK483.out 0
                    have hfz47_1 := blk_frozen BK483.out 1
                    have hcz48_0 : w31.cell? ⟨gb489, 0, none⟩ = some (.int .i64 0) := (blk_cell BK489.out 0).trans rfl
                    have hcz48_1 : w31.cell? ⟨gb489, 1, none⟩ = some (.int .i64 0) := (blk_cell BK489.out 1).trans rfl
                    have hfz48_0 := blk_frozen BK489.out 0
                    have hfz48_1 := blk_frozen BK489.out 1
                    go_wp2
                    go_meet
                    case rel => exact ⟨_, (true), (by first | rfl | (simp; done) | (simp [*]; done)), H', ⟨by have := HJ4.out; first | omega | exact Nat.le_refl _⟩, ⟨by (with_reducible repeat (first | refine blk_drewN ?_ _ | refine blk_drew ?_ | refine blk_alloc ?_ _)); refine blk_far ?_ NB480_489.out _; (with_reducible repeat (first | refine blk_drewN ?_ _ | refine blk_drew ?_ | refine blk_alloc ?_ _)); refine blk_far ?_ NB480_489.out _; (with_reducible repeat (first | refine blk_drewN ?_ _ | refine blk_drew ?_ | refine blk_alloc ?_ _)); exact BK480.out⟩, ⟨by (with_reducible repeat (first | refine blk_drewN ?_ _ | refine blk_drew ?_ | refine blk_alloc ?_ _)); refine blk_far ?_ NB483_489.out _; (with_reducible repeat (first | refine blk_drewN ?_ _ | refine blk_drew ?_ | refine blk_alloc ?_ _)); refine blk_far ?_ NB483_489.out _; (with_reducible repeat (first | refine blk_drewN ?_ _ | refine blk_drew ?_ | refine blk_alloc ?_ _)); exact BK483.out⟩, ⟨by (with_reducible repeat (first | refine blk_drewN ?_ _ | refine blk_drew ?_ | refine blk_alloc ?_ _)); refine blk_far ?_ NB486_489.out _; (with_reducible repeat (first | refine blk_drewN ?_ _ | refine blk_drew ?_ | refine blk_alloc ?_ _)); refine blk_far ?_ NB486_489.out _; (with_reducible repeat (first | refine blk_drewN ?_ _ | refine blk_drew ?_ | refine blk_alloc ?_ _)); exact BK486.out⟩, ⟨by (with_reducible repeat (first | refine blk_drewN ?_ _ | refine blk_drew ?_ | refine blk_alloc ?_ _)); refine blk_put (cs := #[.int .i64 t487, .int .i64 0]) ?_ 1 _ rfl; (with_reducible repeat (first | refine blk_drewN ?_ _ | refine blk_drew ?_ | refine blk_alloc ?_ _)); refine blk_put (cs := #[.int .i64 0, .int .i64 0]) ?_ 0 _ rfl; (with_reducible repeat (first | refine blk_drewN ?_ _ | refine blk_drew ?_ | refine blk_alloc ?_ _)); exact BK489.out⟩, ⟨by repeat (first | (with_reducible first | exact HB.out | apply below_alloc | apply pw_below_drewN | apply below_drew1 | refine below_set ?_ GE480.out | refine below_set ?_ GE483.out | refine below_set ?_ GE486.out | refine below_set ?_ GE489.out) | exact HB.out)⟩⟩
                  · rw [if_neg c38] at H
                    have c38b0 : decide (t478 < t487) = false := decide_eq_false c38
                    clear c38
                    have H' := Aside0.mk H
                    clear H
                    have hnb49 := NB486_480.out
                    have hnc49 := NB480_486.out
                    have hnb50 := NB486_483.out
                    have hnc50 := NB483_486.out
                    have hnb51 := NB486_489.out
                    have hnc51 := NB489_486.out
                    have hcz52_0 : w31.cell? ⟨gb486, 0, none⟩ = some (.int .i64 t484) := (blk_cell BK486.out 0).trans rfl
                    have hcz52_1 : w31.cell? ⟨gb486, 1, none⟩ = some (.int .i64 t485) := (blk_cell BK486.out 1).trans rfl
                    have hfz52_0 := blk_frozen BK486.out 0
                    have hfz52_1 := blk_frozen BK486.out 1
                    have hnb53 := NB480_483.out
                    have hnc53 := NB483_480.out
                    have hnb54 := NB480_489.out
                    have hnc54 := NB489_480.out
                    have hcz55_0 : w31.cell? ⟨gb480, 0, none⟩ = some (.int .i64 t478) := (blk_cell BK480.out 0).trans rfl
                    have hcz55_1 : w31.cell? ⟨gb480, 1, none⟩ = some (.int .i64 t479) := (blk_cell BK480.out 1).trans rfl
                    have hfz55_0 := blk_frozen BK480.out 0
                    have hfz55_1 := blk_frozen BK480.out 1
                    have hnb56 := NB483_489.out
                    have hnc56 := NB489_483.out
                    have hcz57_0 : w31.cell? ⟨gb483, 0, none⟩ = some (.int .i64 t481) := (blk_cell BK483.out 0).trans rfl
                    have hcz57_1 : w31.cell? ⟨gb483, 1, none⟩ = some (.int .i64 t482) := (blk_cell BK483.out 1).trans rfl
                    have hfz57_0 := blk_frozen BK483.out 0
                    have hfz57_1 := blk_frozen BK483.out 1
                    have hcz58_0 : w31.cell? ⟨gb489, 0, none⟩ = some (.int .i64 0) := (blk_cell BK489.out 0).trans rfl
                    have hcz58_1 : w31.cell? ⟨gb489, 1, none⟩ = some (.int .i64 0) := (blk_cell BK489.out 1).trans rfl
                    have hfz58_0 := blk_frozen BK489.out 0
                    have hfz58_1 := blk_frozen BK489.out 1
                    go_wp2
                    go_meet
                    case rel => exact ⟨_, ((t488 != t479)), (by first | rfl | (simp; done) | (simp [*]; done)), H', ⟨by have := HJ4.out; first | omega | exact Nat.le_refl _⟩, ⟨by (with_reducible repeat (first | refine blk_drewN ?_ _ | refine blk_drew ?_ | refine blk_alloc ?_ _)); refine blk_far ?_ NB480_489.out _; (with_reducible repeat (first | refine blk_drewN ?_ _ | refine blk_drew ?_ | refine blk_alloc ?_ _)); refine blk_far ?_ NB480_489.out _; (with_reducible repeat (first | refine blk_drewN ?_ _ | refine blk_drew ?_ | refine blk_alloc ?_ _)); exact BK480.out⟩, ⟨by (with_reducible repeat (first | refine blk_drewN ?_ _ | refine blk_drew ?_ | refine blk_alloc ?_ _)); refine blk_far ?_ NB483_489.out _; (with_reducible repeat (first | refine blk_drewN ?_ _ | refine blk_drew ?_ | refine blk_alloc ?_ _)); refine blk_far ?_ NB483_489.out _; (with_reducible repeat (first | refine blk_drewN ?_ _ | refine blk_drew ?_ | refine blk_alloc ?_ _)); exact BK483.out⟩, ⟨by (with_reducible repeat (first | refine blk_drewN ?_ _ | refine blk_drew ?_ | refine blk_alloc ?_ _)); refine blk_far ?_ NB486_489.out _; (with_reducible repeat (first | refine blk_drewN ?_ _ | refine blk_drew ?_ | refine blk_alloc ?_ _)); refine blk_far ?_ NB486_489.out _; (with_reducible repeat (first | refine blk_drewN ?_ _ | refine blk_drew ?_ | refine blk_alloc ?_ _)); exact BK486.out⟩, ⟨by (with_reducible repeat (first | refine blk_drewN ?_ _ | refine blk_drew ?_ | refine blk_alloc ?_ _)); refine blk_put (cs := #[.int .i64 t487, .int .i64 0]) ?_ 1 _ rfl; (with_reducible repeat (first | refine blk_drewN ?_ _ | refine blk_drew ?_ | refine blk_alloc ?_ _)); refine blk_put (cs := #[.int .i64 0, .int .i64 0]) ?_ 0 _ rfl; (with_reducible repeat (first | refine blk_drewN ?_ _ | refine blk_drew ?_ | refine blk_alloc ?_ _)); exact BK489.out⟩, ⟨by repeat (first | (with_reducible first | exact HB.out | apply below_alloc | apply pw_below_drewN | apply below_drew1 | refine below_set ?_ GE480.out | refine below_set ?_ GE483.out | refine below_set ?_ GE486.out | refine below_set ?_ GE489.out) | exact HB.out)⟩⟩
                · rw [if_neg c37] at H
                  have c37b0 : (t485 == (wrap64 ((wrap64 (t479 + t482)) + 1))) = false := beq_eq_false_iff_ne.mpr c37
                  have c37b1 : (t485 != (wrap64 ((wrap64 (t479 + t482)) + 1))) = true := bne_iff_ne.mpr c37
                  have H' := Aside0.mk H
                  clear H
                  have hnb59 := NB486_480.out
                  have hnc59 := NB480_486.out
                  have hnb60 := NB486_483.out
                  have hnc60 := NB483_486.out
                  have hnb61 := NB486_489.out
                  have hnc61 := NB489_486.out
                  have hcz62_0 : w31.cell? ⟨gb486, 0, none⟩ = some (.int .i64 t484) := (blk_cell BK486.out 0).trans rfl
                  have hcz62_1 : w31.cell? ⟨gb486, 1, none⟩ = some (.int .i64 t485) := (blk_cell BK486.out 1).trans rfl
                  have hfz62_0 := blk_frozen BK486.out 0
                  have hfz62_1 := blk_frozen BK486.out 1
                  have hnb63 := NB480_483.out
                  have hnc63 := NB483_480.out
                  have hnb64 := NB480_489.out
                  have hnc64 := NB489_480.out
                  have hcz65_0 : w31.cell? ⟨gb480, 0, none⟩ = some (.int .i64 t478) := (blk_cell BK480.out 0).trans rfl
                  have hcz65_1 : w31.cell? ⟨gb480, 1, none⟩ = some (.int .i64 t479) := (blk_cell BK480.out 1).trans rfl
                  have hfz65_0 := blk_frozen BK480.out 0
                  have hfz65_1 := blk_frozen BK480.out 1
                  have hnb66 := NB483_489.out
                  have hnc66 := NB489_483.out
                  have hcz67_0 : w31.cell? ⟨gb483, 0, none⟩ = some (.int .i64 t481) := (blk_cell BK483.out 0).trans rfl
                  have hcz67_1 : w31.cell? ⟨gb483, 1, none⟩ = some (.int .i64 t482) := (blk_cell BK483.out 1).trans rfl
                  have hfz67_0 := blk_frozen BK483.out 0
                  have hfz67_1 := blk_frozen BK483.out 1
                  go_wp2
                  go_meet
                  case rel => exact ⟨_, (true), (by first | rfl | (simp; done) | (simp [*]; done)), H', ⟨by have := HJ4.out; first | omega | exact Nat.le_refl _⟩, ⟨by (with_reducible repeat (first | refine blk_drewN ?_ _ | refine blk_drew ?_ | refine blk_alloc ?_ _)); refine blk_far ?_ NB480_489.out _; (with_reducible repeat (first | refine blk_drewN ?_ _ | refine blk_drew ?_ | refine blk_alloc ?_ _)); refine blk_far ?_ NB480_489.out _; (with_reducible repeat (first | refine blk_drewN ?_ _ | refine blk_drew ?_ | refine blk_alloc ?_ _)); exact BK480.out⟩, ⟨by (with_reducible repeat (first | refine blk_drewN ?_ _ | refine blk_drew ?_ | refine blk_alloc ?_ _)); refine blk_far ?_ NB483_489.out _; (with_reducible repeat (first | refine blk_drewN ?_ _ | refine blk_drew ?_ | refine blk_alloc ?_ _)); refine blk_far ?_ NB483_489.out _; (with_reducible repeat (first | refine blk_drewN ?_ _ | refine blk_drew ?_ | refine blk_alloc ?_ _)); exact BK483.out⟩, ⟨by (with_reducible repeat (first | refine blk_drewN ?_ _ | refine blk_drew ?_ | refine blk_alloc ?_ _)); refine blk_far ?_ NB486_489.out _; (with_reducible repeat (first | refine blk_drewN ?_ _ | refine blk_drew ?_ | refine blk_alloc ?_ _)); refine blk_far ?_ NB486_489.out _; (with_reducible repeat (first | refine blk_drewN ?_ _ | refine blk_drew ?_ | refine blk_alloc ?_ _)); exact BK486.out⟩, ⟨by (with_reducible repeat (first | refine blk_drewN ?_ _ | refine blk_drew ?_ | refine blk_alloc ?_ _)); refine blk_put (cs := #[.int .i64 t487, .int .i64 0]) ?_ 1 _ rfl; (with_reducible repeat (first | refine blk_drewN ?_ _ | refine blk_drew ?_ | refine blk_alloc ?_ _)); refine blk_put (cs := #[.int .i64 0, .int .i64 0]) ?_ 0 _ rfl; (with_reducible repeat (first | refine blk_drewN ?_ _ | refine blk_drew ?_ | refine blk_alloc ?_ _)); exact BK489.out⟩, ⟨by repeat (first | (with_reducible first | exact HB.out | apply below_alloc | apply pw_below_drewN | apply below_drew1 | refine below_set ?_ GE480.out | refine below_set ?_ GE483.out | refine below_set ?_ GE486.out | refine below_set ?_ GE489.out) | exact HB.out)⟩⟩
              · rw [if_neg c36] at H
                have c36b0 : (t484 == (wrap64 (t478 + t481))) = false := beq_eq_false_iff_ne.mpr c36
                have c36b1 : (t484 != (wrap64 (t478 + t481))) = true := bne_iff_ne.mpr c36
                (first | rw [c36b0] | (simp only [i64_w, i32_w]; rw [c36b0]) | skip)
                have H' := Aside0.mk H
                clear H
                have hnb68 := NB486_480.out
                have hnc68 := NB480_486.out
                have hnb69 := NB486_483.out
                have hnc69 := NB483_486.out
                have hnb70 := NB486_489.out
                have hnc70 := NB489_486.out
                have hcz71_0 : w31.cell? ⟨gb486, 0, none⟩ = some (.int .i64 t484) := (blk_cell BK486.out 0).trans rfl
                have hcz71_1 : w31.cell? ⟨gb486, 1, none⟩ = some (.int .i64 t485) := (blk_cell BK486.out 1).trans rfl
                have hfz71_0 := blk_frozen BK486.out 0
                have hfz71_1 := blk_frozen BK486.out 1
                have hnb72 := NB480_483.out
                have hnc72 := NB483_480.out
                have hnb73 := NB480_489.out
                have hnc73 := NB489_480.out
                have hcz74_0 : w31.cell? ⟨gb480, 0, none⟩ = some (.int .i64 t478) := (blk_cell BK480.out 0).trans rfl
                have hcz74_1 : w31.cell? ⟨gb480, 1, none⟩ = some (.int .i64 t479) := (blk_cell BK480.out 1).trans rfl
                have hfz74_0 := blk_frozen BK480.out 0
                have hfz74_1 := blk_frozen BK480.out 1
                have hnb75 := NB483_489.out
                have hnc75 := NB489_483.out
                have hcz76_0 : w31.cell? ⟨gb483, 0, none⟩ = some (.int .i64 t481) := (blk_cell BK483.out 0).trans rfl
                have hcz76_1 : w31.cell? ⟨gb483, 1, none⟩ = some (.int .i64 t482) := (blk_cell BK483.out 1).trans rfl
                have hfz76_0 := blk_frozen BK483.out 0
                have hfz76_1 := blk_frozen BK483.out 1
                go_wp2
                go_meet
                case rel => exact ⟨_, (true), (by first | rfl | (simp; done) | (simp [*]; done)), H', ⟨by have := HJ4.out; first | omega | exact Nat.le_refl _⟩, ⟨by (with_reducible repeat (first | refine blk_drewN ?_ _ | refine blk_drew ?_ | refine blk_alloc ?_ _)); refine blk_far ?_ NB480_489.out _; (with_reducible repeat (first | refine blk_drewN ?_ _ | refine blk_drew ?_ | refine blk_alloc ?_ _)); refine blk_far ?_ NB480_489.out _; (with_reducible repeat (first | refine blk_drewN ?_ _ | refine blk_drew ?_ | refine blk_alloc ?_ _)); exact BK480.out⟩, ⟨by (with_reducible repeat (first | refine blk_drewN ?_ _ | refine blk_drew ?_ | refine blk_alloc ?_ _)); refine blk_far ?_ NB483_489.out _; (with_reducible repeat (first | refine blk_drewN ?_ _ | refine blk_drew ?_ | refine blk_alloc ?_ _)); refine blk_far ?_ NB483_489.out _; (with_reducible repeat (first | refine blk_drewN ?_ _ | refine blk_drew ?_ | refine blk_alloc ?_ _)); exact BK483.out⟩, ⟨by (with_reducible repeat (first | refine blk_drewN ?_ _ | refine blk_drew ?_ | refine blk_alloc ?_ _)); refine blk_far ?_ NB486_489.out _; (with_reducible repeat (first | refine blk_drewN ?_ _ | refine blk_drew ?_ | refine blk_alloc ?_ _)); refine blk_far ?_ NB486_489.out _; (with_reducible repeat (first | refine blk_drewN ?_ _ | refine blk_drew ?_ | refine blk_alloc ?_ _)); exact BK486.out⟩, ⟨by (with_reducible repeat (first | refine blk_drewN ?_ _ | refine blk_drew ?_ | refine blk_alloc ?_ _)); refine blk_put (cs := #[.int .i64 t487, .int .i64 0]) ?_ 1 _ rfl; (with_reducible repeat (first | refine blk_drewN ?_ _ | refine blk_drew ?_ | refine blk_alloc ?_ _)); refine blk_put (cs := #[.int .i64 0, .int .i64 0]) ?_ 0 _ rfl; (with_reducible repeat (first | refine blk_drewN ?_ _ | refine blk_drew ?_ | refine blk_alloc ?_ _)); exact BK489.out⟩, ⟨by repeat (first | (with_reducible first | exact HB.out | apply below_alloc | apply pw_below_drewN | apply below_drew1 | refine below_set ?_ GE480.out | refine below_set ?_ GE483.out | refine below_set ?_ GE486.out | refine below_set ?_ GE489.out) | exact HB.out)⟩⟩
            case rest =>
              clear HC17
              try clear c1
              try clear c2
              try clear p2
              try clear c3
              try clear c4
              try clear c5
              try clear c6
              try clear p6
              try clear c7
              try clear c7b0
              try clear c7b1
              try clear c8
              try clear c8b0
              try clear c8b1
              try clear c9
              try clear c9b0
              try clear c10
              try clear c13
              try clear c13b0
              try clear c13b1
              try clear c13b2
              try clear c14
              try clear c14b0
              try clear c14b1
              try clear c14b2
              try clear c20
              try clear c23
              try clear c27
              try clear c28
              try clear c32
              try clear c33
              try clear c34
              try clear c36
              try clear c36b0
              try clear c36b1
              try clear c37
              try clear c37b0
              try clear c37b1
              try clear c38
              try clear c38b0
              try clear c39
              try clear c40
              try clear c41
              try clear c43
              try clear c44
              try clear c46
              try clear c49
              try clear c50
              try clear c51
              try clear c53
              try clear c54
              try clear c56
              try clear c59
              try clear c60
              try clear c61
              try clear c63
              try clear c64
              try clear p64
              try clear c66
              try clear c68
              try clear c69
              try clear c70
              try clear c72
              try clear c73
              try clear c75
              try clear hcz20_0
              try clear hcz20_1
              try clear hcz24_0
              try clear hcz24_1
              try clear hcz29_0
              try clear hcz29_1
              try clear hcz35_0
              try clear hcz35_1
              try clear hcz42_0
              try clear hcz42_1
              try clear hcz45_0
              try clear hcz45_1
              try clear hcz47_0
              try clear hcz47_1
              try clear hcz48_0
              try clear hcz48_1
              try clear hcz52_0
              try clear hcz52_1
              try clear hcz55_0
              try clear hcz55_1
              try clear hcz57_0
              try clear hcz57_1
              try clear hcz58_0
              try clear hcz58_1
              try clear hcz62_0
              try clear hcz62_1
              try clear hcz65_0
              try clear hcz65_1
              try clear hcz67_0
              try clear hcz67_1
              try clear hcz71_0
              try clear hcz71_1
              try clear hcz74_0
              try clear hcz74_1
              try clear hcz76_0
              try clear hcz76_1
              try clear hfz20_0
              try clear hfz20_1
              try clear hfz24_0
              try clear hfz24_1
              try clear hfz29_0
              try clear hfz29_1
              try clear hfz35_0
              try clear hfz35_1
              try clear hfz42_0
              try clear hfz42_1
              try clear hfz45_0
              try clear hfz45_1
              try clear hfz47_0
              try clear hfz47_1
              try clear hfz48_0
              try clear hfz48_1
              try clear hfz52_0
              try clear hfz52_1
              try clear hfz55_0
              try clear hfz55_1
              try clear hfz57_0
              try clear hfz57_1
              try clear hfz58_0
              try clear hfz58_1
              try clear hfz62_0
              try clear hfz62_1
              try clear hfz65_0
              try clear hfz65_1
              try clear hfz67_0
              try clear hfz67_1
              try clear hfz71_0
              try clear hfz71_1
              try clear hfz74_0
              try clear hfz74_1
              try clear hfz76_0
              try clear hfz76_1
              try clear p2
              obtain ⟨kq, x81_16, rfl, HA, HJ16, BK480, BK483, BK486, BK489, HB⟩ := hcut
              cases kq with
              | zero => exact absurd HA.out (by simp [koinelaw25_DocumentCosts.j1])
              | succ kj16 =>
                have H := HA.out
                clear HA
                simp only [koinelaw25_DocumentCosts.j1] at H
                by_cases c77 : x81_16 = true
                · subst c77
                  have H1 : (some false) = some r := by rw [if_pos rfl] at H; exact H
                  clear H
                  have H := H1
                  clear H1
                  obtain rfl := Option.some.inj H
                  go_wp2
                  go_ret
                  exact ⟨by first | rfl | (simp [errW_none, errW_some] <;> rfl) | (simp [*, errW_none, errW_some] <;> rfl), by repeat (first | (with_reducible first | exact HB.out | apply below_alloc | apply pw_below_drewN | apply below_drew1 | refine below_set ?_ GE480.out | refine below_set ?_ GE483.out | refine below_set ?_ GE486.out | refine below_set ?_ GE489.out) | exact HB.out)⟩
                · replace c77 := Bool.eq_false_iff.mpr c77
                  subst c77
                  have H1 : (koinelaw25_DocumentCosts.l0 kj16 a0 a2 t477 0 0 0 t478 t479) = some r := by rw [if_neg (show ¬ (false = true) by decide)] at H; exact H
                  clear H
                  have H := H1
                  clear H1
                  have H' := Aside0.mk H
                  clear H
                  go_wp2
                  go_loopg [12, 13, 14] kj16 (fun kq v12 v13 v14 w' => ∃ (x12_3 : Int) (x13_3 : Int) (x14_3 : Int), v12 = .int .i64 x12_3 ∧ v13 = .int .i64 x13_3 ∧ v14 = .int .i64 x14_3 ∧ Aside0 (koinelaw25_DocumentCosts.l0 kq a0 a2 t477 x12_3 x13_3 x14_3 t478 t479 = some r) ∧ Aside0 (kq ≤ kj16) ∧ Aside0 (w'.heap[gb480]? = some (.cells #[.int .i64 t478, .int .i64 t479] 36 (0, 0))) ∧ Aside0 (w'.heap[gb483]? = some (.cells #[.int .i64 t481, .int .i64 t482] 36 (0, 0))) ∧ Aside0 (w'.heap[gb486]? = some (.cells #[.int .i64 t484, .int .i64 t485] 36 (0, 0))) ∧ Aside0 (w'.heap[gb489]? = some (.cells #[.int .i64 t487, .int .i64 t488] 36 (0, 0))) ∧ Aside0 (Below w.heap.size w w'))
                  case atStart => exact ⟨(0), (0), (0), (by first | rfl | (simp; done) | (simp [*]; done)), (by first | rfl | (simp; done) | (simp [*]; done)), (by first | rfl | (simp; done) | (simp [*]; done)), H', ⟨Nat.le_refl _⟩, ⟨by (with_reducible repeat (first | refine blk_drewN ?_ _ | refine blk_drew ?_ | refine blk_alloc ?_ _)); exact BK480.out⟩, ⟨by (with_reducible repeat (first | refine blk_drewN ?_ _ | refine blk_drew ?_ | refine blk_alloc ?_ _)); exact BK483.out⟩, ⟨by (with_reducible repeat (first | refine blk_drewN ?_ _ | refine blk_drew ?_ | refine blk_alloc ?_ _)); exact BK486.out⟩, ⟨by (with_reducible repeat (first | refine blk_drewN ?_ _ | refine blk_drew ?_ | refine blk_alloc ?_ _)); exact BK489.out⟩, ⟨by repeat (first | (with_reducible first | exact HB.out | apply below_alloc | apply pw_below_drewN | apply below_drew1 | refine below_set ?_ GE480.out | refine below_set ?_ GE483.out | refine below_set ?_ GE486.out | refine below_set ?_ GE489.out) | exact HB.out)⟩⟩
                  case round =>
                    clear H'
                    try clear c1
                    try clear c2
                    try clear p2
                    try clear c3
                    try clear c4
                    try clear c5
                    try clear c6
                    try clear p6
                    try clear c7
                    try clear c7b0
                    try clear c7b1
                    try clear c8
                    try clear c8b0
                    try clear c8b1
                    try clear c9
                    try clear c9b0
                    try clear c10
                    try clear c13
                    try clear c13b0
                    try clear c13b1
                    try clear c13b2
                    try clear c14
                    try clear c14b0
                    try clear c14b1
                    try clear c14b2
                    try clear c20
                    try clear c23
                    try clear c27
                    try clear c28
                    try clear c32
                    try clear c33
                    try clear c34
                    try clear c36
                    try clear c36b0
                    try clear c36b1
                    try clear c37
                    try clear c37b0
                    try clear c37b1
                    try clear c38
                    try clear c38b0
                    try clear c39
                    try clear c40
                    try clear c41
                    try clear c43
                    try clear c44
                    try clear c46
                    try clear c49
                    try clear c50
                    try clear c51
                    try clear c53
                    try clear c54
                    try clear c56
                    try clear c59
                    try clear c60
                    try clear c61
                    try clear c63
                    try clear c64
                    try clear p64
                    try clear c66
                    try clear c68
                    try clear c69
                    try clear c70
                    try clear c72
                    try clear c73
                    try clear c75
                    try clear c77
                    try clear hcz20_0
                    try clear hcz20_1
                    try clear hcz24_0
                    try clear hcz24_1
                    try clear hcz29_0
                    try clear hcz29_1
                    try clear hcz35_0
                    try clear hcz35_1
                    try clear hcz42_0
                    try clear hcz42_1
                    try clear hcz45_0
                    try clear hcz45_1
                    try clear hcz47_0
                    try clear hcz47_1
                    try clear hcz48_0
                    try clear hcz48_1
                    try clear hcz52_0
                    try clear hcz52_1
                    try clear hcz55_0
                    try clear hcz55_1
                    try clear hcz57_0
                    try clear hcz57_1
                    try clear hcz58_0
                    try clear hcz58_1
                    try clear hcz62_0
                    try clear hcz62_1
                    try clear hcz65_0
                    try clear hcz65_1
                    try clear hcz67_0
                    try clear hcz67_1
                    try clear hcz71_0
                    try clear hcz71_1
                    try clear hcz74_0
                    try clear hcz74_1
                    try clear hcz76_0
                    try clear hcz76_1
                    try clear hfz20_0
                    try clear hfz20_1
                    try clear hfz24_0
                    try clear hfz24_1
                    try clear hfz29_0
                    try clear hfz29_1
                    try clear hfz35_0
                    try clear hfz35_1
                    try clear hfz42_0
                    try clear hfz42_1
                    try clear hfz45_0
                    try clear hfz45_1
                    try clear hfz47_0
                    try clear hfz47_1
                    try clear hfz48_0
                    try clear hfz48_1
                    try clear hfz52_0
                    try clear hfz52_1
                    try clear hfz55_0
                    try clear hfz55_1
                    try clear hfz57_0
                    try clear hfz57_1
                    try clear hfz58_0
                    try clear hfz58_1
                    try clear hfz62_0
                    try clear hfz62_1
                    try clear hfz65_0
                    try clear hfz65_1
                    try clear hfz67_0
                    try clear hfz67_1
                    try clear hfz71_0
                    try clear hfz71_1
                    try clear hfz74_0
                    try clear hfz74_1
                    try clear hfz76_0
                    try clear hfz76_1
                    try clear p2
                    try clear p6
                    try clear p64
                    obtain ⟨x12_3, x13_3, x14_3, rfl, rfl, rfl, HA, HK3, BK480, BK483, BK486, BK489, HB⟩ := hrel
                    cases gk with
                    | zero => exact absurd HA.out (by simp [koinelaw25_DocumentCosts.l0])
                    | succ k3 =>
                      have H := HA.out
                      clear HA
                      simp only [koinelaw25_DocumentCosts.l0] at H
                      by_cases c78 : x14_3 < (a0.size : Int)
                      · rw [if_pos c78] at H
                        have c78b0 : decide (x14_3 < (a0.size : Int)) = true := decide_eq_true c78
                        clear c78
                        by_cases c79 : 0 ≤ x14_3
                        · rw [if_pos c79] at H
                          have c79b0 : decide (0 ≤ x14_3) = true := decide_eq_true c79
                          clear c79
                          by_cases c81 : (bt a0 x14_3) = 10
                          · rw [if_pos c81] at H
                            have c81b0 : ((bt a0 x14_3) == 10) = true := beq_iff_eq.mpr c81
                            have c81b1 : ((bt a0 x14_3) != 10) = false := bne_eq_false_iff_eq.mpr c81
                            clear c81
                            obtain ⟨ji82, hji82⟩ : ∃ j_ : Int, (mx x12_3 0) = j_ := ⟨_, rfl⟩
                            replace H : (koinelaw25_DocumentCosts.l0 k3 a0 a2 t477 ji82 0 (wrap64 (x14_3 + 1)) t478 t479) = some r := by first | (rw [hji82] at H; exact H) | (simp only [hji82] at H ⊢; exact H)
                            have hji82_ : (if x12_3 < 0 then 0 else x12_3) = ji82 := hji82
                            have H' := Aside0.mk H
                            clear H
                            have p80 : 0 ≤ (x14_3 : Int) := of_decide_eq_true (by first | (with_reducible assumption) | assumption)
                            have q80 : x14_3 < (a0.size : Int) := of_decide_eq_true (by first | (with_reducible assumption) | assumption)
                            have hx80 := bt_at a0 x14_3
                            replace p80 := eq_true p80
                            replace q80 := eq_true q80
                            go_wp2
                            go_roundg k3
                            case measure => have := HJ4.out; have := HJ16.out; have := HK3.out; omega
                            case rel => exact ⟨(ji82), (0), (wrap64 (x14_3 + 1)), (by first | rfl | (simp; done) | (simp only [← hji82] <;> (first | rfl | simp)) | (simp [*]; done)), (by first | rfl | (simp; done) | (simp [*]; done)), (by first | rfl | (simp; done) | (simp [*]; done)), H', ⟨by have := HJ4.out; have := HJ16.out; have := HK3.out; omega⟩, ⟨by (with_reducible repeat (first | refine blk_drewN ?_ _ | refine blk_drew ?_ | refine blk_alloc ?_ _)); exact BK480.out⟩, ⟨by (with_reducible repeat (first | refine blk_drewN ?_ _ | refine blk_drew ?_ | refine blk_alloc ?_ _)); exact BK483.out⟩, ⟨by (with_reducible repeat (first | refine blk_drewN ?_ _ | refine blk_drew ?_ | refine blk_alloc ?_ _)); exact BK486.out⟩, ⟨by (with_reducible repeat (first | refine blk_drewN ?_ _ | refine blk_drew ?_ | refine blk_alloc ?_ _)); exact BK489.out⟩, ⟨by repeat (first | (with_reducible first | exact HB.out | apply below_alloc | apply pw_below_drewN | apply below_drew1 | refine below_set ?_ GE480.out | refine below_set ?_ GE483.out | refine below_set ?_ GE486.out | refine below_set ?_ GE489.out) | exact HB.out)⟩⟩
                          · rw [if_neg c81] at H
                            have c81b0 : ((bt a0 x14_3) == 10) = false := beq_eq_false_iff_ne.mpr c81
                            have c81b1 : ((bt a0 x14_3) != 10) = true := bne_iff_ne.mpr c81
                            obtain ⟨ji83, hji83⟩ : ∃ j_ : Int, (mx x12_3 (wrap64 (x13_3 + 1))) = j_ := ⟨_, rfl⟩
                            replace H : (koinelaw25_DocumentCosts.l0 k3 a0 a2 t477 ji83 (wrap64 (x13_3 + 1)) (wrap64 (x14_3 + 1)) t478 t479) = some r := by first | (rw [hji83] at H; exact H) | (simp only [hji83] at H ⊢; exact H)
                            have hji83_ : (if x12_3 < (wrap64 (x13_3 + 1)) then (wrap64 (x13_3 + 1)) else x12_3) = ji83 := hji83
                            have H' := Aside0.mk H
                            clear H
                            have p80 : 0 ≤ (x14_3 : Int) := of_decide_eq_true (by first | (with_reducible assumption) | assumption)
                            have q80 : x14_3 < (a0.size : Int) := of_decide_eq_true (by first | (with_reducible assumption) | assumption)
                            have hx80 := bt_at a0 x14_3
                            replace p80 := eq_true p80
                            replace q80 := eq_true q80
                            go_wp2
                            go_roundg k3
                            case measure => have := HJ4.out; have := HJ16.out; have := HK3.out; omega
                            case rel => exact ⟨(ji83), (wrap64 (x13_3 + 1)), (wrap64 (x14_3 + 1)), (by first | rfl | (simp; done) | (simp only [← hji83] <;> (first | rfl | simp)) | (simp [*]; done)), (by first | rfl | (simp; done) | (simp [*]; done)), (by first | rfl | (simp; done) | (simp [*]; done)), H', ⟨by have := HJ4.out; have := HJ16.out; have := HK3.out; omega⟩, ⟨by (with_reducible repeat (first | refine blk_drewN ?_ _ | refine blk_drew ?_ | refine blk_alloc ?_ _)); exact BK480.out⟩, ⟨by (with_reducible repeat (first | refine blk_drewN ?_ _ | refine blk_drew ?_ | refine blk_alloc ?_ _)); exact BK483.out⟩, ⟨by (with_reducible repeat (first | refine blk_drewN ?_ _ | refine blk_drew ?_ | refine blk_alloc ?_ _)); exact BK486.out⟩, ⟨by (with_reducible repeat (first | refine blk_drewN ?_ _ | refine blk_drew ?_ | refine blk_alloc ?_ _)); exact BK489.out⟩, ⟨by repeat (first | (with_reducible first | exact HB.out | apply below_alloc | apply pw_below_drewN | apply below_drew1 | refine below_set ?_ GE480.out | refine below_set ?_ GE483.out | refine below_set ?_ GE486.out | refine below_set ?_ GE489.out) | exact HB.out)⟩⟩
                        · rw [if_neg c79] at H
                          exact absurd H (by simp)
                      · rw [if_neg c78] at H
                        have c78b0 : decide (x14_3 < (a0.size : Int)) = false := decide_eq_false c78
                        clear c78
                        by_cases c84 : ((t478 == 0) == (decide (x12_3 ≤ a2))) = true
                        · rw [if_pos c84] at H
                          have c84b0 : ((t478 == 0) == (decide (x12_3 ≤ a2))) = true := c84
                          (try (have c84b1 : decide ((t478 == 0) = (decide (x12_3 ≤ a2))) = true := by simpa using c84))
                          (try (have c84b2 : ((t478 == 0) == (decide (x12_3 ≤ a2))) = true := by simpa using c84))
                          clear c84
                          replace H := Option.bind_eq_some_iff.mp H
                          obtain ⟨⟨t490, t491⟩, A850, H⟩ := H
                          replace H : ((document_Cost.f a0 0).bind fun bt492 => (if (t490 == bt492.1 && (t491 == bt492.2)) = true then (some t477) else (some false))) = some r := H
                          have A85 := Aside0.mk A850
                          clear A850
                          replace H := Option.bind_eq_some_iff.mp H
                          obtain ⟨⟨t492, t493⟩, A860, H⟩ := H
                          replace H : (if (t490 == t492 && (t491 == t493)) = true then (some t477) else (some false)) = some r := H
                          have A86 := Aside0.mk A860
                          clear A860
                          by_cases c87 : (t490 == t492 && (t491 == t493)) = true
                          · rw [if_pos c87] at H
                            have c87b0 : (t490 == t492 && (t491 == t493)) = true := c87
                            (try (have c87b1 : decide (t490 = t492 && (t491 == t493)) = true := by simpa using c87))
                            (try (have c87b2 : (t490 == t492 && (t491 == t493)) = true := by simpa using c87))
                            clear c87
                            obtain rfl := Option.some.inj H
                            have hnb88 := NB480_483.out
                            have hnc88 := NB483_480.out
                            have hnb89 := NB480_486.out
                            have hnc89 := NB486_480.out
                            have hnb90 := NB480_489.out
                            have hnc90 := NB489_480.out
                            have hcz91_0 : wr.cell? ⟨gb480, 0, none⟩ = some (.int .i64 t478) := (blk_cell BK480.out 0).trans rfl
                            have hcz91_1 : wr.cell? ⟨gb480, 1, none⟩ = some (.int .i64 t479) := (blk_cell BK480.out 1).trans rfl
                            have hfz91_0 := blk_frozen BK480.out 0
                            have hfz91_1 := blk_frozen BK480.out 1
                            go_wp2_with (first | (go_at_call 27; (with_reducible refine (document_Cost.calls a0 (-5) t490 t491 _ A85.out).mono ?_); rintro e w92 ⟨rfl, hb⟩; have n0_ := Aside0.mk (blk_below (g := gb480) (o := .cells #[.int .i64 t478, .int .i64 t479] 36 (0, 0)) (by (with_reducible repeat (first | refine blk_drewN ?_ _ | refine blk_drew ?_ | refine blk_alloc ?_ _)); exact BK480.out) hb); have n1_ := Aside0.mk (blk_below (g := gb483) (o := .cells #[.int .i64 t481, .int .i64 t482] 36 (0, 0)) (by (with_reducible repeat (first | refine blk_drewN ?_ _ | refine blk_drew ?_ | refine blk_alloc ?_ _)); exact BK483.out) hb); have n2_ := Aside0.mk (blk_below (g := gb486) (o := .cells #[.int .i64 t484, .int .i64 t485] 36 (0, 0)) (by (with_reducible repeat (first | refine blk_drewN ?_ _ | refine blk_drew ?_ | refine blk_alloc ?_ _)); exact BK486.out) hb); have n3_ := Aside0.mk (blk_below (g := gb489) (o := .cells #[.int .i64 t487, .int .i64 t488] 36 (0, 0)) (by (with_reducible repeat (first | refine blk_drewN ?_ _ | refine blk_drew ?_ | refine blk_alloc ?_ _)); exact BK489.out) hb); have n4_ := Aside0.mk (below_step (by repeat (first | (with_reducible first | exact HB.out | apply below_alloc | apply pw_below_drewN | apply below_drew1 | refine below_set ?_ GE480.out | refine below_set ?_ GE483.out | refine below_set ?_ GE486.out | refine below_set ?_ GE489.out) | exact HB.out)) hb); clear BK480; clear BK483; clear BK486; clear BK489; clear HB; have BK480 := n0_; have BK483 := n1_; have BK486 := n2_; have BK489 := n3_; have HB := n4_; clear n0_ n1_ n2_ n3_ n4_; (try clear hb); (try clear hb2); (try clear hk); (try clear hi)) | (go_at_call 27; (with_reducible refine (document_Cost.calls a0 0 t492 t493 _ A86.out).mono ?_); rintro e w93 ⟨rfl, hb⟩; have n0_ := Aside0.mk (blk_below (g := gb480) (o := .cells #[.int .i64 t478, .int .i64 t479] 36 (0, 0)) (by (with_reducible repeat (first | refine blk_drewN ?_ _ | refine blk_drew ?_ | refine blk_alloc ?_ _)); exact BK480.out) hb); have n1_ := Aside0.mk (blk_below (g := gb483) (o := .cells #[.int .i64 t481, .int .i64 t482] 36 (0, 0)) (by (with_reducible repeat (first | refine blk_drewN ?_ _ | refine blk_drew ?_ | refine blk_alloc ?_ _)); exact BK483.out) hb); have n2_ := Aside0.mk (blk_below (g := gb486) (o := .cells #[.int .i64 t484, .int .i64 t485] 36 (0, 0)) (by (with_reducible repeat (first | refine blk_drewN ?_ _ | refine blk_drew ?_ | refine blk_alloc ?_ _)); exact BK486.out) hb); have n3_ := Aside0.mk (blk_below (g := gb489) (o := .cells #[.int .i64 t487, .int .i64 t488] 36 (0, 0)) (by (with_reducible repeat (first | refine blk_drewN ?_ _ | refine blk_drew ?_ | refine blk_alloc ?_ _)); exact BK489.out) hb); have n4_ := Aside0.mk (below_step (by repeat (first | (with_reducible first | exact HB.out | apply below_alloc | apply pw_below_drewN | apply below_drew1 | refine below_set ?_ GE480.out | refine below_set ?_ GE483.out | refine below_set ?_ GE486.out | refine below_set ?_ GE489.out) | exact HB.out)) hb); clear BK480; clear BK483; clear BK486; clear BK489; clear HB; have BK480 := n0_; have BK483 := n1_; have BK486 := n2_; have BK489 := n3_; have HB := n4_; clear n0_ n1_ n2_ n3_ n4_; (try clear hb); (try clear hb2); (try clear hk); (try clear hi)))
                            go_ret
                            exact ⟨by first | rfl | (simp [errW_none, errW_some] <;> rfl) | (simp [*, errW_none, errW_some] <;> rfl), by repeat (first | (with_reducible first | exact HB.out | apply below_alloc | apply pw_below_drewN | apply below_drew1 | refine below_set ?_ GE480.out | refine below_set ?_ GE483.out | refine below_set ?_ GE486.out | refine below_set ?_ GE489.out) | exact HB.out)⟩
                          · rw [if_neg c87] at H
                            have c87b0 : (t490 == t492 && (t491 == t493)) = false := by simpa using c87
                            (try (have c87b1 : decide (t490 = t492 && (t491 == t493)) = false := by simpa using c87))
                            (try (have c87b2 : (t490 == t492 && (t491 == t493)) = false := by simpa using c87))
                            (try (have c87b3 : ¬ (t490 = t492 && (t491 == t493)) := by simpa using c87))
                            clear c87
                            obtain rfl := Option.some.inj H
                            have hnb94 := NB480_483.out
                            have hnc94 := NB483_480.out
                            have hnb95 := NB480_486.out
                            have hnc95 := NB486_480.out
                            have hnb96 := NB480_489.out
                            have hnc96 := NB489_480.out
                            have hcz97_0 : wr.cell? ⟨gb480, 0, none⟩ = some (.int .i64 t478) := (blk_cell BK480.out 0).trans rfl
                            have hcz97_1 : wr.cell? ⟨gb480, 1, none⟩ = some (.int .i64 t479) := (blk_cell BK480.out 1).trans rfl
                            have hfz97_0 := blk_frozen BK480.out 0
                            have hfz97_1 := blk_frozen BK480.out 1
                            go_wp2_with (first | (go_at_call 27; (with_reducible refine (document_Cost.calls a0 (-5) t490 t491 _ A85.out).mono ?_); rintro e w98 ⟨rfl, hb⟩; have n0_ := Aside0.mk (blk_below (g := gb480) (o := .cells #[.int .i64 t478, .int .i64 t479] 36 (0, 0)) (by (with_reducible repeat (first | refine blk_drewN ?_ _ | refine blk_drew ?_ | refine blk_alloc ?_ _)); exact BK480.out) hb); have n1_ := Aside0.mk (blk_below (g := gb483) (o := .cells #[.int .i64 t481, .int .i64 t482] 36 (0, 0)) (by (with_reducible repeat (first | refine blk_drewN ?_ _ | refine blk_drew ?_ | refine blk_alloc ?_ _)); exact BK483.out) hb); have n2_ := Aside0.mk (blk_below (g := gb486) (o := .cells #[.int .i64 t484, .int .i64 t485] 36 (0, 0)) (by (with_reducible repeat (first | refine blk_drewN ?_ _ | refine blk_drew ?_ | refine blk_alloc ?_ _)); exact BK486.out) hb); have n3_ := Aside0.mk (blk_below (g := gb489) (o := .cells #[.int .i64 t487, .int .i64 t488] 36 (0, 0)) (by (with_reducible repeat (first | refine blk_drewN ?_ _ | refine blk_drew ?_ | refine blk_alloc ?_ _)); exact BK489.out) hb); have n4_ := Aside0.mk (below_step (by repeat (first | (with_reducible first | exact HB.out | apply below_alloc | apply pw_below_drewN | apply below_drew1 | refine below_set ?_ GE480.out | refine below_set ?_ GE483.out | refine below_set ?_ GE486.out | refine below_set ?_ GE489.out) | exact HB.out)) hb); clear BK480; clear BK483; clear BK486; clear BK489; clear HB; have BK480 := n0_; have BK483 := n1_; have BK486 := n2_; have BK489 := n3_; have HB := n4_; clear n0_ n1_ n2_ n3_ n4_; (try clear hb); (try clear hb2); (try clear hk); (try clear hi)) | (go_at_call 27; (with_reducible refine (document_Cost.calls a0 0 t492 t493 _ A86.out).mono ?_); rintro e w99 ⟨rfl, hb⟩; have n0_ := Aside0.mk (blk_below (g := gb480) (o := .cells #[.int .i64 t478, .int .i64 t479] 36 (0, 0)) (by (with_reducible repeat (first | refine blk_drewN ?_ _ | refine blk_drew ?_ | refine blk_alloc ?_ _)); exact BK480.out) hb); have n1_ := Aside0.mk (blk_below (g := gb483) (o := .cells #[.int .i64 t481, .int .i64 t482] 36 (0, 0)) (by (with_reducible repeat (first | refine blk_drewN ?_ _ | refine blk_drew ?_ | refine blk_alloc ?_ _)); exact BK483.out) hb); have n2_ := Aside0.mk (blk_below (g := gb486) (o := .cells #[.int .i64 t484, .int .i64 t485] 36 (0, 0)) (by (with_reducible repeat (first | refine blk_drewN ?_ _ | refine blk_drew ?_ | refine blk_alloc ?_ _)); exact BK486.out) hb); have n3_ := Aside0.mk (blk_below (g := gb489) (o := .cells #[.int .i64 t487, .int .i64 t488] 36 (0, 0)) (by (with_reducible repeat (first | refine blk_drewN ?_ _ | refine blk_drew ?_ | refine blk_alloc ?_ _)); exact BK489.out) hb); have n4_ := Aside0.mk (below_step (by repeat (first | (with_reducible first | exact HB.out | apply below_alloc | apply pw_below_drewN | apply below_drew1 | refine below_set ?_ GE480.out | refine below_set ?_ GE483.out | refine below_set ?_ GE486.out | refine below_set ?_ GE489.out) | exact HB.out)) hb); clear BK480; clear BK483; clear BK486; clear BK489; clear HB; have BK480 := n0_; have BK483 := n1_; have BK486 := n2_; have BK489 := n3_; have HB := n4_; clear n0_ n1_ n2_ n3_ n4_; (try clear hb); (try clear hb2); (try clear hk); (try clear hi)))
                            go_ret
                            exact ⟨by first | rfl | (simp [errW_none, errW_some] <;> rfl) | (simp [*, errW_none, errW_some] <;> rfl), by repeat (first | (with_reducible first | exact HB.out | apply below_alloc | apply pw_below_drewN | apply below_drew1 | refine below_set ?_ GE480.out | refine below_set ?_ GE483.out | refine below_set ?_ GE486.out | refine below_set ?_ GE489.out) | exact HB.out)⟩
                        · rw [if_neg c84] at H
                          have c84b0 : ((t478 == 0) == (decide (x12_3 ≤ a2))) = false := by simpa using c84
                          (try (have c84b1 : decide ((t478 == 0) = (decide (x12_3 ≤ a2))) = false := by simpa using c84))
                          (try (have c84b2 : ((t478 == 0) == (decide (x12_3 ≤ a2))) = false := by simpa using c84))
                          (try (have c84b3 : ¬ ((t478 == 0) = (decide (x12_3 ≤ a2))) := by simpa using c84))
                          clear c84
                          obtain rfl := Option.some.inj H
                          have hnb100 := NB480_483.out
                          have hnc100 := NB483_480.out
                          have hnb101 := NB480_486.out
                          have hnc101 := NB486_480.out
                          have hnb102 := NB480_489.out
                          have hnc102 := NB489_480.out
                          have hcz103_0 : wr.cell? ⟨gb480, 0, none⟩ = some (.int .i64 t478) := (blk_cell BK480.out 0).trans rfl
                          have hcz103_1 : wr.cell? ⟨gb480, 1, none⟩ = some (.int .i64 t479) := (blk_cell BK480.out 1).trans rfl
                          have hfz103_0 := blk_frozen BK480.out 0
                          have hfz103_1 := blk_frozen BK480.out 1
                          go_wp2
                          go_ret
                          exact ⟨by first | rfl | (simp [errW_none, errW_some] <;> rfl) | (simp [*, errW_none, errW_some] <;> rfl), by repeat (first | (with_reducible first | exact HB.out | apply below_alloc | apply pw_below_drewN | apply below_drew1 | refine below_set ?_ GE480.out | refine below_set ?_ GE483.out | refine below_set ?_ GE486.out | refine below_set ?_ GE489.out) | exact HB.out)⟩
          · rw [if_neg c14] at H
            exact absurd H (by simp)
        · rw [if_neg c13] at H
          exact absurd H (by simp)

/-- THE ONE PURE STATEMENT of koinelaw25_DocumentCosts: yours. -/
def koinelaw25_DocumentCosts.Pure : Prop := ∀ (a0 : ByteArray) (a1 : ByteArray) (a2 : Int), a0.size ≤ 140737488351232 → a1.size ≤ 140737488351232 → (Lit.int .i64 a2).wf = true → ∃ k, koinelaw25_DocumentCosts.f k a0 a1 a2 = some true
theorem koinelaw25_DocumentCosts.walk (P : koinelaw25_DocumentCosts.Pure) (a0 : ByteArray) (a1 : ByteArray) (a2 : Int) (w : World) (w0 : a0.size ≤ 140737488351232) (w1 : a1.size ≤ 140737488351232) (w2 : (Lit.int .i64 a2).wf = true) :
    Calls Try.prog 13 #[.string a0, .string a1, .int .i64 a2] w fun e w' => e = .returned (.bool true) ∧ Below w.heap.size w w' := by
  obtain ⟨k, h⟩ := P a0 a1 a2 w0 w1 w2
  refine (koinelaw25_DocumentCosts.calls k a0 a1 a2 true w h).mono ?_
  rintro e w' ⟨rfl, hd⟩
  exact ⟨rfl, hd⟩

end Go.Proofs.Ythmmdmnbcecooaa.A
