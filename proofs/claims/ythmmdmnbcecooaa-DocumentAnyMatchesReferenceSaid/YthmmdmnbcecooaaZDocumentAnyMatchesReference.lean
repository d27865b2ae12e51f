/- A1, A21S, X2, PureDocumentAny, LawDocumentAnyMatchesReference: texts of this seat, one behind the other. No condition of its own. -/
import Derived.Test.YthmmdmnbcecooaaZA
import Derived.Test.YthmmdmnbcecooaaZC
import Derived.Test.YthmmdmnbcecooaaZE
import Derived.Test.YthmmdmnbcecooaaZB
import Derived.Test.YthmmdmnbcecooaaWSized
import Derived.Deep.Slices
import Derived.Deep.Fields
import Derived.ChangeSame
import Derived.Test.YthmmdmnbcecooaaRows
import Derived.WalkKit
import Derived.ProofKit
import Derived.OpenShut
import Derived.ShutString
import Derived.ChangeOld
import Derived.ChangeSlices
import Derived.Below
import Derived.SizedLaws
import Derived.Test.YthmmdmnbcecooaaWEqStruct
/-! A1 -/
namespace Go.Proofs.Ythmmdmnbcecooaa.A
open Go.RowKit Go.Proofs.YthmmdmnbcecooaaW.PrintWords Go.Proofs.YthmmdmnbcecooaaW.PrintLast Go.Proofs.YthmmdmnbcecooaaW.PrintMore
attribute [local go_sem] max2_int min2_int max_two min_two max_three min_three max_four min_four   -- for this text's walks alone
set_option linter.unusedVariables false
set_option linter.unusedSimpArgs false

theorem eqA36 (d : Nat) (w : World) (x0 y0 : Int) (x1 y1 : Int) :
    (Op.equalIn (d + 2) 36 (.agg #[.int .i64 x0, .int .i64 x1]) (.agg #[.int .i64 y0, .int .i64 y1])).run Try.prog w = .ok (x0 == y0 && (x1 == y1)) w := by
  refine eqA_of Try.underlying36 (by kernel_rfl) ?_
  refine eqf_cons (by rfl) (by go_simp; rfl) (by go_simp; rfl) (by go_simp) ?_
  exact eqf_last (by rfl) (by go_simp; rfl) (by go_simp; rfl) (by go_simp)
end Go.Proofs.Ythmmdmnbcecooaa.A

/-! A21S -/
namespace Go.Proofs.Ythmmdmnbcecooaa.A
open Go.RowKit Go.Proofs.YthmmdmnbcecooaaW.PrintWords Go.Proofs.YthmmdmnbcecooaaW.PrintLast Go.Proofs.YthmmdmnbcecooaaW.PrintMore
attribute [local go_sem] max2_int min2_int max_two min_two max_three min_three max_four min_four   -- for this text's walks alone
set_option linter.unusedVariables false
set_option linter.unusedSimpArgs false

attribute [local go_sem high] eqA36
-- LAW
/-! ### koinelaw25_DocumentAnyMatchesReference: function 4 -/
mutual
def koinelaw25_DocumentAnyMatchesReference.j0 : Nat → List (S42) → List Bool → ByteArray → Bool → Bool → Option (Bool)
  | 0, _, _, _, _, _ => none
  | k + 1, x0, x1, x2, x7, x26 => if x26 = true then (some x7) else (koinelaw25_DocumentAnyMatchesReference.l0 k x0 x1 x2 x7 0)
def koinelaw25_DocumentAnyMatchesReference.l0 : Nat → List (S42) → List Bool → ByteArray → Bool → Int → Option (Bool)
  | 0, _, _, _, _, _ => none
  | k + 1, x0, x1, x2, x7, x8 => if x8 < (x0.length : Int) then (if 0 ≤ x8 then (if (((rd_T42 x0 x8).f1).size : Int) > 20 then (some x7) else (koinelaw25_DocumentAnyMatchesReference.l0 k x0 x1 x2 x7 (wrap64 (x8 + 1)))) else (none)) else ((document_Groups.f x0).bind fun bt278 => ((koineref25_Groups.f k x0).bind fun bt282 => ((document_Render.f x0 x1).bind fun bt286 => ((koineref25_Render.f x0 x1).bind fun bt288 => ((document_Cost.f x2 (x1.length : Int)).bind fun bt290 => ((koineref25_Cost.f k x2 (x1.length : Int)).bind fun bt292 => (if (bt290.1 == bt292.1 && (bt290.2 == bt292.2)) = true then ((document_Cost.f x2 (-1)).bind fun bt294 => ((koineref25_Cost.f k x2 (-1)).bind fun bt296 => ((document_Check.f x0).bind fun t298 => ((koineref25_Check.f k x0).bind fun t299 => (if t298 = t299 then (if bt278.2 = bt282.2 then ((koinelaw25_same.f k bt278.1 bt282.1).bind fun t300 => (if t300 = true then (if bt286.1.toList = bt288.1.toList then (if bt286.2 = bt288.2 then (if (bt294.1 == bt296.1 && (bt294.2 == bt296.2)) = true then (some x7) else (some false)) else (some false)) else (some false)) else (some false))) else (some false)) else (some false)))))) else ((document_Check.f x0).bind fun t301 => ((koineref25_Check.f k x0).bind fun t302 => (if t301 = t302 then (if bt278.2 = bt282.2 then ((koinelaw25_same.f k bt278.1 bt282.1).bind fun t303 => (if t303 = true then (if bt286.1.toList = bt288.1.toList then (if bt286.2 = bt288.2 then (some false) else (some false)) else (some false)) else (some false))) else (some false)) else (some false)))))))))))
end
def koinelaw25_DocumentAnyMatchesReference.f (k : Nat) (l0 : List (S42)) (l1 : List Bool) (a2 : ByteArray) : Option (Bool) := (koinelaw25_sanity.f).bind fun t276 => (if (l0.length : Int) > 24 then (koinelaw25_DocumentAnyMatchesReference.j0 k l0 l1 a2 t276 true) else (koinelaw25_DocumentAnyMatchesReference.j0 k l0 l1 a2 t276 (decide ((a2.size : Int) > 200))))
theorem koinelaw25_DocumentAnyMatchesReference.mono_l : ∀ k, (∀ y0 y1 y2 y3 y4, LeO (koinelaw25_DocumentAnyMatchesReference.j0 k y0 y1 y2 y3 y4) (koinelaw25_DocumentAnyMatchesReference.j0 (k + 1) y0 y1 y2 y3 y4)) ∧ (∀ y0 y1 y2 y3 y4, LeO (koinelaw25_DocumentAnyMatchesReference.l0 k y0 y1 y2 y3 y4) (koinelaw25_DocumentAnyMatchesReference.l0 (k + 1) y0 y1 y2 y3 y4))
  | 0 => ⟨fun _ _ _ _ _ r h => by simp [koinelaw25_DocumentAnyMatchesReference.j0] at h, fun _ _ _ _ _ r h => by simp [koinelaw25_DocumentAnyMatchesReference.l0] at h⟩
  | k + 1 => by
    obtain ⟨ih0, ih1⟩ := koinelaw25_DocumentAnyMatchesReference.mono_l k
    refine ⟨?_, ?_⟩
    · intro y0 y1 y2 y3 y4
      unfold koinelaw25_DocumentAnyMatchesReference.j0
      repeat' first
      | (with_reducible exact ih0 _ _ _ _ _)
      | (with_reducible exact ih1 _ _ _ _ _)
      | (with_reducible exact koinelaw25_same.mono _ _ _)
      | (with_reducible exact koineref25_Check.mono _ _)
      | (with_reducible exact koineref25_Cost.mono _ _ _)
      | (with_reducible exact koineref25_Groups.mono _ _)
      | (with_reducible exact LeO.refl _)
      | (with_reducible exact LeO.none _)
      | (with_reducible refine LeO.ite ?_ ?_)
      | (with_reducible refine LeO.bind ?_ (fun _ => ?_))
      | exact ih0 _ _ _ _ _
      | exact ih1 _ _ _ _ _
      | exact koinelaw25_same.mono _ _ _
      | exact koineref25_Check.mono _ _
      | exact koineref25_Cost.mono _ _ _
      | exact koineref25_Groups.mono _ _
      | exact LeO.none _
      | refine LeO.ite ?_ ?_
      | refine LeO.bind ?_ (fun _ => ?_)
    · intro y0 y1 y2 y3 y4
      unfold koinelaw25_DocumentAnyMatchesReference.l0
      repeat' first
      | (with_reducible exact ih0 _ _ _ _ _)
      | (with_reducible exact ih1 _ _ _ _ _)
      | (with_reducible exact koinelaw25_same.mono _ _ _)
      | (with_reducible exact koineref25_Check.mono _ _)
      | (with_reducible exact koineref25_Cost.mono _ _ _)
      | (with_reducible exact koineref25_Groups.mono _ _)
      | (with_reducible exact LeO.refl _)
      | (with_reducible exact LeO.none _)
      | (with_reducible refine LeO.ite ?_ ?_)
      | (with_reducible refine LeO.bind ?_ (fun _ => ?_))
      | exact ih0 _ _ _ _ _
      | exact ih1 _ _ _ _ _
      | exact koinelaw25_same.mono _ _ _
      | exact koineref25_Check.mono _ _
      | exact koineref25_Cost.mono _ _ _
      | exact koineref25_Groups.mono _ _
      | exact LeO.none _
      | refine LeO.ite ?_ ?_
      | refine LeO.bind ?_ (fun _ => ?_)
theorem koinelaw25_DocumentAnyMatchesReference.mono : ∀ a0 a1 a2 k, LeO (koinelaw25_DocumentAnyMatchesReference.f k a0 a1 a2) (koinelaw25_DocumentAnyMatchesReference.f (k + 1) a0 a1 a2) := by
  intro a0 a1 a2 k
  obtain ⟨ih0, ih1⟩ := koinelaw25_DocumentAnyMatchesReference.mono_l k
  unfold koinelaw25_DocumentAnyMatchesReference.f
  repeat' first
      | (with_reducible exact ih0 _ _ _ _ _)
      | (with_reducible exact ih1 _ _ _ _ _)
      | (with_reducible exact koinelaw25_same.mono _ _ _)
      | (with_reducible exact koineref25_Check.mono _ _)
      | (with_reducible exact koineref25_Cost.mono _ _ _)
      | (with_reducible exact koineref25_Groups.mono _ _)
      | (with_reducible exact LeO.refl _)
      | (with_reducible exact LeO.none _)
      | (with_reducible refine LeO.ite ?_ ?_)
      | (with_reducible refine LeO.bind ?_ (fun _ => ?_))
      | exact ih0 _ _ _ _ _
      | exact ih1 _ _ _ _ _
      | exact koinelaw25_same.mono _ _ _
      | exact koineref25_Check.mono _ _
      | exact koineref25_Cost.mono _ _ _
      | exact koineref25_Groups.mono _ _
      | exact LeO.none _
      | refine LeO.ite ?_ ?_
      | refine LeO.bind ?_ (fun _ => ?_)
set_option maxHeartbeats 8000000 in
set_option maxRecDepth 100000 in
theorem koinelaw25_DocumentAnyMatchesReference.calls (k : Nat) (A0 : Option Addr) (c0 : Nat) (l0 : List (S42)) (A1 : Option Addr) (c1 : Nat) (l1 : List Bool) (a2 : ByteArray) (r : Bool) (hr : Aside0 (r = true)) (w : World) (hr0 : Kd.C k42 w A0 l0.length l0) (hc0 : l0.length ≤ c0) (hr1 : Kd.C Kd.bool w A1 l1.length l1) (hc1 : l1.length ≤ c1) (h : koinelaw25_DocumentAnyMatchesReference.f k l0 l1 a2 = some r) :
    Calls Try.prog 4 #[.slice A0 l0.length c0, .slice A1 l1.length c1, .string a2] w fun e w' => e = .returned (.bool r) ∧ Below w.heap.size w w' := by
  have HR0 := Aside0.mk hr0
  have HC0 := Aside0.mk hc0
  clear hr0 hc0
  have HR1 := Aside0.mk hr1
  have HC1 := Aside0.mk hc1
  clear hr1 hc1
  have HB := Aside0.mk (Below.refl w.heap.size w)
  have H : ((koinelaw25_sanity.f).bind fun t276 => (if (l0.length : Int) > 24 then (koinelaw25_DocumentAnyMatchesReference.j0 k l0 l1 a2 t276 true) else (koinelaw25_DocumentAnyMatchesReference.j0 k l0 l1 a2 t276 (decide ((a2.size : Int) > 200))))) = some r := h
  clear h
  replace H := Option.bind_eq_some_iff.mp H
  obtain ⟨t276, A40, H⟩ := H
  replace H : (if (l0.length : Int) > 24 then (koinelaw25_DocumentAnyMatchesReference.j0 k l0 l1 a2 t276 true) else (koinelaw25_DocumentAnyMatchesReference.j0 k l0 l1 a2 t276 (decide ((a2.size : Int) > 200)))) = some r := H
  have A4 := Aside0.mk A40
  clear A40
  have HC5 := Aside0.mk H
  clear H
  go_enter Try.func4, Try.ntmps4
  go_upto_region 2 with (first | ((with_reducible refine gate_callee (f := 20) rfl ?_); refine goesL_ (some 18) rfl rfl Try.func20 (by kernel_rfl) rfl #[] rfl (by (try simp only [List.map_toArray, List.map_cons, List.map_nil]); first | done | rfl | (simp only [List.length_drop, List.length_take]; rfl)) ?_; (with_reducible refine (koinelaw25_sanity.calls  t276 _ A4.out).mono ?_); rintro e w6 ⟨rfl, hb⟩; refine ⟨_, rfl, ?_⟩; have n0_ := Aside0.mk (below_step (by repeat (first | (with_reducible first | exact HB.out | apply below_alloc | apply pw_below_drewN | apply below_drew1) | exact HB.out)) hb); clear HB; have HB := n0_; clear n0_; (try clear hb); (try clear hb2); (try clear hk); (try clear hi)))
  (try simp only [Act.put, List.setIfInBounds_toArray, List.set_cons_zero, List.set_cons_succ])
  go_cut [26] (fun v26 wc => ∃ (kq : Nat) (x26_4 : Bool), v26 = .bool x26_4 ∧ Aside0 (koinelaw25_DocumentAnyMatchesReference.j0 kq l0 l1 a2 t276 x26_4 = some r) ∧ Aside0 (kq ≤ k) ∧ Aside0 (Below w.heap.size w wc))
  case first =>
    have H := HC5.out
    clear HC5
    by_cases c7 : (l0.length : Int) > 24
    · rw [if_pos c7] at H
      have c7b0 : decide (24 < (l0.length : Int)) = true := decide_eq_true c7
      have c7b1 : decide (24 < l0.length) = true := decide_eq_true (by omega)
      clear c7
      (first | rw [c7b0] | (simp only [i64_w, i32_w]; rw [c7b0]) | skip)
      have H' := Aside0.mk H
      clear H
      go_wp2
      go_meet
      case rel => exact ⟨_, (true), (by first | rfl | (simp; done) | (simp [*]; done)), H', ⟨by first | omega | exact Nat.le_refl _⟩, ⟨by repeat (first | (with_reducible first | exact HB.out | apply below_alloc | apply pw_below_drewN | apply below_drew1) | exact HB.out)⟩⟩
    · rw [if_neg c7] at H
      have c7b0 : decide (24 < (l0.length : Int)) = false := decide_eq_false c7
      have c7b1 : decide (24 < l0.length) = false := decide_eq_false (by omega)
      clear c7
      (first | rw [c7b0] | (simp only [i64_w, i32_w]; rw [c7b0]) | skip)
      have H' := Aside0.mk H
      clear H
      go_wp2
      go_meet
      case rel => exact ⟨_, (decide ((a2.size : Int) > 200)), (by first | rfl | (simp; done) | (simp [*]; done)), H', ⟨by first | omega | exact Nat.le_refl _⟩, ⟨by repeat (first | (with_reducible first | exact HB.out | apply below_alloc | apply pw_below_drewN | apply below_drew1) | exact HB.out)⟩⟩
  case rest =>
    clear HC5
    try clear c1
    try clear c2
    try clear p2
    try clear c4
    try clear c7
    try clear c7b0
    try clear c7b1
    obtain ⟨kq, x26_4, rfl, HA, HJ4, HB⟩ := hcut
    cases kq with
    | zero => exact absurd HA.out (by simp [koinelaw25_DocumentAnyMatchesReference.j0])
    | succ kj4 =>
      have H := HA.out
      clear HA
      simp only [koinelaw25_DocumentAnyMatchesReference.j0] at H
      by_cases c8 : x26_4 = true
      · subst c8
        have H1 : (some t276) = some r := by rw [if_pos rfl] at H; exact H
        clear H
        have H := H1
        clear H1
        obtain rfl := Option.some.inj H
        go_wp2
        go_ret
        exact ⟨by first | rfl | (simp [errW_none, errW_some] <;> rfl) | (simp [*, errW_none, errW_some] <;> rfl), by repeat (first | (with_reducible first | exact HB.out | apply below_alloc | apply pw_below_drewN | apply below_drew1) | exact HB.out)⟩
      · replace c8 := Bool.eq_false_iff.mpr c8
        subst c8
        have H1 : (koinelaw25_DocumentAnyMatchesReference.l0 kj4 l0 l1 a2 t276 0) = some r := by rw [if_neg (show ¬ (false = true) by decide)] at H; exact H
        clear H
        have H := H1
        clear H1
        have H' := Aside0.mk H
        clear H
        go_wp2
        go_loopg [8] kj4 (fun kq v8 w' => ∃ (x8_2 : Int), v8 = .int .i64 x8_2 ∧ Aside0 (koinelaw25_DocumentAnyMatchesReference.l0 kq l0 l1 a2 t276 x8_2 = some r) ∧ Aside0 (kq ≤ kj4) ∧ Aside0 (Below w.heap.size w w'))
        case atStart => exact ⟨(0), (by first | rfl | (simp; done) | (simp [*]; done)), H', ⟨Nat.le_refl _⟩, ⟨by repeat (first | (with_reducible first | exact HB.out | apply below_alloc | apply pw_below_drewN | apply below_drew1) | exact HB.out)⟩⟩
        case round =>
          clear H'
          try clear c1
          try clear c2
          try clear p2
          try clear c4
          try clear c7
          try clear c7b0
          try clear c7b1
          try clear c8
          try clear p2
          obtain ⟨x8_2, rfl, HA, HK2, HB⟩ := hrel
          cases gk with
          | zero => exact absurd HA.out (by simp [koinelaw25_DocumentAnyMatchesReference.l0])
          | succ k2 =>
            have H := HA.out
            clear HA
            simp only [koinelaw25_DocumentAnyMatchesReference.l0] at H
            by_cases c9 : x8_2 < (l0.length : Int)
            · rw [if_pos c9] at H
              have c9b0 : decide (x8_2 < (l0.length : Int)) = true := decide_eq_true c9
              clear c9
              by_cases c10 : 0 ≤ x8_2
              · rw [if_pos c10] at H
                have c10b0 : decide (0 ≤ x8_2) = true := decide_eq_true c10
                clear c10
                by_cases c11 : (((rd_T42 l0 x8_2).f1).size : Int) > 20
                · rw [if_pos c11] at H
                  have c11b0 : decide (20 < (((rd_T42 l0 x8_2).f1).size : Int)) = true := decide_eq_true c11
                  have c11b1 : decide (20 < ((rd_T42 l0 x8_2).f1).size) = true := decide_eq_true (by omega)
                  clear c11
                  obtain rfl := Option.some.inj H
                  have p277 : 0 ≤ (x8_2 : Int) := of_decide_eq_true (by first | (with_reducible assumption) | assumption)
                  have q277 : x8_2 < (l0.length : Int) := of_decide_eq_true (by first | (with_reducible assumption) | assumption)
                  obtain ⟨ad277, e277, hx277_0, hx277_1, hx277_2, hx277_3, hx277_4⟩ := at_T42 HR0.out x8_2 p277 q277
                  cases e277
                  replace hx277_0 := (HB.out.cell (World.block_lt_of_cell? w _ hx277_0)).trans hx277_0
                  replace hx277_1 := (HB.out.cell (World.block_lt_of_cell? w _ hx277_1)).trans hx277_1
                  replace hx277_2 := (HB.out.cell (World.block_lt_of_cell? w _ hx277_2)).trans hx277_2
                  replace hx277_3 := (HB.out.cell (World.block_lt_of_cell? w _ hx277_3)).trans hx277_3
                  replace hx277_4 := (HB.out.cell (World.block_lt_of_cell? w _ hx277_4)).trans hx277_4
                  replace p277 := eq_true p277
                  replace q277 := eq_true q277
                  go_wp2
                  go_ret
                  exact ⟨by first | rfl | (simp [errW_none, errW_some] <;> rfl) | (simp [*, errW_none, errW_some] <;> rfl), by repeat (first | (with_reducible first | exact HB.out | apply below_alloc | apply pw_below_drewN | apply below_drew1) | exact HB.out)⟩
                · rw [if_neg c11] at H
                  have c11b0 : decide (20 < (((rd_T42 l0 x8_2).f1).size : Int)) = false := decide_eq_false c11
                  have c11b1 : decide (20 < ((rd_T42 l0 x8_2).f1).size) = false := decide_eq_false (by omega)
                  clear c11
                  have H' := Aside0.mk H
                  clear H
                  have p277 : 0 ≤ (x8_2 : Int) := of_decide_eq_true (by first | (with_reducible assumption) | assumption)
                  have q277 : x8_2 < (l0.length : Int) := of_decide_eq_true (by first | (with_reducible assumption) | assumption)
                  obtain ⟨ad277, e277, hx277_0, hx277_1, hx277_2, hx277_3, hx277_4⟩ := at_T42 HR0.out x8_2 p277 q277
                  cases e277
                  replace hx277_0 := (HB.out.cell (World.block_lt_of_cell? w _ hx277_0)).trans hx277_0
                  replace hx277_1 := (HB.out.cell (World.block_lt_of_cell? w _ hx277_1)).trans hx277_1
                  replace hx277_2 := (HB.out.cell (World.block_lt_of_cell? w _ hx277_2)).trans hx277_2
                  replace hx277_3 := (HB.out.cell (World.block_lt_of_cell? w _ hx277_3)).trans hx277_3
                  replace hx277_4 := (HB.out.cell (World.block_lt_of_cell? w _ hx277_4)).trans hx277_4
                  replace p277 := eq_true p277
                  replace q277 := eq_true q277
                  go_wp2
                  go_roundg k2
                  case measure => have := HJ4.out; have := HK2.out; omega
                  case rel => exact ⟨(wrap64 (x8_2 + 1)), (by first | rfl | (simp; done) | (simp [*]; done)), H', ⟨by have := HJ4.out; have := HK2.out; omega⟩, ⟨by repeat (first | (with_reducible first | exact HB.out | apply below_alloc | apply pw_below_drewN | apply below_drew1) | exact HB.out)⟩⟩
              · rw [if_neg c10] at H
                exact absurd H (by simp)
            · rw [if_neg c9] at H
              have c9b0 : decide (x8_2 < (l0.length : Int)) = false := decide_eq_false c9
              clear c9
              replace H := Option.bind_eq_some_iff.mp H
              obtain ⟨⟨t278, t279⟩, A120, H⟩ := H
              replace H : ((koineref25_Groups.f k2 l0).bind fun bt282 => ((document_Render.f l0 l1).bind fun bt286 => ((koineref25_Render.f l0 l1).bind fun bt288 => ((document_Cost.f a2 (l1.length : Int)).bind fun bt290 => ((koineref25_Cost.f k2 a2 (l1.length : Int)).bind fun bt292 => (if (bt290.1 == bt292.1 && (bt290.2 == bt292.2)) = true then ((document_Cost.f a2 (-1)).bind fun bt294 => ((koineref25_Cost.f k2 a2 (-1)).bind fun bt296 => ((document_Check.f l0).bind fun t298 => ((koineref25_Check.f k2 l0).bind fun t299 => (if t298 = t299 then (if t279 = bt282.2 then ((koinelaw25_same.f k2 t278 bt282.1).bind fun t300 => (if t300 = true then (if bt286.1.toList = bt288.1.toList then (if bt286.2 = bt288.2 then (if (bt294.1 == bt296.1 && (bt294.2 == bt296.2)) = true then (some t276) else (some false)) else (some false)) else (some false)) else (some false))) else (some false)) else (some false)))))) else ((document_Check.f l0).bind fun t301 => ((koineref25_Check.f k2 l0).bind fun t302 => (if t301 = t302 then (if t279 = bt282.2 then ((koinelaw25_same.f k2 t278 bt282.1).bind fun t303 => (if t303 = true then (if bt286.1.toList = bt288.1.toList then (if bt286.2 = bt288.2 then (some false) else (some false)) else (some false)) else (some false))) else (some false)) else (some false)))))))))) = some r := H
              have A12 := Aside0.mk A120
              clear A120
              replace H := Option.bind_eq_some_iff.mp H
              obtain ⟨⟨t282, t283⟩, A130, H⟩ := H
              replace H : ((document_Render.f l0 l1).bind fun bt286 => ((koineref25_Render.f l0 l1).bind fun bt288 => ((document_Cost.f a2 (l1.length : Int)).bind fun bt290 => ((koineref25_Cost.f k2 a2 (l1.length : Int)).bind fun bt292 => (if (bt290.1 == bt292.1 && (bt290.2 == bt292.2)) = true then ((document_Cost.f a2 (-1)).bind fun bt294 => ((koineref25_Cost.f k2 a2 (-1)).bind fun bt296 => ((document_Check.f l0).bind fun t298 => ((koineref25_Check.f k2 l0).bind fun t299 => (if t298 = t299 then (if t279 = t283 then ((koinelaw25_same.f k2 t278 t282).bind fun t300 => (if t300 = true then (if bt286.1.toList = bt288.1.toList then (if bt286.2 = bt288.2 then (if (bt294.1 == bt296.1 && (bt294.2 == bt296.2)) = true then (some t276) else (some false)) else (some false)) else (some false)) else (some false))) else (some false)) else (some false)))))) else ((document_Check.f l0).bind fun t301 => ((koineref25_Check.f k2 l0).bind fun t302 => (if t301 = t302 then (if t279 = t283 then ((koinelaw25_same.f k2 t278 t282).bind fun t303 => (if t303 = true then (if bt286.1.toList = bt288.1.toList then (if bt286.2 = bt288.2 then (some false) else (some false)) else (some false)) else (some false))) else (some false)) else (some false))))))))) = some r := H
              have A13 := Aside0.mk A130
              clear A130
              replace H := Option.bind_eq_some_iff.mp H
              obtain ⟨⟨t286, t287⟩, A140, H⟩ := H
              replace H : ((koineref25_Render.f l0 l1).bind fun bt288 => ((document_Cost.f a2 (l1.length : Int)).bind fun bt290 => ((koineref25_Cost.f k2 a2 (l1.length : Int)).bind fun bt292 => (if (bt290.1 == bt292.1 && (bt290.2 == bt292.2)) = true then ((document_Cost.f a2 (-1)).bind fun bt294 => ((koineref25_Cost.f k2 a2 (-1)).bind fun bt296 => ((document_Check.f l0).bind fun t298 => ((koineref25_Check.f k2 l0).bind fun t299 => (if t298 = t299 then (if t279 = t283 then ((koinelaw25_same.f k2 t278 t282).bind fun t300 => (if t300 = true then (if t286.toList = bt288.1.toList then (if t287 = bt288.2 then (if (bt294.1 == bt296.1 && (bt294.2 == bt296.2)) = true then (some t276) else (some false)) else (some false)) else (some false)) else (some false))) else (some false)) else (some false)))))) else ((document_Check.f l0).bind fun t301 => ((koineref25_Check.f k2 l0).bind fun t302 => (if t301 = t302 then (if t279 = t283 then ((koinelaw25_same.f k2 t278 t282).bind fun t303 => (if t303 = true then (if t286.toList = bt288.1.toList then (if t287 = bt288.2 then (some false) else (some false)) else (some false)) else (some false))) else (some false)) else (some false)))))))) = some r := H
              have A14 := Aside0.mk A140
              clear A140
              replace H := Option.bind_eq_some_iff.mp H
              obtain ⟨⟨t288, t289⟩, A150, H⟩ := H
              replace H : ((document_Cost.f a2 (l1.length : Int)).bind fun bt290 => ((koineref25_Cost.f k2 a2 (l1.length : Int)).bind fun bt292 => (if (bt290.1 == bt292.1 && (bt290.2 == bt292.2)) = true then ((document_Cost.f a2 (-1)).bind fun bt294 => ((koineref25_Cost.f k2 a2 (-1)).bind fun bt296 => ((document_Check.f l0).bind fun t298 => ((koineref25_Check.f k2 l0).bind fun t299 => (if t298 = t299 then (if t279 = t283 then ((koinelaw25_same.f k2 t278 t282).bind fun t300 => (if t300 = true then (if t286.toList = t288.toList then (if t287 = t289 then (if (bt294.1 == bt296.1 && (bt294.2 == bt296.2)) = true then (some t276) else (some false)) else (some false)) else (some false)) else (some false))) else (some false)) else (some false)))))) else ((document_Check.f l0).bind fun t301 => ((koineref25_Check.f k2 l0).bind fun t302 => (if t301 = t302 then (if t279 = t283 then ((koinelaw25_same.f k2 t278 t282).bind fun t303 => (if t303 = true then (if t286.toList = t288.toList then (if t287 = t289 then (some false) else (some false)) else (some false)) else (some false))) else (some false)) else (some false))))))) = some r := H
              have A15 := Aside0.mk A150
              clear A150
              replace H := Option.bind_eq_some_iff.mp H
              obtain ⟨⟨t290, t291⟩, A160, H⟩ := H
              replace H : ((koineref25_Cost.f k2 a2 (l1.length : Int)).bind fun bt292 => (if (t290 == bt292.1 && (t291 == bt292.2)) = true then ((document_Cost.f a2 (-1)).bind fun bt294 => ((koineref25_Cost.f k2 a2 (-1)).bind fun bt296 => ((document_Check.f l0).bind fun t298 => ((koineref25_Check.f k2 l0).bind fun t299 => (if t298 = t299 then (if t279 = t283 then ((koinelaw25_same.f k2 t278 t282).bind fun t300 => (if t300 = true then (if t286.toList = t288.toList then (if t287 = t289 then (if (bt294.1 == bt296.1 && (bt294.2 == bt296.2)) = true then (some t276) else (some false)) else (some false)) else (some false)) else (some false))) else (some false)) else (some false)))))) else ((document_Check.f l0).bind fun t301 => ((koineref25_Check.f k2 l0).bind fun t302 => (if t301 = t302 then (if t279 = t283 then ((koinelaw25_same.f k2 t278 t282).bind fun t303 => (if t303 = true then (if t286.toList = t288.toList then (if t287 = t289 then (some false) else (some false)) else (some false)) else (some false))) else (some false)) else (some false)))))) = some r := H
              have A16 := Aside0.mk A160
              clear A160
              replace H := Option.bind_eq_some_iff.mp H
              obtain ⟨⟨t292, t293⟩, A170, H⟩ := H
              replace H : (if (t290 == t292 && (t291 == t293)) = true then ((document_Cost.f a2 (-1)).bind fun bt294 => ((koineref25_Cost.f k2 a2 (-1)).bind fun bt296 => ((document_Check.f l0).bind fun t298 => ((koineref25_Check.f k2 l0).bind fun t299 => (if t298 = t299 then (if t279 = t283 then ((koinelaw25_same.f k2 t278 t282).bind fun t300 => (if t300 = true then (if t286.toList = t288.toList then (if t287 = t289 then (if (bt294.1 == bt296.1 && (bt294.2 == bt296.2)) = true then (some t276) else (some false)) else (some false)) else (some false)) else (some false))) else (some false)) else (some false)))))) else ((document_Check.f l0).bind fun t301 => ((koineref25_Check.f k2 l0).bind fun t302 => (if t301 = t302 then (if t279 = t283 then ((koinelaw25_same.f k2 t278 t282).bind fun t303 => (if t303 = true then (if t286.toList = t288.toList then (if t287 = t289 then (some false) else (some false)) else (some false)) else (some false))) else (some false)) else (some false))))) = some r := H
              have A17 := Aside0.mk A170
              clear A170
              by_cases c18 : (t290 == t292 && (t291 == t293)) = true
              · rw [if_pos c18] at H
                have c18b0 : (t290 == t292 && (t291 == t293)) = true := c18
                (try (have c18b1 : decide (t290 = t292 && (t291 == t293)) = true := by simpa using c18))
                (try (have c18b2 : (t290 == t292 && (t291 == t293)) = true := by simpa using c18))
                clear c18
                replace H := Option.bind_eq_some_iff.mp H
                obtain ⟨⟨t294, t295⟩, A190, H⟩ := H
                replace H : ((koineref25_Cost.f k2 a2 (-1)).bind fun bt296 => ((document_Check.f l0).bind fun t298 => ((koineref25_Check.f k2 l0).bind fun t299 => (if t298 = t299 then (if t279 = t283 then ((koinelaw25_same.f k2 t278 t282).bind fun t300 => (if t300 = true then (if t286.toList = t288.toList then (if t287 = t289 then (if (t294 == bt296.1 && (t295 == bt296.2)) = true then (some t276) else (some false)) else (some false)) else (some false)) else (some false))) else (some false)) else (some false))))) = some r := H
                have A19 := Aside0.mk A190
                clear A190
                replace H := Option.bind_eq_some_iff.mp H
                obtain ⟨⟨t296, t297⟩, A200, H⟩ := H
                replace H : ((document_Check.f l0).bind fun t298 => ((koineref25_Check.f k2 l0).bind fun t299 => (if t298 = t299 then (if t279 = t283 then ((koinelaw25_same.f k2 t278 t282).bind fun t300 => (if t300 = true then (if t286.toList = t288.toList then (if t287 = t289 then (if (t294 == t296 && (t295 == t297)) = true then (some t276) else (some false)) else (some false)) else (some false)) else (some false))) else (some false)) else (some false)))) = some r := H
                have A20 := Aside0.mk A200
                clear A200
                replace H := Option.bind_eq_some_iff.mp H
                obtain ⟨t298, A210, H⟩ := H
                replace H : ((koineref25_Check.f k2 l0).bind fun t299 => (if t298 = t299 then (if t279 = t283 then ((koinelaw25_same.f k2 t278 t282).bind fun t300 => (if t300 = true then (if t286.toList = t288.toList then (if t287 = t289 then (if (t294 == t296 && (t295 == t297)) = true then (some t276) else (some false)) else (some false)) else (some false)) else (some false))) else (some false)) else (some false))) = some r := H
                have A21 := Aside0.mk A210
                clear A210
                replace H := Option.bind_eq_some_iff.mp H
                obtain ⟨t299, A220, H⟩ := H
                replace H : (if t298 = t299 then (if t279 = t283 then ((koinelaw25_same.f k2 t278 t282).bind fun t300 => (if t300 = true then (if t286.toList = t288.toList then (if t287 = t289 then (if (t294 == t296 && (t295 == t297)) = true then (some t276) else (some false)) else (some false)) else (some false)) else (some false))) else (some false)) else (some false)) = some r := H
                have A22 := Aside0.mk A220
                clear A220
                by_cases c23 : t298 = t299
                · rw [if_pos c23] at H
                  have c23b0 : (t298 == t299) = true := beq_iff_eq.mpr c23
                  have c23b1 : (t298 != t299) = false := bne_eq_false_iff_eq.mpr c23
                  clear c23
                  by_cases c24 : t279 = t283
                  · rw [if_pos c24] at H
                    have c24b0 : (t279 == t283) = true := beq_iff_eq.mpr c24
                    have c24b1 : (t279 != t283) = false := bne_eq_false_iff_eq.mpr c24
                    clear c24
                    replace H := Option.bind_eq_some_iff.mp H
                    obtain ⟨t300, A250, H⟩ := H
                    replace H : (if t300 = true then (if t286.toList = t288.toList then (if t287 = t289 then (if (t294 == t296 && (t295 == t297)) = true then (some t276) else (some false)) else (some false)) else (some false)) else (some false)) = some r := H
                    have A25 := Aside0.mk A250
                    clear A250
                    by_cases c26 : t300 = true
                    · subst c26
                      have H1 : (if t286.toList = t288.toList then (if t287 = t289 then (if (t294 == t296 && (t295 == t297)) = true then (some t276) else (some false)) else (some false)) else (some false)) = some r := by rw [if_pos rfl] at H; exact H
                      clear H
                      have H := H1
                      clear H1
                      by_cases c27 : t286.toList = t288.toList
                      · rw [if_pos c27] at H
                        have c27b0 : (t286.toList == t288.toList) = true := beq_iff_eq.mpr c27
                        have c27b1 : (t286.toList != t288.toList) = false := bne_eq_false_iff_eq.mpr c27
                        clear c27
                        by_cases c28 : t287 = t289
                        · rw [if_pos c28] at H
                          have c28b0 : (t287 == t289) = true := beq_iff_eq.mpr c28
                          have c28b1 : (t287 != t289) = false := bne_eq_false_iff_eq.mpr c28
                          clear c28
                          by_cases c29 : (t294 == t296 && (t295 == t297)) = true
                          · rw [if_pos c29] at H
                            have c29b0 : (t294 == t296 && (t295 == t297)) = true := c29
                            (try (have c29b1 : decide (t294 = t296 && (t295 == t297)) = true := by simpa using c29))
                            (try (have c29b2 : (t294 == t296 && (t295 == t297)) = true := by simpa using c29))
                            clear c29
                            obtain rfl := Option.some.inj H
                            go_wp2_with (first | ((with_reducible refine gate_callee (f := 22) rfl ?_); refine goesL_ (some 44) rfl rfl Try.func22 (by kernel_rfl) rfl #[.slice A0 l0.length c0] rfl (by (try simp only [List.map_toArray, List.map_cons, List.map_nil]); first | done | rfl | (simp only [List.length_drop, List.length_take]; rfl)) ?_; (with_reducible refine (document_Groups.calls _ _ l0 t278 t279 _ ?side1 ?side2 A12.out).mono ?_); (case side1 => repeat (first | exact (Kd.C_below HR0.out HB.out) | (with_reducible refine Kd.C_alloc ?_ _) | (with_reducible refine Kd.C_drewN ?_ _) | (with_reducible refine Kd.C_drew ?_))); (case side2 => exact HC0.out); rintro e w30 ⟨v280, rfl, ho0, hb⟩; refine ⟨_, rfl, ?_⟩; have n0_ := Aside0.mk (Kd.R_lower ho0 (below_size (by repeat (first | (with_reducible first | exact HB.out | apply below_alloc | apply pw_below_drewN | apply below_drew1) | exact HB.out)))); have n1_ := Aside0.mk (below_step (by repeat (first | (with_reducible first | exact HB.out | apply below_alloc | apply pw_below_drewN | apply below_drew1) | exact HB.out)) hb); clear HB; have HO281 := n0_; have HB := n1_; clear n0_ n1_; (try clear hb); (try clear hb2); (try clear hk); (try clear hi); (try clear ho0)) | ((with_reducible refine gate_callee (f := 23) rfl ?_); refine goesL_ (some 49) rfl rfl Try.func23 (by kernel_rfl) rfl #[.slice A0 l0.length c0] rfl (by (try simp only [List.map_toArray, List.map_cons, List.map_nil]); first | done | rfl | (simp only [List.length_drop, List.length_take]; rfl)) ?_; (with_reducible refine (koineref25_Groups.calls k2 _ _ l0 t282 t283 _ ?side1 ?side2 A13.out).mono ?_); (case side1 => repeat (first | exact (Kd.C_below HR0.out HB.out) | (with_reducible refine Kd.C_alloc ?_ _) | (with_reducible refine Kd.C_drewN ?_ _) | (with_reducible refine Kd.C_drew ?_))); (case side2 => exact HC0.out); rintro e w31 ⟨v284, rfl, ho0, hb⟩; refine ⟨_, rfl, ?_⟩; have n0_ := Aside0.mk (Kd.R_elder' (by (with_reducible repeat (first | apply Kd.R_alloc | apply Kd.R_drewN | apply Kd.R_drew)); exact HO281.out) (Kd.R_base ho0) hb); have n1_ := Aside0.mk (Kd.R_lower (Kd.R_new' ho0 (Kd.R_lt (by (with_reducible repeat (first | apply Kd.R_alloc | apply Kd.R_drewN | apply Kd.R_drew)); exact HO281.out))) (below_size (by repeat (first | (with_reducible first | exact HB.out | apply below_alloc | apply pw_below_drewN | apply below_drew1) | exact HB.out)))); have n2_ := Aside0.mk (below_step (by repeat (first | (with_reducible first | exact HB.out | apply below_alloc | apply pw_below_drewN | apply below_drew1) | exact HB.out)) hb); clear HO281; clear HB; have HO281 := n0_; have HO285 := n1_; have HB := n2_; clear n0_ n1_ n2_; (try clear hb); (try clear hb2); (try clear hk); (try clear hi); (try clear ho0)) | ((with_reducible refine gate_callee (f := 24) rfl ?_); refine goesL_ (some 55) rfl rfl Try.func24 (by kernel_rfl) rfl #[.slice A0 l0.length c0, .slice A1 l1.length c1] rfl (by (try simp only [List.map_toArray, List.map_cons, List.map_nil]); first | done | rfl | (simp only [List.length_drop, List.length_take]; rfl)) ?_; (with_reducible refine (document_Render.calls _ _ l0 _ _ l1 t286 t287 _ ?side1 ?side2 ?side3 ?side4 A14.out).mono ?_); (case side1 => repeat (first | exact (Kd.C_below HR0.out HB.out) | (with_reducible refine Kd.C_alloc ?_ _) | (with_reducible refine Kd.C_drewN ?_ _) | (with_reducible refine Kd.C_drew ?_))); (case side2 => exact HC0.out); (case side3 => repeat (first | exact (Kd.C_below HR1.out HB.out) | (with_reducible refine Kd.C_alloc ?_ _) | (with_reducible refine Kd.C_drewN ?_ _) | (with_reducible refine Kd.C_drew ?_))); (case side4 => exact HC1.out); rintro e w32 ⟨rfl, hb⟩; refine ⟨_, rfl, ?_⟩; have n0_ := Aside0.mk (Kd.R_below (by (with_reducible repeat (first | apply Kd.R_alloc | apply Kd.R_drewN | apply Kd.R_drew)); exact HO281.out) hb); have n1_ := Aside0.mk (Kd.R_below (by (with_reducible repeat (first | apply Kd.R_alloc | apply Kd.R_drewN | apply Kd.R_drew)); exact HO285.out) hb); have n2_ := Aside0.mk (below_step (by repeat (first | (with_reducible first | exact HB.out | apply below_alloc | apply pw_below_drewN | apply below_drew1) | exact HB.out)) hb); clear HO281; clear HO285; clear HB; have HO281 := n0_; have HO285 := n1_; have HB := n2_; clear n0_ n1_ n2_; (try clear hb); (try clear hb2); (try clear hk); (try clear hi)) | ((with_reducible refine gate_callee (f := 25) rfl ?_); refine goesL_ (some 61) rfl rfl Try.func25 (by kernel_rfl) rfl #[.slice A0 l0.length c0, .slice A1 l1.length c1] rfl (by (try simp only [List.map_toArray, List.map_cons, List.map_nil]); first | done | rfl | (simp only [List.length_drop, List.length_take]; rfl)) ?_; (with_reducible refine (koineref25_Render.calls _ _ l0 _ _ l1 t288 t289 _ ?side1 ?side2 ?side3 ?side4 A15.out).mono ?_); (case side1 => repeat (first | exact (Kd.C_below HR0.out HB.out) | (with_reducible refine Kd.C_alloc ?_ _) | (with_reducible refine Kd.C_drewN ?_ _) | (with_reducible refine Kd.C_drew ?_))); (case side2 => exact HC0.out); (case side3 => repeat (first | exact (Kd.C_below HR1.out HB.out) | (with_reducible refine Kd.C_alloc ?_ _) | (with_reducible refine Kd.C_drewN ?_ _) | (with_reducible refine Kd.C_drew ?_))); (case side4 => exact HC1.out); rintro e w33 ⟨rfl, hb⟩; refine ⟨_, rfl, ?_⟩; have n0_ := Aside0.mk (Kd.R_below (by (with_reducible repeat (first | apply Kd.R_alloc | apply Kd.R_drewN | apply Kd.R_drew)); exact HO281.out) hb); have n1_ := Aside0.mk (Kd.R_below (by (with_reducible repeat (first | apply Kd.R_alloc | apply Kd.R_drewN | apply Kd.R_drew)); exact HO285.out) hb); have n2_ := Aside0.mk (below_step (by repeat (first | (with_reducible first | exact HB.out | apply below_alloc | apply pw_below_drewN | apply below_drew1) | exact HB.out)) hb); clear HO281; clear HO285; clear HB; have HO281 := n0_; have HO285 := n1_; have HB := n2_; clear n0_ n1_ n2_; (try clear hb); (try clear hb2); (try clear hk); (try clear hi)) | ((with_reducible refine gate_callee (f := 27) rfl ?_); refine goesL_ (some 67) rfl rfl Try.func27 (by kernel_rfl) rfl #[.string a2, .int .i64 (l1.length : Int)] rfl (by (try simp only [List.map_toArray, List.map_cons, List.map_nil]); first | done | rfl | (simp only [List.length_drop, List.length_take]; rfl)) ?_; (with_reducible refine (document_Cost.calls a2 (l1.length : Int) t290 t291 _ A16.out).mono ?_); rintro e w34 ⟨rfl, hb⟩; refine ⟨_, rfl, ?_⟩; have n0_ := Aside0.mk (Kd.R_below (by (with_reducible repeat (first | apply Kd.R_alloc | apply Kd.R_drewN | apply Kd.R_drew)); exact HO281.out) hb); have n1_ := Aside0.mk (Kd.R_below (by (with_reducible repeat (first | apply Kd.R_alloc | apply Kd.R_drewN | apply Kd.R_drew)); exact HO285.out) hb); have n2_ := Aside0.mk (below_step (by repeat (first | (with_reducible first | exact HB.out | apply below_alloc | apply pw_below_drewN | apply below_drew1) | exact HB.out)) hb); clear HO281; clear HO285; clear HB; have HO281 := n0_; have HO285 := n1_; have HB := n2_; clear n0_ n1_ n2_; (try clear hb); (try clear hb2); (try clear hk); (try clear hi)) | ((with_reducible refine gate_callee (f := 28) rfl ?_); refine goesL_ (some 71) rfl rfl Try.func28 (by kernel_rfl) rfl #[.string a2, .int .i64 (l1.length : Int)] rfl (by (try simp only [List.map_toArray, List.map_cons, List.map_nil]); first | done | rfl | (simp only [List.length_drop, List.length_take]; rfl)) ?_; (with_reducible refine (koineref25_Cost.calls k2 a2 (l1.length : Int) t292 t293 _ A17.out).mono ?_); rintro e w35 ⟨rfl, hb⟩; refine ⟨_, rfl, ?_⟩; have n0_ := Aside0.mk (Kd.R_below (by (with_reducible repeat (first | apply Kd.R_alloc | apply Kd.R_drewN | apply Kd.R_drew)); exact HO281.out) hb); have n1_ := Aside0.mk (Kd.R_below (by (with_reducible repeat (first | apply Kd.R_alloc | apply Kd.R_drewN | apply Kd.R_drew)); exact HO285.out) hb); have n2_ := Aside0.mk (below_step (by repeat (first | (with_reducible first | exact HB.out | apply below_alloc | apply pw_below_drewN | apply below_drew1) | exact HB.out)) hb); clear HO281; clear HO285; clear HB; have HO281 := n0_; have HO285 := n1_; have HB := n2_; clear n0_ n1_ n2_; (try clear hb); (try clear hb2); (try clear hk); (try clear hi)) | (go_at_call 27; (with_reducible refine (document_Cost.calls a2 (-1) t294 t295 _ A19.out).mono ?_); rintro e w36 ⟨rfl, hb⟩; have n0_ := Aside0.mk (Kd.R_below (by (with_reducible repeat (first | apply Kd.R_alloc | apply Kd.R_drewN | apply Kd.R_drew)); exact HO281.out) hb); have n1_ := Aside0.mk (Kd.R_below (by (with_reducible repeat (first | apply Kd.R_alloc | apply Kd.R_drewN | apply Kd.R_drew)); exact HO285.out) hb); have n2_ := Aside0.mk (below_step (by repeat (first | (with_reducible first | exact HB.out | apply below_alloc | apply pw_below_drewN | apply below_drew1) | exact HB.out)) hb); clear HO281; clear HO285; clear HB; have HO281 := n0_; have HO285 := n1_; have HB := n2_; clear n0_ n1_ n2_; (try clear hb); (try clear hb2); (try clear hk); (try clear hi)) | (go_at_call 28; (with_reducible refine (koineref25_Cost.calls k2 a2 (-1) t296 t297 _ A20.out).mono ?_); rintro e w37 ⟨rfl, hb⟩; have n0_ := Aside0.mk (Kd.R_below (by (with_reducible repeat (first | apply Kd.R_alloc | apply Kd.R_drewN | apply Kd.R_drew)); exact HO281.out) hb); have n1_ := Aside0.mk (Kd.R_below (by (with_reducible repeat (first | apply Kd.R_alloc | apply Kd.R_drewN | apply Kd.R_drew)); exact HO285.out) hb); have n2_ := Aside0.mk (below_step (by repeat (first | (with_reducible first | exact HB.out | apply below_alloc | apply pw_below_drewN | apply below_drew1) | exact HB.out)) hb); clear HO281; clear HO285; clear HB; have HO281 := n0_; have HO285 := n1_; have HB := n2_; clear n0_ n1_ n2_; (try clear hb); (try clear hb2); (try clear hk); (try clear hi)) | ((with_reducible refine gate_callee (f := 30) rfl ?_); refine goesL_ (some 81) rfl rfl Try.func30 (by kernel_rfl) rfl #[.slice A0 l0.length c0] rfl (by (try simp only [List.map_toArray, List.map_cons, List.map_nil]); first | done | rfl | (simp only [List.length_drop, List.length_take]; rfl)) ?_; (with_reducible refine (document_Check.calls _ _ l0 t298 _ ?side1 ?side2 A21.out).mono ?_); (case side1 => repeat (first | exact (Kd.C_below HR0.out HB.out) | (with_reducible refine Kd.C_alloc ?_ _) | (with_reducible refine Kd.C_drewN ?_ _) | (with_reducible refine Kd.C_drew ?_))); (case side2 => exact HC0.out); rintro e w38 ⟨rfl, hb⟩; refine ⟨_, rfl, ?_⟩; have n0_ := Aside0.mk (Kd.R_below (by (with_reducible repeat (first | apply Kd.R_alloc | apply Kd.R_drewN | apply Kd.R_drew)); exact HO281.out) hb); have n1_ := Aside0.mk (Kd.R_below (by (with_reducible repeat (first | apply Kd.R_alloc | apply Kd.R_drewN | apply Kd.R_drew)); exact HO285.out) hb); have n2_ := Aside0.mk (below_step (by repeat (first | (with_reducible first | exact HB.out | apply below_alloc | apply pw_below_drewN | apply below_drew1) | exact HB.out)) hb); clear HO281; clear HO285; clear HB; have HO281 := n0_; have HO285 := n1_; have HB := n2_; clear n0_ n1_ n2_; (try clear hb); (try clear hb2); (try clear hk); (try clear hi)) | ((with_reducible refine gate_callee (f := 31) rfl ?_); refine goesL_ (some 83) rfl rfl Try.func31 (by kernel_rfl) rfl #[.slice A0 l0.length c0] rfl (by (try simp only [List.map_toArray, List.map_cons, List.map_nil]); first | done | rfl | (simp only [List.length_drop, List.length_take]; rfl)) ?_; (with_reducible refine (koineref25_Check.calls k2 _ _ l0 t299 _ ?side1 ?side2 A22.out).mono ?_); (case side1 => repeat (first | exact (Kd.C_below HR0.out HB.out) | (with_reducible refine Kd.C_alloc ?_ _) | (with_reducible refine Kd.C_drewN ?_ _) | (with_reducible refine Kd.C_drew ?_))); (case side2 => exact HC0.out); rintro e w39 ⟨rfl, hb⟩; refine ⟨_, rfl, ?_⟩; have n0_ := Aside0.mk (Kd.R_below (by (with_reducible repeat (first | apply Kd.R_alloc | apply Kd.R_drewN | apply Kd.R_drew)); exact HO281.out) hb); have n1_ := Aside0.mk (Kd.R_below (by (with_reducible repeat (first | apply Kd.R_alloc | apply Kd.R_drewN | apply Kd.R_drew)); exact HO285.out) hb); have n2_ := Aside0.mk (below_step (by repeat (first | (with_reducible first | exact HB.out | apply below_alloc | apply pw_below_drewN | apply below_drew1) | exact HB.out)) hb); clear HO281; clear HO285; clear HB; have HO281 := n0_; have HO285 := n1_; have HB := n2_; clear n0_ n1_ n2_; (try clear hb); (try clear hb2); (try clear hk); (try clear hi); obtain ⟨Ao40, co40, eo40⟩ := Kd.R_slice HO281.out; subst eo40; obtain ⟨Ao41, co41, eo41⟩ := Kd.R_slice HO285.out; subst eo41) | (go_at_call 29; (with_reducible refine (koinelaw25_same.calls k2 _ _ t278 _ _ t282 true _ ?side1 ?side2 ?side3 ?side4 A25.out).mono ?_); (case side1 => repeat (first | exact (Kd.R_reads' HO281.out).2.2 | (with_reducible refine Kd.C_alloc ?_ _) | (with_reducible refine Kd.C_drewN ?_ _) | (with_reducible refine Kd.C_drew ?_))); (case side2 => exact (Kd.R_reads' HO281.out).2.1); (case side3 => repeat (first | exact (Kd.R_reads' HO285.out).2.2 | (with_reducible refine Kd.C_alloc ?_ _) | (with_reducible refine Kd.C_drewN ?_ _) | (with_reducible refine Kd.C_drew ?_))); (case side4 => exact (Kd.R_reads' HO285.out).2.1); rintro e w' ⟨rfl, ⟨nd, rfl⟩⟩))
                            go_ret
                            exact ⟨by first | rfl | (simp [errW_none, errW_some] <;> rfl) | (simp [*, errW_none, errW_some] <;> rfl), by repeat (first | (with_reducible first | exact HB.out | apply below_alloc | apply pw_below_drewN | apply below_drew1) | exact HB.out)⟩
                          · rw [if_neg c29] at H
                            exact absurd ((Option.some.inj H).trans hr.out) (by decide)
                        · rw [if_neg c28] at H
                          exact absurd ((Option.some.inj H).trans hr.out) (by decide)
                      · rw [if_neg c27] at H
                        exact absurd ((Option.some.inj H).trans hr.out) (by decide)
                    · replace c26 := Bool.eq_false_iff.mpr c26
                      subst c26
                      have H1 : (some false) = some r := by rw [if_neg (show ¬ (false = true) by decide)] at H; exact H
                      exact absurd ((Option.some.inj H1).trans hr.out) (by decide)
                  · rw [if_neg c24] at H
                    exact absurd ((Option.some.inj H).trans hr.out) (by decide)
                · rw [if_neg c23] at H
                  exact absurd ((Option.some.inj H).trans hr.out) (by decide)
              · rw [if_neg c18] at H
                have c18b0 : (t290 == t292 && (t291 == t293)) = false := by simpa using c18
                (try (have c18b1 : decide (t290 = t292 && (t291 == t293)) = false := by simpa using c18))
                (try (have c18b2 : (t290 == t292 && (t291 == t293)) = false := by simpa using c18))
                (try (have c18b3 : ¬ (t290 = t292 && (t291 == t293)) := by simpa using c18))
                clear c18
                replace H := Option.bind_eq_some_iff.mp H
                obtain ⟨t301, A1100, H⟩ := H
                replace H : ((koineref25_Check.f k2 l0).bind fun t302 => (if t301 = t302 then (if t279 = t283 then ((koinelaw25_same.f k2 t278 t282).bind fun t303 => (if t303 = true then (if t286.toList = t288.toList then (if t287 = t289 then (some false) else (some false)) else (some false)) else (some false))) else (some false)) else (some false))) = some r := H
                have A110 := Aside0.mk A1100
                clear A1100
                replace H := Option.bind_eq_some_iff.mp H
                obtain ⟨t302, A1110, H⟩ := H
                replace H : (if t301 = t302 then (if t279 = t283 then ((koinelaw25_same.f k2 t278 t282).bind fun t303 => (if t303 = true then (if t286.toList = t288.toList then (if t287 = t289 then (some false) else (some false)) else (some false)) else (some false))) else (some false)) else (some false)) = some r := H
                have A111 := Aside0.mk A1110
                clear A1110
                by_cases c112 : t301 = t302
                · rw [if_pos c112] at H
                  have c112b0 : (t301 == t302) = true := beq_iff_eq.mpr c112
                  have c112b1 : (t301 != t302) = false := bne_eq_false_iff_eq.mpr c112
                  clear c112
                  by_cases c113 : t279 = t283
                  · rw [if_pos c113] at H
                    have c113b0 : (t279 == t283) = true := beq_iff_eq.mpr c113
                    have c113b1 : (t279 != t283) = false := bne_eq_false_iff_eq.mpr c113
                    clear c113
                    replace H := Option.bind_eq_some_iff.mp H
                    obtain ⟨t303, A1140, H⟩ := H
                    replace H : (if t303 = true then (if t286.toList = t288.toList then (if t287 = t289 then (some false) else (some false)) else (some false)) else (some false)) = some r := H
                    have A114 := Aside0.mk A1140
                    clear A1140
                    by_cases c115 : t303 = true
                    · subst c115
                      have H1 : (if t286.toList = t288.toList then (if t287 = t289 then (some false) else (some false)) else (some false)) = some r := by rw [if_pos rfl] at H; exact H
                      clear H
                      have H := H1
                      clear H1
                      by_cases c116 : t286.toList = t288.toList
                      · rw [if_pos c116] at H
                        have c116b0 : (t286.toList == t288.toList) = true := beq_iff_eq.mpr c116
                        have c116b1 : (t286.toList != t288.toList) = false := bne_eq_false_iff_eq.mpr c116
                        clear c116
                        by_cases c117 : t287 = t289
                        · rw [if_pos c117] at H
                          exact absurd ((Option.some.inj H).trans hr.out) (by decide)
                        · rw [if_neg c117] at H
                          exact absurd ((Option.some.inj H).trans hr.out) (by decide)
                      · rw [if_neg c116] at H
                        exact absurd ((Option.some.inj H).trans hr.out) (by decide)
                    · replace c115 := Bool.eq_false_iff.mpr c115
                      subst c115
                      have H1 : (some false) = some r := by rw [if_neg (show ¬ (false = true) by decide)] at H; exact H
                      exact absurd ((Option.some.inj H1).trans hr.out) (by decide)
                  · rw [if_neg c113] at H
                    exact absurd ((Option.some.inj H).trans hr.out) (by decide)
                · rw [if_neg c112] at H
                  exact absurd ((Option.some.inj H).trans hr.out) (by decide)
end Go.Proofs.Ythmmdmnbcecooaa.A

/-! X2 -/
namespace Go.Proofs.Ythmmdmnbcecooaa.A
open Go.RowKit Go.Proofs.YthmmdmnbcecooaaW.PrintWords Go.Proofs.YthmmdmnbcecooaaW.PrintLast Go.Proofs.YthmmdmnbcecooaaW.PrintMore
open Go.ChangeShapes Go.WideShapes Go.Deep
set_option linter.unusedVariables false

theorem cells3 : Try.prog.cellsOf 3 = 1 := by kernel_rfl
theorem cells9 : Try.prog.cellsOf 9 = 1 := by kernel_rfl
theorem cells42' : Try.prog.cellsOf 42 = 5 := by kernel_rfl

theorem node_of {H : Type} {enc : TypeId × Value → H} {W : World} {base : Nat} {spare : Nat → Bool} {held : Bool} {n : Nat} {v0 v1 v2 v3 v4 : Value} {x : DataW H × List MemPlace} (h : DataW.trod enc Try.prog W base spare held n 42 [v0, v1, v2, v3, v4] = some x) :
    ∃ s : S42, v0 = .int .i64 s.f0 ∧ v1 = .string s.f1 ∧ v2 = .int .i64 s.f2 ∧ v3 = .int .i64 s.f3 ∧ v4 = .int .i64 s.f4 ∧ s.f1.size ≤ maxLen := by
  obtain ⟨ys, n', _, hy, hlen, hyl, hf⟩ := DataW.trod_struct Try.underlying42 h
  have five : ys.length = 5 := hyl
  have get : ∀ i, i < 5 → ∃ y, ys[i]? = some y := fun i hi => ⟨_, List.getElem?_eq_getElem (by omega)⟩
  obtain ⟨y0, e0⟩ := get 0 (by omega)
  obtain ⟨y1, e1⟩ := get 1 (by omega)
  obtain ⟨y2, e2⟩ := get 2 (by omega)
  obtain ⟨y3, e3⟩ := get 3 (by omega)
  obtain ⟨y4, e4⟩ := get 4 (by omega)
  have g0 : DataW.trod enc Try.prog W base spare held n' 3 [v0] = some y0 := by
    have this : DataW.trod enc Try.prog W base spare held n' 3 (List.take (Try.prog.cellsOf 3) [v0, v1, v2, v3, v4]) = some y0 := (hf 0 _ rfl).trans e0
    rw [cells3] at this
    exact this
  have g1 : DataW.trod enc Try.prog W base spare held n' 9 [v1] = some y1 := by
    have this : DataW.trod enc Try.prog W base spare held n' 9 (List.take (Try.prog.cellsOf 9) [v1, v2, v3, v4]) = some y1 := (hf 1 _ rfl).trans e1
    rw [cells9] at this
    exact this
  have g2 : DataW.trod enc Try.prog W base spare held n' 3 [v2] = some y2 := by
    have this : DataW.trod enc Try.prog W base spare held n' 3 (List.take (Try.prog.cellsOf 3) [v2, v3, v4]) = some y2 := (hf 2 _ rfl).trans e2
    rw [cells3] at this
    exact this
  have g3 : DataW.trod enc Try.prog W base spare held n' 3 [v3] = some y3 := by
    have this : DataW.trod enc Try.prog W base spare held n' 3 (List.take (Try.prog.cellsOf 3) [v3, v4]) = some y3 := (hf 3 _ rfl).trans e3
    rw [cells3] at this
    exact this
  have g4 : DataW.trod enc Try.prog W base spare held n' 3 [v4] = some y4 := by
    have this : DataW.trod enc Try.prog W base spare held n' 3 (List.take (Try.prog.cellsOf 3) [v4]) = some y4 := (hf 4 _ rfl).trans e4
    rw [cells3] at this
    exact this
  obtain ⟨a0, h0, _⟩ := DataW.trod_int Try.underlying3 g0
  obtain ⟨a1, h1, _, hs⟩ := DataW.trod_string Try.underlying9 g1
  obtain ⟨a2, h2, _⟩ := DataW.trod_int Try.underlying3 g2
  obtain ⟨a3, h3, _⟩ := DataW.trod_int Try.underlying3 g3
  obtain ⟨a4, h4, _⟩ := DataW.trod_int Try.underlying3 g4
  simp at h0 h1 h2 h3 h4
  exact ⟨⟨a0, a1, a2, a3, a4⟩, h0, h1, h2, h3, h4, hs⟩

theorem five_of {cs : List Value} (h : cs.length = 5) : ∃ v0 v1 v2 v3 v4, cs = [v0, v1, v2, v3, v4] := by
  match cs, h with
  | [v0, v1, v2, v3, v4], _ => exact ⟨_, _, _, _, _, rfl⟩

theorem docs_arg {H : Type} {enc : TypeId × Value → H} {W : World} {base : Nat} {held : Bool} {t : TypeId} (hu : Try.prog.underlying t = some (.slice 42)) {a : Option Addr} {len cap : Nat} {d : DataW H} {ps : List MemPlace}
    (h : DataW.Trod enc Try.prog W base (fun _ => true) held t (.slice a len cap) d ps) : ∃ l : List S42, len = l.length ∧ Kd.C k42 W a l.length l ∧ l.length ≤ maxLen ∧ l.length ≤ cap ∧ ∀ x ∈ l, x.f1.size ≤ maxLen := by
  obtain ⟨fuel, hf⟩ := h
  rcases open_slice hu hf with ⟨hcs, _⟩ | ⟨x, l, c, m, n, D, Pl, hcs, _, hl, hm, hmm, _, hx⟩
  · simp [Value.cells] at hcs
    obtain ⟨rfl, rfl, rfl⟩ := hcs
    exact ⟨[], rfl, ⟨rfl, Nat.zero_le _, fun h => absurd h (Nat.lt_irrefl 0)⟩, Nat.zero_le _, Nat.zero_le _, fun x hx => by cases hx⟩
  · simp [Value.cells] at hcs
    obtain ⟨rfl, rfl, rfl⟩ := hcs
    simp only [if_true] at hmm
    subst hmm
    have each : ∀ i, i < m → ∃ s : S42, s.f1.size ≤ maxLen ∧ ∀ (j : Nat) (u : Value), ([.int .i64 s.f0, .string s.f1, .int .i64 s.f2, .int .i64 s.f3, .int .i64 s.f4] : List Value)[j]? = some u → W.cell? (x.add (i * 5 + j)) = some u := fun i hi => by
      obtain ⟨cs', hc, ht⟩ := hx i hi
      rw [cells42'] at hc
      obtain ⟨_, hcl, hat⟩ := World.cells?_some hc
      obtain ⟨v0, v1, v2, v3, v4, rfl⟩ := five_of hcl
      obtain ⟨s, rfl, rfl, rfl, rfl, rfl, hs⟩ := node_of ht
      refine ⟨s, hs, fun j u hu => ?_⟩
      have hj : j < 5 := by
        have := (List.getElem?_eq_some_iff.1 hu).1
        simpa using this
      have := hat j hj
      rw [Go.Deep.add_add] at this
      rw [this]
      exact hu
    have : Inhabited S42 := ⟨⟨0, ⟨#[]⟩, 0, 0, 0⟩⟩
    obtain ⟨F, hF⟩ := choose_lt (p := fun i (s : S42) => s.f1.size ≤ maxLen ∧ ∀ (j : Nat) (u : Value), ([.int .i64 s.f0, .string s.f1, .int .i64 s.f2, .int .i64 s.f3, .int .i64 s.f4] : List Value)[j]? = some u → W.cell? (x.add (i * 5 + j)) = some u) each
    have hlen : ((List.range len).map F).length = len := by simp
    refine ⟨(List.range len).map F, hlen.symm, ⟨rfl, ?_, fun hn => ⟨x, rfl, fun j p hj => ⟨_, rfl, k42_mk W p, fun i u hu => ?_⟩⟩⟩, ?_, ?_, fun y hy => ?_⟩
    · rw [hlen]; have := Nat.le_trans hl hm; simpa [maxLen] using this
    · have hj2 : j < len := by
        have := (List.getElem?_eq_some_iff.1 hj).1
        simpa using this
      have hp : p = F j := by
        rw [List.getElem?_map, List.getElem?_range hj2] at hj
        simpa using hj.symm
      subst hp
      exact (hF j (by omega)).2 i u hu
    · rw [hlen]; exact Nat.le_trans hl hm
    · rw [hlen]; exact hl
    · obtain ⟨i, hi, rfl⟩ := List.mem_map.1 hy
      exact (hF i (by have := List.mem_range.1 hi; omega)).1

end Go.Proofs.Ythmmdmnbcecooaa.A

/-! PureDocumentAny -/
namespace Go.Proofs.Ythmmdmnbcecooaa.A
open Go.RowKit Go.Proofs.YthmmdmnbcecooaaW.PrintWords Go.Proofs.YthmmdmnbcecooaaW.PrintLast Go.Proofs.YthmmdmnbcecooaaW.PrintMore
set_option linter.unusedVariables false
set_option linter.unusedSimpArgs false

theorem render_some {l : List S42} (h : Tb 20 l) (hl : l.length ≤ 24) (fl : List Bool) : ∃ p, document_Render.f l fl = some p := by
  by_cases hc : checkI l = 0
  · have hg := (check_zero_iff l).1 hc
    have hgl : (groupsI (rootT l)).length = ng (E l) := by rw [ng_eq]; exact (er_ng _).symm
    by_cases hf : fl.length = ng (E l)
    · exact ⟨_, render_any hg (good_fits hg h (by omega) (by omega)) fl hf⟩
    · unfold document_Render.f
      rw [if_neg (by simpa using hc), if_pos (by omega)]
      exact ⟨_, rfl⟩
  · unfold document_Render.f
    rw [if_pos hc]
    exact ⟨_, rfl⟩
theorem groups_some (l : List S42) : ∃ p : List Int × Int, document_Groups.f l = some p ∧ p.1.length ≤ 65536 := by
  unfold document_Groups.f
  by_cases hc : checkI l = 0
  · rw [if_pos hc]
    refine ⟨_, rfl, ?_⟩
    have := groups_le hc
    simpa [groupsL, rootT] using this
  · rw [if_neg hc]
    exact ⟨_, rfl, Nat.zero_le _⟩

theorem any_end {l : List S42} (h : Tb 20 l) (hl : l.length ≤ 24) (fl : List Bool) (hfl : fl.length ≤ maxLen) (s : ByteArray) (hs : s.size ≤ 200) {k : Nat} (hk : 2000000000 ≤ k) :
    koinelaw25_DocumentAnyMatchesReference.l0 (k + 1) l fl s true (l.length : Nat) = some true := by
  obtain ⟨p, hp, hpl⟩ := groups_some l
  obtain ⟨q, hq⟩ := render_some h hl fl
  have hm : (fl.length : Int) ≤ 9223372036854775807 := by have := hfl; simp [maxLen] at this; omega
  rw [koinelaw25_DocumentAnyMatchesReference.l0, if_neg (by omega), refgroups_f h (by decide) (by omega), hp, Option.bind_some, Option.bind_some, refrender_f h (by decide), hq, Option.bind_some, Option.bind_some,
    cost_f _ _ (by omega) hm, Option.bind_some, refcost_f _ _ (by omega) (by omega), Option.bind_some, if_pos (by simp), cost_f _ _ (by omega) (by decide), Option.bind_some, refcost_f _ _ (by omega) (by omega), Option.bind_some,
    show document_Check.f l = some (checkI l) from rfl, Option.bind_some, refcheck_f h (by decide) (by omega), Option.bind_some, if_pos rfl, if_pos rfl, same_f _ (by omega) (by omega), Option.bind_some, if_pos rfl, if_pos rfl, if_pos rfl, if_pos (by simp)]

theorem any_loop (l : List S42) (hl : l.length ≤ 24) (fl : List Bool) (hfl : fl.length ≤ maxLen) (s : ByteArray) (hs : s.size ≤ 200) : ∀ (d j k : Nat), j + d = l.length → (∀ i, i < j → (l.getD i z42).f1.size ≤ 20) → 2000000000 ≤ k →
    koinelaw25_DocumentAnyMatchesReference.l0 (k + d + 1) l fl s true j = some true
  | 0, j, k, hj, ht, hk => by
    obtain rfl : j = l.length := by omega
    refine any_end (fun x hx => ?_) hl fl hfl s hs hk
    obtain ⟨i, hi, rfl⟩ := List.mem_iff_getElem.1 hx
    have := ht i hi
    rwa [show l.getD i z42 = l[i] from by simp [List.getD, hi]] at this
  | d + 1, j, k, hj, ht, hk => by
    rw [show k + (d + 1) + 1 = (k + d + 1) + 1 by omega, koinelaw25_DocumentAnyMatchesReference.l0, if_pos (by omega), if_pos (by omega), rd42_nat]
    by_cases hb : ((l.getD j z42).f1.size : Int) > 20
    · rw [if_pos hb]
    · rw [if_neg hb, wrap64_small (by omega) (by omega), show (j : Int) + 1 = ((j + 1 : Nat) : Int) by omega]
      refine any_loop l hl fl hfl s hs d (j + 1) k (by omega) (fun i hi => ?_) hk
      by_cases e : i = j
      · subst e; omega
      · exact ht i (by omega)

theorem any_f (l : List S42) (fl : List Bool) (hfl : fl.length ≤ maxLen) (s : ByteArray) : koinelaw25_DocumentAnyMatchesReference.f 2000000100 l fl s = some true := by
  unfold koinelaw25_DocumentAnyMatchesReference.f
  rw [show koinelaw25_sanity.f = some true from rfl, Option.bind_some]
  by_cases h1 : (l.length : Int) > 24
  · rw [if_pos h1, koinelaw25_DocumentAnyMatchesReference.j0, if_pos rfl]
  · rw [if_neg h1, koinelaw25_DocumentAnyMatchesReference.j0]
    by_cases h2 : (s.size : Int) > 200
    · rw [if_pos (by simpa using h2)]
    · rw [if_neg (by simpa using h2)]
      have := any_loop l (by omega) fl hfl s (by omega) l.length 0 (2000000098 - l.length) (by omega) (fun i hi => by omega) (by omega)
      rw [show 2000000098 - l.length + l.length + 1 = 2000000099 by omega] at this
      exact this

theorem documentAnyMatchesReference_walk (w : World) (A0 : Option Addr) (c0 : Nat) (l0 : List S42) (hr0 : Kd.C k42 w A0 l0.length l0) (hc0 : l0.length ≤ c0)
    (A1 : Option Addr) (c1 : Nat) (l1 : List Bool) (hr1 : Kd.C Kd.bool w A1 l1.length l1) (hc1 : l1.length ≤ c1) (hm1 : l1.length ≤ maxLen) (a2 : ByteArray) (w2 : a2.size ≤ 140737488351232) :
    Calls Try.prog 4 #[.slice A0 l0.length c0, .slice A1 l1.length c1, .string a2] w fun e w' => e = .returned (.bool true) ∧ Below w.heap.size w w' :=
  koinelaw25_DocumentAnyMatchesReference.calls 2000000100 A0 c0 l0 A1 c1 l1 a2 true ⟨rfl⟩ w hr0 hc0 hr1 hc1 (any_f l0 l1 hm1 a2)

end Go.Proofs.Ythmmdmnbcecooaa.A

/-! LawDocumentAnyMatchesReference -/
namespace Go.Proofs.Ythmmdmnbcecooaa.documentAnyMatchesReference
open Go.ChangeShapes Go.WideShapes Go.ChangeAt Go.RowKit
open Go.ChangeMaps (open_string shut_string)
open Go.Proofs.YthmmdmnbcecooaaW.PrintWords
set_option linter.unusedVariables false
theorem own : ownKnob Try.prog.godebug = none := by kernel_rfl
theorem laidOut : laidOutB Try.prog = true := by kernel_rfl
def IsRow (k : IntKind) (w : World) (a : Option Addr) (len cap : Nat) (zs : List Int) : Prop :=
  (a = none ∧ len = 0 ∧ cap = 0 ∧ zs = []) ∨
  ∃ x, a = some x ∧ len ≤ cap ∧ cap ≤ maxLen ∧ zs.length = cap ∧ (∀ i, i < zs.length → w.cell? (x.add i) = some (.int k (zs.getD i 0))) ∧ ∀ n ∈ zs, (Lit.int k n).wf = true
set_option maxRecDepth 100000 in
theorem lifted (os : Os) (started : os.Started) (H : Type) (enc : TypeId × Value → H) :
    ReturnsInHanded {} Try.checked os 4 .any (Rows.documentAnyMatchesReferenceSpec.pre6 enc Try.prog Try.f4 Rows.documentAnyMatchesReferenceRow.domain false) (Rows.documentAnyMatchesReferenceSpec.post enc Try.prog Try.f4 false true false false) := by
  refine returnsInHanded_of_change_sized (C := Try.checked) own started (by kernel_rfl) Try.func4
    (ChangeSpec.witness6 (enc := enc) (C := Try.checked) false ⟨#[], #[.slice none 0 0, .slice none 0 0, .string ByteArray.empty], []⟩ 8 (by kernel_rfl) (by kernel_rfl) (by kernel_rfl) (by kernel_rfl)) ?_
  intro W base args ds gs before hval0 hW hcnd hsz0 _
  have hsz : (DataW.weightsEach Try.prog (Try.f4.params.toList ++ Rows.documentAnyMatchesReferenceSpec.plain.varTypes Try.prog) (ds ++ gs)).all (· ≤ reachBytes) = true := hsz0
  have hval : ∀ (j : Nat) t v, Try.f4.params[j]? = some t → args[j]? = some v → Value.okWide Try.prog W .any base t v := hval0
  have hW' := hW
  obtain ⟨p, q, hA0, hV, rfl, hfz, hnd⟩ := hW
  have hA : DataW.TrodAll enc Try.prog W 0 (fun _ => true) true Try.f4.params.toList args.toList ds p := hA0
  rw [Try.params4] at hA hval hsz
  obtain ⟨v0, vs0, d0, ds0, p0, q0, hargs, rfl, rfl, h0, r0⟩ := trodAll_cons hA
  obtain ⟨v1, vs1, d1, ds1, p1, q1, rfl, rfl, rfl, h1, r1⟩ := trodAll_cons r0
  obtain ⟨v2, vs2, d2, ds2, p2, q2, rfl, rfl, rfl, h2, r2⟩ := trodAll_cons r1
  obtain ⟨rfl, rfl, rfl⟩ := trodAll_nil r2
  obtain rfl : args = #[v0, v1, v2] := by cases args; simp_all
  obtain ⟨rfl, rfl⟩ := trodVars_none hV
  obtain ⟨a0, len0, cap0, rfl⟩ := okWide_slice Try.underlying26 (hval 0 26 v0 rfl rfl)
  have k0 := h0
  have lt0 : ∀ x ∈ p0, x.block < W.heap.size := by obtain ⟨m, hm⟩ := k0; exact DataW.trod_lt m _ _ _ hm
  obtain ⟨l0, rfl, hr0, hm0, hc0, hs0⟩ := A.docs_arg Try.underlying26 h0
  obtain ⟨a1, len1, cap1, rfl⟩ := okWide_slice Try.underlying23 (hval 1 23 v1 rfl rfl)
  have k1 := h1
  have lt1 : ∀ x ∈ p1, x.block < W.heap.size := by obtain ⟨m, hm⟩ := k1; exact DataW.trod_lt m _ _ _ hm
  obtain ⟨l1, rfl, hr1, hm1, hc1⟩ := A.bools_arg Try.underlying23 Try.underlying4 (by kernel_rfl) h1
  obtain ⟨a2, rfl, rfl, rfl, y2⟩ := open_string Try.underlying9 (hval 2 9 v2 rfl rfl) h2
  have w2 : a2.size ≤ 140737488351232 := by
    have z := sized_string hsz (j := 2) (t := 9) rfl rfl
    rw [Array.length_toList] at z
    exact z
  clear hA0 hval0 hsz0 hsz
  refine (A.documentAnyMatchesReference_walk W a0 cap0 l0 hr0 hc0 a1 cap1 l1 hr1 hc1 hm1 a2 w2).mono fun e W' ⟨he, bel⟩ => ?_
  subst he
  exact ⟨_, rfl, _, _, _, [], _, [], hW', trodAll_mk1 (shut_bool Try.underlying4 _), (trodAll_cons_mk (Below.trod laidOut (by kernel_rfl) (of_decide_eq_true (by kernel_rfl)) k0 bel lt0) (trodAll_cons_mk (Below.trod laidOut (by kernel_rfl) (of_decide_eq_true (by kernel_rfl)) k1 bel lt1) (trodAll_cons_mk (shut_string Try.underlying9 y2) trodAll_mk0))), rfl, bel.frame _, fun h => by cases h⟩
theorem over : Rows.documentAnyMatchesReferenceRow.holds Try.pinned (OpenSpec.ofChange Rows.documentAnyMatchesReferenceSpec) :=
  OpenClaim.holds_of_wide 4 Try.f4 rfl rfl rfl rfl rfl rfl rfl ⟨rfl, rfl, rfl, rfl, rfl⟩ rfl rfl rfl rfl rfl (by kernel_rfl) Try.func4 (by kernel_rfl)
    (of_decide_eq_true (by kernel_rfl)) (by unfold Func.isWrapper; first | (rw [if_pos (by decide +kernel)]; kernel_rfl) | (rw [if_neg (by decide +kernel)]; exact ⟨rfl, rfl⟩))
    (fun os started H enc _ => lifted os started H enc)
theorem proved : Rows.DocumentAnyMatchesReferenceSaid := over
end Go.Proofs.Ythmmdmnbcecooaa.documentAnyMatchesReference
namespace Go.Proofs.Ythmmdmnbcecooaa
/-- The row, under a short name, for the claim. -/
theorem documentAnyMatchesReference_holds : Rows.DocumentAnyMatchesReferenceSaid := documentAnyMatchesReference.proved
#print axioms documentAnyMatchesReference_holds
end Go.Proofs.Ythmmdmnbcecooaa
