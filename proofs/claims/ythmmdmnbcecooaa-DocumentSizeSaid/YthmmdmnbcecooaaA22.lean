-- written by wip/mkprint.py's copy of the kit's printer, with hand-proved functions given
import Derived.Test.YthmmdmnbcecooaaA0
import Derived.Test.YthmmdmnbcecooaaG3
import Derived.Test.YthmmdmnbcecooaaS1
namespace Go.Proofs.Ythmmdmnbcecooaa.A
open Go.RowKit Go.Proofs.YthmmdmnbcecooaaW.PrintWords Go.Proofs.YthmmdmnbcecooaaW.PrintLast Go.Proofs.YthmmdmnbcecooaaW.PrintMore
attribute [local go_sem] max2_int min2_int max_two min_two max_three min_three max_four min_four   -- for this text's walks alone
set_option linter.unusedVariables false
set_option linter.unusedSimpArgs false

-- LAW
/-! ### koinelaw25_DocumentSize: function 5 -/
mutual
def koinelaw25_DocumentSize.l0 : Nat → Bool → Int → List (S42) → Option (Bool)
  | 0, _, _, _ => none
  | k + 1, x3, x4, x5 => if (wrap64 ((x5.length : Int) + 1)) < x4 then (if x5.length < 2932031007402 then ((some (x5 ++ [(⟨2, (⟨#[]⟩ : ByteArray), 0, 0, 0⟩ : S42)] : List (S42))).bind fun y308 => (if y308.length < 2932031007402 then (koinelaw25_DocumentSize.l0 k x3 x4 (y308 ++ [(⟨3, (⟨#[]⟩ : ByteArray), 0, wrap64 ((y308.length : Int) - 2), wrap64 ((y308.length : Int) - 1)⟩ : S42)])) else (none))) else (none)) else (if (x5.length : Int) < x4 then (if x5.length < 2932031007402 then (koinelaw25_DocumentSize.j1 k x3 x4 (x5 ++ [(⟨6, (⟨#[]⟩ : ByteArray), 0, wrap64 ((x5.length : Int) - 1), 0⟩ : S42)])) else (none)) else (koinelaw25_DocumentSize.j1 k x3 x4 x5))
def koinelaw25_DocumentSize.j1 : Nat → Bool → Int → List (S42) → Option (Bool)
  | 0, _, _, _ => none
  | k + 1, x3, x4, x5 => if x4 > 65536 then ((document_Check.f x5).bind fun t317 => (if t317 = 2 then (some x3) else (some false))) else ((document_Check.f x5).bind fun t318 => (if t318 = 0 then (some x3) else (some false)))
end
def koinelaw25_DocumentSize.f (k : Nat) (a0 : Int) : Option (Bool) := (koinelaw25_sanity.f).bind fun t304 => (koinelaw25_DocumentSize.l0 k t304 (wrap64 (65533 + (Int.tmod (wrap64 (a0)) 8))) (([(⟨0, (⟨#[120]⟩ : ByteArray), 0, 0, 0⟩ : S42)] : List (S42))))
theorem koinelaw25_DocumentSize.mono_l : ∀ k, (∀ y0 y1 y2, LeO (koinelaw25_DocumentSize.l0 k y0 y1 y2) (koinelaw25_DocumentSize.l0 (k + 1) y0 y1 y2)) ∧ (∀ y0 y1 y2, LeO (koinelaw25_DocumentSize.j1 k y0 y1 y2) (koinelaw25_DocumentSize.j1 (k + 1) y0 y1 y2))
  | 0 => ⟨fun _ _ _ r h => by simp [koinelaw25_DocumentSize.l0] at h, fun _ _ _ r h => by simp [koinelaw25_DocumentSize.j1] at h⟩
  | k + 1 => by
    obtain ⟨ih0, ih1⟩ := koinelaw25_DocumentSize.mono_l k
    refine ⟨?_, ?_⟩
    · intro y0 y1 y2
      unfold koinelaw25_DocumentSize.l0
      repeat' first
      | (with_reducible exact ih0 _ _ _)
      | (with_reducible exact ih1 _ _ _)
      | (with_reducible exact LeO.refl _)
      | (with_reducible exact LeO.none _)
      | (with_reducible refine LeO.ite ?_ ?_)
      | (with_reducible refine LeO.bind ?_ (fun _ => ?_))
      | exact ih0 _ _ _
      | exact ih1 _ _ _
      | exact LeO.none _
      | refine LeO.ite ?_ ?_
      | refine LeO.bind ?_ (fun _ => ?_)
    · intro y0 y1 y2
      unfold koinelaw25_DocumentSize.j1
      repeat' first
      | (with_reducible exact ih0 _ _ _)
      | (with_reducible exact ih1 _ _ _)
      | (with_reducible exact LeO.refl _)
      | (with_reducible exact LeO.none _)
      | (with_reducible refine LeO.ite ?_ ?_)
      | (with_reducible refine LeO.bind ?_ (fun _ => ?_))
      | exact ih0 _ _ _
      | exact ih1 _ _ _
      | exact LeO.none _
      | refine LeO.ite ?_ ?_
      | refine LeO.bind ?_ (fun _ => ?_)
theorem koinelaw25_DocumentSize.mono : ∀ a0 k, LeO (koinelaw25_DocumentSize.f k a0) (koinelaw25_DocumentSize.f (k + 1) a0) := by
  intro a0 k
  obtain ⟨ih0, ih1⟩ := koinelaw25_DocumentSize.mono_l k
  unfold koinelaw25_DocumentSize.f
  repeat' first
      | (with_reducible exact ih0 _ _ _)
      | (with_reducible exact ih1 _ _ _)
      | (with_reducible exact LeO.refl _)
      | (with_reducible exact LeO.none _)
      | (with_reducible refine LeO.ite ?_ ?_)
      | (with_reducible refine LeO.bind ?_ (fun _ => ?_))
      | exact ih0 _ _ _
      | exact ih1 _ _ _
      | exact LeO.none _
      | refine LeO.ite ?_ ?_
      | refine LeO.bind ?_ (fun _ => ?_)
set_option maxHeartbeats 8000000 in
set_option maxRecDepth 100000 in
theorem koinelaw25_DocumentSize.calls (k : Nat) (a0 : Int) (r : Bool) (w : World) (h : koinelaw25_DocumentSize.f k a0 = some r) :
    Calls Try.prog 5 #[.int .u8 a0] w fun e w' => e = .returned (.bool r) ∧ Below w.heap.size w w' := by
  have hu42 := Try.underlying42
  have HB := Aside0.mk (Below.refl w.heap.size w)
  have H : ((koinelaw25_sanity.f).bind fun t304 => (koinelaw25_DocumentSize.l0 k t304 (wrap64 (65533 + (Int.tmod (wrap64 (a0)) 8))) (([(⟨0, (⟨#[120]⟩ : ByteArray), 0, 0, 0⟩ : S42)] : List (S42))))) = some r := h
  clear h
  replace H := Option.bind_eq_some_iff.mp H
  obtain ⟨t304, A20, H⟩ := H
  replace H : (koinelaw25_DocumentSize.l0 k t304 (wrap64 (65533 + (Int.tmod (wrap64 (a0)) 8))) (([(⟨0, (⟨#[120]⟩ : ByteArray), 0, 0, 0⟩ : S42)] : List (S42)))) = some r := H
  have A2 := Aside0.mk A20
  clear A20
  obtain ⟨y305, hy305⟩ : ∃ y_ : List (S42), y_ = (([(⟨0, (⟨#[120]⟩ : ByteArray), 0, 0, 0⟩ : S42)] : List (S42))) := ⟨_, rfl⟩
  replace H : (koinelaw25_DocumentSize.l0 k t304 (wrap64 (65533 + (Int.tmod (wrap64 (a0)) 8))) y305) = some r := by first | (rw [hy305]; with_reducible exact H) | (have H2_ := (Option.bind_some _ _).symm.trans H; rw [hy305]; with_reducible exact H2_) | (have H2_ := (Option.bind_some _ _).symm.trans H; with_reducible exact H2_) | with_reducible exact H | (rw [hy305]; exact H) | exact H
  have Ny305 := Aside0.mk hy305
  clear hy305
  have H' := Aside0.mk H
  clear H
  go_enter Try.func5, Try.ntmps5
  go_wp2_with (first | ((with_reducible refine gate_callee (f := 20) rfl ?_); refine goesL_ (some 6) rfl rfl Try.func20 (by kernel_rfl) rfl #[] rfl (by (try simp only [List.map_toArray, List.map_cons, List.map_nil]); first | done | rfl | (simp only [List.length_drop, List.length_take]; rfl)) ?_; (with_reducible refine (koinelaw25_sanity.calls  t304 _ A2.out).mono ?_); rintro e w3 ⟨rfl, hb⟩; refine ⟨_, rfl, ?_⟩; have n0_ := Aside0.mk (below_step (by repeat (first | (with_reducible first | exact HB.out | apply below_alloc | apply pw_below_drewN | apply below_drew1) | exact HB.out)) hb); clear HB; have HB := n0_; clear n0_; (try clear hb); (try clear hb2); (try clear hk); (try clear hi)) | ((with_reducible refine gate_dst (N := 12) rfl ?_); refine Kd.R_lit k42 _ 42 ?hg (N := 12) ?hd (xs := ([(⟨0, (⟨#[120]⟩ : ByteArray), 0, 0, 0⟩ : S42)] : List (S42))) (inner := [.int .i64 0, .string (⟨#[120]⟩ : ByteArray), .int .i64 0, .int .i64 0, .int .i64 0]) (ok := fun _ => True) (okp := fun _ => True) ?hr ?hp (fun _ hk => hk) trivial (Below.refl _ _) (Nat.le_refl _) (by simp) ?_; (case hd => rfl); (case hg => rfl); (case hr => first | (go_simp; done) | (go_simp; rfl)); (case hp => exact (Reps.c5 (show Kd.M k42 _ _ _ (⟨0, (⟨#[120]⟩ : ByteArray), 0, 0, 0⟩ : S42) [.int .i64 0, .string (⟨#[120]⟩ : ByteArray), .int .i64 0, .int .i64 0, .int .i64 0] from (k42_mkM _ _ _ (⟨0, (⟨#[120]⟩ : ByteArray), 0, 0, 0⟩ : S42) )) (Reps.none _ _))); intro v306 w4 ho5 hb hg_ hnew_; clear hg_ hnew_; (first | rw [← Ny305.out] at ho5 | (simp only [Int.reduceToNat] at ho5; rw [← Ny305.out] at ho5)); have n0_ := Aside0.mk (Kd.R_lower ho5 (below_size (by repeat (first | (with_reducible first | exact HB.out | apply below_alloc | apply pw_below_drewN | apply below_drew1) | exact HB.out)))); have n1_ := Aside0.mk (below_step (by repeat (first | (with_reducible first | exact HB.out | apply below_alloc | apply pw_below_drewN | apply below_drew1) | exact HB.out)) hb); clear HB; have HO307 := n0_; have HB := n1_; clear n0_ n1_; clear hb ho5))
  go_loopg [5] k (fun kq v5 w' => ∃ (x5_1 : List (S42)), Aside0 (koinelaw25_DocumentSize.l0 kq t304 (wrap64 (65533 + (Int.tmod (wrap64 (a0)) 8))) x5_1 = some r) ∧ Aside0 (kq ≤ k) ∧ Aside0 (Kd.R k42 42 w' w.heap.size (fun _ => True) v5 x5_1) ∧ Aside0 (Below w.heap.size w w'))
  case atStart => exact ⟨(y305), H', ⟨Nat.le_refl _⟩, ⟨by (with_reducible repeat (first | apply Kd.R_alloc | apply Kd.R_drewN | apply Kd.R_drew)); exact HO307.out⟩, ⟨by repeat (first | (with_reducible first | exact HB.out | apply below_alloc | apply pw_below_drewN | apply below_drew1) | exact HB.out)⟩⟩
  case round =>
    clear H'
    try clear c2
    try clear p2
    try clear c5
    obtain ⟨x5_1, HA, HK1, HO_5, HB⟩ := hrel
    cases gk with
    | zero => exact absurd HA.out (by simp [koinelaw25_DocumentSize.l0])
    | succ k1 =>
      have H := HA.out
      clear HA
      simp only [koinelaw25_DocumentSize.l0] at H
      by_cases c6 : (wrap64 ((x5_1.length : Int) + 1)) < (wrap64 (65533 + (Int.tmod (wrap64 (a0)) 8)))
      · rw [if_pos c6] at H
        have c6b0 : decide ((wrap64 ((x5_1.length : Int) + 1)) < (wrap64 (65533 + (Int.tmod (wrap64 (a0)) 8)))) = true := decide_eq_true c6
        clear c6
        by_cases c7 : x5_1.length < 2932031007402
        · rw [if_pos c7] at H
          have LMc7 := Aside0.mk c7
          clear c7
          obtain ⟨y308, hy308⟩ : ∃ y_ : List (S42), y_ = (x5_1 ++ [(⟨2, (⟨#[]⟩ : ByteArray), 0, 0, 0⟩ : S42)]) := ⟨_, rfl⟩
          replace H : (if y308.length < 2932031007402 then (koinelaw25_DocumentSize.l0 k1 t304 (wrap64 (65533 + (Int.tmod (wrap64 (a0)) 8))) (y308 ++ [(⟨3, (⟨#[]⟩ : ByteArray), 0, wrap64 ((y308.length : Int) - 2), wrap64 ((y308.length : Int) - 1)⟩ : S42)])) else (none)) = some r := by first | (rw [hy308]; with_reducible exact H) | (have H2_ := (Option.bind_some _ _).symm.trans H; rw [hy308]; with_reducible exact H2_) | (have H2_ := (Option.bind_some _ _).symm.trans H; with_reducible exact H2_) | with_reducible exact H | (rw [hy308]; exact H) | exact H
          have Ny308 := Aside0.mk hy308
          clear hy308
          by_cases c8 : y308.length < 2932031007402
          · rw [if_pos c8] at H
            have LMc8 := Aside0.mk c8
            clear c8
            obtain ⟨y311, hy311⟩ : ∃ y_ : List (S42), y_ = (y308 ++ [(⟨3, (⟨#[]⟩ : ByteArray), 0, wrap64 ((y308.length : Int) - 2), wrap64 ((y308.length : Int) - 1)⟩ : S42)]) := ⟨_, rfl⟩
            replace H : (koinelaw25_DocumentSize.l0 k1 t304 (wrap64 (65533 + (Int.tmod (wrap64 (a0)) 8))) y311) = some r := by first | (rw [hy311]; with_reducible exact H) | (have H2_ := (Option.bind_some _ _).symm.trans H; rw [hy311]; with_reducible exact H2_) | (have H2_ := (Option.bind_some _ _).symm.trans H; with_reducible exact H2_) | with_reducible exact H | (rw [hy311]; exact H) | exact H
            have Ny311 := Aside0.mk hy311
            clear hy311
            have H' := Aside0.mk H
            clear H
            obtain ⟨Ao9, co9, eo9⟩ := Kd.R_slice HO_5.out
            subst eo9
            go_wp2_with (first | ((with_reducible refine gate_builtin (b := .append) (xs := #[.tmp 18, .tmp 20]) rfl ?_); at_builtin; refine Kd.R_append k42 (w0 := w) w.heap.size rfl (.tmp 18) (.tmp 20) 26 42 (.agg #[(.int .i64 0), (.string ⟨#[]⟩), (.int .i64 0), (.int .i64 0), (.int .i64 0)]) 48 rfl Try.underlying26 info42 rfl (by decide) (by omega) (.slice Ao9 x5_1.length co9) x5_1 (⟨2, (⟨#[]⟩ : ByteArray), 0, 0, 0⟩ : S42) [.int .i64 2, .string (⟨#[]⟩ : ByteArray), .int .i64 0, .int .i64 0, .int .i64 0] (fun _ => True) (fun _ => False) rfl rfl ?aP (fun _ hk => hk.elim) ?aF ?aO ?aB ?aS ?aL ?_; (case aP => exact k42_mkM _ _ _ (⟨2, (⟨#[]⟩ : ByteArray), 0, 0, 0⟩ : S42)); (case aB => exact (by repeat (first | (with_reducible first | exact HB.out | apply below_alloc | apply pw_below_drewN | apply below_drew1) | exact HB.out))); (case aF => exact (fun _ _ => trivial)); (case aO => exact (by (with_reducible repeat (first | apply Kd.R_alloc | apply Kd.R_drewN | apply Kd.R_drew)); exact HO_5.out)); (case aS => exact (below_size (by repeat (first | (with_reducible first | exact HB.out | apply below_alloc | apply pw_below_drewN | apply below_drew1) | exact HB.out)))); (case aL => have := LMc7.out; omega); intro v309 w10 ho hb hg hat; rw [← Ny308.out] at ho; have n0_ := Aside0.mk (hb); have n1_ := Aside0.mk (ho); clear HB; clear HO_5; have HB := n0_; have HO310 := n1_; clear n0_ n1_; clear ho hb hg hat; obtain ⟨Ao11, co11, eo11⟩ := Kd.R_slice HO310.out; subst eo11) | ((with_reducible refine gate_builtin (b := .append) (xs := #[.tmp 22, .tmp 30]) rfl ?_); at_builtin; refine Kd.R_append k42 (w0 := w) w.heap.size rfl (.tmp 22) (.tmp 30) 26 42 (.agg #[(.int .i64 0), (.string ⟨#[]⟩), (.int .i64 0), (.int .i64 0), (.int .i64 0)]) 48 rfl Try.underlying26 info42 rfl (by decide) (by omega) (.slice Ao11 y308.length co11) y308 (⟨3, (⟨#[]⟩ : ByteArray), 0, wrap64 ((y308.length : Int) - 2), wrap64 ((y308.length : Int) - 1)⟩ : S42) [.int .i64 3, .string (⟨#[]⟩ : ByteArray), .int .i64 0, .int .i64 (wrap64 ((y308.length : Int) - 2)), .int .i64 (wrap64 ((y308.length : Int) - 1))] (fun _ => True) (fun _ => False) rfl rfl ?aP (fun _ hk => hk.elim) ?aF ?aO ?aB ?aS ?aL ?_; (case aP => exact k42_mkM _ _ _ (⟨3, (⟨#[]⟩ : ByteArray), 0, wrap64 ((y308.length : Int) - 2), wrap64 ((y308.length : Int) - 1)⟩ : S42)); (case aB => exact (by repeat (first | (with_reducible first | exact HB.out | apply below_alloc | apply pw_below_drewN | apply below_drew1) | exact HB.out))); (case aF => exact (fun _ _ => trivial)); (case aO => exact (by (with_reducible repeat (first | apply Kd.R_alloc | apply Kd.R_drewN | apply Kd.R_drew)); exact HO310.out)); (case aS => exact (below_size (by repeat (first | (with_reducible first | exact HB.out | apply below_alloc | apply pw_below_drewN | apply below_drew1) | exact HB.out)))); (case aL => have := LMc8.out; omega); intro v312 w12 ho hb hg hat; rw [← Ny311.out] at ho; have n0_ := Aside0.mk (hb); have n1_ := Aside0.mk (ho); clear HB; clear HO310; have HB := n0_; have HO313 := n1_; clear n0_ n1_; clear ho hb hg hat))
            go_roundg k1
            case measure => have := HK1.out; omega
            case rel => exact ⟨(y311), H', ⟨by have := HK1.out; omega⟩, ⟨by (with_reducible repeat (first | apply Kd.R_alloc | apply Kd.R_drewN | apply Kd.R_drew)); exact HO313.out⟩, ⟨by repeat (first | (with_reducible first | exact HB.out | apply below_alloc | apply pw_below_drewN | apply below_drew1) | exact HB.out)⟩⟩
          · rw [if_neg c8] at H
            exact absurd H (by simp)
        · rw [if_neg c7] at H
          exact absurd H (by simp)
      · rw [if_neg c6] at H
        have c6b0 : decide ((wrap64 ((x5_1.length : Int) + 1)) < (wrap64 (65533 + (Int.tmod (wrap64 (a0)) 8)))) = false := decide_eq_false c6
        clear c6
        have HC13 := Aside0.mk H
        clear H
        obtain ⟨Ao14, co14, eo14⟩ := Kd.R_slice HO_5.out
        subst eo14
        go_upto_if 35 with (fail)
        go_cut [5] (fun v5 wc => ∃ (kq : Nat) (x5_12 : List (S42)), Aside0 (koinelaw25_DocumentSize.j1 kq t304 (wrap64 (65533 + (Int.tmod (wrap64 (a0)) 8))) x5_12 = some r) ∧ Aside0 (kq ≤ k1) ∧ Aside0 (Kd.R k42 42 wc w.heap.size (fun _ => True) v5 x5_12) ∧ Aside0 (Below w.heap.size w wc))
        case first =>
          have H := HC13.out
          clear HC13
          by_cases c15 : (x5_1.length : Int) < (wrap64 (65533 + (Int.tmod (wrap64 (a0)) 8)))
          · rw [if_pos c15] at H
            have c15b0 : decide ((x5_1.length : Int) < (wrap64 (65533 + (Int.tmod (wrap64 (a0)) 8)))) = true := decide_eq_true c15
            clear c15
            (first | rw [c15b0] | (simp only [i64_w, i32_w]; rw [c15b0]) | skip)
            by_cases c16 : x5_1.length < 2932031007402
            · rw [if_pos c16] at H
              have LMc16 := Aside0.mk c16
              clear c16
              obtain ⟨y314, hy314⟩ : ∃ y_ : List (S42), y_ = (x5_1 ++ [(⟨6, (⟨#[]⟩ : ByteArray), 0, wrap64 ((x5_1.length : Int) - 1), 0⟩ : S42)]) := ⟨_, rfl⟩
              replace H : (koinelaw25_DocumentSize.j1 k1 t304 (wrap64 (65533 + (Int.tmod (wrap64 (a0)) 8))) y314) = some r := by first | (rw [hy314]; with_reducible exact H) | (have H2_ := (Option.bind_some _ _).symm.trans H; rw [hy314]; with_reducible exact H2_) | (have H2_ := (Option.bind_some _ _).symm.trans H; with_reducible exact H2_) | with_reducible exact H | (rw [hy314]; exact H) | exact H
              have Ny314 := Aside0.mk hy314
              clear hy314
              have H' := Aside0.mk H
              clear H
              go_wp2_with (first | ((with_reducible refine gate_builtin (b := .append) (xs := #[.tmp 36, .tmp 41]) rfl ?_); at_builtin; refine Kd.R_append k42 (w0 := w) w.heap.size rfl (.tmp 36) (.tmp 41) 26 42 (.agg #[(.int .i64 0), (.string ⟨#[]⟩), (.int .i64 0), (.int .i64 0), (.int .i64 0)]) 48 rfl Try.underlying26 info42 rfl (by decide) (by omega) (.slice Ao14 x5_1.length co14) x5_1 (⟨6, (⟨#[]⟩ : ByteArray), 0, wrap64 ((x5_1.length : Int) - 1), 0⟩ : S42) [.int .i64 6, .string (⟨#[]⟩ : ByteArray), .int .i64 0, .int .i64 (wrap64 ((x5_1.length : Int) - 1)), .int .i64 0] (fun _ => True) (fun _ => False) rfl rfl ?aP (fun _ hk => hk.elim) ?aF ?aO ?aB ?aS ?aL ?_; (case aP => exact k42_mkM _ _ _ (⟨6, (⟨#[]⟩ : ByteArray), 0, wrap64 ((x5_1.length : Int) - 1), 0⟩ : S42)); (case aB => exact (by repeat (first | (with_reducible first | exact HB.out | apply below_alloc | apply pw_below_drewN | apply below_drew1) | exact HB.out))); (case aF => exact (fun _ _ => trivial)); (case aO => exact (by (with_reducible repeat (first | apply Kd.R_alloc | apply Kd.R_drewN | apply Kd.R_drew)); exact HO_5.out)); (case aS => exact (below_size (by repeat (first | (with_reducible first | exact HB.out | apply below_alloc | apply pw_below_drewN | apply below_drew1) | exact HB.out)))); (case aL => have := LMc16.out; omega); intro v315 w17 ho hb hg hat; rw [← Ny314.out] at ho; have n0_ := Aside0.mk (hb); have n1_ := Aside0.mk (ho); clear HB; clear HO_5; have HB := n0_; have HO316 := n1_; clear n0_ n1_; clear ho hb hg hat))
              go_meet
              case rel => exact ⟨_, (y314), H', ⟨by have := HK1.out; first | omega | exact Nat.le_refl _⟩, ⟨by (with_reducible repeat (first | apply Kd.R_alloc | apply Kd.R_drewN | apply Kd.R_drew)); exact HO316.out⟩, ⟨by repeat (first | (with_reducible first | exact HB.out | apply below_alloc | apply pw_below_drewN | apply below_drew1) | exact HB.out)⟩⟩
            · rw [if_neg c16] at H
              exact absurd H (by simp)
          · rw [if_neg c15] at H
            have c15b0 : decide ((x5_1.length : Int) < (wrap64 (65533 + (Int.tmod (wrap64 (a0)) 8)))) = false := decide_eq_false c15
            clear c15
            (first | rw [c15b0] | (simp only [i64_w, i32_w]; rw [c15b0]) | skip)
            have H' := Aside0.mk H
            clear H
            go_wp2
            go_meet
            case rel => exact ⟨_, (x5_1), H', ⟨by have := HK1.out; first | omega | exact Nat.le_refl _⟩, ⟨by (with_reducible repeat (first | apply Kd.R_alloc | apply Kd.R_drewN | apply Kd.R_drew)); exact HO_5.out⟩, ⟨by repeat (first | (with_reducible first | exact HB.out | apply below_alloc | apply pw_below_drewN | apply below_drew1) | exact HB.out)⟩⟩
        case rest =>
          clear HC13
          try clear c1
          try clear c2
          try clear p2
          try clear c5
          try clear c6
          try clear c6b0
          try clear p6
          try clear c7
          try clear c8
          try clear c15
          try clear c15b0
          try clear c16
          try clear p2
          obtain ⟨kq, x5_12, HA, HJ12, HO_5, HB⟩ := hcut
          cases kq with
          | zero => exact absurd HA.out (by simp [koinelaw25_DocumentSize.j1])
          | succ kj12 =>
            have H := HA.out
            clear HA
            simp only [koinelaw25_DocumentSize.j1] at H
            by_cases c18 : (wrap64 (65533 + (Int.tmod (wrap64 (a0)) 8))) > 65536
            · rw [if_pos c18] at H
              have c18b0 : decide (65536 < (wrap64 (65533 + (Int.tmod (wrap64 (a0)) 8)))) = true := decide_eq_true c18
              clear c18
              replace H := Option.bind_eq_some_iff.mp H
              obtain ⟨t317, A190, H⟩ := H
              replace H : (if t317 = 2 then (some t304) else (some false)) = some r := H
              have A19 := Aside0.mk A190
              clear A190
              by_cases c20 : t317 = 2
              · rw [if_pos c20] at H
                have c20b0 : (t317 == 2) = true := beq_iff_eq.mpr c20
                have c20b1 : (t317 != 2) = false := bne_eq_false_iff_eq.mpr c20
                clear c20
                obtain rfl := Option.some.inj H
                obtain ⟨Ao21, co21, eo21⟩ := Kd.R_slice HO_5.out
                subst eo21
                go_wp2_with (first | ((with_reducible refine gate_callee (f := 30) rfl ?_); refine goesL_ (some 46) rfl rfl Try.func30 (by kernel_rfl) rfl #[.slice Ao21 x5_12.length co21] rfl (by (try simp only [List.map_toArray, List.map_cons, List.map_nil]); first | done | rfl | (simp only [List.length_drop, List.length_take]; rfl)) ?_; (with_reducible refine (document_Check.calls _ _ x5_12 t317 _ ?side1 ?side2 A19.out).mono ?_); (case side1 => repeat (first | exact (Kd.R_reads' HO_5.out).2.2 | (with_reducible refine Kd.C_alloc ?_ _) | (with_reducible refine Kd.C_drewN ?_ _) | (with_reducible refine Kd.C_drew ?_))); (case side2 => exact (Kd.R_reads' HO_5.out).2.1); rintro e w22 ⟨rfl, hb⟩; refine ⟨_, rfl, ?_⟩; have n0_ := Aside0.mk (Kd.R_below (by (with_reducible repeat (first | apply Kd.R_alloc | apply Kd.R_drewN | apply Kd.R_drew)); exact HO_5.out) hb); have n1_ := Aside0.mk (below_step (by repeat (first | (with_reducible first | exact HB.out | apply below_alloc | apply pw_below_drewN | apply below_drew1) | exact HB.out)) hb); clear HO_5; clear HB; have HO_5 := n0_; have HB := n1_; clear n0_ n1_; (try clear hb); (try clear hb2); (try clear hk); (try clear hi)))
                go_ret
                exact ⟨by first | rfl | (simp [errW_none, errW_some] <;> rfl) | (simp [*, errW_none, errW_some] <;> rfl), by repeat (first | (with_reducible first | exact HB.out | apply below_alloc | apply pw_below_drewN | apply below_drew1) | exact HB.out)⟩
              · rw [if_neg c20] at H
                have c20b0 : (t317 == 2) = false := beq_eq_false_iff_ne.mpr c20
                have c20b1 : (t317 != 2) = true := bne_iff_ne.mpr c20
                obtain rfl := Option.some.inj H
                obtain ⟨Ao23, co23, eo23⟩ := Kd.R_slice HO_5.out
                subst eo23
                go_wp2_with (first | ((with_reducible refine gate_callee (f := 30) rfl ?_); refine goesL_ (some 46) rfl rfl Try.func30 (by kernel_rfl) rfl #[.slice Ao23 x5_12.length co23] rfl (by (try simp only [List.map_toArray, List.map_cons, List.map_nil]); first | done | rfl | (simp only [List.length_drop, List.length_take]; rfl)) ?_; (with_reducible refine (document_Check.calls _ _ x5_12 t317 _ ?side1 ?side2 A19.out).mono ?_); (case side1 => repeat (first | exact (Kd.R_reads' HO_5.out).2.2 | (with_reducible refine Kd.C_alloc ?_ _) | (with_reducible refine Kd.C_drewN ?_ _) | (with_reducible refine Kd.C_drew ?_))); (case side2 => exact (Kd.R_reads' HO_5.out).2.1); rintro e w24 ⟨rfl, hb⟩; refine ⟨_, rfl, ?_⟩; have n0_ := Aside0.mk (Kd.R_below (by (with_reducible repeat (first | apply Kd.R_alloc | apply Kd.R_drewN | apply Kd.R_drew)); exact HO_5.out) hb); have n1_ := Aside0.mk (below_step (by repeat (first | (with_reducible first | exact HB.out | apply below_alloc | apply pw_below_drewN | apply below_drew1) | exact HB.out)) hb); clear HO_5; clear HB; have HO_5 := n0_; have HB := n1_; clear n0_ n1_; (try clear hb); (try clear hb2); (try clear hk); (try clear hi)))
                go_ret
                exact ⟨by first | rfl | (simp [errW_none, errW_some] <;> rfl) | (simp [*, errW_none, errW_some] <;> rfl), by repeat (first | (with_reducible first | exact HB.out | apply below_alloc | apply pw_below_drewN | apply below_drew1) | exact HB.out)⟩
            · rw [if_neg c18] at H
              have c18b0 : decide (65536 < (wrap64 (65533 + (Int.tmod (wrap64 (a0)) 8)))) = false := decide_eq_false c18
              clear c18
              replace H := Option.bind_eq_some_iff.mp H
              obtain ⟨t318, A250, H⟩ := H
              replace H : (if t318 = 0 then (some t304) else (some false)) = some r := H
              have A25 := Aside0.mk A250
              clear A250
              by_cases c26 : t318 = 0
              · rw [if_pos c26] at H
                have c26b0 : (t318 == 0) = true := beq_iff_eq.mpr c26
                have c26b1 : (t318 != 0) = false := bne_eq_false_iff_eq.mpr c26
                clear c26
                obtain rfl := Option.some.inj H
                obtain ⟨Ao27, co27, eo27⟩ := Kd.R_slice HO_5.out
                subst eo27
                go_wp2_with (first | ((with_reducible refine gate_callee (f := 30) rfl ?_); refine goesL_ (some 52) rfl rfl Try.func30 (by kernel_rfl) rfl #[.slice Ao27 x5_12.length co27] rfl (by (try simp only [List.map_toArray, List.map_cons, List.map_nil]); first | done | rfl | (simp only [List.length_drop, List.length_take]; rfl)) ?_; (with_reducible refine (document_Check.calls _ _ x5_12 t318 _ ?side1 ?side2 A25.out).mono ?_); (case side1 => repeat (first | exact (Kd.R_reads' HO_5.out).2.2 | (with_reducible refine Kd.C_alloc ?_ _) | (with_reducible refine Kd.C_drewN ?_ _) | (with_reducible refine Kd.C_drew ?_))); (case side2 => exact (Kd.R_reads' HO_5.out).2.1); rintro e w28 ⟨rfl, hb⟩; refine ⟨_, rfl, ?_⟩; have n0_ := Aside0.mk (Kd.R_below (by (with_reducible repeat (first | apply Kd.R_alloc | apply Kd.R_drewN | apply Kd.R_drew)); exact HO_5.out) hb); have n1_ := Aside0.mk (below_step (by repeat (first | (with_reducible first | exact HB.out | apply below_alloc | apply pw_below_drewN | apply below_drew1) | exact HB.out)) hb); clear HO_5; clear HB; have HO_5 := n0_; have HB := n1_; clear n0_ n1_; (try clear hb); (try clear hb2); (try clear hk); (try clear hi)))
                go_ret
                exact ⟨by first | rfl | (simp [errW_none, errW_some] <;> rfl) | (simp [*, errW_none, errW_some] <;> rfl), by repeat (first | (with_reducible first | exact HB.out | apply below_alloc | apply pw_below_drewN | apply below_drew1) | exact HB.out)⟩
              · rw [if_neg c26] at H
                have c26b0 : (t318 == 0) = false := beq_eq_false_iff_ne.mpr c26
                have c26b1 : (t318 != 0) = true := bne_iff_ne.mpr c26
                obtain rfl := Option.some.inj H
                obtain ⟨Ao29, co29, eo29⟩ := Kd.R_slice HO_5.out
                subst eo29
                go_wp2_with (first | ((with_reducible refine gate_callee (f := 30) rfl ?_); refine goesL_ (some 52) rfl rfl Try.func30 (by kernel_rfl) rfl #[.slice Ao29 x5_12.length co29] rfl (by (try simp only [List.map_toArray, List.map_cons, List.map_nil]); first | done | rfl | (simp only [List.length_drop, List.length_take]; rfl)) ?_; (with_reducible refine (document_Check.calls _ _ x5_12 t318 _ ?side1 ?side2 A25.out).mono ?_); (case side1 => repeat (first | exact (Kd.R_reads' HO_5.out).2.2 | (with_reducible refine Kd.C_alloc ?_ _) | (with_reducible refine Kd.C_drewN ?_ _) | (with_reducible refine Kd.C_drew ?_))); (case side2 => exact (Kd.R_reads' HO_5.out).2.1); rintro e w30 ⟨rfl, hb⟩; refine ⟨_, rfl, ?_⟩; have n0_ := Aside0.mk (Kd.R_below (by (with_reducible repeat (first | apply Kd.R_alloc | apply Kd.R_drewN | apply Kd.R_drew)); exact HO_5.out) hb); have n1_ := Aside0.mk (below_step (by repeat (first | (with_reducible first | exact HB.out | apply below_alloc | apply pw_below_drewN | apply below_drew1) | exact HB.out)) hb); clear HO_5; clear HB; have HO_5 := n0_; have HB := n1_; clear n0_ n1_; (try clear hb); (try clear hb2); (try clear hk); (try clear hi)))
                go_ret
                exact ⟨by first | rfl | (simp [errW_none, errW_some] <;> rfl) | (simp [*, errW_none, errW_some] <;> rfl), by repeat (first | (with_reducible first | exact HB.out | apply below_alloc | apply pw_below_drewN | apply below_drew1) | exact HB.out)⟩

/-- THE ONE PURE STATEMENT of koinelaw25_DocumentSize: yours. -/
def koinelaw25_DocumentSize.Pure : Prop := ∀ (a0 : Int), (Lit.int .u8 a0).wf = true → ∃ k, koinelaw25_DocumentSize.f k a0 = some true
theorem koinelaw25_DocumentSize.walk (P : koinelaw25_DocumentSize.Pure) (a0 : Int) (w : World) (w0 : (Lit.int .u8 a0).wf = true) :
    Calls Try.prog 5 #[.int .u8 a0] w fun e w' => e = .returned (.bool true) ∧ Below w.heap.size w w' := by
  obtain ⟨k, h⟩ := P a0 w0
  refine (koinelaw25_DocumentSize.calls k a0 true w h).mono ?_
  rintro e w' ⟨rfl, hd⟩
  exact ⟨rfl, hd⟩

end Go.Proofs.Ythmmdmnbcecooaa.A
