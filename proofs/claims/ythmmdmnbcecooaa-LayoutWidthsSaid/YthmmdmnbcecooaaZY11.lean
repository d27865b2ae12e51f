/- A2, P1, Q2, Q8, L4, L5, L6, L7, L8, LA, LB, LC, LD, LE, K1, M0, M1, Q3: what the claims rest on of these texts, one behind the other. No condition of its own. -/
import Derived.Test.YthmmdmnbcecooaaZY10
import Derived.Shelf.Strings.Repeat
import Derived.Deep.RegionHeld3
import Derived.Outline
import Derived.Deep.RegionLaw
section
namespace Go.Proofs.Ythmmdmnbcecooaa.A
open Go.RowKit Go.Proofs.YthmmdmnbcecooaaW.PrintWords Go.Proofs.YthmmdmnbcecooaaW.PrintLast Go.Proofs.YthmmdmnbcecooaaW.PrintMore
attribute [local go_sem] max2_int max_two
set_option linter.unusedVariables false
set_option linter.unusedSimpArgs false
def koineref25_Seq.f (l0 : List (S42)) (l1 : List (S42)) : Option ((List (S42))) := (koineref25_joined.f l0 l1).bind fun t101 => (if t101.length < 2932031007402 then (some (t101 ++ [(⟨3, (⟨#[]⟩ : ByteArray), 0, wrap64 ((l0.length : Int) - 1), wrap64 ((wrap64 ((l0.length : Int) + (l1.length : Int))) - 1)⟩ : S42)])) else (none))
set_option maxHeartbeats 8000000 in
set_option maxRecDepth 100000 in
theorem koineref25_Seq.calls (A0 : Option Addr) (c0 : Nat) (l0 : List (S42)) (A1 : Option Addr) (c1 : Nat) (l1 : List (S42)) (r : List (S42)) (w : World) (hr0 : Kd.C k42 w A0 l0.length l0) (hc0 : l0.length ≤ c0) (hr1 : Kd.C k42 w A1 l1.length l1) (hc1 : l1.length ≤ c1) (h : koineref25_Seq.f l0 l1 = some r) :
    Calls Try.prog 35 #[.slice A0 l0.length c0, .slice A1 l1.length c1] w fun e w' => ∃ v0_ : Value, e = .returned (v0_) ∧ Kd.R k42 42 w' w.heap.size (fun _ => True) v0_ r ∧ Below w.heap.size w w' := by
  have hu42 := Try.underlying42
  have HR0 := Aside0.mk hr0
  have HC0 := Aside0.mk hc0
  clear hr0 hc0
  have HR1 := Aside0.mk hr1
  have HC1 := Aside0.mk hc1
  clear hr1 hc1
  have HB := Aside0.mk (Below.refl w.heap.size w)
  have H : ((koineref25_joined.f l0 l1).bind fun t101 => (if t101.length < 2932031007402 then (some (t101 ++ [(⟨3, (⟨#[]⟩ : ByteArray), 0, wrap64 ((l0.length : Int) - 1), wrap64 ((wrap64 ((l0.length : Int) + (l1.length : Int))) - 1)⟩ : S42)])) else (none))) = some r := h
  clear h
  replace H := Option.bind_eq_some_iff.mp H
  obtain ⟨t101, A30, H⟩ := H
  replace H : (if t101.length < 2932031007402 then (some (t101 ++ [(⟨3, (⟨#[]⟩ : ByteArray), 0, wrap64 ((l0.length : Int) - 1), wrap64 ((wrap64 ((l0.length : Int) + (l1.length : Int))) - 1)⟩ : S42)])) else (none)) = some r := H
  have A3 := Aside0.mk A30
  clear A30
  by_cases c4 : t101.length < 2932031007402
  · rw [if_pos c4] at H
    have LMc4 := Aside0.mk c4
    clear c4
    obtain ⟨y104, hy104⟩ : ∃ y_ : List (S42), y_ = (t101 ++ [(⟨3, (⟨#[]⟩ : ByteArray), 0, wrap64 ((l0.length : Int) - 1), wrap64 ((wrap64 ((l0.length : Int) + (l1.length : Int))) - 1)⟩ : S42)]) := ⟨_, rfl⟩
    replace H : (some y104) = some r := by first | (rw [hy104]; with_reducible exact H) | (have H2_ := (Option.bind_some _ _).symm.trans H; rw [hy104]; with_reducible exact H2_) | (have H2_ := (Option.bind_some _ _).symm.trans H; with_reducible exact H2_) | with_reducible exact H | (rw [hy104]; exact H) | exact H
    have Ny104 := Aside0.mk hy104
    clear hy104
    obtain rfl := Option.some.inj H
    go_enter Try.func35, Try.ntmps35
    go_wp2_with (first | ((with_reducible refine gate_callee (f := 64) rfl ?_); refine goesL_ (some 7) rfl rfl Try.func64 (by kernel_rfl) rfl #[.slice A0 l0.length c0, .slice A1 l1.length c1] rfl (by (try simp only [List.map_toArray, List.map_cons, List.map_nil]); first | done | rfl | (simp only [List.length_drop, List.length_take]; rfl)) ?_; (with_reducible refine (koineref25_joined.calls _ _ l0 _ _ l1 t101 _ ?side1 ?side2 ?side3 ?side4 A3.out).mono ?_); (case side1 => repeat (first | exact HR0.out | (with_reducible refine Kd.C_alloc ?_ _) | (with_reducible refine Kd.C_drewN ?_ _) | (with_reducible refine Kd.C_drew ?_))); (case side2 => exact HC0.out); (case side3 => repeat (first | exact HR1.out | (with_reducible refine Kd.C_alloc ?_ _) | (with_reducible refine Kd.C_drewN ?_ _) | (with_reducible refine Kd.C_drew ?_))); (case side4 => exact HC1.out); rintro e w5 ⟨v102, rfl, ho0, hb⟩; refine ⟨_, rfl, ?_⟩; have n0_ := Aside0.mk (Kd.R_lower ho0 (below_size (by repeat (first | (with_reducible first | exact HB.out | apply below_alloc | apply pw_below_drewN | apply below_drew1) | exact HB.out)))); have n1_ := Aside0.mk (below_step (by repeat (first | (with_reducible first | exact HB.out | apply below_alloc | apply pw_below_drewN | apply below_drew1) | exact HB.out)) hb); clear HB; have HO103 := n0_; have HB := n1_; clear n0_ n1_; (try clear hb); (try clear hb2); (try clear hk); (try clear hi); (try clear ho0)) | ((with_reducible refine gate_builtin (b := .append) (xs := #[.tmp 7, .tmp 18]) rfl ?_); at_builtin; refine Kd.R_append k42 (w0 := w) w.heap.size rfl (.tmp 7) (.tmp 18) 26 42 (.agg #[(.int .i64 0), (.string ⟨#[]⟩), (.int .i64 0), (.int .i64 0), (.int .i64 0)]) 48 rfl Try.underlying26 info42 rfl (by decide) (by omega) v102 t101 (⟨3, (⟨#[]⟩ : ByteArray), 0, wrap64 ((l0.length : Int) - 1), wrap64 ((wrap64 ((l0.length : Int) + (l1.length : Int))) - 1)⟩ : S42) [.int .i64 3, .string (⟨#[]⟩ : ByteArray), .int .i64 0, .int .i64 (wrap64 ((l0.length : Int) - 1)), .int .i64 (wrap64 ((wrap64 ((l0.length : Int) + (l1.length : Int))) - 1))] (fun _ => True) (fun _ => False) rfl rfl ?aP (fun _ hk => hk.elim) ?aF ?aO ?aB ?aS ?aL ?_; (case aP => exact k42_mkM _ _ _ (⟨3, (⟨#[]⟩ : ByteArray), 0, wrap64 ((l0.length : Int) - 1), wrap64 ((wrap64 ((l0.length : Int) + (l1.length : Int))) - 1)⟩ : S42)); (case aB => exact (by repeat (first | (with_reducible first | exact HB.out | apply below_alloc | apply pw_below_drewN | apply below_drew1) | exact HB.out))); (case aF => exact (fun _ _ => trivial)); (case aO => exact (by (with_reducible repeat (first | apply Kd.R_alloc | apply Kd.R_drewN | apply Kd.R_drew)); exact HO103.out)); (case aS => exact (below_size (by repeat (first | (with_reducible first | exact HB.out | apply below_alloc | apply pw_below_drewN | apply below_drew1) | exact HB.out)))); (case aL => have := LMc4.out; omega); intro v105 w6 ho hb hg hat; rw [← Ny104.out] at ho; have n0_ := Aside0.mk (hb); have n1_ := Aside0.mk (ho); clear HB; clear HO103; have HB := n0_; have HO106 := n1_; clear n0_ n1_; clear ho hb hg hat))
    go_ret
    exact ⟨_, by first | rfl | (simp [errW_none, errW_some] <;> rfl) | (simp [*, errW_none, errW_some] <;> rfl), by (with_reducible repeat (first | apply Kd.R_alloc | apply Kd.R_drewN | apply Kd.R_drew)); exact HO106.out, by repeat (first | (with_reducible first | exact HB.out | apply below_alloc | apply pw_below_drewN | apply below_drew1) | exact HB.out)⟩
  · rw [if_neg c4] at H
    exact absurd H (by simp)
def koineref25_Wrap.f (a0 : Int) (a1 : Int) (l2 : List (S42)) : Option ((List (S42))) := (some (([] : List (S42)) : List (S42))).bind fun y107 => (if y107.length + l2.length < 2932031007402 then ((some (y107 ++ l2 : List (S42))).bind fun y110 => (if y110.length < 2932031007402 then (some (y110 ++ [(⟨a0, (⟨#[]⟩ : ByteArray), a1, wrap64 ((l2.length : Int) - 1), 0⟩ : S42)])) else (none))) else (none))
set_option maxHeartbeats 8000000 in
set_option maxRecDepth 100000 in
theorem koineref25_Wrap.calls (a0 : Int) (a1 : Int) (A2 : Option Addr) (c2 : Nat) (l2 : List (S42)) (r : List (S42)) (w : World) (hr2 : Kd.C k42 w A2 l2.length l2) (hc2 : l2.length ≤ c2) (h : koineref25_Wrap.f a0 a1 l2 = some r) :
    Calls Try.prog 36 #[.int .i64 a0, .int .i64 a1, .slice A2 l2.length c2] w fun e w' => ∃ v0_ : Value, e = .returned (v0_) ∧ Kd.R k42 42 w' w.heap.size (fun _ => True) v0_ r ∧ Below w.heap.size w w' := by
  have hu42 := Try.underlying42
  have HR2 := Aside0.mk hr2
  have HC2 := Aside0.mk hc2
  clear hr2 hc2
  have HB := Aside0.mk (Below.refl w.heap.size w)
  have H : ((some (([] : List (S42)) : List (S42))).bind fun y107 => (if y107.length + l2.length < 2932031007402 then ((some (y107 ++ l2 : List (S42))).bind fun y110 => (if y110.length < 2932031007402 then (some (y110 ++ [(⟨a0, (⟨#[]⟩ : ByteArray), a1, wrap64 ((l2.length : Int) - 1), 0⟩ : S42)])) else (none))) else (none))) = some r := h
  clear h
  obtain ⟨y107, hy107⟩ : ∃ y_ : List (S42), y_ = (([] : List (S42))) := ⟨_, rfl⟩
  replace H : (if y107.length + l2.length < 2932031007402 then ((some (y107 ++ l2 : List (S42))).bind fun y110 => (if y110.length < 2932031007402 then (some (y110 ++ [(⟨a0, (⟨#[]⟩ : ByteArray), a1, wrap64 ((l2.length : Int) - 1), 0⟩ : S42)])) else (none))) else (none)) = some r := by first | (rw [hy107]; with_reducible exact H) | (have H2_ := (Option.bind_some _ _).symm.trans H; rw [hy107]; with_reducible exact H2_) | (have H2_ := (Option.bind_some _ _).symm.trans H; with_reducible exact H2_) | with_reducible exact H | (rw [hy107]; exact H) | exact H
  have Ny107 := Aside0.mk hy107
  clear hy107
  by_cases c4 : y107.length + l2.length < 2932031007402
  · rw [if_pos c4] at H
    have LMc4 := Aside0.mk c4
    clear c4
    obtain ⟨y110, hy110⟩ : ∃ y_ : List (S42), y_ = (y107 ++ l2) := ⟨_, rfl⟩
    replace H : (if y110.length < 2932031007402 then (some (y110 ++ [(⟨a0, (⟨#[]⟩ : ByteArray), a1, wrap64 ((l2.length : Int) - 1), 0⟩ : S42)])) else (none)) = some r := by first | (rw [hy110]; with_reducible exact H) | (have H2_ := (Option.bind_some _ _).symm.trans H; rw [hy110]; with_reducible exact H2_) | (have H2_ := (Option.bind_some _ _).symm.trans H; with_reducible exact H2_) | with_reducible exact H | (rw [hy110]; exact H) | exact H
    have Ny110 := Aside0.mk hy110
    clear hy110
    by_cases c5 : y110.length < 2932031007402
    · rw [if_pos c5] at H
      have LMc5 := Aside0.mk c5
      clear c5
      obtain ⟨y113, hy113⟩ : ∃ y_ : List (S42), y_ = (y110 ++ [(⟨a0, (⟨#[]⟩ : ByteArray), a1, wrap64 ((l2.length : Int) - 1), 0⟩ : S42)]) := ⟨_, rfl⟩
      replace H : (some y113) = some r := by first | (rw [hy113]; with_reducible exact H) | (have H2_ := (Option.bind_some _ _).symm.trans H; rw [hy113]; with_reducible exact H2_) | (have H2_ := (Option.bind_some _ _).symm.trans H; with_reducible exact H2_) | with_reducible exact H | (rw [hy113]; exact H) | exact H
      have Ny113 := Aside0.mk hy113
      clear hy113
      obtain rfl := Option.some.inj H
      go_enter Try.func36, Try.ntmps36
      go_wp2_with (first | ((with_reducible refine gate_dst (N := 7) rfl ?_); refine Kd.R_lit k42 _ 42 ?hg (N := 7) ?hd (xs := ([] : List (S42))) (inner := []) (ok := fun _ => True) (okp := fun _ => True) ?hr ?hp (fun _ hk => hk) trivial (Below.refl _ _) (Nat.le_refl _) (by simp) ?_; (case hd => rfl); (case hg => rfl); (case hr => first | (go_simp; done) | (go_simp; rfl)); (case hp => exact (Reps.none _ _)); intro v108 w6 ho7 hb hg_ hnew_; clear hg_ hnew_; (first | rw [← Ny107.out] at ho7 | (simp only [Int.reduceToNat] at ho7; rw [← Ny107.out] at ho7)); have n0_ := Aside0.mk (Kd.R_lower ho7 (below_size (by repeat (first | (with_reducible first | exact HB.out | apply below_alloc | apply pw_below_drewN | apply below_drew1) | exact HB.out)))); have n1_ := Aside0.mk (below_step (by repeat (first | (with_reducible first | exact HB.out | apply below_alloc | apply pw_below_drewN | apply below_drew1) | exact HB.out)) hb); clear HB; have HO109 := n0_; have HB := n1_; clear n0_ n1_; clear hb ho7) | ((with_reducible refine gate_builtin (b := .append) (xs := #[.tmp 7, .tmp 8]) rfl ?_); at_builtin; refine Kd.R_append_rows k42 (w0 := w) w.heap.size rfl (.tmp 7) (.tmp 8) 26 42 (.agg #[(.int .i64 0), (.string ⟨#[]⟩), (.int .i64 0), (.int .i64 0), (.int .i64 0)]) 48 rfl Try.underlying26 info42 rfl (by decide) (by omega) v108 y107 l2 _ _ _ (fun _ => True) (fun _ => False) rfl rfl ?aO ?aR (fun _ _ h => h) (fun _ h => h.elim) ?aF ?aB ?aS ?aL ?_; (case aR => repeat (first | exact (Kd.C_below HR2.out HB.out) | (with_reducible refine Kd.C_alloc ?_ _) | (with_reducible refine Kd.C_drewN ?_ _) | (with_reducible refine Kd.C_drew ?_))); (case aB => exact (by repeat (first | (with_reducible first | exact HB.out | apply below_alloc | apply pw_below_drewN | apply below_drew1) | exact HB.out))); (case aF => exact (fun _ _ => trivial)); (case aO => exact (by (with_reducible repeat (first | apply Kd.R_alloc | apply Kd.R_drewN | apply Kd.R_drew)); exact HO109.out)); (case aS => exact (below_size (by repeat (first | (with_reducible first | exact HB.out | apply below_alloc | apply pw_below_drewN | apply below_drew1) | exact HB.out)))); (case aL => have := LMc4.out; omega); intro v111 w8 ho hb hg hat; rw [← Ny110.out] at ho; have n0_ := Aside0.mk (hb); have n1_ := Aside0.mk (ho); clear HB; clear HO109; have HB := n0_; have HO112 := n1_; clear n0_ n1_; clear ho hb hg hat) | ((with_reducible refine gate_builtin (b := .append) (xs := #[.tmp 9, .tmp 16]) rfl ?_); at_builtin; refine Kd.R_append k42 (w0 := w) w.heap.size rfl (.tmp 9) (.tmp 16) 26 42 (.agg #[(.int .i64 0), (.string ⟨#[]⟩), (.int .i64 0), (.int .i64 0), (.int .i64 0)]) 48 rfl Try.underlying26 info42 rfl (by decide) (by omega) v111 y110 (⟨a0, (⟨#[]⟩ : ByteArray), a1, wrap64 ((l2.length : Int) - 1), 0⟩ : S42) [.int .i64 a0, .string (⟨#[]⟩ : ByteArray), .int .i64 a1, .int .i64 (wrap64 ((l2.length : Int) - 1)), .int .i64 0] (fun _ => True) (fun _ => False) rfl rfl ?aP (fun _ hk => hk.elim) ?aF ?aO ?aB ?aS ?aL ?_; (case aP => exact k42_mkM _ _ _ (⟨a0, (⟨#[]⟩ : ByteArray), a1, wrap64 ((l2.length : Int) - 1), 0⟩ : S42)); (case aB => exact (by repeat (first | (with_reducible first | exact HB.out | apply below_alloc | apply pw_below_drewN | apply below_drew1) | exact HB.out))); (case aF => exact (fun _ _ => trivial)); (case aO => exact (by (with_reducible repeat (first | apply Kd.R_alloc | apply Kd.R_drewN | apply Kd.R_drew)); exact HO112.out)); (case aS => exact (below_size (by repeat (first | (with_reducible first | exact HB.out | apply below_alloc | apply pw_below_drewN | apply below_drew1) | exact HB.out)))); (case aL => have := LMc5.out; omega); intro v114 w9 ho hb hg hat; rw [← Ny113.out] at ho; have n0_ := Aside0.mk (hb); have n1_ := Aside0.mk (ho); clear HB; clear HO112; have HB := n0_; have HO115 := n1_; clear n0_ n1_; clear ho hb hg hat))
      go_ret
      exact ⟨_, by first | rfl | (simp [errW_none, errW_some] <;> rfl) | (simp [*, errW_none, errW_some] <;> rfl), by (with_reducible repeat (first | apply Kd.R_alloc | apply Kd.R_drewN | apply Kd.R_drew)); exact HO115.out, by repeat (first | (with_reducible first | exact HB.out | apply below_alloc | apply pw_below_drewN | apply below_drew1) | exact HB.out)⟩
    · rw [if_neg c5] at H
      exact absurd H (by simp)
  · rw [if_neg c4] at H
    exact absurd H (by simp)
def koineref25_Text.f (a0 : ByteArray) : Option ((List (S42))) := some (([(⟨0, a0, 0, 0, 0⟩ : S42)] : List (S42)))
set_option maxHeartbeats 8000000 in
set_option maxRecDepth 100000 in
theorem koineref25_Text.calls (a0 : ByteArray) (r : List (S42)) (w : World) (h : koineref25_Text.f a0 = some r) :
    Calls Try.prog 38 #[.string a0] w fun e w' => ∃ v0_ : Value, e = .returned (v0_) ∧ Kd.R k42 42 w' w.heap.size (fun _ => True) v0_ r ∧ Below w.heap.size w w' := by
  have hu42 := Try.underlying42
  have HB := Aside0.mk (Below.refl w.heap.size w)
  have H : (some (([(⟨0, a0, 0, 0, 0⟩ : S42)] : List (S42)))) = some r := h
  clear h
  obtain ⟨y116, hy116⟩ : ∃ y_ : List (S42), y_ = (([(⟨0, a0, 0, 0, 0⟩ : S42)] : List (S42))) := ⟨_, rfl⟩
  replace H : (some y116) = some r := by first | (rw [hy116]; with_reducible exact H) | (have H2_ := (Option.bind_some _ _).symm.trans H; rw [hy116]; with_reducible exact H2_) | (have H2_ := (Option.bind_some _ _).symm.trans H; with_reducible exact H2_) | with_reducible exact H | (rw [hy116]; exact H) | exact H
  have Ny116 := Aside0.mk hy116
  clear hy116
  obtain rfl := Option.some.inj H
  go_enter Try.func38, Try.ntmps38
  go_wp2_with (first | ((with_reducible refine gate_dst (N := 5) rfl ?_); refine Kd.R_lit k42 _ 42 ?hg (N := 5) ?hd (xs := ([(⟨0, a0, 0, 0, 0⟩ : S42)] : List (S42))) (inner := [.int .i64 0, .string a0, .int .i64 0, .int .i64 0, .int .i64 0]) (ok := fun _ => True) (okp := fun _ => True) ?hr ?hp (fun _ hk => hk) trivial (Below.refl _ _) (Nat.le_refl _) (by simp) ?_; (case hd => rfl); (case hg => rfl); (case hr => first | (go_simp; done) | (go_simp; rfl)); (case hp => exact (Reps.c5 (show Kd.M k42 _ _ _ (⟨0, a0, 0, 0, 0⟩ : S42) [.int .i64 0, .string a0, .int .i64 0, .int .i64 0, .int .i64 0] from (k42_mkM _ _ _ (⟨0, a0, 0, 0, 0⟩ : S42) )) (Reps.none _ _))); intro v117 w2 ho3 hb hg_ hnew_; clear hg_ hnew_; (first | rw [← Ny116.out] at ho3 | (simp only [Int.reduceToNat] at ho3; rw [← Ny116.out] at ho3)); have n0_ := Aside0.mk (Kd.R_lower ho3 (below_size (by repeat (first | (with_reducible first | exact HB.out | apply below_alloc | apply pw_below_drewN | apply below_drew1) | exact HB.out)))); have n1_ := Aside0.mk (below_step (by repeat (first | (with_reducible first | exact HB.out | apply below_alloc | apply pw_below_drewN | apply below_drew1) | exact HB.out)) hb); clear HB; have HO118 := n0_; have HB := n1_; clear n0_ n1_; clear hb ho3))
  go_ret
  exact ⟨_, by first | rfl | (simp [errW_none, errW_some] <;> rfl) | (simp [*, errW_none, errW_some] <;> rfl), by (with_reducible repeat (first | apply Kd.R_alloc | apply Kd.R_drewN | apply Kd.R_drew)); exact HO118.out, by repeat (first | (with_reducible first | exact HB.out | apply below_alloc | apply pw_below_drewN | apply below_drew1) | exact HB.out)⟩
def koineref25_leaf.f (a0 : Int) : Option ((List (S42))) := if (Int.tmod a0 4) = 0 then ((some (([(⟨#[97]⟩ : ByteArray), (⟨#[98, 98]⟩ : ByteArray), (⟨#[99, 99, 99]⟩ : ByteArray), (⟨#[]⟩ : ByteArray)] : List ByteArray) : List ByteArray)).bind fun y119 => (if 0 ≤ (Int.tmod (wrap64 (Int.tdiv a0 10)) 4) then (if (Int.tmod (wrap64 (Int.tdiv a0 10)) 4) < (y119.length : Int) then ((koineref25_Text.f (rdOf ByteArray.empty y119 (Int.tmod (wrap64 (Int.tdiv a0 10)) 4))).bind fun t123 => (some t123)) else (none)) else (none))) else (if (Int.tmod a0 4) = 1 then ((some (([(⟨#[100, 100, 100, 100]⟩ : ByteArray), (⟨#[101]⟩ : ByteArray), (⟨#[32]⟩ : ByteArray), (⟨#[102, 102]⟩ : ByteArray)] : List ByteArray) : List ByteArray)).bind fun y126 => (if 0 ≤ (Int.tmod (wrap64 (Int.tdiv a0 10)) 4) then (if (Int.tmod (wrap64 (Int.tdiv a0 10)) 4) < (y126.length : Int) then ((koineref25_Text.f (rdOf ByteArray.empty y126 (Int.tmod (wrap64 (Int.tdiv a0 10)) 4))).bind fun t130 => (some t130)) else (none)) else (none))) else (if (Int.tmod a0 4) = 2 then ((some (([(⟨#[]⟩ : ByteArray), (⟨#[32]⟩ : ByteArray), (⟨#[32]⟩ : ByteArray), (⟨#[32, 32]⟩ : ByteArray)] : List ByteArray) : List ByteArray)).bind fun y133 => (if 0 ≤ (Int.tmod (wrap64 (Int.tdiv a0 10)) 4) then (if (Int.tmod (wrap64 (Int.tdiv a0 10)) 4) < (y133.length : Int) then (some (([(⟨1, rdOf ByteArray.empty y133 (Int.tmod (wrap64 (Int.tdiv a0 10)) 4), 0, 0, 0⟩ : S42)] : List (S42)))) else (none)) else (none))) else (if (Int.tmod (wrap64 (Int.tdiv a0 10)) 4) > 0 then (some (([(⟨1, (⟨#[32]⟩ : ByteArray), 0, 0, 0⟩ : S42)] : List (S42)))) else (some (([(⟨2, (⟨#[]⟩ : ByteArray), 0, 0, 0⟩ : S42)] : List (S42)))))))
set_option maxHeartbeats 8000000 in
set_option maxRecDepth 100000 in
theorem koineref25_leaf.calls (a0 : Int) (r : List (S42)) (w : World) (h : koineref25_leaf.f a0 = some r) :
    Calls Try.prog 48 #[.int .i64 a0] w fun e w' => ∃ v0_ : Value, e = .returned (v0_) ∧ Kd.R k42 42 w' w.heap.size (fun _ => True) v0_ r ∧ Below w.heap.size w w' := by
  have hu42 := Try.underlying42
  have HB := Aside0.mk (Below.refl w.heap.size w)
  have H : (if (Int.tmod a0 4) = 0 then ((some (([(⟨#[97]⟩ : ByteArray), (⟨#[98, 98]⟩ : ByteArray), (⟨#[99, 99, 99]⟩ : ByteArray), (⟨#[]⟩ : ByteArray)] : List ByteArray) : List ByteArray)).bind fun y119 => (if 0 ≤ (Int.tmod (wrap64 (Int.tdiv a0 10)) 4) then (if (Int.tmod (wrap64 (Int.tdiv a0 10)) 4) < (y119.length : Int) then ((koineref25_Text.f (rdOf ByteArray.empty y119 (Int.tmod (wrap64 (Int.tdiv a0 10)) 4))).bind fun t123 => (some t123)) else (none)) else (none))) else (if (Int.tmod a0 4) = 1 then ((some (([(⟨#[100, 100, 100, 100]⟩ : ByteArray), (⟨#[101]⟩ : ByteArray), (⟨#[32]⟩ : ByteArray), (⟨#[102, 102]⟩ : ByteArray)] : List ByteArray) : List ByteArray)).bind fun y126 => (if 0 ≤ (Int.tmod (wrap64 (Int.tdiv a0 10)) 4) then (if (Int.tmod (wrap64 (Int.tdiv a0 10)) 4) < (y126.length : Int) then ((koineref25_Text.f (rdOf ByteArray.empty y126 (Int.tmod (wrap64 (Int.tdiv a0 10)) 4))).bind fun t130 => (some t130)) else (none)) else (none))) else (if (Int.tmod a0 4) = 2 then ((some (([(⟨#[]⟩ : ByteArray), (⟨#[32]⟩ : ByteArray), (⟨#[32]⟩ : ByteArray), (⟨#[32, 32]⟩ : ByteArray)] : List ByteArray) : List ByteArray)).bind fun y133 => (if 0 ≤ (Int.tmod (wrap64 (Int.tdiv a0 10)) 4) then (if (Int.tmod (wrap64 (Int.tdiv a0 10)) 4) < (y133.length : Int) then (some (([(⟨1, rdOf ByteArray.empty y133 (Int.tmod (wrap64 (Int.tdiv a0 10)) 4), 0, 0, 0⟩ : S42)] : List (S42)))) else (none)) else (none))) else (if (Int.tmod (wrap64 (Int.tdiv a0 10)) 4) > 0 then (some (([(⟨1, (⟨#[32]⟩ : ByteArray), 0, 0, 0⟩ : S42)] : List (S42)))) else (some (([(⟨2, (⟨#[]⟩ : ByteArray), 0, 0, 0⟩ : S42)] : List (S42)))))))) = some r := h
  clear h
  by_cases c2 : (Int.tmod a0 4) = 0
  · rw [if_pos c2] at H
    have c2b0 : ((Int.tmod a0 4) == 0) = true := beq_iff_eq.mpr c2
    have c2b1 : ((Int.tmod a0 4) != 0) = false := bne_eq_false_iff_eq.mpr c2
    clear c2
    obtain ⟨y119, hy119⟩ : ∃ y_ : List ByteArray, y_ = (([(⟨#[97]⟩ : ByteArray), (⟨#[98, 98]⟩ : ByteArray), (⟨#[99, 99, 99]⟩ : ByteArray), (⟨#[]⟩ : ByteArray)] : List ByteArray)) := ⟨_, rfl⟩
    replace H : (if 0 ≤ (Int.tmod (wrap64 (Int.tdiv a0 10)) 4) then (if (Int.tmod (wrap64 (Int.tdiv a0 10)) 4) < (y119.length : Int) then ((koineref25_Text.f (rdOf ByteArray.empty y119 (Int.tmod (wrap64 (Int.tdiv a0 10)) 4))).bind fun t123 => (some t123)) else (none)) else (none)) = some r := by first | (rw [hy119]; with_reducible exact H) | (have H2_ := (Option.bind_some _ _).symm.trans H; rw [hy119]; with_reducible exact H2_) | (have H2_ := (Option.bind_some _ _).symm.trans H; with_reducible exact H2_) | with_reducible exact H | (rw [hy119]; exact H) | exact H
    have Ny119 := Aside0.mk hy119
    clear hy119
    obtain ⟨ji3, hji3⟩ : ∃ j_ : Int, (Int.tmod (wrap64 (Int.tdiv a0 10)) 4) = j_ := ⟨_, rfl⟩
    replace H : (if 0 ≤ (ji3) then (if (ji3) < (y119.length : Int) then ((koineref25_Text.f (rdOf ByteArray.empty y119 (ji3))).bind fun t123 => (some t123)) else (none)) else (none)) = some r := by first | (rw [hji3] at H; exact H) | (simp only [hji3] at H ⊢; exact H)
    by_cases c4 : 0 ≤ (ji3)
    · rw [if_pos c4] at H
      have c4b0 : decide (0 ≤ (ji3)) = true := decide_eq_true c4
      clear c4
      by_cases c5 : (ji3) < (y119.length : Int)
      · rw [if_pos c5] at H
        have c5b0 : decide ((ji3) < (y119.length : Int)) = true := decide_eq_true c5
        clear c5
        replace H := Option.bind_eq_some_iff.mp H
        obtain ⟨t123, A60, H⟩ := H
        replace H : (some t123) = some r := H
        have A6 := Aside0.mk A60
        clear A60
        obtain rfl := Option.some.inj H
        go_enter Try.func48, Try.ntmps48
        go_wp2_with (first | ((with_reducible refine gate_dst (N := 7) rfl ?_); refine Kd.R_lit Kd.string _ 9 ?hg (N := 7) ?hd (xs := ([(⟨#[97]⟩ : ByteArray), (⟨#[98, 98]⟩ : ByteArray), (⟨#[99, 99, 99]⟩ : ByteArray), (⟨#[]⟩ : ByteArray)] : List ByteArray)) (inner := [.string (⟨#[97]⟩ : ByteArray), .string (⟨#[98, 98]⟩ : ByteArray), .string (⟨#[99, 99, 99]⟩ : ByteArray), .string (⟨#[]⟩ : ByteArray)]) (ok := fun _ => True) (okp := fun _ => True) ?hr ?hp (fun _ hk => hk) trivial (Below.refl _ _) (Nat.le_refl _) (by simp) ?_; (case hd => rfl); (case hg => rfl); (case hr => first | (go_simp; done) | (go_simp; rfl)); (case hp => exact (Reps.one (show Kd.M Kd.string _ _ _ (⟨#[97]⟩ : ByteArray) [.string (⟨#[97]⟩ : ByteArray)] from rfl) (Reps.one (show Kd.M Kd.string _ _ _ (⟨#[98, 98]⟩ : ByteArray) [.string (⟨#[98, 98]⟩ : ByteArray)] from rfl) (Reps.one (show Kd.M Kd.string _ _ _ (⟨#[99, 99, 99]⟩ : ByteArray) [.string (⟨#[99, 99, 99]⟩ : ByteArray)] from rfl) (Reps.one (show Kd.M Kd.string _ _ _ (⟨#[]⟩ : ByteArray) [.string (⟨#[]⟩ : ByteArray)] from rfl) (Reps.none _ _)))))); intro v120 w7 ho8 hb hg_ hnew_; clear hg_ hnew_; (first | rw [← Ny119.out] at ho8 | (simp only [Int.reduceToNat] at ho8; rw [← Ny119.out] at ho8)); have n0_ := Aside0.mk (Kd.R_lower ho8 (below_size (by repeat (first | (with_reducible first | exact HB.out | apply below_alloc | apply pw_below_drewN | apply below_drew1) | exact HB.out)))); have n1_ := Aside0.mk (below_step (by repeat (first | (with_reducible first | exact HB.out | apply below_alloc | apply pw_below_drewN | apply below_drew1) | exact HB.out)) hb); clear HB; have HO121 := n0_; have HB := n1_; clear n0_ n1_; clear hb ho8; obtain ⟨Ao9, co9, eo9⟩ := Kd.R_slice HO121.out; subst eo9; have p122 : 0 ≤ ((ji3) : Int) := of_decide_eq_true (by first | (with_reducible assumption) | assumption); have q122 : (ji3) < (y119.length : Int) := of_decide_eq_true (by first | (with_reducible assumption) | assumption); obtain ⟨ad122, e122, hx122_0⟩ := Kd.at_string (Kd.R_reads' HO121.out).2.2 (ji3) p122 q122; cases e122; replace p122 := eq_true p122; replace q122 := eq_true q122) | ((with_reducible refine gate_callee (f := 38) rfl ?_); refine goesL_ (some 13) rfl rfl Try.func38 (by kernel_rfl) rfl #[.string (rdOf ByteArray.empty y119 (ji3))] rfl (by (try simp only [List.map_toArray, List.map_cons, List.map_nil]); first | done | (simp only [hji3]; rfl) | rfl | (simp only [List.length_drop, List.length_take]; rfl)) ?_; (with_reducible refine (koineref25_Text.calls (rdOf ByteArray.empty y119 (ji3)) t123 _ A6.out).mono ?_); rintro e w10 ⟨v124, rfl, ho0, hb⟩; refine ⟨_, rfl, ?_⟩; have n0_ := Aside0.mk (Kd.R_below (by (with_reducible repeat (first | apply Kd.R_alloc | apply Kd.R_drewN | apply Kd.R_drew)); exact HO121.out) hb); have n1_ := Aside0.mk (Kd.R_lower ho0 (below_size (by repeat (first | (with_reducible first | exact HB.out | apply below_alloc | apply pw_below_drewN | apply below_drew1) | exact HB.out)))); have n2_ := Aside0.mk (below_step (by repeat (first | (with_reducible first | exact HB.out | apply below_alloc | apply pw_below_drewN | apply below_drew1) | exact HB.out)) hb); clear HO121; clear HB; have HO121 := n0_; have HO125 := n1_; have HB := n2_; clear n0_ n1_ n2_; (try clear hb); (try clear hb2); (try clear hk); (try clear hi); (try clear ho0)))
        go_ret
        exact ⟨_, by first | rfl | (simp [errW_none, errW_some] <;> rfl) | (simp only [← hji3]; first | rfl | (simp [errW_none, errW_some] <;> rfl)) | (simp [*, errW_none, errW_some] <;> rfl), by (with_reducible repeat (first | apply Kd.R_alloc | apply Kd.R_drewN | apply Kd.R_drew)); exact HO125.out, by repeat (first | (with_reducible first | exact HB.out | apply below_alloc | apply pw_below_drewN | apply below_drew1) | exact HB.out)⟩
      · rw [if_neg c5] at H
        exact absurd H (by simp)
    · rw [if_neg c4] at H
      exact absurd H (by simp)
  · rw [if_neg c2] at H
    have c2b0 : ((Int.tmod a0 4) == 0) = false := beq_eq_false_iff_ne.mpr c2
    have c2b1 : ((Int.tmod a0 4) != 0) = true := bne_iff_ne.mpr c2
    by_cases c11 : (Int.tmod a0 4) = 1
    · rw [if_pos c11] at H
      have c11b0 : ((Int.tmod a0 4) == 1) = true := beq_iff_eq.mpr c11
      have c11b1 : ((Int.tmod a0 4) != 1) = false := bne_eq_false_iff_eq.mpr c11
      clear c11
      obtain ⟨y126, hy126⟩ : ∃ y_ : List ByteArray, y_ = (([(⟨#[100, 100, 100, 100]⟩ : ByteArray), (⟨#[101]⟩ : ByteArray), (⟨#[32]⟩ : ByteArray), (⟨#[102, 102]⟩ : ByteArray)] : List ByteArray)) := ⟨_, rfl⟩
      replace H : (if 0 ≤ (Int.tmod (wrap64 (Int.tdiv a0 10)) 4) then (if (Int.tmod (wrap64 (Int.tdiv a0 10)) 4) < (y126.length : Int) then ((koineref25_Text.f (rdOf ByteArray.empty y126 (Int.tmod (wrap64 (Int.tdiv a0 10)) 4))).bind fun t130 => (some t130)) else (none)) else (none)) = some r := by first | (rw [hy126]; with_reducible exact H) | (have H2_ := (Option.bind_some _ _).symm.trans H; rw [hy126]; with_reducible exact H2_) | (have H2_ := (Option.bind_some _ _).symm.trans H; with_reducible exact H2_) | with_reducible exact H | (rw [hy126]; exact H) | exact H
      have Ny126 := Aside0.mk hy126
      clear hy126
      obtain ⟨ji12, hji12⟩ : ∃ j_ : Int, (Int.tmod (wrap64 (Int.tdiv a0 10)) 4) = j_ := ⟨_, rfl⟩
      replace H : (if 0 ≤ (ji12) then (if (ji12) < (y126.length : Int) then ((koineref25_Text.f (rdOf ByteArray.empty y126 (ji12))).bind fun t130 => (some t130)) else (none)) else (none)) = some r := by first | (rw [hji12] at H; exact H) | (simp only [hji12] at H ⊢; exact H)
      by_cases c13 : 0 ≤ (ji12)
      · rw [if_pos c13] at H
        have c13b0 : decide (0 ≤ (ji12)) = true := decide_eq_true c13
        clear c13
        by_cases c14 : (ji12) < (y126.length : Int)
        · rw [if_pos c14] at H
          have c14b0 : decide ((ji12) < (y126.length : Int)) = true := decide_eq_true c14
          clear c14
          replace H := Option.bind_eq_some_iff.mp H
          obtain ⟨t130, A150, H⟩ := H
          replace H : (some t130) = some r := H
          have A15 := Aside0.mk A150
          clear A150
          obtain rfl := Option.some.inj H
          go_enter Try.func48, Try.ntmps48
          go_wp2_with (first | ((with_reducible refine gate_dst (N := 16) rfl ?_); refine Kd.R_lit Kd.string _ 9 ?hg (N := 16) ?hd (xs := ([(⟨#[100, 100, 100, 100]⟩ : ByteArray), (⟨#[101]⟩ : ByteArray), (⟨#[32]⟩ : ByteArray), (⟨#[102, 102]⟩ : ByteArray)] : List ByteArray)) (inner := [.string (⟨#[100, 100, 100, 100]⟩ : ByteArray), .string (⟨#[101]⟩ : ByteArray), .string (⟨#[32]⟩ : ByteArray), .string (⟨#[102, 102]⟩ : ByteArray)]) (ok := fun _ => True) (okp := fun _ => True) ?hr ?hp (fun _ hk => hk) trivial (Below.refl _ _) (Nat.le_refl _) (by simp) ?_; (case hd => rfl); (case hg => rfl); (case hr => first | (go_simp; done) | (go_simp; rfl)); (case hp => exact (Reps.one (show Kd.M Kd.string _ _ _ (⟨#[100, 100, 100, 100]⟩ : ByteArray) [.string (⟨#[100, 100, 100, 100]⟩ : ByteArray)] from rfl) (Reps.one (show Kd.M Kd.string _ _ _ (⟨#[101]⟩ : ByteArray) [.string (⟨#[101]⟩ : ByteArray)] from rfl) (Reps.one (show Kd.M Kd.string _ _ _ (⟨#[32]⟩ : ByteArray) [.string (⟨#[32]⟩ : ByteArray)] from rfl) (Reps.one (show Kd.M Kd.string _ _ _ (⟨#[102, 102]⟩ : ByteArray) [.string (⟨#[102, 102]⟩ : ByteArray)] from rfl) (Reps.none _ _)))))); intro v127 w16 ho17 hb hg_ hnew_; clear hg_ hnew_; (first | rw [← Ny126.out] at ho17 | (simp only [Int.reduceToNat] at ho17; rw [← Ny126.out] at ho17)); have n0_ := Aside0.mk (Kd.R_lower ho17 (below_size (by repeat (first | (with_reducible first | exact HB.out | apply below_alloc | apply pw_below_drewN | apply below_drew1) | exact HB.out)))); have n1_ := Aside0.mk (below_step (by repeat (first | (with_reducible first | exact HB.out | apply below_alloc | apply pw_below_drewN | apply below_drew1) | exact HB.out)) hb); clear HB; have HO128 := n0_; have HB := n1_; clear n0_ n1_; clear hb ho17; obtain ⟨Ao18, co18, eo18⟩ := Kd.R_slice HO128.out; subst eo18; have p129 : 0 ≤ ((ji12) : Int) := of_decide_eq_true (by first | (with_reducible assumption) | assumption); have q129 : (ji12) < (y126.length : Int) := of_decide_eq_true (by first | (with_reducible assumption) | assumption); obtain ⟨ad129, e129, hx129_0⟩ := Kd.at_string (Kd.R_reads' HO128.out).2.2 (ji12) p129 q129; cases e129; replace p129 := eq_true p129; replace q129 := eq_true q129) | ((with_reducible refine gate_callee (f := 38) rfl ?_); refine goesL_ (some 22) rfl rfl Try.func38 (by kernel_rfl) rfl #[.string (rdOf ByteArray.empty y126 (ji12))] rfl (by (try simp only [List.map_toArray, List.map_cons, List.map_nil]); first | done | (simp only [hji12]; rfl) | rfl | (simp only [List.length_drop, List.length_take]; rfl)) ?_; (with_reducible refine (koineref25_Text.calls (rdOf ByteArray.empty y126 (ji12)) t130 _ A15.out).mono ?_); rintro e w19 ⟨v131, rfl, ho0, hb⟩; refine ⟨_, rfl, ?_⟩; have n0_ := Aside0.mk (Kd.R_below (by (with_reducible repeat (first | apply Kd.R_alloc | apply Kd.R_drewN | apply Kd.R_drew)); exact HO128.out) hb); have n1_ := Aside0.mk (Kd.R_lower ho0 (below_size (by repeat (first | (with_reducible first | exact HB.out | apply below_alloc | apply pw_below_drewN | apply below_drew1) | exact HB.out)))); have n2_ := Aside0.mk (below_step (by repeat (first | (with_reducible first | exact HB.out | apply below_alloc | apply pw_below_drewN | apply below_drew1) | exact HB.out)) hb); clear HO128; clear HB; have HO128 := n0_; have HO132 := n1_; have HB := n2_; clear n0_ n1_ n2_; (try clear hb); (try clear hb2); (try clear hk); (try clear hi); (try clear ho0)))
          go_ret
          exact ⟨_, by first | rfl | (simp [errW_none, errW_some] <;> rfl) | (simp only [← hji12]; first | rfl | (simp [errW_none, errW_some] <;> rfl)) | (simp [*, errW_none, errW_some] <;> rfl), by (with_reducible repeat (first | apply Kd.R_alloc | apply Kd.R_drewN | apply Kd.R_drew)); exact HO132.out, by repeat (first | (with_reducible first | exact HB.out | apply below_alloc | apply pw_below_drewN | apply below_drew1) | exact HB.out)⟩
        · rw [if_neg c14] at H
          exact absurd H (by simp)
      · rw [if_neg c13] at H
        exact absurd H (by simp)
    · rw [if_neg c11] at H
      have c11b0 : ((Int.tmod a0 4) == 1) = false := beq_eq_false_iff_ne.mpr c11
      have c11b1 : ((Int.tmod a0 4) != 1) = true := bne_iff_ne.mpr c11
      by_cases c20 : (Int.tmod a0 4) = 2
      · rw [if_pos c20] at H
        have c20b0 : ((Int.tmod a0 4) == 2) = true := beq_iff_eq.mpr c20
        have c20b1 : ((Int.tmod a0 4) != 2) = false := bne_eq_false_iff_eq.mpr c20
        clear c20
        obtain ⟨y133, hy133⟩ : ∃ y_ : List ByteArray, y_ = (([(⟨#[]⟩ : ByteArray), (⟨#[32]⟩ : ByteArray), (⟨#[32]⟩ : ByteArray), (⟨#[32, 32]⟩ : ByteArray)] : List ByteArray)) := ⟨_, rfl⟩
        replace H : (if 0 ≤ (Int.tmod (wrap64 (Int.tdiv a0 10)) 4) then (if (Int.tmod (wrap64 (Int.tdiv a0 10)) 4) < (y133.length : Int) then (some (([(⟨1, rdOf ByteArray.empty y133 (Int.tmod (wrap64 (Int.tdiv a0 10)) 4), 0, 0, 0⟩ : S42)] : List (S42)))) else (none)) else (none)) = some r := by first | (rw [hy133]; with_reducible exact H) | (have H2_ := (Option.bind_some _ _).symm.trans H; rw [hy133]; with_reducible exact H2_) | (have H2_ := (Option.bind_some _ _).symm.trans H; with_reducible exact H2_) | with_reducible exact H | (rw [hy133]; exact H) | exact H
        have Ny133 := Aside0.mk hy133
        clear hy133
        obtain ⟨ji21, hji21⟩ : ∃ j_ : Int, (Int.tmod (wrap64 (Int.tdiv a0 10)) 4) = j_ := ⟨_, rfl⟩
        replace H : (if 0 ≤ (ji21) then (if (ji21) < (y133.length : Int) then (some (([(⟨1, rdOf ByteArray.empty y133 (ji21), 0, 0, 0⟩ : S42)] : List (S42)))) else (none)) else (none)) = some r := by first | (rw [hji21] at H; exact H) | (simp only [hji21] at H ⊢; exact H)
        by_cases c22 : 0 ≤ (ji21)
        · rw [if_pos c22] at H
          have c22b0 : decide (0 ≤ (ji21)) = true := decide_eq_true c22
          clear c22
          by_cases c23 : (ji21) < (y133.length : Int)
          · rw [if_pos c23] at H
            have c23b0 : decide ((ji21) < (y133.length : Int)) = true := decide_eq_true c23
            clear c23
            obtain ⟨y137, hy137⟩ : ∃ y_ : List (S42), y_ = (([(⟨1, rdOf ByteArray.empty y133 (ji21), 0, 0, 0⟩ : S42)] : List (S42))) := ⟨_, rfl⟩
            replace H : (some y137) = some r := by first | (rw [hy137]; with_reducible exact H) | (have H2_ := (Option.bind_some _ _).symm.trans H; rw [hy137]; with_reducible exact H2_) | (have H2_ := (Option.bind_some _ _).symm.trans H; with_reducible exact H2_) | with_reducible exact H | (rw [hy137]; exact H) | exact H
            have Ny137 := Aside0.mk hy137
            clear hy137
            obtain rfl := Option.some.inj H
            go_enter Try.func48, Try.ntmps48
            go_wp2_with (first | ((with_reducible refine gate_dst (N := 25) rfl ?_); refine Kd.R_lit Kd.string _ 9 ?hg (N := 25) ?hd (xs := ([(⟨#[]⟩ : ByteArray), (⟨#[32]⟩ : ByteArray), (⟨#[32]⟩ : ByteArray), (⟨#[32, 32]⟩ : ByteArray)] : List ByteArray)) (inner := [.string (⟨#[]⟩ : ByteArray), .string (⟨#[32]⟩ : ByteArray), .string (⟨#[32]⟩ : ByteArray), .string (⟨#[32, 32]⟩ : ByteArray)]) (ok := fun _ => True) (okp := fun _ => True) ?hr ?hp (fun _ hk => hk) trivial (Below.refl _ _) (Nat.le_refl _) (by simp) ?_; (case hd => rfl); (case hg => rfl); (case hr => first | (go_simp; done) | (go_simp; rfl)); (case hp => exact (Reps.one (show Kd.M Kd.string _ _ _ (⟨#[]⟩ : ByteArray) [.string (⟨#[]⟩ : ByteArray)] from rfl) (Reps.one (show Kd.M Kd.string _ _ _ (⟨#[32]⟩ : ByteArray) [.string (⟨#[32]⟩ : ByteArray)] from rfl) (Reps.one (show Kd.M Kd.string _ _ _ (⟨#[32]⟩ : ByteArray) [.string (⟨#[32]⟩ : ByteArray)] from rfl) (Reps.one (show Kd.M Kd.string _ _ _ (⟨#[32, 32]⟩ : ByteArray) [.string (⟨#[32, 32]⟩ : ByteArray)] from rfl) (Reps.none _ _)))))); intro v134 w24 ho25 hb hg_ hnew_; clear hg_ hnew_; (first | rw [← Ny133.out] at ho25 | (simp only [Int.reduceToNat] at ho25; rw [← Ny133.out] at ho25)); have n0_ := Aside0.mk (Kd.R_lower ho25 (below_size (by repeat (first | (with_reducible first | exact HB.out | apply below_alloc | apply pw_below_drewN | apply below_drew1) | exact HB.out)))); have n1_ := Aside0.mk (below_step (by repeat (first | (with_reducible first | exact HB.out | apply below_alloc | apply pw_below_drewN | apply below_drew1) | exact HB.out)) hb); clear HB; have HO135 := n0_; have HB := n1_; clear n0_ n1_; clear hb ho25; obtain ⟨Ao26, co26, eo26⟩ := Kd.R_slice HO135.out; subst eo26; have p136 : 0 ≤ ((ji21) : Int) := of_decide_eq_true (by first | (with_reducible assumption) | assumption); have q136 : (ji21) < (y133.length : Int) := of_decide_eq_true (by first | (with_reducible assumption) | assumption); obtain ⟨ad136, e136, hx136_0⟩ := Kd.at_string (Kd.R_reads' HO135.out).2.2 (ji21) p136 q136; cases e136; replace p136 := eq_true p136; replace q136 := eq_true q136) | ((with_reducible refine gate_dst (N := 32) rfl ?_); refine Kd.R_lit k42 _ 42 ?hg (N := 32) ?hd (xs := ([(⟨1, rdOf ByteArray.empty y133 (ji21), 0, 0, 0⟩ : S42)] : List (S42))) (inner := [.int .i64 1, .string (rdOf ByteArray.empty y133 (ji21)), .int .i64 0, .int .i64 0, .int .i64 0]) (ok := fun _ => True) (okp := fun _ => True) ?hr ?hp (fun _ hk => hk) trivial (Below.refl _ _) (Nat.le_refl _) (by simp) ?_; (case hd => rfl); (case hg => rfl); (case hr => first | (go_simp; done) | (go_simp; rfl)); (case hp => exact (Reps.c5 (show Kd.M k42 _ _ _ (⟨1, rdOf ByteArray.empty y133 (ji21), 0, 0, 0⟩ : S42) [.int .i64 1, .string (rdOf ByteArray.empty y133 (ji21)), .int .i64 0, .int .i64 0, .int .i64 0] from (k42_mkM _ _ _ (⟨1, rdOf ByteArray.empty y133 (ji21), 0, 0, 0⟩ : S42) )) (Reps.none _ _))); intro v138 w27 ho28 hb hg_ hnew_; clear hg_ hnew_; (first | rw [← Ny137.out] at ho28 | (simp only [Int.reduceToNat] at ho28; rw [← Ny137.out] at ho28)); have n0_ := Aside0.mk (Kd.R_below (by (with_reducible repeat (first | apply Kd.R_alloc | apply Kd.R_drewN | apply Kd.R_drew)); exact HO135.out) hb); have n1_ := Aside0.mk (Kd.R_lower ho28 (below_size (by repeat (first | (with_reducible first | exact HB.out | apply below_alloc | apply pw_below_drewN | apply below_drew1) | exact HB.out)))); have n2_ := Aside0.mk (below_step (by repeat (first | (with_reducible first | exact HB.out | apply below_alloc | apply pw_below_drewN | apply below_drew1) | exact HB.out)) hb); clear HO135; clear HB; have HO135 := n0_; have HO139 := n1_; have HB := n2_; clear n0_ n1_ n2_; clear hb ho28))
            go_ret
            exact ⟨_, by first | rfl | (simp [errW_none, errW_some] <;> rfl) | (simp only [← hji21]; first | rfl | (simp [errW_none, errW_some] <;> rfl)) | (simp [*, errW_none, errW_some] <;> rfl), by (with_reducible repeat (first | apply Kd.R_alloc | apply Kd.R_drewN | apply Kd.R_drew)); exact HO139.out, by repeat (first | (with_reducible first | exact HB.out | apply below_alloc | apply pw_below_drewN | apply below_drew1) | exact HB.out)⟩
          · rw [if_neg c23] at H
            exact absurd H (by simp)
        · rw [if_neg c22] at H
          exact absurd H (by simp)
      · rw [if_neg c20] at H
        have c20b0 : ((Int.tmod a0 4) == 2) = false := beq_eq_false_iff_ne.mpr c20
        have c20b1 : ((Int.tmod a0 4) != 2) = true := bne_iff_ne.mpr c20
        by_cases c29 : (Int.tmod (wrap64 (Int.tdiv a0 10)) 4) > 0
        · rw [if_pos c29] at H
          have c29b0 : decide (0 < (Int.tmod (wrap64 (Int.tdiv a0 10)) 4)) = true := decide_eq_true c29
          clear c29
          obtain ⟨y140, hy140⟩ : ∃ y_ : List (S42), y_ = (([(⟨1, (⟨#[32]⟩ : ByteArray), 0, 0, 0⟩ : S42)] : List (S42))) := ⟨_, rfl⟩
          replace H : (some y140) = some r := by first | (rw [hy140]; with_reducible exact H) | (have H2_ := (Option.bind_some _ _).symm.trans H; rw [hy140]; with_reducible exact H2_) | (have H2_ := (Option.bind_some _ _).symm.trans H; with_reducible exact H2_) | with_reducible exact H | (rw [hy140]; exact H) | exact H
          have Ny140 := Aside0.mk hy140
          clear hy140
          obtain rfl := Option.some.inj H
          go_enter Try.func48, Try.ntmps48
          go_wp2_with (first | ((with_reducible refine gate_dst (N := 38) rfl ?_); refine Kd.R_lit k42 _ 42 ?hg (N := 38) ?hd (xs := ([(⟨1, (⟨#[32]⟩ : ByteArray), 0, 0, 0⟩ : S42)] : List (S42))) (inner := [.int .i64 1, .string (⟨#[32]⟩ : ByteArray), .int .i64 0, .int .i64 0, .int .i64 0]) (ok := fun _ => True) (okp := fun _ => True) ?hr ?hp (fun _ hk => hk) trivial (Below.refl _ _) (Nat.le_refl _) (by simp) ?_; (case hd => rfl); (case hg => rfl); (case hr => first | (go_simp; done) | (go_simp; rfl)); (case hp => exact (Reps.c5 (show Kd.M k42 _ _ _ (⟨1, (⟨#[32]⟩ : ByteArray), 0, 0, 0⟩ : S42) [.int .i64 1, .string (⟨#[32]⟩ : ByteArray), .int .i64 0, .int .i64 0, .int .i64 0] from (k42_mkM _ _ _ (⟨1, (⟨#[32]⟩ : ByteArray), 0, 0, 0⟩ : S42) )) (Reps.none _ _))); intro v141 w30 ho31 hb hg_ hnew_; clear hg_ hnew_; (first | rw [← Ny140.out] at ho31 | (simp only [Int.reduceToNat] at ho31; rw [← Ny140.out] at ho31)); have n0_ := Aside0.mk (Kd.R_lower ho31 (below_size (by repeat (first | (with_reducible first | exact HB.out | apply below_alloc | apply pw_below_drewN | apply below_drew1) | exact HB.out)))); have n1_ := Aside0.mk (below_step (by repeat (first | (with_reducible first | exact HB.out | apply below_alloc | apply pw_below_drewN | apply below_drew1) | exact HB.out)) hb); clear HB; have HO142 := n0_; have HB := n1_; clear n0_ n1_; clear hb ho31))
          go_ret
          exact ⟨_, by first | rfl | (simp [errW_none, errW_some] <;> rfl) | (simp [*, errW_none, errW_some] <;> rfl), by (with_reducible repeat (first | apply Kd.R_alloc | apply Kd.R_drewN | apply Kd.R_drew)); exact HO142.out, by repeat (first | (with_reducible first | exact HB.out | apply below_alloc | apply pw_below_drewN | apply below_drew1) | exact HB.out)⟩
        · rw [if_neg c29] at H
          have c29b0 : decide (0 < (Int.tmod (wrap64 (Int.tdiv a0 10)) 4)) = false := decide_eq_false c29
          clear c29
          obtain ⟨y143, hy143⟩ : ∃ y_ : List (S42), y_ = (([(⟨2, (⟨#[]⟩ : ByteArray), 0, 0, 0⟩ : S42)] : List (S42))) := ⟨_, rfl⟩
          replace H : (some y143) = some r := by first | (rw [hy143]; with_reducible exact H) | (have H2_ := (Option.bind_some _ _).symm.trans H; rw [hy143]; with_reducible exact H2_) | (have H2_ := (Option.bind_some _ _).symm.trans H; with_reducible exact H2_) | with_reducible exact H | (rw [hy143]; exact H) | exact H
          have Ny143 := Aside0.mk hy143
          clear hy143
          obtain rfl := Option.some.inj H
          go_enter Try.func48, Try.ntmps48
          go_wp2_with (first | ((with_reducible refine gate_dst (N := 40) rfl ?_); refine Kd.R_lit k42 _ 42 ?hg (N := 40) ?hd (xs := ([(⟨2, (⟨#[]⟩ : ByteArray), 0, 0, 0⟩ : S42)] : List (S42))) (inner := [.int .i64 2, .string (⟨#[]⟩ : ByteArray), .int .i64 0, .int .i64 0, .int .i64 0]) (ok := fun _ => True) (okp := fun _ => True) ?hr ?hp (fun _ hk => hk) trivial (Below.refl _ _) (Nat.le_refl _) (by simp) ?_; (case hd => rfl); (case hg => rfl); (case hr => first | (go_simp; done) | (go_simp; rfl)); (case hp => exact (Reps.c5 (show Kd.M k42 _ _ _ (⟨2, (⟨#[]⟩ : ByteArray), 0, 0, 0⟩ : S42) [.int .i64 2, .string (⟨#[]⟩ : ByteArray), .int .i64 0, .int .i64 0, .int .i64 0] from (k42_mkM _ _ _ (⟨2, (⟨#[]⟩ : ByteArray), 0, 0, 0⟩ : S42) )) (Reps.none _ _))); intro v144 w32 ho33 hb hg_ hnew_; clear hg_ hnew_; (first | rw [← Ny143.out] at ho33 | (simp only [Int.reduceToNat] at ho33; rw [← Ny143.out] at ho33)); have n0_ := Aside0.mk (Kd.R_lower ho33 (below_size (by repeat (first | (with_reducible first | exact HB.out | apply below_alloc | apply pw_below_drewN | apply below_drew1) | exact HB.out)))); have n1_ := Aside0.mk (below_step (by repeat (first | (with_reducible first | exact HB.out | apply below_alloc | apply pw_below_drewN | apply below_drew1) | exact HB.out)) hb); clear HB; have HO145 := n0_; have HB := n1_; clear n0_ n1_; clear hb ho33))
          go_ret
          exact ⟨_, by first | rfl | (simp [errW_none, errW_some] <;> rfl) | (simp [*, errW_none, errW_some] <;> rfl), by (with_reducible repeat (first | apply Kd.R_alloc | apply Kd.R_drewN | apply Kd.R_drew)); exact HO145.out, by repeat (first | (with_reducible first | exact HB.out | apply below_alloc | apply pw_below_drewN | apply below_drew1) | exact HB.out)⟩
end Go.Proofs.Ythmmdmnbcecooaa.A
end

section
namespace Go.Proofs.Ythmmdmnbcecooaa.A
open Go.RowKit Go.Proofs.YthmmdmnbcecooaaW.PrintWords Go.Proofs.YthmmdmnbcecooaaW.PrintLast Go.Proofs.YthmmdmnbcecooaaW.PrintMore
set_option linter.unusedVariables false
set_option linter.unusedSimpArgs false
def seqD (a b : List S42) : List S42 := joinD a b ++ [⟨3, ⟨#[]⟩, 0, (a.length : Int) - 1, (a.length : Int) + b.length - 1⟩]
def wrapD (kind n : Int) (a : List S42) : List S42 := a ++ [⟨kind, ⟨#[]⟩, n, (a.length : Int) - 1, 0⟩]
def textD (s : ByteArray) : List S42 := [⟨0, s, 0, 0, 0⟩]
theorem seqD_length (a b : List S42) : (seqD a b).length = a.length + b.length + 1 := by simp [seqD, joinD]; omega
theorem wrapD_length (kind n : Int) (a : List S42) : (wrapD kind n a).length = a.length + 1 := by simp [wrapD]
theorem joined_eq (a b : List S42) (ha : a.length + b.length ≤ 1000000) : koineref25_joined.f a b = some (joinD a b) := if_pos ha
theorem Seq_eq (a b : List S42) (ha : a.length + b.length ≤ 1000000) : koineref25_Seq.f a b = some (seqD a b) := by
  unfold koineref25_Seq.f
  rw [joined_eq a b ha]
  simp only [Option.bind_some]
  rw [if_pos (by simp [joinD]; omega), wrap64_small (by omega) (by omega), wrap64_small (x := (a.length : Int) + b.length) (by omega) (by omega), wrap64_small (by omega) (by omega)]
  rfl
theorem Wrap_eq (kind n : Int) (a : List S42) (ha : a.length ≤ 1000000) : koineref25_Wrap.f kind n a = some (wrapD kind n a) := by
  unfold koineref25_Wrap.f
  simp only [Option.bind_some, List.nil_append, List.length_nil]
  rw [if_pos (by omega), if_pos (by omega), wrap64_small (by omega) (by omega)]
  rfl
end Go.Proofs.Ythmmdmnbcecooaa.A
end

section
namespace Go.Proofs.Ythmmdmnbcecooaa.A
open Go.RowKit Go.Proofs.YthmmdmnbcecooaaW.PrintWords Go.Proofs.YthmmdmnbcecooaaW.PrintLast Go.Proofs.YthmmdmnbcecooaaW.PrintMore
set_option linter.unusedVariables false
set_option linter.unusedSimpArgs false
theorem shiftN_kind (n : Int) (x : S42) : (shiftN n x).f0 = x.f0 ∧ (shiftN n x).f1 = x.f1 ∧ (shiftN n x).f2 = x.f2 := by
  unfold shiftN; split
  · split <;> exact ⟨rfl, rfl, rfl⟩
  · exact ⟨rfl, rfl, rfl⟩
theorem shiftN_small {i : Nat} {x : S42} (h : NodeOk i x) (hi : i ≤ 1000000) (n : Nat) (hn : n ≤ 1000000) :
    shiftN n x = if x.f0 = 3 then ⟨x.f0, x.f1, x.f2, x.f3 + n, x.f4 + n⟩ else if 3 < x.f0 then ⟨x.f0, x.f1, x.f2, x.f3 + n, x.f4⟩ else x := by
  have hk := h.kind
  unfold shiftN
  by_cases h3 : x.f0 = 3
  · have e2 : arityI x.f0 = 2 := by unfold arityI; rw [if_neg (by omega), if_neg (by omega), if_pos h3]
    have ha := h.a (by omega)
    have hb := h.b h3
    rw [if_pos h3, e2, if_pos (by omega), if_pos (by omega), wrap64_small (x := x.f3 + n) (by omega) (by omega), wrap64_small (by omega) (by omega)]
  · rw [if_neg h3]
    by_cases hg : 3 < x.f0
    · have ha := h.a (by omega)
      rw [if_pos hg, arityI_big hg hk.2, if_pos (by omega), if_neg (by omega), wrap64_small (by omega) (by omega)]
    · rw [if_neg hg, arityI_small (by omega) hk.1, if_neg (by omega)]
theorem shift_ok {i : Nat} {x : S42} (h : NodeOk i x) (hi : i ≤ 1000000) (n : Nat) (hn : n ≤ 1000000) : NodeOk (n + i) (shiftN n x) := by
  obtain ⟨k0, k1, k2⟩ := shiftN_kind n x
  have hs := shiftN_small h hi n hn
  refine ⟨by rw [k0]; exact h.kind, fun h3 => ?_, fun h3 => ?_, fun h3 => ?_, fun h3 => ?_, by rw [k2]; exact h.n, by rw [k0, k2]; exact h.n0, by rw [k1]; exact h.nl, by rw [k0, k1]; exact h.t0⟩
  · rw [k0] at h3
    have := h.a h3
    rw [hs]
    split
    · simp only; omega
    · rw [if_pos (by omega)]; simp only; omega
  · rw [k0] at h3
    have := h.b h3
    rw [hs, if_pos h3]
    simp only; omega
  · rw [k0] at h3
    have := h.a0 h3
    rw [hs, if_neg (by omega), if_neg (by omega)]
    exact this
  · rw [k0] at h3
    have := h.b0 h3
    rw [hs, if_neg h3]
    split
    · exact this
    · exact this
theorem shift_ops {i : Nat} {x : S42} (h : NodeOk i x) (hi : i ≤ 1000000) (n : Nat) (hn : n ≤ 1000000) : opsAt (shiftN n x) = (opsAt x).map (· + n) := by
  obtain ⟨k0, _, _⟩ := shiftN_kind n x
  have hs := shiftN_small h hi n hn
  unfold opsAt
  rw [k0]
  by_cases h3 : x.f0 = 3
  · have ha := h.a (by omega)
    have hb := h.b h3
    rw [if_pos h3, if_pos h3, hs, if_pos h3]
    simp only [List.map_cons, List.map_nil]
    rw [Int.toNat_add ha.1 (by omega), Int.toNat_add hb.1 (by omega), Int.toNat_natCast]
  · rw [if_neg h3, if_neg h3]
    by_cases hg : 3 < x.f0
    · have ha := h.a (by omega)
      rw [if_pos hg, if_pos hg, hs, if_neg h3, if_pos hg]
      simp only [List.map_cons, List.map_nil]
      rw [Int.toNat_add ha.1 (by omega), Int.toNat_natCast]
    · rw [if_neg hg, if_neg hg]; rfl
theorem nl_empty : Lib.indexByte (⟨#[]⟩ : ByteArray).data.toList 10 < 0 := by decide
theorem refs_append (a b : List S42) : refs (a ++ b) = refs a ++ refs b := List.flatMap_append
theorem refs_shift (n : Nat) (hn : n ≤ 1000000) : ∀ (b : List S42) (i : Nat), i + b.length ≤ 1000000 → (∀ j, j < b.length → NodeOk (i + j) (b.getD j z42)) → refs (b.map (shiftN n)) = (refs b).map (· + n)
  | [], _, _, _ => rfl
  | x :: t, i, hl, h => by
    have h0 : NodeOk i x := h 0 (by simp)
    have ht := refs_shift n hn t (i + 1) (by simp at hl; omega) (fun j hj => by have := h (j + 1) (by simpa using hj); simpa [Nat.add_assoc, Nat.add_comm 1 j] using this)
    simp only [List.length_cons] at hl
    show opsAt (shiftN n x) ++ refs (t.map (shiftN n)) = (opsAt x ++ refs t).map (· + n)
    rw [ht, shift_ops h0 (by omega) n hn, List.map_append]
theorem getD_snd (a b : List S42) (j : Nat) : (a ++ b).getD (a.length + j) z42 = b.getD j z42 := by
  simp [List.getD, List.getElem?_append_right]
theorem getD_fst (a b : List S42) (j : Nat) (h : j < a.length) : (a ++ b).getD j z42 = a.getD j z42 := by
  simp [List.getD, List.getElem?_append_left h]
theorem getD_map (n : Int) (b : List S42) (j : Nat) (h : j < b.length) : (b.map (shiftN n)).getD j z42 = shiftN n (b.getD j z42) := by
  simp [List.getD, h]
theorem count_shift (n a : Nat) (L : List Nat) : (L.map (· + n)).count (a + n) = L.count a := by
  induction L with
  | nil => rfl
  | cons x t ih =>
    simp only [List.map_cons, List.count_cons, ih]
    congr 1
    by_cases h : x = a
    · subst h; simp
    · have : ¬ x + n = a + n := by omega
      simp [h, this]
theorem good_seq {a b : List S42} (ha : Good a) (hb : Good b) (hl : a.length + b.length + 1 ≤ 65536) : Good (seqD a b) := by
  have hpa := ha.pos
  have hpb := hb.pos
  have hlen : (seqD a b).length = a.length + b.length + 1 := seqD_length a b
  have hrefs : refs (seqD a b) = refs a ++ (refs b).map (· + a.length) ++ [a.length - 1, a.length + b.length - 1] := by
    unfold seqD joinD
    rw [refs_append, refs_append, refs_shift a.length (by omega) b 0 (by omega) (fun j hj => by simpa using hb.ok j hj)]
    congr 1
    show opsAt _ ++ [] = _
    rw [List.append_nil]
    unfold opsAt
    rw [if_pos rfl]
    simp only
    rw [show ((a.length : Int) - 1).toNat = a.length - 1 from by omega, show ((a.length : Int) + b.length - 1).toNat = a.length + b.length - 1 from by omega]
  refine ⟨by omega, by omega, fun i hi => ?_, fun i hi => ?_⟩
  · rw [hlen] at hi
    unfold seqD joinD
    by_cases h1 : i < a.length
    · rw [List.append_assoc, getD_fst _ _ _ h1]
      exact ha.ok i h1
    · obtain ⟨j, rfl⟩ : ∃ j, i = a.length + j := ⟨i - a.length, by omega⟩
      rw [List.append_assoc, getD_snd]
      by_cases h2 : j < b.length
      · rw [getD_fst _ _ _ (by simpa using h2), getD_map _ _ _ h2]
        exact shift_ok (hb.ok j h2) (by omega) a.length (by omega)
      · obtain rfl : j = b.length := by omega
        have := getD_snd (b.map (shiftN a.length)) [(⟨3, ⟨#[]⟩, 0, (a.length : Int) - 1, (a.length : Int) + b.length - 1⟩ : S42)] 0
        rw [List.length_map, Nat.add_zero] at this
        rw [this]
        show NodeOk _ (⟨3, ⟨#[]⟩, 0, (a.length : Int) - 1, (a.length : Int) + b.length - 1⟩ : S42)
        exact ⟨⟨by simp only; omega, by simp only; omega⟩, fun _ => ⟨by simp only; omega, by simp only; omega⟩, fun _ => ⟨by simp only; omega, by simp only; omega⟩, fun h => by simp at h, fun h => absurd rfl h, ⟨by simp only; omega, by simp only; omega⟩, fun _ => rfl, nl_empty, fun _ => rfl⟩
  · rw [hlen] at hi
    rw [hrefs, List.count_append, List.count_append]
    have hra : ∀ j, j ∈ refs a → j < a.length - 1 := fun j hj => refs_lt ha.ok hj
    have hrb : ∀ j, j ∈ refs b → j < b.length - 1 := fun j hj => refs_lt hb.ok hj
    by_cases h1 : i < a.length
    · have c2 : ((refs b).map (· + a.length)).count i = 0 := List.count_eq_zero_of_not_mem (fun hm => by
        obtain ⟨j, _, e⟩ := List.mem_map.1 hm
        omega)
      rw [c2]
      by_cases h2 : i = a.length - 1
      · have c1 : (refs a).count i = 0 := List.count_eq_zero_of_not_mem (fun hm => by have := hra i hm; omega)
        rw [c1, h2]
        have : ¬ a.length + b.length - 1 = a.length - 1 := by omega
        simp [List.count_cons, this]
      · rw [ha.once i (by omega)]
        have e1 : ¬ a.length - 1 = i := by omega
        have e2 : ¬ a.length + b.length - 1 = i := by omega
        simp [List.count_cons, e1, e2]
    · obtain ⟨j, rfl⟩ : ∃ j, i = j + a.length := ⟨i - a.length, by omega⟩
      have c1 : (refs a).count (j + a.length) = 0 := List.count_eq_zero_of_not_mem (fun hm => by have := hra _ hm; omega)
      rw [c1, count_shift]
      have e1 : ¬ a.length - 1 = j + a.length := by omega
      by_cases h2 : j = b.length - 1
      · have c2 : (refs b).count j = 0 := List.count_eq_zero_of_not_mem (fun hm => by have := hrb j hm; omega)
        have e2 : a.length + b.length - 1 = j + a.length := by omega
        rw [c2, e2]
        simp [List.count_cons, e1]
      · rw [hb.once j (by omega)]
        have e2 : ¬ a.length + b.length - 1 = j + a.length := by omega
        simp [List.count_cons, e1, e2]
theorem good_wrap {a : List S42} {kind n : Int} (ha : Good a) (hk : 4 ≤ kind ∧ kind ≤ 6) (hn : 0 ≤ n ∧ n ≤ 1000) (h0 : kind ≠ 4 → n = 0) (hl : a.length + 1 ≤ 65536) : Good (wrapD kind n a) := by
  have hpa := ha.pos
  have hlen : (wrapD kind n a).length = a.length + 1 := wrapD_length kind n a
  have hrefs : refs (wrapD kind n a) = refs a ++ [a.length - 1] := by
    unfold wrapD
    rw [refs_append]
    congr 1
    show opsAt _ ++ [] = _
    rw [List.append_nil]
    unfold opsAt
    simp only
    rw [if_neg (by omega), if_pos (by omega), show ((a.length : Int) - 1).toNat = a.length - 1 from by omega]
  refine ⟨by omega, by omega, fun i hi => ?_, fun i hi => ?_⟩
  · rw [hlen] at hi
    unfold wrapD
    by_cases h1 : i < a.length
    · rw [getD_fst _ _ _ h1]; exact ha.ok i h1
    · obtain rfl : i = a.length := by omega
      have := getD_snd a [(⟨kind, ⟨#[]⟩, n, (a.length : Int) - 1, 0⟩ : S42)] 0
      rw [Nat.add_zero] at this
      rw [this]
      show NodeOk _ (⟨kind, ⟨#[]⟩, n, (a.length : Int) - 1, 0⟩ : S42)
      exact ⟨by simp only; omega, fun _ => ⟨by simp only; omega, by simp only; omega⟩, fun h => by simp only at h; omega, fun h => by simp only at h; omega, fun _ => rfl, hn, h0, nl_empty, fun _ => rfl⟩
  · rw [hlen] at hi
    rw [hrefs, List.count_append]
    by_cases h2 : i = a.length - 1
    · have c1 : (refs a).count i = 0 := List.count_eq_zero_of_not_mem (fun hm => by have := refs_lt ha.ok hm; omega)
      rw [c1, h2]; simp
    · rw [ha.once i (by omega)]
      have e1 : ¬ a.length - 1 = i := by omega
      simp [List.count_cons, e1]
theorem good_leaf {x : S42} (h : NodeOk 0 x) : Good [x] := by
  refine ⟨by simp, by simp, fun i hi => ?_, fun i hi => ?_⟩
  · obtain rfl : i = 0 := by simpa using hi
    exact h
  · simp at hi
end Go.Proofs.Ythmmdmnbcecooaa.A
end

section
namespace Go.Proofs.Ythmmdmnbcecooaa.A
open Go.RowKit Go.Proofs.YthmmdmnbcecooaaW.PrintWords Go.Proofs.YthmmdmnbcecooaaW.PrintLast Go.Proofs.YthmmdmnbcecooaaW.PrintMore
set_option linter.unusedVariables false
set_option linter.unusedSimpArgs false
def addT (st : St) (s : List UInt8) : St :=
  if s = [] then st
  else if st.col = 0 then ⟨st.out ++ (List.replicate st.pend.toNat 32 ++ s), st.pend + s.length, st.pend, st.wrong⟩
  else ⟨st.out ++ s, st.col + s.length, st.pend, st.wrong⟩
def feedT (st : St) (ind : Int) : St := ⟨st.out ++ [10], 0, ind, st.wrong⟩
/-- The number of groups. -/
def ng : Doc → Nat
  | .text _ | .line _ | .hard => 0
  | .seq a b => ng a + ng b
  | .nest _ a | .align a => ng a
  | .group _ a => ng a + 1
def wrP : Doc → Int → Bool → List Bool → St → St
  | .text s, _, _, _, st => addT st s.data.toList
  | .line s, ind, flat, _, st => if flat then addT st s.data.toList else feedT st ind
  | .hard, ind, flat, _, st => feedT { st with wrong := st.wrong || flat } ind
  | .seq a b, ind, flat, fl, st => wrP b ind flat (fl.drop (ng a)) (wrP a ind flat (fl.take (ng a)) st)
  | .nest n a, ind, flat, fl, st => wrP a (ind + n) flat fl st
  | .align a, _, flat, fl, st => wrP a (if st.col = 0 then st.pend else st.col) flat fl st
  | .group _ a, ind, flat, fl, st => wrP a ind (flat || fl.headD false) fl.tail st
theorem ng_eq : ∀ t : Doc, (groupsI t).length = ng t
  | .text _ | .line _ | .hard => rfl
  | .seq a b => by simp [groupsI, ng, ng_eq a, ng_eq b]
  | .nest _ a | .align a => by simp [groupsI, ng, ng_eq a]
  | .group _ a => by simp [groupsI, ng, ng_eq a]
/-- Bytes of texts and indentations. -/
def wt : Doc → Nat
  | .text s | .line s => s.data.toList.length
  | .hard => 0
  | .seq a b => wt a + wt b
  | .nest n a => n.toNat + wt a
  | .align a | .group _ a => wt a
/-- Leaves. -/
def lv : Doc → Nat
  | .text _ | .line _ | .hard => 1
  | .seq a b => lv a + lv b
  | .nest _ a | .align a | .group _ a => lv a
/-- No indentation is negative. -/
def nn : Doc → Prop
  | .text _ | .line _ | .hard => True
  | .seq a b => nn a ∧ nn b
  | .nest n a => 0 ≤ n ∧ nn a
  | .align a | .group _ a => nn a
def InB (st : St) (B : Nat) : Prop := 0 ≤ st.col ∧ st.col ≤ B ∧ 0 ≤ st.pend ∧ st.pend ≤ B
theorem addO_eq {st : St} {s : List UInt8} {B : Nat} (h : InB st B) (h1 : st.out.length + (B + s.length) ≤ 140737488355328) :
    addO st s = some (addT st s) ∧ InB (addT st s) (B + s.length) ∧ (addT st s).out.length ≤ st.out.length + (B + s.length) := by
  obtain ⟨a1, a2, a3, a4⟩ := h
  unfold addO addT
  by_cases hs : s = []
  · subst hs
    rw [if_pos rfl, if_pos rfl]
    exact ⟨rfl, ⟨a1, by omega, a3, by omega⟩, by omega⟩
  rw [if_neg hs, if_neg hs]
  by_cases hc : st.col = 0
  · rw [if_pos hc, if_pos hc, if_pos ⟨a3, by omega⟩]
    exact ⟨rfl, ⟨by simp only; omega, by simp only; omega, by simp only; omega, by simp only; omega⟩, by simp; omega⟩
  · rw [if_neg hc, if_neg hc, if_pos ⟨a1, by omega, by omega⟩]
    exact ⟨rfl, ⟨by simp only; omega, by simp only; omega, by simp only; omega, by simp only; omega⟩, by simp only [List.length_append]; omega⟩
theorem feedO_eq {st : St} {ind : Int} {B : Nat} (h : InB st B) (hi : 0 ≤ ind ∧ ind ≤ B) (h1 : st.out.length + 1 ≤ 140737488355328) :
    feedO st ind = some (feedT st ind) ∧ InB (feedT st ind) B ∧ (feedT st ind).out.length ≤ st.out.length + 1 := by
  unfold feedO feedT
  rw [if_pos h1]
  exact ⟨rfl, ⟨by simp only; omega, by simp only; omega, by simp only; omega, by simp only; omega⟩, by simp⟩
theorem wrO_eq (ch : Nat → Bool) : ∀ (t : Doc) (B : Nat) (ind : Int) (flat : Bool) (st : St), nn t → InB st B → 0 ≤ ind ∧ ind ≤ B → B + wt t ≤ 1000000000000 → st.out.length + lv t * (B + wt t + 1) ≤ 140737488355328 →
    wrO ch t ind flat st = some (wrP t ind flat ((groupsI t).map ch) st) ∧ InB (wrP t ind flat ((groupsI t).map ch) st) (B + wt t) ∧
      (wrP t ind flat ((groupsI t).map ch) st).out.length ≤ st.out.length + lv t * (B + wt t + 1)
  | .text s, B, ind, flat, st, hn, hb, hi, hw, hl => by
    simp only [lv, wt] at hl ⊢
    obtain ⟨h1, h2, h3⟩ := addO_eq (s := s.data.toList) hb (by omega)
    exact ⟨h1, h2, by show (addT st s.data.toList).out.length ≤ _; omega⟩
  | .line s, B, ind, flat, st, hn, hb, hi, hw, hl => by
    simp only [lv, wt] at hl ⊢
    cases flat with
    | true =>
      obtain ⟨h1, h2, h3⟩ := addO_eq (s := s.data.toList) hb (by omega)
      exact ⟨h1, h2, by show (addT st s.data.toList).out.length ≤ _; omega⟩
    | false =>
      obtain ⟨h1, h2, h3⟩ := feedO_eq (ind := ind) hb hi (by omega)
      refine ⟨h1, ?_, by show (feedT st ind).out.length ≤ _; omega⟩
      show InB (feedT st ind) _
      obtain ⟨a1, a2, a3, a4⟩ := h2
      exact ⟨a1, by omega, a3, by omega⟩
  | .hard, B, ind, flat, st, hn, hb, hi, hw, hl => by
    simp only [lv, wt] at hl ⊢
    obtain ⟨h1, h2, h3⟩ := feedO_eq (st := { st with wrong := st.wrong || flat }) (ind := ind) hb hi (by show st.out.length + 1 ≤ _; omega)
    refine ⟨h1, ?_, by show (feedT { st with wrong := st.wrong || flat } ind).out.length ≤ _; have : ({ st with wrong := st.wrong || flat } : St).out = st.out := rfl; rw [this] at h3; omega⟩
    exact h2
  | .seq a b, B, ind, flat, st, hn, hb, hi, hw, hl => by
    simp only [lv, wt] at hl hw ⊢
    have e1 : lv a * (B + (wt a + wt b) + 1) = lv a * (B + wt a + 1) + lv a * wt b := by rw [← Nat.mul_add]; congr 1; omega
    have e2 : (lv a + lv b) * (B + (wt a + wt b) + 1) = lv a * (B + (wt a + wt b) + 1) + lv b * (B + (wt a + wt b) + 1) := Nat.add_mul ..
    rw [e2] at hl ⊢
    rw [e1] at hl ⊢
    obtain ⟨h1, h2, h3⟩ := wrO_eq ch a B ind flat st hn.1 hb hi (by omega) (by omega)
    have e3 : B + wt a + wt b + 1 = B + (wt a + wt b) + 1 := by omega
    obtain ⟨g1, g2, g3⟩ := wrO_eq ch b (B + wt a) ind flat _ hn.2 h2 ⟨by omega, by omega⟩ (by omega) (by rw [e3]; omega)
    rw [e3] at g3
    have et : ((groupsI (.seq a b)).map ch).take (ng a) = (groupsI a).map ch := by rw [← ng_eq a]; simp [groupsI]
    have ed : ((groupsI (.seq a b)).map ch).drop (ng a) = (groupsI b).map ch := by rw [← ng_eq a]; simp [groupsI]
    simp only [wrO, wrP]
    rw [et, ed, h1, Option.bind_some]
    exact ⟨g1, by rw [← Nat.add_assoc]; exact g2, by omega⟩
  | .nest n a, B, ind, flat, st, hn, hb, hi, hw, hl => by
    simp only [lv, wt] at hl hw ⊢
    obtain ⟨a1, a2, a3, a4⟩ := hb
    have hn1 := hn.1
    have := wrO_eq ch a (B + n.toNat) (ind + n) flat st hn.2 ⟨a1, by omega, a3, by omega⟩ ⟨by omega, by omega⟩ (by omega) (by rw [Nat.add_assoc B]; exact hl)
    rw [Nat.add_assoc B] at this
    simp only [wrO, wrP]
    rw [if_pos ⟨by omega, by omega⟩]
    exact this
  | .align a, B, ind, flat, st, hn, hb, hi, hw, hl => by
    simp only [lv, wt] at hl hw ⊢
    simp only [wrO, wrP]
    refine wrO_eq ch a B _ flat st hn hb ?_ hw hl
    obtain ⟨a1, a2, a3, a4⟩ := hb
    split
    · exact ⟨a3, a4⟩
    · exact ⟨a1, a2⟩
  | .group i a, B, ind, flat, st, hn, hb, hi, hw, hl => by
    simp only [lv, wt] at hl hw ⊢
    simp only [wrO, wrP, groupsI, List.map_cons, List.headD_cons, List.tail_cons]
    exact wrO_eq ch a B ind (flat || ch i) st hn hb hi hw hl
def gh : Doc → List Bool
  | .text _ | .line _ | .hard => []
  | .seq a b => gh a ++ gh b
  | .nest _ a | .align a => gh a
  | .group _ a => hardT a :: gh a
theorem gh_length : ∀ t : Doc, (gh t).length = ng t
  | .text _ | .line _ | .hard => rfl
  | .seq a b => by simp [gh, ng, gh_length a, gh_length b]
  | .nest _ a | .align a => by simp [gh, ng, gh_length a]
  | .group _ a => by simp [gh, ng, gh_length a]
def chz : List Bool → List Bool → List Bool
  | [], _ => []
  | h :: t, fl => (fl.headD false && !h) :: chz t fl.tail
theorem chz_length : ∀ (g fl : List Bool), (chz g fl).length = g.length
  | [], _ => rfl
  | h :: t, fl => by simp [chz, chz_length t fl.tail]
theorem chz_append : ∀ (g h fl : List Bool), chz (g ++ h) fl = chz g fl ++ chz h (fl.drop g.length)
  | [], h, fl => by simp [chz]
  | x :: g, h, fl => by simp [chz, chz_append g h fl.tail]
theorem choiceGo_chz (l : List S42) (fl : List Bool) : ∀ (gs : List Nat) (j : Nat), choiceGo l fl gs j = chz (gs.map fun g => hardT (tree l g)) (fl.drop j)
  | [], _ => rfl
  | g :: t, j => by
    rw [choiceGo, choiceGo_chz l fl t (j + 1), List.map_cons, chz]
    congr 1
    · simp [List.headD_eq_head?_getD, List.head?_drop, List.getD]
    · rw [List.tail_drop]
theorem gh_tree {l : List S42} (hv : nodesOk l) : ∀ i, i < l.length → (groupsI (tree l i)).map (fun g => hardT (tree l g)) = gh (tree l i) := by
  intro i
  induction i using Nat.strongRecOn with
  | _ i ih =>
    intro hi
    have h := hv i hi
    have hkd := h.kind
    rcases (show (l.getD i z42).f0 = 0 ∨ (l.getD i z42).f0 = 1 ∨ (l.getD i z42).f0 = 2 ∨ (l.getD i z42).f0 = 3 ∨ (l.getD i z42).f0 = 4 ∨ (l.getD i z42).f0 = 5 ∨ (l.getD i z42).f0 = 6 by omega) with h4 | h4 | h4 | h4 | h4 | h4 | h4
    · rw [tree_text h4]; rfl
    · rw [tree_line h4]; rfl
    · rw [tree_hard h4]; rfl
    · have ha := h.a (by omega)
      have hb := h.b h4
      rw [tree_seq hv hi h4]
      simp only [groupsI, List.map_append, gh]
      rw [ih _ (by omega) (by omega), ih _ (by omega) (by omega)]
    · have ha := h.a (by omega)
      rw [tree_nest hv hi h4]
      simp only [groupsI, gh]
      exact ih _ (by omega) (by omega)
    · have ha := h.a (by omega)
      rw [tree_align hv hi h4]
      simp only [groupsI, gh]
      exact ih _ (by omega) (by omega)
    · have ha := h.a (by omega)
      rw [tree_group hv hi h4]
      simp only [groupsI, gh, List.map_cons]
      rw [ih _ (by omega) (by omega), tree_group hv hi h4]
      rfl
/-- The tree without the groups' numbers. -/
def er : Doc → Doc
  | .text s => .text s
  | .line s => .line s
  | .hard => .hard
  | .seq a b => .seq (er a) (er b)
  | .nest n a => .nest n (er a)
  | .align a => .align (er a)
  | .group _ a => .group 0 (er a)
theorem er_ng : ∀ t, ng (er t) = ng t
  | .text _ | .line _ | .hard => rfl
  | .seq a b => by simp [er, ng, er_ng a, er_ng b]
  | .nest _ a | .align a | .group _ a => by simp [er, ng, er_ng a]
theorem er_hard : ∀ t, hardT (er t) = hardT t
  | .text _ | .line _ | .hard => rfl
  | .seq a b => by simp [er, hardT, er_hard a, er_hard b]
  | .nest _ a | .align a | .group _ a => by simp [er, hardT, er_hard a]
theorem er_gh : ∀ t, gh (er t) = gh t
  | .text _ | .line _ | .hard => rfl
  | .seq a b => by simp [er, gh, er_gh a, er_gh b]
  | .nest _ a | .align a => by simp [er, gh, er_gh a]
  | .group _ a => by simp [er, gh, er_gh a, er_hard a]
theorem er_wrP : ∀ t ind flat fl st, wrP (er t) ind flat fl st = wrP t ind flat fl st
  | .text _, _, _, _, _ | .line _, _, _, _, _ | .hard, _, _, _, _ => rfl
  | .seq a b, ind, flat, fl, st => by simp only [er, wrP]; rw [er_ng, er_wrP a, er_wrP b]
  | .nest n a, ind, flat, fl, st => by simp only [er, wrP]; rw [er_wrP a]
  | .align a, ind, flat, fl, st => by simp only [er, wrP]; rw [er_wrP a]
  | .group _ a, ind, flat, fl, st => by simp only [er, wrP]; rw [er_wrP a]
theorem er_wt : ∀ t, wt (er t) = wt t
  | .text _ | .line _ | .hard => rfl
  | .seq a b => by simp [er, wt, er_wt a, er_wt b]
  | .nest _ a | .align a | .group _ a => by simp [er, wt, er_wt a]
theorem er_lv : ∀ t, lv (er t) = lv t
  | .text _ | .line _ | .hard => rfl
  | .seq a b => by simp [er, lv, er_lv a, er_lv b]
  | .nest _ a | .align a | .group _ a => by simp [er, lv, er_lv a]
def E (l : List S42) : Doc := er (rootT l)
theorem nn_tree {l : List S42} (hv : nodesOk l) : ∀ i, i < l.length → nn (tree l i) := by
  intro i
  induction i using Nat.strongRecOn with
  | _ i ih =>
    intro hi
    have h := hv i hi
    have hkd := h.kind
    rcases (show (l.getD i z42).f0 = 0 ∨ (l.getD i z42).f0 = 1 ∨ (l.getD i z42).f0 = 2 ∨ (l.getD i z42).f0 = 3 ∨ (l.getD i z42).f0 = 4 ∨ (l.getD i z42).f0 = 5 ∨ (l.getD i z42).f0 = 6 by omega) with h4 | h4 | h4 | h4 | h4 | h4 | h4
    · rw [tree_text h4]; trivial
    · rw [tree_line h4]; trivial
    · rw [tree_hard h4]; trivial
    · have ha := h.a (by omega)
      have hb := h.b h4
      rw [tree_seq hv hi h4]
      exact ⟨ih _ (by omega) (by omega), ih _ (by omega) (by omega)⟩
    · have ha := h.a (by omega)
      rw [tree_nest hv hi h4]
      exact ⟨h.n.1, ih _ (by omega) (by omega)⟩
    · have ha := h.a (by omega)
      rw [tree_align hv hi h4]
      exact ih _ (by omega) (by omega)
    · have ha := h.a (by omega)
      rw [tree_group hv hi h4]
      exact ih _ (by omega) (by omega)
theorem chOf_zip : ∀ (gs : List Nat) (fl : List Bool), gs.Nodup → gs.length = fl.length → gs.map (chOf (gs.zip fl)) = fl
  | [], [], _, _ => rfl
  | [], _ :: _, _, h => by simp at h
  | _ :: _, [], _, h => by simp at h
  | g :: gs, f :: fl, hn, h => by
    obtain ⟨hn1, hn2⟩ := List.nodup_cons.1 hn
    have ih := chOf_zip gs fl hn2 (by simpa using h)
    simp only [List.zip_cons_cons, List.map_cons, chOf, if_true]
    congr 1
    have : gs.map (chOf ((g, f) :: gs.zip fl)) = gs.map (chOf (gs.zip fl)) := by
      apply List.map_congr_left
      intro a ha
      simp only [chOf]
      rw [if_neg (fun e => hn1 (by rw [e]; exact ha))]
    simp only [chOf] at this
    rw [this, ih]
end Go.Proofs.Ythmmdmnbcecooaa.A
end

section
namespace Go.Proofs.Ythmmdmnbcecooaa.A
open Go.RowKit Go.Proofs.YthmmdmnbcecooaaW.PrintWords Go.Proofs.YthmmdmnbcecooaaW.PrintLast Go.Proofs.YthmmdmnbcecooaaW.PrintMore
attribute [local go_sem] max2_int max_two
set_option linter.unusedVariables false
set_option linter.unusedSimpArgs false
/-- The bytes beyond the width that a place stands for. -/
def cst (wd : Int) (p : Pl) : Int := mx 0 ((if p.wr then p.col else 0) - wd)
def wpl (p : Pl) (s : List UInt8) : Pl := if s = [] then p else ⟨p.col + s.length, true⟩
theorem writeP_eq (wd : Int) (p : Pl) (s : List UInt8) : writeP wd p s = (wpl p s, cst wd (wpl p s) - cst wd p) := by
  unfold writeP wpl
  split
  · rw [Int.sub_self]
  · rfl
/-- The place behind a tree that is flat. -/
def fpl : Doc → Pl → Pl
  | .text s, p | .line s, p => wpl p s.data.toList
  | .hard, p => p
  | .seq a b, p => fpl b (fpl a p)
  | .nest _ a, p | .align a, p | .group _ a, p => fpl a p
theorem wpl_bd (p : Pl) (s : List UInt8) : p.col ≤ (wpl p s).col ∧ (wpl p s).col ≤ p.col + s.length := by
  unfold wpl; split
  · simp; omega
  · simp only; omega
theorem fpl_bd : ∀ (t : Doc) (p : Pl), p.col ≤ (fpl t p).col ∧ (fpl t p).col ≤ p.col + wt t
  | .text s, p => wpl_bd p _
  | .line s, p => wpl_bd p _
  | .hard, p => by simp only [fpl, wt]; omega
  | .seq a b, p => by
    have h1 := fpl_bd a p
    have h2 := fpl_bd b (fpl a p)
    simp only [fpl, wt]; omega
  | .nest n a, p => by have := fpl_bd a p; simp only [fpl, wt]; omega
  | .align a, p => fpl_bd a p
  | .group _ a, p => fpl_bd a p
theorem cst_bd {wd : Int} (hw : 0 ≤ wd) (p : Pl) (hp : 0 ≤ p.col) : 0 ≤ cst wd p ∧ cst wd p ≤ p.col := by
  unfold cst mx
  split <;> split <;> omega
theorem below_alloc4 (w : World) (o o' o2 o3 : Obj) : Below w.heap.size w ((((w.alloc o).alloc o').alloc o2).alloc o3) := below_alloc (below_alloc3 w o o' o2) o3
theorem alloc4_at1 (w : World) (a b c d : Obj) : ((((w.alloc a).alloc b).alloc c).alloc d).heap[w.heap.size + 1]? = some b :=
  ((below_alloc (Below.refl (((w.alloc a).alloc b).alloc c).heap.size (((w.alloc a).alloc b).alloc c)) d).block (w.heap.size + 1) (by simp only [alloc_sz]; omega)).trans (alloc_at1 w a b c)
theorem alloc4_at2 (w : World) (a b c d : Obj) : ((((w.alloc a).alloc b).alloc c).alloc d).heap[w.heap.size + 1 + 1]? = some c :=
  ((below_alloc (Below.refl (((w.alloc a).alloc b).alloc c).heap.size (((w.alloc a).alloc b).alloc c)) d).block (w.heap.size + 1 + 1) (by simp only [alloc_sz]; omega)).trans (alloc_at2 w a b c)
theorem alloc4_at3 (w : World) (a b c d : Obj) : ((((w.alloc a).alloc b).alloc c).alloc d).heap[w.heap.size + 1 + 1 + 1]? = some d := by
  have h := heap_alloc_new (((w.alloc a).alloc b).alloc c) d
  simp only [alloc_sz] at h
  exact h
/-- What never changes while best runs: the layouter's cells, the nodes, the tables of groups and hard breaks; gm: the memo's block. -/
structure LSt (w0 : World) (g gm : Nat) (l : List S42) (wd : Int) (gz : List Int) (hd : List Bool) : Prop where
  ex : ∃ A0 c0 A2 c2 A3 c3, w0.heap[g]? = some (.cells #[.slice A0 l.length c0, .int .i64 wd, .slice A2 gz.length c2, .slice A3 hd.length c3, .map (some gm)] 123 (0, 0)) ∧ Kd.C k42 w0 A0 l.length l ∧ Kd.C (Kd.int .i64) w0 A2 gz.length gz ∧ Kd.C Kd.bool w0 A3 hd.length hd
  memo : ∃ es c, w0.heap[gm]? = some (.map es c)
theorem Only.cell {gm : Nat} {w0 W : World} (h : Only (· = gm) w0 W) (hm : ∃ es c, w0.heap[gm]? = some (.map es c)) {a : Addr} {v : Value} (hc : w0.cell? a = some v) : W.cell? a = some v := by
  have hlt := World.block_lt_of_cell? w0 a hc
  have hne : a.block ≠ gm := by
    intro e
    obtain ⟨es, c, he⟩ := hm
    unfold World.cell? at hc
    rw [e, he] at hc
    cases hc
  have := h.block a.block hlt hne
  unfold World.cell? at hc ⊢
  rw [this]
  exact hc
section
variable {w0 W : World} {g gm : Nat} {l : List S42} {wd : Int} {gz : List Int} {hd : List Bool}
theorem LSt.cells (h : LSt w0 g gm l wd gz hd) (ho : Only (· = gm) w0 W) : ∃ A0 c0 A2 c2 A3 c3, W.cell? ⟨g, 0, none⟩ = some (.slice A0 l.length c0) ∧ W.cell? ⟨g, 1, none⟩ = some (.int .i64 wd) ∧ W.cell? ⟨g, 2, none⟩ = some (.slice A2 gz.length c2) ∧ W.cell? ⟨g, 3, none⟩ = some (.slice A3 hd.length c3) ∧ W.cell? ⟨g, 4, none⟩ = some (.map (some gm)) ∧
    (∀ i, i < l.length → ∀ k s n a b, l.getD i z42 = ⟨k, s, n, a, b⟩ → ∃ ad, A0 = some ad ∧ W.cell? (ad.add (i * 5)) = some (.int .i64 k) ∧ W.cell? ⟨(ad.add (i * 5)).block, (ad.add (i * 5)).off + 1, none⟩ = some (.string s) ∧ W.cell? ⟨(ad.add (i * 5)).block, (ad.add (i * 5)).off + 2, none⟩ = some (.int .i64 n) ∧ W.cell? ⟨(ad.add (i * 5)).block, (ad.add (i * 5)).off + 3, none⟩ = some (.int .i64 a) ∧ W.cell? ⟨(ad.add (i * 5)).block, (ad.add (i * 5)).off + 4, none⟩ = some (.int .i64 b)) ∧
    (∀ i, i < gz.length → ∃ ad, A2 = some ad ∧ W.cell? (ad.add i) = some (.int .i64 (gz.getD i 0))) ∧ (∀ i, i < hd.length → ∃ ad, A3 = some ad ∧ W.cell? (ad.add i) = some (.bool (hd.getD i false))) := by
  obtain ⟨A0, c0, A2, c2, A3, c3, hb, h0, h2, h3⟩ := h.ex
  have up : ∀ {a : Addr} {v : Value}, w0.cell? a = some v → W.cell? a = some v := fun hc => ho.cell h.memo hc
  refine ⟨A0, c0, A2, c2, A3, c3, up ((blk_cell hb 0).trans rfl), up ((blk_cell hb 1).trans rfl), up ((blk_cell hb 2).trans rfl), up ((blk_cell hb 3).trans rfl), up ((blk_cell hb 4).trans rfl), fun i hi k s n a b hx => ?_, fun i hi => ?_, fun i hi => ?_⟩
  · obtain ⟨ad, e, g0, g1, g2, g3, g4⟩ := at_T42 h0 i (by omega) (by omega)
    rw [rd42_nat, Int.toNat_natCast, hx] at g0 g1 g2 g3 g4
    exact ⟨ad, e, up g0, up g1, up g2, up g3, up g4⟩
  · obtain ⟨ad, e, hc⟩ := Kd.at_int h2 i (by omega) (by omega)
    rw [Int.toNat_natCast] at hc
    exact ⟨ad, e, up (by rw [hc]; simp [rd])⟩
  · obtain ⟨ad, e, hc⟩ := Kd.at_bool h3 i (by omega) (by omega)
    rw [Int.toNat_natCast] at hc
    exact ⟨ad, e, up (by rw [hc]; simp [rdOf])⟩
end
theorem blk_put2 {W : World} {g h j : Nat} {cs : Array Value} {t : TypeId} {v : Value} (hb : W.heap[g]? = some (.cells cs t (0, 0))) (hne : g ≠ h) : (W.setCell ⟨h, j, none⟩ v).heap[g]? = some (.cells cs t (0, 0)) := blk_far hb hne v
/-- The end of flat behind a call: two results stored into the second and third block. -/
theorem fl_end {f : Func} (h : f.results = #[.cell 6 128, .cell 7 36]) {tmps : Array Value} {w W1 : World} {x0 x1 y0 y1 : Value} (hb1 : W1.heap[w.heap.size + 1]? = some (.cells #[x0, x1] 128 (0, 0))) (hb2 : W1.heap[w.heap.size + 1 + 1]? = some (.cells #[y0, y1] 36 (0, 0))) (hB : Below w.heap.size w W1) {qc b : Int} {qw : Bool}
    (h6 : tmps.getD 6 undef = .pointer (some ⟨w.heap.size + 1, 0, none⟩)) (h7 : tmps.getD 7 undef = .pointer (some ⟨w.heap.size + 1 + 1, 0, none⟩)) {q' : Pl} {b' : Int} (hq : q' = ⟨qc, qw⟩) (hb : b' = b) :
    bodyPost Try.prog f (PcPost q' b' w) Exit.ret ⟨tmps, []⟩ ((((W1.setCell ⟨w.heap.size + 1, 0, none⟩ (.int .i64 qc)).setCell ⟨w.heap.size + 1, 1, none⟩ (.bool qw)).setCell ⟨w.heap.size + 1 + 1, 0, none⟩ (.int .i64 b)).setCell ⟨w.heap.size + 1 + 1, 1, none⟩ (.int .i64 0)) := by
  subst hq hb
  have e1 := blk_put (cs := #[x0, x1]) hb1 0 (.int .i64 qc) rfl
  have e2 := blk_put (cs := #[.int .i64 qc, x1]) e1 1 (.bool qw) rfl
  have e3 := blk_put2 (h := w.heap.size + 1 + 1) (j := 1) (v := .int .i64 0) (blk_put2 (h := w.heap.size + 1 + 1) (j := 0) (v := .int .i64 b') e2 (by omega)) (by omega)
  have g0 : ((W1.setCell ⟨w.heap.size + 1, 0, none⟩ (.int .i64 qc)).setCell ⟨w.heap.size + 1, 1, none⟩ (.bool qw)).heap[w.heap.size + 1 + 1]? = some (.cells #[y0, y1] 36 (0, 0)) :=
    blk_put2 (h := w.heap.size + 1) (blk_put2 (h := w.heap.size + 1) hb2 (by omega)) (by omega)
  have g1 := blk_put (cs := #[y0, y1]) g0 0 (.int .i64 b') rfl
  have g2 := blk_put (cs := #[.int .i64 b', y1]) g1 1 (.int .i64 0) rfl
  refine bodyPost_ret (results_two h tmps Try.prog _ _ _ 128 36 _ _ _ _ _ _ h6 e3 h7 g2 Try.underlying128 ?_ Try.underlying36 ?_) rfl ⟨rfl, ?_⟩
  · exact info128
  · exact info36
  · exact below_set (below_set (below_set (below_set hB (by omega)) (by omega)) (by omega)) (by omega)
def FlatAt (w0 : World) (g gm : Nat) (l : List S42) (wd : Int) (i : Nat) : Prop :=
  ∀ (W : World) (p : Pl), Only (· = gm) w0 W → 0 ≤ p.col → p.col + wt (tree l i) ≤ 1000000000000000 →
    Calls Try.prog 83 #[.pointer (some ⟨g, 0, none⟩), .int .i64 i, plV p] W (PcPost (fpl (tree l i) p) (cst wd (fpl (tree l i) p) - cst wd p) W)
set_option maxHeartbeats 1000000 in
set_option maxRecDepth 100000 in
theorem flat_leaf (w0 W : World) (g gm : Nat) (l : List S42) (wd : Int) (gz : List Int) (hd : List Bool) (hw : 0 ≤ wd ∧ wd ≤ 1000) (h : LSt w0 g gm l wd gz hd) (ho : Only (· = gm) w0 W) (i : Nat) (hi : i < l.length) (hk : (l.getD i z42).f0 = 0 ∨ (l.getD i z42).f0 = 1) (p : Pl) (hp : 0 ≤ p.col) (hb : p.col + (l.getD i z42).f1.size ≤ 1000000000000000) :
    Calls Try.prog 83 #[.pointer (some ⟨g, 0, none⟩), .int .i64 i, plV p] W (PcPost (wpl p (l.getD i z42).f1.data.toList) (cst wd (wpl p (l.getD i z42).f1.data.toList) - cst wd p) W) := by
  have hu42 := Try.underlying42
  obtain ⟨k, s, n, a, b, hx⟩ : ∃ k s n a b, l.getD i z42 = ⟨k, s, n, a, b⟩ := ⟨_, _, _, _, _, rfl⟩
  obtain ⟨A0, c0, A2, c2, A3, c3, m0, m1, m2, m3, m4, hN, _, _⟩ := h.cells ho
  obtain ⟨ad, rfl, k0, k1, k2, k3, k4⟩ := hN i hi k s n a b hx
  rw [hx] at hk hb ⊢
  simp only at hk hb ⊢
  obtain ⟨pc, pw⟩ := p
  have hlt : g < W.heap.size := World.block_lt_of_cell? W _ m1
  show Calls Try.prog 83 #[.pointer (some ⟨g, 0, none⟩), .int .i64 i, .agg #[.int .i64 pc, .bool pw]] W _
  have hpp := eq_true (show (0 : Int) ≤ i by omega)
  have hq := eq_true (show (i : Int) < l.length by omega)
  have HB := Aside0.mk (show pc + s.size ≤ 1000000000000000 from hb)
  have HP := Aside0.mk (show 0 ≤ pc from hp)
  have M1 := Aside0.mk (fun o1 o2 o3 o4 => pw_cell_below (below_alloc4 W o1 o2 o3 o4) m1)
  have q0 := fun o1 o2 o3 => pw_cell_below (below_alloc3 W o1 o2 o3) m0
  have r0 := fun o1 o2 o3 => pw_cell_below (below_alloc3 W o1 o2 o3) k0
  have r1 := fun o1 o2 o3 => pw_cell_below (below_alloc3 W o1 o2 o3) k1
  have r2 := fun o1 o2 o3 => pw_cell_below (below_alloc3 W o1 o2 o3) k2
  have r3 := fun o1 o2 o3 => pw_cell_below (below_alloc3 W o1 o2 o3) k3
  have r4 := fun o1 o2 o3 => pw_cell_below (below_alloc3 W o1 o2 o3) k4
  clear hx hN hb hp m0 k0 k1 k2 k3 k4 m1 m2 m3 m4
  rcases hk with rfl | rfl
  all_goals
    go_enter Try.func83, Try.ntmps83
    go_wp2_with fail
    refine (lwrite_calls g wd ⟨pc, pw⟩ s _ (M1.out _ _ _ _) hw ⟨HP.out, by have := HB.out; show pc ≤ _; omega⟩ (by have := HB.out; have := HP.out; omega)).mono ?_
    rintro e W1 ⟨he, hb1⟩
    rw [writeP_eq] at he
    obtain ⟨q, hq⟩ : ∃ q, q = wpl ⟨pc, pw⟩ s.data.toList := ⟨_, rfl⟩
    obtain ⟨x, hx⟩ : ∃ x, x = cst wd (wpl ⟨pc, pw⟩ s.data.toList) - cst wd ⟨pc, pw⟩ := ⟨_, rfl⟩
    simp only at he
    rw [← hx, ← hq] at he
    have HQ := Aside0.mk (And.intro hq hx)
    clear hq hx
    obtain ⟨qc, qw⟩ := q
    have he' : e = .returned (.tuple #[.agg #[.int .i64 qc, .bool qw], .agg #[.int .i64 x, .int .i64 0]]) := he
    subst he'
    have B1 := (hb1.block (W.heap.size + 1) (by simp only [alloc_sz]; omega)).trans (alloc4_at1 W _ _ _ _)
    have B2 := (hb1.block (W.heap.size + 1 + 1) (by simp only [alloc_sz]; omega)).trans (alloc4_at2 W _ _ _ _)
    have c10 := (blk_cell B1 0).trans rfl
    have c11 := (blk_cell B1 1).trans rfl
    have c20 := (blk_cell B2 0).trans rfl
    have c21 := (blk_cell B2 1).trans rfl
    have f10 := blk_frozen B1 0
    have f11 := blk_frozen B1 1
    have f20 := blk_frozen B2 0
    have f21 := blk_frozen B2 1
    have BB1 := Aside0.mk B1
    have BB2 := Aside0.mk B2
    have HB1 := Aside0.mk (below_then (below_alloc4 W _ _ _ _) (below_alloc4 W _ _ _ _).size hb1)
    clear he hb1 B1 B2
    go_wp2_with fail
    exact fl_end rfl BB1.out BB2.out HB1.out rfl rfl HQ.out.1.symm HQ.out.2.symm
set_option maxHeartbeats 1000000 in
set_option maxRecDepth 100000 in
theorem flat_un (w0 W : World) (g gm : Nat) (l : List S42) (wd : Int) (gz : List Int) (hd : List Bool) (h : LSt w0 g gm l wd gz hd) (ho : Only (· = gm) w0 W) (i a' : Nat) (hi : i < l.length) (hk : (l.getD i z42).f0 = 4 ∨ (l.getD i z42).f0 = 5 ∨ (l.getD i z42).f0 = 6) (ha' : (l.getD i z42).f3 = (a' : Int)) (ih : FlatAt w0 g gm l wd a') (p : Pl) (hp : 0 ≤ p.col) (hb : p.col + wt (tree l a') ≤ 1000000000000000) :
    Calls Try.prog 83 #[.pointer (some ⟨g, 0, none⟩), .int .i64 i, plV p] W (PcPost (fpl (tree l a') p) (cst wd (fpl (tree l a') p) - cst wd p) W) := by
  have hu42 := Try.underlying42
  obtain ⟨k, s, n, a, b, hx⟩ : ∃ k s n a b, l.getD i z42 = ⟨k, s, n, a, b⟩ := ⟨_, _, _, _, _, rfl⟩
  obtain ⟨A0, c0, A2, c2, A3, c3, m0, m1, m2, m3, m4, hN, _, _⟩ := h.cells ho
  obtain ⟨ad, rfl, k0, k1, k2, k3, k4⟩ := hN i hi k s n a b hx
  rw [hx] at hk ha'
  simp only at hk ha'
  subst ha'
  obtain ⟨pc, pw⟩ := p
  have hlt : g < W.heap.size := World.block_lt_of_cell? W _ m1
  show Calls Try.prog 83 #[.pointer (some ⟨g, 0, none⟩), .int .i64 i, .agg #[.int .i64 pc, .bool pw]] W _
  have hpp := eq_true (show (0 : Int) ≤ i by omega)
  have hq := eq_true (show (i : Int) < l.length by omega)
  have HB := Aside0.mk hb
  have HP := Aside0.mk hp
  have HI := Aside0.mk ih
  have HO := Aside0.mk ho
  have q0 := fun o1 o2 o3 => pw_cell_below (below_alloc3 W o1 o2 o3) m0
  have r0 := fun o1 o2 o3 => pw_cell_below (below_alloc3 W o1 o2 o3) k0
  have r1 := fun o1 o2 o3 => pw_cell_below (below_alloc3 W o1 o2 o3) k1
  have r2 := fun o1 o2 o3 => pw_cell_below (below_alloc3 W o1 o2 o3) k2
  have r3 := fun o1 o2 o3 => pw_cell_below (below_alloc3 W o1 o2 o3) k3
  have r4 := fun o1 o2 o3 => pw_cell_below (below_alloc3 W o1 o2 o3) k4
  clear hx hN hb hp m0 k0 k1 k2 k3 k4 m1 m2 m3 m4 ih ho
  rcases hk with rfl | rfl | rfl
  all_goals
    go_enter Try.func83, Try.ntmps83
    go_wp2_with fail
    refine (HI.out _ ⟨pc, pw⟩ ((((HO.out.alloc _).alloc _).alloc _).alloc _) HP.out HB.out).mono ?_
    rintro e W1 ⟨he, hb1⟩
    obtain ⟨q, hq⟩ : ∃ q, q = fpl (tree l a') ⟨pc, pw⟩ := ⟨_, rfl⟩
    obtain ⟨x, hx⟩ : ∃ x, x = cst wd (fpl (tree l a') ⟨pc, pw⟩) - cst wd ⟨pc, pw⟩ := ⟨_, rfl⟩
    rw [← hx, ← hq] at he
    have HQ := Aside0.mk (And.intro hq hx)
    clear hq hx
    obtain ⟨qc, qw⟩ := q
    have he' : e = .returned (.tuple #[.agg #[.int .i64 qc, .bool qw], .agg #[.int .i64 x, .int .i64 0]]) := he
    subst he'
    have B1 := (hb1.block (W.heap.size + 1) (by simp only [alloc_sz]; omega)).trans (alloc4_at1 W _ _ _ _)
    have B2 := (hb1.block (W.heap.size + 1 + 1) (by simp only [alloc_sz]; omega)).trans (alloc4_at2 W _ _ _ _)
    have c10 := (blk_cell B1 0).trans rfl
    have c11 := (blk_cell B1 1).trans rfl
    have c20 := (blk_cell B2 0).trans rfl
    have c21 := (blk_cell B2 1).trans rfl
    have f10 := blk_frozen B1 0
    have f11 := blk_frozen B1 1
    have f20 := blk_frozen B2 0
    have f21 := blk_frozen B2 1
    have BB1 := Aside0.mk B1
    have BB2 := Aside0.mk B2
    have HB1 := Aside0.mk (below_then (below_alloc4 W _ _ _ _) (below_alloc4 W _ _ _ _).size hb1)
    clear he hb1 B1 B2
    go_wp2_with fail
    exact fl_end rfl BB1.out BB2.out HB1.out rfl rfl HQ.out.1.symm HQ.out.2.symm
/-- The end of flat at a hard line break. -/
theorem pc_end4 {f : Func} (h : f.results = #[.cell 6 128, .cell 7 36]) {tmps : Array Value} {w W : World} {a d : Obj} {b : Int} {col : Int} {wr : Bool}
    (hW : W = (((w.alloc a).alloc (.cells #[.int .i64 col, .bool wr] 128)).alloc (.cells #[.int .i64 b, .int .i64 0] 36)).alloc d)
    (h6 : tmps.getD 6 undef = .pointer (some ⟨w.heap.size + 1, 0, none⟩)) (h7 : tmps.getD 7 undef = .pointer (some ⟨w.heap.size + 1 + 1, 0, none⟩)) {q' : Pl} {b' : Int} (hq : q' = ⟨col, wr⟩) (hb : b' = b) :
    bodyPost Try.prog f (PcPost q' b' w) Exit.ret ⟨tmps, []⟩ W := by
  subst hq hb hW
  refine bodyPost_ret (results_two h tmps Try.prog _ _ _ 128 36 _ _ _ _ _ _ h6 (alloc4_at1 w _ _ _ _) h7 (alloc4_at2 w _ _ _ _) Try.underlying128 ?_ Try.underlying36 ?_) rfl ⟨rfl, below_alloc4 w _ _ _ _⟩
  · exact info128
  · exact info36
set_option maxHeartbeats 1000000 in
set_option maxRecDepth 100000 in
theorem flat_hrd (w0 W : World) (g gm : Nat) (l : List S42) (wd : Int) (gz : List Int) (hd : List Bool) (h : LSt w0 g gm l wd gz hd) (ho : Only (· = gm) w0 W) (i : Nat) (hi : i < l.length) (hk : (l.getD i z42).f0 = 2) (p : Pl) :
    Calls Try.prog 83 #[.pointer (some ⟨g, 0, none⟩), .int .i64 i, plV p] W (PcPost p (cst wd p - cst wd p) W) := by
  have hu42 := Try.underlying42
  obtain ⟨k, s, n, a, b, hx⟩ : ∃ k s n a b, l.getD i z42 = ⟨k, s, n, a, b⟩ := ⟨_, _, _, _, _, rfl⟩
  obtain ⟨A0, c0, A2, c2, A3, c3, m0, m1, m2, m3, m4, hN, _, _⟩ := h.cells ho
  obtain ⟨ad, rfl, k0, k1, k2, k3, k4⟩ := hN i hi k s n a b hx
  rw [hx] at hk
  simp only at hk
  subst hk
  obtain ⟨pc, pw⟩ := p
  have hlt : g < W.heap.size := World.block_lt_of_cell? W _ m1
  show Calls Try.prog 83 #[.pointer (some ⟨g, 0, none⟩), .int .i64 i, .agg #[.int .i64 pc, .bool pw]] W _
  have hpp := eq_true (show (0 : Int) ≤ i by omega)
  have hq := eq_true (show (i : Int) < l.length by omega)
  have q0 := fun o1 o2 o3 => pw_cell_below (below_alloc3 W o1 o2 o3) m0
  have r0 := fun o1 o2 o3 => pw_cell_below (below_alloc3 W o1 o2 o3) k0
  have r1 := fun o1 o2 o3 => pw_cell_below (below_alloc3 W o1 o2 o3) k1
  have r2 := fun o1 o2 o3 => pw_cell_below (below_alloc3 W o1 o2 o3) k2
  have r3 := fun o1 o2 o3 => pw_cell_below (below_alloc3 W o1 o2 o3) k3
  have r4 := fun o1 o2 o3 => pw_cell_below (below_alloc3 W o1 o2 o3) k4
  clear hx hN m0 k0 k1 k2 k3 k4 m1 m2 m3 m4 ho
  go_enter Try.func83, Try.ntmps83
  go_wp2_with fail
  exact pc_end4 rfl rfl rfl rfl rfl (Int.sub_self _)
end Go.Proofs.Ythmmdmnbcecooaa.A
end

section
namespace Go.Proofs.Ythmmdmnbcecooaa.A
open Go.RowKit Go.Proofs.YthmmdmnbcecooaaW.PrintWords Go.Proofs.YthmmdmnbcecooaaW.PrintLast Go.Proofs.YthmmdmnbcecooaaW.PrintMore
attribute [local go_sem] max2_int max_two
set_option linter.unusedVariables false
set_option linter.unusedSimpArgs false
set_option maxHeartbeats 2000000 in
set_option maxRecDepth 100000 in
theorem flat_seq (w0 W : World) (g gm : Nat) (l : List S42) (wd : Int) (gz : List Int) (hd : List Bool) (hw : 0 ≤ wd) (h : LSt w0 g gm l wd gz hd) (ho : Only (· = gm) w0 W) (i a' b' : Nat) (hi : i < l.length) (hk : (l.getD i z42).f0 = 3) (ha' : (l.getD i z42).f3 = (a' : Int)) (hb' : (l.getD i z42).f4 = (b' : Int)) (ih : FlatAt w0 g gm l wd a') (ih2 : FlatAt w0 g gm l wd b') (p : Pl) (hp : 0 ≤ p.col) (hb : p.col + (wt (tree l a') + wt (tree l b')) ≤ 1000000000000000) :
    Calls Try.prog 83 #[.pointer (some ⟨g, 0, none⟩), .int .i64 i, plV p] W (PcPost (fpl (tree l b') (fpl (tree l a') p)) (cst wd (fpl (tree l b') (fpl (tree l a') p)) - cst wd p) W) := by
  have hu42 := Try.underlying42
  obtain ⟨k, s, n, a, b, hx⟩ : ∃ k s n a b, l.getD i z42 = ⟨k, s, n, a, b⟩ := ⟨_, _, _, _, _, rfl⟩
  obtain ⟨A0, c0, A2, c2, A3, c3, m0, m1, m2, m3, m4, hN, _, _⟩ := h.cells ho
  obtain ⟨ad, rfl, k0, k1, k2, k3, k4⟩ := hN i hi k s n a b hx
  rw [hx] at hk ha' hb'
  simp only at hk ha' hb'
  subst hk ha' hb'
  have bd1 := fpl_bd (tree l a') p
  have bd2 := fpl_bd (tree l b') (fpl (tree l a') p)
  have cb0 := cst_bd hw p hp
  have cb1 := cst_bd hw (fpl (tree l a') p) (by omega)
  have cb2 := cst_bd hw (fpl (tree l b') (fpl (tree l a') p)) (by omega)
  obtain ⟨q, hq⟩ : ∃ q, q = fpl (tree l a') p := ⟨_, rfl⟩
  obtain ⟨x, hxx⟩ : ∃ x, x = cst wd (fpl (tree l a') p) - cst wd p := ⟨_, rfl⟩
  obtain ⟨q2, hq2⟩ : ∃ q2, q2 = fpl (tree l b') (fpl (tree l a') p) := ⟨_, rfl⟩
  obtain ⟨y, hy⟩ : ∃ y, y = cst wd (fpl (tree l b') (fpl (tree l a') p)) - cst wd (fpl (tree l a') p) := ⟨_, rfl⟩
  have x1 : -1000000000000000 ≤ x := by omega
  have x2 : x ≤ 1000000000000000 := by omega
  have y1 : -1000000000000000 ≤ y := by omega
  have y2 : y ≤ 1000000000000000 := by omega
  have HSUM := Aside0.mk (show cst wd q2 - cst wd p = x + y by rw [hq2, hxx, hy]; omega)
  have I1 := ih
  have I2 := ih2
  have HQB := Aside0.mk (show 0 ≤ q.col ∧ q.col + wt (tree l b') ≤ 1000000000000000 by rw [hq]; omega)
  have HE1 := Aside0.mk (And.intro hq hxx)
  have HE2 := Aside0.mk (show q2 = fpl (tree l b') q ∧ y = cst wd (fpl (tree l b') q) - cst wd q by rw [hq]; exact ⟨hq2, hy⟩)
  have HE3 := Aside0.mk hq2
  clear hq hxx hq2 hy bd1 bd2 cb0 cb1 cb2
  obtain ⟨pc, pw⟩ := p
  have hlt : g < W.heap.size := World.block_lt_of_cell? W _ m1
  show Calls Try.prog 83 #[.pointer (some ⟨g, 0, none⟩), .int .i64 i, .agg #[.int .i64 pc, .bool pw]] W _
  have hpp := eq_true (show (0 : Int) ≤ i by omega)
  have hqi := eq_true (show (i : Int) < l.length by omega)
  have HB := Aside0.mk (show pc + wt (tree l a') ≤ 1000000000000000 by simp only at hb; omega)
  have HP := Aside0.mk hp
  have HI := Aside0.mk ih
  have HI2 := Aside0.mk ih2
  have HO := Aside0.mk ho
  have q0 := fun o1 o2 o3 => pw_cell_below (below_alloc3 W o1 o2 o3) m0
  have r0 := fun o1 o2 o3 => pw_cell_below (below_alloc3 W o1 o2 o3) k0
  have r1 := fun o1 o2 o3 => pw_cell_below (below_alloc3 W o1 o2 o3) k1
  have r2 := fun o1 o2 o3 => pw_cell_below (below_alloc3 W o1 o2 o3) k2
  have r3 := fun o1 o2 o3 => pw_cell_below (below_alloc3 W o1 o2 o3) k3
  have r4 := fun o1 o2 o3 => pw_cell_below (below_alloc3 W o1 o2 o3) k4
  clear hx hN hb hp m0 k0 k1 k2 k3 k4 m1 m2 m3 m4 ih ih2 ho I1 I2
  go_enter Try.func83, Try.ntmps83
  go_wp2_with fail
  refine (HI.out _ ⟨pc, pw⟩ ((((HO.out.alloc _).alloc _).alloc _).alloc _) HP.out HB.out).mono ?_
  rintro e W1 ⟨he, hb1⟩
  rw [← HE1.out.2, ← HE1.out.1] at he
  obtain ⟨qc, qw⟩ := q
  have he' : e = .returned (.tuple #[.agg #[.int .i64 qc, .bool qw], .agg #[.int .i64 x, .int .i64 0]]) := he
  subst he'
  have B1 := (hb1.block (W.heap.size + 1) (by simp only [alloc_sz]; omega)).trans (alloc4_at1 W _ _ _ _)
  have B2 := (hb1.block (W.heap.size + 1 + 1) (by simp only [alloc_sz]; omega)).trans (alloc4_at2 W _ _ _ _)
  have B3 := (hb1.block (W.heap.size + 1 + 1 + 1) (by simp only [alloc_sz]; omega)).trans (alloc4_at3 W _ _ _ _)
  have HS1 := Aside0.mk hb1.size
  have n4 := (blk_cell B3 4).trans rfl
  have u4 := fun o1 o2 => pw_cell_below (below_alloc2 W1 o1 o2) n4
  have BB1 := Aside0.mk B1
  have BB2 := Aside0.mk B2
  have HB1 := Aside0.mk (below_then (below_alloc4 W _ _ _ _) (below_alloc4 W _ _ _ _).size hb1)
  have HO1 := Aside0.mk (show Only (· = gm) w0 W1 from ((((HO.out.alloc _).alloc _).alloc _).alloc _).trans (.of_below hb1))
  clear he hb1 B1 B2 B3 n4
  go_wp2_with fail
  refine (HI2.out _ ⟨qc, qw⟩ ((HO1.out.alloc _).alloc _) HQB.out.1 HQB.out.2).mono ?_
  rintro e W2 ⟨he, hb2⟩
  rw [← HE2.out.2, ← HE2.out.1] at he
  obtain ⟨rc, rw_⟩ := q2
  have he' : e = .returned (.tuple #[.agg #[.int .i64 rc, .bool rw_], .agg #[.int .i64 y, .int .i64 0]]) := he
  subst he'
  have D1 := (hb2.block W1.heap.size (by simp only [alloc_sz]; omega)).trans (alloc2_at0 W1 _ _)
  have D2 := (hb2.block (W1.heap.size + 1) (by simp only [alloc_sz]; omega)).trans (heap_alloc2_new W1 _ _)
  have lt1 : W1.heap.size < W2.heap.size := by have := hb2.size; simp only [alloc_sz] at this; omega
  have lt2 : W1.heap.size + 1 < W2.heap.size := by have := hb2.size; simp only [alloc_sz] at this; omega
  have e0 : W2.cell? ⟨W1.heap.size, 0, none⟩ = some (.int .i64 qc) := (blk_cell D1 0).trans rfl
  have e1 : W2.cell? ⟨W1.heap.size, 1, none⟩ = some (.bool qw) := (blk_cell D1 1).trans rfl
  have f0 : W2.frozen? ⟨W1.heap.size, 0, none⟩ = false := blk_frozen D1 0
  have f1 : W2.frozen? ⟨W1.heap.size, 1, none⟩ = false := blk_frozen D1 1
  have e2 : W2.cell? ⟨W1.heap.size + 1, 0, none⟩ = some (.int .i64 x) := (blk_cell D2 0).trans rfl
  have e3 : W2.cell? ⟨W1.heap.size + 1, 1, none⟩ = some (.int .i64 0) := (blk_cell D2 1).trans rfl
  have HD1 := Aside0.mk D1
  have HD2 := Aside0.mk D2
  have HL1 := Aside0.mk lt1
  have HL2 := Aside0.mk lt2
  clear D1 D2
  have HS2 := Aside0.mk hb2.size
  have HB2 := Aside0.mk (below_then (below_alloc2 W1 _ _) (below_alloc2 W1 _ _).size hb2)
  clear he hb2
  go_wp2_with fail
  clear e0 e1 e2 e3 f0 f1 lt1 lt2 u4 q0 r0 r1 r2 r3 r4
  obtain ⟨W3, hW3⟩ : ∃ W3, W3 = (((W2.setCell ⟨W1.heap.size, 0, none⟩ (.int .i64 rc)).setCell ⟨W1.heap.size, 1, none⟩ (.bool rw_)).alloc (.cells #[.int .i64 y, .int .i64 0] 36)) := ⟨_, rfl⟩
  rw [← hW3]
  have lt1 := HL1.out
  have lt2 := HL2.out
  have ls1 : W.heap.size + 1 + 1 + 1 < W1.heap.size := by have := HS1.out; simp only [alloc_sz] at this; omega
  have hsz : ((W2.setCell ⟨W1.heap.size, 0, none⟩ (.int .i64 rc)).setCell ⟨W1.heap.size, 1, none⟩ (.bool rw_)).heap.size = W2.heap.size := by simp [go_sem]
  have hBB : Below (W.heap.size + 1 + 1 + 1) W1 W3 := by
    rw [hW3]
    have hq2 : Below (W.heap.size + 1 + 1 + 1) W1 W2 := HB2.out.mono (by omega)
    have hq3 : Below (W.heap.size + 1 + 1 + 1) W1 ((W2.setCell ⟨W1.heap.size, 0, none⟩ (.int .i64 rc)).setCell ⟨W1.heap.size, 1, none⟩ (.bool rw_)) := (hq2.setCell (Nat.le_of_lt ls1) _).setCell (Nat.le_of_lt ls1) _
    exact hq3.alloc (by rw [hsz]; omega) _
  have X1 : W3.heap[W1.heap.size]? = some (.cells #[.int .i64 rc, .bool rw_] 128 (0, 0)) := by
    rw [hW3]
    exact (blk_old_alloc (by rw [hsz]; exact lt1) _).trans (blk_put (cs := #[.int .i64 rc, .bool qw]) (blk_put (cs := #[.int .i64 qc, .bool qw]) HD1.out 0 (.int .i64 rc) rfl) 1 (.bool rw_) rfl)
  have X2 : W3.heap[W1.heap.size + 1]? = some (.cells #[.int .i64 x, .int .i64 0] 36 (0, 0)) := by
    rw [hW3]
    exact (blk_old_alloc (by rw [hsz]; exact lt2) _).trans (blk_put2 (h := W1.heap.size) (j := 1) (v := .bool rw_) (blk_put2 (h := W1.heap.size) (j := 0) (v := .int .i64 rc) HD2.out (by omega)) (by omega))
  have X3 : W3.heap[W2.heap.size]? = some (.cells #[.int .i64 y, .int .i64 0] 36 (0, 0)) := by
    rw [hW3, ← hsz]
    exact heap_alloc_new _ _
  have T1 : W3.drew.heap[W.heap.size + 1]? = some (.cells #[.int .i64 0, .bool false] 128 (0, 0)) := (hBB.block _ (by omega)).trans BB1.out
  have T2 : W3.drew.heap[W.heap.size + 1 + 1]? = some (.cells #[.int .i64 0, .int .i64 0] 36 (0, 0)) := (hBB.block _ (by omega)).trans BB2.out
  have HT1 := Aside0.mk T1
  have HT2 := Aside0.mk T2
  have HB3 := Aside0.mk (show Below W.heap.size W W3.drew from below_drew1 (HB1.out.trans (hBB.mono (by omega))))
  have e0 : W3.drew.cell? ⟨W1.heap.size, 0, none⟩ = some (.int .i64 rc) := (blk_cell X1 0).trans rfl
  have y0 : W3.cell? ⟨W1.heap.size, 0, none⟩ = some (.int .i64 rc) := (blk_cell X1 0).trans rfl
  have e1 : W3.drew.cell? ⟨W1.heap.size, 1, none⟩ = some (.bool rw_) := (blk_cell X1 1).trans rfl
  have y1 : W3.cell? ⟨W1.heap.size, 1, none⟩ = some (.bool rw_) := (blk_cell X1 1).trans rfl
  have e2 : W3.drew.cell? ⟨W1.heap.size + 1, 0, none⟩ = some (.int .i64 x) := (blk_cell X2 0).trans rfl
  have y2 : W3.cell? ⟨W1.heap.size + 1, 0, none⟩ = some (.int .i64 x) := (blk_cell X2 0).trans rfl
  have e3 : W3.drew.cell? ⟨W2.heap.size, 0, none⟩ = some (.int .i64 y) := (blk_cell X3 0).trans rfl
  have y3 : W3.cell? ⟨W2.heap.size, 0, none⟩ = some (.int .i64 y) := (blk_cell X3 0).trans rfl
  have c10 : W3.drew.cell? ⟨W.heap.size + 1, 0, none⟩ = some (.int .i64 0) := (blk_cell T1 0).trans rfl
  have z10 : W3.cell? ⟨W.heap.size + 1, 0, none⟩ = some (.int .i64 0) := (blk_cell T1 0).trans rfl
  have c11 : W3.drew.cell? ⟨W.heap.size + 1, 1, none⟩ = some (.bool false) := (blk_cell T1 1).trans rfl
  have z11 : W3.cell? ⟨W.heap.size + 1, 1, none⟩ = some (.bool false) := (blk_cell T1 1).trans rfl
  have c20 : W3.drew.cell? ⟨W.heap.size + 1 + 1, 0, none⟩ = some (.int .i64 0) := (blk_cell T2 0).trans rfl
  have z20 : W3.cell? ⟨W.heap.size + 1 + 1, 0, none⟩ = some (.int .i64 0) := (blk_cell T2 0).trans rfl
  have c21 : W3.drew.cell? ⟨W.heap.size + 1 + 1, 1, none⟩ = some (.int .i64 0) := (blk_cell T2 1).trans rfl
  have z21 : W3.cell? ⟨W.heap.size + 1 + 1, 1, none⟩ = some (.int .i64 0) := (blk_cell T2 1).trans rfl
  have f10 := blk_frozen T1 0
  have g10 : W3.frozen? ⟨W.heap.size + 1, 0, none⟩ = false := blk_frozen T1 0
  have f11 := blk_frozen T1 1
  have g11 : W3.frozen? ⟨W.heap.size + 1, 1, none⟩ = false := blk_frozen T1 1
  have f20 := blk_frozen T2 0
  have g20 : W3.frozen? ⟨W.heap.size + 1 + 1, 0, none⟩ = false := blk_frozen T2 0
  have f21 := blk_frozen T2 1
  have g21 : W3.frozen? ⟨W.heap.size + 1 + 1, 1, none⟩ = false := blk_frozen T2 1
  have n1 := eq_false (show ¬ (W.heap.size + 1 = W1.heap.size) by omega)
  have n7 := eq_false (show ¬ (W.heap.size = W1.heap.size) by omega)
  have n8 := eq_false (show ¬ (W1.heap.size = W.heap.size) by omega)
  have n2 := eq_false (show ¬ (W.heap.size + 1 = W1.heap.size + 1) by omega)
  have n3 := eq_false (show ¬ (W.heap.size + 1 = W2.heap.size) by omega)
  have n4 := eq_false (show ¬ (W1.heap.size = W.heap.size + 1) by omega)
  have n5 := eq_false (show ¬ (W1.heap.size + 1 = W.heap.size + 1) by omega)
  have n6 := eq_false (show ¬ (W2.heap.size = W.heap.size + 1) by omega)
  clear hW3 hsz hBB X1 X2 X3 T1 T2 lt1 lt2 ls1
  go_region
  all_goals go_wp2_with fail
  all_goals exact fl_end rfl HT1.out HT2.out HB3.out rfl rfl HE3.out.symm (by rw [← HE3.out, ← HSUM.out])
/-- flat's contract at every node. -/
theorem flat_calls (w0 : World) (g gm : Nat) (l : List S42) (wd : Int) (gz : List Int) (hd : List Bool) (hw : 0 ≤ wd ∧ wd ≤ 1000) (h : LSt w0 g gm l wd gz hd) (hv : nodesOk l) : ∀ i, i < l.length → FlatAt w0 g gm l wd i := by
  intro i
  induction i using Nat.strongRecOn with
  | _ i ih =>
    intro hi W p ho hp hb
    have hk := hv i hi
    have hkd := hk.kind
    have hsz : ∀ s : ByteArray, (s.size : Int) = s.data.toList.length := fun s => by rw [data_length]
    rcases (show (l.getD i z42).f0 = 0 ∨ (l.getD i z42).f0 = 1 ∨ (l.getD i z42).f0 = 2 ∨ (l.getD i z42).f0 = 3 ∨ (l.getD i z42).f0 = 4 ∨ (l.getD i z42).f0 = 5 ∨ (l.getD i z42).f0 = 6 by omega) with h4 | h4 | h4 | h4 | h4 | h4 | h4
    · rw [tree_text h4] at hb ⊢
      exact flat_leaf w0 W g gm l wd gz hd hw h ho i hi (.inl h4) p hp (by rw [hsz]; exact hb)
    · rw [tree_line h4] at hb ⊢
      exact flat_leaf w0 W g gm l wd gz hd hw h ho i hi (.inr h4) p hp (by rw [hsz]; exact hb)
    · rw [tree_hard h4] at hb ⊢
      exact flat_hrd w0 W g gm l wd gz hd h ho i hi h4 p
    · obtain ⟨ha0, ha1⟩ := hk.a (by omega)
      obtain ⟨hb0, hb1⟩ := hk.b h4
      obtain ⟨a', ha⟩ := Int.eq_ofNat_of_zero_le ha0
      obtain ⟨b', hb'⟩ := Int.eq_ofNat_of_zero_le hb0
      rw [tree_seq hv hi h4, ha, hb', Int.toNat_natCast, Int.toNat_natCast] at hb ⊢
      refine flat_seq w0 W g gm l wd gz hd hw.1 h ho i a' b' hi h4 ha hb' (ih a' (by omega) (by omega)) (ih b' (by omega) (by omega)) p hp ?_
      simp only [wt] at hb
      omega
    · obtain ⟨ha0, ha1⟩ := hk.a (by omega)
      obtain ⟨a', ha⟩ := Int.eq_ofNat_of_zero_le ha0
      rw [tree_nest hv hi h4, ha, Int.toNat_natCast] at hb ⊢
      exact flat_un w0 W g gm l wd gz hd h ho i a' hi (.inl h4) ha (ih a' (by omega) (by omega)) p hp (by simp only [wt] at hb; omega)
    · obtain ⟨ha0, ha1⟩ := hk.a (by omega)
      obtain ⟨a', ha⟩ := Int.eq_ofNat_of_zero_le ha0
      rw [tree_align hv hi h4, ha, Int.toNat_natCast] at hb ⊢
      exact flat_un w0 W g gm l wd gz hd h ho i a' hi (.inr (.inl h4)) ha (ih a' (by omega) (by omega)) p hp (by simp only [wt] at hb; omega)
    · obtain ⟨ha0, ha1⟩ := hk.a (by omega)
      obtain ⟨a', ha⟩ := Int.eq_ofNat_of_zero_le ha0
      rw [tree_group hv hi h4, ha, Int.toNat_natCast] at hb ⊢
      exact flat_un w0 W g gm l wd gz hd h ho i a' hi (.inr (.inr h4)) ha (ih a' (by omega) (by omega)) p hp (by simp only [wt] at hb; omega)
end Go.Proofs.Ythmmdmnbcecooaa.A
end

section
namespace Go.Proofs.Ythmmdmnbcecooaa.A
open Go.RowKit Go.Proofs.YthmmdmnbcecooaaW.PrintWords Go.Proofs.YthmmdmnbcecooaaW.PrintLast Go.Proofs.YthmmdmnbcecooaaW.PrintMore
set_option linter.unusedVariables false
set_option linter.unusedSimpArgs false
/-- Two costs behind one another. -/
def Res.cat (x y : Res) : Res := ⟨x.b + y.b, x.l + y.l, x.ch ++ y.ch⟩
def Res.grp (x : Res) : Res := ⟨x.b, x.l, 1 :: x.ch⟩
/-- Every outcome of a tree, by its choices. -/
def ach (wd : Int) : Doc → Int → Pl → List (Pl × Res)
  | .text s, _, p => [(wpl p s.data.toList, ⟨cst wd (wpl p s.data.toList) - cst wd p, 0, []⟩)]
  | .line _, ind, _ | .hard, ind, _ => [(⟨ind, false⟩, ⟨0, 1, []⟩)]
  | .seq a b, ind, p => (ach wd a ind p).flatMap fun qx => (ach wd b ind qx.1).map fun ry => (ry.1, qx.2.cat ry.2)
  | .nest n a, ind, p => ach wd a (ind + n) p
  | .align a, ind, p => ach wd a p.col p
  | .group _ a, ind, p => (if hardT a then [] else [(fpl a p, ⟨cst wd (fpl a p) - cst wd p, 0, List.replicate (ng a + 1) 0⟩)]) ++ (ach wd a ind p).map fun qx => (qx.1, qx.2.grp)
theorem ach_ch (wd : Int) : ∀ (t : Doc) (ind : Int) (p q : Pl) (x : Res), (q, x) ∈ ach wd t ind p → x.ch.length = ng t
  | .text s, _, p, q, x, h => by
    simp only [ach, List.mem_singleton, Prod.mk.injEq] at h
    rw [h.2]; rfl
  | .line _, ind, _, q, x, h | .hard, ind, _, q, x, h => by
    simp only [ach, List.mem_singleton, Prod.mk.injEq] at h
    rw [h.2]; rfl
  | .seq a b, ind, p, q, x, h => by
    simp only [ach, List.mem_flatMap, List.mem_map] at h
    obtain ⟨⟨q1, x1⟩, h1, ⟨q2, x2⟩, h2, e⟩ := h
    simp only [Prod.mk.injEq] at e
    obtain ⟨rfl, rfl⟩ := e
    have g1 := ach_ch wd a ind p q1 x1 h1
    have g2 := ach_ch wd b ind q1 q2 x2 h2
    simp only [Res.cat, List.length_append, ng, g1, g2]
  | .nest n a, ind, p, q, x, h => ach_ch wd a _ _ q x h
  | .align a, ind, p, q, x, h => ach_ch wd a _ _ q x h
  | .group _ a, ind, p, q, x, h => by
    simp only [ach, List.mem_append, List.mem_map] at h
    rcases h with h | ⟨⟨q1, x1⟩, h1, e⟩
    · split at h
      · cases h
      · simp only [List.mem_singleton, Prod.mk.injEq] at h
        rw [h.2]; simp [ng]
    · simp only [Prod.mk.injEq] at e
      obtain ⟨rfl, rfl⟩ := e
      simp only [Res.grp, List.length_cons, ng, ach_ch wd a ind p q1 x1 h1]
theorem cst_mono {wd : Int} {p q : Pl} (h0 : 0 ≤ p.col) (h : p.col ≤ q.col) (hw : p.wr = true → q.wr = true) : cst wd p ≤ cst wd q := by
  unfold cst mx
  cases hp : p.wr <;> cases hq : q.wr <;> simp_all <;> (try split) <;> (try split) <;> omega
theorem wpl_wr (p : Pl) (s : List UInt8) : p.wr = true → (wpl p s).wr = true := by
  unfold wpl; split
  · exact id
  · exact fun _ => rfl
theorem fpl_wr : ∀ (t : Doc) (p : Pl), p.wr = true → (fpl t p).wr = true
  | .text s, p, h | .line s, p, h => wpl_wr p _ h
  | .hard, p, h => h
  | .seq a b, p, h => fpl_wr b _ (fpl_wr a p h)
  | .nest n a, p, h | .align a, p, h | .group _ a, p, h => fpl_wr a p h
theorem lv_pos : ∀ t, 1 ≤ lv t
  | .text _ | .line _ | .hard => Nat.le_refl _
  | .seq a b => by have := lv_pos a; simp only [lv]; omega
  | .nest _ a | .align a | .group _ a => lv_pos a
/-- Every outcome lies within bounds: M bounds the columns ahead. -/
theorem ach_bd {wd : Int} (hw : 0 ≤ wd) : ∀ (t : Doc) (ind : Int) (p q : Pl) (x : Res) (M : Int), nn t → 0 ≤ ind → ind ≤ M → 0 ≤ p.col → p.col ≤ M → (q, x) ∈ ach wd t ind p →
    0 ≤ q.col ∧ q.col ≤ M + wt t ∧ 0 ≤ x.b ∧ x.b ≤ lv t * (M + wt t) ∧ 0 ≤ x.l ∧ x.l ≤ lv t
  | .text s, ind, p, q, x, M, hn, h1, h2, h3, h4, h => by
    simp only [ach, List.mem_singleton, Prod.mk.injEq] at h
    obtain ⟨rfl, rfl⟩ := h
    have g1 := wpl_bd p s.data.toList
    have g2 := cst_bd hw (wpl p s.data.toList) (by omega)
    have g3 := cst_bd hw p h3
    have g4 := cst_mono (wd := wd) h3 g1.1 (wpl_wr p _)
    simp only [wt, lv]
    omega
  | .line s, ind, p, q, x, M, hn, h1, h2, h3, h4, h => by
    simp only [ach, List.mem_singleton, Prod.mk.injEq] at h
    obtain ⟨rfl, rfl⟩ := h
    simp only [wt, lv]
    omega
  | .hard, ind, p, q, x, M, hn, h1, h2, h3, h4, h => by
    simp only [ach, List.mem_singleton, Prod.mk.injEq] at h
    obtain ⟨rfl, rfl⟩ := h
    simp only [wt, lv]
    omega
  | .seq a b, ind, p, q, x, M, hn, h1, h2, h3, h4, h => by
    simp only [ach, List.mem_flatMap, List.mem_map] at h
    obtain ⟨⟨q1, x1⟩, g1, ⟨q2, x2⟩, g2, e⟩ := h
    simp only [Prod.mk.injEq] at e
    obtain ⟨rfl, rfl⟩ := e
    obtain ⟨a1, a2, a3, a4, a5, a6⟩ := ach_bd hw a ind p q1 x1 M hn.1 h1 h2 h3 h4 g1
    obtain ⟨b1, b2, b3, b4, b5, b6⟩ := ach_bd hw b ind q1 q2 x2 (M + wt a) hn.2 h1 (by omega) a1 a2 g2
    simp only [wt, lv, Res.cat]
    have c1 : (lv a : Int) * (M + wt a) ≤ lv a * (M + (wt a + wt b)) := Int.mul_le_mul_of_nonneg_left (by omega) (by omega)
    have c2 : ((lv a + lv b : Nat) : Int) * (M + ((wt a + wt b : Nat) : Int)) = lv a * (M + (wt a + wt b)) + lv b * (M + wt a + wt b) := by
      rw [Int.natCast_add, Int.natCast_add, Int.add_mul, Int.add_assoc M]
    rw [c2]
    omega
  | .nest n a, ind, p, q, x, M, hn, h1, h2, h3, h4, h => by
    have hn1 : 0 ≤ n := hn.1
    obtain ⟨a1, a2, a3, a4, a5, a6⟩ := ach_bd hw a (ind + n) p q x (M + n.toNat) hn.2 (by omega) (by omega) h3 (by omega) h
    simp only [wt, lv]
    rw [Int.natCast_add, ← Int.add_assoc]
    exact ⟨a1, a2, a3, a4, a5, a6⟩
  | .align a, ind, p, q, x, M, hn, h1, h2, h3, h4, h => ach_bd hw a p.col p q x M hn h3 h4 h3 h4 h
  | .group _ a, ind, p, q, x, M, hn, h1, h2, h3, h4, h => by
    simp only [ach, List.mem_append, List.mem_map] at h
    rcases h with h | ⟨⟨q1, x1⟩, g1, e⟩
    · split at h
      · cases h
      · simp only [List.mem_singleton, Prod.mk.injEq] at h
        obtain ⟨rfl, rfl⟩ := h
        have g1 := fpl_bd a p
        have g2 := cst_bd hw (fpl a p) (by omega)
        have g3 := cst_bd hw p h3
        have g4 := cst_mono (wd := wd) h3 g1.1 (fpl_wr a p)
        have g5 := lv_pos a
        have g6 : 1 * (M + wt a) ≤ (lv a : Int) * (M + wt a) := Int.mul_le_mul_of_nonneg_right (by omega) (by omega)
        simp only [wt, lv]
        omega
    · simp only [Prod.mk.injEq] at e
      obtain ⟨rfl, rfl⟩ := e
      exact ach_bd hw a ind p q1 x1 M hn h1 h2 h3 h4 g1
theorem lessR_le {x y : Res} (h : lessR y x = false) : x = y ∨ lessR x y = true := by
  cases k : lessR x y with
  | true => exact .inr rfl
  | false => exact .inl (lessR_tri k h)
theorem le_trans' {x y z : Res} (h : lessR y x = false) (k : lessR z y = false) : lessR z x = false := by
  rcases lessR_le h with rfl | h1
  · exact k
  · rcases lessR_le k with rfl | k1
    · exact h
    · exact lessR_asymm (lessR_trans h1 k1)
theorem cat_mono {x x' y y' : Res} (hl : x.ch.length = x'.ch.length) (h : lessR x' x = false) (k : lessR y' y = false) : lessR (x'.cat y') (x.cat y) = false := by
  rcases lessR_le h with rfl | h
  · rcases lessR_le k with rfl | k
    · exact lessR_irrefl _
    · refine lessR_asymm ((lessR_iff _ _).2 ?_)
      simp only [Res.cat]
      rw [lessR_iff] at k
      rw [bl_append_left]
      rcases k with k | ⟨k1, k | ⟨k2, k3⟩⟩
      · exact .inl (by omega)
      · exact .inr ⟨by omega, .inl (by omega)⟩
      · exact .inr ⟨by omega, .inr ⟨by omega, k3⟩⟩
  · refine lessR_asymm ((lessR_iff _ _).2 ?_)
    simp only [Res.cat]
    rw [bl_append _ _ _ _ hl]
    rw [lessR_iff] at h
    rcases lessR_le k with rfl | k
    · rcases h with h | ⟨h1, h | ⟨h2, h3⟩⟩
      · exact .inl (by omega)
      · exact .inr ⟨by omega, .inl (by omega)⟩
      · exact .inr ⟨by omega, .inr ⟨by omega, by rw [h3]; rfl⟩⟩
    · rw [lessR_iff] at k
      rcases h with h | ⟨h1, h | ⟨h2, h3⟩⟩
      · exact .inl (by rcases k with k | ⟨k1, _⟩ <;> omega)
      · rcases k with k | ⟨k1, k | ⟨k2, k3⟩⟩
        · exact .inl (by omega)
        · exact .inr ⟨by omega, .inl (by omega)⟩
        · exact .inr ⟨by omega, .inl (by omega)⟩
      · rcases k with k | ⟨k1, k | ⟨k2, k3⟩⟩
        · exact .inl (by omega)
        · exact .inr ⟨by omega, .inl (by omega)⟩
        · exact .inr ⟨by omega, .inr ⟨by omega, by rw [h3]; rfl⟩⟩
theorem grp_mono {x x' : Res} (h : lessR x' x = false) : lessR x'.grp x.grp = false := by
  rw [Bool.eq_false_iff] at h ⊢
  intro e
  apply h
  rw [lessR_iff] at e ⊢
  simp only [Res.grp] at e
  rcases e with e | ⟨e1, e | ⟨e2, e3⟩⟩
  · exact .inl e
  · exact .inr ⟨e1, .inl e⟩
  · refine .inr ⟨e1, .inr ⟨e2, ?_⟩⟩
    have := bl_append_left [1] x'.ch x.ch
    rw [← this]; exact e3
section
variable {K : Type} [DecidableEq K]
/-- ps holds the least candidate of each key that has one. -/
def BestM (ps : List (K × Res)) (C : K → Res → Prop) : Prop := MinOf ps C ∧ ∀ q r, C q r → ∃ r0, findP ps q = some r0
theorem BestM.nil : BestM ([] : List (K × Res)) (fun _ _ => False) := ⟨MinOf.nil, fun _ _ h => h.elim⟩
theorem BestM.congr {ps : List (K × Res)} {C D : K → Res → Prop} (h : BestM ps C) (e : ∀ q r, C q r ↔ D q r) : BestM ps D := ⟨h.1.congr e, fun q r hd => h.2 q r ((e q r).2 hd)⟩
theorem BestM.keep {ps : List (K × Res)} {C : K → Res → Prop} (h : BestM ps C) (k : K) (v : Res) : BestM (keepL ps k v) (fun q r => C q r ∨ (q = k ∧ r = v)) := h.1.keep h.2 k v
/-- Some candidates will do, where each one left out has one of them at or below it. -/
theorem BestM.sub {ps : List (K × Res)} {C D : K → Res → Prop} (h : BestM ps C) (h1 : ∀ q r, C q r → D q r) (h2 : ∀ q r, D q r → ∃ m, C q m ∧ lessR r m = false) : BestM ps D := by
  refine ⟨fun q r => ?_, fun q r hd => ?_⟩
  · rw [h.1 q r]
    constructor
    · rintro ⟨hc, hm⟩
      refine ⟨h1 q r hc, fun r' hd => ?_⟩
      obtain ⟨m, hcm, hl⟩ := h2 q r' hd
      exact le_trans' (hm m hcm) hl
    · rintro ⟨hd, hm⟩
      obtain ⟨m, hcm, hl⟩ := h2 q r hd
      have h3 := hm m (h1 q m hcm)
      obtain rfl := lessR_tri hl h3
      exact ⟨hcm, fun r' hc => hm r' (h1 q r' hc)⟩
  · obtain ⟨m, hcm, _⟩ := h2 q r hd
    exact h.2 q m hcm
theorem BestM.mem {ps : List (K × Res)} {C : K → Res → Prop} (h : BestM ps C) {q : K} {r : Res} (hf : findP ps q = some r) : C q r := ((h.1 q r).1 hf).1
theorem BestM.least {ps : List (K × Res)} {C : K → Res → Prop} (h : BestM ps C) {q : K} {r : Res} (hc : C q r) : ∃ m, findP ps q = some m ∧ lessR r m = false := by
  obtain ⟨m, hm⟩ := h.2 q r hc
  exact ⟨m, hm, ((h.1 q m).1 hm).2 r hc⟩
end
end Go.Proofs.Ythmmdmnbcecooaa.A
end

section
namespace Go.Proofs.Ythmmdmnbcecooaa.A
open Go.RowKit Go.Proofs.YthmmdmnbcecooaaW.PrintWords Go.Proofs.YthmmdmnbcecooaaW.PrintLast Go.Proofs.YthmmdmnbcecooaaW.PrintMore
open Go.Instr (lookup mapUpdate)
attribute [local go_sem] max2_int max_two
set_option linter.unusedVariables false
set_option linter.unusedSimpArgs false
def mpV (g : Nat) : Value := .map (some g)
def achS (wd : Int) (l : List S42) (s : Sta) (q : Pl) (r : Res) : Prop := (q, r) ∈ ach wd (tree l s.node) s.ind s.pl
/-- The memo holds right maps, none of them in T. -/
structure Mem (gm : Nat) (l : List S42) (wd : Int) (T : Nat → Prop) (W : World) (MM : List (Sta × Nat)) : Prop where
  map : MapP stV mpV W gm MM
  out : ¬ T gm
  each : ∀ s g', findP MM s = some g' → g' ≠ gm ∧ ¬ T g' ∧ ∃ ps, MapP plV rsV W g' ps ∧ BestM ps (achS wd l s)
theorem Mem.move {gm : Nat} {l : List S42} {wd : Int} {T : Nat → Prop} {W W' : World} {MM : List (Sta × Nat)} (h : Mem gm l wd T W MM) (ho : Only T W W') : Mem gm l wd T W' MM where
  map := h.map.move (ho.block gm h.map.lt h.out)
  out := h.out
  each := fun s g' hf => by
    obtain ⟨h1, h2, ps, h3, h4⟩ := h.each s g' hf
    exact ⟨h1, h2, ps, h3.move (ho.block g' h3.lt h2), h4⟩
/-- T may gain blocks that are new. -/
theorem Mem.more {gm : Nat} {l : List S42} {wd : Int} {T S : Nat → Prop} {W W' : World} {MM : List (Sta × Nat)} (h : Mem gm l wd T W MM) (ho : Only T W W') (k : ∀ i, S i → T i ∨ W.heap.size ≤ i) : Mem gm l wd S W' MM where
  map := (h.move ho).map
  out := fun e => by
    rcases k _ e with e | e
    · exact h.out e
    · have := h.map.lt; omega
  each := fun s g' hf => by
    obtain ⟨h1, h2, ps, h3, h4⟩ := h.each s g' hf
    refine ⟨h1, fun e => ?_, ps, h3.move (ho.block g' h3.lt h2), h4⟩
    rcases k _ e with e | e
    · exact h2 e
    · have := h3.lt; omega
def BestPost (gm : Nat) (l : List S42) (wd : Int) (T : Nat → Prop) (s : Sta) (W : World) (e : Ending) (W' : World) : Prop :=
  ∃ r ps MM', e = .returned (.map (some r)) ∧ MapP plV rsV W' r ps ∧ BestM ps (achS wd l s) ∧ Mem gm l wd T W' MM' ∧ ¬ T r ∧ r ≠ gm ∧ Only (· = gm) W W'
def BestAt (w0 : World) (g gm : Nat) (l : List S42) (wd : Int) (i : Nat) : Prop :=
  ∀ (W : World) (ind : Int) (p : Pl) (M : Int) (MM : List (Sta × Nat)) (T : Nat → Prop), Only (· = gm) w0 W → Mem gm l wd T W MM → (∀ k, T k → k < W.heap.size) → 0 ≤ ind → ind ≤ M → 0 ≤ p.col → p.col ≤ M → lv (tree l i) * (M + wt (tree l i)) ≤ 1000000000000000 →
    Calls Try.prog 73 #[.pointer (some ⟨g, 0, none⟩), stV ⟨i, ind, p⟩] W (BestPost gm l wd T ⟨i, ind, p⟩ W)
set_option maxHeartbeats 1000000 in
set_option maxRecDepth 100000 in
theorem best_hit (w0 W : World) (g gm : Nat) (l : List S42) (wd : Int) (gz : List Int) (hd : List Bool) (h : LSt w0 g gm l wd gz hd) (ho : Only (· = gm) w0 W) (i : Nat) (ind : Int) (p : Pl) (MM : List (Sta × Nat)) (T : Nat → Prop) (hM : Mem gm l wd T W MM) (r : Nat) (hf : findP MM ⟨i, ind, p⟩ = some r) :
    Calls Try.prog 73 #[.pointer (some ⟨g, 0, none⟩), stV ⟨i, ind, p⟩] W (BestPost gm l wd T ⟨i, ind, p⟩ W) := by
  obtain ⟨A0, c0, A2, c2, A3, c3, m0, m1, m2, m3, m4, _, _, _⟩ := h.cells ho
  obtain ⟨e1, e2, ps, e3, e4⟩ := hM.each _ _ hf
  obtain ⟨pc, pw⟩ := p
  have hlt : g < W.heap.size := World.block_lt_of_cell? W _ m1
  have hl := lookupP_run keyT130 Try.underlying121 (z := .map none) (by intro W; rfl) (hM.map.move (W' := (W.alloc (.cells #[.int .i64 i, .int .i64 ind, .int .i64 pc, .bool pw] 130)).drew) ((below_alloc (Below.refl W.heap.size W) _).block gm hM.map.lt)) ⟨i, ind, ⟨pc, pw⟩⟩
  rw [hf] at hl
  have hl' : Sem.run Try.prog (lookup 121 (.map (some gm)) (.agg #[.int .i64 i, .int .i64 ind, .int .i64 pc, .bool pw]) true) (W.alloc (.cells #[.int .i64 i, .int .i64 ind, .int .i64 pc, .bool pw] 130)).drew = .ok (.tuple #[.map (some r), .bool true]) (W.alloc (.cells #[.int .i64 i, .int .i64 ind, .int .i64 pc, .bool pw] 130)).drew := hl
  have HP := Aside0.mk (show BestPost gm l wd T ⟨i, ind, ⟨pc, pw⟩⟩ W (.returned (.map (some r))) (W.alloc (.cells #[.int .i64 i, .int .i64 ind, .int .i64 pc, .bool pw] 130)).drew from
    ⟨r, ps, MM, rfl, e3.move ((below_alloc (Below.refl W.heap.size W) _).block r e3.lt), e4, hM.move (.drew (.alloc (.refl _ _) _)), e2, e1, .drew (.alloc (.refl _ _) _)⟩)
  show Calls Try.prog 73 #[.pointer (some ⟨g, 0, none⟩), .agg #[.int .i64 i, .int .i64 ind, .int .i64 pc, .bool pw]] W _
  have q0 := fun o => pw_cell_below (below_alloc (Below.refl W.heap.size W) o) m4
  have q1 : ∀ o, (W.alloc o).drew.cell? ⟨g, 4, none⟩ = some (.map (some gm)) := q0
  clear hl m0 m1 m2 m3 e1 e2 e3 e4 hf hM ho h
  go_enter Try.func73, Try.ntmps73
  go_wp2_with fail
  go_region
  all_goals go_wp2_with fail
  all_goals go_ret
  all_goals exact HP.out
theorem run_makeMap125 (W : World) : Sem.run Try.prog (Instr.makeMap 125 none) W = .ok (.map (some W.heap.size)) (W.alloc (.map #[] 0)) := by
  first | rfl | (have := Try.underlying125; simp [Instr.makeMap, go_sem]; done) | (simp [Instr.makeMap]; rfl)
/-- The memo takes the map up. -/
theorem best_fin {gm : Nat} {l : List S42} {wd : Int} {T T' : Nat → Prop} {W0 W : World} {MM : List (Sta × Nat)} {s : Sta} {r : Nat} {ps : List (Pl × Res)} (hM : Mem gm l wd T' W MM) (hT : ∀ k, T k → T' k) (hr : MapP plV rsV W r ps) (hb : BestM ps (achS wd l s)) (h1 : ¬ T r) (h2 : r ≠ gm) (ho : Only (· = gm) W0 W) :
    ∃ o, Sem.run Try.prog (mapUpdate 121 (.map (some gm)) (stV s) (.map (some r))) W.drew = .ok () { W.drew with heap := W.drew.heap.setIfInBounds gm o } ∧
      BestPost gm l wd T s W0 (.returned (.map (some r))) { W.drew with heap := W.drew.heap.setIfInBounds gm o } := by
  have hMd : Mem gm l wd T' W.drew MM := hM.move (.drew (.refl _ _))
  obtain ⟨o, e1, e2⟩ := updateP_run (ve := mpV) keyT130 Try.underlying121 hMd.map s r
  refine ⟨o, e1, r, ps, putP MM s r, rfl, ?_, hb, ⟨e2, fun e => hM.out (hT _ e), fun s' g' hf => ?_⟩, h1, h2, (ho.drew).trans (Only.put (S := (· = gm)) _ rfl o)⟩
  · exact hr.move ((Only.put (S := (· = gm)) W.drew rfl o).block r hr.lt h2)
  · rw [findP_putP] at hf
    split at hf
    · rename_i e
      obtain rfl := Option.some.inj hf
      rw [e]
      exact ⟨h2, h1, ps, hr.move ((Only.put (S := (· = gm)) W.drew rfl o).block r hr.lt h2), hb⟩
    · obtain ⟨k1, k2, ps', k3, k4⟩ := hM.each s' g' hf
      exact ⟨k1, fun e => k2 (hT _ e), ps', k3.move ((Only.put (S := (· = gm)) W.drew rfl o).block g' k3.lt k1), k4⟩
theorem upd_map {X : World} {g : Nat} {ps : List (Pl × Res)} (h : MapP plV rsV X g ps) (k : Pl) (v : Res) :
    ∃ X2, Sem.run Try.prog (mapUpdate 125 (.map (some g)) (plV k) (rsV v)) X = .ok () X2 ∧ MapP plV rsV X2 g (putP ps k v) ∧ Only (· = g) X X2 := by
  obtain ⟨o, e1, e2⟩ := updateP_run keyT128 Try.underlying125 h k v
  exact ⟨_, e1, e2, Only.put (S := (· = g)) X rfl o⟩
/-- One entry in the new map, then the memo. -/
theorem best_one {gm : Nat} {l : List S42} {wd : Int} {T : Nat → Prop} {W X : World} {MM : List (Sta × Nat)} {s : Sta} (hM : Mem gm l wd T W MM) (hT : ∀ k, T k → k < W.heap.size) (hB : Below W.heap.size W X) (hX : MapP plV rsV X (W.heap.size + 1) ([] : List (Pl × Res))) (k : Pl) (v : Res) (hA : ∀ q r, achS wd l s q r ↔ q = k ∧ r = v) :
    ∃ X2, Sem.run Try.prog (mapUpdate 125 (.map (some (W.heap.size + 1))) (plV k) (rsV v)) X = .ok () X2 ∧ Only (· = W.heap.size + 1) X X2 ∧
      ∃ X3, Sem.run Try.prog (mapUpdate 121 (.map (some gm)) (stV s) (.map (some (W.heap.size + 1)))) X2.drew = .ok () X3 ∧ BestPost gm l wd T s W (.returned (.map (some (W.heap.size + 1)))) X3 := by
  obtain ⟨X2, e1, e2, e3⟩ := upd_map hX k v
  have ho : ∀ S : Nat → Prop, Only S W X2 := fun S => (((Only.of_below hB : Only (· = W.heap.size + 1) W X).trans e3).widen (fun i hi e => by omega))
  obtain ⟨o, f1, f2⟩ := best_fin (W0 := W) (T := T) (T' := T) (s := s) (r := W.heap.size + 1) (hM.move (ho T)) (fun _ h => h) e2 ((BestM.keep BestM.nil k v).congr (fun q r => by rw [hA]; simp)) (fun e => by have := hT _ e; omega) (by have := hM.map.lt; omega) (ho _)
  exact ⟨X2, e1, e3, _, f1, f2⟩
theorem new_map (W : World) (a n : Obj) : MapP plV rsV (((W.alloc a).alloc (.map #[] 0)).alloc n) (W.heap.size + 1) ([] : List (Pl × Res)) := by
  have h := MapP.new (ke := plV) (ve := rsV) (W.alloc a)
  rw [alloc_sz] at h
  exact h.move ((below_alloc (Below.refl _ _) n).block _ h.lt)
set_option maxHeartbeats 1000000 in
set_option maxRecDepth 100000 in
theorem best_hrd (w0 W : World) (g gm : Nat) (l : List S42) (wd : Int) (gz : List Int) (hd : List Bool) (h : LSt w0 g gm l wd gz hd) (ho : Only (· = gm) w0 W) (i : Nat) (hi : i < l.length) (hk : (l.getD i z42).f0 = 1 ∨ (l.getD i z42).f0 = 2) (ind : Int) (p : Pl) (MM : List (Sta × Nat)) (T : Nat → Prop) (hM : Mem gm l wd T W MM) (hT : ∀ k, T k → k < W.heap.size) (hf : findP MM ⟨i, ind, p⟩ = none) :
    Calls Try.prog 73 #[.pointer (some ⟨g, 0, none⟩), stV ⟨i, ind, p⟩] W (BestPost gm l wd T ⟨i, ind, p⟩ W) := by
  have hu42 := Try.underlying42
  have hA : ∀ q r, achS wd l ⟨i, ind, p⟩ q r ↔ q = ⟨ind, false⟩ ∧ r = ⟨0, 1, []⟩ := fun q r => by
    unfold achS
    rcases hk with hk | hk
    · simp only [tree_line hk, ach, List.mem_singleton, Prod.mk.injEq]
    · simp only [tree_hard hk, ach, List.mem_singleton, Prod.mk.injEq]
  obtain ⟨k, s, n, a, b, hx⟩ : ∃ k s n a b, l.getD i z42 = ⟨k, s, n, a, b⟩ := ⟨_, _, _, _, _, rfl⟩
  obtain ⟨A0, c0, A2, c2, A3, c3, m0, m1, m2, m3, m4, hN, _, _⟩ := h.cells ho
  obtain ⟨ad, rfl, k0, k1, k2, k3, k4⟩ := hN i hi k s n a b hx
  rw [hx] at hk
  simp only at hk
  obtain ⟨pc, pw⟩ := p
  have hlt : g < W.heap.size := World.block_lt_of_cell? W _ m1
  have hpp := eq_true (show (0 : Int) ≤ i by omega)
  have hq := eq_true (show (i : Int) < l.length by omega)
  have hl := lookupP_run keyT130 Try.underlying121 (z := .map none) (by intro W; rfl) (hM.map.move (W' := (W.alloc (.cells #[.int .i64 i, .int .i64 ind, .int .i64 pc, .bool pw] 130)).drew) ((below_alloc (Below.refl W.heap.size W) _).block gm hM.map.lt)) ⟨i, ind, ⟨pc, pw⟩⟩
  rw [hf] at hl
  have hl' : Sem.run Try.prog (lookup 121 (.map (some gm)) (.agg #[.int .i64 i, .int .i64 ind, .int .i64 pc, .bool pw]) true) (W.alloc (.cells #[.int .i64 i, .int .i64 ind, .int .i64 pc, .bool pw] 130)).drew = .ok (.tuple #[.map none, .bool false]) (W.alloc (.cells #[.int .i64 i, .int .i64 ind, .int .i64 pc, .bool pw] 130)).drew := hl
  show Calls Try.prog 73 #[.pointer (some ⟨g, 0, none⟩), .agg #[.int .i64 i, .int .i64 ind, .int .i64 pc, .bool pw]] W _
  obtain ⟨X, hX⟩ : ∃ X : Value → World, X = fun kv => (((W.alloc (.cells #[.int .i64 i, .int .i64 ind, .int .i64 pc, .bool pw] 130)).alloc (.map #[] 0)).alloc (.cells #[kv, .string s, .int .i64 n, .int .i64 a, .int .i64 b] 42)).drew.drew := ⟨_, rfl⟩
  obtain ⟨X2, hu1, ho2, X3, hu2, hpost⟩ := best_one (X := X (.int .i64 k)) (s := ⟨i, ind, ⟨pc, pw⟩⟩) hM hT (by rw [hX]; exact below_drew1 (below_drew1 (below_alloc3 W _ _ _))) (by rw [hX]; exact (new_map W _ _).move rfl) ⟨ind, false⟩ ⟨0, 1, []⟩ hA
  have hB : Below W.heap.size W (X (.int .i64 k)) := by rw [hX]; exact below_drew1 (below_drew1 (below_alloc3 W _ _ _))
  have n0 : X2.heap[W.heap.size]? = some (.cells #[.int .i64 i, .int .i64 ind, .int .i64 pc, .bool pw] 130 (0, 0)) := (ho2.block _ (by rw [hX]; show W.heap.size < (((W.alloc _).alloc _).alloc _).heap.size; simp only [alloc_sz]; omega) (by omega)).trans (by rw [hX]; exact alloc_at0 W _ _ _)
  have hB2 : Only (fun _ => False) W X2 := ((Only.of_below hB : Only (· = W.heap.size + 1) W _).trans ho2).widen (fun i hi e => by omega)
  have x4 : X2.cell? ⟨g, 4, none⟩ = some (.map (some gm)) := pw_cell_below (hB2.below (Nat.le_refl _) (fun _ _ e => e)) m4
  have y4 : X2.drew.cell? ⟨g, 4, none⟩ = some (.map (some gm)) := x4
  have t0 : X2.cell? ⟨W.heap.size, 0, none⟩ = some (.int .i64 i) := (blk_cell n0 0).trans rfl
  have t1 : X2.cell? ⟨W.heap.size, 1, none⟩ = some (.int .i64 ind) := (blk_cell n0 1).trans rfl
  have t2 : X2.cell? ⟨W.heap.size, 2, none⟩ = some (.int .i64 pc) := (blk_cell n0 2).trans rfl
  have t3 : X2.cell? ⟨W.heap.size, 3, none⟩ = some (.bool pw) := (blk_cell n0 3).trans rfl
  have w0' : X2.drew.cell? ⟨W.heap.size, 0, none⟩ = some (.int .i64 i) := t0
  have w1' : X2.drew.cell? ⟨W.heap.size, 1, none⟩ = some (.int .i64 ind) := t1
  have w2' : X2.drew.cell? ⟨W.heap.size, 2, none⟩ = some (.int .i64 pc) := t2
  have w3' : X2.drew.cell? ⟨W.heap.size, 3, none⟩ = some (.bool pw) := t3
  rw [hX] at hu1
  have hu1' : Sem.run Try.prog (mapUpdate 125 (.map (some (W.heap.size + 1))) (.agg #[.int .i64 ind, .bool false]) (.agg #[.int .i64 0, .int .i64 1, .string ⟨#[]⟩])) (((W.alloc (.cells #[.int .i64 i, .int .i64 ind, .int .i64 pc, .bool pw] 130)).alloc (.map #[] 0)).alloc (.cells #[.int .i64 k, .string s, .int .i64 n, .int .i64 a, .int .i64 b] 42)).drew.drew = .ok () X2 := hu1
  have hu2' : Sem.run Try.prog (mapUpdate 121 (.map (some gm)) (.agg #[.int .i64 i, .int .i64 ind, .int .i64 pc, .bool pw]) (.map (some (W.heap.size + 1)))) X2.drew = .ok () X3 := hu2
  have HP := Aside0.mk hpost
  clear hu1 hu2 hpost n0 hB2 ho2 hB hX
  have HM := Aside0.mk hM
  have HTT := Aside0.mk hT
  have HA := Aside0.mk hA
  have HM4 := Aside0.mk m4
  have u4 := fun o => pw_cell_below (below_alloc (Below.refl W.heap.size W) o) m4
  have q0 := fun o o' => pw_cell_below (below_alloc2 W o o') m0
  have q3 := fun o o' o2 => pw_cell_below (below_alloc3 W o o' o2) m0
  have r0 := fun o1 o2 => pw_cell_below (below_alloc2 W o1 o2) k0
  have r1 := fun o1 o2 => pw_cell_below (below_alloc2 W o1 o2) k1
  have r2 := fun o1 o2 => pw_cell_below (below_alloc2 W o1 o2) k2
  have r3 := fun o1 o2 => pw_cell_below (below_alloc2 W o1 o2) k3
  have r4 := fun o1 o2 => pw_cell_below (below_alloc2 W o1 o2) k4
  have v0 := fun o1 o2 o3 => pw_cell_below (below_alloc3 W o1 o2 o3) k0
  have v1 := fun o1 o2 o3 => pw_cell_below (below_alloc3 W o1 o2 o3) k1
  have v2 := fun o1 o2 o3 => pw_cell_below (below_alloc3 W o1 o2 o3) k2
  have v3 := fun o1 o2 o3 => pw_cell_below (below_alloc3 W o1 o2 o3) k3
  have v4 := fun o1 o2 o3 => pw_cell_below (below_alloc3 W o1 o2 o3) k4
  have hmk := run_makeMap125
  clear hl hx hN m0 m1 m2 m3 m4 k0 k1 k2 k3 k4 hf hM ho h hT hA
  rcases hk with rfl | rfl
  all_goals
    go_enter Try.func73, Try.ntmps73
    go_wp2_with fail
    go_region
    all_goals go_wp2_with fail
    all_goals go_region
    all_goals go_wp2_with fail
    all_goals go_region
    all_goals go_wp2_with fail
    all_goals go_ret
    all_goals exact HP.out
end Go.Proofs.Ythmmdmnbcecooaa.A
end

section
namespace Go.Proofs.Ythmmdmnbcecooaa.A
open Go.RowKit Go.Proofs.YthmmdmnbcecooaaW.PrintWords Go.Proofs.YthmmdmnbcecooaaW.PrintLast Go.Proofs.YthmmdmnbcecooaaW.PrintMore
open Go.Instr (lookup mapUpdate)
attribute [local go_sem] max2_int max_two
set_option linter.unusedVariables false
set_option linter.unusedSimpArgs false
/-- What the end of best reads: the memo's cell and the state. -/
structure EndF (g gm : Nat) (n : Nat) (i : Nat) (ind pc : Int) (pw : Bool) (X : World) : Prop where
  x4 : X.cell? ⟨g, 4, none⟩ = some (.map (some gm))
  t0 : X.cell? ⟨n, 0, none⟩ = some (.int .i64 i)
  t1 : X.cell? ⟨n, 1, none⟩ = some (.int .i64 ind)
  t2 : X.cell? ⟨n, 2, none⟩ = some (.int .i64 pc)
  t3 : X.cell? ⟨n, 3, none⟩ = some (.bool pw)
theorem EndF.of {g gm i : Nat} {ind pc : Int} {pw : Bool} {W X : World} {m n : Obj} {S : Nat → Prop} (h4 : W.cell? ⟨g, 4, none⟩ = some (.map (some gm)))
    (h : Only S (((W.alloc (.cells #[.int .i64 i, .int .i64 ind, .int .i64 pc, .bool pw] 130)).alloc m).alloc n) X) (hS : ∀ k, k ≤ W.heap.size → ¬ S k) : EndF g gm W.heap.size i ind pc pw X := by
  have n0 : X.heap[W.heap.size]? = some (.cells #[.int .i64 i, .int .i64 ind, .int .i64 pc, .bool pw] 130 (0, 0)) := (h.block _ (by simp only [alloc_sz]; omega) (hS _ (Nat.le_refl _))).trans (alloc_at0 W _ _ _)
  have hlt := World.block_lt_of_cell? W _ h4
  have hb : Below W.heap.size W X := (below_alloc3 W _ _ _).trans (h.below (by simp only [alloc_sz]; omega) (fun k hk => hS k (Nat.le_of_lt hk)))
  exact ⟨pw_cell_below hb h4, (blk_cell n0 0).trans rfl, (blk_cell n0 1).trans rfl, (blk_cell n0 2).trans rfl, (blk_cell n0 3).trans rfl⟩
theorem alloc3_sz (W : World) (a b c : Obj) : (((W.alloc a).alloc b).alloc c).heap.size = W.heap.size + 1 + 1 + 1 := by simp only [alloc_sz]
set_option maxHeartbeats 1000000 in
set_option maxRecDepth 100000 in
theorem best_text (w0 W : World) (g gm : Nat) (l : List S42) (wd : Int) (gz : List Int) (hd : List Bool) (hw : 0 ≤ wd ∧ wd ≤ 1000) (h : LSt w0 g gm l wd gz hd) (ho : Only (· = gm) w0 W) (i : Nat) (hi : i < l.length) (hk : (l.getD i z42).f0 = 0) (ind : Int) (p : Pl) (hp : 0 ≤ p.col) (hb : p.col + (l.getD i z42).f1.size ≤ 1000000000000000) (MM : List (Sta × Nat)) (T : Nat → Prop) (hM : Mem gm l wd T W MM) (hT : ∀ k, T k → k < W.heap.size) (hf : findP MM ⟨i, ind, p⟩ = none) :
    Calls Try.prog 73 #[.pointer (some ⟨g, 0, none⟩), stV ⟨i, ind, p⟩] W (BestPost gm l wd T ⟨i, ind, p⟩ W) := by
  have hu42 := Try.underlying42
  obtain ⟨k, s, n, a, b, hx⟩ : ∃ k s n a b, l.getD i z42 = ⟨k, s, n, a, b⟩ := ⟨_, _, _, _, _, rfl⟩
  have hA : ∀ q r, achS wd l ⟨i, ind, p⟩ q r ↔ q = wpl p s.data.toList ∧ r = ⟨cst wd (wpl p s.data.toList) - cst wd p, 0, []⟩ := fun q r => by
    unfold achS
    simp only [tree_text hk, ach, List.mem_singleton, Prod.mk.injEq, hx]
  obtain ⟨A0, c0, A2, c2, A3, c3, m0, m1, m2, m3, m4, hN, _, _⟩ := h.cells ho
  obtain ⟨ad, rfl, k0, k1, k2, k3, k4⟩ := hN i hi k s n a b hx
  rw [hx] at hk hb
  simp only at hk hb
  obtain ⟨pc, pw⟩ := p
  have hlt : g < W.heap.size := World.block_lt_of_cell? W _ m1
  have hpp := eq_true (show (0 : Int) ≤ i by omega)
  have hq := eq_true (show (i : Int) < l.length by omega)
  have hl := lookupP_run keyT130 Try.underlying121 (z := .map none) (by intro W; rfl) (hM.map.move (W' := (W.alloc (.cells #[.int .i64 i, .int .i64 ind, .int .i64 pc, .bool pw] 130)).drew) ((below_alloc (Below.refl W.heap.size W) _).block gm hM.map.lt)) ⟨i, ind, ⟨pc, pw⟩⟩
  rw [hf] at hl
  have hl' : Sem.run Try.prog (lookup 121 (.map (some gm)) (.agg #[.int .i64 i, .int .i64 ind, .int .i64 pc, .bool pw]) true) (W.alloc (.cells #[.int .i64 i, .int .i64 ind, .int .i64 pc, .bool pw] 130)).drew = .ok (.tuple #[.map none, .bool false]) (W.alloc (.cells #[.int .i64 i, .int .i64 ind, .int .i64 pc, .bool pw] 130)).drew := hl
  show Calls Try.prog 73 #[.pointer (some ⟨g, 0, none⟩), .agg #[.int .i64 i, .int .i64 ind, .int .i64 pc, .bool pw]] W _
  have HB := Aside0.mk (show 0 ≤ pc ∧ pc + s.size ≤ 1000000000000000 from ⟨hp, hb⟩)
  have HM := Aside0.mk hM
  have HTT := Aside0.mk hT
  have HA := Aside0.mk hA
  have HM4 := Aside0.mk m4
  have HM1 := Aside0.mk (show ∀ o o' o2 : Obj, (((W.alloc o).alloc o').alloc o2).drew.drew.cell? ⟨g, 1, none⟩ = some (.int .i64 wd) from fun o o' o2 => pw_cell_below (below_alloc3 W o o' o2) m1)
  have u4 := fun o => pw_cell_below (below_alloc (Below.refl W.heap.size W) o) m4
  have q0 := fun o o' => pw_cell_below (below_alloc2 W o o') m0
  have q3 := fun o o' o2 => pw_cell_below (below_alloc3 W o o' o2) m0
  have r0 := fun o1 o2 => pw_cell_below (below_alloc2 W o1 o2) k0
  have r1 := fun o1 o2 => pw_cell_below (below_alloc2 W o1 o2) k1
  have r2 := fun o1 o2 => pw_cell_below (below_alloc2 W o1 o2) k2
  have r3 := fun o1 o2 => pw_cell_below (below_alloc2 W o1 o2) k3
  have r4 := fun o1 o2 => pw_cell_below (below_alloc2 W o1 o2) k4
  have v0 := fun o1 o2 o3 => pw_cell_below (below_alloc3 W o1 o2 o3) k0
  have v1 := fun o1 o2 o3 => pw_cell_below (below_alloc3 W o1 o2 o3) k1
  have v2 := fun o1 o2 o3 => pw_cell_below (below_alloc3 W o1 o2 o3) k2
  have v3 := fun o1 o2 o3 => pw_cell_below (below_alloc3 W o1 o2 o3) k3
  have v4 := fun o1 o2 o3 => pw_cell_below (below_alloc3 W o1 o2 o3) k4
  have hmk := run_makeMap125
  clear hl hx hN m0 m1 m2 m3 m4 k0 k1 k2 k3 k4 hf hM ho h hT hA hp hb
  subst hk
  go_enter Try.func73, Try.ntmps73
  go_wp2_with fail
  go_region
  all_goals go_wp2_with fail
  all_goals go_region
  all_goals go_wp2_with fail
  all_goals
    refine (lwrite_calls g wd ⟨pc, pw⟩ s _ (HM1.out _ _ _) hw ⟨HB.out.1, by have := HB.out; show pc ≤ _; omega⟩ (by have := HB.out; omega)).mono ?_
    rintro e W1 ⟨he, hb1⟩
    rw [writeP_eq] at he
    obtain ⟨q, hqq⟩ : ∃ q, q = wpl ⟨pc, pw⟩ s.data.toList := ⟨_, rfl⟩
    obtain ⟨x, hxx⟩ : ∃ x, x = cst wd (wpl ⟨pc, pw⟩ s.data.toList) - cst wd ⟨pc, pw⟩ := ⟨_, rfl⟩
    simp only at he
    have hA := HA.out
    rw [← hxx, ← hqq] at he hA
    clear hxx hqq HA
    obtain ⟨qc, qw⟩ := q
    have he' : e = .returned (.tuple #[.agg #[.int .i64 qc, .bool qw], .agg #[.int .i64 x, .int .i64 0]]) := he
    subst he'
    have hY : Below (W.heap.size + 1 + 1 + 1) (((W.alloc (.cells #[.int .i64 i, .int .i64 ind, .int .i64 pc, .bool pw] 130)).alloc (.map #[] 0)).alloc (.cells #[.int .i64 0, .string s, .int .i64 n, .int .i64 a, .int .i64 b] 42)) W1 := by
      exact (Below.drew (Below.drew (Below.refl _ _))).trans (hb1.mono (Nat.le_of_eq (alloc3_sz W (.cells #[.int .i64 i, .int .i64 ind, .int .i64 pc, .bool pw] 130) (.map #[] 0) (.cells #[.int .i64 0, .string s, .int .i64 n, .int .i64 a, .int .i64 b] 42)).symm))
    have hsz : W.heap.size + 1 + 1 + 1 ≤ W1.heap.size := by
      have h9 : (((W.alloc (.cells #[.int .i64 i, .int .i64 ind, .int .i64 pc, .bool pw] 130)).alloc (.map #[] 0)).alloc (.cells #[.int .i64 0, .string s, .int .i64 n, .int .i64 a, .int .i64 b] 42)).heap.size ≤ W1.heap.size := hb1.size
      rw [alloc3_sz] at h9
      exact h9
    have n2 : W1.heap[W.heap.size + 1 + 1]? = some (.cells #[.int .i64 0, .string s, .int .i64 n, .int .i64 a, .int .i64 b] 42 (0, 0)) := (hY.block (W.heap.size + 1 + 1) (by omega)).trans (alloc_at2 W _ _ _)
    obtain ⟨X, hX⟩ : ∃ X, X = (W1.alloc (.cells #[.int .i64 qc, .bool qw] 128)).alloc (.cells #[.int .i64 x, .int .i64 0] 36) := ⟨_, rfl⟩
    have hYX : Below (W.heap.size + 1 + 1 + 1) (((W.alloc (.cells #[.int .i64 i, .int .i64 ind, .int .i64 pc, .bool pw] 130)).alloc (.map #[] 0)).alloc (.cells #[.int .i64 0, .string s, .int .i64 n, .int .i64 a, .int .i64 b] 42)) X := by
      rw [hX]; exact (hY.alloc hsz (.cells #[.int .i64 qc, .bool qw] 128)).alloc (Nat.le_trans hsz (by rw [alloc_sz]; exact Nat.le_succ _)) _
    have hWX : Below W.heap.size W X := (below_alloc3 W _ _ _).trans (hYX.mono (by omega))
    obtain ⟨X2, hu1, ho2, X3, hu2, hpost⟩ := best_one (s := ⟨i, ind, ⟨pc, pw⟩⟩) HM.out HTT.out hWX ((new_map W _ _).move (hYX.block (W.heap.size + 1) (by omega))) ⟨qc, qw⟩ ⟨x, 0, []⟩ hA
    have hE := EndF.of HM4.out ((show Only (· = W.heap.size + 1) _ _ from ⟨hYX.os, hYX.tape, hYX.output, hYX.size, fun j hj _ => hYX.block j (by simp only [alloc_sz] at hj; exact hj)⟩).trans ho2) (fun k hk e => by omega)
    have hu1' : Sem.run Try.prog (mapUpdate 125 (.map (some (W.heap.size + 1))) (.agg #[.int .i64 qc, .bool qw]) (.agg #[.int .i64 x, .int .i64 0, .string ⟨#[]⟩])) ((W1.alloc (.cells #[.int .i64 qc, .bool qw] 128)).alloc (.cells #[.int .i64 x, .int .i64 0] 36)) = .ok () X2 := by rw [← hX]; exact hu1
    have hu2' : Sem.run Try.prog (mapUpdate 121 (.map (some gm)) (.agg #[.int .i64 i, .int .i64 ind, .int .i64 pc, .bool pw]) (.map (some (W.heap.size + 1)))) X2.drew = .ok () X3 := hu2
    obtain ⟨x4, t0, t1, t2, t3⟩ := hE
    have y4 : X2.drew.cell? ⟨g, 4, none⟩ = some (.map (some gm)) := x4
    have s0 : X2.drew.cell? ⟨W.heap.size, 0, none⟩ = some (.int .i64 i) := t0
    have s1 : X2.drew.cell? ⟨W.heap.size, 1, none⟩ = some (.int .i64 ind) := t1
    have s2 : X2.drew.cell? ⟨W.heap.size, 2, none⟩ = some (.int .i64 pc) := t2
    have s3 : X2.drew.cell? ⟨W.heap.size, 3, none⟩ = some (.bool pw) := t3
    have HP := Aside0.mk hpost
    clear hpost hu1 hu2 ho2 hWX hYX hX n2 hsz hY hb1 he hA
    go_wp2_with fail
    go_region
    all_goals go_wp2_with fail
    all_goals go_ret
    all_goals exact HP.out
end Go.Proofs.Ythmmdmnbcecooaa.A
end

section
namespace Go.Proofs.Ythmmdmnbcecooaa.A
open Go.RowKit Go.Proofs.YthmmdmnbcecooaaW.PrintWords Go.Proofs.YthmmdmnbcecooaaW.PrintLast Go.Proofs.YthmmdmnbcecooaaW.PrintMore
open Go.Instr (lookup mapUpdate)
attribute [local go_sem] max2_int max_two
set_option linter.unusedVariables false
set_option linter.unusedSimpArgs false
theorem LSt.ne {w0 : World} {g gm : Nat} {l : List S42} {wd : Int} {gz : List Int} {hd : List Bool} (h : LSt w0 g gm l wd gz hd) : g ≠ gm := by
  obtain ⟨_, _, _, _, _, _, hb, _⟩ := h.ex
  obtain ⟨es, c, hm⟩ := h.memo
  intro e
  rw [e, hm] at hb
  cases hb
theorem EndF.of2 {g gm i : Nat} {ind pc : Int} {pw : Bool} {W X : World} {m n : Obj} {S : Nat → Prop} (h4 : W.cell? ⟨g, 4, none⟩ = some (.map (some gm)))
    (h : Only S (((W.alloc (.cells #[.int .i64 i, .int .i64 ind, .int .i64 pc, .bool pw] 130)).alloc m).alloc n) X) (hS : ¬ S g) (hS2 : ¬ S W.heap.size) : EndF g gm W.heap.size i ind pc pw X := by
  have n0 : X.heap[W.heap.size]? = some (.cells #[.int .i64 i, .int .i64 ind, .int .i64 pc, .bool pw] 130 (0, 0)) := (h.block _ (by simp only [alloc_sz]; omega) hS2).trans (alloc_at0 W _ _ _)
  have hlt : g < W.heap.size := World.block_lt_of_cell? W _ h4
  have hg : X.heap[g]? = W.heap[g]? := (h.block g (by simp only [alloc_sz]; omega) hS).trans ((below_alloc3 W _ _ _).block g hlt)
  refine ⟨?_, (blk_cell n0 0).trans rfl, (blk_cell n0 1).trans rfl, (blk_cell n0 2).trans rfl, (blk_cell n0 3).trans rfl⟩
  unfold World.cell? at h4 ⊢
  rw [show (X.heap[(⟨g, 4, none⟩ : Addr).block]?) = W.heap[(⟨g, 4, none⟩ : Addr).block]? from hg]
  exact h4
set_option maxHeartbeats 4000000 in
set_option maxRecDepth 100000 in
theorem best_un (w0 W : World) (g gm : Nat) (l : List S42) (wd : Int) (gz : List Int) (hd : List Bool) (h : LSt w0 g gm l wd gz hd) (ho : Only (· = gm) w0 W) (i a' : Nat) (hi : i < l.length) (ind ind2 : Int) (p : Pl) (hk : (l.getD i z42).f0 = 4 ∧ ind2 = ind + (l.getD i z42).f2 ∨ (l.getD i z42).f0 = 5 ∧ ind2 = p.col) (ha' : (l.getD i z42).f3 = (a' : Int)) (hA : ∀ q r, achS wd l ⟨i, ind, p⟩ q r ↔ achS wd l ⟨a', ind2, p⟩ q r) (ih : BestAt w0 g gm l wd a') (M : Int) (h1 : 0 ≤ ind2) (h2 : ind2 ≤ M) (hp : 0 ≤ p.col) (hp2 : p.col ≤ M) (hb : lv (tree l a') * (M + wt (tree l a')) ≤ 1000000000000000) (hz : -1000000000000000 ≤ ind2 ∧ ind2 ≤ 1000000000000000) (MM : List (Sta × Nat)) (T : Nat → Prop) (hM : Mem gm l wd T W MM) (hT : ∀ k, T k → k < W.heap.size) (hf : findP MM ⟨i, ind, p⟩ = none) :
    Calls Try.prog 73 #[.pointer (some ⟨g, 0, none⟩), stV ⟨i, ind, p⟩] W (BestPost gm l wd T ⟨i, ind, p⟩ W) := by
  have hu42 := Try.underlying42
  obtain ⟨k, s, n, a, b, hx⟩ : ∃ k s n a b, l.getD i z42 = ⟨k, s, n, a, b⟩ := ⟨_, _, _, _, _, rfl⟩
  obtain ⟨A0, c0, A2, c2, A3, c3, m0, m1, m2, m3, m4, hN, _, _⟩ := h.cells ho
  obtain ⟨ad, rfl, k0, k1, k2, k3, k4⟩ := hN i hi k s n a b hx
  rw [hx] at hk ha'
  simp only at hk ha' hp hp2
  subst ha'
  obtain ⟨pc, pw⟩ := p
  simp only at hk hp hp2
  have hlt : g < W.heap.size := World.block_lt_of_cell? W _ m1
  have hpp := eq_true (show (0 : Int) ≤ i by omega)
  have hq := eq_true (show (i : Int) < l.length by omega)
  have hl := lookupP_run keyT130 Try.underlying121 (z := .map none) (by intro W; rfl) (hM.map.move (W' := (W.alloc (.cells #[.int .i64 i, .int .i64 ind, .int .i64 pc, .bool pw] 130)).drew) ((below_alloc (Below.refl W.heap.size W) _).block gm hM.map.lt)) ⟨i, ind, ⟨pc, pw⟩⟩
  rw [hf] at hl
  have hl' : Sem.run Try.prog (lookup 121 (.map (some gm)) (.agg #[.int .i64 i, .int .i64 ind, .int .i64 pc, .bool pw]) true) (W.alloc (.cells #[.int .i64 i, .int .i64 ind, .int .i64 pc, .bool pw] 130)).drew = .ok (.tuple #[.map none, .bool false]) (W.alloc (.cells #[.int .i64 i, .int .i64 ind, .int .i64 pc, .bool pw] 130)).drew := hl
  show Calls Try.prog 73 #[.pointer (some ⟨g, 0, none⟩), .agg #[.int .i64 i, .int .i64 ind, .int .i64 pc, .bool pw]] W _
  have HB := Aside0.mk (show (0 ≤ ind2 ∧ ind2 ≤ M) ∧ (0 ≤ pc ∧ pc ≤ M) ∧ lv (tree l a') * (M + wt (tree l a')) ≤ 1000000000000000 from ⟨⟨h1, h2⟩, ⟨hp, hp2⟩, hb⟩)
  have HIH := Aside0.mk ih
  have HO := Aside0.mk ho
  have HNE := Aside0.mk h.ne
  obtain ⟨z1, z2⟩ := hz
  have HM := Aside0.mk hM
  have HTT := Aside0.mk hT
  have HA := Aside0.mk hA
  have HM4 := Aside0.mk m4
  have u4 := fun o => pw_cell_below (below_alloc (Below.refl W.heap.size W) o) m4
  have q0 := fun o o' => pw_cell_below (below_alloc2 W o o') m0
  have q3 := fun o o' o2 => pw_cell_below (below_alloc3 W o o' o2) m0
  have r0 := fun o1 o2 => pw_cell_below (below_alloc2 W o1 o2) k0
  have r1 := fun o1 o2 => pw_cell_below (below_alloc2 W o1 o2) k1
  have r2 := fun o1 o2 => pw_cell_below (below_alloc2 W o1 o2) k2
  have r3 := fun o1 o2 => pw_cell_below (below_alloc2 W o1 o2) k3
  have r4 := fun o1 o2 => pw_cell_below (below_alloc2 W o1 o2) k4
  have v0 := fun o1 o2 o3 => pw_cell_below (below_alloc3 W o1 o2 o3) k0
  have v1 := fun o1 o2 o3 => pw_cell_below (below_alloc3 W o1 o2 o3) k1
  have v2 := fun o1 o2 o3 => pw_cell_below (below_alloc3 W o1 o2 o3) k2
  have v3 := fun o1 o2 o3 => pw_cell_below (below_alloc3 W o1 o2 o3) k3
  have v4 := fun o1 o2 o3 => pw_cell_below (below_alloc3 W o1 o2 o3) k4
  have hmk := run_makeMap125
  clear hl hx hN m0 m1 m2 m3 m4 k0 k1 k2 k3 k4 hf hM ho h hT hA hp hp2 hb h1 h2 ih
  rcases hk with ⟨rfl, hq2⟩ | ⟨rfl, hq2⟩
  all_goals
    replace hq2 := hq2.symm
    subst hq2
    go_enter Try.func73, Try.ntmps73
    go_wp2_with fail
    go_region
    all_goals go_wp2_with fail
    all_goals go_region
    all_goals go_wp2_with fail
    all_goals
      refine (HIH.out _ _ ⟨pc, pw⟩ M MM (fun k => T k ∨ (W.heap.size ≤ k ∧ k < W.heap.size + 1 + 1 + 1)) ((((HO.out.alloc _).alloc _).alloc _).drew.drew) (HM.out.more (((((Only.refl _ _).alloc _).alloc _).alloc _).drew.drew) (fun k hk => hk.imp id And.left)) (fun k hk => by
        show k < (((W.alloc _).alloc _).alloc _).heap.size
        rw [alloc3_sz]
        rcases hk with hk | hk
        · have := HTT.out k hk; omega
        · exact hk.2) HB.out.1.1 HB.out.1.2 HB.out.2.1.1 HB.out.2.1.2 HB.out.2.2).mono ?_
      rintro e W1 ⟨r, ps, MM', rfl, hr, hbm, hM1, hnT, hng, hO1⟩
      have hOY := (show Only (· = gm) (((W.alloc _).alloc _).alloc _) W1 from (Only.drew (.drew (.refl _ _))).trans hO1)
      have hE := EndF.of2 HM4.out hOY HNE.out (fun e => by have := HM.out.map.lt; omega)
      obtain ⟨o, hu2, hpost⟩ := best_fin (W0 := W) (T := T) (s := ⟨i, _, ⟨pc, pw⟩⟩) hM1 (fun _ => .inl) hr (hbm.congr (fun q r => (HA.out q r).symm)) (fun e => hnT (.inl e)) hng ((Only.of_below (below_alloc3 W _ _ _)).trans hOY)
      have hu2' := hu2
      simp only [stV] at hu2'
      obtain ⟨x4, t0, t1, t2, t3⟩ := hE
      have y4 : W1.drew.cell? ⟨g, 4, none⟩ = some (.map (some gm)) := x4
      have s0 : W1.drew.cell? ⟨W.heap.size, 0, none⟩ = some (.int .i64 i) := t0
      have s1 := (show W1.drew.cell? ⟨W.heap.size, 1, none⟩ = some (.int .i64 _) from t1)
      have s2 : W1.drew.cell? ⟨W.heap.size, 2, none⟩ = some (.int .i64 pc) := t2
      have s3 : W1.drew.cell? ⟨W.heap.size, 3, none⟩ = some (.bool pw) := t3
      have HP := Aside0.mk hpost
      clear hpost hu2 hOY hO1 hnT hng hM1 hbm hr
      go_wp2_with fail
      go_region
      all_goals go_wp2_with fail
      all_goals go_ret
      all_goals exact HP.out
end Go.Proofs.Ythmmdmnbcecooaa.A
end

section
namespace Go.Proofs.Ythmmdmnbcecooaa.A
open Go.RowKit Go.Proofs.YthmmdmnbcecooaaW.PrintWords Go.Proofs.YthmmdmnbcecooaaW.PrintLast Go.Proofs.YthmmdmnbcecooaaW.PrintMore
open Go.Instr Go.ChangeMaps
set_option linter.unusedVariables false
set_option linter.unusedSimpArgs false
section
variable {K V : Type} {ke : K → Value} {ve : V → Value}
theorem entP_split : ∀ {E1 : List MapEntry} {e : MapEntry} {E2 : List MapEntry} {ps : List (K × V)}, EntP ke ve (E1 ++ e :: E2) ps → ∃ L1 p L2, ps = L1 ++ p :: L2 ∧ EntP ke ve E1 L1 ∧ (e.key = ke p.1 ∧ e.val = ve p.2) ∧ EntP ke ve E2 L2
  | [], e, E2, [], h => h.elim
  | [], e, E2, p :: ps, h => ⟨[], p, ps, rfl, trivial, ⟨h.1, h.2.1⟩, h.2.2⟩
  | x :: E1, e, E2, [], h => h.elim
  | x :: E1, e, E2, p :: ps, h => by
    obtain ⟨L1, q, L2, rfl, h1, h2, h3⟩ := entP_split (E1 := E1) h.2.2
    exact ⟨p :: L1, q, L2, rfl, ⟨h.1, h.2.1, h1⟩, h2, h3⟩
theorem entP_app : ∀ {E1 E2 : List MapEntry} {L1 L2 : List (K × V)}, EntP ke ve E1 L1 → EntP ke ve E2 L2 → EntP ke ve (E1 ++ E2) (L1 ++ L2)
  | [], E2, [], L2, _, h => h
  | [], E2, _ :: _, L2, h, _ => h.elim
  | _ :: _, E2, [], L2, h, _ => h.elim
  | x :: E1, E2, p :: L1, L2, h, k => ⟨h.1, h.2.1, entP_app h.2.2 k⟩
theorem left_push (es : Array MapEntry) (seen : Array Nat) (b : Nat) : (leftOf es (seen.push b)).toList = (leftOf es seen).toList.filter fun x => x.born != b := by
  unfold leftOf
  rw [Array.toList_filter, Array.toList_filter, List.filter_filter]
  apply List.filter_congr
  intro x _
  simp only [Array.contains_push]
  cases h1 : seen.contains x.born <;> cases h2 : (x.born == b) <;> simp_all
theorem filter_born {E1 E2 : List MapEntry} {e : MapEntry} (hn : ((E1 ++ e :: E2).map (·.born)).Nodup) : (E1 ++ e :: E2).filter (fun x => x.born != e.born) = E1 ++ E2 := by
  rw [List.map_append, List.map_cons, List.nodup_append, List.nodup_cons] at hn
  obtain ⟨_, ⟨h2, _⟩, h3⟩ := hn
  rw [List.filter_append, List.filter_cons]
  have a1 : E1.filter (fun x => x.born != e.born) = E1 := List.filter_eq_self.2 (fun x hx => bne_iff_ne.2 (h3 _ (List.mem_map.2 ⟨x, hx, rfl⟩) _ (by simp)))
  have a2 : E2.filter (fun x => x.born != e.born) = E2 := List.filter_eq_self.2 (fun x hx => bne_iff_ne.2 (fun h => h2 (h ▸ List.mem_map.2 ⟨x, hx, rfl⟩)))
  rw [a1, a2]
  simp
/-- Block r is an iterator of map block bm, which reads as ps; L is still to come. -/
def ItP (ke : K → Value) (ve : V → Value) (W : World) (r bm : Nat) (ps L : List (K × V)) : Prop :=
  ∃ (es : Array MapEntry) (clock since c0 : Nat) (seen : Array Nat), W.heap[r]? = some (.mapIter (some bm) since seen c0) ∧ W.heap[bm]? = some (.map es clock) ∧ EntP ke ve es.toList ps ∧ (es.toList.map (·.born)).Nodup ∧ (∀ x ∈ es.toList, x.born < since) ∧ since ≤ c0 ∧ since ≤ clock ∧ EntP ke ve (leftOf es seen).toList L
theorem ItP.move {W W' : World} {r bm : Nat} {ps L : List (K × V)} (h : ItP ke ve W r bm ps L) (h1 : W'.heap[r]? = W.heap[r]?) (h2 : W'.heap[bm]? = W.heap[bm]?) : ItP ke ve W' r bm ps L := by
  obtain ⟨es, clock, since, c0, seen, a, b, c⟩ := h
  exact ⟨es, clock, since, c0, seen, h1.trans a, h2.trans b, c⟩
theorem ItP.lt {W : World} {r bm : Nat} {ps L : List (K × V)} (h : ItP ke ve W r bm ps L) : r < W.heap.size ∧ bm < W.heap.size ∧ r ≠ bm := by
  obtain ⟨es, clock, since, c0, seen, a, b, c⟩ := h
  exact ⟨(Array.getElem?_eq_some_iff.1 a).1, (Array.getElem?_eq_some_iff.1 b).1, fun e => by rw [e, b] at a; cases a⟩
theorem ItP.start {W : World} {bm : Nat} {ps : List (K × V)} [DecidableEq K] {t k e : TypeId} (h : MapP ke ve W bm ps) (ht : Try.prog.underlying t = some (.map k e)) :
    ∃ o, Sem.run Try.prog (Instr.range t (.map (some bm))) W = .ok (.pointer (some ⟨W.heap.size, 0, none⟩)) (W.alloc o) ∧ ItP ke ve (W.alloc o) W.heap.size bm ps ps := by
  obtain ⟨⟨es, c, hg, he, hb, hn⟩, hd⟩ := h
  have hlt := (Array.getElem?_eq_some_iff.1 hg).1
  refine ⟨_, run_range_map W t k e bm es c ht hg, es, c, c, c, #[], heap_alloc_new W _, ((below_alloc (Below.refl _ _) _).block bm hlt).trans hg, he, hn, hb, Nat.le_refl _, Nat.le_refl _, ?_⟩
  have : leftOf es #[] = es := by unfold leftOf; exact Array.filter_eq_self.2 (fun x _ => by simp)
  rw [this]
  exact he
theorem ItP.next {W : World} {r bm : Nat} {ps L : List (K × V)} (h : ItP ke ve W r bm ps L) (ty : TypeId) :
    (L = [] ∧ Sem.run Try.prog (Instr.next (.pointer (some ⟨r, 0, none⟩)) false ty) W = .ok (.tuple #[.bool false]) W) ∨
    ∃ L1 p L2 o w1, L = L1 ++ p :: L2 ∧ (w1 = W ∨ w1 = W.drew) ∧ Sem.run Try.prog (Instr.next (.pointer (some ⟨r, 0, none⟩)) false ty) W = .ok (.tuple #[.bool true, ke p.1, ve p.2]) (setBlock w1 r o) ∧ ItP ke ve (setBlock w1 r o) r bm ps (L1 ++ L2) ∧
      Sem.run Try.prog (Instr.entry (.pointer (some ⟨r, 0, none⟩))) (setBlock w1 r o) = .ok (.tuple #[ke p.1, ve p.2]) (setBlock w1 r o) := by
  have hl := h.lt
  obtain ⟨es, clock, since, c0, seen, a, b, he, hn, hs, hsc, hsk, hL⟩ := h
  rcases run_next_at (P := Try.prog) W ty r bm since c0 seen es clock a b hs hsc with ⟨h0, hr⟩ | ⟨e, hm, w1, hw, hr⟩
  · left
    refine ⟨?_, hr⟩
    have : (leftOf es seen).toList = [] := List.eq_nil_of_length_eq_zero (by rw [Array.length_toList]; exact h0)
    rw [this] at hL
    cases L with
    | nil => rfl
    | cons p t => exact hL.elim
  · right
    obtain ⟨E1, E2, hE⟩ := List.append_of_mem hm
    rw [hE] at hL
    obtain ⟨L1, p, L2, rfl, h1, ⟨h2, h3⟩, h4⟩ := entP_split hL
    rw [h2, h3] at hr
    have hmem : e ∈ es.toList := by unfold leftOf at hm; simp at hm ⊢; exact hm.1
    have hn' : ((E1 ++ e :: E2).map (·.born)).Nodup := by
      rw [← hE]
      refine List.Nodup.sublist (List.Sublist.map _ ?_) hn
      unfold leftOf
      rw [Array.toList_filter]
      exact List.filter_sublist
    have e1 : (setBlock w1 r (.mapIter (some bm) since (seen.push e.born) clock)).heap[r]? = some (.mapIter (some bm) since (seen.push e.born) clock) := by
      have : r < w1.heap.size := by rcases hw with rfl | rfl <;> exact hl.1
      simp [setBlock, Array.getElem?_setIfInBounds, this]
    have e2 : (setBlock w1 r (.mapIter (some bm) since (seen.push e.born) clock)).heap[bm]? = some (.map es clock) := by
      have : w1.heap[bm]? = W.heap[bm]? := by rcases hw with rfl | rfl <;> rfl
      simp only [setBlock, Array.getElem?_setIfInBounds, if_neg hl.2.2, this, b]
    refine ⟨L1, p, L2, _, w1, rfl, hw, hr, ⟨es, clock, since, clock, seen.push e.born, e1, e2, he, hn, hs, hsk, hsk, ?_⟩, ?_⟩
    · rw [left_push, hE, filter_born hn']
      exact entP_app h1 h4
    · have := run_entry_at (P := Try.prog) _ r bm since seen es clock e e1 e2 hmem hn
      rw [h2, h3] at this
      exact this
end
end Go.Proofs.Ythmmdmnbcecooaa.A
end

section
namespace Go.Proofs.Ythmmdmnbcecooaa.A
open Go.RowKit Go.Proofs.YthmmdmnbcecooaaW.PrintWords Go.Proofs.YthmmdmnbcecooaaW.PrintLast Go.Proofs.YthmmdmnbcecooaaW.PrintMore
open Go.Instr (lookup mapUpdate)
open Go.ChangeMaps (setBlock)
attribute [local go_sem] max2_int max_two
set_option linter.unusedVariables false
set_option linter.unusedSimpArgs false
theorem only_set {wr w1 : World} (h : w1 = wr ∨ w1 = wr.drew) (r : Nat) (o : Obj) : Only (· = r) wr (setBlock w1 r o) := by
  rcases h with rfl | rfl
  · exact Only.put (S := (· = r)) _ rfl o
  · exact (Only.drew (.refl _ _)).trans (Only.put (S := (· = r)) _ rfl o)
theorem Only.both {S T : Nat → Prop} {a b c : World} (h : Only S a b) (k : Only T b c) : Only (fun i => S i ∨ T i) a c :=
  (h.widen (fun _ _ => .inl)).trans (k.widen (fun _ _ => .inr))
theorem fresh_key {ps D L1 L2 : List (Pl × Res)} {q : Pl} {x : Res} (hn : (ps.map (·.1)).Nodup) (hp : ps.Perm (D ++ (L1 ++ (q, x) :: L2))) {x' : Res} (hm : (q, x') ∈ D) : False := by
  have h1 : ((D ++ (L1 ++ (q, x) :: L2)).map (·.1)).Nodup := (hp.map (·.1)).nodup_iff.1 hn
  rw [List.map_append, List.nodup_append] at h1
  exact h1.2.2 q (List.mem_map.2 ⟨_, hm, rfl⟩) q (List.mem_map.2 ⟨(q, x), by simp, rfl⟩) rfl
theorem grp_best {ps P7 D : List (Pl × Res)} {C : Pl → Res → Prop} (hbm : BestM ps C) (hn : (ps.map (·.1)).Nodup) (hp : ps.Perm D) (h : BestM P7 (fun q r => ∃ x, (q, x) ∈ D ∧ r = x.grp)) : BestM P7 (fun q r => ∃ x, C q x ∧ r = x.grp) :=
  h.sub (fun q r ⟨x, hx, e⟩ => ⟨x, hbm.mem ((findP_mem hn _ _).2 (hp.mem_iff.2 hx)), e⟩) (fun q r ⟨x, hc, e⟩ => by
    obtain ⟨m, hm, hl⟩ := hbm.least hc
    exact ⟨m.grp, ⟨m, hp.mem_iff.1 ((findP_mem hn _ _).1 hm), rfl⟩, by rw [e]; exact grp_mono hl⟩)
theorem repeat_zeros (c : Nat) : (⟨(Lib.repeatL (⟨#[0]⟩ : ByteArray).data.toList c).toArray⟩ : ByteArray) = ⟨(List.replicate c (0 : UInt8)).toArray⟩ := by
  congr 2
  show Lib.repeatL [0] c = _
  induction c with
  | zero => rfl
  | succ c ih => first | (rw [Lib.repeatL, ih]; rfl) | (simp only [Lib.repeatL, ih, List.replicate_succ]; rfl)
theorem achS_hard {wd : Int} {l : List S42} {i a' : Nat} {ind : Int} {p : Pl} (ht : tree l i = .group i (tree l a')) (hh : hardT (tree l a') = true) (q : Pl) (r : Res) : (∃ x, achS wd l ⟨a', ind, p⟩ q x ∧ r = x.grp) ↔ achS wd l ⟨i, ind, p⟩ q r := by
  unfold achS
  simp only [ht, ach, hh, if_true, List.nil_append, List.mem_map, Prod.exists, Prod.mk.injEq]
  constructor
  · rintro ⟨x, hx, rfl⟩; exact ⟨q, x, hx, rfl, rfl⟩
  · rintro ⟨q1, x, hx, rfl, rfl⟩; exact ⟨x, hx, rfl⟩
theorem achS_soft {wd : Int} {l : List S42} {i a' : Nat} {ind : Int} {p : Pl} (ht : tree l i = .group i (tree l a')) (hh : hardT (tree l a') = false) (q : Pl) (r : Res) : ((∃ x, achS wd l ⟨a', ind, p⟩ q x ∧ r = x.grp) ∨ (q = fpl (tree l a') p ∧ r = ⟨cst wd (fpl (tree l a') p) - cst wd p, 0, List.replicate (ng (tree l a') + 1) 0⟩)) ↔ achS wd l ⟨i, ind, p⟩ q r := by
  unfold achS
  simp only [ht, ach, hh, Bool.false_eq_true, if_false, List.cons_append, List.nil_append, List.mem_cons, List.mem_map, Prod.exists, Prod.mk.injEq]
  constructor
  · rintro (⟨x, hx, rfl⟩ | h)
    · exact .inr ⟨q, x, hx, rfl, rfl⟩
    · exact .inl h
  · rintro (h | ⟨q1, x, hx, rfl, rfl⟩)
    · exact .inr h
    · exact .inl ⟨x, hx, rfl⟩
set_option maxHeartbeats 4000000 in
set_option maxRecDepth 100000 in
theorem best_grp (w0 W : World) (g gm : Nat) (l : List S42) (wd : Int) (gz : List Int) (hd : List Bool) (h : LSt w0 g gm l wd gz hd) (ho : Only (· = gm) w0 W) (i a' : Nat) (hi : i < l.length) (ind : Int) (p : Pl) (hk : (l.getD i z42).f0 = 6) (ha' : (l.getD i z42).f3 = (a' : Int)) (ih : BestAt w0 g gm l wd a') (ihf : FlatAt w0 g gm l wd a') (hgl : gz.length = l.length) (hdl : hd.length = l.length) (hgz : gz.getD i 0 = ((ng (tree l a') + 1 : Nat) : Int)) (hhd : hd.getD i false = hardT (tree l a')) (ht : tree l i = .group i (tree l a')) (hng : ng (tree l a') ≤ 1000000000) (M : Int) (h1 : 0 ≤ ind) (h2 : ind ≤ M) (hp : 0 ≤ p.col) (hp2 : p.col ≤ M) (hb : lv (tree l a') * (M + wt (tree l a')) ≤ 1000000000000000) (MM : List (Sta × Nat)) (T : Nat → Prop) (hM : Mem gm l wd T W MM) (hT : ∀ k, T k → k < W.heap.size) (hf : findP MM ⟨i, ind, p⟩ = none) :
    Calls Try.prog 73 #[.pointer (some ⟨g, 0, none⟩), stV ⟨i, ind, p⟩] W (BestPost gm l wd T ⟨i, ind, p⟩ W) := by
  have hu42 := Try.underlying42
  obtain ⟨k, s, n, a, b, hx⟩ : ∃ k s n a b, l.getD i z42 = ⟨k, s, n, a, b⟩ := ⟨_, _, _, _, _, rfl⟩
  obtain ⟨A0, c0, A2, c2, A3, c3, m0, m1, m2, m3, m4, hN, _, _⟩ := h.cells ho
  obtain ⟨ad, rfl, k0, k1, k2, k3, k4⟩ := hN i hi k s n a b hx
  rw [hx] at hk ha'
  simp only at hk ha' hp hp2
  subst ha'
  obtain ⟨pc, pw⟩ := p
  simp only at hk hp hp2
  have hlt : g < W.heap.size := World.block_lt_of_cell? W _ m1
  have hpp := eq_true (show (0 : Int) ≤ i by omega)
  have hq := eq_true (show (i : Int) < l.length by omega)
  have hl := lookupP_run keyT130 Try.underlying121 (z := .map none) (by intro W; rfl) (hM.map.move (W' := (W.alloc (.cells #[.int .i64 i, .int .i64 ind, .int .i64 pc, .bool pw] 130)).drew) ((below_alloc (Below.refl W.heap.size W) _).block gm hM.map.lt)) ⟨i, ind, ⟨pc, pw⟩⟩
  rw [hf] at hl
  have hl' : Sem.run Try.prog (lookup 121 (.map (some gm)) (.agg #[.int .i64 i, .int .i64 ind, .int .i64 pc, .bool pw]) true) (W.alloc (.cells #[.int .i64 i, .int .i64 ind, .int .i64 pc, .bool pw] 130)).drew = .ok (.tuple #[.map none, .bool false]) (W.alloc (.cells #[.int .i64 i, .int .i64 ind, .int .i64 pc, .bool pw] 130)).drew := hl
  show Calls Try.prog 73 #[.pointer (some ⟨g, 0, none⟩), .agg #[.int .i64 i, .int .i64 ind, .int .i64 pc, .bool pw]] W _
  have HB := Aside0.mk (show (0 ≤ ind ∧ ind ≤ M) ∧ (0 ≤ pc ∧ pc ≤ M) ∧ lv (tree l a') * (M + wt (tree l a')) ≤ 1000000000000000 from ⟨⟨h1, h2⟩, ⟨hp, hp2⟩, hb⟩)
  have HIH := Aside0.mk ih
  have HO := Aside0.mk ho
  have HNE := Aside0.mk h.ne
  have HLS := Aside0.mk h
  have HBF := Aside0.mk (show 0 ≤ pc ∧ pc + wt (tree l a') ≤ 1000000000000000 from ⟨hp, by
    have g5 := lv_pos (tree l a')
    have g6 : 1 * (M + wt (tree l a')) ≤ (lv (tree l a') : Int) * (M + wt (tree l a')) := Int.mul_le_mul_of_nonneg_right (by omega) (by omega)
    omega⟩)
  have HFL := Aside0.mk ihf
  have HGG := Aside0.mk (And.intro hgl (And.intro hdl (And.intro hgz (And.intro hhd (And.intro ht hi)))))
  have HM := Aside0.mk hM
  have HTT := Aside0.mk hT
  have HM4 := Aside0.mk m4
  have u4 := fun o => pw_cell_below (below_alloc (Below.refl W.heap.size W) o) m4
  have q0 := fun o o' => pw_cell_below (below_alloc2 W o o') m0
  have q3 := fun o o' o2 => pw_cell_below (below_alloc3 W o o' o2) m0
  have r0 := fun o1 o2 => pw_cell_below (below_alloc2 W o1 o2) k0
  have r1 := fun o1 o2 => pw_cell_below (below_alloc2 W o1 o2) k1
  have r2 := fun o1 o2 => pw_cell_below (below_alloc2 W o1 o2) k2
  have r3 := fun o1 o2 => pw_cell_below (below_alloc2 W o1 o2) k3
  have r4 := fun o1 o2 => pw_cell_below (below_alloc2 W o1 o2) k4
  have v0 := fun o1 o2 o3 => pw_cell_below (below_alloc3 W o1 o2 o3) k0
  have v1 := fun o1 o2 o3 => pw_cell_below (below_alloc3 W o1 o2 o3) k1
  have v2 := fun o1 o2 o3 => pw_cell_below (below_alloc3 W o1 o2 o3) k2
  have v3 := fun o1 o2 o3 => pw_cell_below (below_alloc3 W o1 o2 o3) k3
  have v4 := fun o1 o2 o3 => pw_cell_below (below_alloc3 W o1 o2 o3) k4
  have hmk := run_makeMap125
  clear hgl hdl hgz hhd ht ihf
  clear hl hx hN m0 m1 m2 m3 m4 k0 k1 k2 k3 k4 hf hM ho h hT hp hp2 hb h1 h2 ih
  subst hk
  go_enter Try.func73, Try.ntmps73
  go_wp2_with fail
  go_region
  all_goals go_wp2_with fail
  all_goals go_region
  all_goals go_wp2_with fail
  all_goals
    refine (HIH.out _ _ ⟨pc, pw⟩ M MM (fun k => T k ∨ (W.heap.size ≤ k ∧ k < W.heap.size + 1 + 1 + 1)) ((((HO.out.alloc _).alloc _).alloc _).drew.drew) (HM.out.more (((((Only.refl _ _).alloc _).alloc _).alloc _).drew.drew) (fun k hk => hk.imp id And.left)) (fun k hk => by
      show k < (((W.alloc _).alloc _).alloc _).heap.size
      rw [alloc3_sz]
      rcases hk with hk | hk
      · have := HTT.out k hk; omega
      · exact hk.2) HB.out.1.1 HB.out.1.2 HB.out.2.1.1 HB.out.2.1.2 HB.out.2.2).mono ?_
    rintro e W1 ⟨r, ps, MM', rfl, hr, hbm, hM1, hnT, hng1, hO1⟩
    have hOY := (show Only (· = gm) (((W.alloc _).alloc _).alloc _) W1 from (Only.drew (.drew (.refl _ _))).trans hO1)
    obtain ⟨o1, hrg, hIt⟩ := ItP.start hr Try.underlying125
    have HOY := Aside0.mk hOY
    have HIT := Aside0.mk hIt
    have HR := Aside0.mk hr
    have HBM := Aside0.mk hbm
    have HM1 := Aside0.mk hM1
    have HNT := Aside0.mk hnT
    have hs1 : W.heap.size + 1 + 1 + 1 ≤ W1.heap.size := by have h9 := hOY.size; rw [alloc3_sz] at h9; exact h9
    have HS1 := Aside0.mk hs1
    have HNM := Aside0.mk (show MapP plV rsV (W1.alloc o1) (W.heap.size + 1) ([] : List (Pl × Res)) from ((new_map W _ _).move (hOY.block (W.heap.size + 1) (by rw [alloc3_sz]; omega) (by have := HM.out.map.lt; omega))).move ((below_alloc (Below.refl W1.heap.size W1) o1).block (W.heap.size + 1) (by omega)))
    clear hOY hIt hr hbm hM1 hnT hO1 hs1
    go_wp2_with fail
    go_loopg [160] ps.length (fun d v160 Wc => ∃ (v : Value) (D L P7 : List (Pl × Res)), v = v160 ∧ Aside0 (L.length = d) ∧ Aside0 (ItP plV rsV Wc W1.heap.size r ps L) ∧ Aside0 (ps.Perm (D ++ L)) ∧ Aside0 (MapP plV rsV Wc (W.heap.size + 1) P7) ∧ Aside0 (BestM P7 (fun q r => ∃ x, (q, x) ∈ D ∧ r = x.grp)) ∧ Aside0 (Only (· = W.heap.size + 1) W1 Wc))
    case atStart => exact ⟨_, [], ps, [], rfl, ⟨rfl⟩, HIT, ⟨List.Perm.refl _⟩, HNM, ⟨BestM.nil.congr (fun q r => by simp)⟩, ⟨(Only.refl _ _).alloc _⟩⟩
    case round =>
      obtain ⟨v, D, L, P7, rfl, HLN, HIT2, HPM, HM7, HB7, HO7⟩ := hrel
      rcases HIT2.out.next 0 with ⟨hL0, hnx⟩ | ⟨L1, ⟨q, x⟩, L2, o, w1, hLL, hw1, hnx, hit, hen⟩
      · go_wp2_with fail
        have hOY2 : Only (fun k => k = gm ∨ k = W.heap.size + 1) (((W.alloc (.cells #[.int .i64 i, .int .i64 ind, .int .i64 pc, .bool pw] 130)).alloc (.map #[] 0)).alloc (.cells #[.int .i64 6, .string s, .int .i64 n, .int .i64 a', .int .i64 b] 42)) wr := HOY.out.both HO7.out
        have hO2 : Only (· = gm) W wr := ((Only.of_below (below_alloc3 W _ _ _) : Only (fun k => k = gm ∨ k = W.heap.size + 1) W _).trans hOY2).widen (fun j hj e => by omega)
        have hgm : gm < W.heap.size := HM.out.map.lt
        have hE := EndF.of2 HM4.out hOY2 (fun e => by rcases e with e | e; exact HNE.out e; omega) (fun e => by omega)
        have n2 : wr.heap[W.heap.size + 1 + 1]? = some (.cells #[.int .i64 6, .string s, .int .i64 n, .int .i64 a', .int .i64 b] 42 (0, 0)) := (hOY2.block (W.heap.size + 1 + 1) (by rw [alloc3_sz]; omega) (fun e => by omega)).trans (alloc_at2 W _ _ _)
        have hO3 : Only (· = gm) w0 wr := HO.out.trans hO2
        have HO2 := Aside0.mk hO2
        have HO3 := Aside0.mk hO3
        have HOY2 := Aside0.mk hOY2
        obtain ⟨A0', c0', A2', c2', A3', c3', _, _, d2, d3, _, _, hN2, hN3⟩ := HLS.out.cells hO3
        obtain ⟨hgl, hdl, hgz, hhd, ht, hi'⟩ := HGG.out
        obtain ⟨ad3, rfl, k3'⟩ := hN3 i (by omega)
        obtain ⟨ad2, rfl, k2'⟩ := hN2 i (by omega)
        rw [hhd] at k3'
        rw [hgz] at k2'
        have hM2 : Mem gm l wd (fun k => T k ∨ (W.heap.size ≤ k ∧ k < W.heap.size + 1 + 1 + 1)) wr MM' := HM1.out.move (HO7.out.widen (fun j hj e => .inr (by omega)))
        have hq2 := eq_true (show (i : Int) < gz.length by omega)
        have hq3 := eq_true (show (i : Int) < hd.length by omega)
        have hperm : ps.Perm D := by have := HPM.out; rw [hL0, List.append_nil] at this; exact this
        have hbest := grp_best HBM.out HR.out.nd hperm HB7.out
        have HM2 := Aside0.mk hM2
        have HBB := Aside0.mk hbest
        have HT2 := Aside0.mk ht
        obtain ⟨x4, t0, t1, t2, t3⟩ := hE
        have x4' : wr.drew.cell? ⟨g, 4, none⟩ = some (.map (some gm)) := x4
        have t0' : wr.drew.cell? ⟨W.heap.size, 0, none⟩ = some (.int .i64 i) := t0
        have t1' : wr.drew.cell? ⟨W.heap.size, 1, none⟩ = some (.int .i64 ind) := t1
        have t2' : wr.drew.cell? ⟨W.heap.size, 2, none⟩ = some (.int .i64 pc) := t2
        have t3' : wr.drew.cell? ⟨W.heap.size, 3, none⟩ = some (.bool pw) := t3
        have x4'' : wr.drew.drew.cell? ⟨g, 4, none⟩ = some (.map (some gm)) := x4
        have t0'' : wr.drew.drew.cell? ⟨W.heap.size, 0, none⟩ = some (.int .i64 i) := t0
        have t1'' : wr.drew.drew.cell? ⟨W.heap.size, 1, none⟩ = some (.int .i64 ind) := t1
        have t2'' : wr.drew.drew.cell? ⟨W.heap.size, 2, none⟩ = some (.int .i64 pc) := t2
        have t3'' : wr.drew.drew.cell? ⟨W.heap.size, 3, none⟩ = some (.bool pw) := t3
        have d3' : wr.drew.cell? ⟨g, 3, none⟩ = some (.slice (some ad3) hd.length c3') := d3
        have b3 : wr.cell? ⟨W.heap.size + 1 + 1, 3, none⟩ = some (.int .i64 a') := (blk_cell n2 3).trans rfl
        have b3' : wr.drew.cell? ⟨W.heap.size + 1 + 1, 3, none⟩ = some (.int .i64 a') := b3
        have D2 := Aside0.mk d2
        have K2 := Aside0.mk k2'
        clear hOY2 hO2 hO3 hN2 hN3 hgl hdl hgz hhd ht hi' hM2 hperm hbest n2 d2 k2'
        cases hh : hardT (tree l a') with
        | true =>
          rw [hh] at k3'
          have k3'' : wr.drew.cell? (ad3.add i) = some (.bool true) := k3'
          obtain ⟨o, hu2, hpost⟩ := best_fin (W := wr.drew) (W0 := W) (T := T) (s := ⟨i, ind, ⟨pc, pw⟩⟩) (HM2.out.move (.drew (.refl _ _))) (fun _ => .inl) (HM7.out.move (W' := wr.drew) rfl) (HBB.out.congr (achS_hard HT2.out hh)) (fun e => by have := HTT.out _ e; omega) (by omega) HO2.out.drew
          have hu2' := hu2
          simp only [stV] at hu2'
          have HP := Aside0.mk hpost
          clear hpost hu2 hh hgm
          go_region
          all_goals go_wp2_with fail
          all_goals go_region
          all_goals go_wp2_with fail
          all_goals go_ret
          all_goals exact HP.out
        | false =>
          rw [hh] at k3'
          have k3'' : wr.drew.cell? (ad3.add i) = some (.bool false) := k3'
          have HH := Aside0.mk hh
          clear hh
          go_region
          all_goals go_wp2_with fail
          all_goals
            refine (HFL.out _ ⟨pc, pw⟩ HO3.out.drew HBF.out.1 HBF.out.2).mono ?_
            rintro e W3 ⟨he, hb3⟩
            obtain ⟨q5, hq5⟩ : ∃ q, q = fpl (tree l a') ⟨pc, pw⟩ := ⟨_, rfl⟩
            obtain ⟨x5, hx5⟩ : ∃ x, x = cst wd (fpl (tree l a') ⟨pc, pw⟩) - cst wd ⟨pc, pw⟩ := ⟨_, rfl⟩
            rw [← hx5, ← hq5] at he
            have HQ := Aside0.mk (And.intro hq5 hx5)
            clear hq5 hx5
            obtain ⟨q5c, q5w⟩ := q5
            have he' : e = .returned (.tuple #[.agg #[.int .i64 q5c, .bool q5w], .agg #[.int .i64 x5, .int .i64 0]]) := he
            subst he'
            have HB3 := Aside0.mk (show Below wr.heap.size wr W3 from (below_drew1 (Below.refl _ _)).trans hb3)
            clear he hb3
            go_wp2_with fail
            obtain ⟨X, hX⟩ : ∃ X, X = (W3.alloc (.cells #[.int .i64 q5c, .bool q5w] 128)).alloc (.cells #[.int .i64 x5, .int .i64 0] 36) := ⟨_, rfl⟩
            rw [← hX]
            have hlt3 : wr.heap.size ≤ W3.heap.size := HB3.out.size
            have BX : Below wr.heap.size wr X := by rw [hX]; exact (HB3.out.alloc hlt3 _).alloc (by rw [alloc_sz]; omega) _
            have E18 : X.heap[W3.heap.size]? = some (.cells #[.int .i64 q5c, .bool q5w] 128 (0, 0)) := by rw [hX]; exact alloc2_at0 W3 _ _
            have E19 : X.heap[W3.heap.size + 1]? = some (.cells #[.int .i64 x5, .int .i64 0] 36 (0, 0)) := by rw [hX]; exact heap_alloc2_new W3 _ _
            have HOX := Aside0.mk (HOY2.out.trans (Only.of_below BX))
            have HBX := Aside0.mk BX
            have p0 : X.cell? ⟨W3.heap.size, 0, none⟩ = some (.int .i64 q5c) := (blk_cell E18 0).trans rfl
            have p1 : X.cell? ⟨W3.heap.size, 1, none⟩ = some (.bool q5w) := (blk_cell E18 1).trans rfl
            have s0 : X.cell? ⟨W3.heap.size + 1, 0, none⟩ = some (.int .i64 x5) := (blk_cell E19 0).trans rfl
            have s1 : X.cell? ⟨W3.heap.size + 1, 1, none⟩ = some (.int .i64 0) := (blk_cell E19 1).trans rfl
            have P0 := Aside0.mk (And.intro p0 (And.intro p1 (And.intro s0 s1)))
            have y2 : X.cell? ⟨g, 2, none⟩ = some (.slice (some ad2) gz.length c2') := pw_cell_below BX D2.out
            have ye : X.cell? (ad2.add i) = some (.int .i64 ((ng (tree l a') + 1 : Nat) : Int)) := pw_cell_below BX K2.out
            have yt : X.cell? ⟨W.heap.size, 0, none⟩ = some (.int .i64 i) := pw_cell_below BX t0
            have p0' : X.drew.cell? ⟨W3.heap.size, 0, none⟩ = some (.int .i64 q5c) := p0
            have p1' : X.drew.cell? ⟨W3.heap.size, 1, none⟩ = some (.bool q5w) := p1
            have s0' : X.drew.cell? ⟨W3.heap.size + 1, 0, none⟩ = some (.int .i64 x5) := s0
            have s1' : X.drew.cell? ⟨W3.heap.size + 1, 1, none⟩ = some (.int .i64 0) := s1
            have y2' : X.drew.cell? ⟨g, 2, none⟩ = some (.slice (some ad2) gz.length c2') := y2
            have ye' : X.drew.cell? (ad2.add i) = some (.int .i64 ((ng (tree l a') + 1 : Nat) : Int)) := ye
            have yt' : X.drew.cell? ⟨W.heap.size, 0, none⟩ = some (.int .i64 i) := yt
            obtain ⟨N, hN⟩ : ∃ N, N = ng (tree l a') + 1 := ⟨_, rfl⟩
            rw [← hN] at ye ye'
            have HN := Aside0.mk hN
            have hNb : N ≤ 1000000001 := by omega
            clear hX hlt3 BX E18 E19 hN
            have S0 : X.cell? ⟨W3.heap.size, 0, none⟩ = some (.int .i64 q5c) ∧ X.cell? ⟨W3.heap.size, 1, none⟩ = some (.bool q5w) ∧ X.cell? ⟨W3.heap.size + 1, 0, none⟩ = some (.int .i64 x5) ∧ X.cell? ⟨W3.heap.size + 1, 1, none⟩ = some (.int .i64 0) ∧ X.cell? ⟨g, 2, none⟩ = some (.slice (some ad2) gz.length c2') ∧ X.cell? (ad2.add i) = some (.int .i64 N) ∧ X.cell? ⟨W.heap.size, 0, none⟩ = some (.int .i64 i) := ⟨p0, p1, s0, s1, y2, ye, yt⟩
            have SS : ∀ w', Only (· = W.heap.size + 1) X w' → w'.cell? ⟨W3.heap.size, 0, none⟩ = some (.int .i64 q5c) ∧ w'.cell? ⟨W3.heap.size, 1, none⟩ = some (.bool q5w) ∧ w'.cell? ⟨W3.heap.size + 1, 0, none⟩ = some (.int .i64 x5) ∧ w'.cell? ⟨W3.heap.size + 1, 1, none⟩ = some (.int .i64 0) ∧ w'.cell? ⟨g, 2, none⟩ = some (.slice (some ad2) gz.length c2') ∧ w'.cell? (ad2.add i) = some (.int .i64 N) ∧ w'.cell? ⟨W.heap.size, 0, none⟩ = some (.int .i64 i) := fun w' ho =>
              have hm : ∃ es c, X.heap[W.heap.size + 1]? = some (.map es c) := by
                obtain ⟨⟨es, c, hx, _⟩, _⟩ := HM7.out
                exact ⟨es, c, (HBX.out.block _ HM7.out.lt).trans hx⟩
              ⟨ho.cell hm p0, ho.cell hm p1, ho.cell hm s0, ho.cell hm s1, ho.cell hm y2, ho.cell hm ye, ho.cell hm yt⟩
            have HSS := Aside0.mk SS
            clear SS
            clear P0 u4 q0 q3 r0 r1 r2 r3 r4 v0 v1 v2 v3 v4 hmk x4 x4' x4'' t0 t0' t0'' t1 t1' t1'' t2 t2' t2'' t3 t3' t3'' d3 d3' b3 b3' k3' k3'' hl' hrg hnx
            clear p0 p1 s0 s1 y2 ye yt p0' p1' s0' s1' y2' ye' yt'
            go_region_held3 (fun w' => w'.cell? ⟨W3.heap.size, 0, none⟩ = some (.int .i64 q5c) ∧ w'.cell? ⟨W3.heap.size, 1, none⟩ = some (.bool q5w) ∧ w'.cell? ⟨W3.heap.size + 1, 0, none⟩ = some (.int .i64 x5) ∧ w'.cell? ⟨W3.heap.size + 1, 1, none⟩ = some (.int .i64 0) ∧ w'.cell? ⟨g, 2, none⟩ = some (.slice (some ad2) gz.length c2') ∧ w'.cell? (ad2.add i) = some (.int .i64 N) ∧ w'.cell? ⟨W.heap.size, 0, none⟩ = some (.int .i64 i)) (first | exact S0 | exact HS1.out | exact HS2.out)
              (first
                | (go_at_call 84; refine (Try.strings_Repeat ⟨#[0]⟩ N _ ?_ ?_).mono ?_; (omega); (rw [show (⟨#[0]⟩ : ByteArray).size = 1 from rfl]; omega); rintro e w1 ⟨rfl, hb1⟩; rw [repeat_zeros]; have HB1 := Aside0.mk (show Below X.heap.size X w1 from (below_drew1 (Below.refl _ _)).trans hb1); clear hb1; have HS1 := Aside0.mk (HSS.out _ (Only.of_below HB1.out)))
                | (go_at_call 82; refine (keep82_calls (W.heap.size + 1) P7 ⟨q5c, q5w⟩ ⟨x5, 0, List.replicate N 0⟩ _ ?_).mono ?_; (exact HM7.out.move ((HB1.out.block _ (Nat.lt_of_lt_of_le HM7.out.lt HBX.out.size)).trans (HBX.out.block _ HM7.out.lt))); rintro e w2 ⟨rfl, hk1, hk2⟩; have HK1 := Aside0.mk hk1; have HK2 := Aside0.mk hk2; clear hk1 hk2; have HS2 := Aside0.mk (HSS.out _ ((Only.of_below HB1.out).trans HK2.out))))
            all_goals
              have hO5 := (HOX.out.trans (Only.of_below HB1.out)).trans (HK2.out.widen (T := fun k => k = gm ∨ k = W.heap.size + 1) (fun j _ e => .inr e))
              have hO6 : Only (· = gm) W w2 := ((Only.of_below (below_alloc3 W _ _ _) : Only (fun k => k = gm ∨ k = W.heap.size + 1) W _).trans hO5).widen (fun j hj e => by omega)
              have hO7 : Only (fun k => T k ∨ (W.heap.size ≤ k ∧ k < W.heap.size + 1 + 1 + 1)) wr w2 := ((Only.of_below HBX.out).trans (Only.of_below HB1.out)).trans (HK2.out.widen (fun j _ e => .inr (by omega)))
              obtain ⟨z4, z0, z1, z2, z3⟩ := EndF.of2 HM4.out hO5 (fun e => by rcases e with e | e; exact HNE.out e; omega) (fun e => by omega)
              have z4' : w2.drew.cell? ⟨g, 4, none⟩ = some (.map (some gm)) := z4
              have z0' : w2.drew.cell? ⟨W.heap.size, 0, none⟩ = some (.int .i64 i) := z0
              have z1' : w2.drew.cell? ⟨W.heap.size, 1, none⟩ = some (.int .i64 ind) := z1
              have z2' : w2.drew.cell? ⟨W.heap.size, 2, none⟩ = some (.int .i64 pc) := z2
              have z3' : w2.drew.cell? ⟨W.heap.size, 3, none⟩ = some (.bool pw) := z3
              obtain ⟨o, hu2, hpost⟩ := best_fin (W := w2) (W0 := W) (T := T) (s := ⟨i, ind, ⟨pc, pw⟩⟩) (HM2.out.move hO7) (fun _ => .inl) HK1.out ((HBB.out.keep ⟨q5c, q5w⟩ ⟨x5, 0, List.replicate N 0⟩).congr (fun q r => by
                have h9 := achS_soft (wd := wd) (ind := ind) (p := ⟨pc, pw⟩) HT2.out HH.out q r
                rw [← HQ.out.2, ← HQ.out.1, ← HN.out] at h9
                exact h9)) (fun e => by have := HTT.out _ e; omega) (by omega) hO6
              have hu2' := hu2
              simp only [stV] at hu2'
              have HP := Aside0.mk hpost
              clear hpost hu2 hgm hO5 hO6 hO7
              go_wp2_with fail
              go_region
              all_goals go_wp2_with fail
              all_goals go_ret
              all_goals exact HP.out
      · obtain ⟨q0', q1'⟩ := q
        obtain ⟨x0, x1, x2⟩ := x
        obtain ⟨W2, hW2⟩ : ∃ W2, W2 = setBlock w1 W1.heap.size o := ⟨_, rfl⟩
        rw [← hW2] at hnx hit hen
        have hnx' : Sem.run Try.prog (Instr.next (.pointer (some ⟨W1.heap.size, 0, none⟩)) false 0) wr = .ok (.tuple #[.bool true, .agg #[.int .i64 q0', .bool q1'], .agg #[.int .i64 x0, .int .i64 x1, .string ⟨x2.toArray⟩]]) W2 := hnx
        have hen' : Sem.run Try.prog (Instr.entry (.pointer (some ⟨W1.heap.size, 0, none⟩))) W2 = .ok (.tuple #[.agg #[.int .i64 q0', .bool q1'], .agg #[.int .i64 x0, .int .i64 x1, .string ⟨x2.toArray⟩]]) W2 := hen
        have hlen : x2.length = ng (tree l a') := ach_ch wd (tree l a') _ _ ⟨q0', q1'⟩ ⟨x0, x1, x2⟩ (HBM.out.mem ((findP_mem HR.out.nd _ _).2 (HPM.out.mem_iff.2 (by rw [hLL]; simp))))
        have hov := eq_false (show ¬ (9223372036854775807 < 1 + x2.length) by omega)
        have hstr : (⟨#[1]⟩ : ByteArray) ++ ⟨x2.toArray⟩ = ⟨(1 :: x2).toArray⟩ := by apply ByteArray.ext; simp [ByteArray.data_append]
        have hO2 : Only (· = W1.heap.size) wr W2 := by rw [hW2]; exact only_set hw1 _ _
        have HO2 := Aside0.mk hO2
        have HBK : Aside0 (BestM (putP P7 ⟨q0', q1'⟩ ⟨x0, x1, 1 :: x2⟩) (fun q r => ∃ x, (q, x) ∈ D ++ [(⟨q0', q1'⟩, ⟨x0, x1, x2⟩)] ∧ r = x.grp)) := ⟨by
          have h1 := HB7.out.keep ⟨q0', q1'⟩ ⟨x0, x1, 1 :: x2⟩
          have h2 : findP P7 ⟨q0', q1'⟩ = none := by
            cases hc : findP P7 ⟨q0', q1'⟩ with
            | none => rfl
            | some r0 =>
              obtain ⟨x', hx', _⟩ := HB7.out.mem hc
              exact (fresh_key HR.out.nd (by have := HPM.out; rw [hLL] at this; exact this) hx').elim
          unfold keepL at h1
          rw [h2] at h1
          refine h1.congr (fun q r => ?_)
          simp only [List.mem_append, List.mem_singleton, Prod.mk.injEq]
          constructor
          · rintro (⟨x, hx, rfl⟩ | ⟨rfl, rfl⟩)
            · exact ⟨x, .inl hx, rfl⟩
            · exact ⟨⟨x0, x1, x2⟩, .inr ⟨rfl, rfl⟩, rfl⟩
          · rintro ⟨x, hx | ⟨rfl, rfl⟩, rfl⟩
            · exact .inl ⟨x, hx, rfl⟩
            · exact .inr ⟨rfl, rfl⟩⟩
        have hX : ∃ X2, Sem.run Try.prog (mapUpdate 125 (.map (some (W.heap.size + 1))) (.agg #[.int .i64 q0', .bool q1']) (.agg #[.int .i64 x0, .int .i64 x1, .string (⟨#[1]⟩ ++ ⟨x2.toArray⟩)])) ((W2.alloc (.cells #[.int .i64 q0', .bool q1'] 128)).alloc (.cells #[.int .i64 x0, .int .i64 x1, .string ⟨x2.toArray⟩] 132)) = .ok () X2 ∧ MapP plV rsV X2 (W.heap.size + 1) (putP P7 ⟨q0', q1'⟩ ⟨x0, x1, 1 :: x2⟩) ∧ Only (· = W.heap.size + 1) ((W2.alloc (.cells #[.int .i64 q0', .bool q1'] 128)).alloc (.cells #[.int .i64 x0, .int .i64 x1, .string ⟨x2.toArray⟩] 132)) X2 := by
          rw [hstr]
          exact upd_map (HM7.out.move (((hO2.alloc _).alloc _).block _ HM7.out.lt (by have := HS1.out; omega))) ⟨q0', q1'⟩ ⟨x0, x1, 1 :: x2⟩
        obtain ⟨X2, hu1, hM8, hO8⟩ := hX
        have HM8 := Aside0.mk hM8
        have HO8 := Aside0.mk hO8
        clear hM8 hO8 hlen hstr hO2
        have HIT3 := Aside0.mk hit
        have HW2 := Aside0.mk (And.intro hW2 hw1)
        have HLL := Aside0.mk hLL
        clear hnx hen hit hW2 hw1 hLL
        go_wp2_with fail
        go_roundg (L1 ++ L2).length
        case measure => have h1 := HLN.out; rw [HLL.out] at h1; simp only [List.length_append, List.length_cons] at h1 ⊢; omega
        case rel => exact ⟨_, D ++ [(⟨q0', q1'⟩, ⟨x0, x1, x2⟩)], L1 ++ L2, putP P7 ⟨q0', q1'⟩ ⟨x0, x1, 1 :: x2⟩, rfl, ⟨rfl⟩, ⟨HIT3.out.move ((HO8.out.block _ (by have := HIT3.out.lt.1; simp only [alloc_sz]; omega) (by have := HS1.out; omega)).trans ((below_alloc2 W2 _ _).block _ HIT3.out.lt.1)) ((HO8.out.block _ (by have := HIT3.out.lt.2.1; simp only [alloc_sz]; omega) (fun e => HNT.out (.inr ⟨by omega, by omega⟩))).trans ((below_alloc2 W2 _ _).block _ HIT3.out.lt.2.1))⟩, ⟨by have h1 := HPM.out; rw [HLL.out] at h1; refine h1.trans ?_; rw [List.append_assoc, List.singleton_append]; exact (List.perm_middle).append_left D⟩, HM8, HBK, ⟨((HO7.out.both ((HO2.out.alloc _).alloc _)).both HO8.out).widen (fun i hi e => by rcases e with (e | e) | e <;> omega)⟩⟩
end Go.Proofs.Ythmmdmnbcecooaa.A
end

section
namespace Go.Proofs.Ythmmdmnbcecooaa.A
open Go.RowKit Go.Proofs.YthmmdmnbcecooaaW.PrintWords Go.Proofs.YthmmdmnbcecooaaW.PrintLast Go.Proofs.YthmmdmnbcecooaaW.PrintMore
open Go.Instr (lookup mapUpdate)
open Go.ChangeMaps (setBlock)
attribute [local go_sem] max2_int max_two
set_option linter.unusedVariables false
set_option linter.unusedSimpArgs false
theorem ba_app (x y : List UInt8) : (⟨x.toArray⟩ : ByteArray) ++ ⟨y.toArray⟩ = ⟨(x ++ y).toArray⟩ := by apply ByteArray.ext; simp [ByteArray.data_append]
theorem seq_best {wd : Int} {l : List S42} {i a' b' : Nat} {ind : Int} {p : Pl} (ht : tree l i = .seq (tree l a') (tree l b')) {ps P7 D : List (Pl × Res)} (hbm : BestM ps (achS wd l ⟨a', ind, p⟩)) (hn : (ps.map (·.1)).Nodup) (hp : ps.Perm D)
    (h : BestM P7 (fun q r => ∃ q0 x y, (q0, x) ∈ D ∧ achS wd l ⟨b', ind, q0⟩ q y ∧ r = x.cat y)) : BestM P7 (achS wd l ⟨i, ind, p⟩) := by
  have hs : ∀ q r, achS wd l ⟨i, ind, p⟩ q r ↔ ∃ q0 x y, achS wd l ⟨a', ind, p⟩ q0 x ∧ achS wd l ⟨b', ind, q0⟩ q y ∧ r = x.cat y := fun q r => by
    unfold achS
    simp only [ht, ach, List.mem_flatMap, List.mem_map, Prod.exists, Prod.mk.injEq]
    constructor
    · rintro ⟨q0, x, h1, q1, y, h2, rfl, rfl⟩; exact ⟨q0, x, y, h1, h2, rfl⟩
    · rintro ⟨q0, x, y, h1, h2, rfl⟩; exact ⟨q0, x, h1, q, y, h2, rfl, rfl⟩
  refine BestM.congr ?_ (fun q r => (hs q r).symm)
  refine h.sub (fun q r ⟨q0, x, y, h1, h2, e⟩ => ⟨q0, x, y, hbm.mem ((findP_mem hn _ _).2 (hp.mem_iff.2 h1)), h2, e⟩) (fun q r ⟨q0, x, y, h1, h2, e⟩ => ?_)
  obtain ⟨m, hm, hl⟩ := hbm.least h1
  refine ⟨m.cat y, ⟨q0, m, y, hp.mem_iff.1 ((findP_mem hn _ _).1 hm), h2, rfl⟩, ?_⟩
  rw [e]
  exact cat_mono (by rw [ach_ch wd _ _ _ q0 m (hbm.mem hm), ach_ch wd _ _ _ q0 x h1]) hl (lessR_irrefl _)
theorem inner_best {A C : Pl → Res → Prop} {ps D P : List (Pl × Res)} {x : Res} (hbm : BestM ps C) (hn : (ps.map (·.1)).Nodup) (hp : ps.Perm D) (h : BestM P (fun q r => A q r ∨ ∃ y, (q, y) ∈ D ∧ r = x.cat y)) : BestM P (fun q r => A q r ∨ ∃ y, C q y ∧ r = x.cat y) := by
  refine h.sub (fun q r h => ?_) (fun q r h => ?_)
  · rcases h with h | ⟨y, h1, e⟩
    · exact .inl h
    · exact .inr ⟨y, hbm.mem ((findP_mem hn _ _).2 (hp.mem_iff.2 h1)), e⟩
  · rcases h with h | ⟨y, h1, e⟩
    · exact ⟨r, .inl h, lessR_irrefl r⟩
    · obtain ⟨m, hm, hl⟩ := hbm.least h1
      exact ⟨x.cat m, .inr ⟨m, hp.mem_iff.1 ((findP_mem hn _ _).1 hm), rfl⟩, by rw [e]; exact cat_mono rfl (lessR_irrefl _) hl⟩
set_option maxHeartbeats 4000000 in
set_option maxRecDepth 100000 in
theorem best_seq (w0 W : World) (g gm : Nat) (l : List S42) (wd : Int) (gz : List Int) (hd : List Bool) (hw : 0 ≤ wd) (h : LSt w0 g gm l wd gz hd) (ho : Only (· = gm) w0 W) (i a' b' : Nat) (hi : i < l.length) (ind : Int) (p : Pl) (hk : (l.getD i z42).f0 = 3) (ha' : (l.getD i z42).f3 = (a' : Int)) (hb' : (l.getD i z42).f4 = (b' : Int)) (ih : BestAt w0 g gm l wd a') (ih2 : BestAt w0 g gm l wd b') (ht : tree l i = .seq (tree l a') (tree l b')) (hnn : nn (tree l a') ∧ nn (tree l b')) (hng : ng (tree l a') + ng (tree l b') ≤ 1000000000) (M : Int) (h1 : 0 ≤ ind) (h2 : ind ≤ M) (hp : 0 ≤ p.col) (hp2 : p.col ≤ M) (hb : lv (tree l a') * (M + wt (tree l a')) ≤ 1000000000000000) (hb2 : lv (tree l b') * (M + wt (tree l a') + wt (tree l b')) ≤ 1000000000000000) (hlv : lv (tree l a') + lv (tree l b') ≤ 1000000000000000) (MM : List (Sta × Nat)) (T : Nat → Prop) (hM : Mem gm l wd T W MM) (hT : ∀ k, T k → k < W.heap.size) (hf : findP MM ⟨i, ind, p⟩ = none) :
    Calls Try.prog 73 #[.pointer (some ⟨g, 0, none⟩), stV ⟨i, ind, p⟩] W (BestPost gm l wd T ⟨i, ind, p⟩ W) := by
  have hu42 := Try.underlying42
  obtain ⟨k, s, n, a, b, hx⟩ : ∃ k s n a b, l.getD i z42 = ⟨k, s, n, a, b⟩ := ⟨_, _, _, _, _, rfl⟩
  obtain ⟨A0, c0, A2, c2, A3, c3, m0, m1, m2, m3, m4, hN, _, _⟩ := h.cells ho
  obtain ⟨ad, rfl, k0, k1, k2, k3, k4⟩ := hN i hi k s n a b hx
  rw [hx] at hk ha' hb'
  simp only at hk ha' hb' hp hp2
  subst ha' hb'
  obtain ⟨pc, pw⟩ := p
  simp only at hk hp hp2
  have hlt : g < W.heap.size := World.block_lt_of_cell? W _ m1
  have hpp := eq_true (show (0 : Int) ≤ i by omega)
  have hq := eq_true (show (i : Int) < l.length by omega)
  have hl := lookupP_run keyT130 Try.underlying121 (z := .map none) (by intro W; rfl) (hM.map.move (W' := (W.alloc (.cells #[.int .i64 i, .int .i64 ind, .int .i64 pc, .bool pw] 130)).drew) ((below_alloc (Below.refl W.heap.size W) _).block gm hM.map.lt)) ⟨i, ind, ⟨pc, pw⟩⟩
  rw [hf] at hl
  have hl' : Sem.run Try.prog (lookup 121 (.map (some gm)) (.agg #[.int .i64 i, .int .i64 ind, .int .i64 pc, .bool pw]) true) (W.alloc (.cells #[.int .i64 i, .int .i64 ind, .int .i64 pc, .bool pw] 130)).drew = .ok (.tuple #[.map none, .bool false]) (W.alloc (.cells #[.int .i64 i, .int .i64 ind, .int .i64 pc, .bool pw] 130)).drew := hl
  show Calls Try.prog 73 #[.pointer (some ⟨g, 0, none⟩), .agg #[.int .i64 i, .int .i64 ind, .int .i64 pc, .bool pw]] W _
  have HB := Aside0.mk (show (0 ≤ ind ∧ ind ≤ M) ∧ (0 ≤ pc ∧ pc ≤ M) ∧ lv (tree l a') * (M + wt (tree l a')) ≤ 1000000000000000 from ⟨⟨h1, h2⟩, ⟨hp, hp2⟩, hb⟩)
  have HIH := Aside0.mk ih
  have HO := Aside0.mk ho
  have HNE := Aside0.mk h.ne
  have HLS := Aside0.mk h
  have HIH2 := Aside0.mk ih2
  have HGG := Aside0.mk (show tree l i = .seq (tree l a') (tree l b') ∧ (nn (tree l a') ∧ nn (tree l b')) ∧ ng (tree l a') + ng (tree l b') ≤ 1000000000 ∧ lv (tree l b') * (M + wt (tree l a') + wt (tree l b')) ≤ 1000000000000000 ∧ lv (tree l a') + lv (tree l b') ≤ 1000000000000000 ∧ 0 ≤ wd from ⟨ht, hnn, hng, hb2, hlv, hw⟩)
  have HM := Aside0.mk hM
  have HTT := Aside0.mk hT
  have HM4 := Aside0.mk m4
  have u4 := fun o => pw_cell_below (below_alloc (Below.refl W.heap.size W) o) m4
  have q0 := fun o o' => pw_cell_below (below_alloc2 W o o') m0
  have q3 := fun o o' o2 => pw_cell_below (below_alloc3 W o o' o2) m0
  have r0 := fun o1 o2 => pw_cell_below (below_alloc2 W o1 o2) k0
  have r1 := fun o1 o2 => pw_cell_below (below_alloc2 W o1 o2) k1
  have r2 := fun o1 o2 => pw_cell_below (below_alloc2 W o1 o2) k2
  have r3 := fun o1 o2 => pw_cell_below (below_alloc2 W o1 o2) k3
  have r4 := fun o1 o2 => pw_cell_below (below_alloc2 W o1 o2) k4
  have v0 := fun o1 o2 o3 => pw_cell_below (below_alloc3 W o1 o2 o3) k0
  have v1 := fun o1 o2 o3 => pw_cell_below (below_alloc3 W o1 o2 o3) k1
  have v2 := fun o1 o2 o3 => pw_cell_below (below_alloc3 W o1 o2 o3) k2
  have v3 := fun o1 o2 o3 => pw_cell_below (below_alloc3 W o1 o2 o3) k3
  have v4 := fun o1 o2 o3 => pw_cell_below (below_alloc3 W o1 o2 o3) k4
  have hmk := run_makeMap125
  clear ht hnn hng hb2 hlv ih2 hw
  clear hl hx hN m0 m1 m2 m3 m4 k0 k1 k2 k3 k4 hf hM ho h hT hp hp2 hb h1 h2 ih
  subst hk
  go_enter Try.func73, Try.ntmps73
  go_wp2_with fail
  go_region
  all_goals go_wp2_with fail
  all_goals go_region
  all_goals go_wp2_with fail
  all_goals
    refine (HIH.out _ _ ⟨pc, pw⟩ M MM (fun k => T k ∨ (W.heap.size ≤ k ∧ k < W.heap.size + 1 + 1 + 1)) ((((HO.out.alloc _).alloc _).alloc _).drew.drew) (HM.out.more (((((Only.refl _ _).alloc _).alloc _).alloc _).drew.drew) (fun k hk => hk.imp id And.left)) (fun k hk => by
      show k < (((W.alloc _).alloc _).alloc _).heap.size
      rw [alloc3_sz]
      rcases hk with hk | hk
      · have := HTT.out k hk; omega
      · exact hk.2) HB.out.1.1 HB.out.1.2 HB.out.2.1.1 HB.out.2.1.2 HB.out.2.2).mono ?_
    rintro e W1 ⟨r, ps, MM', rfl, hr, hbm, hM1, hnT, hng1, hO1⟩
    have hOY := (show Only (· = gm) (((W.alloc (.cells #[.int .i64 i, .int .i64 ind, .int .i64 pc, .bool pw] 130)).alloc (.map #[] 0)).alloc (.cells #[.int .i64 3, .string s, .int .i64 n, .int .i64 a', .int .i64 b'] 42)) W1 from (Only.drew (.drew (.refl _ _))).trans hO1)
    obtain ⟨o1, hrg, hIt⟩ := ItP.start hr Try.underlying125
    have HOY := Aside0.mk hOY
    have HIT := Aside0.mk hIt
    have HR := Aside0.mk hr
    have HBM := Aside0.mk hbm
    have HNT := Aside0.mk (And.intro hnT hng1)
    have hs1 : W.heap.size + 1 + 1 + 1 ≤ W1.heap.size := by have h9 := hOY.size; rw [alloc3_sz] at h9; exact h9
    have HS1 := Aside0.mk hs1
    have hgm : gm < W.heap.size := HM.out.map.lt
    have HGM := Aside0.mk hgm
    have HM1 := Aside0.mk (show Mem gm l wd (fun k => (T k ∨ (W.heap.size ≤ k ∧ k < W.heap.size + 1 + 1 + 1)) ∨ k = W1.heap.size) (W1.alloc o1) MM' from hM1.more ((Only.refl _ _).alloc _) (fun k hk => hk.imp id (fun e => Nat.le_of_eq e.symm)))
    have HNM := Aside0.mk (show MapP plV rsV (W1.alloc o1) (W.heap.size + 1) ([] : List (Pl × Res)) from ((new_map W _ _).move (hOY.block (W.heap.size + 1) (by rw [alloc3_sz]; omega) (by omega))).move ((below_alloc (Below.refl W1.heap.size W1) o1).block (W.heap.size + 1) (by omega)))
    have HSZ := Aside0.mk (alloc_sz W1 o1)
    clear hOY hIt hr hbm hM1 hnT hng1 hO1 hs1 hgm
    go_wp2_with fail
    go_loopg [78] ps.length (fun d v78 Wc => ∃ (v : Value) (D L P7 : List (Pl × Res)) (MMc : List (Sta × Nat)), v = v78 ∧ Aside0 (L.length = d) ∧ Aside0 (ItP plV rsV Wc W1.heap.size r ps L) ∧ Aside0 (ps.Perm (D ++ L)) ∧ Aside0 (MapP plV rsV Wc (W.heap.size + 1) P7) ∧ Aside0 (BestM P7 (fun q r => ∃ q0 x y, (q0, x) ∈ D ∧ achS wd l ⟨b', ind, q0⟩ q y ∧ r = x.cat y)) ∧ Aside0 (Mem gm l wd (fun k => (T k ∨ (W.heap.size ≤ k ∧ k < W.heap.size + 1 + 1 + 1)) ∨ k = W1.heap.size) Wc MMc) ∧ Aside0 (Only (fun k => k = gm ∨ k = W.heap.size + 1) W1 Wc ∧ W1.heap.size < Wc.heap.size))
    case atStart => exact ⟨_, [], ps, [], MM', rfl, ⟨rfl⟩, HIT, ⟨List.Perm.refl _⟩, HNM, ⟨BestM.nil.congr (fun q r => by simp)⟩, HM1, ⟨(Only.refl _ _).alloc _, by rw [HSZ.out]; exact Nat.lt_succ_self _⟩⟩
    case round =>
      obtain ⟨v, D, L, P7, MMc, rfl, HLN, HIT2, HPM, HM7, HB7, HMC, HO7⟩ := hrel
      rcases HIT2.out.next 0 with ⟨hL0, hnx⟩ | ⟨L1, ⟨q, x⟩, L2, o, w1, hLL, hw1, hnx, hit, hen⟩
      · go_wp2_with fail
        have hgm := HGM.out
        have hs1 := HS1.out
        have hOY2 : Only (fun k => k = gm ∨ k = W.heap.size + 1) (((W.alloc (.cells #[.int .i64 i, .int .i64 ind, .int .i64 pc, .bool pw] 130)).alloc (.map #[] 0)).alloc (.cells #[.int .i64 3, .string s, .int .i64 n, .int .i64 a', .int .i64 b'] 42)) wr := (HOY.out.widen (fun j _ e => .inl e)).trans HO7.out.1
        have hO2 : Only (· = gm) W wr := ((Only.of_below (below_alloc3 W _ _ _) : Only (fun k => k = gm ∨ k = W.heap.size + 1) W _).trans hOY2).widen (fun j hj e => by omega)
        obtain ⟨x4, t0, t1, t2, t3⟩ := EndF.of2 HM4.out hOY2 (fun e => by rcases e with e | e; exact HNE.out e; omega) (fun e => by omega)
        have hperm : ps.Perm D := by have := HPM.out; rw [hL0, List.append_nil] at this; exact this
        have x4' : wr.drew.cell? ⟨g, 4, none⟩ = some (.map (some gm)) := x4
        have t0' : wr.drew.cell? ⟨W.heap.size, 0, none⟩ = some (.int .i64 i) := t0
        have t1' : wr.drew.cell? ⟨W.heap.size, 1, none⟩ = some (.int .i64 ind) := t1
        have t2' : wr.drew.cell? ⟨W.heap.size, 2, none⟩ = some (.int .i64 pc) := t2
        have t3' : wr.drew.cell? ⟨W.heap.size, 3, none⟩ = some (.bool pw) := t3
        obtain ⟨o, hu2, hpost⟩ := best_fin (W := wr) (W0 := W) (T := T) (s := ⟨i, ind, ⟨pc, pw⟩⟩) HMC.out (fun _ e => .inl (.inl e)) HM7.out (seq_best HGG.out.1 HBM.out HR.out.nd hperm HB7.out) (fun e => by have := HTT.out _ e; omega) (by omega) hO2
        have hu2' := hu2
        simp only [stV] at hu2'
        have HP := Aside0.mk hpost
        clear hpost hu2 hgm hs1 hOY2 hO2 hperm
        go_region
        all_goals go_wp2_with fail
        all_goals go_ret
        all_goals exact HP.out
      · obtain ⟨q0', q1'⟩ := q
        obtain ⟨x0, x1, x2⟩ := x
        obtain ⟨W2, hW2⟩ : ∃ W2, W2 = setBlock w1 W1.heap.size o := ⟨_, rfl⟩
        rw [← hW2] at hnx hit hen
        have hnx' : Sem.run Try.prog (Instr.next (.pointer (some ⟨W1.heap.size, 0, none⟩)) false 0) wr = .ok (.tuple #[.bool true, .agg #[.int .i64 q0', .bool q1'], .agg #[.int .i64 x0, .int .i64 x1, .string ⟨x2.toArray⟩]]) W2 := hnx
        have hen' : Sem.run Try.prog (Instr.entry (.pointer (some ⟨W1.heap.size, 0, none⟩))) W2 = .ok (.tuple #[.agg #[.int .i64 q0', .bool q1'], .agg #[.int .i64 x0, .int .i64 x1, .string ⟨x2.toArray⟩]]) W2 := hen
        have hach : (⟨⟨q0', q1'⟩, ⟨x0, x1, x2⟩⟩ : Pl × Res) ∈ ach wd (tree l a') ind ⟨pc, pw⟩ := HBM.out.mem ((findP_mem HR.out.nd _ _).2 (HPM.out.mem_iff.2 (by rw [hLL]; simp)))
        have hxl : x2.length = ng (tree l a') := ach_ch wd (tree l a') _ _ ⟨q0', q1'⟩ ⟨x0, x1, x2⟩ hach
        have hbd := ach_bd HGG.out.2.2.2.2.2 (tree l a') ind ⟨pc, pw⟩ ⟨q0', q1'⟩ ⟨x0, x1, x2⟩ M HGG.out.2.1.1 HB.out.1.1 HB.out.1.2 HB.out.2.1.1 HB.out.2.1.2 hach
        have HXL := Aside0.mk (And.intro hxl hbd)
        have hO2 : Only (· = W1.heap.size) wr W2 := by rw [hW2]; exact only_set hw1 _ _
        have hO12 : Only (fun k => k = gm ∨ k = W.heap.size + 1 ∨ k = W1.heap.size) (((W.alloc (.cells #[.int .i64 i, .int .i64 ind, .int .i64 pc, .bool pw] 130)).alloc (.map #[] 0)).alloc (.cells #[.int .i64 3, .string s, .int .i64 n, .int .i64 a', .int .i64 b'] 42)) W2 := ((HOY.out.widen (fun j _ e => .inl e)).trans (HO7.out.1.widen (fun j _ e => by rcases e with e | e; exact .inl e; exact .inr (.inl e)))).trans (hO2.widen (fun j _ e => .inr (.inr e)))
        have hgm := HGM.out
        have hs1 := HS1.out
        have hE := EndF.of2 HM4.out hO12 (fun e => by rcases e with e | e | e; exact HNE.out e; omega; omega) (fun e => by omega)
        have n2 : W2.heap[W.heap.size + 1 + 1]? = some (.cells #[.int .i64 3, .string s, .int .i64 n, .int .i64 a', .int .i64 b'] 42 (0, 0)) := (hO12.block (W.heap.size + 1 + 1) (by rw [alloc3_sz]; omega) (fun e => by omega)).trans (alloc_at2 W _ _ _)
        have HN2 := Aside0.mk n2
        have HE := Aside0.mk hE
        have HO2 := Aside0.mk hO2
        have HO12 := Aside0.mk hO12
        have c4 := fun o1 o2 => pw_cell_below (below_alloc2 W2 o1 o2) (show W2.cell? ⟨W.heap.size + 1 + 1, 4, none⟩ = some (.int .i64 b') from (blk_cell n2 4).trans rfl)
        have c1 := fun o1 o2 => pw_cell_below (below_alloc2 W2 o1 o2) hE.t1
        have HIT3 := Aside0.mk hit
        have HLL := Aside0.mk hLL
        have hOw : Only (· = gm) w0 W2 := HO.out.trans (((Only.of_below (below_alloc3 W _ _ _)).trans hO12).widen (fun j hj e => by omega))
        have HOW := Aside0.mk hOw
        have HMC2 := Aside0.mk (show Mem gm l wd (fun k => (T k ∨ (W.heap.size ≤ k ∧ k < W.heap.size + 1 + 1 + 1)) ∨ k = W1.heap.size) W2 MMc from HMC.out.move (hO2.widen (fun j _ e => .inr e)))
        have hs2 : W1.heap.size < W2.heap.size := Nat.lt_of_lt_of_le HO7.out.2 hO2.size
        have HS2 := Aside0.mk hs2
        have HM72 := Aside0.mk (show MapP plV rsV W2 (W.heap.size + 1) P7 from HM7.out.move (hO2.block _ HM7.out.lt (by omega)))
        clear hnx hen hit hW2 hw1 hLL hach hxl hbd hO2 hO12 hE n2 hOw hgm hs1 hs2
        go_wp2_with fail
        refine (HIH2.out _ ind ⟨q0', q1'⟩ (M + wt (tree l a')) MMc (fun k => (T k ∨ (W.heap.size ≤ k ∧ k < W.heap.size + 1 + 1 + 1)) ∨ k = W1.heap.size) ((HOW.out.alloc _).alloc _) (HMC2.out.move (((Only.refl _ _).alloc _).alloc _)) (fun k hk => by
          rw [alloc_sz, alloc_sz]
          have := HS1.out
          have := HS2.out
          rcases hk with (hk | hk) | hk
          · have := HTT.out k hk; omega
          · omega
          · omega) HB.out.1.1 (by have := HB.out.1.2; omega) HXL.out.2.1 HXL.out.2.2.1 HGG.out.2.2.2.1).mono ?_
        rintro e W3 ⟨r2, ps2, MM2, rfl, hr2, hbm2, hM2, hnT2, hng2, hO3⟩
        obtain ⟨o3, hrg2, hIt2⟩ := ItP.start hr2 Try.underlying125
        have hs3 : W2.heap.size + 1 + 1 ≤ W3.heap.size := by have h9 := hO3.size; rw [alloc_sz, alloc_sz] at h9; exact h9
        have hgm := HGM.out
        have hs1 := HS1.out
        have hs2 := HS2.out
        have hO23 : Only (· = gm) W2 W3 := (((Only.refl _ _).alloc _).alloc _).trans hO3
        have HO23 := Aside0.mk hO23
        have HE12 := Aside0.mk (show W3.heap[W2.heap.size + 1]? = some (.cells #[.int .i64 x0, .int .i64 x1, .string ⟨x2.toArray⟩] 132 (0, 0)) from (hO3.block (W2.heap.size + 1) (by rw [alloc_sz, alloc_sz]; omega) (by omega)).trans (heap_alloc2_new W2 _ _))
        have hM73 : MapP plV rsV W3 (W.heap.size + 1) P7 := HM72.out.move (hO23.block _ HM72.out.lt (by omega))
        have HM73 := Aside0.mk (show MapP plV rsV (W3.alloc o3) (W.heap.size + 1) P7 from hM73.move ((below_alloc (Below.refl _ _) _).block _ hM73.lt))
        have HIT23 := Aside0.mk (show ItP plV rsV W3 W1.heap.size r ps (L1 ++ L2) from HIT3.out.move (hO23.block _ HIT3.out.lt.1 (by omega)) (hO23.block _ HIT3.out.lt.2.1 HNT.out.2))
        have HIT4 := Aside0.mk hIt2
        have HR2 := Aside0.mk hr2
        have HBM2 := Aside0.mk hbm2
        have HM2 := Aside0.mk hM2
        have HNT2 := Aside0.mk (And.intro hnT2 hng2)
        have HS3 := Aside0.mk hs3
        clear hs3 hgm hs1 hs2 hO23 hM73 hIt2 hr2 hbm2 hM2 hnT2 hng2 hO3
        go_wp2_with fail
        go_loopg [92] ps2.length (fun d v92 Wi => ∃ (v : Value) (D2 L3 P8 : List (Pl × Res)), v = v92 ∧ Aside0 (L3.length = d) ∧ Aside0 (ItP plV rsV Wi W3.heap.size r2 ps2 L3) ∧ Aside0 (ps2.Perm (D2 ++ L3)) ∧ Aside0 (MapP plV rsV Wi (W.heap.size + 1) P8) ∧ Aside0 (BestM P8 (fun q r => (∃ q0 x y, (q0, x) ∈ D ∧ achS wd l ⟨b', ind, q0⟩ q y ∧ r = x.cat y) ∨ ∃ y, (q, y) ∈ D2 ∧ r = (⟨x0, x1, x2⟩ : Res).cat y)) ∧ Aside0 (Only (· = W.heap.size + 1) W3 Wi))
        case atStart => exact ⟨_, [], ps2, P7, rfl, ⟨rfl⟩, HIT4, ⟨List.Perm.refl _⟩, HM73, ⟨HB7.out.congr (fun q r => by simp)⟩, ⟨(Only.refl _ _).alloc _⟩⟩
        case round =>
          obtain ⟨v2, D2, L3, P8, rfl, HLN2, HIT5, HPM2, HM8, HB8, HO8⟩ := hrel
          rcases HIT5.out.next 0 with ⟨hL0, hnx⟩ | ⟨L4, ⟨q, y⟩, L5, o', w1', hLL2, hw2, hnx, hit, hen⟩
          · have HL0 := Aside0.mk hL0
            clear hL0
            go_wp2_with fail
            go_roundg (L1 ++ L2).length
            case measure => have h1 := HLN.out; rw [HLL.out] at h1; simp only [List.length_append, List.length_cons] at h1 ⊢; omega
            case rel =>
              have hs1 := HS1.out
              have hs2 := HS2.out
              have hs3 := HS3.out
              have hperm2 : ps2.Perm D2 := by have := HPM2.out; rw [HL0.out, List.append_nil] at this; exact this
              have hib := inner_best HBM2.out HR2.out.nd hperm2 HB8.out
              refine ⟨_, D ++ [(⟨q0', q1'⟩, ⟨x0, x1, x2⟩)], L1 ++ L2, P8, MM2, rfl, ⟨rfl⟩, ⟨HIT23.out.move (HO8.out.block _ HIT23.out.lt.1 (by omega)) (HO8.out.block _ HIT23.out.lt.2.1 (fun e => HNT.out.1 (.inr ⟨by omega, by omega⟩)))⟩, ⟨by have h1 := HPM.out; rw [HLL.out] at h1; refine h1.trans ?_; rw [List.append_assoc, List.singleton_append]; exact (List.perm_middle).append_left D⟩, HM8, ⟨hib.congr (fun q r => ?_)⟩, ⟨HM2.out.move (HO8.out.widen (fun j _ e => .inl (.inr (by omega))))⟩, ⟨?_, ?_⟩⟩
              · simp only [List.mem_append, List.mem_singleton, Prod.mk.injEq]
                constructor
                · rintro (⟨q0, x, y, h1, h2, h3⟩ | ⟨y, h1, h2⟩)
                  · exact ⟨q0, x, y, .inl h1, h2, h3⟩
                  · exact ⟨_, _, y, .inr ⟨rfl, rfl⟩, h1, h2⟩
                · rintro ⟨q0, x, y, h1 | ⟨rfl, rfl⟩, h2, h3⟩
                  · exact .inl ⟨q0, x, y, h1, h2, h3⟩
                  · exact .inr ⟨y, h2, h3⟩
              · exact (((HO7.out.1.both HO2.out).both HO23.out).both HO8.out).widen (fun j hj e => by omega)
              · have := HO8.out.size; omega
          · obtain ⟨p0', p1'⟩ := q
            obtain ⟨y0, y1, y2⟩ := y
            obtain ⟨W4, hW4⟩ : ∃ W4, W4 = setBlock w1' W3.heap.size o' := ⟨_, rfl⟩
            rw [← hW4] at hnx hit hen
            have hnx2' : Sem.run Try.prog (Instr.next (.pointer (some ⟨W3.heap.size, 0, none⟩)) false 0) wr = .ok (.tuple #[.bool true, .agg #[.int .i64 p0', .bool p1'], .agg #[.int .i64 y0, .int .i64 y1, .string ⟨y2.toArray⟩]]) W4 := hnx
            have hen2' : Sem.run Try.prog (Instr.entry (.pointer (some ⟨W3.heap.size, 0, none⟩))) W4 = .ok (.tuple #[.agg #[.int .i64 p0', .bool p1'], .agg #[.int .i64 y0, .int .i64 y1, .string ⟨y2.toArray⟩]]) W4 := hen
            have hach : (⟨⟨p0', p1'⟩, ⟨y0, y1, y2⟩⟩ : Pl × Res) ∈ ach wd (tree l b') ind ⟨q0', q1'⟩ := HBM2.out.mem ((findP_mem HR2.out.nd _ _).2 (HPM2.out.mem_iff.2 (by rw [hLL2]; simp)))
            have hyl : y2.length = ng (tree l b') := ach_ch wd (tree l b') _ _ ⟨p0', p1'⟩ ⟨y0, y1, y2⟩ hach
            have hbd := ach_bd HGG.out.2.2.2.2.2 (tree l b') ind ⟨q0', q1'⟩ ⟨p0', p1'⟩ ⟨y0, y1, y2⟩ (M + wt (tree l a')) HGG.out.2.1.2 HB.out.1.1 (by have := HB.out.1.2; omega) HXL.out.2.1 HXL.out.2.2.1 hach
            have hg := HGG.out
            have hxl := HXL.out
            have hbb := HB.out
            simp only at hbd hxl
            have bx0 : -1000000000000000 ≤ x0 := by omega
            have bx0' : x0 ≤ 1000000000000000 := by omega
            have bx1 : -1000000000000000 ≤ x1 := by omega
            have bx1' : x1 ≤ 1000000000000000 := by omega
            have by0 : -1000000000000000 ≤ y0 := by omega
            have by0' : y0 ≤ 1000000000000000 := by omega
            have by1 : -1000000000000000 ≤ y1 := by omega
            have by1' : y1 ≤ 1000000000000000 := by omega
            have hov := eq_false (show ¬ (9223372036854775807 < x2.length + y2.length) by omega)
            have hs1 := HS1.out
            have hs2 := HS2.out
            have hs3 := HS3.out
            have hO4 : Only (· = W3.heap.size) wr W4 := by rw [hW4]; exact only_set hw2 _ _
            have hO34 : Only (fun k => k = W.heap.size + 1 ∨ k = W3.heap.size) W3 W4 := HO8.out.both hO4
            have E12 : W4.heap[W2.heap.size + 1]? = some (.cells #[.int .i64 x0, .int .i64 x1, .string ⟨x2.toArray⟩] 132 (0, 0)) := (hO34.block _ (by omega) (by omega)).trans HE12.out
            have e0 : W4.cell? ⟨W2.heap.size + 1, 0, none⟩ = some (.int .i64 x0) := (blk_cell E12 0).trans rfl
            have e1 : W4.cell? ⟨W2.heap.size + 1, 1, none⟩ = some (.int .i64 x1) := (blk_cell E12 1).trans rfl
            have e2 : W4.cell? ⟨W2.heap.size + 1, 2, none⟩ = some (.string ⟨x2.toArray⟩) := (blk_cell E12 2).trans rfl
            have f0 := fun o1 o2 => pw_cell_below (below_alloc2 W4 o1 o2) e0
            have f1 := fun o1 o2 => pw_cell_below (below_alloc2 W4 o1 o2) e1
            have f2 := fun o1 o2 => pw_cell_below (below_alloc2 W4 o1 o2) e2
            have g0 := fun o1 o2 o3 => pw_cell_below (below_alloc3 W4 o1 o2 o3) e0
            have g1 := fun o1 o2 o3 => pw_cell_below (below_alloc3 W4 o1 o2 o3) e1
            have g2 := fun o1 o2 o3 => pw_cell_below (below_alloc3 W4 o1 o2 o3) e2
            have HM84 := Aside0.mk (show MapP plV rsV W4 (W.heap.size + 1) P8 from HM8.out.move (hO4.block _ HM8.out.lt (by have := HO8.out.size; omega)))
            have HO4 := Aside0.mk hO4
            have HIT6 := Aside0.mk hit
            have HLL2 := Aside0.mk hLL2
            clear hnx hit hen hW4 hw2 hLL2 hach hyl hbd hg hxl hbb hs1 hs2 hs3 hO4 hO34 E12
            go_wp2_with fail
            rw [ba_app]
            refine (keep82_calls (W.heap.size + 1) P8 ⟨p0', p1'⟩ ⟨x0 + y0, x1 + y1, x2 ++ y2⟩ _ (HM84.out.move ((below_alloc3 W4 _ _ _).block _ HM84.out.lt))).mono ?_
            rintro e W5 ⟨rfl, hk1, hk2⟩
            have HK1 := Aside0.mk hk1
            have HK2 := Aside0.mk (show Only (· = W.heap.size + 1) W4 W5 from ((Only.of_below (below_alloc3 W4 _ _ _)).trans hk2))
            clear hk1 hk2
            go_wp2_with fail
            go_roundg (L4 ++ L5).length
            case measure => have h1 := HLN2.out; rw [HLL2.out] at h1; simp only [List.length_append, List.length_cons] at h1 ⊢; omega
            case rel =>
              have hs1 := HS1.out
              have hs2 := HS2.out
              have hs3 := HS3.out
              refine ⟨_, D2 ++ [(⟨p0', p1'⟩, ⟨y0, y1, y2⟩)], L4 ++ L5, keepL P8 ⟨p0', p1'⟩ ⟨x0 + y0, x1 + y1, x2 ++ y2⟩, rfl, ⟨rfl⟩, ⟨HIT6.out.move (HK2.out.block _ HIT6.out.lt.1 (by omega)) (HK2.out.block _ HIT6.out.lt.2.1 (fun e => HNT2.out.1 (.inl (.inr ⟨by omega, by omega⟩))))⟩, ⟨by have h1 := HPM2.out; rw [HLL2.out] at h1; refine h1.trans ?_; rw [List.append_assoc, List.singleton_append]; exact (List.perm_middle).append_left D2⟩, HK1, ⟨(HB8.out.keep ⟨p0', p1'⟩ ⟨x0 + y0, x1 + y1, x2 ++ y2⟩).congr (fun q r => ?_)⟩, ⟨((HO8.out.both HO4.out).both HK2.out).widen (fun j hj e => by omega)⟩⟩
              simp only [List.mem_append, List.mem_singleton, Prod.mk.injEq]
              constructor
              · rintro ((h | ⟨y, h1, h2⟩) | ⟨rfl, rfl⟩)
                · exact .inl h
                · exact .inr ⟨y, .inl h1, h2⟩
                · exact .inr ⟨⟨y0, y1, y2⟩, .inr ⟨rfl, rfl⟩, rfl⟩
              · rintro (h | ⟨y, h1 | ⟨rfl, rfl⟩, h2⟩)
                · exact .inl (.inl h)
                · exact .inl (.inr ⟨y, h1, h2⟩)
                · exact .inr ⟨rfl, h2⟩
end Go.Proofs.Ythmmdmnbcecooaa.A
end

section
namespace Go.Proofs.Ythmmdmnbcecooaa.A
open Go.RowKit Go.Proofs.YthmmdmnbcecooaaW.PrintWords Go.Proofs.YthmmdmnbcecooaaW.PrintLast Go.Proofs.YthmmdmnbcecooaaW.PrintMore
set_option linter.unusedVariables false
set_option linter.unusedSimpArgs false
/-- A node weighs no less than its operands. -/
theorem ops_le {l : List S42} (hv : nodesOk l) {i c : Nat} (hi : i < l.length) (hc : c ∈ opsAt (l.getD i z42)) : lv (tree l c) ≤ lv (tree l i) ∧ ng (tree l c) ≤ ng (tree l i) := by
  have hk := hv i hi
  have hkd := hk.kind
  unfold opsAt at hc
  rcases (show (l.getD i z42).f0 < 3 ∨ (l.getD i z42).f0 = 3 ∨ (l.getD i z42).f0 = 4 ∨ (l.getD i z42).f0 = 5 ∨ (l.getD i z42).f0 = 6 by omega) with h4 | h4 | h4 | h4 | h4
  · rw [if_neg (by omega), if_neg (by omega)] at hc; cases hc
  · rw [if_pos h4] at hc
    rw [tree_seq hv hi h4]
    simp only [List.mem_cons, List.not_mem_nil, or_false] at hc
    simp only [lv, ng]
    rcases hc with rfl | rfl
    · omega
    · omega
  · rw [if_neg (by omega), if_pos (by omega)] at hc
    rw [List.mem_singleton.1 hc, tree_nest hv hi h4]
    exact ⟨Nat.le_refl _, Nat.le_refl _⟩
  · rw [if_neg (by omega), if_pos (by omega)] at hc
    rw [List.mem_singleton.1 hc, tree_align hv hi h4]
    exact ⟨Nat.le_refl _, Nat.le_refl _⟩
  · rw [if_neg (by omega), if_pos (by omega)] at hc
    rw [List.mem_singleton.1 hc, tree_group hv hi h4]
    exact ⟨Nat.le_refl _, Nat.le_succ _⟩
theorem root_le {l : List S42} (hg : Good l) : ∀ (d i : Nat), i + d = l.length - 1 → lv (tree l i) ≤ lv (rootT l) ∧ ng (tree l i) ≤ ng (rootT l) := by
  intro d
  induction d using Nat.strongRecOn with
  | _ d ih =>
    intro i hd
    have hp := hg.pos
    by_cases h0 : d = 0
    · subst h0
      rw [show i = l.length - 1 by omega]
      exact ⟨Nat.le_refl _, Nat.le_refl _⟩
    · have h1 := hg.once i (by omega)
      have hm : i ∈ refs l := by rw [← List.count_pos_iff]; omega
      unfold refs at hm
      obtain ⟨x, hx, hxi⟩ := List.mem_flatMap.1 hm
      obtain ⟨p, hpl, rfl⟩ := List.mem_iff_getElem.1 hx
      have e : l[p] = l.getD p z42 := by simp [List.getD, hpl]
      rw [e] at hxi
      have hlt := ops_lt hg.ok hpl hxi
      have h2 := ops_le hg.ok hpl hxi
      have h3 := ih (l.length - 1 - p) (by omega) p (by omega)
      omega
theorem root_all {l : List S42} (hg : Good l) (i : Nat) (hi : i < l.length) : lv (tree l i) ≤ lv (rootT l) ∧ ng (tree l i) ≤ ng (rootT l) := root_le hg (l.length - 1 - i) i (by omega)
/-- best's contract at every node. -/
theorem best_calls (w0 : World) (g gm : Nat) (l : List S42) (wd : Int) (gz : List Int) (hd : List Bool) (hw : 0 ≤ wd ∧ wd ≤ 1000) (h : LSt w0 g gm l wd gz hd) (hv : nodesOk l) (hgl : gz.length = l.length) (hdl : hd.length = l.length) (hgz : ∀ i, i < l.length → gz.getD i 0 = ((ng (tree l i) : Nat) : Int)) (hhd : ∀ i, i < l.length → hd.getD i false = hardT (tree l i)) (hng : ∀ i, i < l.length → lv (tree l i) ≤ 1000000000 ∧ ng (tree l i) ≤ 1000000000) : ∀ i, i < l.length → BestAt w0 g gm l wd i := by
  intro i
  induction i using Nat.strongRecOn with
  | _ i ih =>
    intro hi W ind p M MM T ho hM hT h1 h2 hp hp2 hb
    cases hf : findP MM ⟨i, ind, p⟩ with
    | some r => exact best_hit w0 W g gm l wd gz hd h ho i ind p MM T hM r hf
    | none =>
      have hk := hv i hi
      have hkd := hk.kind
      have hn := hng i hi
      have hM0 : 0 ≤ M := by omega
      have hlv1 := lv_pos (tree l i)
      have hML : M + wt (tree l i) ≤ 1000000000000000 := by
        have g6 : 1 * (M + wt (tree l i)) ≤ (lv (tree l i) : Int) * (M + wt (tree l i)) := Int.mul_le_mul_of_nonneg_right (by omega) (by omega)
        omega
      rcases (show (l.getD i z42).f0 = 0 ∨ (l.getD i z42).f0 = 1 ∨ (l.getD i z42).f0 = 2 ∨ (l.getD i z42).f0 = 3 ∨ (l.getD i z42).f0 = 4 ∨ (l.getD i z42).f0 = 5 ∨ (l.getD i z42).f0 = 6 by omega) with h4 | h4 | h4 | h4 | h4 | h4 | h4
      · refine best_text w0 W g gm l wd gz hd hw h ho i hi h4 ind p hp ?_ MM T hM hT hf
        rw [tree_text h4] at hML
        have e : ((l.getD i z42).f1.size : Int) = (l.getD i z42).f1.data.toList.length := by rw [data_length]
        simp only [wt] at hML
        omega
      · exact best_hrd w0 W g gm l wd gz hd h ho i hi (.inl h4) ind p MM T hM hT hf
      · exact best_hrd w0 W g gm l wd gz hd h ho i hi (.inr h4) ind p MM T hM hT hf
      · obtain ⟨ha0, ha1⟩ := hk.a (by omega)
        obtain ⟨hb0, hb1⟩ := hk.b h4
        obtain ⟨a', ha⟩ := Int.eq_ofNat_of_zero_le ha0
        obtain ⟨b', hb'⟩ := Int.eq_ofNat_of_zero_le hb0
        have ht := tree_seq hv hi h4
        rw [ha, hb', Int.toNat_natCast, Int.toNat_natCast] at ht
        have hnn := nn_tree hv i hi
        rw [ht] at hb hn hML hnn
        simp only [lv, wt, ng] at hb hn hML
        have e1 : (lv (tree l a') : Int) * (M + wt (tree l a')) ≤ lv (tree l a') * (M + (wt (tree l a') + wt (tree l b'))) := Int.mul_le_mul_of_nonneg_left (by omega) (by omega)
        have e2 : ((lv (tree l a') + lv (tree l b') : Nat) : Int) * (M + ((wt (tree l a') + wt (tree l b') : Nat) : Int)) = lv (tree l a') * (M + (wt (tree l a') + wt (tree l b'))) + lv (tree l b') * (M + wt (tree l a') + wt (tree l b')) := by
          rw [Int.natCast_add, Int.natCast_add, Int.add_mul, Int.add_assoc M]
        have e3 : (0 : Int) ≤ lv (tree l a') * (M + (wt (tree l a') + wt (tree l b'))) := Int.mul_nonneg (by omega) (by omega)
        have e4 : (0 : Int) ≤ lv (tree l b') * (M + wt (tree l a') + wt (tree l b')) := Int.mul_nonneg (by omega) (by omega)
        exact best_seq w0 W g gm l wd gz hd hw.1 h ho i a' b' hi ind p h4 ha hb' (ih a' (by omega) (by omega)) (ih b' (by omega) (by omega)) ht hnn (by omega) M h1 h2 hp hp2 (by omega) (by omega) (by omega) MM T hM hT hf
      · obtain ⟨ha0, ha1⟩ := hk.a (by omega)
        obtain ⟨a', ha⟩ := Int.eq_ofNat_of_zero_le ha0
        have ht := tree_nest hv hi h4
        rw [ha, Int.toNat_natCast] at ht
        have hnv := hk.n
        rw [ht] at hb hML
        simp only [lv, wt] at hb hML
        have hA : ∀ q r, achS wd l ⟨i, ind, p⟩ q r ↔ achS wd l ⟨a', ind + (l.getD i z42).f2, p⟩ q r := fun q r => by unfold achS; simp only [ht, ach]
        refine best_un w0 W g gm l wd gz hd h ho i a' hi ind (ind + (l.getD i z42).f2) p (.inl ⟨h4, rfl⟩) ha hA (ih a' (by omega) (by omega)) (M + ((l.getD i z42).f2.toNat : Nat)) (by omega) (by omega) hp (by omega) ?_ (by omega) MM T hM hT hf
        rw [Int.natCast_add, ← Int.add_assoc] at hb
        exact hb
      · obtain ⟨ha0, ha1⟩ := hk.a (by omega)
        obtain ⟨a', ha⟩ := Int.eq_ofNat_of_zero_le ha0
        have ht := tree_align hv hi h4
        rw [ha, Int.toNat_natCast] at ht
        rw [ht] at hb hML
        simp only [lv, wt] at hb hML
        have hA : ∀ q r, achS wd l ⟨i, ind, p⟩ q r ↔ achS wd l ⟨a', p.col, p⟩ q r := fun q r => by unfold achS; simp only [ht, ach]
        exact best_un w0 W g gm l wd gz hd h ho i a' hi ind p.col p (.inr ⟨h4, rfl⟩) ha hA (ih a' (by omega) (by omega)) M hp hp2 hp hp2 hb (by omega) MM T hM hT hf
      · obtain ⟨ha0, ha1⟩ := hk.a (by omega)
        obtain ⟨a', ha⟩ := Int.eq_ofNat_of_zero_le ha0
        have ht := tree_group hv hi h4
        rw [ha, Int.toNat_natCast] at ht
        have e1 := hgz i hi
        have e2 := hhd i hi
        rw [ht] at hb hML hn e1 e2
        simp only [lv, wt, ng, hardT] at hb hML hn e1 e2
        exact best_grp w0 W g gm l wd gz hd h ho i a' hi ind p h4 ha (ih a' (by omega) (by omega)) (flat_calls w0 g gm l wd gz hd hw h hv a' (by omega)) hgl hdl e1 e2 ht (by omega) M h1 h2 hp hp2 hb MM T hM hT hf
end Go.Proofs.Ythmmdmnbcecooaa.A
end

section
namespace Go.Proofs.Ythmmdmnbcecooaa.A
open Go.RowKit Go.Proofs.YthmmdmnbcecooaaW.PrintWords Go.Proofs.YthmmdmnbcecooaaW.PrintLast Go.Proofs.YthmmdmnbcecooaaW.PrintMore
set_option linter.unusedVariables false
set_option linter.unusedSimpArgs false
/-- A call hands back a slice of nodes that reads as D. -/
def DocPost (D : List S42) (w : World) (e : Ending) (w' : World) : Prop :=
  ∃ A c, e = .returned (.slice A D.length c) ∧ D.length ≤ c ∧ Kd.C k42 w' A D.length D ∧ Below w.heap.size w w'
theorem DocPost.of {D : List S42} {w : World} {e : Ending} {w' : World} (h : ∃ v0_ : Value, e = .returned (v0_) ∧ Kd.R k42 42 w' w.heap.size (fun _ => True) v0_ D ∧ Below w.heap.size w w') : DocPost D w e w' := by
  obtain ⟨v, rfl, hr, hb⟩ := h
  obtain ⟨A, c, rfl, hc, hC⟩ := Kd.R_reads hr
  exact ⟨A, c, rfl, hc, hC, hb⟩
theorem text_step (D : List S42) (s : ByteArray) (w : World) (h : D = textD s) : Calls Try.prog 38 #[.string s] w (DocPost D w) := by
  subst h
  exact (koineref25_Text.calls s (textD s) w rfl).mono fun _ _ h => .of h
theorem seq_step (D a b : List S42) (A : Option Addr) (c : Nat) (B : Option Addr) (c' : Nat) (w : World) (h : D = seqD a b) (hl : a.length + b.length ≤ 1000000) (ha : Kd.C k42 w A a.length a) (hc : a.length ≤ c) (hb : Kd.C k42 w B b.length b) (hc' : b.length ≤ c') :
    Calls Try.prog 35 #[.slice A a.length c, .slice B b.length c'] w (DocPost D w) := by
  subst h
  exact (koineref25_Seq.calls A c a B c' b (seqD a b) w ha hc hb hc' (Seq_eq a b hl)).mono fun _ _ h => .of h
theorem wrap_step (D a : List S42) (kind n : Int) (A : Option Addr) (c : Nat) (w : World) (h : D = wrapD kind n a) (hl : a.length ≤ 1000000) (ha : Kd.C k42 w A a.length a) (hc : a.length ≤ c) :
    Calls Try.prog 36 #[.int .i64 kind, .int .i64 n, .slice A a.length c] w (DocPost D w) := by
  subst h
  exact (koineref25_Wrap.calls kind n A c a (wrapD kind n a) w ha hc (Wrap_eq kind n a hl)).mono fun _ _ h => .of h
/-- A literal of one node. -/
theorem lit42 (W : World) (x : S42) : Kd.C k42 (W.alloc (.cells #[.int .i64 x.f0, .string x.f1, .int .i64 x.f2, .int .i64 x.f3, .int .i64 x.f4] 42)) (some ⟨W.heap.size, 0, none⟩) 1 [x] := by
  refine ⟨rfl, by omega, fun _ => ⟨_, rfl, fun j p hj => ?_⟩⟩
  have hj0 : j = 0 := by have := (List.getElem?_eq_some_iff.1 hj).1; simp at this; exact this
  subst hj0
  obtain rfl : x = p := by simpa using hj
  refine ⟨_, ?_, k42_mk _ x, fun i u hu => ?_⟩
  · rfl
  · have hi : i < 5 := by have := (List.getElem?_eq_some_iff.1 hu).1; simpa using this
    rw [add_plain, blk_cell (heap_alloc_new W _)]
    rw [← hu, List.getElem?_toArray.symm]
    simp
end Go.Proofs.Ythmmdmnbcecooaa.A
end

section
namespace Go.Proofs.Ythmmdmnbcecooaa.A
open Go.RowKit Go.Proofs.YthmmdmnbcecooaaW.PrintWords Go.Proofs.YthmmdmnbcecooaaW.PrintLast Go.Proofs.YthmmdmnbcecooaaW.PrintMore
set_option linter.unusedVariables false
set_option linter.unusedSimpArgs false
def leafD (k : Int) : List S42 := (koineref25_leaf.f k).getD []
theorem leaf_some {k : Int} (h0 : 0 ≤ k) (h1 : k ≤ 255) : koineref25_leaf.f k = some (leafD k) ∧ (leafD k).length = 1 := by
  have h : ∀ i : Fin 256, (match koineref25_leaf.f (i.val : Int) with | some d => d.length == 1 | none => false) = true := by
    decide +kernel
  have := h ⟨k.toNat, by omega⟩
  simp only [Int.toNat_of_nonneg h0] at this
  unfold leafD
  split at this
  · rename_i d hd
    rw [hd]
    exact ⟨rfl, by simpa using this⟩
  · cases this
/-- One letter of Made: the stack and the size behind it. -/
def madeStep (k : Int) (sz : Nat) (D : List (List S42)) : Nat × List (List S42) :=
  if k % 10 < 4 ∨ D.length = 0 ∨ (D.length = 1 ∧ 8 ≤ k % 10) then (sz + 2, D ++ [leafD k])
  else if 8 ≤ k % 10 then (sz, D.take (D.length - 2) ++ [seqD (D.getD (D.length - 2) []) (D.getD (D.length - 1) [])])
  else (sz + 1, D.set (D.length - 1) (if k % 10 = 6 then wrapD 4 (k / 10 % 5) (D.getD (D.length - 1) []) else if k % 10 = 7 then wrapD 5 0 (D.getD (D.length - 1) []) else wrapD 6 0 (D.getD (D.length - 1) [])))
def madeGo (most : Int) : List Int → Nat → List (List S42) → List (List S42)
  | [], _, D => D
  | k :: t, sz, D => if (sz : Int) + 2 < most then madeGo most t (madeStep k sz D).1 (madeStep k sz D).2 else D
def foldD : List (List S42) → List S42
  | [] => textD ⟨#[]⟩
  | a :: t => t.foldl seqD a
def madeDoc (l : List Int) (most : Int) : List S42 := foldD (madeGo most l 0 [])
def kst : Kd (List S42) := Kd.slice 42 k42
theorem st_ne {W : World} {base : Nat} {ok : Nat → Prop} {v : Value} {D : List (List S42)} (h : Kd.R kst 26 W base ok v D) (hp : 0 < D.length) :
    ∃ g cap, v = .slice (some ⟨g, 0, none⟩) D.length cap ∧ base ≤ g ∧ g < W.heap.size := by
  obtain ⟨inner, ho⟩ := Kd.R_own h
  obtain ⟨A, c, hv⟩ := Kd.R_slice h
  rcases ho.2 with ⟨h1, _⟩ | ⟨g, cap, cur, h1, hg, hh, r⟩
  · rw [h1] at hv; injection hv with _ h2 _; omega
  · exact ⟨g, cap, h1, hg, blk_lt hh⟩
theorem st_elem {W : World} {base g cap : Nat} {ok : Nat → Prop} {D : List (List S42)} (h : Kd.R kst 26 W base ok (.slice (some ⟨g, 0, none⟩) D.length cap) D) {j : Nat} (hj : j < D.length) :
    ∃ A c, W.cell? ⟨g, j, none⟩ = some (.slice A (D.getD j []).length c) ∧ (D.getD j []).length ≤ c ∧ Kd.C k42 W A (D.getD j []).length (D.getD j []) ∧ W.frozen? ⟨g, j, none⟩ = false ∧ Kd.R k42 42 W base (fun k => ok k ∧ k ≠ g) (.slice A (D.getD j []).length c) (D.getD j []) := by
  obtain ⟨c, hc, hM, hcell, hf⟩ := Kd.R_elem h [] j (by omega) (by omega)
  obtain ⟨v, rfl, hR⟩ := hM
  rw [Int.toNat_natCast] at hR
  have hR0 := hR
  obtain ⟨A, c, hv, hle, hC⟩ := Kd.R_reads hR
  have h0 := hcell 0 v rfl
  have hf0 := hf 0
  rw [hv] at h0 hR0
  rw [Int.toNat_natCast, show j * kst.sz + 0 = j from by show j * 1 + 0 = j; omega] at h0 hf0
  exact ⟨A, c, h0, hle, hC, hf0, hR0⟩
theorem st_put {W : World} {base g cap : Nat} {D : List (List S42)} (h : Kd.R kst 26 W base (fun _ => True) (.slice (some ⟨g, 0, none⟩) D.length cap) D) {j : Nat} (hj : j < D.length) {x : List S42} {v : Value} {okp : Nat → Prop} (hx : Kd.R k42 42 W base okp v x) (hok : ∀ k, okp k → k ≠ g) :
    Kd.R kst 26 (W.setCell ⟨g, j, none⟩ v) base (fun _ => True) (.slice (some ⟨g, 0, none⟩) D.length cap) (D.set j x) := by
  obtain ⟨c, hc, hM, hcell, hf⟩ := Kd.R_elem h [] j (by omega) (by omega)
  obtain ⟨v0, rfl, hR⟩ := hM
  have := (Kd.R_seg (d := kst) (x' := x) (seg := [v]) (j := 0) (okp := okp) h j (by omega) (by omega) hc (fun i u hu => hcell i u hu) (by show 0 + 1 ≤ 1; omega) ⟨v, rfl, hx⟩ (fun k hk => ⟨trivial, hok k hk⟩)).1
  rw [Int.toNat_natCast, show j * kst.sz + 0 = j from by show j * 1 + 0 = j; omega] at this
  exact this
end Go.Proofs.Ythmmdmnbcecooaa.A
end

section
namespace Go.Proofs.Ythmmdmnbcecooaa.A
open Go.RowKit Go.Proofs.YthmmdmnbcecooaaW.PrintWords Go.Proofs.YthmmdmnbcecooaaW.PrintLast Go.Proofs.YthmmdmnbcecooaaW.PrintMore
set_option linter.unusedVariables false
set_option linter.unusedSimpArgs false
theorem info26 : (Try.prog.info? 26).map (fun i => (i.zero, i.size, i.bytes)) = some (some (.slice none 0 0), 1, 24) := by kernel_rfl
/-- The nodes on the stack and its documents, by the size counted. -/
def stOk (D : List (List S42)) (sz : Nat) : Prop := (D.map List.length).sum + D.length ≤ sz
theorem Rst_empty (w : World) : Kd.R kst 26 (w.alloc (.cells #[] 26)) w.heap.size (fun _ => True) (.slice (some ⟨w.heap.size, 0, none⟩) 0 0) [] := by
  refine ⟨fun _ _ => trivial, [], ?_, Reps.none _ _⟩
  exact World.ownsRow_lit (base := w.heap.size) (e := 26) (size := 1) w #[] 0 (Nat.le_refl _) (by simp) (by simp)
theorem at_u8 {w : World} {A : Option Addr} {n : Nat} {xs : List Int} (h : Kd.C (Kd.int .u8) w A n xs) {i : Nat} (h1 : i < n) : ∃ ad, A = some ad ∧ w.cell? (ad.add i) = some (.int .u8 (xs.getD i 0)) := by
  obtain ⟨ad, c, e, _, hK, hc0⟩ := Kd.C_get h 0 i (by omega) (by omega)
  obtain rfl : c = [.int .u8 (xs.getD i 0)] := by rw [Int.toNat_natCast] at hK; exact hK
  refine ⟨ad, e, ?_⟩
  have := hc0 0 _ rfl
  rw [Int.toNat_natCast, show i * (Kd.int .u8).sz + 0 = i from by show i * 1 + 0 = i; omega] at this
  exact this
theorem st_elem' {W : World} {base g cap n : Nat} {ok : Nat → Prop} {D : List (List S42)} (hn : D.length = n) (h : Kd.R kst 26 W base ok (.slice (some ⟨g, 0, none⟩) n cap) D) {j : Nat} (hj : j < n) {X : List S42} (hX : D.getD j [] = X) :
    ∃ A c, W.cell? ⟨g, j, none⟩ = some (.slice A X.length c) ∧ X.length ≤ c ∧ Kd.C k42 W A X.length X ∧ W.frozen? ⟨g, j, none⟩ = false ∧ Kd.R k42 42 W base (fun k => ok k ∧ k ≠ g) (.slice A X.length c) X := by
  subst hn hX; exact st_elem h hj
theorem st_put' {W : World} {base g cap n : Nat} {D : List (List S42)} (hn : D.length = n) (h : Kd.R kst 26 W base (fun _ => True) (.slice (some ⟨g, 0, none⟩) n cap) D) {j : Nat} (hj : j < n) {x : List S42} {v : Value} {okp : Nat → Prop} (hx : Kd.R k42 42 W base okp v x) (hok : ∀ k, okp k → k ≠ g) :
    Kd.R kst 26 (W.setCell ⟨g, j, none⟩ v) base (fun _ => True) (.slice (some ⟨g, 0, none⟩) n cap) (D.set j x) := by
  subst hn; exact st_put h hj hx hok
theorem ne_own {k g n c : Nat} (h : some k ≠ (Value.slice (some ⟨g, 0, none⟩) n c).ownBlock) : k ≠ g := fun e => h (by simp [Value.ownBlock, e])
theorem st_cap {W : World} {base n cap : Nat} {A : Option Addr} {ok : Nat → Prop} {D : List (List S42)} (hn : D.length = n) (h : Kd.R kst 26 W base ok (.slice A n cap) D) : n ≤ cap := by
  obtain ⟨A', c', hv, hle, _⟩ := Kd.R_reads h
  injection hv with _ _ e
  omega
theorem fold_length : ∀ (l : List (List S42)) (a : List S42), (l.foldl seqD a).length = a.length + (l.map List.length).sum + l.length
  | [], a => by simp
  | b :: t, a => by
    rw [List.foldl_cons, fold_length t, seqD_length]
    simp only [List.map_cons, List.sum_cons, List.length_cons]
    omega
theorem sum_take_le (t : List (List S42)) : ∀ (j : Nat), j < t.length → ((t.take j).map List.length).sum + (t.getD j []).length ≤ (t.map List.length).sum := by
  induction t with
  | nil => intro j h; simp at h
  | cons a t ih =>
    intro j h
    cases j with
    | zero => simp
    | succ j =>
      have := ih j (by simpa using h)
      simp at this ⊢
      omega
/-- The sequence of X and the first j of t. -/
def accD (X : List S42) (t : List (List S42)) (j : Nat) : List S42 := (t.take j).foldl seqD X
theorem accD_succ (X : List S42) (t : List (List S42)) (j : Nat) (h : j < t.length) : accD X t (j + 1) = seqD (accD X t j) (t.getD j []) := by
  unfold accD
  rw [List.take_succ_eq_append_getElem h, List.foldl_append]
  simp [List.getD, h]
theorem accD_length (X : List S42) (t : List (List S42)) (j sz : Nat) (h : j < t.length) (hz : stOk (X :: t) sz) : (accD X t j).length + (t.getD j []).length ≤ sz := by
  unfold accD
  rw [fold_length]
  have := sum_take_le t j h
  unfold stOk at hz
  simp only [List.map_cons, List.sum_cons, List.length_cons, List.length_take] at hz ⊢
  omega
theorem getD_mem {l : List Int} {i : Nat} (h : i < l.length) : l.getD i 0 ∈ l := by
  simp [List.getD, h]
theorem made_next {most : Int} {l : List Int} {i sz sz' : Nat} {D D' S : List (List S42)} {k : Int} (h : i < l.length) (hsz : (sz : Int) + 2 < most) (hk : k = l.getD i 0) (hst : madeStep k sz D = (sz', D')) (hs : madeGo most (l.drop i) sz D = S) : madeGo most (l.drop (i + 1)) sz' D' = S := by
  rw [List.drop_eq_getElem_cons h, madeGo, if_pos hsz] at hs
  have : l[i] = k := by rw [hk]; simp [List.getD, h]
  rw [this, hst] at hs
  exact hs
theorem sum_set (D : List (List S42)) (j : Nat) (x : List S42) (h : j < D.length) : ((D.set j x).map List.length).sum + (D.getD j []).length = (D.map List.length).sum + x.length := by
  induction D generalizing j with
  | nil => simp at h
  | cons a t ih =>
    cases j with
    | zero => simp; omega
    | succ j =>
      have := ih j (by simpa using h)
      simp at this ⊢
      omega
theorem sum_split (D : List (List S42)) (m : Nat) (h : D.length = m + 2) : ((D.take m).map List.length).sum + (D.getD m []).length + (D.getD (m + 1) []).length = (D.map List.length).sum := by
  induction D generalizing m with
  | nil => simp at h
  | cons a t ih =>
    cases m with
    | zero =>
      obtain ⟨b, rfl⟩ : ∃ b, t = [b] := List.length_eq_one_iff.1 (by simpa using h)
      simp
    | succ m =>
      have := ih m (by simpa using h)
      simp at this ⊢
      omega
theorem made_ok {most : Int} {sz sz' : Nat} {D D' : List (List S42)} {k : Int} (hsz : (sz : Int) + 2 < most) (hm : most ≤ 1000) (hk : 0 ≤ k ∧ k ≤ 255) (hst : madeStep k sz D = (sz', D')) (hz : stOk D sz ∧ sz ≤ 2000 ∧ D.length ≤ 2000) : stOk D' sz' ∧ sz' ≤ 2000 ∧ D'.length ≤ 2000 := by
  obtain ⟨h1, h2, h3⟩ := hz
  unfold stOk at h1 ⊢
  unfold madeStep at hst
  by_cases c1 : k % 10 < 4 ∨ D.length = 0 ∨ (D.length = 1 ∧ 8 ≤ k % 10)
  · rw [if_pos c1] at hst
    injection hst with e1 e2
    subst e1 e2
    have := (leaf_some hk.1 hk.2).2
    simp [this]
    omega
  rw [if_neg c1] at hst
  by_cases c2 : 8 ≤ k % 10
  · rw [if_pos c2] at hst
    injection hst with e1 e2
    subst e1 e2
    obtain ⟨m, hm2⟩ : ∃ m, D.length = m + 2 := ⟨D.length - 2, by omega⟩
    have := sum_split D m hm2
    rw [hm2, show m + 2 - 2 = m from by omega, show m + 2 - 1 = m + 1 from by omega]
    simp [seqD_length] at this ⊢
    omega
  · rw [if_neg c2] at hst
    injection hst with e1 e2
    subst e1 e2
    have := sum_set D (D.length - 1) (if k % 10 = 6 then wrapD 4 (k / 10 % 5) (D.getD (D.length - 1) []) else if k % 10 = 7 then wrapD 5 0 (D.getD (D.length - 1) []) else wrapD 6 0 (D.getD (D.length - 1) [])) (by omega)
    have hl : ∀ a : List S42, (if k % 10 = 6 then wrapD 4 (k / 10 % 5) a else if k % 10 = 7 then wrapD 5 0 a else wrapD 6 0 a).length = a.length + 1 := by
      intro a; split
      · exact wrapD_length _ _ _
      · split <;> exact wrapD_length _ _ _
    rw [hl] at this
    rw [List.length_set]
    omega
theorem wrapk_nat (n : Nat) (h : n ≤ 2000) : IntKind.i64.wrap (n : Int) = n := (i64_w _).trans (wrap64_small (by omega) (by omega))
theorem wrapk_nat1 (n : Nat) (h : n ≤ 2000) : IntKind.i64.wrap ((n : Int) + 1) = (n : Int) + 1 := (i64_w _).trans (wrap64_small (by omega) (by omega))
theorem some26 : ∃ i, Try.prog.info? 26 = some i ∧ i.size = 1 := by
  have h : (Try.prog.info? 26).map (·.size) = some 1 := by kernel_rfl
  cases hi : Try.prog.info? 26 with
  | none => rw [hi] at h; cases h
  | some i => rw [hi] at h; exact ⟨i, rfl, by simpa using h⟩
theorem slice_run (A : Option Addr) (m cap : Nat) (h : m + 2 ≤ cap) (hm : m ≤ 2000) (W : World) : (Instr.slice 72 (.slice A (m + 2) cap) none (some (.int .i64 (m : Int))) none).run Try.prog W = .ok (.slice A m cap) W := by
  obtain ⟨i, hi, hs⟩ := some26
  have := (print_take_of (fun (x : Int) => Value.int .i64 x) 0 72 26 .i64 Try.underlying72 hi hs A cap (List.replicate (m + 2) 0) m (by omega) (by simp; omega) (by simpa using h)).1 W
  simp only [List.length_take, List.length_replicate, Int.toNat_natCast] at this
  rwa [Nat.min_eq_left (by omega)] at this
theorem wrap_nat (n : Nat) (h : n ≤ 2000) : wrap64 (n : Int) = n := wrap64_small (by omega) (by omega)
theorem add21 (m : Int) : m + 2 - 1 = m + 1 := by omega
attribute [local go_sem] Int.add_sub_cancel add21
set_option maxHeartbeats 1000000 in
set_option maxRecDepth 100000 in
theorem made_calls (A0 : Option Addr) (c0 : Nat) (l0 : List Int) (most : Int) (w : World) (hr0 : Kd.C (Kd.int .u8) w A0 l0.length l0) (hc0 : l0.length ≤ c0) (hb : ∀ x ∈ l0, 0 ≤ x ∧ x ≤ 255) (hm : 0 ≤ most ∧ most ≤ 1000) (hl : l0.length ≤ 281474976710656) :
    Calls Try.prog 21 #[.slice A0 l0.length c0, .int .i64 most] w fun e w' => ∃ v0_ : Value, e = .returned (v0_) ∧ Kd.R k42 42 w' w.heap.size (fun _ => True) v0_ (madeDoc l0 most) ∧ Below w.heap.size w w' := by
  have hu42 := Try.underlying42
  have hu26 := Try.underlying26
  have hu72 := Try.underlying72
  have HR0 := Aside0.mk hr0
  have HBY := Aside0.mk hb
  obtain ⟨S, hS⟩ : ∃ S, S = madeGo most l0 0 [] := ⟨_, rfl⟩
  have HS0 := Aside0.mk hS.symm
  have HE : madeDoc l0 most = foldD S := by rw [hS]; rfl
  rw [HE]
  clear hr0 hb hS HE
  go_enter Try.func21, Try.ntmps21
  go_wp2_with fail
  go_loopg [5, 6, 7] l0.length (fun d v5 v6 v7 W => ∃ (i sz : Nat) (D : List (List S42)) (v : Value), v = v5 ∧ v6 = .int .i64 sz ∧ v7 = .int .i64 i ∧ Aside0 (i + d = l0.length) ∧ Aside0 (madeGo most (l0.drop i) sz D = S) ∧ Aside0 (stOk D sz ∧ sz ≤ 2000 ∧ D.length ≤ 2000) ∧ Aside0 (Kd.R kst 26 W w.heap.size (fun _ => True) v D) ∧ Aside0 (Below w.heap.size w W))
  case atStart => exact ⟨0, 0, [], _, rfl, rfl, rfl, ⟨by simp⟩, ⟨by simpa using HS0.out⟩, ⟨by simp [stOk]⟩, ⟨Rst_empty w⟩, ⟨(Below.refl _ _).alloc (Nat.le_refl _) _⟩⟩
  case round =>
    obtain ⟨i, sz, D, v, rfl, rfl, rfl, HI, HS, HZ, HR, HB⟩ := hrel
    obtain ⟨n, hn⟩ : ∃ n, D.length = n := ⟨_, rfl⟩
    obtain ⟨A, cap, hv⟩ := Kd.R_slice HR.out
    rw [hn] at hv
    subst hv
    have HN := Aside0.mk hn
    have hszb : sz ≤ 2000 := HZ.out.2.1
    have HNB := Aside0.mk (show n ≤ 2000 from hn ▸ HZ.out.2.2)
    clear hn
    by_cases hlt : i < l0.length
    · obtain ⟨d', rfl⟩ : ∃ d', gk = d' + 1 := ⟨gk - 1, by have := HI.out; omega⟩
      by_cases hsz : (sz : Int) + 2 < most
      · obtain ⟨ad, rfl, hcell⟩ := at_u8 (Kd.C_below HR0.out HB.out) hlt
        obtain ⟨k, hk⟩ : ∃ k, k = l0.getD i 0 := ⟨_, rfl⟩
        have hkb : 0 ≤ k ∧ k ≤ 255 := by rw [hk]; exact HBY.out _ (getD_mem hlt)
        rw [← hk] at hcell
        have HK := Aside0.mk hk
        clear hk
        have hw : wrap64 k = k := wrap64_small (by omega) (by omega)
        by_cases hleaf : k % 10 < 4 ∨ n = 0 ∨ (n = 1 ∧ 8 ≤ k % 10)
        · have HST := Aside0.mk (show madeStep k sz D = (sz + 2, D ++ [leafD k]) from if_pos (by rw [HN.out]; exact hleaf))
          rcases (show k % 10 < 4 ∨ (¬ k % 10 < 4 ∧ n = 0) ∨ (¬ k % 10 < 4 ∧ n = 1 ∧ 8 ≤ k % 10) by omega) with h1 | ⟨h1, rfl⟩ | ⟨h1, rfl, h2⟩
          · obtain ⟨hlf, hll⟩ := leaf_some hkb.1 hkb.2
            have HLL := Aside0.mk hll
            clear hll
            go_wp2_with fail
            refine (koineref25_leaf.calls k (leafD k) _ hlf).mono ?_
            rintro e W2 ⟨vn, rfl, hRn, hBn⟩
            obtain ⟨An, cn, rfl, hcn, hCn⟩ := Kd.R_reads hRn
            have HR2 := Aside0.mk (Kd.R_below HR.out hBn)
            have HB2 : Aside0 (Below w.heap.size w W2) := ⟨below_step HB.out hBn⟩
            have HRN := Aside0.mk (Kd.R_lower (Kd.R_newR hRn HR.out) HB.out.size)
            clear hRn hBn
            go_wp2_with (at_builtin; refine Kd.R_append kst (w0 := w) w.heap.size rfl (.tmp 49) (.tmp 52) 72 26 (.slice none 0 0) 24 rfl Try.underlying72 info26 rfl (by decide) (by omega) (.slice A n cap) D (leafD k) [.slice An (leafD k).length cn] (fun _ => True) (fun k => True ∧ some k ≠ (Value.ownBlock (.slice A n cap))) rfl ?aX ?aP ?aK ?aF ?aO ?aB ?aS ?aL ?_; (case aX => first | (simp [Act.eval]; done) | (go_simp; done) | (go_simp; rfl)); (case aP => exact ⟨_, rfl, HRN.out⟩); (case aK => exact (fun _ hk => hk)); (case aF => exact (fun _ _ => trivial)); (case aO => exact HR2.out); (case aB => exact HB2.out); (case aS => exact HB2.out.size); (case aL => have := HNB.out; have := HN.out; omega); intro v9 w9 hR9 hB9 hg9 hat9; obtain ⟨A9, c9, rfl⟩ := Kd.R_slice hR9; have HR9 := Aside0.mk hR9; have HB9 := Aside0.mk hB9; clear hR9 hB9 hg9 hat9)
            go_roundg d'
            case measure => omega
            case rel => exact ⟨i + 1, sz + 2, _, _, rfl, by go_num, by go_num, ⟨by have := HI.out; omega⟩, ⟨made_next hlt hsz HK.out HST.out HS.out⟩, ⟨made_ok hsz hm.2 hkb HST.out HZ.out⟩, ⟨by have h9 := HR9.out; simp only [List.length_append, List.length_cons, List.length_nil] at h9 ⊢; exact h9⟩, HB9⟩
          · obtain ⟨hlf, hll⟩ := leaf_some hkb.1 hkb.2
            have HLL := Aside0.mk hll
            clear hll
            go_wp2_with fail
            refine (koineref25_leaf.calls k (leafD k) _ hlf).mono ?_
            rintro e W2 ⟨vn, rfl, hRn, hBn⟩
            obtain ⟨An, cn, rfl, hcn, hCn⟩ := Kd.R_reads hRn
            have HR2 := Aside0.mk (Kd.R_below HR.out hBn)
            have HB2 : Aside0 (Below w.heap.size w W2) := ⟨below_step HB.out hBn⟩
            have HRN := Aside0.mk (Kd.R_lower (Kd.R_newR hRn HR.out) HB.out.size)
            clear hRn hBn
            go_wp2_with (at_builtin; refine Kd.R_append kst (w0 := w) w.heap.size rfl (.tmp 49) (.tmp 52) 72 26 (.slice none 0 0) 24 rfl Try.underlying72 info26 rfl (by decide) (by omega) (.slice A 0 cap) D (leafD k) [.slice An (leafD k).length cn] (fun _ => True) (fun k => True ∧ some k ≠ (Value.ownBlock (.slice A 0 cap))) rfl ?aX ?aP ?aK ?aF ?aO ?aB ?aS ?aL ?_; (case aX => first | (simp [Act.eval]; done) | (go_simp; done) | (go_simp; rfl)); (case aP => exact ⟨_, rfl, HRN.out⟩); (case aK => exact (fun _ hk => hk)); (case aF => exact (fun _ _ => trivial)); (case aO => exact HR2.out); (case aB => exact HB2.out); (case aS => exact HB2.out.size); (case aL => have := HNB.out; have := HN.out; omega); intro v9 w9 hR9 hB9 hg9 hat9; obtain ⟨A9, c9, rfl⟩ := Kd.R_slice hR9; have HR9 := Aside0.mk hR9; have HB9 := Aside0.mk hB9; clear hR9 hB9 hg9 hat9)
            go_roundg d'
            case measure => omega
            case rel => exact ⟨i + 1, sz + 2, _, _, rfl, by go_num, by go_num, ⟨by have := HI.out; omega⟩, ⟨made_next hlt hsz HK.out HST.out HS.out⟩, ⟨made_ok hsz hm.2 hkb HST.out HZ.out⟩, ⟨by have h9 := HR9.out; simp only [List.length_append, List.length_cons, List.length_nil] at h9 ⊢; exact h9⟩, HB9⟩
          · obtain ⟨hlf, hll⟩ := leaf_some hkb.1 hkb.2
            have HLL := Aside0.mk hll
            clear hll
            go_wp2_with fail
            refine (koineref25_leaf.calls k (leafD k) _ hlf).mono ?_
            rintro e W2 ⟨vn, rfl, hRn, hBn⟩
            obtain ⟨An, cn, rfl, hcn, hCn⟩ := Kd.R_reads hRn
            have HR2 := Aside0.mk (Kd.R_below HR.out hBn)
            have HB2 : Aside0 (Below w.heap.size w W2) := ⟨below_step HB.out hBn⟩
            have HRN := Aside0.mk (Kd.R_lower (Kd.R_newR hRn HR.out) HB.out.size)
            clear hRn hBn
            go_wp2_with (at_builtin; refine Kd.R_append kst (w0 := w) w.heap.size rfl (.tmp 49) (.tmp 52) 72 26 (.slice none 0 0) 24 rfl Try.underlying72 info26 rfl (by decide) (by omega) (.slice A 1 cap) D (leafD k) [.slice An (leafD k).length cn] (fun _ => True) (fun k => True ∧ some k ≠ (Value.ownBlock (.slice A 1 cap))) rfl ?aX ?aP ?aK ?aF ?aO ?aB ?aS ?aL ?_; (case aX => first | (simp [Act.eval]; done) | (go_simp; done) | (go_simp; rfl)); (case aP => exact ⟨_, rfl, HRN.out⟩); (case aK => exact (fun _ hk => hk)); (case aF => exact (fun _ _ => trivial)); (case aO => exact HR2.out); (case aB => exact HB2.out); (case aS => exact HB2.out.size); (case aL => have := HNB.out; have := HN.out; omega); intro v9 w9 hR9 hB9 hg9 hat9; obtain ⟨A9, c9, rfl⟩ := Kd.R_slice hR9; have HR9 := Aside0.mk hR9; have HB9 := Aside0.mk hB9; clear hR9 hB9 hg9 hat9)
            go_roundg d'
            case measure => omega
            case rel => exact ⟨i + 1, sz + 2, _, _, rfl, by go_num, by go_num, ⟨by have := HI.out; omega⟩, ⟨made_next hlt hsz HK.out HST.out HS.out⟩, ⟨made_ok hsz hm.2 hkb HST.out HZ.out⟩, ⟨by have h9 := HR9.out; simp only [List.length_append, List.length_cons, List.length_nil] at h9 ⊢; exact h9⟩, HB9⟩
        · by_cases h8 : 8 ≤ k % 10
          · obtain ⟨m, rfl⟩ : ∃ m, n = m + 2 := ⟨n - 2, by omega⟩
            have hne0 : ((m : Int) + 2 == 0) = false := beq_eq_false_iff_ne.2 (by omega)
            have hne1 : ((m : Int) + 2 == 1) = false := beq_eq_false_iff_ne.2 (by omega)
            obtain ⟨g, cap', hv, hg1, hg2⟩ := st_ne HR.out (by rw [HN.out]; omega)
            injection hv with e1 e2 e3
            subst e1 e3
            clear e2
            obtain ⟨X, hX⟩ : ∃ X, D.getD m [] = X := ⟨_, rfl⟩
            obtain ⟨Y, hY⟩ : ∃ Y, D.getD (m + 1) [] = Y := ⟨_, rfl⟩
            have HST := Aside0.mk (show madeStep k sz D = (sz, D.take m ++ [seqD X Y]) from by
              unfold madeStep; rw [HN.out, if_neg hleaf, if_pos h8, show m + 2 - 2 = m from by omega, show m + 2 - 1 = m + 1 from by omega, hX, hY])
            have HLEN := Aside0.mk (show X.length + Y.length ≤ 1000000 from by have h7 := sum_split D m HN.out; rw [hX, hY] at h7; have h6 := HZ.out.1; unfold stOk at h6; omega)
            have hmb : m ≤ 2000 := by have := HNB.out; omega
            have HRd := Aside0.mk (Kd.R_drew HR.out)
            have hcap : m + 2 ≤ cap := st_cap HN.out HR.out
            have hcap1 : m ≤ cap := by omega
            have hcap2 : (m : Int) ≤ cap := by omega
            obtain ⟨A1, c1, hc1, hle1, hC1, hf1, hR1⟩ := st_elem' HN.out HRd.out (j := m) (by omega) hX
            obtain ⟨A2, c2, hc2, hle2, hC2, hf2, hR2⟩ := st_elem' HN.out HRd.out (j := m + 1) (by omega) hY
            have HC1 := Aside0.mk hC1
            have HC2 := Aside0.mk hC2
            have HML := Aside0.mk (show m ≤ D.length from by rw [HN.out]; omega)
            have HLE := Aside0.mk (show ((D.take m).length + 1) * 24 ≤ 140737488355328 from by simp only [List.length_take]; omega)
            have HW := Aside0.mk (And.intro (wrapk_nat m hmb) (And.intro (wrapk_nat1 m hmb) (And.intro hcap1 (And.intro hcap2 (And.intro (slice_run (some ⟨g, 0, none⟩) m cap hcap hmb) (And.intro hc1 hc2))))))
            clear hmb hcap hcap1 hcap2 hc1 hc2 hC1 hC2 hR1 hR2 hf1 hf2 hX hY
            go_wp2_with fail
            have hj1 : (m : Int) < (m : Int) + 2 := by omega
            have hj2 : (m : Int) + 1 < (m : Int) + 2 := by omega
            have hj3 : (0 : Int) ≤ (m : Int) + 1 := by omega
            obtain ⟨hwm, hwm1, hcap1, hcap2, hsl, hc1, hc2⟩ := HW.out
            go_region_law (first | (refine Kd.R_append_step kst (w0 := w) w.heap.size rfl (.tmp 61) (.tmp 73) 72 26 (.slice none 0 0) 24 rfl Try.underlying72 info26 rfl (by decide) (by omega) (.slice (some ⟨g, 0, none⟩) m cap) (D.take m) (seqD X Y) [.slice An (seqD X Y).length cn] (fun _ => True) (fun k => True ∧ some k ≠ (Value.ownBlock (.slice (some ⟨g, 0, none⟩) m cap))) rfl ?aX ?aP ?aK ?aF ?aO ?aB ?aS ?aL ?_; (case aX => first | (simp [Act.eval]; done) | (go_simp; done) | (go_simp; rfl)); (case aP => exact ⟨_, rfl, HRN.out⟩); (case aK => exact (fun _ hk => hk)); (case aF => exact (fun _ _ => trivial)); (case aO => exact HR2.out); (case aB => exact HB2.out); (case aS => exact HB2.out.size); (case aL => exact HLE.out); intro v9 w9 hR9 hB9 hg9 hat9; obtain ⟨A9, c9, rfl⟩ := Kd.R_slice hR9; have HR9 := Aside0.mk hR9; have HB9 := Aside0.mk hB9; clear hR9 hB9 hg9 hat9) | (go_simp; go_wp2_with (go_at_call 35; refine (koineref25_Seq.calls A1 c1 X A2 c2 Y _ _ HC1.out hle1 HC2.out hle2 (Seq_eq _ _ HLEN.out)).mono ?_; rintro e W2 ⟨vn, rfl, hRn, hBn⟩; obtain ⟨An, cn, rfl, hcn, hCn⟩ := Kd.R_reads hRn; have HR2 := Aside0.mk (Kd.R_take (m := m) (Kd.R_below HRd.out hBn) HML.out); have HB2 : Aside0 (Below w.heap.size w W2) := ⟨below_step (below_drew1 HB.out) hBn⟩; have HRN := Aside0.mk (Kd.R_lower (Kd.R_newR hRn (Kd.R_take (m := m) HRd.out HML.out)) (below_drew1 HB.out).size); clear hRn hBn)))
            all_goals
              clear hwm hwm1
              go_wp2_with fail
              go_roundg d'
              case measure => omega
              case rel => exact ⟨i + 1, sz, _, _, rfl, by go_num, by go_num, ⟨by have := HI.out; omega⟩, ⟨made_next hlt hsz HK.out HST.out HS.out⟩, ⟨made_ok hsz hm.2 hkb HST.out HZ.out⟩, ⟨by have h9 := HR9.out; simp only [List.length_append, List.length_take, List.length_cons, List.length_nil] at h9 ⊢; exact h9⟩, HB9⟩
          · by_cases h11 : n = 1
            · subst h11
              obtain ⟨g, cap', hv, hg1, hg2⟩ := st_ne HR.out (by rw [HN.out]; omega)
              injection hv with e1 e2 e3
              subst e1 e3
              clear e2
              obtain ⟨X, hX⟩ : ∃ X, D.getD 0 [] = X := ⟨_, rfl⟩
              have HX := Aside0.mk hX
              obtain ⟨A1, c1, hc1, hle1, hC1, hf1, hR1⟩ := st_elem' HN.out HR.out (j := 0) (by omega) hX
              have HC1 := Aside0.mk hC1
              have HLEN := Aside0.mk (show X.length ≤ 1000000 from by have h7 := sum_set D 0 [] (by rw [HN.out]; omega); rw [hX] at h7; have h6 := HZ.out.1; unfold stOk at h6; simp only [List.length_nil] at h7; omega)
              have hq : 0 ≤ k / 10 := by omega
              clear hC1 hR1 hf1 hX
              by_cases h6 : k % 10 = 6
              · have HST := Aside0.mk (show madeStep k sz D = (sz + 1, D.set 0 (wrapD 4 (k / 10 % 5) X)) from by
                  unfold madeStep; rw [HN.out, if_neg hleaf, if_neg h8, show 1 - 1 = 0 from rfl, HX.out, if_pos h6])
                go_wp2_with fail
                refine (koineref25_Wrap.calls 4 (k / 10 % 5) A1 c1 X _ _ HC1.out hle1 (Wrap_eq 4 (k / 10 % 5) _ HLEN.out)).mono ?_
                rintro e W2 ⟨vn, rfl, hRn, hBn⟩
                obtain ⟨An, cn, rfl, hcn, hCn⟩ := Kd.R_reads hRn
                have HR2 := Aside0.mk (Kd.R_below HR.out hBn)
                have HB2 : Aside0 (Below w.heap.size w W2) := ⟨below_step HB.out hBn⟩
                have HRN := Aside0.mk (Kd.R_lower (Kd.R_newR hRn HR.out) HB.out.size)
                obtain ⟨A3, c3, hc3, hle3, hC3, hf3, hR3⟩ := st_elem' HN.out HR2.out (j := 0) (by omega) HX.out
                clear hRn hBn hC3 hR3 hle3 hc1
                go_wp2_with fail
                go_roundg d'
                case measure => omega
                case rel => exact ⟨i + 1, sz + 1, _, _, rfl, by go_num, by go_num, ⟨by have := HI.out; omega⟩, ⟨made_next hlt hsz HK.out HST.out HS.out⟩, ⟨made_ok hsz hm.2 hkb HST.out HZ.out⟩, ⟨st_put' HN.out HR2.out (by omega) HRN.out (fun k_ hk => ne_own hk.2)⟩, ⟨below_set HB2.out hg1⟩⟩
              · by_cases h7 : k % 10 = 7
                · have HST := Aside0.mk (show madeStep k sz D = (sz + 1, D.set 0 (wrapD 5 0 X)) from by
                    unfold madeStep; rw [HN.out, if_neg hleaf, if_neg h8, show 1 - 1 = 0 from rfl, HX.out, if_neg h6, if_pos h7])
                  go_wp2_with fail
                  refine (koineref25_Wrap.calls 5 0 A1 c1 X _ _ HC1.out hle1 (Wrap_eq 5 0 _ HLEN.out)).mono ?_
                  rintro e W2 ⟨vn, rfl, hRn, hBn⟩
                  obtain ⟨An, cn, rfl, hcn, hCn⟩ := Kd.R_reads hRn
                  have HR2 := Aside0.mk (Kd.R_below HR.out hBn)
                  have HB2 : Aside0 (Below w.heap.size w W2) := ⟨below_step HB.out hBn⟩
                  have HRN := Aside0.mk (Kd.R_lower (Kd.R_newR hRn HR.out) HB.out.size)
                  obtain ⟨A3, c3, hc3, hle3, hC3, hf3, hR3⟩ := st_elem' HN.out HR2.out (j := 0) (by omega) HX.out
                  clear hRn hBn hC3 hR3 hle3 hc1
                  go_wp2_with fail
                  go_roundg d'
                  case measure => omega
                  case rel => exact ⟨i + 1, sz + 1, _, _, rfl, by go_num, by go_num, ⟨by have := HI.out; omega⟩, ⟨made_next hlt hsz HK.out HST.out HS.out⟩, ⟨made_ok hsz hm.2 hkb HST.out HZ.out⟩, ⟨st_put' HN.out HR2.out (by omega) HRN.out (fun k_ hk => ne_own hk.2)⟩, ⟨below_set HB2.out hg1⟩⟩
                · have HST := Aside0.mk (show madeStep k sz D = (sz + 1, D.set 0 (wrapD 6 0 X)) from by
                    unfold madeStep; rw [HN.out, if_neg hleaf, if_neg h8, show 1 - 1 = 0 from rfl, HX.out, if_neg h6, if_neg h7])
                  go_wp2_with fail
                  refine (koineref25_Wrap.calls 6 0 A1 c1 X _ _ HC1.out hle1 (Wrap_eq 6 0 _ HLEN.out)).mono ?_
                  rintro e W2 ⟨vn, rfl, hRn, hBn⟩
                  obtain ⟨An, cn, rfl, hcn, hCn⟩ := Kd.R_reads hRn
                  have HR2 := Aside0.mk (Kd.R_below HR.out hBn)
                  have HB2 : Aside0 (Below w.heap.size w W2) := ⟨below_step HB.out hBn⟩
                  have HRN := Aside0.mk (Kd.R_lower (Kd.R_newR hRn HR.out) HB.out.size)
                  obtain ⟨A3, c3, hc3, hle3, hC3, hf3, hR3⟩ := st_elem' HN.out HR2.out (j := 0) (by omega) HX.out
                  clear hRn hBn hC3 hR3 hle3 hc1
                  go_wp2_with fail
                  go_roundg d'
                  case measure => omega
                  case rel => exact ⟨i + 1, sz + 1, _, _, rfl, by go_num, by go_num, ⟨by have := HI.out; omega⟩, ⟨made_next hlt hsz HK.out HST.out HS.out⟩, ⟨made_ok hsz hm.2 hkb HST.out HZ.out⟩, ⟨st_put' HN.out HR2.out (by omega) HRN.out (fun k_ hk => ne_own hk.2)⟩, ⟨below_set HB2.out hg1⟩⟩
            · obtain ⟨m, rfl⟩ : ∃ m, n = m + 1 := ⟨n - 1, by omega⟩
              have hmp : 1 ≤ m := by omega
              have hmb : m ≤ 2000 := by have := HNB.out; omega
              have hwm : wrap64 (m : Int) = m := wrap_nat m hmb
              have hne0 : ((m : Int) + 1 == 0) = false := beq_eq_false_iff_ne.2 (by omega)
              have hne1 : ((m : Int) + 1 == 1) = false := beq_eq_false_iff_ne.2 (by omega)
              obtain ⟨g, cap', hv, hg1, hg2⟩ := st_ne HR.out (by rw [HN.out]; omega)
              injection hv with e1 e2 e3
              subst e1 e3
              clear e2
              obtain ⟨X, hX⟩ : ∃ X, D.getD m [] = X := ⟨_, rfl⟩
              have HX := Aside0.mk hX
              obtain ⟨A1, c1, hc1, hle1, hC1, hf1, hR1⟩ := st_elem' HN.out HR.out (j := m) (by omega) hX
              have HC1 := Aside0.mk hC1
              have HLEN := Aside0.mk (show X.length ≤ 1000000 from by have h7 := sum_set D m [] (by rw [HN.out]; omega); rw [hX] at h7; have h6 := HZ.out.1; unfold stOk at h6; simp only [List.length_nil] at h7; omega)
              have hq : 0 ≤ k / 10 := by omega
              clear hC1 hR1 hf1 hX
              by_cases h6 : k % 10 = 6
              · have HST := Aside0.mk (show madeStep k sz D = (sz + 1, D.set m (wrapD 4 (k / 10 % 5) X)) from by
                  unfold madeStep; rw [HN.out, if_neg hleaf, if_neg h8, show m + 1 - 1 = m from by omega, HX.out, if_pos h6])
                go_wp2_with fail
                refine (koineref25_Wrap.calls 4 (k / 10 % 5) A1 c1 X _ _ HC1.out hle1 (Wrap_eq 4 (k / 10 % 5) _ HLEN.out)).mono ?_
                rintro e W2 ⟨vn, rfl, hRn, hBn⟩
                obtain ⟨An, cn, rfl, hcn, hCn⟩ := Kd.R_reads hRn
                have HR2 := Aside0.mk (Kd.R_below HR.out hBn)
                have HB2 : Aside0 (Below w.heap.size w W2) := ⟨below_step HB.out hBn⟩
                have HRN := Aside0.mk (Kd.R_lower (Kd.R_newR hRn HR.out) HB.out.size)
                obtain ⟨A3, c3, hc3, hle3, hC3, hf3, hR3⟩ := st_elem' HN.out HR2.out (j := m) (by omega) HX.out
                clear hRn hBn hC3 hR3 hle3 hc1
                go_wp2_with fail
                go_roundg d'
                case measure => omega
                case rel => exact ⟨i + 1, sz + 1, _, _, rfl, by go_num, by go_num, ⟨by have := HI.out; omega⟩, ⟨made_next hlt hsz HK.out HST.out HS.out⟩, ⟨made_ok hsz hm.2 hkb HST.out HZ.out⟩, ⟨st_put' HN.out HR2.out (by omega) HRN.out (fun k_ hk => ne_own hk.2)⟩, ⟨below_set HB2.out hg1⟩⟩
              · by_cases h7 : k % 10 = 7
                · have HST := Aside0.mk (show madeStep k sz D = (sz + 1, D.set m (wrapD 5 0 X)) from by
                    unfold madeStep; rw [HN.out, if_neg hleaf, if_neg h8, show m + 1 - 1 = m from by omega, HX.out, if_neg h6, if_pos h7])
                  go_wp2_with fail
                  refine (koineref25_Wrap.calls 5 0 A1 c1 X _ _ HC1.out hle1 (Wrap_eq 5 0 _ HLEN.out)).mono ?_
                  rintro e W2 ⟨vn, rfl, hRn, hBn⟩
                  obtain ⟨An, cn, rfl, hcn, hCn⟩ := Kd.R_reads hRn
                  have HR2 := Aside0.mk (Kd.R_below HR.out hBn)
                  have HB2 : Aside0 (Below w.heap.size w W2) := ⟨below_step HB.out hBn⟩
                  have HRN := Aside0.mk (Kd.R_lower (Kd.R_newR hRn HR.out) HB.out.size)
                  obtain ⟨A3, c3, hc3, hle3, hC3, hf3, hR3⟩ := st_elem' HN.out HR2.out (j := m) (by omega) HX.out
                  clear hRn hBn hC3 hR3 hle3 hc1
                  go_wp2_with fail
                  go_roundg d'
                  case measure => omega
                  case rel => exact ⟨i + 1, sz + 1, _, _, rfl, by go_num, by go_num, ⟨by have := HI.out; omega⟩, ⟨made_next hlt hsz HK.out HST.out HS.out⟩, ⟨made_ok hsz hm.2 hkb HST.out HZ.out⟩, ⟨st_put' HN.out HR2.out (by omega) HRN.out (fun k_ hk => ne_own hk.2)⟩, ⟨below_set HB2.out hg1⟩⟩
                · have HST := Aside0.mk (show madeStep k sz D = (sz + 1, D.set m (wrapD 6 0 X)) from by
                    unfold madeStep; rw [HN.out, if_neg hleaf, if_neg h8, show m + 1 - 1 = m from by omega, HX.out, if_neg h6, if_neg h7])
                  go_wp2_with fail
                  refine (koineref25_Wrap.calls 6 0 A1 c1 X _ _ HC1.out hle1 (Wrap_eq 6 0 _ HLEN.out)).mono ?_
                  rintro e W2 ⟨vn, rfl, hRn, hBn⟩
                  obtain ⟨An, cn, rfl, hcn, hCn⟩ := Kd.R_reads hRn
                  have HR2 := Aside0.mk (Kd.R_below HR.out hBn)
                  have HB2 : Aside0 (Below w.heap.size w W2) := ⟨below_step HB.out hBn⟩
                  have HRN := Aside0.mk (Kd.R_lower (Kd.R_newR hRn HR.out) HB.out.size)
                  obtain ⟨A3, c3, hc3, hle3, hC3, hf3, hR3⟩ := st_elem' HN.out HR2.out (j := m) (by omega) HX.out
                  clear hRn hBn hC3 hR3 hle3 hc1
                  go_wp2_with fail
                  go_roundg d'
                  case measure => omega
                  case rel => exact ⟨i + 1, sz + 1, _, _, rfl, by go_num, by go_num, ⟨by have := HI.out; omega⟩, ⟨made_next hlt hsz HK.out HST.out HS.out⟩, ⟨made_ok hsz hm.2 hkb HST.out HZ.out⟩, ⟨st_put' HN.out HR2.out (by omega) HRN.out (fun k_ hk => ne_own hk.2)⟩, ⟨below_set HB2.out hg1⟩⟩
      · have HDS : Aside0 (D = S) := ⟨by have h7 := HS.out; rw [List.drop_eq_getElem_cons hlt, madeGo, if_neg hsz] at h7; exact h7⟩
        rcases Nat.eq_zero_or_pos n with rfl | hnp
        · have HD := Aside0.mk (List.length_eq_zero_iff.1 HN.out)
          go_wp2_with fail
          refine (koineref25_Text.calls ⟨#[]⟩ (textD ⟨#[]⟩) _ rfl).mono ?_
          rintro e W2 ⟨vn, rfl, hRn, hBn⟩
          have HB2 : Aside0 (Below w.heap.size w W2) := ⟨below_step HB.out hBn⟩
          have HRN := Aside0.mk (Kd.R_lower hRn HB.out.size)
          obtain ⟨An, cn, rfl, hcn, hCn⟩ := Kd.R_reads hRn
          clear hRn hBn hCn
          go_wp2_with fail
          go_ret
          exact ⟨_, rfl, by rw [← HDS.out, HD.out]; exact HRN.out, HB2.out⟩
        · obtain ⟨m, rfl⟩ : ∃ m, n = m + 1 := ⟨n - 1, by omega⟩
          obtain ⟨g, cap', hv, hg1, hg2⟩ := st_ne HR.out (by rw [HN.out]; omega)
          injection hv with e1 e2 e3
          subst e1 e3
          clear e2
          have hne0 : ((m : Int) + 1 == 0) = false := beq_eq_false_iff_ne.2 (by omega)
          have hmb : m ≤ 2000 := by have := HNB.out; omega
          cases D with
          | nil => exact absurd HN.out (by simp)
          | cons X t =>
            have HM : Aside0 (t.length = m) := ⟨by have := HN.out; simpa using this⟩
            obtain ⟨A1, c1, hc1, hle1, hC1, hf1, hR1⟩ := st_elem' HN.out HR.out (j := 0) (X := X) (by omega) rfl
            have HR1 := Aside0.mk (Kd.R_mono hR1 (ok' := fun _ => True) (fun _ _ => trivial))
            clear hC1 hR1 hf1
            go_wp2_with fail
            go_loopg [11, 12] m (fun d v11 v12 W => ∃ (j : Nat) (v : Value), v = v11 ∧ v12 = .int .i64 ((j : Int) + 1) ∧ Aside0 (j + d = m) ∧ Aside0 (Kd.R k42 42 W w.heap.size (fun _ => True) v (accD X t j)) ∧ Aside0 (Kd.R kst 26 W w.heap.size (fun _ => True) (.slice (some ⟨g, 0, none⟩) (m + 1) cap) (X :: t)) ∧ Aside0 (Below w.heap.size w W))
            case atStart => exact ⟨0, _, rfl, rfl, ⟨by simp⟩, HR1, HR, HB⟩
            case round =>
              clear HR1 HR HB hc1 hle1
              obtain ⟨j, v, rfl, rfl, HJ, HRO, HR, HB⟩ := hrel
              obtain ⟨Ao, co, rfl, hco, hCo⟩ := Kd.R_reads HRO.out
              have HCO := Aside0.mk hCo
              clear hCo
              by_cases hjm : j < m
              · obtain ⟨d', rfl⟩ : ∃ d', gk = d' + 1 := ⟨gk - 1, by have := HJ.out; omega⟩
                obtain ⟨Y, hY⟩ : ∃ Y, t.getD j [] = Y := ⟨_, rfl⟩
                obtain ⟨A2, c2, hc2, hle2, hC2, hf2, hR2⟩ := st_elem' HN.out HR.out (j := j + 1) (X := Y) (by omega) (by rw [← hY]; rfl)
                have HC2 := Aside0.mk hC2
                have HLEN := Aside0.mk (show (accD X t j).length + Y.length ≤ 1000000 from by have h7 := accD_length X t j sz (by rw [HM.out]; exact hjm) HZ.out.1; rw [hY] at h7; omega)
                have HY := Aside0.mk hY
                obtain ⟨P, hP⟩ : ∃ P, accD X t j = P := ⟨_, rfl⟩
                have HP := Aside0.mk hP
                rw [hP] at HLEN HCO hco
                rw [hP]
                clear hC2 hR2 hf2 hY hP
                go_wp2_with fail
                refine (koineref25_Seq.calls Ao co P A2 c2 Y _ _ HCO.out hco HC2.out hle2 (Seq_eq _ _ HLEN.out)).mono ?_
                rintro e W2 ⟨vn, rfl, hRn, hBn⟩
                obtain ⟨An, cn, rfl, hcn, hCn⟩ := Kd.R_reads hRn
                have HR2 := Aside0.mk (Kd.R_below HR.out hBn)
                have HB2 : Aside0 (Below w.heap.size w W2) := ⟨below_step HB.out hBn⟩
                have HRN := Aside0.mk (Kd.R_lower hRn HB.out.size)
                clear hRn hBn hCn
                go_wp2_with fail
                go_roundg d'
                case measure => omega
                case rel => exact ⟨j + 1, _, rfl, by go_num, ⟨by have := HJ.out; omega⟩, ⟨by rw [accD_succ X t j (by rw [HM.out]; exact hjm), HP.out, HY.out]; exact HRN.out⟩, HR2, HB2⟩
              · have HJM : Aside0 (j = m) := ⟨by have := HJ.out; omega⟩
                have hjn : ¬ (j : Int) + 1 < (m : Int) + 1 := by omega
                go_wp2_with fail
                go_ret
                exact ⟨_, rfl, by
                  have h8 : accD X t j = foldD (X :: t) := by rw [HJM.out, ← HM.out]; unfold accD; rw [List.take_length]; rfl
                  rw [← HDS.out, ← h8]
                  exact HRO.out, HB.out⟩
    · have HDS : Aside0 (D = S) := ⟨by have h7 := HS.out; rw [List.drop_eq_nil_of_le (by omega)] at h7; exact h7⟩
      rcases Nat.eq_zero_or_pos n with rfl | hnp
      · have HD := Aside0.mk (List.length_eq_zero_iff.1 HN.out)
        go_wp2_with fail
        refine (koineref25_Text.calls ⟨#[]⟩ (textD ⟨#[]⟩) _ rfl).mono ?_
        rintro e W2 ⟨vn, rfl, hRn, hBn⟩
        have HB2 : Aside0 (Below w.heap.size w W2) := ⟨below_step HB.out hBn⟩
        have HRN := Aside0.mk (Kd.R_lower hRn HB.out.size)
        obtain ⟨An, cn, rfl, hcn, hCn⟩ := Kd.R_reads hRn
        clear hRn hBn hCn
        go_wp2_with fail
        go_ret
        exact ⟨_, rfl, by rw [← HDS.out, HD.out]; exact HRN.out, HB2.out⟩
      · obtain ⟨m, rfl⟩ : ∃ m, n = m + 1 := ⟨n - 1, by omega⟩
        obtain ⟨g, cap', hv, hg1, hg2⟩ := st_ne HR.out (by rw [HN.out]; omega)
        injection hv with e1 e2 e3
        subst e1 e3
        clear e2
        have hne0 : ((m : Int) + 1 == 0) = false := beq_eq_false_iff_ne.2 (by omega)
        have hmb : m ≤ 2000 := by have := HNB.out; omega
        cases D with
        | nil => exact absurd HN.out (by simp)
        | cons X t =>
          have HM : Aside0 (t.length = m) := ⟨by have := HN.out; simpa using this⟩
          obtain ⟨A1, c1, hc1, hle1, hC1, hf1, hR1⟩ := st_elem' HN.out HR.out (j := 0) (X := X) (by omega) rfl
          have HR1 := Aside0.mk (Kd.R_mono hR1 (ok' := fun _ => True) (fun _ _ => trivial))
          clear hC1 hR1 hf1
          go_wp2_with fail
          go_loopg [11, 12] m (fun d v11 v12 W => ∃ (j : Nat) (v : Value), v = v11 ∧ v12 = .int .i64 ((j : Int) + 1) ∧ Aside0 (j + d = m) ∧ Aside0 (Kd.R k42 42 W w.heap.size (fun _ => True) v (accD X t j)) ∧ Aside0 (Kd.R kst 26 W w.heap.size (fun _ => True) (.slice (some ⟨g, 0, none⟩) (m + 1) cap) (X :: t)) ∧ Aside0 (Below w.heap.size w W))
          case atStart => exact ⟨0, _, rfl, rfl, ⟨by simp⟩, HR1, HR, HB⟩
          case round =>
            clear HR1 HR HB hc1 hle1
            obtain ⟨j, v, rfl, rfl, HJ, HRO, HR, HB⟩ := hrel
            obtain ⟨Ao, co, rfl, hco, hCo⟩ := Kd.R_reads HRO.out
            have HCO := Aside0.mk hCo
            clear hCo
            by_cases hjm : j < m
            · obtain ⟨d', rfl⟩ : ∃ d', gk = d' + 1 := ⟨gk - 1, by have := HJ.out; omega⟩
              obtain ⟨Y, hY⟩ : ∃ Y, t.getD j [] = Y := ⟨_, rfl⟩
              obtain ⟨A2, c2, hc2, hle2, hC2, hf2, hR2⟩ := st_elem' HN.out HR.out (j := j + 1) (X := Y) (by omega) (by rw [← hY]; rfl)
              have HC2 := Aside0.mk hC2
              have HLEN := Aside0.mk (show (accD X t j).length + Y.length ≤ 1000000 from by have h7 := accD_length X t j sz (by rw [HM.out]; exact hjm) HZ.out.1; rw [hY] at h7; omega)
              have HY := Aside0.mk hY
              obtain ⟨P, hP⟩ : ∃ P, accD X t j = P := ⟨_, rfl⟩
              have HP := Aside0.mk hP
              rw [hP] at HLEN HCO hco
              rw [hP]
              clear hC2 hR2 hf2 hY hP
              go_wp2_with fail
              refine (koineref25_Seq.calls Ao co P A2 c2 Y _ _ HCO.out hco HC2.out hle2 (Seq_eq _ _ HLEN.out)).mono ?_
              rintro e W2 ⟨vn, rfl, hRn, hBn⟩
              obtain ⟨An, cn, rfl, hcn, hCn⟩ := Kd.R_reads hRn
              have HR2 := Aside0.mk (Kd.R_below HR.out hBn)
              have HB2 : Aside0 (Below w.heap.size w W2) := ⟨below_step HB.out hBn⟩
              have HRN := Aside0.mk (Kd.R_lower hRn HB.out.size)
              clear hRn hBn hCn
              go_wp2_with fail
              go_roundg d'
              case measure => omega
              case rel => exact ⟨j + 1, _, rfl, by go_num, ⟨by have := HJ.out; omega⟩, ⟨by rw [accD_succ X t j (by rw [HM.out]; exact hjm), HP.out, HY.out]; exact HRN.out⟩, HR2, HB2⟩
            · have HJM : Aside0 (j = m) := ⟨by have := HJ.out; omega⟩
              have hjn : ¬ (j : Int) + 1 < (m : Int) + 1 := by omega
              go_wp2_with fail
              go_ret
              exact ⟨_, rfl, by
                have h8 : accD X t j = foldD (X :: t) := by rw [HJM.out, ← HM.out]; unfold accD; rw [List.take_length]; rfl
                rw [← HDS.out, ← h8]
                exact HRO.out, HB.out⟩
/-- The letters are bytes, and few nodes are asked for. -/
def koineref25_Made.f (l0 : List Int) (a1 : Int) : Option (List S42) := if (l0.all (fun x => decide (0 ≤ x) && decide (x ≤ 255))) = true ∧ (0 ≤ a1 ∧ a1 ≤ 1000) ∧ l0.length ≤ 281474976710656 then some (madeDoc l0 a1) else none
theorem koineref25_Made.calls (A0 : Option Addr) (c0 : Nat) (l0 : List Int) (a1 : Int) (r : List S42) (w : World) (hr0 : Kd.C (Kd.int .u8) w A0 l0.length l0) (hc0 : l0.length ≤ c0) (h : koineref25_Made.f l0 a1 = some r) :
    Calls Try.prog 21 #[.slice A0 l0.length c0, .int .i64 a1] w fun e w' => ∃ v0_ : Value, e = .returned (v0_) ∧ Kd.R k42 42 w' w.heap.size (fun _ => True) v0_ r ∧ Below w.heap.size w w' := by
  unfold koineref25_Made.f at h
  split at h
  · rename_i hg
    obtain rfl := Option.some.inj h
    refine made_calls A0 c0 l0 a1 w hr0 hc0 (fun x hx => ?_) hg.2.1 hg.2.2
    have := List.all_eq_true.1 hg.1 x hx
    simpa using this
  · exact absurd h (by simp)
end Go.Proofs.Ythmmdmnbcecooaa.A
end

section
namespace Go.Proofs.Ythmmdmnbcecooaa.A
open Go.RowKit Go.Proofs.YthmmdmnbcecooaaW.PrintWords Go.Proofs.YthmmdmnbcecooaaW.PrintLast Go.Proofs.YthmmdmnbcecooaaW.PrintMore
set_option linter.unusedVariables false
set_option linter.unusedSimpArgs false
theorem leaf_good {k : Int} (h0 : 0 ≤ k) (h1 : k ≤ 255) : Good (leafD k) := by
  have h : ∀ i : Fin 256, checkI (leafD (i.val : Int)) = 0 := by decide +kernel
  have := h ⟨k.toNat, by omega⟩
  simp only [Int.toNat_of_nonneg h0] at this
  exact (check_zero_iff _).1 this
theorem len_le_sum : ∀ (D : List (List S42)) (d : List S42), d ∈ D → d.length ≤ (D.map List.length).sum
  | [], _, h => by cases h
  | a :: t, d, h => by
    simp only [List.map_cons, List.sum_cons]
    rcases List.mem_cons.1 h with rfl | h
    · omega
    · have := len_le_sum t d h; omega
theorem getD_memD {D : List (List S42)} {j : Nat} (h : j < D.length) : D.getD j [] ∈ D := by simp [List.getD, h]
theorem madeStep_good {k : Int} (hk : 0 ≤ k ∧ k ≤ 255) {sz : Nat} {D : List (List S42)} (hg : ∀ d ∈ D, Good d) (hz : stOk D sz) (hs : sz ≤ 2000) : ∀ d ∈ (madeStep k sz D).2, Good d := by
  unfold stOk at hz
  unfold madeStep
  by_cases c1 : k % 10 < 4 ∨ D.length = 0 ∨ (D.length = 1 ∧ 8 ≤ k % 10)
  · rw [if_pos c1]
    intro d hd
    rcases List.mem_append.1 hd with h | h
    · exact hg d h
    · rw [List.mem_singleton.1 h]; exact leaf_good hk.1 hk.2
  rw [if_neg c1]
  by_cases c2 : 8 ≤ k % 10
  · rw [if_pos c2]
    intro d hd
    rcases List.mem_append.1 hd with h | h
    · exact hg d (List.mem_of_mem_take h)
    · rw [List.mem_singleton.1 h]
      obtain ⟨m, hm⟩ : ∃ m, D.length = m + 2 := ⟨D.length - 2, by omega⟩
      have hsp := sum_split D m hm
      rw [hm, show m + 2 - 2 = m from by omega, show m + 2 - 1 = m + 1 from by omega]
      exact good_seq (hg _ (getD_memD (by omega))) (hg _ (getD_memD (by omega))) (by omega)
  · rw [if_neg c2]
    intro d hd
    have hx := getD_memD (D := D) (j := D.length - 1) (by omega)
    have hl := len_le_sum D _ hx
    rcases List.mem_or_eq_of_mem_set hd with h | h
    · exact hg d h
    · rw [h]
      split
      · exact good_wrap (hg _ hx) ⟨by omega, by omega⟩ ⟨by omega, by omega⟩ (fun h => absurd rfl h) (by omega)
      · split
        · exact good_wrap (hg _ hx) ⟨by omega, by omega⟩ ⟨by omega, by omega⟩ (fun _ => rfl) (by omega)
        · exact good_wrap (hg _ hx) ⟨by omega, by omega⟩ ⟨by omega, by omega⟩ (fun _ => rfl) (by omega)
theorem madeGo_good {most : Int} (hm : most ≤ 1000) : ∀ (l : List Int) (sz : Nat) (D : List (List S42)), (∀ x ∈ l, 0 ≤ x ∧ x ≤ 255) → (∀ d ∈ D, Good d) → stOk D sz ∧ sz ≤ 2000 ∧ D.length ≤ 2000 →
    (∀ d ∈ madeGo most l sz D, Good d) ∧ ∃ sz', stOk (madeGo most l sz D) sz' ∧ sz' ≤ 2000
  | [], sz, D, _, hg, hz => ⟨hg, sz, hz.1, hz.2.1⟩
  | k :: t, sz, D, hb, hg, hz => by
    unfold madeGo
    by_cases hs : (sz : Int) + 2 < most
    · rw [if_pos hs]
      have hk := hb k (by simp)
      exact madeGo_good hm t _ _ (fun x hx => hb x (by simp [hx])) (madeStep_good hk hg hz.1 hz.2.1) (made_ok hs hm hk rfl hz)
    · rw [if_neg hs]
      exact ⟨hg, sz, hz.1, hz.2.1⟩
theorem fold_good : ∀ (t : List (List S42)) (a : List S42), Good a → (∀ d ∈ t, Good d) → a.length + (t.map List.length).sum + t.length ≤ 65536 → Good (t.foldl seqD a)
  | [], a, ha, _, _ => ha
  | b :: t, a, ha, hg, hl => by
    simp only [List.map_cons, List.sum_cons, List.length_cons] at hl
    have hs := seqD_length a b
    exact fold_good t (seqD a b) (good_seq ha (hg b (by simp)) (by omega)) (fun d hd => hg d (by simp [hd])) (by omega)
theorem made_good {l : List Int} {most : Int} (hb : ∀ x ∈ l, 0 ≤ x ∧ x ≤ 255) (hm : most ≤ 1000) : Good (madeDoc l most) ∧ (madeDoc l most).length ≤ 2000 := by
  obtain ⟨h1, sz, h2, h3⟩ := madeGo_good hm l 0 [] hb (by simp) ⟨by simp [stOk], by omega, by simp⟩
  unfold madeDoc
  cases hD : madeGo most l 0 [] with
  | nil => exact ⟨good_leaf ⟨by decide, by decide, by decide, fun _ => rfl, fun _ => rfl, by decide, fun _ => rfl, by decide, fun h => absurd (Or.inl rfl) h⟩, by decide⟩
  | cons a t =>
    rw [hD] at h1 h2
    unfold stOk at h2
    simp only [List.map_cons, List.sum_cons, List.length_cons] at h2
    exact ⟨fold_good t a (h1 a (by simp)) (fun d hd => h1 d (by simp [hd])) (by omega), by show (t.foldl seqD a).length ≤ 2000; rw [fold_length]; omega⟩
end Go.Proofs.Ythmmdmnbcecooaa.A
end
