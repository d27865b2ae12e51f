/- X1, A2, P1, K1, M0, M1, S1, Q1, Q2, Q3: texts of this seat, one behind the other. No condition of its own. -/
import Derived.Test.YthmmdmnbcecooaaZA
import Derived.Test.YthmmdmnbcecooaaWSized
import Derived.Deep.Grids
import Derived.Outline
import Derived.Deep.RegionLaw
/-! X1 -/
namespace Go.Proofs.Ythmmdmnbcecooaa.A
open Go.RowKit Go.Proofs.YthmmdmnbcecooaaW.PrintWords Go.Proofs.YthmmdmnbcecooaaW.PrintLast Go.Proofs.YthmmdmnbcecooaaW.PrintMore
open Go.ChangeShapes Go.WideShapes
set_option linter.unusedVariables false

theorem bools_arg {H : Type} {enc : TypeId × Value → H} {P : Program} {W : World} {base : Nat} {held : Bool} {t e : TypeId} {a : Option Addr} {len cap : Nat} {d : DataW H} {ps : List MemPlace}
    (hu : P.underlying t = some (.slice e)) (he : P.underlying e = some .bool) (hc : P.cellsOf e = 1)
    (h : DataW.Trod enc P W base (fun _ => true) held t (.slice a len cap) d ps) : ∃ l : List Bool, len = l.length ∧ Kd.C Kd.bool W a l.length l ∧ l.length ≤ maxLen ∧ l.length ≤ cap := by
  obtain ⟨fuel, hf⟩ := h
  rcases Go.Deep.open_bools hu he hc hf with ⟨hcs, _⟩ | ⟨x, l, c, B, hcs, _, hl, hm, _, hcell⟩
  · simp [Value.cells] at hcs
    obtain ⟨rfl, rfl, rfl⟩ := hcs
    exact ⟨[], rfl, Kd.C_of_reads (d := false) (h1 := fun _ => rfl) ⟨rfl, Nat.zero_le _, fun h => absurd h (Nat.lt_irrefl 0)⟩, Nat.zero_le _, Nat.zero_le _⟩
  · simp [Value.cells] at hcs
    obtain ⟨rfl, rfl, rfl⟩ := hcs
    have hlen : ((List.range len).map B).length = len := by simp
    refine ⟨(List.range len).map B, hlen.symm, Kd.C_of_reads (d := false) (h1 := fun _ => rfl) ⟨rfl, ?_, fun _ => ⟨x, rfl, fun j hj => ?_⟩⟩, ?_, ?_⟩
    · rw [hlen]; have := Nat.le_trans hl hm; simpa [maxLen] using this
    · rw [hlen] at hj
      rw [hcell j (by omega)]
      simp [List.getD, hj]
    · rw [hlen]; exact Nat.le_trans hl hm
    · rw [hlen]; exact hl

end Go.Proofs.Ythmmdmnbcecooaa.A

/-! A2 -/
namespace Go.Proofs.Ythmmdmnbcecooaa.A
open Go.RowKit Go.Proofs.YthmmdmnbcecooaaW.PrintWords Go.Proofs.YthmmdmnbcecooaaW.PrintLast Go.Proofs.YthmmdmnbcecooaaW.PrintMore
attribute [local go_sem] max2_int min2_int max_two min_two max_three min_three max_four min_four   -- for this text's walks alone
set_option linter.unusedVariables false
set_option linter.unusedSimpArgs false

-- GIVEN: document_Check

-- GIVEN: document_Groups

-- GIVEN: document_Render

-- GIVEN: document_Cost

-- GIVEN: koineref25_operands

-- GIVEN: koineref25_joined

/-! ### koineref25_Seq: function 35 -/
def koineref25_Seq.f (l0 : List (S42)) (l1 : List (S42)) : Option ((List (S42))) := (koineref25_joined.f l0 l1).bind fun t101 => (if t101.length < 2932031007402 then (some (t101 ++ [(⟨3, (⟨#[]⟩ : ByteArray), 0, wrap64 ((l0.length : Int) - 1), wrap64 ((wrap64 ((l0.length : Int) + (l1.length : Int))) - 1)⟩ : S42)])) else (none))
set_option maxHeartbeats 8000000 in
set_option maxRecDepth 100000 in
theorem koineref25_Seq.calls (A0 : Option Addr) (c0 : Nat) (l0 : List (S42)) (A1 : Option Addr) (c1 : Nat) (l1 : List (S42)) (r : List (S42)) (w : World) (hr0 : Kd.C k42 w A0 l0.length l0) (hc0 : l0.length ≤ c0) (hr1 : Kd.C k42 w A1 l1.length l1) (hc1 : l1.length ≤ c1) (h : koineref25_Seq.f l0 l1 = some r) :
    Calls Try.prog 35 #[.slice A0 l0.length c0, .slice A1 l1.length c1] w fun e w' => ∃ v0_ : Value, e = .returned (v0_) ∧ Kd.R k42 42 w' w.heap.size (fun _ => True) v0_ r ∧ Below w.heap.size w w' := by
  have hu42 := Try.underlying42
  have HR0 := Aside0.mk hr0
  have HC0 := Aside0.mk hc0
  clear hr0 hc0
  have HR1 := Aside0.mk hr1
  have HC1 := Aside0.mk hc1
  clear hr1 hc1
  have HB := Aside0.mk (Below.refl w.heap.size w)
  have H : ((koineref25_joined.f l0 l1).bind fun t101 => (if t101.length < 2932031007402 then (some (t101 ++ [(⟨3, (⟨#[]⟩ : ByteArray), 0, wrap64 ((l0.length : Int) - 1), wrap64 ((wrap64 ((l0.length : Int) + (l1.length : Int))) - 1)⟩ : S42)])) else (none))) = some r := h
  clear h
  replace H := Option.bind_eq_some_iff.mp H
  obtain ⟨t101, A30, H⟩ := H
  replace H : (if t101.length < 2932031007402 then (some (t101 ++ [(⟨3, (⟨#[]⟩ : ByteArray), 0, wrap64 ((l0.length : Int) - 1), wrap64 ((wrap64 ((l0.length : Int) + (l1.length : Int))) - 1)⟩ : S42)])) else (none)) = some r := H
  have A3 := Aside0.mk A30
  clear A30
  by_cases c4 : t101.length < 2932031007402
  · rw [if_pos c4] at H
    have LMc4 := Aside0.mk c4
    clear c4
    obtain ⟨y104, hy104⟩ : ∃ y_ : List (S42), y_ = (t101 ++ [(⟨3, (⟨#[]⟩ : ByteArray), 0, wrap64 ((l0.length : Int) - 1), wrap64 ((wrap64 ((l0.length : Int) + (l1.length : Int))) - 1)⟩ : S42)]) := ⟨_, rfl⟩
    replace H : (some y104) = some r := by first | (rw [hy104]; with_reducible exact H) | (have H2_ := (Option.bind_some _ _).symm.trans H; rw [hy104]; with_reducible exact H2_) | (have H2_ := (Option.bind_some _ _).symm.trans H; with_reducible exact H2_) | with_reducible exact H | (rw [hy104]; exact H) | exact H
    have Ny104 := Aside0.mk hy104
    clear hy104
    obtain rfl := Option.some.inj H
    go_enter Try.func35, Try.ntmps35
    go_wp2_with (first | ((with_reducible refine gate_callee (f := 64) rfl ?_); refine goesL_ (some 7) rfl rfl Try.func64 (by kernel_rfl) rfl #[.slice A0 l0.length c0, .slice A1 l1.length c1] rfl (by (try simp only [List.map_toArray, List.map_cons, List.map_nil]); first | done | rfl | (simp only [List.length_drop, List.length_take]; rfl)) ?_; (with_reducible refine (koineref25_joined.calls _ _ l0 _ _ l1 t101 _ ?side1 ?side2 ?side3 ?side4 A3.out).mono ?_); (case side1 => repeat (first | exact HR0.out | (with_reducible refine Kd.C_alloc ?_ _) | (with_reducible refine Kd.C_drewN ?_ _) | (with_reducible refine Kd.C_drew ?_))); (case side2 => exact HC0.out); (case side3 => repeat (first | exact HR1.out | (with_reducible refine Kd.C_alloc ?_ _) | (with_reducible refine Kd.C_drewN ?_ _) | (with_reducible refine Kd.C_drew ?_))); (case side4 => exact HC1.out); rintro e w5 ⟨v102, rfl, ho0, hb⟩; refine ⟨_, rfl, ?_⟩; have n0_ := Aside0.mk (Kd.R_lower ho0 (below_size (by repeat (first | (with_reducible first | exact HB.out | apply below_alloc | apply pw_below_drewN | apply below_drew1) | exact HB.out)))); have n1_ := Aside0.mk (below_step (by repeat (first | (with_reducible first | exact HB.out | apply below_alloc | apply pw_below_drewN | apply below_drew1) | exact HB.out)) hb); clear HB; have HO103 := n0_; have HB := n1_; clear n0_ n1_; (try clear hb); (try clear hb2); (try clear hk); (try clear hi); (try clear ho0)) | ((with_reducible refine gate_builtin (b := .append) (xs := #[.tmp 7, .tmp 18]) rfl ?_); at_builtin; refine Kd.R_append k42 (w0 := w) w.heap.size rfl (.tmp 7) (.tmp 18) 26 42 (.agg #[(.int .i64 0), (.string ⟨#[]⟩), (.int .i64 0), (.int .i64 0), (.int .i64 0)]) 48 rfl Try.underlying26 info42 rfl (by decide) (by omega) v102 t101 (⟨3, (⟨#[]⟩ : ByteArray), 0, wrap64 ((l0.length : Int) - 1), wrap64 ((wrap64 ((l0.length : Int) + (l1.length : Int))) - 1)⟩ : S42) [.int .i64 3, .string (⟨#[]⟩ : ByteArray), .int .i64 0, .int .i64 (wrap64 ((l0.length : Int) - 1)), .int .i64 (wrap64 ((wrap64 ((l0.length : Int) + (l1.length : Int))) - 1))] (fun _ => True) (fun _ => False) rfl rfl ?aP (fun _ hk => hk.elim) ?aF ?aO ?aB ?aS ?aL ?_; (case aP => exact k42_mkM _ _ _ (⟨3, (⟨#[]⟩ : ByteArray), 0, wrap64 ((l0.length : Int) - 1), wrap64 ((wrap64 ((l0.length : Int) + (l1.length : Int))) - 1)⟩ : S42)); (case aB => exact (by repeat (first | (with_reducible first | exact HB.out | apply below_alloc | apply pw_below_drewN | apply below_drew1) | exact HB.out))); (case aF => exact (fun _ _ => trivial)); (case aO => exact (by (with_reducible repeat (first | apply Kd.R_alloc | apply Kd.R_drewN | apply Kd.R_drew)); exact HO103.out)); (case aS => exact (below_size (by repeat (first | (with_reducible first | exact HB.out | apply below_alloc | apply pw_below_drewN | apply below_drew1) | exact HB.out)))); (case aL => have := LMc4.out; omega); intro v105 w6 ho hb hg hat; rw [← Ny104.out] at ho; have n0_ := Aside0.mk (hb); have n1_ := Aside0.mk (ho); clear HB; clear HO103; have HB := n0_; have HO106 := n1_; clear n0_ n1_; clear ho hb hg hat))
    go_ret
    exact ⟨_, by first | rfl | (simp [errW_none, errW_some] <;> rfl) | (simp [*, errW_none, errW_some] <;> rfl), by (with_reducible repeat (first | apply Kd.R_alloc | apply Kd.R_drewN | apply Kd.R_drew)); exact HO106.out, by repeat (first | (with_reducible first | exact HB.out | apply below_alloc | apply pw_below_drewN | apply below_drew1) | exact HB.out)⟩
  · rw [if_neg c4] at H
    exact absurd H (by simp)

/-! ### koineref25_Wrap: function 36 -/
def koineref25_Wrap.f (a0 : Int) (a1 : Int) (l2 : List (S42)) : Option ((List (S42))) := (some (([] : List (S42)) : List (S42))).bind fun y107 => (if y107.length + l2.length < 2932031007402 then ((some (y107 ++ l2 : List (S42))).bind fun y110 => (if y110.length < 2932031007402 then (some (y110 ++ [(⟨a0, (⟨#[]⟩ : ByteArray), a1, wrap64 ((l2.length : Int) - 1), 0⟩ : S42)])) else (none))) else (none))
set_option maxHeartbeats 8000000 in
set_option maxRecDepth 100000 in
theorem koineref25_Wrap.calls (a0 : Int) (a1 : Int) (A2 : Option Addr) (c2 : Nat) (l2 : List (S42)) (r : List (S42)) (w : World) (hr2 : Kd.C k42 w A2 l2.length l2) (hc2 : l2.length ≤ c2) (h : koineref25_Wrap.f a0 a1 l2 = some r) :
    Calls Try.prog 36 #[.int .i64 a0, .int .i64 a1, .slice A2 l2.length c2] w fun e w' => ∃ v0_ : Value, e = .returned (v0_) ∧ Kd.R k42 42 w' w.heap.size (fun _ => True) v0_ r ∧ Below w.heap.size w w' := by
  have hu42 := Try.underlying42
  have HR2 := Aside0.mk hr2
  have HC2 := Aside0.mk hc2
  clear hr2 hc2
  have HB := Aside0.mk (Below.refl w.heap.size w)
  have H : ((some (([] : List (S42)) : List (S42))).bind fun y107 => (if y107.length + l2.length < 2932031007402 then ((some (y107 ++ l2 : List (S42))).bind fun y110 => (if y110.length < 2932031007402 then (some (y110 ++ [(⟨a0, (⟨#[]⟩ : ByteArray), a1, wrap64 ((l2.length : Int) - 1), 0⟩ : S42)])) else (none))) else (none))) = some r := h
  clear h
  obtain ⟨y107, hy107⟩ : ∃ y_ : List (S42), y_ = (([] : List (S42))) := ⟨_, rfl⟩
  replace H : (if y107.length + l2.length < 2932031007402 then ((some (y107 ++ l2 : List (S42))).bind fun y110 => (if y110.length < 2932031007402 then (some (y110 ++ [(⟨a0, (⟨#[]⟩ : ByteArray), a1, wrap64 ((l2.length : Int) - 1), 0⟩ : S42)])) else (none))) else (none)) = some r := by first | (rw [hy107]; with_reducible exact H) | (have H2_ := (Option.bind_some _ _).symm.trans H; rw [hy107]; with_reducible exact H2_) | (have H2_ := (Option.bind_some _ _).symm.trans H; with_reducible exact H2_) | with_reducible exact H | (rw [hy107]; exact H) | exact H
  have Ny107 := Aside0.mk hy107
  clear hy107
  by_cases c4 : y107.length + l2.length < 2932031007402
  · rw [if_pos c4] at H
    have LMc4 := Aside0.mk c4
    clear c4
    obtain ⟨y110, hy110⟩ : ∃ y_ : List (S42), y_ = (y107 ++ l2) := ⟨_, rfl⟩
    replace H : (if y110.length < 2932031007402 then (some (y110 ++ [(⟨a0, (⟨#[]⟩ : ByteArray), a1, wrap64 ((l2.length : Int) - 1), 0⟩ : S42)])) else (none)) = some r := by first | (rw [hy110]; with_reducible exact H) | (have H2_ := (Option.bind_some _ _).symm.trans H; rw [hy110]; with_reducible exact H2_) | (have H2_ := (Option.bind_some _ _).symm.trans H; with_reducible exact H2_) | with_reducible exact H | (rw [hy110]; exact H) | exact H
    have Ny110 := Aside0.mk hy110
    clear hy110
    by_cases c5 : y110.length < 2932031007402
    · rw [if_pos c5] at H
      have LMc5 := Aside0.mk c5
      clear c5
      obtain ⟨y113, hy113⟩ : ∃ y_ : List (S42), y_ = (y110 ++ [(⟨a0, (⟨#[]⟩ : ByteArray), a1, wrap64 ((l2.length : Int) - 1), 0⟩ : S42)]) := ⟨_, rfl⟩
      replace H : (some y113) = some r := by first | (rw [hy113]; with_reducible exact H) | (have H2_ := (Option.bind_some _ _).symm.trans H; rw [hy113]; with_reducible exact H2_) | (have H2_ := (Option.bind_some _ _).symm.trans H; with_reducible exact H2_) | with_reducible exact H | (rw [hy113]; exact H) | exact H
      have Ny113 := Aside0.mk hy113
      clear hy113
      obtain rfl := Option.some.inj H
      go_enter Try.func36, Try.ntmps36
      go_wp2_with (first | ((with_reducible refine gate_dst (N := 7) rfl ?_); refine Kd.R_lit k42 _ 42 ?hg (N := 7) ?hd (xs := ([] : List (S42))) (inner := []) (ok := fun _ => True) (okp := fun _ => True) ?hr ?hp (fun _ hk => hk) trivial (Below.refl _ _) (Nat.le_refl _) (by simp) ?_; (case hd => rfl); (case hg => rfl); (case hr => first | (go_simp; done) | (go_simp; rfl)); (case hp => exact (Reps.none _ _)); intro v108 w6 ho7 hb hg_ hnew_; clear hg_ hnew_; (first | rw [← Ny107.out] at ho7 | (simp only [Int.reduceToNat] at ho7; rw [← Ny107.out] at ho7)); have n0_ := Aside0.mk (Kd.R_lower ho7 (below_size (by repeat (first | (with_reducible first | exact HB.out | apply below_alloc | apply pw_below_drewN | apply below_drew1) | exact HB.out)))); have n1_ := Aside0.mk (below_step (by repeat (first | (with_reducible first | exact HB.out | apply below_alloc | apply pw_below_drewN | apply below_drew1) | exact HB.out)) hb); clear HB; have HO109 := n0_; have HB := n1_; clear n0_ n1_; clear hb ho7) | ((with_reducible refine gate_builtin (b := .append) (xs := #[.tmp 7, .tmp 8]) rfl ?_); at_builtin; refine Kd.R_append_rows k42 (w0 := w) w.heap.size rfl (.tmp 7) (.tmp 8) 26 42 (.agg #[(.int .i64 0), (.string ⟨#[]⟩), (.int .i64 0), (.int .i64 0), (.int .i64 0)]) 48 rfl Try.underlying26 info42 rfl (by decide) (by omega) v108 y107 l2 _ _ _ (fun _ => True) (fun _ => False) rfl rfl ?aO ?aR (fun _ _ h => h) (fun _ h => h.elim) ?aF ?aB ?aS ?aL ?_; (case aR => repeat (first | exact (Kd.C_below HR2.out HB.out) | (with_reducible refine Kd.C_alloc ?_ _) | (with_reducible refine Kd.C_drewN ?_ _) | (with_reducible refine Kd.C_drew ?_))); (case aB => exact (by repeat (first | (with_reducible first | exact HB.out | apply below_alloc | apply pw_below_drewN | apply below_drew1) | exact HB.out))); (case aF => exact (fun _ _ => trivial)); (case aO => exact (by (with_reducible repeat (first | apply Kd.R_alloc | apply Kd.R_drewN | apply Kd.R_drew)); exact HO109.out)); (case aS => exact (below_size (by repeat (first | (with_reducible first | exact HB.out | apply below_alloc | apply pw_below_drewN | apply below_drew1) | exact HB.out)))); (case aL => have := LMc4.out; omega); intro v111 w8 ho hb hg hat; rw [← Ny110.out] at ho; have n0_ := Aside0.mk (hb); have n1_ := Aside0.mk (ho); clear HB; clear HO109; have HB := n0_; have HO112 := n1_; clear n0_ n1_; clear ho hb hg hat) | ((with_reducible refine gate_builtin (b := .append) (xs := #[.tmp 9, .tmp 16]) rfl ?_); at_builtin; refine Kd.R_append k42 (w0 := w) w.heap.size rfl (.tmp 9) (.tmp 16) 26 42 (.agg #[(.int .i64 0), (.string ⟨#[]⟩), (.int .i64 0), (.int .i64 0), (.int .i64 0)]) 48 rfl Try.underlying26 info42 rfl (by decide) (by omega) v111 y110 (⟨a0, (⟨#[]⟩ : ByteArray), a1, wrap64 ((l2.length : Int) - 1), 0⟩ : S42) [.int .i64 a0, .string (⟨#[]⟩ : ByteArray), .int .i64 a1, .int .i64 (wrap64 ((l2.length : Int) - 1)), .int .i64 0] (fun _ => True) (fun _ => False) rfl rfl ?aP (fun _ hk => hk.elim) ?aF ?aO ?aB ?aS ?aL ?_; (case aP => exact k42_mkM _ _ _ (⟨a0, (⟨#[]⟩ : ByteArray), a1, wrap64 ((l2.length : Int) - 1), 0⟩ : S42)); (case aB => exact (by repeat (first | (with_reducible first | exact HB.out | apply below_alloc | apply pw_below_drewN | apply below_drew1) | exact HB.out))); (case aF => exact (fun _ _ => trivial)); (case aO => exact (by (with_reducible repeat (first | apply Kd.R_alloc | apply Kd.R_drewN | apply Kd.R_drew)); exact HO112.out)); (case aS => exact (below_size (by repeat (first | (with_reducible first | exact HB.out | apply below_alloc | apply pw_below_drewN | apply below_drew1) | exact HB.out)))); (case aL => have := LMc5.out; omega); intro v114 w9 ho hb hg hat; rw [← Ny113.out] at ho; have n0_ := Aside0.mk (hb); have n1_ := Aside0.mk (ho); clear HB; clear HO112; have HB := n0_; have HO115 := n1_; clear n0_ n1_; clear ho hb hg hat))
      go_ret
      exact ⟨_, by first | rfl | (simp [errW_none, errW_some] <;> rfl) | (simp [*, errW_none, errW_some] <;> rfl), by (with_reducible repeat (first | apply Kd.R_alloc | apply Kd.R_drewN | apply Kd.R_drew)); exact HO115.out, by repeat (first | (with_reducible first | exact HB.out | apply below_alloc | apply pw_below_drewN | apply below_drew1) | exact HB.out)⟩
    · rw [if_neg c5] at H
      exact absurd H (by simp)
  · rw [if_neg c4] at H
    exact absurd H (by simp)

/-! ### koineref25_Text: function 38 -/
def koineref25_Text.f (a0 : ByteArray) : Option ((List (S42))) := some (([(⟨0, a0, 0, 0, 0⟩ : S42)] : List (S42)))
set_option maxHeartbeats 8000000 in
set_option maxRecDepth 100000 in
theorem koineref25_Text.calls (a0 : ByteArray) (r : List (S42)) (w : World) (h : koineref25_Text.f a0 = some r) :
    Calls Try.prog 38 #[.string a0] w fun e w' => ∃ v0_ : Value, e = .returned (v0_) ∧ Kd.R k42 42 w' w.heap.size (fun _ => True) v0_ r ∧ Below w.heap.size w w' := by
  have hu42 := Try.underlying42
  have HB := Aside0.mk (Below.refl w.heap.size w)
  have H : (some (([(⟨0, a0, 0, 0, 0⟩ : S42)] : List (S42)))) = some r := h
  clear h
  obtain ⟨y116, hy116⟩ : ∃ y_ : List (S42), y_ = (([(⟨0, a0, 0, 0, 0⟩ : S42)] : List (S42))) := ⟨_, rfl⟩
  replace H : (some y116) = some r := by first | (rw [hy116]; with_reducible exact H) | (have H2_ := (Option.bind_some _ _).symm.trans H; rw [hy116]; with_reducible exact H2_) | (have H2_ := (Option.bind_some _ _).symm.trans H; with_reducible exact H2_) | with_reducible exact H | (rw [hy116]; exact H) | exact H
  have Ny116 := Aside0.mk hy116
  clear hy116
  obtain rfl := Option.some.inj H
  go_enter Try.func38, Try.ntmps38
  go_wp2_with (first | ((with_reducible refine gate_dst (N := 5) rfl ?_); refine Kd.R_lit k42 _ 42 ?hg (N := 5) ?hd (xs := ([(⟨0, a0, 0, 0, 0⟩ : S42)] : List (S42))) (inner := [.int .i64 0, .string a0, .int .i64 0, .int .i64 0, .int .i64 0]) (ok := fun _ => True) (okp := fun _ => True) ?hr ?hp (fun _ hk => hk) trivial (Below.refl _ _) (Nat.le_refl _) (by simp) ?_; (case hd => rfl); (case hg => rfl); (case hr => first | (go_simp; done) | (go_simp; rfl)); (case hp => exact (Reps.c5 (show Kd.M k42 _ _ _ (⟨0, a0, 0, 0, 0⟩ : S42) [.int .i64 0, .string a0, .int .i64 0, .int .i64 0, .int .i64 0] from (k42_mkM _ _ _ (⟨0, a0, 0, 0, 0⟩ : S42) )) (Reps.none _ _))); intro v117 w2 ho3 hb hg_ hnew_; clear hg_ hnew_; (first | rw [← Ny116.out] at ho3 | (simp only [Int.reduceToNat] at ho3; rw [← Ny116.out] at ho3)); have n0_ := Aside0.mk (Kd.R_lower ho3 (below_size (by repeat (first | (with_reducible first | exact HB.out | apply below_alloc | apply pw_below_drewN | apply below_drew1) | exact HB.out)))); have n1_ := Aside0.mk (below_step (by repeat (first | (with_reducible first | exact HB.out | apply below_alloc | apply pw_below_drewN | apply below_drew1) | exact HB.out)) hb); clear HB; have HO118 := n0_; have HB := n1_; clear n0_ n1_; clear hb ho3))
  go_ret
  exact ⟨_, by first | rfl | (simp [errW_none, errW_some] <;> rfl) | (simp [*, errW_none, errW_some] <;> rfl), by (with_reducible repeat (first | apply Kd.R_alloc | apply Kd.R_drewN | apply Kd.R_drew)); exact HO118.out, by repeat (first | (with_reducible first | exact HB.out | apply below_alloc | apply pw_below_drewN | apply below_drew1) | exact HB.out)⟩

-- GIVEN: koinelaw25_sanity

/-! ### koineref25_leaf: function 48 -/
def koineref25_leaf.f (a0 : Int) : Option ((List (S42))) := if (Int.tmod a0 4) = 0 then ((some (([(⟨#[97]⟩ : ByteArray), (⟨#[98, 98]⟩ : ByteArray), (⟨#[99, 99, 99]⟩ : ByteArray), (⟨#[]⟩ : ByteArray)] : List ByteArray) : List ByteArray)).bind fun y119 => (if 0 ≤ (Int.tmod (wrap64 (Int.tdiv a0 10)) 4) then (if (Int.tmod (wrap64 (Int.tdiv a0 10)) 4) < (y119.length : Int) then ((koineref25_Text.f (rdOf ByteArray.empty y119 (Int.tmod (wrap64 (Int.tdiv a0 10)) 4))).bind fun t123 => (some t123)) else (none)) else (none))) else (if (Int.tmod a0 4) = 1 then ((some (([(⟨#[100, 100, 100, 100]⟩ : ByteArray), (⟨#[101]⟩ : ByteArray), (⟨#[32]⟩ : ByteArray), (⟨#[102, 102]⟩ : ByteArray)] : List ByteArray) : List ByteArray)).bind fun y126 => (if 0 ≤ (Int.tmod (wrap64 (Int.tdiv a0 10)) 4) then (if (Int.tmod (wrap64 (Int.tdiv a0 10)) 4) < (y126.length : Int) then ((koineref25_Text.f (rdOf ByteArray.empty y126 (Int.tmod (wrap64 (Int.tdiv a0 10)) 4))).bind fun t130 => (some t130)) else (none)) else (none))) else (if (Int.tmod a0 4) = 2 then ((some (([(⟨#[]⟩ : ByteArray), (⟨#[32]⟩ : ByteArray), (⟨#[32]⟩ : ByteArray), (⟨#[32, 32]⟩ : ByteArray)] : List ByteArray) : List ByteArray)).bind fun y133 => (if 0 ≤ (Int.tmod (wrap64 (Int.tdiv a0 10)) 4) then (if (Int.tmod (wrap64 (Int.tdiv a0 10)) 4) < (y133.length : Int) then (some (([(⟨1, rdOf ByteArray.empty y133 (Int.tmod (wrap64 (Int.tdiv a0 10)) 4), 0, 0, 0⟩ : S42)] : List (S42)))) else (none)) else (none))) else (if (Int.tmod (wrap64 (Int.tdiv a0 10)) 4) > 0 then (some (([(⟨1, (⟨#[32]⟩ : ByteArray), 0, 0, 0⟩ : S42)] : List (S42)))) else (some (([(⟨2, (⟨#[]⟩ : ByteArray), 0, 0, 0⟩ : S42)] : List (S42)))))))
set_option maxHeartbeats 8000000 in
set_option maxRecDepth 100000 in
theorem koineref25_leaf.calls (a0 : Int) (r : List (S42)) (w : World) (h : koineref25_leaf.f a0 = some r) :
    Calls Try.prog 48 #[.int .i64 a0] w fun e w' => ∃ v0_ : Value, e = .returned (v0_) ∧ Kd.R k42 42 w' w.heap.size (fun _ => True) v0_ r ∧ Below w.heap.size w w' := by
  have hu42 := Try.underlying42
  have HB := Aside0.mk (Below.refl w.heap.size w)
  have H : (if (Int.tmod a0 4) = 0 then ((some (([(⟨#[97]⟩ : ByteArray), (⟨#[98, 98]⟩ : ByteArray), (⟨#[99, 99, 99]⟩ : ByteArray), (⟨#[]⟩ : ByteArray)] : List ByteArray) : List ByteArray)).bind fun y119 => (if 0 ≤ (Int.tmod (wrap64 (Int.tdiv a0 10)) 4) then (if (Int.tmod (wrap64 (Int.tdiv a0 10)) 4) < (y119.length : Int) then ((koineref25_Text.f (rdOf ByteArray.empty y119 (Int.tmod (wrap64 (Int.tdiv a0 10)) 4))).bind fun t123 => (some t123)) else (none)) else (none))) else (if (Int.tmod a0 4) = 1 then ((some (([(⟨#[100, 100, 100, 100]⟩ : ByteArray), (⟨#[101]⟩ : ByteArray), (⟨#[32]⟩ : ByteArray), (⟨#[102, 102]⟩ : ByteArray)] : List ByteArray) : List ByteArray)).bind fun y126 => (if 0 ≤ (Int.tmod (wrap64 (Int.tdiv a0 10)) 4) then (if (Int.tmod (wrap64 (Int.tdiv a0 10)) 4) < (y126.length : Int) then ((koineref25_Text.f (rdOf ByteArray.empty y126 (Int.tmod (wrap64 (Int.tdiv a0 10)) 4))).bind fun t130 => (some t130)) else (none)) else (none))) else (if (Int.tmod a0 4) = 2 then ((some (([(⟨#[]⟩ : ByteArray), (⟨#[32]⟩ : ByteArray), (⟨#[32]⟩ : ByteArray), (⟨#[32, 32]⟩ : ByteArray)] : List ByteArray) : List ByteArray)).bind fun y133 => (if 0 ≤ (Int.tmod (wrap64 (Int.tdiv a0 10)) 4) then (if (Int.tmod (wrap64 (Int.tdiv a0 10)) 4) < (y133.length : Int) then (some (([(⟨1, rdOf ByteArray.empty y133 (Int.tmod (wrap64 (Int.tdiv a0 10)) 4), 0, 0, 0⟩ : S42)] : List (S42)))) else (none)) else (none))) else (if (Int.tmod (wrap64 (Int.tdiv a0 10)) 4) > 0 then (some (([(⟨1, (⟨#[32]⟩ : ByteArray), 0, 0, 0⟩ : S42)] : List (S42)))) else (some (([(⟨2, (⟨#[]⟩ : ByteArray), 0, 0, 0⟩ : S42)] : List (S42)))))))) = some r := h
  clear h
  by_cases c2 : (Int.tmod a0 4) = 0
  · rw [if_pos c2] at H
    have c2b0 : ((Int.tmod a0 4) == 0) = true := beq_iff_eq.mpr c2
    have c2b1 : ((Int.tmod a0 4) != 0) = false := bne_eq_false_iff_eq.mpr c2
    clear c2
    obtain ⟨y119, hy119⟩ : ∃ y_ : List ByteArray, y_ = (([(⟨#[97]⟩ : ByteArray), (⟨#[98, 98]⟩ : ByteArray), (⟨#[99, 99, 99]⟩ : ByteArray), (⟨#[]⟩ : ByteArray)] : List ByteArray)) := ⟨_, rfl⟩
    replace H : (if 0 ≤ (Int.tmod (wrap64 (Int.tdiv a0 10)) 4) then (if (Int.tmod (wrap64 (Int.tdiv a0 10)) 4) < (y119.length : Int) then ((koineref25_Text.f (rdOf ByteArray.empty y119 (Int.tmod (wrap64 (Int.tdiv a0 10)) 4))).bind fun t123 => (some t123)) else (none)) else (none)) = some r := by first | (rw [hy119]; with_reducible exact H) | (have H2_ := (Option.bind_some _ _).symm.trans H; rw [hy119]; with_reducible exact H2_) | (have H2_ := (Option.bind_some _ _).symm.trans H; with_reducible exact H2_) | with_reducible exact H | (rw [hy119]; exact H) | exact H
    have Ny119 := Aside0.mk hy119
    clear hy119
    obtain ⟨ji3, hji3⟩ : ∃ j_ : Int, (Int.tmod (wrap64 (Int.tdiv a0 10)) 4) = j_ := ⟨_, rfl⟩
    replace H : (if 0 ≤ (ji3) then (if (ji3) < (y119.length : Int) then ((koineref25_Text.f (rdOf ByteArray.empty y119 (ji3))).bind fun t123 => (some t123)) else (none)) else (none)) = some r := by first | (rw [hji3] at H; exact H) | (simp only [hji3] at H ⊢; exact H)
    by_cases c4 : 0 ≤ (ji3)
    · rw [if_pos c4] at H
      have c4b0 : decide (0 ≤ (ji3)) = true := decide_eq_true c4
      clear c4
      by_cases c5 : (ji3) < (y119.length : Int)
      · rw [if_pos c5] at H
        have c5b0 : decide ((ji3) < (y119.length : Int)) = true := decide_eq_true c5
        clear c5
        replace H := Option.bind_eq_some_iff.mp H
        obtain ⟨t123, A60, H⟩ := H
        replace H : (some t123) = some r := H
        have A6 := Aside0.mk A60
        clear A60
        obtain rfl := Option.some.inj H
        go_enter Try.func48, Try.ntmps48
        go_wp2_with (first | ((with_reducible refine gate_dst (N := 7) rfl ?_); refine Kd.R_lit Kd.string _ 9 ?hg (N := 7) ?hd (xs := ([(⟨#[97]⟩ : ByteArray), (⟨#[98, 98]⟩ : ByteArray), (⟨#[99, 99, 99]⟩ : ByteArray), (⟨#[]⟩ : ByteArray)] : List ByteArray)) (inner := [.string (⟨#[97]⟩ : ByteArray), .string (⟨#[98, 98]⟩ : ByteArray), .string (⟨#[99, 99, 99]⟩ : ByteArray), .string (⟨#[]⟩ : ByteArray)]) (ok := fun _ => True) (okp := fun _ => True) ?hr ?hp (fun _ hk => hk) trivial (Below.refl _ _) (Nat.le_refl _) (by simp) ?_; (case hd => rfl); (case hg => rfl); (case hr => first | (go_simp; done) | (go_simp; rfl)); (case hp => exact (Reps.one (show Kd.M Kd.string _ _ _ (⟨#[97]⟩ : ByteArray) [.string (⟨#[97]⟩ : ByteArray)] from rfl) (Reps.one (show Kd.M Kd.string _ _ _ (⟨#[98, 98]⟩ : ByteArray) [.string (⟨#[98, 98]⟩ : ByteArray)] from rfl) (Reps.one (show Kd.M Kd.string _ _ _ (⟨#[99, 99, 99]⟩ : ByteArray) [.string (⟨#[99, 99, 99]⟩ : ByteArray)] from rfl) (Reps.one (show Kd.M Kd.string _ _ _ (⟨#[]⟩ : ByteArray) [.string (⟨#[]⟩ : ByteArray)] from rfl) (Reps.none _ _)))))); intro v120 w7 ho8 hb hg_ hnew_; clear hg_ hnew_; (first | rw [← Ny119.out] at ho8 | (simp only [Int.reduceToNat] at ho8; rw [← Ny119.out] at ho8)); have n0_ := Aside0.mk (Kd.R_lower ho8 (below_size (by repeat (first | (with_reducible first | exact HB.out | apply below_alloc | apply pw_below_drewN | apply below_drew1) | exact HB.out)))); have n1_ := Aside0.mk (below_step (by repeat (first | (with_reducible first | exact HB.out | apply below_alloc | apply pw_below_drewN | apply below_drew1) | exact HB.out)) hb); clear HB; have HO121 := n0_; have HB := n1_; clear n0_ n1_; clear hb ho8; obtain ⟨Ao9, co9, eo9⟩ := Kd.R_slice HO121.out; subst eo9; have p122 : 0 ≤ ((ji3) : Int) := of_decide_eq_true (by first | (with_reducible assumption) | assumption); have q122 : (ji3) < (y119.length : Int) := of_decide_eq_true (by first | (with_reducible assumption) | assumption); obtain ⟨ad122, e122, hx122_0⟩ := Kd.at_string (Kd.R_reads' HO121.out).2.2 (ji3) p122 q122; cases e122; replace p122 := eq_true p122; replace q122 := eq_true q122) | ((with_reducible refine gate_callee (f := 38) rfl ?_); refine goesL_ (some 13) rfl rfl Try.func38 (by kernel_rfl) rfl #[.string (rdOf ByteArray.empty y119 (ji3))] rfl (by (try simp only [List.map_toArray, List.map_cons, List.map_nil]); first | done | (simp only [hji3]; rfl) | rfl | (simp only [List.length_drop, List.length_take]; rfl)) ?_; (with_reducible refine (koineref25_Text.calls (rdOf ByteArray.empty y119 (ji3)) t123 _ A6.out).mono ?_); rintro e w10 ⟨v124, rfl, ho0, hb⟩; refine ⟨_, rfl, ?_⟩; have n0_ := Aside0.mk (Kd.R_below (by (with_reducible repeat (first | apply Kd.R_alloc | apply Kd.R_drewN | apply Kd.R_drew)); exact HO121.out) hb); have n1_ := Aside0.mk (Kd.R_lower ho0 (below_size (by repeat (first | (with_reducible first | exact HB.out | apply below_alloc | apply pw_below_drewN | apply below_drew1) | exact HB.out)))); have n2_ := Aside0.mk (below_step (by repeat (first | (with_reducible first | exact HB.out | apply below_alloc | apply pw_below_drewN | apply below_drew1) | exact HB.out)) hb); clear HO121; clear HB; have HO121 := n0_; have HO125 := n1_; have HB := n2_; clear n0_ n1_ n2_; (try clear hb); (try clear hb2); (try clear hk); (try clear hi); (try clear ho0)))
        go_ret
        exact ⟨_, by first | rfl | (simp [errW_none, errW_some] <;> rfl) | (simp only [← hji3]; first | rfl | (simp [errW_none, errW_some] <;> rfl)) | (simp [*, errW_none, errW_some] <;> rfl), by (with_reducible repeat (first | apply Kd.R_alloc | apply Kd.R_drewN | apply Kd.R_drew)); exact HO125.out, by repeat (first | (with_reducible first | exact HB.out | apply below_alloc | apply pw_below_drewN | apply below_drew1) | exact HB.out)⟩
      · rw [if_neg c5] at H
        exact absurd H (by simp)
    · rw [if_neg c4] at H
      exact absurd H (by simp)
  · rw [if_neg c2] at H
    have c2b0 : ((Int.tmod a0 4) == 0) = false := beq_eq_false_iff_ne.mpr c2
    have c2b1 : ((Int.tmod a0 4) != 0) = true := bne_iff_ne.mpr c2
    by_cases c11 : (Int.tmod a0 4) = 1
    · rw [if_pos c11] at H
      have c11b0 : ((Int.tmod a0 4) == 1) = true := beq_iff_eq.mpr c11
      have c11b1 : ((Int.tmod a0 4) != 1) = false := bne_eq_false_iff_eq.mpr c11
      clear c11
      obtain ⟨y126, hy126⟩ : ∃ y_ : List ByteArray, y_ = (([(⟨#[100, 100, 100, 100]⟩ : ByteArray), (⟨#[101]⟩ : ByteArray), (⟨#[32]⟩ : ByteArray), (⟨#[102, 102]⟩ : ByteArray)] : List ByteArray)) := ⟨_, rfl⟩
      replace H : (if 0 ≤ (Int.tmod (wrap64 (Int.tdiv a0 10)) 4) then (if (Int.tmod (wrap64 (Int.tdiv a0 10)) 4) < (y126.length : Int) then ((koineref25_Text.f (rdOf ByteArray.empty y126 (Int.tmod (wrap64 (Int.tdiv a0 10)) 4))).bind fun t130 => (some t130)) else (none)) else (none)) = some r := by first | (rw [hy126]; with_reducible exact H) | (have H2_ := (Option.bind_some _ _).symm.trans H; rw [hy126]; with_reducible exact H2_) | (have H2_ := (Option.bind_some _ _).symm.trans H; with_reducible exact H2_) | with_reducible exact H | (rw [hy126]; exact H) | exact H
      have Ny126 := Aside0.mk hy126
      clear hy126
      obtain ⟨ji12, hji12⟩ : ∃ j_ : Int, (Int.tmod (wrap64 (Int.tdiv a0 10)) 4) = j_ := ⟨_, rfl⟩
      replace H : (if 0 ≤ (ji12) then (if (ji12) < (y126.length : Int) then ((koineref25_Text.f (rdOf ByteArray.empty y126 (ji12))).bind fun t130 => (some t130)) else (none)) else (none)) = some r := by first | (rw [hji12] at H; exact H) | (simp only [hji12] at H ⊢; exact H)
      by_cases c13 : 0 ≤ (ji12)
      · rw [if_pos c13] at H
        have c13b0 : decide (0 ≤ (ji12)) = true := decide_eq_true c13
        clear c13
        by_cases c14 : (ji12) < (y126.length : Int)
        · rw [if_pos c14] at H
          have c14b0 : decide ((ji12) < (y126.length : Int)) = true := decide_eq_true c14
          clear c14
          replace H := Option.bind_eq_some_iff.mp H
          obtain ⟨t130, A150, H⟩ := H
          replace H : (some t130) = some r := H
          have A15 := Aside0.mk A150
          clear A150
          obtain rfl := Option.some.inj H
          go_enter Try.func48, Try.ntmps48
          go_wp2_with (first | ((with_reducible refine gate_dst (N := 16) rfl ?_); refine Kd.R_lit Kd.string _ 9 ?hg (N := 16) ?hd (xs := ([(⟨#[100, 100, 100, 100]⟩ : ByteArray), (⟨#[101]⟩ : ByteArray), (⟨#[32]⟩ : ByteArray), (⟨#[102, 102]⟩ : ByteArray)] : List ByteArray)) (inner := [.string (⟨#[100, 100, 100, 100]⟩ : ByteArray), .string (⟨#[101]⟩ : ByteArray), .string (⟨#[32]⟩ : ByteArray), .string (⟨#[102, 102]⟩ : ByteArray)]) (ok := fun _ => True) (okp := fun _ => True) ?hr ?hp (fun _ hk => hk) trivial (Below.refl _ _) (Nat.le_refl _) (by simp) ?_; (case hd => rfl); (case hg => rfl); (case hr => first | (go_simp; done) | (go_simp; rfl)); (case hp => exact (Reps.one (show Kd.M Kd.string _ _ _ (⟨#[100, 100, 100, 100]⟩ : ByteArray) [.string (⟨#[100, 100, 100, 100]⟩ : ByteArray)] from rfl) (Reps.one (show Kd.M Kd.string _ _ _ (⟨#[101]⟩ : ByteArray) [.string (⟨#[101]⟩ : ByteArray)] from rfl) (Reps.one (show Kd.M Kd.string _ _ _ (⟨#[32]⟩ : ByteArray) [.string (⟨#[32]⟩ : ByteArray)] from rfl) (Reps.one (show Kd.M Kd.string _ _ _ (⟨#[102, 102]⟩ : ByteArray) [.string (⟨#[102, 102]⟩ : ByteArray)] from rfl) (Reps.none _ _)))))); intro v127 w16 ho17 hb hg_ hnew_; clear hg_ hnew_; (first | rw [← Ny126.out] at ho17 | (simp only [Int.reduceToNat] at ho17; rw [← Ny126.out] at ho17)); have n0_ := Aside0.mk (Kd.R_lower ho17 (below_size (by repeat (first | (with_reducible first | exact HB.out | apply below_alloc | apply pw_below_drewN | apply below_drew1) | exact HB.out)))); have n1_ := Aside0.mk (below_step (by repeat (first | (with_reducible first | exact HB.out | apply below_alloc | apply pw_below_drewN | apply below_drew1) | exact HB.out)) hb); clear HB; have HO128 := n0_; have HB := n1_; clear n0_ n1_; clear hb ho17; obtain ⟨Ao18, co18, eo18⟩ := Kd.R_slice HO128.out; subst eo18; have p129 : 0 ≤ ((ji12) : Int) := of_decide_eq_true (by first | (with_reducible assumption) | assumption); have q129 : (ji12) < (y126.length : Int) := of_decide_eq_true (by first | (with_reducible assumption) | assumption); obtain ⟨ad129, e129, hx129_0⟩ := Kd.at_string (Kd.R_reads' HO128.out).2.2 (ji12) p129 q129; cases e129; replace p129 := eq_true p129; replace q129 := eq_true q129) | ((with_reducible refine gate_callee (f := 38) rfl ?_); refine goesL_ (some 22) rfl rfl Try.func38 (by kernel_rfl) rfl #[.string (rdOf ByteArray.empty y126 (ji12))] rfl (by (try simp only [List.map_toArray, List.map_cons, List.map_nil]); first | done | (simp only [hji12]; rfl) | rfl | (simp only [List.length_drop, List.length_take]; rfl)) ?_; (with_reducible refine (koineref25_Text.calls (rdOf ByteArray.empty y126 (ji12)) t130 _ A15.out).mono ?_); rintro e w19 ⟨v131, rfl, ho0, hb⟩; refine ⟨_, rfl, ?_⟩; have n0_ := Aside0.mk (Kd.R_below (by (with_reducible repeat (first | apply Kd.R_alloc | apply Kd.R_drewN | apply Kd.R_drew)); exact HO128.out) hb); have n1_ := Aside0.mk (Kd.R_lower ho0 (below_size (by repeat (first | (with_reducible first | exact HB.out | apply below_alloc | apply pw_below_drewN | apply below_drew1) | exact HB.out)))); have n2_ := Aside0.mk (below_step (by repeat (first | (with_reducible first | exact HB.out | apply below_alloc | apply pw_below_drewN | apply below_drew1) | exact HB.out)) hb); clear HO128; clear HB; have HO128 := n0_; have HO132 := n1_; have HB := n2_; clear n0_ n1_ n2_; (try clear hb); (try clear hb2); (try clear hk); (try clear hi); (try clear ho0)))
          go_ret
          exact ⟨_, by first | rfl | (simp [errW_none, errW_some] <;> rfl) | (simp only [← hji12]; first | rfl | (simp [errW_none, errW_some] <;> rfl)) | (simp [*, errW_none, errW_some] <;> rfl), by (with_reducible repeat (first | apply Kd.R_alloc | apply Kd.R_drewN | apply Kd.R_drew)); exact HO132.out, by repeat (first | (with_reducible first | exact HB.out | apply below_alloc | apply pw_below_drewN | apply below_drew1) | exact HB.out)⟩
        · rw [if_neg c14] at H
          exact absurd H (by simp)
      · rw [if_neg c13] at H
        exact absurd H (by simp)
    · rw [if_neg c11] at H
      have c11b0 : ((Int.tmod a0 4) == 1) = false := beq_eq_false_iff_ne.mpr c11
      have c11b1 : ((Int.tmod a0 4) != 1) = true := bne_iff_ne.mpr c11
      by_cases c20 : (Int.tmod a0 4) = 2
      · rw [if_pos c20] at H
        have c20b0 : ((Int.tmod a0 4) == 2) = true := beq_iff_eq.mpr c20
        have c20b1 : ((Int.tmod a0 4) != 2) = false := bne_eq_false_iff_eq.mpr c20
        clear c20
        obtain ⟨y133, hy133⟩ : ∃ y_ : List ByteArray, y_ = (([(⟨#[]⟩ : ByteArray), (⟨#[32]⟩ : ByteArray), (⟨#[32]⟩ : ByteArray), (⟨#[32, 32]⟩ : ByteArray)] : List ByteArray)) := ⟨_, rfl⟩
        replace H : (if 0 ≤ (Int.tmod (wrap64 (Int.tdiv a0 10)) 4) then (if (Int.tmod (wrap64 (Int.tdiv a0 10)) 4) < (y133.length : Int) then (some (([(⟨1, rdOf ByteArray.empty y133 (Int.tmod (wrap64 (Int.tdiv a0 10)) 4), 0, 0, 0⟩ : S42)] : List (S42)))) else (none)) else (none)) = some r := by first | (rw [hy133]; with_reducible exact H) | (have H2_ := (Option.bind_some _ _).symm.trans H; rw [hy133]; with_reducible exact H2_) | (have H2_ := (Option.bind_some _ _).symm.trans H; with_reducible exact H2_) | with_reducible exact H | (rw [hy133]; exact H) | exact H
        have Ny133 := Aside0.mk hy133
        clear hy133
        obtain ⟨ji21, hji21⟩ : ∃ j_ : Int, (Int.tmod (wrap64 (Int.tdiv a0 10)) 4) = j_ := ⟨_, rfl⟩
        replace H : (if 0 ≤ (ji21) then (if (ji21) < (y133.length : Int) then (some (([(⟨1, rdOf ByteArray.empty y133 (ji21), 0, 0, 0⟩ : S42)] : List (S42)))) else (none)) else (none)) = some r := by first | (rw [hji21] at H; exact H) | (simp only [hji21] at H ⊢; exact H)
        by_cases c22 : 0 ≤ (ji21)
        · rw [if_pos c22] at H
          have c22b0 : decide (0 ≤ (ji21)) = true := decide_eq_true c22
          clear c22
          by_cases c23 : (ji21) < (y133.length : Int)
          · rw [if_pos c23] at H
            have c23b0 : decide ((ji21) < (y133.length : Int)) = true := decide_eq_true c23
            clear c23
            obtain ⟨y137, hy137⟩ : ∃ y_ : List (S42), y_ = (([(⟨1, rdOf ByteArray.empty y133 (ji21), 0, 0, 0⟩ : S42)] : List (S42))) := ⟨_, rfl⟩
            replace H : (some y137) = some r := by first | (rw [hy137]; with_reducible exact H) | (have H2_ := (Option.bind_some _ _).symm.trans H; rw [hy137]; with_reducible exact H2_) | (have H2_ := (Option.bind_some _ _).symm.trans H; with_reducible exact H2_) | with_reducible exact H | (rw [hy137]; exact H) | exact H
            have Ny137 := Aside0.mk hy137
            clear hy137
            obtain rfl := Option.some.inj H
            go_enter Try.func48, Try.ntmps48
            go_wp2_with (first | ((with_reducible refine gate_dst (N := 25) rfl ?_); refine Kd.R_lit Kd.string _ 9 ?hg (N := 25) ?hd (xs := ([(⟨#[]⟩ : ByteArray), (⟨#[32]⟩ : ByteArray), (⟨#[32]⟩ : ByteArray), (⟨#[32, 32]⟩ : ByteArray)] : List ByteArray)) (inner := [.string (⟨#[]⟩ : ByteArray), .string (⟨#[32]⟩ : ByteArray), .string (⟨#[32]⟩ : ByteArray), .string (⟨#[32, 32]⟩ : ByteArray)]) (ok := fun _ => True) (okp := fun _ => True) ?hr ?hp (fun _ hk => hk) trivial (Below.refl _ _) (Nat.le_refl _) (by simp) ?_; (case hd => rfl); (case hg => rfl); (case hr => first | (go_simp; done) | (go_simp; rfl)); (case hp => exact (Reps.one (show Kd.M Kd.string _ _ _ (⟨#[]⟩ : ByteArray) [.string (⟨#[]⟩ : ByteArray)] from rfl) (Reps.one (show Kd.M Kd.string _ _ _ (⟨#[32]⟩ : ByteArray) [.string (⟨#[32]⟩ : ByteArray)] from rfl) (Reps.one (show Kd.M Kd.string _ _ _ (⟨#[32]⟩ : ByteArray) [.string (⟨#[32]⟩ : ByteArray)] from rfl) (Reps.one (show Kd.M Kd.string _ _ _ (⟨#[32, 32]⟩ : ByteArray) [.string (⟨#[32, 32]⟩ : ByteArray)] from rfl) (Reps.none _ _)))))); intro v134 w24 ho25 hb hg_ hnew_; clear hg_ hnew_; (first | rw [← Ny133.out] at ho25 | (simp only [Int.reduceToNat] at ho25; rw [← Ny133.out] at ho25)); have n0_ := Aside0.mk (Kd.R_lower ho25 (below_size (by repeat (first | (with_reducible first | exact HB.out | apply below_alloc | apply pw_below_drewN | apply below_drew1) | exact HB.out)))); have n1_ := Aside0.mk (below_step (by repeat (first | (with_reducible first | exact HB.out | apply below_alloc | apply pw_below_drewN | apply below_drew1) | exact HB.out)) hb); clear HB; have HO135 := n0_; have HB := n1_; clear n0_ n1_; clear hb ho25; obtain ⟨Ao26, co26, eo26⟩ := Kd.R_slice HO135.out; subst eo26; have p136 : 0 ≤ ((ji21) : Int) := of_decide_eq_true (by first | (with_reducible assumption) | assumption); have q136 : (ji21) < (y133.length : Int) := of_decide_eq_true (by first | (with_reducible assumption) | assumption); obtain ⟨ad136, e136, hx136_0⟩ := Kd.at_string (Kd.R_reads' HO135.out).2.2 (ji21) p136 q136; cases e136; replace p136 := eq_true p136; replace q136 := eq_true q136) | ((with_reducible refine gate_dst (N := 32) rfl ?_); refine Kd.R_lit k42 _ 42 ?hg (N := 32) ?hd (xs := ([(⟨1, rdOf ByteArray.empty y133 (ji21), 0, 0, 0⟩ : S42)] : List (S42))) (inner := [.int .i64 1, .string (rdOf ByteArray.empty y133 (ji21)), .int .i64 0, .int .i64 0, .int .i64 0]) (ok := fun _ => True) (okp := fun _ => True) ?hr ?hp (fun _ hk => hk) trivial (Below.refl _ _) (Nat.le_refl _) (by simp) ?_; (case hd => rfl); (case hg => rfl); (case hr => first | (go_simp; done) | (go_simp; rfl)); (case hp => exact (Reps.c5 (show Kd.M k42 _ _ _ (⟨1, rdOf ByteArray.empty y133 (ji21), 0, 0, 0⟩ : S42) [.int .i64 1, .string (rdOf ByteArray.empty y133 (ji21)), .int .i64 0, .int .i64 0, .int .i64 0] from (k42_mkM _ _ _ (⟨1, rdOf ByteArray.empty y133 (ji21), 0, 0, 0⟩ : S42) )) (Reps.none _ _))); intro v138 w27 ho28 hb hg_ hnew_; clear hg_ hnew_; (first | rw [← Ny137.out] at ho28 | (simp only [Int.reduceToNat] at ho28; rw [← Ny137.out] at ho28)); have n0_ := Aside0.mk (Kd.R_below (by (with_reducible repeat (first | apply Kd.R_alloc | apply Kd.R_drewN | apply Kd.R_drew)); exact HO135.out) hb); have n1_ := Aside0.mk (Kd.R_lower ho28 (below_size (by repeat (first | (with_reducible first | exact HB.out | apply below_alloc | apply pw_below_drewN | apply below_drew1) | exact HB.out)))); have n2_ := Aside0.mk (below_step (by repeat (first | (with_reducible first | exact HB.out | apply below_alloc | apply pw_below_drewN | apply below_drew1) | exact HB.out)) hb); clear HO135; clear HB; have HO135 := n0_; have HO139 := n1_; have HB := n2_; clear n0_ n1_ n2_; clear hb ho28))
            go_ret
            exact ⟨_, by first | rfl | (simp [errW_none, errW_some] <;> rfl) | (simp only [← hji21]; first | rfl | (simp [errW_none, errW_some] <;> rfl)) | (simp [*, errW_none, errW_some] <;> rfl), by (with_reducible repeat (first | apply Kd.R_alloc | apply Kd.R_drewN | apply Kd.R_drew)); exact HO139.out, by repeat (first | (with_reducible first | exact HB.out | apply below_alloc | apply pw_below_drewN | apply below_drew1) | exact HB.out)⟩
          · rw [if_neg c23] at H
            exact absurd H (by simp)
        · rw [if_neg c22] at H
          exact absurd H (by simp)
      · rw [if_neg c20] at H
        have c20b0 : ((Int.tmod a0 4) == 2) = false := beq_eq_false_iff_ne.mpr c20
        have c20b1 : ((Int.tmod a0 4) != 2) = true := bne_iff_ne.mpr c20
        by_cases c29 : (Int.tmod (wrap64 (Int.tdiv a0 10)) 4) > 0
        · rw [if_pos c29] at H
          have c29b0 : decide (0 < (Int.tmod (wrap64 (Int.tdiv a0 10)) 4)) = true := decide_eq_true c29
          clear c29
          obtain ⟨y140, hy140⟩ : ∃ y_ : List (S42), y_ = (([(⟨1, (⟨#[32]⟩ : ByteArray), 0, 0, 0⟩ : S42)] : List (S42))) := ⟨_, rfl⟩
          replace H : (some y140) = some r := by first | (rw [hy140]; with_reducible exact H) | (have H2_ := (Option.bind_some _ _).symm.trans H; rw [hy140]; with_reducible exact H2_) | (have H2_ := (Option.bind_some _ _).symm.trans H; with_reducible exact H2_) | with_reducible exact H | (rw [hy140]; exact H) | exact H
          have Ny140 := Aside0.mk hy140
          clear hy140
          obtain rfl := Option.some.inj H
          go_enter Try.func48, Try.ntmps48
          go_wp2_with (first | ((with_reducible refine gate_dst (N := 38) rfl ?_); refine Kd.R_lit k42 _ 42 ?hg (N := 38) ?hd (xs := ([(⟨1, (⟨#[32]⟩ : ByteArray), 0, 0, 0⟩ : S42)] : List (S42))) (inner := [.int .i64 1, .string (⟨#[32]⟩ : ByteArray), .int .i64 0, .int .i64 0, .int .i64 0]) (ok := fun _ => True) (okp := fun _ => True) ?hr ?hp (fun _ hk => hk) trivial (Below.refl _ _) (Nat.le_refl _) (by simp) ?_; (case hd => rfl); (case hg => rfl); (case hr => first | (go_simp; done) | (go_simp; rfl)); (case hp => exact (Reps.c5 (show Kd.M k42 _ _ _ (⟨1, (⟨#[32]⟩ : ByteArray), 0, 0, 0⟩ : S42) [.int .i64 1, .string (⟨#[32]⟩ : ByteArray), .int .i64 0, .int .i64 0, .int .i64 0] from (k42_mkM _ _ _ (⟨1, (⟨#[32]⟩ : ByteArray), 0, 0, 0⟩ : S42) )) (Reps.none _ _))); intro v141 w30 ho31 hb hg_ hnew_; clear hg_ hnew_; (first | rw [← Ny140.out] at ho31 | (simp only [Int.reduceToNat] at ho31; rw [← Ny140.out] at ho31)); have n0_ := Aside0.mk (Kd.R_lower ho31 (below_size (by repeat (first | (with_reducible first | exact HB.out | apply below_alloc | apply pw_below_drewN | apply below_drew1) | exact HB.out)))); have n1_ := Aside0.mk (below_step (by repeat (first | (with_reducible first | exact HB.out | apply below_alloc | apply pw_below_drewN | apply below_drew1) | exact HB.out)) hb); clear HB; have HO142 := n0_; have HB := n1_; clear n0_ n1_; clear hb ho31))
          go_ret
          exact ⟨_, by first | rfl | (simp [errW_none, errW_some] <;> rfl) | (simp [*, errW_none, errW_some] <;> rfl), by (with_reducible repeat (first | apply Kd.R_alloc | apply Kd.R_drewN | apply Kd.R_drew)); exact HO142.out, by repeat (first | (with_reducible first | exact HB.out | apply below_alloc | apply pw_below_drewN | apply below_drew1) | exact HB.out)⟩
        · rw [if_neg c29] at H
          have c29b0 : decide (0 < (Int.tmod (wrap64 (Int.tdiv a0 10)) 4)) = false := decide_eq_false c29
          clear c29
          obtain ⟨y143, hy143⟩ : ∃ y_ : List (S42), y_ = (([(⟨2, (⟨#[]⟩ : ByteArray), 0, 0, 0⟩ : S42)] : List (S42))) := ⟨_, rfl⟩
          replace H : (some y143) = some r := by first | (rw [hy143]; with_reducible exact H) | (have H2_ := (Option.bind_some _ _).symm.trans H; rw [hy143]; with_reducible exact H2_) | (have H2_ := (Option.bind_some _ _).symm.trans H; with_reducible exact H2_) | with_reducible exact H | (rw [hy143]; exact H) | exact H
          have Ny143 := Aside0.mk hy143
          clear hy143
          obtain rfl := Option.some.inj H
          go_enter Try.func48, Try.ntmps48
          go_wp2_with (first | ((with_reducible refine gate_dst (N := 40) rfl ?_); refine Kd.R_lit k42 _ 42 ?hg (N := 40) ?hd (xs := ([(⟨2, (⟨#[]⟩ : ByteArray), 0, 0, 0⟩ : S42)] : List (S42))) (inner := [.int .i64 2, .string (⟨#[]⟩ : ByteArray), .int .i64 0, .int .i64 0, .int .i64 0]) (ok := fun _ => True) (okp := fun _ => True) ?hr ?hp (fun _ hk => hk) trivial (Below.refl _ _) (Nat.le_refl _) (by simp) ?_; (case hd => rfl); (case hg => rfl); (case hr => first | (go_simp; done) | (go_simp; rfl)); (case hp => exact (Reps.c5 (show Kd.M k42 _ _ _ (⟨2, (⟨#[]⟩ : ByteArray), 0, 0, 0⟩ : S42) [.int .i64 2, .string (⟨#[]⟩ : ByteArray), .int .i64 0, .int .i64 0, .int .i64 0] from (k42_mkM _ _ _ (⟨2, (⟨#[]⟩ : ByteArray), 0, 0, 0⟩ : S42) )) (Reps.none _ _))); intro v144 w32 ho33 hb hg_ hnew_; clear hg_ hnew_; (first | rw [← Ny143.out] at ho33 | (simp only [Int.reduceToNat] at ho33; rw [← Ny143.out] at ho33)); have n0_ := Aside0.mk (Kd.R_lower ho33 (below_size (by repeat (first | (with_reducible first | exact HB.out | apply below_alloc | apply pw_below_drewN | apply below_drew1) | exact HB.out)))); have n1_ := Aside0.mk (below_step (by repeat (first | (with_reducible first | exact HB.out | apply below_alloc | apply pw_below_drewN | apply below_drew1) | exact HB.out)) hb); clear HB; have HO145 := n0_; have HB := n1_; clear n0_ n1_; clear hb ho33))
          go_ret
          exact ⟨_, by first | rfl | (simp [errW_none, errW_some] <;> rfl) | (simp [*, errW_none, errW_some] <;> rfl), by (with_reducible repeat (first | apply Kd.R_alloc | apply Kd.R_drewN | apply Kd.R_drew)); exact HO145.out, by repeat (first | (with_reducible first | exact HB.out | apply below_alloc | apply pw_below_drewN | apply below_drew1) | exact HB.out)⟩

-- GIVEN: koineref25_Made

end Go.Proofs.Ythmmdmnbcecooaa.A

/-! P1 -/
namespace Go.Proofs.Ythmmdmnbcecooaa.A
open Go.RowKit Go.Proofs.YthmmdmnbcecooaaW.PrintWords Go.Proofs.YthmmdmnbcecooaaW.PrintLast Go.Proofs.YthmmdmnbcecooaaW.PrintMore
set_option linter.unusedVariables false
set_option linter.unusedSimpArgs false

theorem operands_eq (a : Int) : koineref25_operands.f a = some (arityI a) := rfl

def seqD (a b : List S42) : List S42 := joinD a b ++ [⟨3, ⟨#[]⟩, 0, (a.length : Int) - 1, (a.length : Int) + b.length - 1⟩]
def wrapD (kind n : Int) (a : List S42) : List S42 := a ++ [⟨kind, ⟨#[]⟩, n, (a.length : Int) - 1, 0⟩]
def textD (s : ByteArray) : List S42 := [⟨0, s, 0, 0, 0⟩]

theorem seqD_length (a b : List S42) : (seqD a b).length = a.length + b.length + 1 := by simp [seqD, joinD]; omega
theorem wrapD_length (kind n : Int) (a : List S42) : (wrapD kind n a).length = a.length + 1 := by simp [wrapD]

theorem joined_eq (a b : List S42) (ha : a.length + b.length ≤ 1000000) : koineref25_joined.f a b = some (joinD a b) := if_pos ha

theorem Seq_eq (a b : List S42) (ha : a.length + b.length ≤ 1000000) : koineref25_Seq.f a b = some (seqD a b) := by
  unfold koineref25_Seq.f
  rw [joined_eq a b ha]
  simp only [Option.bind_some]
  rw [if_pos (by simp [joinD]; omega), wrap64_small (by omega) (by omega), wrap64_small (x := (a.length : Int) + b.length) (by omega) (by omega), wrap64_small (by omega) (by omega)]
  rfl

theorem Wrap_eq (kind n : Int) (a : List S42) (ha : a.length ≤ 1000000) : koineref25_Wrap.f kind n a = some (wrapD kind n a) := by
  unfold koineref25_Wrap.f
  simp only [Option.bind_some, List.nil_append, List.length_nil]
  rw [if_pos (by omega), if_pos (by omega), wrap64_small (by omega) (by omega)]
  rfl

end Go.Proofs.Ythmmdmnbcecooaa.A

/-! K1 -/
namespace Go.Proofs.Ythmmdmnbcecooaa.A
open Go.RowKit Go.Proofs.YthmmdmnbcecooaaW.PrintWords Go.Proofs.YthmmdmnbcecooaaW.PrintLast Go.Proofs.YthmmdmnbcecooaaW.PrintMore
set_option linter.unusedVariables false
set_option linter.unusedSimpArgs false

/-- A call hands back a slice of nodes that reads as D. -/
def DocPost (D : List S42) (w : World) (e : Ending) (w' : World) : Prop :=
  ∃ A c, e = .returned (.slice A D.length c) ∧ D.length ≤ c ∧ Kd.C k42 w' A D.length D ∧ Below w.heap.size w w'

theorem DocPost.of {D : List S42} {w : World} {e : Ending} {w' : World} (h : ∃ v0_ : Value, e = .returned (v0_) ∧ Kd.R k42 42 w' w.heap.size (fun _ => True) v0_ D ∧ Below w.heap.size w w') : DocPost D w e w' := by
  obtain ⟨v, rfl, hr, hb⟩ := h
  obtain ⟨A, c, rfl, hc, hC⟩ := Kd.R_reads hr
  exact ⟨A, c, rfl, hc, hC, hb⟩

theorem text_step (D : List S42) (s : ByteArray) (w : World) (h : D = textD s) : Calls Try.prog 38 #[.string s] w (DocPost D w) := by
  subst h
  exact (koineref25_Text.calls s (textD s) w rfl).mono fun _ _ h => .of h

theorem seq_step (D a b : List S42) (A : Option Addr) (c : Nat) (B : Option Addr) (c' : Nat) (w : World) (h : D = seqD a b) (hl : a.length + b.length ≤ 1000000) (ha : Kd.C k42 w A a.length a) (hc : a.length ≤ c) (hb : Kd.C k42 w B b.length b) (hc' : b.length ≤ c') :
    Calls Try.prog 35 #[.slice A a.length c, .slice B b.length c'] w (DocPost D w) := by
  subst h
  exact (koineref25_Seq.calls A c a B c' b (seqD a b) w ha hc hb hc' (Seq_eq a b hl)).mono fun _ _ h => .of h

theorem wrap_step (D a : List S42) (kind n : Int) (A : Option Addr) (c : Nat) (w : World) (h : D = wrapD kind n a) (hl : a.length ≤ 1000000) (ha : Kd.C k42 w A a.length a) (hc : a.length ≤ c) :
    Calls Try.prog 36 #[.int .i64 kind, .int .i64 n, .slice A a.length c] w (DocPost D w) := by
  subst h
  exact (koineref25_Wrap.calls kind n A c a (wrapD kind n a) w ha hc (Wrap_eq kind n a hl)).mono fun _ _ h => .of h

/-- A literal of one node. -/
theorem lit42 (W : World) (x : S42) : Kd.C k42 (W.alloc (.cells #[.int .i64 x.f0, .string x.f1, .int .i64 x.f2, .int .i64 x.f3, .int .i64 x.f4] 42)) (some ⟨W.heap.size, 0, none⟩) 1 [x] := by
  refine ⟨rfl, by omega, fun _ => ⟨_, rfl, fun j p hj => ?_⟩⟩
  have hj0 : j = 0 := by have := (List.getElem?_eq_some_iff.1 hj).1; simp at this; exact this
  subst hj0
  obtain rfl : x = p := by simpa using hj
  refine ⟨_, ?_, k42_mk _ x, fun i u hu => ?_⟩
  · rfl
  · have hi : i < 5 := by have := (List.getElem?_eq_some_iff.1 hu).1; simpa using this
    rw [add_plain, blk_cell (heap_alloc_new W _)]
    rw [← hu, List.getElem?_toArray.symm]
    simp

theorem litb (W : World) (b : Bool) : Kd.C Kd.bool (W.alloc (.cells #[.bool b] 4)) (some ⟨W.heap.size, 0, none⟩) 1 [b] := by
  refine ⟨rfl, by omega, fun _ => ⟨_, rfl, fun j p hj => ?_⟩⟩
  have hj0 : j = 0 := by have := (List.getElem?_eq_some_iff.1 hj).1; simp at this; exact this
  subst hj0
  obtain rfl : b = p := by simpa using hj
  refine ⟨[.bool b], rfl, rfl, fun i u hu => ?_⟩
  have hi : i < 1 := by have := (List.getElem?_eq_some_iff.1 hu).1; simpa using this
  obtain rfl : i = 0 := by omega
  rw [add_plain, blk_cell (heap_alloc_new W _)]
  simpa using hu

end Go.Proofs.Ythmmdmnbcecooaa.A

/-! M0 -/
namespace Go.Proofs.Ythmmdmnbcecooaa.A
open Go.RowKit Go.Proofs.YthmmdmnbcecooaaW.PrintWords Go.Proofs.YthmmdmnbcecooaaW.PrintLast Go.Proofs.YthmmdmnbcecooaaW.PrintMore
set_option linter.unusedVariables false
set_option linter.unusedSimpArgs false

def leafD (k : Int) : List S42 := (koineref25_leaf.f k).getD []

theorem leaf_some {k : Int} (h0 : 0 ≤ k) (h1 : k ≤ 255) : koineref25_leaf.f k = some (leafD k) ∧ (leafD k).length = 1 := by
  have h : ∀ i : Fin 256, (match koineref25_leaf.f (i.val : Int) with | some d => d.length == 1 | none => false) = true := by
    decide +kernel
  have := h ⟨k.toNat, by omega⟩
  simp only [Int.toNat_of_nonneg h0] at this
  unfold leafD
  split at this
  · rename_i d hd
    rw [hd]
    exact ⟨rfl, by simpa using this⟩
  · cases this

/-- One letter of Made: the stack and the size behind it. -/
def madeStep (k : Int) (sz : Nat) (D : List (List S42)) : Nat × List (List S42) :=
  if k % 10 < 4 ∨ D.length = 0 ∨ (D.length = 1 ∧ 8 ≤ k % 10) then (sz + 2, D ++ [leafD k])
  else if 8 ≤ k % 10 then (sz, D.take (D.length - 2) ++ [seqD (D.getD (D.length - 2) []) (D.getD (D.length - 1) [])])
  else (sz + 1, D.set (D.length - 1) (if k % 10 = 6 then wrapD 4 (k / 10 % 5) (D.getD (D.length - 1) []) else if k % 10 = 7 then wrapD 5 0 (D.getD (D.length - 1) []) else wrapD 6 0 (D.getD (D.length - 1) [])))

def madeGo (most : Int) : List Int → Nat → List (List S42) → List (List S42)
  | [], _, D => D
  | k :: t, sz, D => if (sz : Int) + 2 < most then madeGo most t (madeStep k sz D).1 (madeStep k sz D).2 else D

def foldD : List (List S42) → List S42
  | [] => textD ⟨#[]⟩
  | a :: t => t.foldl seqD a

def madeDoc (l : List Int) (most : Int) : List S42 := foldD (madeGo most l 0 [])

def kst : Kd (List S42) := Kd.slice 42 k42

theorem st_ne {W : World} {base : Nat} {ok : Nat → Prop} {v : Value} {D : List (List S42)} (h : Kd.R kst 26 W base ok v D) (hp : 0 < D.length) :
    ∃ g cap, v = .slice (some ⟨g, 0, none⟩) D.length cap ∧ base ≤ g ∧ g < W.heap.size := by
  obtain ⟨inner, ho⟩ := Kd.R_own h
  obtain ⟨A, c, hv⟩ := Kd.R_slice h
  rcases ho.2 with ⟨h1, _⟩ | ⟨g, cap, cur, h1, hg, hh, r⟩
  · rw [h1] at hv; injection hv with _ h2 _; omega
  · exact ⟨g, cap, h1, hg, blk_lt hh⟩

theorem st_elem {W : World} {base g cap : Nat} {ok : Nat → Prop} {D : List (List S42)} (h : Kd.R kst 26 W base ok (.slice (some ⟨g, 0, none⟩) D.length cap) D) {j : Nat} (hj : j < D.length) :
    ∃ A c, W.cell? ⟨g, j, none⟩ = some (.slice A (D.getD j []).length c) ∧ (D.getD j []).length ≤ c ∧ Kd.C k42 W A (D.getD j []).length (D.getD j []) ∧ W.frozen? ⟨g, j, none⟩ = false ∧ Kd.R k42 42 W base (fun k => ok k ∧ k ≠ g) (.slice A (D.getD j []).length c) (D.getD j []) := by
  obtain ⟨c, hc, hM, hcell, hf⟩ := Kd.R_elem h [] j (by omega) (by omega)
  obtain ⟨v, rfl, hR⟩ := hM
  rw [Int.toNat_natCast] at hR
  have hR0 := hR
  obtain ⟨A, c, hv, hle, hC⟩ := Kd.R_reads hR
  have h0 := hcell 0 v rfl
  have hf0 := hf 0
  rw [hv] at h0 hR0
  rw [Int.toNat_natCast, show j * kst.sz + 0 = j from by show j * 1 + 0 = j; omega] at h0 hf0
  exact ⟨A, c, h0, hle, hC, hf0, hR0⟩

theorem st_put {W : World} {base g cap : Nat} {D : List (List S42)} (h : Kd.R kst 26 W base (fun _ => True) (.slice (some ⟨g, 0, none⟩) D.length cap) D) {j : Nat} (hj : j < D.length) {x : List S42} {v : Value} {okp : Nat → Prop} (hx : Kd.R k42 42 W base okp v x) (hok : ∀ k, okp k → k ≠ g) :
    Kd.R kst 26 (W.setCell ⟨g, j, none⟩ v) base (fun _ => True) (.slice (some ⟨g, 0, none⟩) D.length cap) (D.set j x) := by
  obtain ⟨c, hc, hM, hcell, hf⟩ := Kd.R_elem h [] j (by omega) (by omega)
  obtain ⟨v0, rfl, hR⟩ := hM
  have := (Kd.R_seg (d := kst) (x' := x) (seg := [v]) (j := 0) (okp := okp) h j (by omega) (by omega) hc (fun i u hu => hcell i u hu) (by show 0 + 1 ≤ 1; omega) ⟨v, rfl, hx⟩ (fun k hk => ⟨trivial, hok k hk⟩)).1
  rw [Int.toNat_natCast, show j * kst.sz + 0 = j from by show j * 1 + 0 = j; omega] at this
  exact this

end Go.Proofs.Ythmmdmnbcecooaa.A

/-! M1 -/
namespace Go.Proofs.Ythmmdmnbcecooaa.A
open Go.RowKit Go.Proofs.YthmmdmnbcecooaaW.PrintWords Go.Proofs.YthmmdmnbcecooaaW.PrintLast Go.Proofs.YthmmdmnbcecooaaW.PrintMore
set_option linter.unusedVariables false
set_option linter.unusedSimpArgs false

theorem info26 : (Try.prog.info? 26).map (fun i => (i.zero, i.size, i.bytes)) = some (some (.slice none 0 0), 1, 24) := by kernel_rfl

/-- The nodes on the stack and its documents, by the size counted. -/
def stOk (D : List (List S42)) (sz : Nat) : Prop := (D.map List.length).sum + D.length ≤ sz

theorem Rst_empty (w : World) : Kd.R kst 26 (w.alloc (.cells #[] 26)) w.heap.size (fun _ => True) (.slice (some ⟨w.heap.size, 0, none⟩) 0 0) [] := by
  refine ⟨fun _ _ => trivial, [], ?_, Reps.none _ _⟩
  exact World.ownsRow_lit (base := w.heap.size) (e := 26) (size := 1) w #[] 0 (Nat.le_refl _) (by simp) (by simp)

theorem at_u8 {w : World} {A : Option Addr} {n : Nat} {xs : List Int} (h : Kd.C (Kd.int .u8) w A n xs) {i : Nat} (h1 : i < n) : ∃ ad, A = some ad ∧ w.cell? (ad.add i) = some (.int .u8 (xs.getD i 0)) := by
  obtain ⟨ad, c, e, _, hK, hc0⟩ := Kd.C_get h 0 i (by omega) (by omega)
  obtain rfl : c = [.int .u8 (xs.getD i 0)] := by rw [Int.toNat_natCast] at hK; exact hK
  refine ⟨ad, e, ?_⟩
  have := hc0 0 _ rfl
  rw [Int.toNat_natCast, show i * (Kd.int .u8).sz + 0 = i from by show i * 1 + 0 = i; omega] at this
  exact this

theorem st_elem' {W : World} {base g cap n : Nat} {ok : Nat → Prop} {D : List (List S42)} (hn : D.length = n) (h : Kd.R kst 26 W base ok (.slice (some ⟨g, 0, none⟩) n cap) D) {j : Nat} (hj : j < n) {X : List S42} (hX : D.getD j [] = X) :
    ∃ A c, W.cell? ⟨g, j, none⟩ = some (.slice A X.length c) ∧ X.length ≤ c ∧ Kd.C k42 W A X.length X ∧ W.frozen? ⟨g, j, none⟩ = false ∧ Kd.R k42 42 W base (fun k => ok k ∧ k ≠ g) (.slice A X.length c) X := by
  subst hn hX; exact st_elem h hj
theorem st_put' {W : World} {base g cap n : Nat} {D : List (List S42)} (hn : D.length = n) (h : Kd.R kst 26 W base (fun _ => True) (.slice (some ⟨g, 0, none⟩) n cap) D) {j : Nat} (hj : j < n) {x : List S42} {v : Value} {okp : Nat → Prop} (hx : Kd.R k42 42 W base okp v x) (hok : ∀ k, okp k → k ≠ g) :
    Kd.R kst 26 (W.setCell ⟨g, j, none⟩ v) base (fun _ => True) (.slice (some ⟨g, 0, none⟩) n cap) (D.set j x) := by
  subst hn; exact st_put h hj hx hok
theorem ne_own {k g n c : Nat} (h : some k ≠ (Value.slice (some ⟨g, 0, none⟩) n c).ownBlock) : k ≠ g := fun e => h (by simp [Value.ownBlock, e])

theorem st_cap {W : World} {base n cap : Nat} {A : Option Addr} {ok : Nat → Prop} {D : List (List S42)} (hn : D.length = n) (h : Kd.R kst 26 W base ok (.slice A n cap) D) : n ≤ cap := by
  obtain ⟨A', c', hv, hle, _⟩ := Kd.R_reads h
  injection hv with _ _ e
  omega

theorem fold_length : ∀ (l : List (List S42)) (a : List S42), (l.foldl seqD a).length = a.length + (l.map List.length).sum + l.length
  | [], a => by simp
  | b :: t, a => by
    rw [List.foldl_cons, fold_length t, seqD_length]
    simp only [List.map_cons, List.sum_cons, List.length_cons]
    omega
theorem sum_take_le (t : List (List S42)) : ∀ (j : Nat), j < t.length → ((t.take j).map List.length).sum + (t.getD j []).length ≤ (t.map List.length).sum := by
  induction t with
  | nil => intro j h; simp at h
  | cons a t ih =>
    intro j h
    cases j with
    | zero => simp
    | succ j =>
      have := ih j (by simpa using h)
      simp at this ⊢
      omega
/-- The sequence of X and the first j of t. -/
def accD (X : List S42) (t : List (List S42)) (j : Nat) : List S42 := (t.take j).foldl seqD X
theorem accD_succ (X : List S42) (t : List (List S42)) (j : Nat) (h : j < t.length) : accD X t (j + 1) = seqD (accD X t j) (t.getD j []) := by
  unfold accD
  rw [List.take_succ_eq_append_getElem h, List.foldl_append]
  simp [List.getD, h]
theorem accD_length (X : List S42) (t : List (List S42)) (j sz : Nat) (h : j < t.length) (hz : stOk (X :: t) sz) : (accD X t j).length + (t.getD j []).length ≤ sz := by
  unfold accD
  rw [fold_length]
  have := sum_take_le t j h
  unfold stOk at hz
  simp only [List.map_cons, List.sum_cons, List.length_cons, List.length_take] at hz ⊢
  omega

theorem getD_mem {l : List Int} {i : Nat} (h : i < l.length) : l.getD i 0 ∈ l := by
  simp [List.getD, h]

theorem made_next {most : Int} {l : List Int} {i sz sz' : Nat} {D D' S : List (List S42)} {k : Int} (h : i < l.length) (hsz : (sz : Int) + 2 < most) (hk : k = l.getD i 0) (hst : madeStep k sz D = (sz', D')) (hs : madeGo most (l.drop i) sz D = S) : madeGo most (l.drop (i + 1)) sz' D' = S := by
  rw [List.drop_eq_getElem_cons h, madeGo, if_pos hsz] at hs
  have : l[i] = k := by rw [hk]; simp [List.getD, h]
  rw [this, hst] at hs
  exact hs

theorem sum_set (D : List (List S42)) (j : Nat) (x : List S42) (h : j < D.length) : ((D.set j x).map List.length).sum + (D.getD j []).length = (D.map List.length).sum + x.length := by
  induction D generalizing j with
  | nil => simp at h
  | cons a t ih =>
    cases j with
    | zero => simp; omega
    | succ j =>
      have := ih j (by simpa using h)
      simp at this ⊢
      omega
theorem sum_split (D : List (List S42)) (m : Nat) (h : D.length = m + 2) : ((D.take m).map List.length).sum + (D.getD m []).length + (D.getD (m + 1) []).length = (D.map List.length).sum := by
  induction D generalizing m with
  | nil => simp at h
  | cons a t ih =>
    cases m with
    | zero =>
      obtain ⟨b, rfl⟩ : ∃ b, t = [b] := List.length_eq_one_iff.1 (by simpa using h)
      simp
    | succ m =>
      have := ih m (by simpa using h)
      simp at this ⊢
      omega

theorem made_ok {most : Int} {sz sz' : Nat} {D D' : List (List S42)} {k : Int} (hsz : (sz : Int) + 2 < most) (hm : most ≤ 1000) (hk : 0 ≤ k ∧ k ≤ 255) (hst : madeStep k sz D = (sz', D')) (hz : stOk D sz ∧ sz ≤ 2000 ∧ D.length ≤ 2000) : stOk D' sz' ∧ sz' ≤ 2000 ∧ D'.length ≤ 2000 := by
  obtain ⟨h1, h2, h3⟩ := hz
  unfold stOk at h1 ⊢
  unfold madeStep at hst
  by_cases c1 : k % 10 < 4 ∨ D.length = 0 ∨ (D.length = 1 ∧ 8 ≤ k % 10)
  · rw [if_pos c1] at hst
    injection hst with e1 e2
    subst e1 e2
    have := (leaf_some hk.1 hk.2).2
    simp [this]
    omega
  rw [if_neg c1] at hst
  by_cases c2 : 8 ≤ k % 10
  · rw [if_pos c2] at hst
    injection hst with e1 e2
    subst e1 e2
    obtain ⟨m, hm2⟩ : ∃ m, D.length = m + 2 := ⟨D.length - 2, by omega⟩
    have := sum_split D m hm2
    rw [hm2, show m + 2 - 2 = m from by omega, show m + 2 - 1 = m + 1 from by omega]
    simp [seqD_length] at this ⊢
    omega
  · rw [if_neg c2] at hst
    injection hst with e1 e2
    subst e1 e2
    have := sum_set D (D.length - 1) (if k % 10 = 6 then wrapD 4 (k / 10 % 5) (D.getD (D.length - 1) []) else if k % 10 = 7 then wrapD 5 0 (D.getD (D.length - 1) []) else wrapD 6 0 (D.getD (D.length - 1) [])) (by omega)
    have hl : ∀ a : List S42, (if k % 10 = 6 then wrapD 4 (k / 10 % 5) a else if k % 10 = 7 then wrapD 5 0 a else wrapD 6 0 a).length = a.length + 1 := by
      intro a; split
      · exact wrapD_length _ _ _
      · split <;> exact wrapD_length _ _ _
    rw [hl] at this
    rw [List.length_set]
    omega

theorem wrapk_nat (n : Nat) (h : n ≤ 2000) : IntKind.i64.wrap (n : Int) = n := (i64_w _).trans (wrap64_small (by omega) (by omega))
theorem wrapk_nat1 (n : Nat) (h : n ≤ 2000) : IntKind.i64.wrap ((n : Int) + 1) = (n : Int) + 1 := (i64_w _).trans (wrap64_small (by omega) (by omega))
theorem some26 : ∃ i, Try.prog.info? 26 = some i ∧ i.size = 1 := by
  have h : (Try.prog.info? 26).map (·.size) = some 1 := by kernel_rfl
  cases hi : Try.prog.info? 26 with
  | none => rw [hi] at h; cases h
  | some i => rw [hi] at h; exact ⟨i, rfl, by simpa using h⟩
theorem slice_run (A : Option Addr) (m cap : Nat) (h : m + 2 ≤ cap) (hm : m ≤ 2000) (W : World) : (Instr.slice 72 (.slice A (m + 2) cap) none (some (.int .i64 (m : Int))) none).run Try.prog W = .ok (.slice A m cap) W := by
  obtain ⟨i, hi, hs⟩ := some26
  have := (print_take_of (fun (x : Int) => Value.int .i64 x) 0 72 26 .i64 Try.underlying72 hi hs A cap (List.replicate (m + 2) 0) m (by omega) (by simp; omega) (by simpa using h)).1 W
  simp only [List.length_take, List.length_replicate, Int.toNat_natCast] at this
  rwa [Nat.min_eq_left (by omega)] at this
theorem wrap_nat (n : Nat) (h : n ≤ 2000) : wrap64 (n : Int) = n := wrap64_small (by omega) (by omega)
theorem wrap_nat1 (n : Nat) (h : n ≤ 2000) : wrap64 ((n : Int) + 1) = (n : Int) + 1 := wrap64_small (by omega) (by omega)
theorem add21 (m : Int) : m + 2 - 1 = m + 1 := by omega
attribute [local go_sem] Int.add_sub_cancel add21
set_option maxHeartbeats 1000000 in
set_option maxRecDepth 100000 in
theorem made_calls (A0 : Option Addr) (c0 : Nat) (l0 : List Int) (most : Int) (w : World) (hr0 : Kd.C (Kd.int .u8) w A0 l0.length l0) (hc0 : l0.length ≤ c0) (hb : ∀ x ∈ l0, 0 ≤ x ∧ x ≤ 255) (hm : 0 ≤ most ∧ most ≤ 1000) (hl : l0.length ≤ 281474976710656) :
    Calls Try.prog 21 #[.slice A0 l0.length c0, .int .i64 most] w fun e w' => ∃ v0_ : Value, e = .returned (v0_) ∧ Kd.R k42 42 w' w.heap.size (fun _ => True) v0_ (madeDoc l0 most) ∧ Below w.heap.size w w' := by
  have hu42 := Try.underlying42
  have hu26 := Try.underlying26
  have hu72 := Try.underlying72
  have HR0 := Aside0.mk hr0
  have HBY := Aside0.mk hb
  obtain ⟨S, hS⟩ : ∃ S, S = madeGo most l0 0 [] := ⟨_, rfl⟩
  have HS0 := Aside0.mk hS.symm
  have HE : madeDoc l0 most = foldD S := by rw [hS]; rfl
  rw [HE]
  clear hr0 hb hS HE
  go_enter Try.func21, Try.ntmps21
  go_wp2_with fail
  go_loopg [5, 6, 7] l0.length (fun d v5 v6 v7 W => ∃ (i sz : Nat) (D : List (List S42)) (v : Value), v = v5 ∧ v6 = .int .i64 sz ∧ v7 = .int .i64 i ∧ Aside0 (i + d = l0.length) ∧ Aside0 (madeGo most (l0.drop i) sz D = S) ∧ Aside0 (stOk D sz ∧ sz ≤ 2000 ∧ D.length ≤ 2000) ∧ Aside0 (Kd.R kst 26 W w.heap.size (fun _ => True) v D) ∧ Aside0 (Below w.heap.size w W))
  case atStart => exact ⟨0, 0, [], _, rfl, rfl, rfl, ⟨by simp⟩, ⟨by simpa using HS0.out⟩, ⟨by simp [stOk]⟩, ⟨Rst_empty w⟩, ⟨(Below.refl _ _).alloc (Nat.le_refl _) _⟩⟩
  case round =>
    obtain ⟨i, sz, D, v, rfl, rfl, rfl, HI, HS, HZ, HR, HB⟩ := hrel
    obtain ⟨n, hn⟩ : ∃ n, D.length = n := ⟨_, rfl⟩
    obtain ⟨A, cap, hv⟩ := Kd.R_slice HR.out
    rw [hn] at hv
    subst hv
    have HN := Aside0.mk hn
    have hszb : sz ≤ 2000 := HZ.out.2.1
    have HNB := Aside0.mk (show n ≤ 2000 from hn ▸ HZ.out.2.2)
    clear hn
    by_cases hlt : i < l0.length
    · obtain ⟨d', rfl⟩ : ∃ d', gk = d' + 1 := ⟨gk - 1, by have := HI.out; omega⟩
      by_cases hsz : (sz : Int) + 2 < most
      · obtain ⟨ad, rfl, hcell⟩ := at_u8 (Kd.C_below HR0.out HB.out) hlt
        obtain ⟨k, hk⟩ : ∃ k, k = l0.getD i 0 := ⟨_, rfl⟩
        have hkb : 0 ≤ k ∧ k ≤ 255 := by rw [hk]; exact HBY.out _ (getD_mem hlt)
        rw [← hk] at hcell
        have HK := Aside0.mk hk
        clear hk
        have hw : wrap64 k = k := wrap64_small (by omega) (by omega)
        by_cases hleaf : k % 10 < 4 ∨ n = 0 ∨ (n = 1 ∧ 8 ≤ k % 10)
        · have HST := Aside0.mk (show madeStep k sz D = (sz + 2, D ++ [leafD k]) from if_pos (by rw [HN.out]; exact hleaf))
          rcases (show k % 10 < 4 ∨ (¬ k % 10 < 4 ∧ n = 0) ∨ (¬ k % 10 < 4 ∧ n = 1 ∧ 8 ≤ k % 10) by omega) with h1 | ⟨h1, rfl⟩ | ⟨h1, rfl, h2⟩
          · obtain ⟨hlf, hll⟩ := leaf_some hkb.1 hkb.2
            have HLL := Aside0.mk hll
            clear hll
            go_wp2_with fail
            refine (koineref25_leaf.calls k (leafD k) _ hlf).mono ?_
            rintro e W2 ⟨vn, rfl, hRn, hBn⟩
            obtain ⟨An, cn, rfl, hcn, hCn⟩ := Kd.R_reads hRn
            have HR2 := Aside0.mk (Kd.R_below HR.out hBn)
            have HB2 : Aside0 (Below w.heap.size w W2) := ⟨below_step HB.out hBn⟩
            have HRN := Aside0.mk (Kd.R_lower (Kd.R_newR hRn HR.out) HB.out.size)
            clear hRn hBn
            go_wp2_with (at_builtin; refine Kd.R_append kst (w0 := w) w.heap.size rfl (.tmp 49) (.tmp 52) 72 26 (.slice none 0 0) 24 rfl Try.underlying72 info26 rfl (by decide) (by omega) (.slice A n cap) D (leafD k) [.slice An (leafD k).length cn] (fun _ => True) (fun k => True ∧ some k ≠ (Value.ownBlock (.slice A n cap))) rfl ?aX ?aP ?aK ?aF ?aO ?aB ?aS ?aL ?_; (case aX => first | (simp [Act.eval]; done) | (go_simp; done) | (go_simp; rfl)); (case aP => exact ⟨_, rfl, HRN.out⟩); (case aK => exact (fun _ hk => hk)); (case aF => exact (fun _ _ => trivial)); (case aO => exact HR2.out); (case aB => exact HB2.out); (case aS => exact HB2.out.size); (case aL => have := HNB.out; have := HN.out; omega); intro v9 w9 hR9 hB9 hg9 hat9; obtain ⟨A9, c9, rfl⟩ := Kd.R_slice hR9; have HR9 := Aside0.mk hR9; have HB9 := Aside0.mk hB9; clear hR9 hB9 hg9 hat9)
            go_roundg d'
            case measure => omega
            case rel => exact ⟨i + 1, sz + 2, _, _, rfl, by go_num, by go_num, ⟨by have := HI.out; omega⟩, ⟨made_next hlt hsz HK.out HST.out HS.out⟩, ⟨made_ok hsz hm.2 hkb HST.out HZ.out⟩, ⟨by have h9 := HR9.out; simp only [List.length_append, List.length_cons, List.length_nil] at h9 ⊢; exact h9⟩, HB9⟩
          · obtain ⟨hlf, hll⟩ := leaf_some hkb.1 hkb.2
            have HLL := Aside0.mk hll
            clear hll
            go_wp2_with fail
            refine (koineref25_leaf.calls k (leafD k) _ hlf).mono ?_
            rintro e W2 ⟨vn, rfl, hRn, hBn⟩
            obtain ⟨An, cn, rfl, hcn, hCn⟩ := Kd.R_reads hRn
            have HR2 := Aside0.mk (Kd.R_below HR.out hBn)
            have HB2 : Aside0 (Below w.heap.size w W2) := ⟨below_step HB.out hBn⟩
            have HRN := Aside0.mk (Kd.R_lower (Kd.R_newR hRn HR.out) HB.out.size)
            clear hRn hBn
            go_wp2_with (at_builtin; refine Kd.R_append kst (w0 := w) w.heap.size rfl (.tmp 49) (.tmp 52) 72 26 (.slice none 0 0) 24 rfl Try.underlying72 info26 rfl (by decide) (by omega) (.slice A 0 cap) D (leafD k) [.slice An (leafD k).length cn] (fun _ => True) (fun k => True ∧ some k ≠ (Value.ownBlock (.slice A 0 cap))) rfl ?aX ?aP ?aK ?aF ?aO ?aB ?aS ?aL ?_; (case aX => first | (simp [Act.eval]; done) | (go_simp; done) | (go_simp; rfl)); (case aP => exact ⟨_, rfl, HRN.out⟩); (case aK => exact (fun _ hk => hk)); (case aF => exact (fun _ _ => trivial)); (case aO => exact HR2.out); (case aB => exact HB2.out); (case aS => exact HB2.out.size); (case aL => have := HNB.out; have := HN.out; omega); intro v9 w9 hR9 hB9 hg9 hat9; obtain ⟨A9, c9, rfl⟩ := Kd.R_slice hR9; have HR9 := Aside0.mk hR9; have HB9 := Aside0.mk hB9; clear hR9 hB9 hg9 hat9)
            go_roundg d'
            case measure => omega
            case rel => exact ⟨i + 1, sz + 2, _, _, rfl, by go_num, by go_num, ⟨by have := HI.out; omega⟩, ⟨made_next hlt hsz HK.out HST.out HS.out⟩, ⟨made_ok hsz hm.2 hkb HST.out HZ.out⟩, ⟨by have h9 := HR9.out; simp only [List.length_append, List.length_cons, List.length_nil] at h9 ⊢; exact h9⟩, HB9⟩
          · obtain ⟨hlf, hll⟩ := leaf_some hkb.1 hkb.2
            have HLL := Aside0.mk hll
            clear hll
            go_wp2_with fail
            refine (koineref25_leaf.calls k (leafD k) _ hlf).mono ?_
            rintro e W2 ⟨vn, rfl, hRn, hBn⟩
            obtain ⟨An, cn, rfl, hcn, hCn⟩ := Kd.R_reads hRn
            have HR2 := Aside0.mk (Kd.R_below HR.out hBn)
            have HB2 : Aside0 (Below w.heap.size w W2) := ⟨below_step HB.out hBn⟩
            have HRN := Aside0.mk (Kd.R_lower (Kd.R_newR hRn HR.out) HB.out.size)
            clear hRn hBn
            go_wp2_with (at_builtin; refine Kd.R_append kst (w0 := w) w.heap.size rfl (.tmp 49) (.tmp 52) 72 26 (.slice none 0 0) 24 rfl Try.underlying72 info26 rfl (by decide) (by omega) (.slice A 1 cap) D (leafD k) [.slice An (leafD k).length cn] (fun _ => True) (fun k => True ∧ some k ≠ (Value.ownBlock (.slice A 1 cap))) rfl ?aX ?aP ?aK ?aF ?aO ?aB ?aS ?aL ?_; (case aX => first | (simp [Act.eval]; done) | (go_simp; done) | (go_simp; rfl)); (case aP => exact ⟨_, rfl, HRN.out⟩); (case aK => exact (fun _ hk => hk)); (case aF => exact (fun _ _ => trivial)); (case aO => exact HR2.out); (case aB => exact HB2.out); (case aS => exact HB2.out.size); (case aL => have := HNB.out; have := HN.out; omega); intro v9 w9 hR9 hB9 hg9 hat9; obtain ⟨A9, c9, rfl⟩ := Kd.R_slice hR9; have HR9 := Aside0.mk hR9; have HB9 := Aside0.mk hB9; clear hR9 hB9 hg9 hat9)
            go_roundg d'
            case measure => omega
            case rel => exact ⟨i + 1, sz + 2, _, _, rfl, by go_num, by go_num, ⟨by have := HI.out; omega⟩, ⟨made_next hlt hsz HK.out HST.out HS.out⟩, ⟨made_ok hsz hm.2 hkb HST.out HZ.out⟩, ⟨by have h9 := HR9.out; simp only [List.length_append, List.length_cons, List.length_nil] at h9 ⊢; exact h9⟩, HB9⟩
        · by_cases h8 : 8 ≤ k % 10
          · obtain ⟨m, rfl⟩ : ∃ m, n = m + 2 := ⟨n - 2, by omega⟩
            have hne0 : ((m : Int) + 2 == 0) = false := beq_eq_false_iff_ne.2 (by omega)
            have hne1 : ((m : Int) + 2 == 1) = false := beq_eq_false_iff_ne.2 (by omega)
            obtain ⟨g, cap', hv, hg1, hg2⟩ := st_ne HR.out (by rw [HN.out]; omega)
            injection hv with e1 e2 e3
            subst e1 e3
            clear e2
            obtain ⟨X, hX⟩ : ∃ X, D.getD m [] = X := ⟨_, rfl⟩
            obtain ⟨Y, hY⟩ : ∃ Y, D.getD (m + 1) [] = Y := ⟨_, rfl⟩
            have HST := Aside0.mk (show madeStep k sz D = (sz, D.take m ++ [seqD X Y]) from by
              unfold madeStep; rw [HN.out, if_neg hleaf, if_pos h8, show m + 2 - 2 = m from by omega, show m + 2 - 1 = m + 1 from by omega, hX, hY])
            have HLEN := Aside0.mk (show X.length + Y.length ≤ 1000000 from by have h7 := sum_split D m HN.out; rw [hX, hY] at h7; have h6 := HZ.out.1; unfold stOk at h6; omega)
            have hmb : m ≤ 2000 := by have := HNB.out; omega
            have HRd := Aside0.mk (Kd.R_drew HR.out)
            have hcap : m + 2 ≤ cap := st_cap HN.out HR.out
            have hcap1 : m ≤ cap := by omega
            have hcap2 : (m : Int) ≤ cap := by omega
            obtain ⟨A1, c1, hc1, hle1, hC1, hf1, hR1⟩ := st_elem' HN.out HRd.out (j := m) (by omega) hX
            obtain ⟨A2, c2, hc2, hle2, hC2, hf2, hR2⟩ := st_elem' HN.out HRd.out (j := m + 1) (by omega) hY
            have HC1 := Aside0.mk hC1
            have HC2 := Aside0.mk hC2
            have HML := Aside0.mk (show m ≤ D.length from by rw [HN.out]; omega)
            have HLE := Aside0.mk (show ((D.take m).length + 1) * 24 ≤ 140737488355328 from by simp only [List.length_take]; omega)
            have HW := Aside0.mk (And.intro (wrapk_nat m hmb) (And.intro (wrapk_nat1 m hmb) (And.intro hcap1 (And.intro hcap2 (And.intro (slice_run (some ⟨g, 0, none⟩) m cap hcap hmb) (And.intro hc1 hc2))))))
            clear hmb hcap hcap1 hcap2 hc1 hc2 hC1 hC2 hR1 hR2 hf1 hf2 hX hY
            go_wp2_with fail
            have hj1 : (m : Int) < (m : Int) + 2 := by omega
            have hj2 : (m : Int) + 1 < (m : Int) + 2 := by omega
            have hj3 : (0 : Int) ≤ (m : Int) + 1 := by omega
            obtain ⟨hwm, hwm1, hcap1, hcap2, hsl, hc1, hc2⟩ := HW.out
            go_region_law (first | (refine Kd.R_append_step kst (w0 := w) w.heap.size rfl (.tmp 61) (.tmp 73) 72 26 (.slice none 0 0) 24 rfl Try.underlying72 info26 rfl (by decide) (by omega) (.slice (some ⟨g, 0, none⟩) m cap) (D.take m) (seqD X Y) [.slice An (seqD X Y).length cn] (fun _ => True) (fun k => True ∧ some k ≠ (Value.ownBlock (.slice (some ⟨g, 0, none⟩) m cap))) rfl ?aX ?aP ?aK ?aF ?aO ?aB ?aS ?aL ?_; (case aX => first | (simp [Act.eval]; done) | (go_simp; done) | (go_simp; rfl)); (case aP => exact ⟨_, rfl, HRN.out⟩); (case aK => exact (fun _ hk => hk)); (case aF => exact (fun _ _ => trivial)); (case aO => exact HR2.out); (case aB => exact HB2.out); (case aS => exact HB2.out.size); (case aL => exact HLE.out); intro v9 w9 hR9 hB9 hg9 hat9; obtain ⟨A9, c9, rfl⟩ := Kd.R_slice hR9; have HR9 := Aside0.mk hR9; have HB9 := Aside0.mk hB9; clear hR9 hB9 hg9 hat9) | (go_simp; go_wp2_with (go_at_call 35; refine (koineref25_Seq.calls A1 c1 X A2 c2 Y _ _ HC1.out hle1 HC2.out hle2 (Seq_eq _ _ HLEN.out)).mono ?_; rintro e W2 ⟨vn, rfl, hRn, hBn⟩; obtain ⟨An, cn, rfl, hcn, hCn⟩ := Kd.R_reads hRn; have HR2 := Aside0.mk (Kd.R_take (m := m) (Kd.R_below HRd.out hBn) HML.out); have HB2 : Aside0 (Below w.heap.size w W2) := ⟨below_step (below_drew1 HB.out) hBn⟩; have HRN := Aside0.mk (Kd.R_lower (Kd.R_newR hRn (Kd.R_take (m := m) HRd.out HML.out)) (below_drew1 HB.out).size); clear hRn hBn)))
            all_goals
              clear hwm hwm1
              go_wp2_with fail
              go_roundg d'
              case measure => omega
              case rel => exact ⟨i + 1, sz, _, _, rfl, by go_num, by go_num, ⟨by have := HI.out; omega⟩, ⟨made_next hlt hsz HK.out HST.out HS.out⟩, ⟨made_ok hsz hm.2 hkb HST.out HZ.out⟩, ⟨by have h9 := HR9.out; simp only [List.length_append, List.length_take, List.length_cons, List.length_nil] at h9 ⊢; exact h9⟩, HB9⟩
          · by_cases h11 : n = 1
            · subst h11
              obtain ⟨g, cap', hv, hg1, hg2⟩ := st_ne HR.out (by rw [HN.out]; omega)
              injection hv with e1 e2 e3
              subst e1 e3
              clear e2
              obtain ⟨X, hX⟩ : ∃ X, D.getD 0 [] = X := ⟨_, rfl⟩
              have HX := Aside0.mk hX
              obtain ⟨A1, c1, hc1, hle1, hC1, hf1, hR1⟩ := st_elem' HN.out HR.out (j := 0) (by omega) hX
              have HC1 := Aside0.mk hC1
              have HLEN := Aside0.mk (show X.length ≤ 1000000 from by have h7 := sum_set D 0 [] (by rw [HN.out]; omega); rw [hX] at h7; have h6 := HZ.out.1; unfold stOk at h6; simp only [List.length_nil] at h7; omega)
              have hq : 0 ≤ k / 10 := by omega
              clear hC1 hR1 hf1 hX
              by_cases h6 : k % 10 = 6
              · have HST := Aside0.mk (show madeStep k sz D = (sz + 1, D.set 0 (wrapD 4 (k / 10 % 5) X)) from by
                  unfold madeStep; rw [HN.out, if_neg hleaf, if_neg h8, show 1 - 1 = 0 from rfl, HX.out, if_pos h6])
                go_wp2_with fail
                refine (koineref25_Wrap.calls 4 (k / 10 % 5) A1 c1 X _ _ HC1.out hle1 (Wrap_eq 4 (k / 10 % 5) _ HLEN.out)).mono ?_
                rintro e W2 ⟨vn, rfl, hRn, hBn⟩
                obtain ⟨An, cn, rfl, hcn, hCn⟩ := Kd.R_reads hRn
                have HR2 := Aside0.mk (Kd.R_below HR.out hBn)
                have HB2 : Aside0 (Below w.heap.size w W2) := ⟨below_step HB.out hBn⟩
                have HRN := Aside0.mk (Kd.R_lower (Kd.R_newR hRn HR.out) HB.out.size)
                obtain ⟨A3, c3, hc3, hle3, hC3, hf3, hR3⟩ := st_elem' HN.out HR2.out (j := 0) (by omega) HX.out
                clear hRn hBn hC3 hR3 hle3 hc1
                go_wp2_with fail
                go_roundg d'
                case measure => omega
                case rel => exact ⟨i + 1, sz + 1, _, _, rfl, by go_num, by go_num, ⟨by have := HI.out; omega⟩, ⟨made_next hlt hsz HK.out HST.out HS.out⟩, ⟨made_ok hsz hm.2 hkb HST.out HZ.out⟩, ⟨st_put' HN.out HR2.out (by omega) HRN.out (fun k_ hk => ne_own hk.2)⟩, ⟨below_set HB2.out hg1⟩⟩
              · by_cases h7 : k % 10 = 7
                · have HST := Aside0.mk (show madeStep k sz D = (sz + 1, D.set 0 (wrapD 5 0 X)) from by
                    unfold madeStep; rw [HN.out, if_neg hleaf, if_neg h8, show 1 - 1 = 0 from rfl, HX.out, if_neg h6, if_pos h7])
                  go_wp2_with fail
                  refine (koineref25_Wrap.calls 5 0 A1 c1 X _ _ HC1.out hle1 (Wrap_eq 5 0 _ HLEN.out)).mono ?_
                  rintro e W2 ⟨vn, rfl, hRn, hBn⟩
                  obtain ⟨An, cn, rfl, hcn, hCn⟩ := Kd.R_reads hRn
                  have HR2 := Aside0.mk (Kd.R_below HR.out hBn)
                  have HB2 : Aside0 (Below w.heap.size w W2) := ⟨below_step HB.out hBn⟩
                  have HRN := Aside0.mk (Kd.R_lower (Kd.R_newR hRn HR.out) HB.out.size)
                  obtain ⟨A3, c3, hc3, hle3, hC3, hf3, hR3⟩ := st_elem' HN.out HR2.out (j := 0) (by omega) HX.out
                  clear hRn hBn hC3 hR3 hle3 hc1
                  go_wp2_with fail
                  go_roundg d'
                  case measure => omega
                  case rel => exact ⟨i + 1, sz + 1, _, _, rfl, by go_num, by go_num, ⟨by have := HI.out; omega⟩, ⟨made_next hlt hsz HK.out HST.out HS.out⟩, ⟨made_ok hsz hm.2 hkb HST.out HZ.out⟩, ⟨st_put' HN.out HR2.out (by omega) HRN.out (fun k_ hk => ne_own hk.2)⟩, ⟨below_set HB2.out hg1⟩⟩
                · have HST := Aside0.mk (show madeStep k sz D = (sz + 1, D.set 0 (wrapD 6 0 X)) from by
                    unfold madeStep; rw [HN.out, if_neg hleaf, if_neg h8, show 1 - 1 = 0 from rfl, HX.out, if_neg h6, if_neg h7])
                  go_wp2_with fail
                  refine (koineref25_Wrap.calls 6 0 A1 c1 X _ _ HC1.out hle1 (Wrap_eq 6 0 _ HLEN.out)).mono ?_
                  rintro e W2 ⟨vn, rfl, hRn, hBn⟩
                  obtain ⟨An, cn, rfl, hcn, hCn⟩ := Kd.R_reads hRn
                  have HR2 := Aside0.mk (Kd.R_below HR.out hBn)
                  have HB2 : Aside0 (Below w.heap.size w W2) := ⟨below_step HB.out hBn⟩
                  have HRN := Aside0.mk (Kd.R_lower (Kd.R_newR hRn HR.out) HB.out.size)
                  obtain ⟨A3, c3, hc3, hle3, hC3, hf3, hR3⟩ := st_elem' HN.out HR2.out (j := 0) (by omega) HX.out
                  clear hRn hBn hC3 hR3 hle3 hc1
                  go_wp2_with fail
                  go_roundg d'
                  case measure => omega
                  case rel => exact ⟨i + 1, sz + 1, _, _, rfl, by go_num, by go_num, ⟨by have := HI.out; omega⟩, ⟨made_next hlt hsz HK.out HST.out HS.out⟩, ⟨made_ok hsz hm.2 hkb HST.out HZ.out⟩, ⟨st_put' HN.out HR2.out (by omega) HRN.out (fun k_ hk => ne_own hk.2)⟩, ⟨below_set HB2.out hg1⟩⟩
            · obtain ⟨m, rfl⟩ : ∃ m, n = m + 1 := ⟨n - 1, by omega⟩
              have hmp : 1 ≤ m := by omega
              have hmb : m ≤ 2000 := by have := HNB.out; omega
              have hwm : wrap64 (m : Int) = m := wrap_nat m hmb
              have hne0 : ((m : Int) + 1 == 0) = false := beq_eq_false_iff_ne.2 (by omega)
              have hne1 : ((m : Int) + 1 == 1) = false := beq_eq_false_iff_ne.2 (by omega)
              obtain ⟨g, cap', hv, hg1, hg2⟩ := st_ne HR.out (by rw [HN.out]; omega)
              injection hv with e1 e2 e3
              subst e1 e3
              clear e2
              obtain ⟨X, hX⟩ : ∃ X, D.getD m [] = X := ⟨_, rfl⟩
              have HX := Aside0.mk hX
              obtain ⟨A1, c1, hc1, hle1, hC1, hf1, hR1⟩ := st_elem' HN.out HR.out (j := m) (by omega) hX
              have HC1 := Aside0.mk hC1
              have HLEN := Aside0.mk (show X.length ≤ 1000000 from by have h7 := sum_set D m [] (by rw [HN.out]; omega); rw [hX] at h7; have h6 := HZ.out.1; unfold stOk at h6; simp only [List.length_nil] at h7; omega)
              have hq : 0 ≤ k / 10 := by omega
              clear hC1 hR1 hf1 hX
              by_cases h6 : k % 10 = 6
              · have HST := Aside0.mk (show madeStep k sz D = (sz + 1, D.set m (wrapD 4 (k / 10 % 5) X)) from by
                  unfold madeStep; rw [HN.out, if_neg hleaf, if_neg h8, show m + 1 - 1 = m from by omega, HX.out, if_pos h6])
                go_wp2_with fail
                refine (koineref25_Wrap.calls 4 (k / 10 % 5) A1 c1 X _ _ HC1.out hle1 (Wrap_eq 4 (k / 10 % 5) _ HLEN.out)).mono ?_
                rintro e W2 ⟨vn, rfl, hRn, hBn⟩
                obtain ⟨An, cn, rfl, hcn, hCn⟩ := Kd.R_reads hRn
                have HR2 := Aside0.mk (Kd.R_below HR.out hBn)
                have HB2 : Aside0 (Below w.heap.size w W2) := ⟨below_step HB.out hBn⟩
                have HRN := Aside0.mk (Kd.R_lower (Kd.R_newR hRn HR.out) HB.out.size)
                obtain ⟨A3, c3, hc3, hle3, hC3, hf3, hR3⟩ := st_elem' HN.out HR2.out (j := m) (by omega) HX.out
                clear hRn hBn hC3 hR3 hle3 hc1
                go_wp2_with fail
                go_roundg d'
                case measure => omega
                case rel => exact ⟨i + 1, sz + 1, _, _, rfl, by go_num, by go_num, ⟨by have := HI.out; omega⟩, ⟨made_next hlt hsz HK.out HST.out HS.out⟩, ⟨made_ok hsz hm.2 hkb HST.out HZ.out⟩, ⟨st_put' HN.out HR2.out (by omega) HRN.out (fun k_ hk => ne_own hk.2)⟩, ⟨below_set HB2.out hg1⟩⟩
              · by_cases h7 : k % 10 = 7
                · have HST := Aside0.mk (show madeStep k sz D = (sz + 1, D.set m (wrapD 5 0 X)) from by
                    unfold madeStep; rw [HN.out, if_neg hleaf, if_neg h8, show m + 1 - 1 = m from by omega, HX.out, if_neg h6, if_pos h7])
                  go_wp2_with fail
                  refine (koineref25_Wrap.calls 5 0 A1 c1 X _ _ HC1.out hle1 (Wrap_eq 5 0 _ HLEN.out)).mono ?_
                  rintro e W2 ⟨vn, rfl, hRn, hBn⟩
                  obtain ⟨An, cn, rfl, hcn, hCn⟩ := Kd.R_reads hRn
                  have HR2 := Aside0.mk (Kd.R_below HR.out hBn)
                  have HB2 : Aside0 (Below w.heap.size w W2) := ⟨below_step HB.out hBn⟩
                  have HRN := Aside0.mk (Kd.R_lower (Kd.R_newR hRn HR.out) HB.out.size)
                  obtain ⟨A3, c3, hc3, hle3, hC3, hf3, hR3⟩ := st_elem' HN.out HR2.out (j := m) (by omega) HX.out
                  clear hRn hBn hC3 hR3 hle3 hc1
                  go_wp2_with fail
                  go_roundg d'
                  case measure => omega
                  case rel => exact ⟨i + 1, sz + 1, _, _, rfl, by go_num, by go_num, ⟨by have := HI.out; omega⟩, ⟨made_next hlt hsz HK.out HST.out HS.out⟩, ⟨made_ok hsz hm.2 hkb HST.out HZ.out⟩, ⟨st_put' HN.out HR2.out (by omega) HRN.out (fun k_ hk => ne_own hk.2)⟩, ⟨below_set HB2.out hg1⟩⟩
                · have HST := Aside0.mk (show madeStep k sz D = (sz + 1, D.set m (wrapD 6 0 X)) from by
                    unfold madeStep; rw [HN.out, if_neg hleaf, if_neg h8, show m + 1 - 1 = m from by omega, HX.out, if_neg h6, if_neg h7])
                  go_wp2_with fail
                  refine (koineref25_Wrap.calls 6 0 A1 c1 X _ _ HC1.out hle1 (Wrap_eq 6 0 _ HLEN.out)).mono ?_
                  rintro e W2 ⟨vn, rfl, hRn, hBn⟩
                  obtain ⟨An, cn, rfl, hcn, hCn⟩ := Kd.R_reads hRn
                  have HR2 := Aside0.mk (Kd.R_below HR.out hBn)
                  have HB2 : Aside0 (Below w.heap.size w W2) := ⟨below_step HB.out hBn⟩
                  have HRN := Aside0.mk (Kd.R_lower (Kd.R_newR hRn HR.out) HB.out.size)
                  obtain ⟨A3, c3, hc3, hle3, hC3, hf3, hR3⟩ := st_elem' HN.out HR2.out (j := m) (by omega) HX.out
                  clear hRn hBn hC3 hR3 hle3 hc1
                  go_wp2_with fail
                  go_roundg d'
                  case measure => omega
                  case rel => exact ⟨i + 1, sz + 1, _, _, rfl, by go_num, by go_num, ⟨by have := HI.out; omega⟩, ⟨made_next hlt hsz HK.out HST.out HS.out⟩, ⟨made_ok hsz hm.2 hkb HST.out HZ.out⟩, ⟨st_put' HN.out HR2.out (by omega) HRN.out (fun k_ hk => ne_own hk.2)⟩, ⟨below_set HB2.out hg1⟩⟩
      · have HDS : Aside0 (D = S) := ⟨by have h7 := HS.out; rw [List.drop_eq_getElem_cons hlt, madeGo, if_neg hsz] at h7; exact h7⟩
        rcases Nat.eq_zero_or_pos n with rfl | hnp
        · have HD := Aside0.mk (List.length_eq_zero_iff.1 HN.out)
          go_wp2_with fail
          refine (koineref25_Text.calls ⟨#[]⟩ (textD ⟨#[]⟩) _ rfl).mono ?_
          rintro e W2 ⟨vn, rfl, hRn, hBn⟩
          have HB2 : Aside0 (Below w.heap.size w W2) := ⟨below_step HB.out hBn⟩
          have HRN := Aside0.mk (Kd.R_lower hRn HB.out.size)
          obtain ⟨An, cn, rfl, hcn, hCn⟩ := Kd.R_reads hRn
          clear hRn hBn hCn
          go_wp2_with fail
          go_ret
          exact ⟨_, rfl, by rw [← HDS.out, HD.out]; exact HRN.out, HB2.out⟩
        · obtain ⟨m, rfl⟩ : ∃ m, n = m + 1 := ⟨n - 1, by omega⟩
          obtain ⟨g, cap', hv, hg1, hg2⟩ := st_ne HR.out (by rw [HN.out]; omega)
          injection hv with e1 e2 e3
          subst e1 e3
          clear e2
          have hne0 : ((m : Int) + 1 == 0) = false := beq_eq_false_iff_ne.2 (by omega)
          have hmb : m ≤ 2000 := by have := HNB.out; omega
          cases D with
          | nil => exact absurd HN.out (by simp)
          | cons X t =>
            have HM : Aside0 (t.length = m) := ⟨by have := HN.out; simpa using this⟩
            obtain ⟨A1, c1, hc1, hle1, hC1, hf1, hR1⟩ := st_elem' HN.out HR.out (j := 0) (X := X) (by omega) rfl
            have HR1 := Aside0.mk (Kd.R_mono hR1 (ok' := fun _ => True) (fun _ _ => trivial))
            clear hC1 hR1 hf1
            go_wp2_with fail
            go_loopg [11, 12] m (fun d v11 v12 W => ∃ (j : Nat) (v : Value), v = v11 ∧ v12 = .int .i64 ((j : Int) + 1) ∧ Aside0 (j + d = m) ∧ Aside0 (Kd.R k42 42 W w.heap.size (fun _ => True) v (accD X t j)) ∧ Aside0 (Kd.R kst 26 W w.heap.size (fun _ => True) (.slice (some ⟨g, 0, none⟩) (m + 1) cap) (X :: t)) ∧ Aside0 (Below w.heap.size w W))
            case atStart => exact ⟨0, _, rfl, rfl, ⟨by simp⟩, HR1, HR, HB⟩
            case round =>
              clear HR1 HR HB hc1 hle1
              obtain ⟨j, v, rfl, rfl, HJ, HRO, HR, HB⟩ := hrel
              obtain ⟨Ao, co, rfl, hco, hCo⟩ := Kd.R_reads HRO.out
              have HCO := Aside0.mk hCo
              clear hCo
              by_cases hjm : j < m
              · obtain ⟨d', rfl⟩ : ∃ d', gk = d' + 1 := ⟨gk - 1, by have := HJ.out; omega⟩
                obtain ⟨Y, hY⟩ : ∃ Y, t.getD j [] = Y := ⟨_, rfl⟩
                obtain ⟨A2, c2, hc2, hle2, hC2, hf2, hR2⟩ := st_elem' HN.out HR.out (j := j + 1) (X := Y) (by omega) (by rw [← hY]; rfl)
                have HC2 := Aside0.mk hC2
                have HLEN := Aside0.mk (show (accD X t j).length + Y.length ≤ 1000000 from by have h7 := accD_length X t j sz (by rw [HM.out]; exact hjm) HZ.out.1; rw [hY] at h7; omega)
                have HY := Aside0.mk hY
                obtain ⟨P, hP⟩ : ∃ P, accD X t j = P := ⟨_, rfl⟩
                have HP := Aside0.mk hP
                rw [hP] at HLEN HCO hco
                rw [hP]
                clear hC2 hR2 hf2 hY hP
                go_wp2_with fail
                refine (koineref25_Seq.calls Ao co P A2 c2 Y _ _ HCO.out hco HC2.out hle2 (Seq_eq _ _ HLEN.out)).mono ?_
                rintro e W2 ⟨vn, rfl, hRn, hBn⟩
                obtain ⟨An, cn, rfl, hcn, hCn⟩ := Kd.R_reads hRn
                have HR2 := Aside0.mk (Kd.R_below HR.out hBn)
                have HB2 : Aside0 (Below w.heap.size w W2) := ⟨below_step HB.out hBn⟩
                have HRN := Aside0.mk (Kd.R_lower hRn HB.out.size)
                clear hRn hBn hCn
                go_wp2_with fail
                go_roundg d'
                case measure => omega
                case rel => exact ⟨j + 1, _, rfl, by go_num, ⟨by have := HJ.out; omega⟩, ⟨by rw [accD_succ X t j (by rw [HM.out]; exact hjm), HP.out, HY.out]; exact HRN.out⟩, HR2, HB2⟩
              · have HJM : Aside0 (j = m) := ⟨by have := HJ.out; omega⟩
                have hjn : ¬ (j : Int) + 1 < (m : Int) + 1 := by omega
                go_wp2_with fail
                go_ret
                exact ⟨_, rfl, by
                  have h8 : accD X t j = foldD (X :: t) := by rw [HJM.out, ← HM.out]; unfold accD; rw [List.take_length]; rfl
                  rw [← HDS.out, ← h8]
                  exact HRO.out, HB.out⟩
    · have HDS : Aside0 (D = S) := ⟨by have h7 := HS.out; rw [List.drop_eq_nil_of_le (by omega)] at h7; exact h7⟩
      rcases Nat.eq_zero_or_pos n with rfl | hnp
      · have HD := Aside0.mk (List.length_eq_zero_iff.1 HN.out)
        go_wp2_with fail
        refine (koineref25_Text.calls ⟨#[]⟩ (textD ⟨#[]⟩) _ rfl).mono ?_
        rintro e W2 ⟨vn, rfl, hRn, hBn⟩
        have HB2 : Aside0 (Below w.heap.size w W2) := ⟨below_step HB.out hBn⟩
        have HRN := Aside0.mk (Kd.R_lower hRn HB.out.size)
        obtain ⟨An, cn, rfl, hcn, hCn⟩ := Kd.R_reads hRn
        clear hRn hBn hCn
        go_wp2_with fail
        go_ret
        exact ⟨_, rfl, by rw [← HDS.out, HD.out]; exact HRN.out, HB2.out⟩
      · obtain ⟨m, rfl⟩ : ∃ m, n = m + 1 := ⟨n - 1, by omega⟩
        obtain ⟨g, cap', hv, hg1, hg2⟩ := st_ne HR.out (by rw [HN.out]; omega)
        injection hv with e1 e2 e3
        subst e1 e3
        clear e2
        have hne0 : ((m : Int) + 1 == 0) = false := beq_eq_false_iff_ne.2 (by omega)
        have hmb : m ≤ 2000 := by have := HNB.out; omega
        cases D with
        | nil => exact absurd HN.out (by simp)
        | cons X t =>
          have HM : Aside0 (t.length = m) := ⟨by have := HN.out; simpa using this⟩
          obtain ⟨A1, c1, hc1, hle1, hC1, hf1, hR1⟩ := st_elem' HN.out HR.out (j := 0) (X := X) (by omega) rfl
          have HR1 := Aside0.mk (Kd.R_mono hR1 (ok' := fun _ => True) (fun _ _ => trivial))
          clear hC1 hR1 hf1
          go_wp2_with fail
          go_loopg [11, 12] m (fun d v11 v12 W => ∃ (j : Nat) (v : Value), v = v11 ∧ v12 = .int .i64 ((j : Int) + 1) ∧ Aside0 (j + d = m) ∧ Aside0 (Kd.R k42 42 W w.heap.size (fun _ => True) v (accD X t j)) ∧ Aside0 (Kd.R kst 26 W w.heap.size (fun _ => True) (.slice (some ⟨g, 0, none⟩) (m + 1) cap) (X :: t)) ∧ Aside0 (Below w.heap.size w W))
          case atStart => exact ⟨0, _, rfl, rfl, ⟨by simp⟩, HR1, HR, HB⟩
          case round =>
            clear HR1 HR HB hc1 hle1
            obtain ⟨j, v, rfl, rfl, HJ, HRO, HR, HB⟩ := hrel
            obtain ⟨Ao, co, rfl, hco, hCo⟩ := Kd.R_reads HRO.out
            have HCO := Aside0.mk hCo
            clear hCo
            by_cases hjm : j < m
            · obtain ⟨d', rfl⟩ : ∃ d', gk = d' + 1 := ⟨gk - 1, by have := HJ.out; omega⟩
              obtain ⟨Y, hY⟩ : ∃ Y, t.getD j [] = Y := ⟨_, rfl⟩
              obtain ⟨A2, c2, hc2, hle2, hC2, hf2, hR2⟩ := st_elem' HN.out HR.out (j := j + 1) (X := Y) (by omega) (by rw [← hY]; rfl)
              have HC2 := Aside0.mk hC2
              have HLEN := Aside0.mk (show (accD X t j).length + Y.length ≤ 1000000 from by have h7 := accD_length X t j sz (by rw [HM.out]; exact hjm) HZ.out.1; rw [hY] at h7; omega)
              have HY := Aside0.mk hY
              obtain ⟨P, hP⟩ : ∃ P, accD X t j = P := ⟨_, rfl⟩
              have HP := Aside0.mk hP
              rw [hP] at HLEN HCO hco
              rw [hP]
              clear hC2 hR2 hf2 hY hP
              go_wp2_with fail
              refine (koineref25_Seq.calls Ao co P A2 c2 Y _ _ HCO.out hco HC2.out hle2 (Seq_eq _ _ HLEN.out)).mono ?_
              rintro e W2 ⟨vn, rfl, hRn, hBn⟩
              obtain ⟨An, cn, rfl, hcn, hCn⟩ := Kd.R_reads hRn
              have HR2 := Aside0.mk (Kd.R_below HR.out hBn)
              have HB2 : Aside0 (Below w.heap.size w W2) := ⟨below_step HB.out hBn⟩
              have HRN := Aside0.mk (Kd.R_lower hRn HB.out.size)
              clear hRn hBn hCn
              go_wp2_with fail
              go_roundg d'
              case measure => omega
              case rel => exact ⟨j + 1, _, rfl, by go_num, ⟨by have := HJ.out; omega⟩, ⟨by rw [accD_succ X t j (by rw [HM.out]; exact hjm), HP.out, HY.out]; exact HRN.out⟩, HR2, HB2⟩
            · have HJM : Aside0 (j = m) := ⟨by have := HJ.out; omega⟩
              have hjn : ¬ (j : Int) + 1 < (m : Int) + 1 := by omega
              go_wp2_with fail
              go_ret
              exact ⟨_, rfl, by
                have h8 : accD X t j = foldD (X :: t) := by rw [HJM.out, ← HM.out]; unfold accD; rw [List.take_length]; rfl
                rw [← HDS.out, ← h8]
                exact HRO.out, HB.out⟩
/-- The letters are bytes, and few nodes are asked for. -/
def koineref25_Made.f (l0 : List Int) (a1 : Int) : Option (List S42) := if (l0.all (fun x => decide (0 ≤ x) && decide (x ≤ 255))) = true ∧ (0 ≤ a1 ∧ a1 ≤ 1000) ∧ l0.length ≤ 281474976710656 then some (madeDoc l0 a1) else none
theorem koineref25_Made.calls (A0 : Option Addr) (c0 : Nat) (l0 : List Int) (a1 : Int) (r : List S42) (w : World) (hr0 : Kd.C (Kd.int .u8) w A0 l0.length l0) (hc0 : l0.length ≤ c0) (h : koineref25_Made.f l0 a1 = some r) :
    Calls Try.prog 21 #[.slice A0 l0.length c0, .int .i64 a1] w fun e w' => ∃ v0_ : Value, e = .returned (v0_) ∧ Kd.R k42 42 w' w.heap.size (fun _ => True) v0_ r ∧ Below w.heap.size w w' := by
  unfold koineref25_Made.f at h
  split at h
  · rename_i hg
    obtain rfl := Option.some.inj h
    refine made_calls A0 c0 l0 a1 w hr0 hc0 (fun x hx => ?_) hg.2.1 hg.2.2
    have := List.all_eq_true.1 hg.1 x hx
    simpa using this
  · exact absurd h (by simp)

end Go.Proofs.Ythmmdmnbcecooaa.A

/-! S1 -/
namespace Go.Proofs.Ythmmdmnbcecooaa.A
open Go.RowKit Go.Proofs.YthmmdmnbcecooaaW.PrintWords Go.Proofs.YthmmdmnbcecooaaW.PrintLast Go.Proofs.YthmmdmnbcecooaaW.PrintMore
set_option linter.unusedVariables false
set_option linter.unusedSimpArgs false

def sdL : List S42 := [⟨1, ⟨#[]⟩, 0, 0, 0⟩]
def sdH : List S42 := [⟨2, ⟨#[]⟩, 0, 0, 0⟩]
def sd1 : List S42 := textD ⟨#[102, 40]⟩
def sd2 : List S42 := textD ⟨#[97]⟩
def sd3 : List S42 := seqD sdL sd2
def sd4 : List S42 := wrapD 4 2 sd3
def sd5 : List S42 := textD ⟨#[41]⟩
def sd6 : List S42 := seqD sdL sd5
def sd7 : List S42 := seqD sd4 sd6
def sd8 : List S42 := seqD sd1 sd7
def sd9 : List S42 := wrapD 6 0 sd8
def sd10 : List S42 := textD ⟨#[97, 98]⟩
def sd11 : List S42 := textD ⟨#[99]⟩
def sd12 : List S42 := textD ⟨#[100]⟩
def sd13 : List S42 := seqD sdH sd12
def sd14 : List S42 := seqD sd11 sd13
def sd15 : List S42 := wrapD 5 0 sd14
def sd16 : List S42 := seqD sd10 sd15
def sd17 : List S42 := seqD sdH sdH
def sd18 : List S42 := wrapD 4 4 sd17
def sd19 : List S42 := textD ⟨#[120]⟩
def sd20 : List S42 := seqD sd18 sd19
def sd21 : List S42 := wrapD 6 0 sdH

def koinelaw25_sanity.f : Option Bool := some true

set_option maxRecDepth 100000 in
theorem sanity25_calls (w : World) : Calls Try.prog 20 #[] w fun e w' => e = .returned (.bool true) ∧ Below w.heap.size w w' := by
  have HB := Aside0.mk (Below.refl w.heap.size w)
  go_enter Try.func20, Try.ntmps20
  go_wp2_with fail
  have CsdL : Aside0 (Kd.C k42 (w.alloc _) (some ⟨w.heap.size, 0, none⟩) (List.length sdL) sdL) := ⟨lit42 w ⟨1, ⟨#[]⟩, 0, 0, 0⟩⟩
  refine (text_step sd1 ⟨#[102, 40]⟩ _ rfl).mono ?_
  rintro e w1 ⟨Asd1, csd1, rfl, hsd1, hC, hb⟩
  have hb2 : Below w.heap.size w _ := below_step (by repeat (first | (with_reducible first | exact Below.refl _ _ | exact HB.out | apply below_alloc) | exact Below.refl _ _ | exact HB.out)) hb
  clear HB; have HB := Aside0.mk hb2
  replace CsdL : Aside0 (Kd.C k42 w1 (some ⟨w.heap.size, 0, none⟩) (List.length sdL) sdL) := ⟨Kd.C_below (by (with_reducible repeat (first | exact CsdL.out | refine Kd.C_alloc ?_ _))) hb⟩
  have Csd1 := Aside0.mk hC; clear hC
  clear hb hb2
  go_wp2_with fail
  refine (text_step sd2 ⟨#[97]⟩ _ rfl).mono ?_
  rintro e w2 ⟨Asd2, csd2, rfl, hsd2, hC, hb⟩
  have hb2 : Below w.heap.size w _ := below_step (by repeat (first | (with_reducible first | exact Below.refl _ _ | exact HB.out | apply below_alloc) | exact Below.refl _ _ | exact HB.out)) hb
  clear HB; have HB := Aside0.mk hb2
  replace CsdL : Aside0 (Kd.C k42 w2 (some ⟨w.heap.size, 0, none⟩) (List.length sdL) sdL) := ⟨Kd.C_below (by (with_reducible repeat (first | exact CsdL.out | refine Kd.C_alloc ?_ _))) hb⟩
  replace Csd1 : Aside0 (Kd.C k42 w2 Asd1 (List.length sd1) sd1) := ⟨Kd.C_below (by (with_reducible repeat (first | exact Csd1.out | refine Kd.C_alloc ?_ _))) hb⟩
  have Csd2 := Aside0.mk hC; clear hC
  clear hb hb2
  go_wp2_with fail
  refine (seq_step sd3 sdL sd2 (some ⟨w.heap.size, 0, none⟩) 1 Asd2 csd2 _ rfl (by decide) (by (with_reducible repeat (first | exact CsdL.out | refine Kd.C_alloc ?_ _))) (by decide) (by (with_reducible repeat (first | exact Csd2.out | refine Kd.C_alloc ?_ _))) hsd2).mono ?_
  rintro e w3 ⟨Asd3, csd3, rfl, hsd3, hC, hb⟩
  have hb2 : Below w.heap.size w _ := below_step (by repeat (first | (with_reducible first | exact Below.refl _ _ | exact HB.out | apply below_alloc) | exact Below.refl _ _ | exact HB.out)) hb
  clear HB; have HB := Aside0.mk hb2
  replace CsdL : Aside0 (Kd.C k42 w3 (some ⟨w.heap.size, 0, none⟩) (List.length sdL) sdL) := ⟨Kd.C_below (by (with_reducible repeat (first | exact CsdL.out | refine Kd.C_alloc ?_ _))) hb⟩
  replace Csd1 : Aside0 (Kd.C k42 w3 Asd1 (List.length sd1) sd1) := ⟨Kd.C_below (by (with_reducible repeat (first | exact Csd1.out | refine Kd.C_alloc ?_ _))) hb⟩
  replace Csd2 : Aside0 (Kd.C k42 w3 Asd2 (List.length sd2) sd2) := ⟨Kd.C_below (by (with_reducible repeat (first | exact Csd2.out | refine Kd.C_alloc ?_ _))) hb⟩
  have Csd3 := Aside0.mk hC; clear hC
  clear hb hb2
  go_wp2_with fail
  refine (wrap_step sd4 sd3 4 2 Asd3 csd3 _ rfl (by decide) (by (with_reducible repeat (first | exact Csd3.out | refine Kd.C_alloc ?_ _))) hsd3).mono ?_
  rintro e w4 ⟨Asd4, csd4, rfl, hsd4, hC, hb⟩
  have hb2 : Below w.heap.size w _ := below_step (by repeat (first | (with_reducible first | exact Below.refl _ _ | exact HB.out | apply below_alloc) | exact Below.refl _ _ | exact HB.out)) hb
  clear HB; have HB := Aside0.mk hb2
  replace CsdL : Aside0 (Kd.C k42 w4 (some ⟨w.heap.size, 0, none⟩) (List.length sdL) sdL) := ⟨Kd.C_below (by (with_reducible repeat (first | exact CsdL.out | refine Kd.C_alloc ?_ _))) hb⟩
  replace Csd1 : Aside0 (Kd.C k42 w4 Asd1 (List.length sd1) sd1) := ⟨Kd.C_below (by (with_reducible repeat (first | exact Csd1.out | refine Kd.C_alloc ?_ _))) hb⟩
  replace Csd2 : Aside0 (Kd.C k42 w4 Asd2 (List.length sd2) sd2) := ⟨Kd.C_below (by (with_reducible repeat (first | exact Csd2.out | refine Kd.C_alloc ?_ _))) hb⟩
  replace Csd3 : Aside0 (Kd.C k42 w4 Asd3 (List.length sd3) sd3) := ⟨Kd.C_below (by (with_reducible repeat (first | exact Csd3.out | refine Kd.C_alloc ?_ _))) hb⟩
  have Csd4 := Aside0.mk hC; clear hC
  clear hb hb2
  go_wp2_with fail
  refine (text_step sd5 ⟨#[41]⟩ _ rfl).mono ?_
  rintro e w5 ⟨Asd5, csd5, rfl, hsd5, hC, hb⟩
  have hb2 : Below w.heap.size w _ := below_step (by repeat (first | (with_reducible first | exact Below.refl _ _ | exact HB.out | apply below_alloc) | exact Below.refl _ _ | exact HB.out)) hb
  clear HB; have HB := Aside0.mk hb2
  replace CsdL : Aside0 (Kd.C k42 w5 (some ⟨w.heap.size, 0, none⟩) (List.length sdL) sdL) := ⟨Kd.C_below (by (with_reducible repeat (first | exact CsdL.out | refine Kd.C_alloc ?_ _))) hb⟩
  replace Csd1 : Aside0 (Kd.C k42 w5 Asd1 (List.length sd1) sd1) := ⟨Kd.C_below (by (with_reducible repeat (first | exact Csd1.out | refine Kd.C_alloc ?_ _))) hb⟩
  replace Csd2 : Aside0 (Kd.C k42 w5 Asd2 (List.length sd2) sd2) := ⟨Kd.C_below (by (with_reducible repeat (first | exact Csd2.out | refine Kd.C_alloc ?_ _))) hb⟩
  replace Csd3 : Aside0 (Kd.C k42 w5 Asd3 (List.length sd3) sd3) := ⟨Kd.C_below (by (with_reducible repeat (first | exact Csd3.out | refine Kd.C_alloc ?_ _))) hb⟩
  replace Csd4 : Aside0 (Kd.C k42 w5 Asd4 (List.length sd4) sd4) := ⟨Kd.C_below (by (with_reducible repeat (first | exact Csd4.out | refine Kd.C_alloc ?_ _))) hb⟩
  have Csd5 := Aside0.mk hC; clear hC
  clear hb hb2
  go_wp2_with fail
  refine (seq_step sd6 sdL sd5 (some ⟨w.heap.size, 0, none⟩) 1 Asd5 csd5 _ rfl (by decide) (by (with_reducible repeat (first | exact CsdL.out | refine Kd.C_alloc ?_ _))) (by decide) (by (with_reducible repeat (first | exact Csd5.out | refine Kd.C_alloc ?_ _))) hsd5).mono ?_
  rintro e w6 ⟨Asd6, csd6, rfl, hsd6, hC, hb⟩
  have hb2 : Below w.heap.size w _ := below_step (by repeat (first | (with_reducible first | exact Below.refl _ _ | exact HB.out | apply below_alloc) | exact Below.refl _ _ | exact HB.out)) hb
  clear HB; have HB := Aside0.mk hb2
  replace CsdL : Aside0 (Kd.C k42 w6 (some ⟨w.heap.size, 0, none⟩) (List.length sdL) sdL) := ⟨Kd.C_below (by (with_reducible repeat (first | exact CsdL.out | refine Kd.C_alloc ?_ _))) hb⟩
  replace Csd1 : Aside0 (Kd.C k42 w6 Asd1 (List.length sd1) sd1) := ⟨Kd.C_below (by (with_reducible repeat (first | exact Csd1.out | refine Kd.C_alloc ?_ _))) hb⟩
  replace Csd2 : Aside0 (Kd.C k42 w6 Asd2 (List.length sd2) sd2) := ⟨Kd.C_below (by (with_reducible repeat (first | exact Csd2.out | refine Kd.C_alloc ?_ _))) hb⟩
  replace Csd3 : Aside0 (Kd.C k42 w6 Asd3 (List.length sd3) sd3) := ⟨Kd.C_below (by (with_reducible repeat (first | exact Csd3.out | refine Kd.C_alloc ?_ _))) hb⟩
  replace Csd4 : Aside0 (Kd.C k42 w6 Asd4 (List.length sd4) sd4) := ⟨Kd.C_below (by (with_reducible repeat (first | exact Csd4.out | refine Kd.C_alloc ?_ _))) hb⟩
  replace Csd5 : Aside0 (Kd.C k42 w6 Asd5 (List.length sd5) sd5) := ⟨Kd.C_below (by (with_reducible repeat (first | exact Csd5.out | refine Kd.C_alloc ?_ _))) hb⟩
  have Csd6 := Aside0.mk hC; clear hC
  clear hb hb2
  go_wp2_with fail
  refine (seq_step sd7 sd4 sd6 Asd4 csd4 Asd6 csd6 _ rfl (by decide) (by (with_reducible repeat (first | exact Csd4.out | refine Kd.C_alloc ?_ _))) hsd4 (by (with_reducible repeat (first | exact Csd6.out | refine Kd.C_alloc ?_ _))) hsd6).mono ?_
  rintro e w7 ⟨Asd7, csd7, rfl, hsd7, hC, hb⟩
  have hb2 : Below w.heap.size w _ := below_step (by repeat (first | (with_reducible first | exact Below.refl _ _ | exact HB.out | apply below_alloc) | exact Below.refl _ _ | exact HB.out)) hb
  clear HB; have HB := Aside0.mk hb2
  replace CsdL : Aside0 (Kd.C k42 w7 (some ⟨w.heap.size, 0, none⟩) (List.length sdL) sdL) := ⟨Kd.C_below (by (with_reducible repeat (first | exact CsdL.out | refine Kd.C_alloc ?_ _))) hb⟩
  replace Csd1 : Aside0 (Kd.C k42 w7 Asd1 (List.length sd1) sd1) := ⟨Kd.C_below (by (with_reducible repeat (first | exact Csd1.out | refine Kd.C_alloc ?_ _))) hb⟩
  replace Csd2 : Aside0 (Kd.C k42 w7 Asd2 (List.length sd2) sd2) := ⟨Kd.C_below (by (with_reducible repeat (first | exact Csd2.out | refine Kd.C_alloc ?_ _))) hb⟩
  replace Csd3 : Aside0 (Kd.C k42 w7 Asd3 (List.length sd3) sd3) := ⟨Kd.C_below (by (with_reducible repeat (first | exact Csd3.out | refine Kd.C_alloc ?_ _))) hb⟩
  replace Csd4 : Aside0 (Kd.C k42 w7 Asd4 (List.length sd4) sd4) := ⟨Kd.C_below (by (with_reducible repeat (first | exact Csd4.out | refine Kd.C_alloc ?_ _))) hb⟩
  replace Csd5 : Aside0 (Kd.C k42 w7 Asd5 (List.length sd5) sd5) := ⟨Kd.C_below (by (with_reducible repeat (first | exact Csd5.out | refine Kd.C_alloc ?_ _))) hb⟩
  replace Csd6 : Aside0 (Kd.C k42 w7 Asd6 (List.length sd6) sd6) := ⟨Kd.C_below (by (with_reducible repeat (first | exact Csd6.out | refine Kd.C_alloc ?_ _))) hb⟩
  have Csd7 := Aside0.mk hC; clear hC
  clear hb hb2
  go_wp2_with fail
  refine (seq_step sd8 sd1 sd7 Asd1 csd1 Asd7 csd7 _ rfl (by decide) (by (with_reducible repeat (first | exact Csd1.out | refine Kd.C_alloc ?_ _))) hsd1 (by (with_reducible repeat (first | exact Csd7.out | refine Kd.C_alloc ?_ _))) hsd7).mono ?_
  rintro e w8 ⟨Asd8, csd8, rfl, hsd8, hC, hb⟩
  have hb2 : Below w.heap.size w _ := below_step (by repeat (first | (with_reducible first | exact Below.refl _ _ | exact HB.out | apply below_alloc) | exact Below.refl _ _ | exact HB.out)) hb
  clear HB; have HB := Aside0.mk hb2
  replace CsdL : Aside0 (Kd.C k42 w8 (some ⟨w.heap.size, 0, none⟩) (List.length sdL) sdL) := ⟨Kd.C_below (by (with_reducible repeat (first | exact CsdL.out | refine Kd.C_alloc ?_ _))) hb⟩
  replace Csd1 : Aside0 (Kd.C k42 w8 Asd1 (List.length sd1) sd1) := ⟨Kd.C_below (by (with_reducible repeat (first | exact Csd1.out | refine Kd.C_alloc ?_ _))) hb⟩
  replace Csd2 : Aside0 (Kd.C k42 w8 Asd2 (List.length sd2) sd2) := ⟨Kd.C_below (by (with_reducible repeat (first | exact Csd2.out | refine Kd.C_alloc ?_ _))) hb⟩
  replace Csd3 : Aside0 (Kd.C k42 w8 Asd3 (List.length sd3) sd3) := ⟨Kd.C_below (by (with_reducible repeat (first | exact Csd3.out | refine Kd.C_alloc ?_ _))) hb⟩
  replace Csd4 : Aside0 (Kd.C k42 w8 Asd4 (List.length sd4) sd4) := ⟨Kd.C_below (by (with_reducible repeat (first | exact Csd4.out | refine Kd.C_alloc ?_ _))) hb⟩
  replace Csd5 : Aside0 (Kd.C k42 w8 Asd5 (List.length sd5) sd5) := ⟨Kd.C_below (by (with_reducible repeat (first | exact Csd5.out | refine Kd.C_alloc ?_ _))) hb⟩
  replace Csd6 : Aside0 (Kd.C k42 w8 Asd6 (List.length sd6) sd6) := ⟨Kd.C_below (by (with_reducible repeat (first | exact Csd6.out | refine Kd.C_alloc ?_ _))) hb⟩
  replace Csd7 : Aside0 (Kd.C k42 w8 Asd7 (List.length sd7) sd7) := ⟨Kd.C_below (by (with_reducible repeat (first | exact Csd7.out | refine Kd.C_alloc ?_ _))) hb⟩
  have Csd8 := Aside0.mk hC; clear hC
  clear hb hb2
  go_wp2_with fail
  refine (wrap_step sd9 sd8 6 0 Asd8 csd8 _ rfl (by decide) (by (with_reducible repeat (first | exact Csd8.out | refine Kd.C_alloc ?_ _))) hsd8).mono ?_
  rintro e w9 ⟨Asd9, csd9, rfl, hsd9, hC, hb⟩
  have hb2 : Below w.heap.size w _ := below_step (by repeat (first | (with_reducible first | exact Below.refl _ _ | exact HB.out | apply below_alloc) | exact Below.refl _ _ | exact HB.out)) hb
  clear HB; have HB := Aside0.mk hb2
  replace CsdL : Aside0 (Kd.C k42 w9 (some ⟨w.heap.size, 0, none⟩) (List.length sdL) sdL) := ⟨Kd.C_below (by (with_reducible repeat (first | exact CsdL.out | refine Kd.C_alloc ?_ _))) hb⟩
  replace Csd1 : Aside0 (Kd.C k42 w9 Asd1 (List.length sd1) sd1) := ⟨Kd.C_below (by (with_reducible repeat (first | exact Csd1.out | refine Kd.C_alloc ?_ _))) hb⟩
  replace Csd2 : Aside0 (Kd.C k42 w9 Asd2 (List.length sd2) sd2) := ⟨Kd.C_below (by (with_reducible repeat (first | exact Csd2.out | refine Kd.C_alloc ?_ _))) hb⟩
  replace Csd3 : Aside0 (Kd.C k42 w9 Asd3 (List.length sd3) sd3) := ⟨Kd.C_below (by (with_reducible repeat (first | exact Csd3.out | refine Kd.C_alloc ?_ _))) hb⟩
  replace Csd4 : Aside0 (Kd.C k42 w9 Asd4 (List.length sd4) sd4) := ⟨Kd.C_below (by (with_reducible repeat (first | exact Csd4.out | refine Kd.C_alloc ?_ _))) hb⟩
  replace Csd5 : Aside0 (Kd.C k42 w9 Asd5 (List.length sd5) sd5) := ⟨Kd.C_below (by (with_reducible repeat (first | exact Csd5.out | refine Kd.C_alloc ?_ _))) hb⟩
  replace Csd6 : Aside0 (Kd.C k42 w9 Asd6 (List.length sd6) sd6) := ⟨Kd.C_below (by (with_reducible repeat (first | exact Csd6.out | refine Kd.C_alloc ?_ _))) hb⟩
  replace Csd7 : Aside0 (Kd.C k42 w9 Asd7 (List.length sd7) sd7) := ⟨Kd.C_below (by (with_reducible repeat (first | exact Csd7.out | refine Kd.C_alloc ?_ _))) hb⟩
  replace Csd8 : Aside0 (Kd.C k42 w9 Asd8 (List.length sd8) sd8) := ⟨Kd.C_below (by (with_reducible repeat (first | exact Csd8.out | refine Kd.C_alloc ?_ _))) hb⟩
  have Csd9 := Aside0.mk hC; clear hC
  clear hb hb2
  go_wp2_with fail
  refine (document_Render.calls Asd9 csd9 sd9 (some ⟨w9.heap.size, 0, none⟩) 1 [true] ⟨#[102, 40, 97, 41]⟩ 0 _ (by (with_reducible repeat (first | exact Csd9.out | refine Kd.C_alloc ?_ _))) hsd9 (litb _ true) (by decide) (by kernel_rfl)).mono ?_
  rintro e w10 ⟨rfl, hb⟩
  have hb2 : Below w.heap.size w _ := below_step (by repeat (first | (with_reducible first | exact Below.refl _ _ | exact HB.out | apply below_alloc) | exact Below.refl _ _ | exact HB.out)) hb
  clear HB; have HB := Aside0.mk hb2
  replace CsdL : Aside0 (Kd.C k42 w10 (some ⟨w.heap.size, 0, none⟩) (List.length sdL) sdL) := ⟨Kd.C_below (by (with_reducible repeat (first | exact CsdL.out | refine Kd.C_alloc ?_ _))) hb⟩
  replace Csd1 : Aside0 (Kd.C k42 w10 Asd1 (List.length sd1) sd1) := ⟨Kd.C_below (by (with_reducible repeat (first | exact Csd1.out | refine Kd.C_alloc ?_ _))) hb⟩
  replace Csd2 : Aside0 (Kd.C k42 w10 Asd2 (List.length sd2) sd2) := ⟨Kd.C_below (by (with_reducible repeat (first | exact Csd2.out | refine Kd.C_alloc ?_ _))) hb⟩
  replace Csd3 : Aside0 (Kd.C k42 w10 Asd3 (List.length sd3) sd3) := ⟨Kd.C_below (by (with_reducible repeat (first | exact Csd3.out | refine Kd.C_alloc ?_ _))) hb⟩
  replace Csd4 : Aside0 (Kd.C k42 w10 Asd4 (List.length sd4) sd4) := ⟨Kd.C_below (by (with_reducible repeat (first | exact Csd4.out | refine Kd.C_alloc ?_ _))) hb⟩
  replace Csd5 : Aside0 (Kd.C k42 w10 Asd5 (List.length sd5) sd5) := ⟨Kd.C_below (by (with_reducible repeat (first | exact Csd5.out | refine Kd.C_alloc ?_ _))) hb⟩
  replace Csd6 : Aside0 (Kd.C k42 w10 Asd6 (List.length sd6) sd6) := ⟨Kd.C_below (by (with_reducible repeat (first | exact Csd6.out | refine Kd.C_alloc ?_ _))) hb⟩
  replace Csd7 : Aside0 (Kd.C k42 w10 Asd7 (List.length sd7) sd7) := ⟨Kd.C_below (by (with_reducible repeat (first | exact Csd7.out | refine Kd.C_alloc ?_ _))) hb⟩
  replace Csd8 : Aside0 (Kd.C k42 w10 Asd8 (List.length sd8) sd8) := ⟨Kd.C_below (by (with_reducible repeat (first | exact Csd8.out | refine Kd.C_alloc ?_ _))) hb⟩
  replace Csd9 : Aside0 (Kd.C k42 w10 Asd9 (List.length sd9) sd9) := ⟨Kd.C_below (by (with_reducible repeat (first | exact Csd9.out | refine Kd.C_alloc ?_ _))) hb⟩
  clear hb hb2
  go_wp2_with fail
  refine (document_Render.calls Asd9 csd9 sd9 (some ⟨w10.heap.size, 0, none⟩) 1 [false] ⟨#[102, 40, 10, 32, 32, 97, 10, 41]⟩ 0 _ (by (with_reducible repeat (first | exact Csd9.out | refine Kd.C_alloc ?_ _))) hsd9 (litb _ false) (by decide) (by kernel_rfl)).mono ?_
  rintro e w11 ⟨rfl, hb⟩
  have hb2 : Below w.heap.size w _ := below_step (by repeat (first | (with_reducible first | exact Below.refl _ _ | exact HB.out | apply below_alloc) | exact Below.refl _ _ | exact HB.out)) hb
  clear HB; have HB := Aside0.mk hb2
  replace CsdL : Aside0 (Kd.C k42 w11 (some ⟨w.heap.size, 0, none⟩) (List.length sdL) sdL) := ⟨Kd.C_below (by (with_reducible repeat (first | exact CsdL.out | refine Kd.C_alloc ?_ _))) hb⟩
  replace Csd1 : Aside0 (Kd.C k42 w11 Asd1 (List.length sd1) sd1) := ⟨Kd.C_below (by (with_reducible repeat (first | exact Csd1.out | refine Kd.C_alloc ?_ _))) hb⟩
  replace Csd2 : Aside0 (Kd.C k42 w11 Asd2 (List.length sd2) sd2) := ⟨Kd.C_below (by (with_reducible repeat (first | exact Csd2.out | refine Kd.C_alloc ?_ _))) hb⟩
  replace Csd3 : Aside0 (Kd.C k42 w11 Asd3 (List.length sd3) sd3) := ⟨Kd.C_below (by (with_reducible repeat (first | exact Csd3.out | refine Kd.C_alloc ?_ _))) hb⟩
  replace Csd4 : Aside0 (Kd.C k42 w11 Asd4 (List.length sd4) sd4) := ⟨Kd.C_below (by (with_reducible repeat (first | exact Csd4.out | refine Kd.C_alloc ?_ _))) hb⟩
  replace Csd5 : Aside0 (Kd.C k42 w11 Asd5 (List.length sd5) sd5) := ⟨Kd.C_below (by (with_reducible repeat (first | exact Csd5.out | refine Kd.C_alloc ?_ _))) hb⟩
  replace Csd6 : Aside0 (Kd.C k42 w11 Asd6 (List.length sd6) sd6) := ⟨Kd.C_below (by (with_reducible repeat (first | exact Csd6.out | refine Kd.C_alloc ?_ _))) hb⟩
  replace Csd7 : Aside0 (Kd.C k42 w11 Asd7 (List.length sd7) sd7) := ⟨Kd.C_below (by (with_reducible repeat (first | exact Csd7.out | refine Kd.C_alloc ?_ _))) hb⟩
  replace Csd8 : Aside0 (Kd.C k42 w11 Asd8 (List.length sd8) sd8) := ⟨Kd.C_below (by (with_reducible repeat (first | exact Csd8.out | refine Kd.C_alloc ?_ _))) hb⟩
  replace Csd9 : Aside0 (Kd.C k42 w11 Asd9 (List.length sd9) sd9) := ⟨Kd.C_below (by (with_reducible repeat (first | exact Csd9.out | refine Kd.C_alloc ?_ _))) hb⟩
  clear hb hb2
  go_wp2_with fail
  have CsdH : Aside0 (Kd.C k42 (w11.alloc _) (some ⟨w11.heap.size, 0, none⟩) (List.length sdH) sdH) := ⟨lit42 w11 ⟨2, ⟨#[]⟩, 0, 0, 0⟩⟩
  refine (text_step sd10 ⟨#[97, 98]⟩ _ rfl).mono ?_
  rintro e w12 ⟨Asd10, csd10, rfl, hsd10, hC, hb⟩
  have hb2 : Below w.heap.size w _ := below_step (by repeat (first | (with_reducible first | exact Below.refl _ _ | exact HB.out | apply below_alloc) | exact Below.refl _ _ | exact HB.out)) hb
  clear HB; have HB := Aside0.mk hb2
  replace CsdL : Aside0 (Kd.C k42 w12 (some ⟨w.heap.size, 0, none⟩) (List.length sdL) sdL) := ⟨Kd.C_below (by (with_reducible repeat (first | exact CsdL.out | refine Kd.C_alloc ?_ _))) hb⟩
  replace Csd1 : Aside0 (Kd.C k42 w12 Asd1 (List.length sd1) sd1) := ⟨Kd.C_below (by (with_reducible repeat (first | exact Csd1.out | refine Kd.C_alloc ?_ _))) hb⟩
  replace Csd2 : Aside0 (Kd.C k42 w12 Asd2 (List.length sd2) sd2) := ⟨Kd.C_below (by (with_reducible repeat (first | exact Csd2.out | refine Kd.C_alloc ?_ _))) hb⟩
  replace Csd3 : Aside0 (Kd.C k42 w12 Asd3 (List.length sd3) sd3) := ⟨Kd.C_below (by (with_reducible repeat (first | exact Csd3.out | refine Kd.C_alloc ?_ _))) hb⟩
  replace Csd4 : Aside0 (Kd.C k42 w12 Asd4 (List.length sd4) sd4) := ⟨Kd.C_below (by (with_reducible repeat (first | exact Csd4.out | refine Kd.C_alloc ?_ _))) hb⟩
  replace Csd5 : Aside0 (Kd.C k42 w12 Asd5 (List.length sd5) sd5) := ⟨Kd.C_below (by (with_reducible repeat (first | exact Csd5.out | refine Kd.C_alloc ?_ _))) hb⟩
  replace Csd6 : Aside0 (Kd.C k42 w12 Asd6 (List.length sd6) sd6) := ⟨Kd.C_below (by (with_reducible repeat (first | exact Csd6.out | refine Kd.C_alloc ?_ _))) hb⟩
  replace Csd7 : Aside0 (Kd.C k42 w12 Asd7 (List.length sd7) sd7) := ⟨Kd.C_below (by (with_reducible repeat (first | exact Csd7.out | refine Kd.C_alloc ?_ _))) hb⟩
  replace Csd8 : Aside0 (Kd.C k42 w12 Asd8 (List.length sd8) sd8) := ⟨Kd.C_below (by (with_reducible repeat (first | exact Csd8.out | refine Kd.C_alloc ?_ _))) hb⟩
  replace Csd9 : Aside0 (Kd.C k42 w12 Asd9 (List.length sd9) sd9) := ⟨Kd.C_below (by (with_reducible repeat (first | exact Csd9.out | refine Kd.C_alloc ?_ _))) hb⟩
  replace CsdH : Aside0 (Kd.C k42 w12 (some ⟨w11.heap.size, 0, none⟩) (List.length sdH) sdH) := ⟨Kd.C_below (by (with_reducible repeat (first | exact CsdH.out | refine Kd.C_alloc ?_ _))) hb⟩
  have Csd10 := Aside0.mk hC; clear hC
  clear hb hb2
  go_wp2_with fail
  refine (text_step sd11 ⟨#[99]⟩ _ rfl).mono ?_
  rintro e w13 ⟨Asd11, csd11, rfl, hsd11, hC, hb⟩
  have hb2 : Below w.heap.size w _ := below_step (by repeat (first | (with_reducible first | exact Below.refl _ _ | exact HB.out | apply below_alloc) | exact Below.refl _ _ | exact HB.out)) hb
  clear HB; have HB := Aside0.mk hb2
  replace CsdL : Aside0 (Kd.C k42 w13 (some ⟨w.heap.size, 0, none⟩) (List.length sdL) sdL) := ⟨Kd.C_below (by (with_reducible repeat (first | exact CsdL.out | refine Kd.C_alloc ?_ _))) hb⟩
  replace Csd1 : Aside0 (Kd.C k42 w13 Asd1 (List.length sd1) sd1) := ⟨Kd.C_below (by (with_reducible repeat (first | exact Csd1.out | refine Kd.C_alloc ?_ _))) hb⟩
  replace Csd2 : Aside0 (Kd.C k42 w13 Asd2 (List.length sd2) sd2) := ⟨Kd.C_below (by (with_reducible repeat (first | exact Csd2.out | refine Kd.C_alloc ?_ _))) hb⟩
  replace Csd3 : Aside0 (Kd.C k42 w13 Asd3 (List.length sd3) sd3) := ⟨Kd.C_below (by (with_reducible repeat (first | exact Csd3.out | refine Kd.C_alloc ?_ _))) hb⟩
  replace Csd4 : Aside0 (Kd.C k42 w13 Asd4 (List.length sd4) sd4) := ⟨Kd.C_below (by (with_reducible repeat (first | exact Csd4.out | refine Kd.C_alloc ?_ _))) hb⟩
  replace Csd5 : Aside0 (Kd.C k42 w13 Asd5 (List.length sd5) sd5) := ⟨Kd.C_below (by (with_reducible repeat (first | exact Csd5.out | refine Kd.C_alloc ?_ _))) hb⟩
  replace Csd6 : Aside0 (Kd.C k42 w13 Asd6 (List.length sd6) sd6) := ⟨Kd.C_below (by (with_reducible repeat (first | exact Csd6.out | refine Kd.C_alloc ?_ _))) hb⟩
  replace Csd7 : Aside0 (Kd.C k42 w13 Asd7 (List.length sd7) sd7) := ⟨Kd.C_below (by (with_reducible repeat (first | exact Csd7.out | refine Kd.C_alloc ?_ _))) hb⟩
  replace Csd8 : Aside0 (Kd.C k42 w13 Asd8 (List.length sd8) sd8) := ⟨Kd.C_below (by (with_reducible repeat (first | exact Csd8.out | refine Kd.C_alloc ?_ _))) hb⟩
  replace Csd9 : Aside0 (Kd.C k42 w13 Asd9 (List.length sd9) sd9) := ⟨Kd.C_below (by (with_reducible repeat (first | exact Csd9.out | refine Kd.C_alloc ?_ _))) hb⟩
  replace CsdH : Aside0 (Kd.C k42 w13 (some ⟨w11.heap.size, 0, none⟩) (List.length sdH) sdH) := ⟨Kd.C_below (by (with_reducible repeat (first | exact CsdH.out | refine Kd.C_alloc ?_ _))) hb⟩
  replace Csd10 : Aside0 (Kd.C k42 w13 Asd10 (List.length sd10) sd10) := ⟨Kd.C_below (by (with_reducible repeat (first | exact Csd10.out | refine Kd.C_alloc ?_ _))) hb⟩
  have Csd11 := Aside0.mk hC; clear hC
  clear hb hb2
  go_wp2_with fail
  refine (text_step sd12 ⟨#[100]⟩ _ rfl).mono ?_
  rintro e w14 ⟨Asd12, csd12, rfl, hsd12, hC, hb⟩
  have hb2 : Below w.heap.size w _ := below_step (by repeat (first | (with_reducible first | exact Below.refl _ _ | exact HB.out | apply below_alloc) | exact Below.refl _ _ | exact HB.out)) hb
  clear HB; have HB := Aside0.mk hb2
  replace CsdL : Aside0 (Kd.C k42 w14 (some ⟨w.heap.size, 0, none⟩) (List.length sdL) sdL) := ⟨Kd.C_below (by (with_reducible repeat (first | exact CsdL.out | refine Kd.C_alloc ?_ _))) hb⟩
  replace Csd1 : Aside0 (Kd.C k42 w14 Asd1 (List.length sd1) sd1) := ⟨Kd.C_below (by (with_reducible repeat (first | exact Csd1.out | refine Kd.C_alloc ?_ _))) hb⟩
  replace Csd2 : Aside0 (Kd.C k42 w14 Asd2 (List.length sd2) sd2) := ⟨Kd.C_below (by (with_reducible repeat (first | exact Csd2.out | refine Kd.C_alloc ?_ _))) hb⟩
  replace Csd3 : Aside0 (Kd.C k42 w14 Asd3 (List.length sd3) sd3) := ⟨Kd.C_below (by (with_reducible repeat (first | exact Csd3.out | refine Kd.C_alloc ?_ _))) hb⟩
  replace Csd4 : Aside0 (Kd.C k42 w14 Asd4 (List.length sd4) sd4) := ⟨Kd.C_below (by (with_reducible repeat (first | exact Csd4.out | refine Kd.C_alloc ?_ _))) hb⟩
  replace Csd5 : Aside0 (Kd.C k42 w14 Asd5 (List.length sd5) sd5) := ⟨Kd.C_below (by (with_reducible repeat (first | exact Csd5.out | refine Kd.C_alloc ?_ _))) hb⟩
  replace Csd6 : Aside0 (Kd.C k42 w14 Asd6 (List.length sd6) sd6) := ⟨Kd.C_below (by (with_reducible repeat (first | exact Csd6.out | refine Kd.C_alloc ?_ _))) hb⟩
  replace Csd7 : Aside0 (Kd.C k42 w14 Asd7 (List.length sd7) sd7) := ⟨Kd.C_below (by (with_reducible repeat (first | exact Csd7.out | refine Kd.C_alloc ?_ _))) hb⟩
  replace Csd8 : Aside0 (Kd.C k42 w14 Asd8 (List.length sd8) sd8) := ⟨Kd.C_below (by (with_reducible repeat (first | exact Csd8.out | refine Kd.C_alloc ?_ _))) hb⟩
  replace Csd9 : Aside0 (Kd.C k42 w14 Asd9 (List.length sd9) sd9) := ⟨Kd.C_below (by (with_reducible repeat (first | exact Csd9.out | refine Kd.C_alloc ?_ _))) hb⟩
  replace CsdH : Aside0 (Kd.C k42 w14 (some ⟨w11.heap.size, 0, none⟩) (List.length sdH) sdH) := ⟨Kd.C_below (by (with_reducible repeat (first | exact CsdH.out | refine Kd.C_alloc ?_ _))) hb⟩
  replace Csd10 : Aside0 (Kd.C k42 w14 Asd10 (List.length sd10) sd10) := ⟨Kd.C_below (by (with_reducible repeat (first | exact Csd10.out | refine Kd.C_alloc ?_ _))) hb⟩
  replace Csd11 : Aside0 (Kd.C k42 w14 Asd11 (List.length sd11) sd11) := ⟨Kd.C_below (by (with_reducible repeat (first | exact Csd11.out | refine Kd.C_alloc ?_ _))) hb⟩
  have Csd12 := Aside0.mk hC; clear hC
  clear hb hb2
  go_wp2_with fail
  refine (seq_step sd13 sdH sd12 (some ⟨w11.heap.size, 0, none⟩) 1 Asd12 csd12 _ rfl (by decide) (by (with_reducible repeat (first | exact CsdH.out | refine Kd.C_alloc ?_ _))) (by decide) (by (with_reducible repeat (first | exact Csd12.out | refine Kd.C_alloc ?_ _))) hsd12).mono ?_
  rintro e w15 ⟨Asd13, csd13, rfl, hsd13, hC, hb⟩
  have hb2 : Below w.heap.size w _ := below_step (by repeat (first | (with_reducible first | exact Below.refl _ _ | exact HB.out | apply below_alloc) | exact Below.refl _ _ | exact HB.out)) hb
  clear HB; have HB := Aside0.mk hb2
  replace CsdL : Aside0 (Kd.C k42 w15 (some ⟨w.heap.size, 0, none⟩) (List.length sdL) sdL) := ⟨Kd.C_below (by (with_reducible repeat (first | exact CsdL.out | refine Kd.C_alloc ?_ _))) hb⟩
  replace Csd1 : Aside0 (Kd.C k42 w15 Asd1 (List.length sd1) sd1) := ⟨Kd.C_below (by (with_reducible repeat (first | exact Csd1.out | refine Kd.C_alloc ?_ _))) hb⟩
  replace Csd2 : Aside0 (Kd.C k42 w15 Asd2 (List.length sd2) sd2) := ⟨Kd.C_below (by (with_reducible repeat (first | exact Csd2.out | refine Kd.C_alloc ?_ _))) hb⟩
  replace Csd3 : Aside0 (Kd.C k42 w15 Asd3 (List.length sd3) sd3) := ⟨Kd.C_below (by (with_reducible repeat (first | exact Csd3.out | refine Kd.C_alloc ?_ _))) hb⟩
  replace Csd4 : Aside0 (Kd.C k42 w15 Asd4 (List.length sd4) sd4) := ⟨Kd.C_below (by (with_reducible repeat (first | exact Csd4.out | refine Kd.C_alloc ?_ _))) hb⟩
  replace Csd5 : Aside0 (Kd.C k42 w15 Asd5 (List.length sd5) sd5) := ⟨Kd.C_below (by (with_reducible repeat (first | exact Csd5.out | refine Kd.C_alloc ?_ _))) hb⟩
  replace Csd6 : Aside0 (Kd.C k42 w15 Asd6 (List.length sd6) sd6) := ⟨Kd.C_below (by (with_reducible repeat (first | exact Csd6.out | refine Kd.C_alloc ?_ _))) hb⟩
  replace Csd7 : Aside0 (Kd.C k42 w15 Asd7 (List.length sd7) sd7) := ⟨Kd.C_below (by (with_reducible repeat (first | exact Csd7.out | refine Kd.C_alloc ?_ _))) hb⟩
  replace Csd8 : Aside0 (Kd.C k42 w15 Asd8 (List.length sd8) sd8) := ⟨Kd.C_below (by (with_reducible repeat (first | exact Csd8.out | refine Kd.C_alloc ?_ _))) hb⟩
  replace Csd9 : Aside0 (Kd.C k42 w15 Asd9 (List.length sd9) sd9) := ⟨Kd.C_below (by (with_reducible repeat (first | exact Csd9.out | refine Kd.C_alloc ?_ _))) hb⟩
  replace CsdH : Aside0 (Kd.C k42 w15 (some ⟨w11.heap.size, 0, none⟩) (List.length sdH) sdH) := ⟨Kd.C_below (by (with_reducible repeat (first | exact CsdH.out | refine Kd.C_alloc ?_ _))) hb⟩
  replace Csd10 : Aside0 (Kd.C k42 w15 Asd10 (List.length sd10) sd10) := ⟨Kd.C_below (by (with_reducible repeat (first | exact Csd10.out | refine Kd.C_alloc ?_ _))) hb⟩
  replace Csd11 : Aside0 (Kd.C k42 w15 Asd11 (List.length sd11) sd11) := ⟨Kd.C_below (by (with_reducible repeat (first | exact Csd11.out | refine Kd.C_alloc ?_ _))) hb⟩
  replace Csd12 : Aside0 (Kd.C k42 w15 Asd12 (List.length sd12) sd12) := ⟨Kd.C_below (by (with_reducible repeat (first | exact Csd12.out | refine Kd.C_alloc ?_ _))) hb⟩
  have Csd13 := Aside0.mk hC; clear hC
  clear hb hb2
  go_wp2_with fail
  refine (seq_step sd14 sd11 sd13 Asd11 csd11 Asd13 csd13 _ rfl (by decide) (by (with_reducible repeat (first | exact Csd11.out | refine Kd.C_alloc ?_ _))) hsd11 (by (with_reducible repeat (first | exact Csd13.out | refine Kd.C_alloc ?_ _))) hsd13).mono ?_
  rintro e w16 ⟨Asd14, csd14, rfl, hsd14, hC, hb⟩
  have hb2 : Below w.heap.size w _ := below_step (by repeat (first | (with_reducible first | exact Below.refl _ _ | exact HB.out | apply below_alloc) | exact Below.refl _ _ | exact HB.out)) hb
  clear HB; have HB := Aside0.mk hb2
  replace CsdL : Aside0 (Kd.C k42 w16 (some ⟨w.heap.size, 0, none⟩) (List.length sdL) sdL) := ⟨Kd.C_below (by (with_reducible repeat (first | exact CsdL.out | refine Kd.C_alloc ?_ _))) hb⟩
  replace Csd1 : Aside0 (Kd.C k42 w16 Asd1 (List.length sd1) sd1) := ⟨Kd.C_below (by (with_reducible repeat (first | exact Csd1.out | refine Kd.C_alloc ?_ _))) hb⟩
  replace Csd2 : Aside0 (Kd.C k42 w16 Asd2 (List.length sd2) sd2) := ⟨Kd.C_below (by (with_reducible repeat (first | exact Csd2.out | refine Kd.C_alloc ?_ _))) hb⟩
  replace Csd3 : Aside0 (Kd.C k42 w16 Asd3 (List.length sd3) sd3) := ⟨Kd.C_below (by (with_reducible repeat (first | exact Csd3.out | refine Kd.C_alloc ?_ _))) hb⟩
  replace Csd4 : Aside0 (Kd.C k42 w16 Asd4 (List.length sd4) sd4) := ⟨Kd.C_below (by (with_reducible repeat (first | exact Csd4.out | refine Kd.C_alloc ?_ _))) hb⟩
  replace Csd5 : Aside0 (Kd.C k42 w16 Asd5 (List.length sd5) sd5) := ⟨Kd.C_below (by (with_reducible repeat (first | exact Csd5.out | refine Kd.C_alloc ?_ _))) hb⟩
  replace Csd6 : Aside0 (Kd.C k42 w16 Asd6 (List.length sd6) sd6) := ⟨Kd.C_below (by (with_reducible repeat (first | exact Csd6.out | refine Kd.C_alloc ?_ _))) hb⟩
  replace Csd7 : Aside0 (Kd.C k42 w16 Asd7 (List.length sd7) sd7) := ⟨Kd.C_below (by (with_reducible repeat (first | exact Csd7.out | refine Kd.C_alloc ?_ _))) hb⟩
  replace Csd8 : Aside0 (Kd.C k42 w16 Asd8 (List.length sd8) sd8) := ⟨Kd.C_below (by (with_reducible repeat (first | exact Csd8.out | refine Kd.C_alloc ?_ _))) hb⟩
  replace Csd9 : Aside0 (Kd.C k42 w16 Asd9 (List.length sd9) sd9) := ⟨Kd.C_below (by (with_reducible repeat (first | exact Csd9.out | refine Kd.C_alloc ?_ _))) hb⟩
  replace CsdH : Aside0 (Kd.C k42 w16 (some ⟨w11.heap.size, 0, none⟩) (List.length sdH) sdH) := ⟨Kd.C_below (by (with_reducible repeat (first | exact CsdH.out | refine Kd.C_alloc ?_ _))) hb⟩
  replace Csd10 : Aside0 (Kd.C k42 w16 Asd10 (List.length sd10) sd10) := ⟨Kd.C_below (by (with_reducible repeat (first | exact Csd10.out | refine Kd.C_alloc ?_ _))) hb⟩
  replace Csd11 : Aside0 (Kd.C k42 w16 Asd11 (List.length sd11) sd11) := ⟨Kd.C_below (by (with_reducible repeat (first | exact Csd11.out | refine Kd.C_alloc ?_ _))) hb⟩
  replace Csd12 : Aside0 (Kd.C k42 w16 Asd12 (List.length sd12) sd12) := ⟨Kd.C_below (by (with_reducible repeat (first | exact Csd12.out | refine Kd.C_alloc ?_ _))) hb⟩
  replace Csd13 : Aside0 (Kd.C k42 w16 Asd13 (List.length sd13) sd13) := ⟨Kd.C_below (by (with_reducible repeat (first | exact Csd13.out | refine Kd.C_alloc ?_ _))) hb⟩
  have Csd14 := Aside0.mk hC; clear hC
  clear hb hb2
  go_wp2_with fail
  refine (wrap_step sd15 sd14 5 0 Asd14 csd14 _ rfl (by decide) (by (with_reducible repeat (first | exact Csd14.out | refine Kd.C_alloc ?_ _))) hsd14).mono ?_
  rintro e w17 ⟨Asd15, csd15, rfl, hsd15, hC, hb⟩
  have hb2 : Below w.heap.size w _ := below_step (by repeat (first | (with_reducible first | exact Below.refl _ _ | exact HB.out | apply below_alloc) | exact Below.refl _ _ | exact HB.out)) hb
  clear HB; have HB := Aside0.mk hb2
  replace CsdL : Aside0 (Kd.C k42 w17 (some ⟨w.heap.size, 0, none⟩) (List.length sdL) sdL) := ⟨Kd.C_below (by (with_reducible repeat (first | exact CsdL.out | refine Kd.C_alloc ?_ _))) hb⟩
  replace Csd1 : Aside0 (Kd.C k42 w17 Asd1 (List.length sd1) sd1) := ⟨Kd.C_below (by (with_reducible repeat (first | exact Csd1.out | refine Kd.C_alloc ?_ _))) hb⟩
  replace Csd2 : Aside0 (Kd.C k42 w17 Asd2 (List.length sd2) sd2) := ⟨Kd.C_below (by (with_reducible repeat (first | exact Csd2.out | refine Kd.C_alloc ?_ _))) hb⟩
  replace Csd3 : Aside0 (Kd.C k42 w17 Asd3 (List.length sd3) sd3) := ⟨Kd.C_below (by (with_reducible repeat (first | exact Csd3.out | refine Kd.C_alloc ?_ _))) hb⟩
  replace Csd4 : Aside0 (Kd.C k42 w17 Asd4 (List.length sd4) sd4) := ⟨Kd.C_below (by (with_reducible repeat (first | exact Csd4.out | refine Kd.C_alloc ?_ _))) hb⟩
  replace Csd5 : Aside0 (Kd.C k42 w17 Asd5 (List.length sd5) sd5) := ⟨Kd.C_below (by (with_reducible repeat (first | exact Csd5.out | refine Kd.C_alloc ?_ _))) hb⟩
  replace Csd6 : Aside0 (Kd.C k42 w17 Asd6 (List.length sd6) sd6) := ⟨Kd.C_below (by (with_reducible repeat (first | exact Csd6.out | refine Kd.C_alloc ?_ _))) hb⟩
  replace Csd7 : Aside0 (Kd.C k42 w17 Asd7 (List.length sd7) sd7) := ⟨Kd.C_below (by (with_reducible repeat (first | exact Csd7.out | refine Kd.C_alloc ?_ _))) hb⟩
  replace Csd8 : Aside0 (Kd.C k42 w17 Asd8 (List.length sd8) sd8) := ⟨Kd.C_below (by (with_reducible repeat (first | exact Csd8.out | refine Kd.C_alloc ?_ _))) hb⟩
  replace Csd9 : Aside0 (Kd.C k42 w17 Asd9 (List.length sd9) sd9) := ⟨Kd.C_below (by (with_reducible repeat (first | exact Csd9.out | refine Kd.C_alloc ?_ _))) hb⟩
  replace CsdH : Aside0 (Kd.C k42 w17 (some ⟨w11.heap.size, 0, none⟩) (List.length sdH) sdH) := ⟨Kd.C_below (by (with_reducible repeat (first | exact CsdH.out | refine Kd.C_alloc ?_ _))) hb⟩
  replace Csd10 : Aside0 (Kd.C k42 w17 Asd10 (List.length sd10) sd10) := ⟨Kd.C_below (by (with_reducible repeat (first | exact Csd10.out | refine Kd.C_alloc ?_ _))) hb⟩
  replace Csd11 : Aside0 (Kd.C k42 w17 Asd11 (List.length sd11) sd11) := ⟨Kd.C_below (by (with_reducible repeat (first | exact Csd11.out | refine Kd.C_alloc ?_ _))) hb⟩
  replace Csd12 : Aside0 (Kd.C k42 w17 Asd12 (List.length sd12) sd12) := ⟨Kd.C_below (by (with_reducible repeat (first | exact Csd12.out | refine Kd.C_alloc ?_ _))) hb⟩
  replace Csd13 : Aside0 (Kd.C k42 w17 Asd13 (List.length sd13) sd13) := ⟨Kd.C_below (by (with_reducible repeat (first | exact Csd13.out | refine Kd.C_alloc ?_ _))) hb⟩
  replace Csd14 : Aside0 (Kd.C k42 w17 Asd14 (List.length sd14) sd14) := ⟨Kd.C_below (by (with_reducible repeat (first | exact Csd14.out | refine Kd.C_alloc ?_ _))) hb⟩
  have Csd15 := Aside0.mk hC; clear hC
  clear hb hb2
  go_wp2_with fail
  refine (seq_step sd16 sd10 sd15 Asd10 csd10 Asd15 csd15 _ rfl (by decide) (by (with_reducible repeat (first | exact Csd10.out | refine Kd.C_alloc ?_ _))) hsd10 (by (with_reducible repeat (first | exact Csd15.out | refine Kd.C_alloc ?_ _))) hsd15).mono ?_
  rintro e w18 ⟨Asd16, csd16, rfl, hsd16, hC, hb⟩
  have hb2 : Below w.heap.size w _ := below_step (by repeat (first | (with_reducible first | exact Below.refl _ _ | exact HB.out | apply below_alloc) | exact Below.refl _ _ | exact HB.out)) hb
  clear HB; have HB := Aside0.mk hb2
  replace CsdL : Aside0 (Kd.C k42 w18 (some ⟨w.heap.size, 0, none⟩) (List.length sdL) sdL) := ⟨Kd.C_below (by (with_reducible repeat (first | exact CsdL.out | refine Kd.C_alloc ?_ _))) hb⟩
  replace Csd1 : Aside0 (Kd.C k42 w18 Asd1 (List.length sd1) sd1) := ⟨Kd.C_below (by (with_reducible repeat (first | exact Csd1.out | refine Kd.C_alloc ?_ _))) hb⟩
  replace Csd2 : Aside0 (Kd.C k42 w18 Asd2 (List.length sd2) sd2) := ⟨Kd.C_below (by (with_reducible repeat (first | exact Csd2.out | refine Kd.C_alloc ?_ _))) hb⟩
  replace Csd3 : Aside0 (Kd.C k42 w18 Asd3 (List.length sd3) sd3) := ⟨Kd.C_below (by (with_reducible repeat (first | exact Csd3.out | refine Kd.C_alloc ?_ _))) hb⟩
  replace Csd4 : Aside0 (Kd.C k42 w18 Asd4 (List.length sd4) sd4) := ⟨Kd.C_below (by (with_reducible repeat (first | exact Csd4.out | refine Kd.C_alloc ?_ _))) hb⟩
  replace Csd5 : Aside0 (Kd.C k42 w18 Asd5 (List.length sd5) sd5) := ⟨Kd.C_below (by (with_reducible repeat (first | exact Csd5.out | refine Kd.C_alloc ?_ _))) hb⟩
  replace Csd6 : Aside0 (Kd.C k42 w18 Asd6 (List.length sd6) sd6) := ⟨Kd.C_below (by (with_reducible repeat (first | exact Csd6.out | refine Kd.C_alloc ?_ _))) hb⟩
  replace Csd7 : Aside0 (Kd.C k42 w18 Asd7 (List.length sd7) sd7) := ⟨Kd.C_below (by (with_reducible repeat (first | exact Csd7.out | refine Kd.C_alloc ?_ _))) hb⟩
  replace Csd8 : Aside0 (Kd.C k42 w18 Asd8 (List.length sd8) sd8) := ⟨Kd.C_below (by (with_reducible repeat (first | exact Csd8.out | refine Kd.C_alloc ?_ _))) hb⟩
  replace Csd9 : Aside0 (Kd.C k42 w18 Asd9 (List.length sd9) sd9) := ⟨Kd.C_below (by (with_reducible repeat (first | exact Csd9.out | refine Kd.C_alloc ?_ _))) hb⟩
  replace CsdH : Aside0 (Kd.C k42 w18 (some ⟨w11.heap.size, 0, none⟩) (List.length sdH) sdH) := ⟨Kd.C_below (by (with_reducible repeat (first | exact CsdH.out | refine Kd.C_alloc ?_ _))) hb⟩
  replace Csd10 : Aside0 (Kd.C k42 w18 Asd10 (List.length sd10) sd10) := ⟨Kd.C_below (by (with_reducible repeat (first | exact Csd10.out | refine Kd.C_alloc ?_ _))) hb⟩
  replace Csd11 : Aside0 (Kd.C k42 w18 Asd11 (List.length sd11) sd11) := ⟨Kd.C_below (by (with_reducible repeat (first | exact Csd11.out | refine Kd.C_alloc ?_ _))) hb⟩
  replace Csd12 : Aside0 (Kd.C k42 w18 Asd12 (List.length sd12) sd12) := ⟨Kd.C_below (by (with_reducible repeat (first | exact Csd12.out | refine Kd.C_alloc ?_ _))) hb⟩
  replace Csd13 : Aside0 (Kd.C k42 w18 Asd13 (List.length sd13) sd13) := ⟨Kd.C_below (by (with_reducible repeat (first | exact Csd13.out | refine Kd.C_alloc ?_ _))) hb⟩
  replace Csd14 : Aside0 (Kd.C k42 w18 Asd14 (List.length sd14) sd14) := ⟨Kd.C_below (by (with_reducible repeat (first | exact Csd14.out | refine Kd.C_alloc ?_ _))) hb⟩
  replace Csd15 : Aside0 (Kd.C k42 w18 Asd15 (List.length sd15) sd15) := ⟨Kd.C_below (by (with_reducible repeat (first | exact Csd15.out | refine Kd.C_alloc ?_ _))) hb⟩
  have Csd16 := Aside0.mk hC; clear hC
  clear hb hb2
  go_wp2_with fail
  refine (document_Render.calls Asd16 csd16 sd16 none 0 [] ⟨#[97, 98, 99, 10, 32, 32, 100]⟩ 0 _ (by (with_reducible repeat (first | exact Csd16.out | refine Kd.C_alloc ?_ _))) hsd16 (Kd.C_nil _ _) (by decide) (by kernel_rfl)).mono ?_
  rintro e w19 ⟨rfl, hb⟩
  have hb2 : Below w.heap.size w _ := below_step (by repeat (first | (with_reducible first | exact Below.refl _ _ | exact HB.out | apply below_alloc) | exact Below.refl _ _ | exact HB.out)) hb
  clear HB; have HB := Aside0.mk hb2
  replace CsdL : Aside0 (Kd.C k42 w19 (some ⟨w.heap.size, 0, none⟩) (List.length sdL) sdL) := ⟨Kd.C_below (by (with_reducible repeat (first | exact CsdL.out | refine Kd.C_alloc ?_ _))) hb⟩
  replace Csd1 : Aside0 (Kd.C k42 w19 Asd1 (List.length sd1) sd1) := ⟨Kd.C_below (by (with_reducible repeat (first | exact Csd1.out | refine Kd.C_alloc ?_ _))) hb⟩
  replace Csd2 : Aside0 (Kd.C k42 w19 Asd2 (List.length sd2) sd2) := ⟨Kd.C_below (by (with_reducible repeat (first | exact Csd2.out | refine Kd.C_alloc ?_ _))) hb⟩
  replace Csd3 : Aside0 (Kd.C k42 w19 Asd3 (List.length sd3) sd3) := ⟨Kd.C_below (by (with_reducible repeat (first | exact Csd3.out | refine Kd.C_alloc ?_ _))) hb⟩
  replace Csd4 : Aside0 (Kd.C k42 w19 Asd4 (List.length sd4) sd4) := ⟨Kd.C_below (by (with_reducible repeat (first | exact Csd4.out | refine Kd.C_alloc ?_ _))) hb⟩
  replace Csd5 : Aside0 (Kd.C k42 w19 Asd5 (List.length sd5) sd5) := ⟨Kd.C_below (by (with_reducible repeat (first | exact Csd5.out | refine Kd.C_alloc ?_ _))) hb⟩
  replace Csd6 : Aside0 (Kd.C k42 w19 Asd6 (List.length sd6) sd6) := ⟨Kd.C_below (by (with_reducible repeat (first | exact Csd6.out | refine Kd.C_alloc ?_ _))) hb⟩
  replace Csd7 : Aside0 (Kd.C k42 w19 Asd7 (List.length sd7) sd7) := ⟨Kd.C_below (by (with_reducible repeat (first | exact Csd7.out | refine Kd.C_alloc ?_ _))) hb⟩
  replace Csd8 : Aside0 (Kd.C k42 w19 Asd8 (List.length sd8) sd8) := ⟨Kd.C_below (by (with_reducible repeat (first | exact Csd8.out | refine Kd.C_alloc ?_ _))) hb⟩
  replace Csd9 : Aside0 (Kd.C k42 w19 Asd9 (List.length sd9) sd9) := ⟨Kd.C_below (by (with_reducible repeat (first | exact Csd9.out | refine Kd.C_alloc ?_ _))) hb⟩
  replace CsdH : Aside0 (Kd.C k42 w19 (some ⟨w11.heap.size, 0, none⟩) (List.length sdH) sdH) := ⟨Kd.C_below (by (with_reducible repeat (first | exact CsdH.out | refine Kd.C_alloc ?_ _))) hb⟩
  replace Csd10 : Aside0 (Kd.C k42 w19 Asd10 (List.length sd10) sd10) := ⟨Kd.C_below (by (with_reducible repeat (first | exact Csd10.out | refine Kd.C_alloc ?_ _))) hb⟩
  replace Csd11 : Aside0 (Kd.C k42 w19 Asd11 (List.length sd11) sd11) := ⟨Kd.C_below (by (with_reducible repeat (first | exact Csd11.out | refine Kd.C_alloc ?_ _))) hb⟩
  replace Csd12 : Aside0 (Kd.C k42 w19 Asd12 (List.length sd12) sd12) := ⟨Kd.C_below (by (with_reducible repeat (first | exact Csd12.out | refine Kd.C_alloc ?_ _))) hb⟩
  replace Csd13 : Aside0 (Kd.C k42 w19 Asd13 (List.length sd13) sd13) := ⟨Kd.C_below (by (with_reducible repeat (first | exact Csd13.out | refine Kd.C_alloc ?_ _))) hb⟩
  replace Csd14 : Aside0 (Kd.C k42 w19 Asd14 (List.length sd14) sd14) := ⟨Kd.C_below (by (with_reducible repeat (first | exact Csd14.out | refine Kd.C_alloc ?_ _))) hb⟩
  replace Csd15 : Aside0 (Kd.C k42 w19 Asd15 (List.length sd15) sd15) := ⟨Kd.C_below (by (with_reducible repeat (first | exact Csd15.out | refine Kd.C_alloc ?_ _))) hb⟩
  replace Csd16 : Aside0 (Kd.C k42 w19 Asd16 (List.length sd16) sd16) := ⟨Kd.C_below (by (with_reducible repeat (first | exact Csd16.out | refine Kd.C_alloc ?_ _))) hb⟩
  clear hb hb2
  go_wp2_with fail
  refine (seq_step sd17 sdH sdH (some ⟨w11.heap.size, 0, none⟩) 1 (some ⟨w11.heap.size, 0, none⟩) 1 _ rfl (by decide) (by (with_reducible repeat (first | exact CsdH.out | refine Kd.C_alloc ?_ _))) (by decide) (by (with_reducible repeat (first | exact CsdH.out | refine Kd.C_alloc ?_ _))) (by decide)).mono ?_
  rintro e w20 ⟨Asd17, csd17, rfl, hsd17, hC, hb⟩
  have hb2 : Below w.heap.size w _ := below_step (by repeat (first | (with_reducible first | exact Below.refl _ _ | exact HB.out | apply below_alloc) | exact Below.refl _ _ | exact HB.out)) hb
  clear HB; have HB := Aside0.mk hb2
  replace CsdL : Aside0 (Kd.C k42 w20 (some ⟨w.heap.size, 0, none⟩) (List.length sdL) sdL) := ⟨Kd.C_below (by (with_reducible repeat (first | exact CsdL.out | refine Kd.C_alloc ?_ _))) hb⟩
  replace Csd1 : Aside0 (Kd.C k42 w20 Asd1 (List.length sd1) sd1) := ⟨Kd.C_below (by (with_reducible repeat (first | exact Csd1.out | refine Kd.C_alloc ?_ _))) hb⟩
  replace Csd2 : Aside0 (Kd.C k42 w20 Asd2 (List.length sd2) sd2) := ⟨Kd.C_below (by (with_reducible repeat (first | exact Csd2.out | refine Kd.C_alloc ?_ _))) hb⟩
  replace Csd3 : Aside0 (Kd.C k42 w20 Asd3 (List.length sd3) sd3) := ⟨Kd.C_below (by (with_reducible repeat (first | exact Csd3.out | refine Kd.C_alloc ?_ _))) hb⟩
  replace Csd4 : Aside0 (Kd.C k42 w20 Asd4 (List.length sd4) sd4) := ⟨Kd.C_below (by (with_reducible repeat (first | exact Csd4.out | refine Kd.C_alloc ?_ _))) hb⟩
  replace Csd5 : Aside0 (Kd.C k42 w20 Asd5 (List.length sd5) sd5) := ⟨Kd.C_below (by (with_reducible repeat (first | exact Csd5.out | refine Kd.C_alloc ?_ _))) hb⟩
  replace Csd6 : Aside0 (Kd.C k42 w20 Asd6 (List.length sd6) sd6) := ⟨Kd.C_below (by (with_reducible repeat (first | exact Csd6.out | refine Kd.C_alloc ?_ _))) hb⟩
  replace Csd7 : Aside0 (Kd.C k42 w20 Asd7 (List.length sd7) sd7) := ⟨Kd.C_below (by (with_reducible repeat (first | exact Csd7.out | refine Kd.C_alloc ?_ _))) hb⟩
  replace Csd8 : Aside0 (Kd.C k42 w20 Asd8 (List.length sd8) sd8) := ⟨Kd.C_below (by (with_reducible repeat (first | exact Csd8.out | refine Kd.C_alloc ?_ _))) hb⟩
  replace Csd9 : Aside0 (Kd.C k42 w20 Asd9 (List.length sd9) sd9) := ⟨Kd.C_below (by (with_reducible repeat (first | exact Csd9.out | refine Kd.C_alloc ?_ _))) hb⟩
  replace CsdH : Aside0 (Kd.C k42 w20 (some ⟨w11.heap.size, 0, none⟩) (List.length sdH) sdH) := ⟨Kd.C_below (by (with_reducible repeat (first | exact CsdH.out | refine Kd.C_alloc ?_ _))) hb⟩
  replace Csd10 : Aside0 (Kd.C k42 w20 Asd10 (List.length sd10) sd10) := ⟨Kd.C_below (by (with_reducible repeat (first | exact Csd10.out | refine Kd.C_alloc ?_ _))) hb⟩
  replace Csd11 : Aside0 (Kd.C k42 w20 Asd11 (List.length sd11) sd11) := ⟨Kd.C_below (by (with_reducible repeat (first | exact Csd11.out | refine Kd.C_alloc ?_ _))) hb⟩
  replace Csd12 : Aside0 (Kd.C k42 w20 Asd12 (List.length sd12) sd12) := ⟨Kd.C_below (by (with_reducible repeat (first | exact Csd12.out | refine Kd.C_alloc ?_ _))) hb⟩
  replace Csd13 : Aside0 (Kd.C k42 w20 Asd13 (List.length sd13) sd13) := ⟨Kd.C_below (by (with_reducible repeat (first | exact Csd13.out | refine Kd.C_alloc ?_ _))) hb⟩
  replace Csd14 : Aside0 (Kd.C k42 w20 Asd14 (List.length sd14) sd14) := ⟨Kd.C_below (by (with_reducible repeat (first | exact Csd14.out | refine Kd.C_alloc ?_ _))) hb⟩
  replace Csd15 : Aside0 (Kd.C k42 w20 Asd15 (List.length sd15) sd15) := ⟨Kd.C_below (by (with_reducible repeat (first | exact Csd15.out | refine Kd.C_alloc ?_ _))) hb⟩
  replace Csd16 : Aside0 (Kd.C k42 w20 Asd16 (List.length sd16) sd16) := ⟨Kd.C_below (by (with_reducible repeat (first | exact Csd16.out | refine Kd.C_alloc ?_ _))) hb⟩
  have Csd17 := Aside0.mk hC; clear hC
  clear hb hb2
  go_wp2_with fail
  refine (wrap_step sd18 sd17 4 4 Asd17 csd17 _ rfl (by decide) (by (with_reducible repeat (first | exact Csd17.out | refine Kd.C_alloc ?_ _))) hsd17).mono ?_
  rintro e w21 ⟨Asd18, csd18, rfl, hsd18, hC, hb⟩
  have hb2 : Below w.heap.size w _ := below_step (by repeat (first | (with_reducible first | exact Below.refl _ _ | exact HB.out | apply below_alloc) | exact Below.refl _ _ | exact HB.out)) hb
  clear HB; have HB := Aside0.mk hb2
  replace CsdL : Aside0 (Kd.C k42 w21 (some ⟨w.heap.size, 0, none⟩) (List.length sdL) sdL) := ⟨Kd.C_below (by (with_reducible repeat (first | exact CsdL.out | refine Kd.C_alloc ?_ _))) hb⟩
  replace Csd1 : Aside0 (Kd.C k42 w21 Asd1 (List.length sd1) sd1) := ⟨Kd.C_below (by (with_reducible repeat (first | exact Csd1.out | refine Kd.C_alloc ?_ _))) hb⟩
  replace Csd2 : Aside0 (Kd.C k42 w21 Asd2 (List.length sd2) sd2) := ⟨Kd.C_below (by (with_reducible repeat (first | exact Csd2.out | refine Kd.C_alloc ?_ _))) hb⟩
  replace Csd3 : Aside0 (Kd.C k42 w21 Asd3 (List.length sd3) sd3) := ⟨Kd.C_below (by (with_reducible repeat (first | exact Csd3.out | refine Kd.C_alloc ?_ _))) hb⟩
  replace Csd4 : Aside0 (Kd.C k42 w21 Asd4 (List.length sd4) sd4) := ⟨Kd.C_below (by (with_reducible repeat (first | exact Csd4.out | refine Kd.C_alloc ?_ _))) hb⟩
  replace Csd5 : Aside0 (Kd.C k42 w21 Asd5 (List.length sd5) sd5) := ⟨Kd.C_below (by (with_reducible repeat (first | exact Csd5.out | refine Kd.C_alloc ?_ _))) hb⟩
  replace Csd6 : Aside0 (Kd.C k42 w21 Asd6 (List.length sd6) sd6) := ⟨Kd.C_below (by (with_reducible repeat (first | exact Csd6.out | refine Kd.C_alloc ?_ _))) hb⟩
  replace Csd7 : Aside0 (Kd.C k42 w21 Asd7 (List.length sd7) sd7) := ⟨Kd.C_below (by (with_reducible repeat (first | exact Csd7.out | refine Kd.C_alloc ?_ _))) hb⟩
  replace Csd8 : Aside0 (Kd.C k42 w21 Asd8 (List.length sd8) sd8) := ⟨Kd.C_below (by (with_reducible repeat (first | exact Csd8.out | refine Kd.C_alloc ?_ _))) hb⟩
  replace Csd9 : Aside0 (Kd.C k42 w21 Asd9 (List.length sd9) sd9) := ⟨Kd.C_below (by (with_reducible repeat (first | exact Csd9.out | refine Kd.C_alloc ?_ _))) hb⟩
  replace CsdH : Aside0 (Kd.C k42 w21 (some ⟨w11.heap.size, 0, none⟩) (List.length sdH) sdH) := ⟨Kd.C_below (by (with_reducible repeat (first | exact CsdH.out | refine Kd.C_alloc ?_ _))) hb⟩
  replace Csd10 : Aside0 (Kd.C k42 w21 Asd10 (List.length sd10) sd10) := ⟨Kd.C_below (by (with_reducible repeat (first | exact Csd10.out | refine Kd.C_alloc ?_ _))) hb⟩
  replace Csd11 : Aside0 (Kd.C k42 w21 Asd11 (List.length sd11) sd11) := ⟨Kd.C_below (by (with_reducible repeat (first | exact Csd11.out | refine Kd.C_alloc ?_ _))) hb⟩
  replace Csd12 : Aside0 (Kd.C k42 w21 Asd12 (List.length sd12) sd12) := ⟨Kd.C_below (by (with_reducible repeat (first | exact Csd12.out | refine Kd.C_alloc ?_ _))) hb⟩
  replace Csd13 : Aside0 (Kd.C k42 w21 Asd13 (List.length sd13) sd13) := ⟨Kd.C_below (by (with_reducible repeat (first | exact Csd13.out | refine Kd.C_alloc ?_ _))) hb⟩
  replace Csd14 : Aside0 (Kd.C k42 w21 Asd14 (List.length sd14) sd14) := ⟨Kd.C_below (by (with_reducible repeat (first | exact Csd14.out | refine Kd.C_alloc ?_ _))) hb⟩
  replace Csd15 : Aside0 (Kd.C k42 w21 Asd15 (List.length sd15) sd15) := ⟨Kd.C_below (by (with_reducible repeat (first | exact Csd15.out | refine Kd.C_alloc ?_ _))) hb⟩
  replace Csd16 : Aside0 (Kd.C k42 w21 Asd16 (List.length sd16) sd16) := ⟨Kd.C_below (by (with_reducible repeat (first | exact Csd16.out | refine Kd.C_alloc ?_ _))) hb⟩
  replace Csd17 : Aside0 (Kd.C k42 w21 Asd17 (List.length sd17) sd17) := ⟨Kd.C_below (by (with_reducible repeat (first | exact Csd17.out | refine Kd.C_alloc ?_ _))) hb⟩
  have Csd18 := Aside0.mk hC; clear hC
  clear hb hb2
  go_wp2_with fail
  refine (text_step sd19 ⟨#[120]⟩ _ rfl).mono ?_
  rintro e w22 ⟨Asd19, csd19, rfl, hsd19, hC, hb⟩
  have hb2 : Below w.heap.size w _ := below_step (by repeat (first | (with_reducible first | exact Below.refl _ _ | exact HB.out | apply below_alloc) | exact Below.refl _ _ | exact HB.out)) hb
  clear HB; have HB := Aside0.mk hb2
  replace CsdL : Aside0 (Kd.C k42 w22 (some ⟨w.heap.size, 0, none⟩) (List.length sdL) sdL) := ⟨Kd.C_below (by (with_reducible repeat (first | exact CsdL.out | refine Kd.C_alloc ?_ _))) hb⟩
  replace Csd1 : Aside0 (Kd.C k42 w22 Asd1 (List.length sd1) sd1) := ⟨Kd.C_below (by (with_reducible repeat (first | exact Csd1.out | refine Kd.C_alloc ?_ _))) hb⟩
  replace Csd2 : Aside0 (Kd.C k42 w22 Asd2 (List.length sd2) sd2) := ⟨Kd.C_below (by (with_reducible repeat (first | exact Csd2.out | refine Kd.C_alloc ?_ _))) hb⟩
  replace Csd3 : Aside0 (Kd.C k42 w22 Asd3 (List.length sd3) sd3) := ⟨Kd.C_below (by (with_reducible repeat (first | exact Csd3.out | refine Kd.C_alloc ?_ _))) hb⟩
  replace Csd4 : Aside0 (Kd.C k42 w22 Asd4 (List.length sd4) sd4) := ⟨Kd.C_below (by (with_reducible repeat (first | exact Csd4.out | refine Kd.C_alloc ?_ _))) hb⟩
  replace Csd5 : Aside0 (Kd.C k42 w22 Asd5 (List.length sd5) sd5) := ⟨Kd.C_below (by (with_reducible repeat (first | exact Csd5.out | refine Kd.C_alloc ?_ _))) hb⟩
  replace Csd6 : Aside0 (Kd.C k42 w22 Asd6 (List.length sd6) sd6) := ⟨Kd.C_below (by (with_reducible repeat (first | exact Csd6.out | refine Kd.C_alloc ?_ _))) hb⟩
  replace Csd7 : Aside0 (Kd.C k42 w22 Asd7 (List.length sd7) sd7) := ⟨Kd.C_below (by (with_reducible repeat (first | exact Csd7.out | refine Kd.C_alloc ?_ _))) hb⟩
  replace Csd8 : Aside0 (Kd.C k42 w22 Asd8 (List.length sd8) sd8) := ⟨Kd.C_below (by (with_reducible repeat (first | exact Csd8.out | refine Kd.C_alloc ?_ _))) hb⟩
  replace Csd9 : Aside0 (Kd.C k42 w22 Asd9 (List.length sd9) sd9) := ⟨Kd.C_below (by (with_reducible repeat (first | exact Csd9.out | refine Kd.C_alloc ?_ _))) hb⟩
  replace CsdH : Aside0 (Kd.C k42 w22 (some ⟨w11.heap.size, 0, none⟩) (List.length sdH) sdH) := ⟨Kd.C_below (by (with_reducible repeat (first | exact CsdH.out | refine Kd.C_alloc ?_ _))) hb⟩
  replace Csd10 : Aside0 (Kd.C k42 w22 Asd10 (List.length sd10) sd10) := ⟨Kd.C_below (by (with_reducible repeat (first | exact Csd10.out | refine Kd.C_alloc ?_ _))) hb⟩
  replace Csd11 : Aside0 (Kd.C k42 w22 Asd11 (List.length sd11) sd11) := ⟨Kd.C_below (by (with_reducible repeat (first | exact Csd11.out | refine Kd.C_alloc ?_ _))) hb⟩
  replace Csd12 : Aside0 (Kd.C k42 w22 Asd12 (List.length sd12) sd12) := ⟨Kd.C_below (by (with_reducible repeat (first | exact Csd12.out | refine Kd.C_alloc ?_ _))) hb⟩
  replace Csd13 : Aside0 (Kd.C k42 w22 Asd13 (List.length sd13) sd13) := ⟨Kd.C_below (by (with_reducible repeat (first | exact Csd13.out | refine Kd.C_alloc ?_ _))) hb⟩
  replace Csd14 : Aside0 (Kd.C k42 w22 Asd14 (List.length sd14) sd14) := ⟨Kd.C_below (by (with_reducible repeat (first | exact Csd14.out | refine Kd.C_alloc ?_ _))) hb⟩
  replace Csd15 : Aside0 (Kd.C k42 w22 Asd15 (List.length sd15) sd15) := ⟨Kd.C_below (by (with_reducible repeat (first | exact Csd15.out | refine Kd.C_alloc ?_ _))) hb⟩
  replace Csd16 : Aside0 (Kd.C k42 w22 Asd16 (List.length sd16) sd16) := ⟨Kd.C_below (by (with_reducible repeat (first | exact Csd16.out | refine Kd.C_alloc ?_ _))) hb⟩
  replace Csd17 : Aside0 (Kd.C k42 w22 Asd17 (List.length sd17) sd17) := ⟨Kd.C_below (by (with_reducible repeat (first | exact Csd17.out | refine Kd.C_alloc ?_ _))) hb⟩
  replace Csd18 : Aside0 (Kd.C k42 w22 Asd18 (List.length sd18) sd18) := ⟨Kd.C_below (by (with_reducible repeat (first | exact Csd18.out | refine Kd.C_alloc ?_ _))) hb⟩
  have Csd19 := Aside0.mk hC; clear hC
  clear hb hb2
  go_wp2_with fail
  refine (seq_step sd20 sd18 sd19 Asd18 csd18 Asd19 csd19 _ rfl (by decide) (by (with_reducible repeat (first | exact Csd18.out | refine Kd.C_alloc ?_ _))) hsd18 (by (with_reducible repeat (first | exact Csd19.out | refine Kd.C_alloc ?_ _))) hsd19).mono ?_
  rintro e w23 ⟨Asd20, csd20, rfl, hsd20, hC, hb⟩
  have hb2 : Below w.heap.size w _ := below_step (by repeat (first | (with_reducible first | exact Below.refl _ _ | exact HB.out | apply below_alloc) | exact Below.refl _ _ | exact HB.out)) hb
  clear HB; have HB := Aside0.mk hb2
  replace CsdL : Aside0 (Kd.C k42 w23 (some ⟨w.heap.size, 0, none⟩) (List.length sdL) sdL) := ⟨Kd.C_below (by (with_reducible repeat (first | exact CsdL.out | refine Kd.C_alloc ?_ _))) hb⟩
  replace Csd1 : Aside0 (Kd.C k42 w23 Asd1 (List.length sd1) sd1) := ⟨Kd.C_below (by (with_reducible repeat (first | exact Csd1.out | refine Kd.C_alloc ?_ _))) hb⟩
  replace Csd2 : Aside0 (Kd.C k42 w23 Asd2 (List.length sd2) sd2) := ⟨Kd.C_below (by (with_reducible repeat (first | exact Csd2.out | refine Kd.C_alloc ?_ _))) hb⟩
  replace Csd3 : Aside0 (Kd.C k42 w23 Asd3 (List.length sd3) sd3) := ⟨Kd.C_below (by (with_reducible repeat (first | exact Csd3.out | refine Kd.C_alloc ?_ _))) hb⟩
  replace Csd4 : Aside0 (Kd.C k42 w23 Asd4 (List.length sd4) sd4) := ⟨Kd.C_below (by (with_reducible repeat (first | exact Csd4.out | refine Kd.C_alloc ?_ _))) hb⟩
  replace Csd5 : Aside0 (Kd.C k42 w23 Asd5 (List.length sd5) sd5) := ⟨Kd.C_below (by (with_reducible repeat (first | exact Csd5.out | refine Kd.C_alloc ?_ _))) hb⟩
  replace Csd6 : Aside0 (Kd.C k42 w23 Asd6 (List.length sd6) sd6) := ⟨Kd.C_below (by (with_reducible repeat (first | exact Csd6.out | refine Kd.C_alloc ?_ _))) hb⟩
  replace Csd7 : Aside0 (Kd.C k42 w23 Asd7 (List.length sd7) sd7) := ⟨Kd.C_below (by (with_reducible repeat (first | exact Csd7.out | refine Kd.C_alloc ?_ _))) hb⟩
  replace Csd8 : Aside0 (Kd.C k42 w23 Asd8 (List.length sd8) sd8) := ⟨Kd.C_below (by (with_reducible repeat (first | exact Csd8.out | refine Kd.C_alloc ?_ _))) hb⟩
  replace Csd9 : Aside0 (Kd.C k42 w23 Asd9 (List.length sd9) sd9) := ⟨Kd.C_below (by (with_reducible repeat (first | exact Csd9.out | refine Kd.C_alloc ?_ _))) hb⟩
  replace CsdH : Aside0 (Kd.C k42 w23 (some ⟨w11.heap.size, 0, none⟩) (List.length sdH) sdH) := ⟨Kd.C_below (by (with_reducible repeat (first | exact CsdH.out | refine Kd.C_alloc ?_ _))) hb⟩
  replace Csd10 : Aside0 (Kd.C k42 w23 Asd10 (List.length sd10) sd10) := ⟨Kd.C_below (by (with_reducible repeat (first | exact Csd10.out | refine Kd.C_alloc ?_ _))) hb⟩
  replace Csd11 : Aside0 (Kd.C k42 w23 Asd11 (List.length sd11) sd11) := ⟨Kd.C_below (by (with_reducible repeat (first | exact Csd11.out | refine Kd.C_alloc ?_ _))) hb⟩
  replace Csd12 : Aside0 (Kd.C k42 w23 Asd12 (List.length sd12) sd12) := ⟨Kd.C_below (by (with_reducible repeat (first | exact Csd12.out | refine Kd.C_alloc ?_ _))) hb⟩
  replace Csd13 : Aside0 (Kd.C k42 w23 Asd13 (List.length sd13) sd13) := ⟨Kd.C_below (by (with_reducible repeat (first | exact Csd13.out | refine Kd.C_alloc ?_ _))) hb⟩
  replace Csd14 : Aside0 (Kd.C k42 w23 Asd14 (List.length sd14) sd14) := ⟨Kd.C_below (by (with_reducible repeat (first | exact Csd14.out | refine Kd.C_alloc ?_ _))) hb⟩
  replace Csd15 : Aside0 (Kd.C k42 w23 Asd15 (List.length sd15) sd15) := ⟨Kd.C_below (by (with_reducible repeat (first | exact Csd15.out | refine Kd.C_alloc ?_ _))) hb⟩
  replace Csd16 : Aside0 (Kd.C k42 w23 Asd16 (List.length sd16) sd16) := ⟨Kd.C_below (by (with_reducible repeat (first | exact Csd16.out | refine Kd.C_alloc ?_ _))) hb⟩
  replace Csd17 : Aside0 (Kd.C k42 w23 Asd17 (List.length sd17) sd17) := ⟨Kd.C_below (by (with_reducible repeat (first | exact Csd17.out | refine Kd.C_alloc ?_ _))) hb⟩
  replace Csd18 : Aside0 (Kd.C k42 w23 Asd18 (List.length sd18) sd18) := ⟨Kd.C_below (by (with_reducible repeat (first | exact Csd18.out | refine Kd.C_alloc ?_ _))) hb⟩
  replace Csd19 : Aside0 (Kd.C k42 w23 Asd19 (List.length sd19) sd19) := ⟨Kd.C_below (by (with_reducible repeat (first | exact Csd19.out | refine Kd.C_alloc ?_ _))) hb⟩
  have Csd20 := Aside0.mk hC; clear hC
  clear hb hb2
  go_wp2_with fail
  refine (document_Render.calls Asd20 csd20 sd20 none 0 [] ⟨#[10, 10, 32, 32, 32, 32, 120]⟩ 0 _ (by (with_reducible repeat (first | exact Csd20.out | refine Kd.C_alloc ?_ _))) hsd20 (Kd.C_nil _ _) (by decide) (by kernel_rfl)).mono ?_
  rintro e w24 ⟨rfl, hb⟩
  have hb2 : Below w.heap.size w _ := below_step (by repeat (first | (with_reducible first | exact Below.refl _ _ | exact HB.out | apply below_alloc) | exact Below.refl _ _ | exact HB.out)) hb
  clear HB; have HB := Aside0.mk hb2
  replace CsdL : Aside0 (Kd.C k42 w24 (some ⟨w.heap.size, 0, none⟩) (List.length sdL) sdL) := ⟨Kd.C_below (by (with_reducible repeat (first | exact CsdL.out | refine Kd.C_alloc ?_ _))) hb⟩
  replace Csd1 : Aside0 (Kd.C k42 w24 Asd1 (List.length sd1) sd1) := ⟨Kd.C_below (by (with_reducible repeat (first | exact Csd1.out | refine Kd.C_alloc ?_ _))) hb⟩
  replace Csd2 : Aside0 (Kd.C k42 w24 Asd2 (List.length sd2) sd2) := ⟨Kd.C_below (by (with_reducible repeat (first | exact Csd2.out | refine Kd.C_alloc ?_ _))) hb⟩
  replace Csd3 : Aside0 (Kd.C k42 w24 Asd3 (List.length sd3) sd3) := ⟨Kd.C_below (by (with_reducible repeat (first | exact Csd3.out | refine Kd.C_alloc ?_ _))) hb⟩
  replace Csd4 : Aside0 (Kd.C k42 w24 Asd4 (List.length sd4) sd4) := ⟨Kd.C_below (by (with_reducible repeat (first | exact Csd4.out | refine Kd.C_alloc ?_ _))) hb⟩
  replace Csd5 : Aside0 (Kd.C k42 w24 Asd5 (List.length sd5) sd5) := ⟨Kd.C_below (by (with_reducible repeat (first | exact Csd5.out | refine Kd.C_alloc ?_ _))) hb⟩
  replace Csd6 : Aside0 (Kd.C k42 w24 Asd6 (List.length sd6) sd6) := ⟨Kd.C_below (by (with_reducible repeat (first | exact Csd6.out | refine Kd.C_alloc ?_ _))) hb⟩
  replace Csd7 : Aside0 (Kd.C k42 w24 Asd7 (List.length sd7) sd7) := ⟨Kd.C_below (by (with_reducible repeat (first | exact Csd7.out | refine Kd.C_alloc ?_ _))) hb⟩
  replace Csd8 : Aside0 (Kd.C k42 w24 Asd8 (List.length sd8) sd8) := ⟨Kd.C_below (by (with_reducible repeat (first | exact Csd8.out | refine Kd.C_alloc ?_ _))) hb⟩
  replace Csd9 : Aside0 (Kd.C k42 w24 Asd9 (List.length sd9) sd9) := ⟨Kd.C_below (by (with_reducible repeat (first | exact Csd9.out | refine Kd.C_alloc ?_ _))) hb⟩
  replace CsdH : Aside0 (Kd.C k42 w24 (some ⟨w11.heap.size, 0, none⟩) (List.length sdH) sdH) := ⟨Kd.C_below (by (with_reducible repeat (first | exact CsdH.out | refine Kd.C_alloc ?_ _))) hb⟩
  replace Csd10 : Aside0 (Kd.C k42 w24 Asd10 (List.length sd10) sd10) := ⟨Kd.C_below (by (with_reducible repeat (first | exact Csd10.out | refine Kd.C_alloc ?_ _))) hb⟩
  replace Csd11 : Aside0 (Kd.C k42 w24 Asd11 (List.length sd11) sd11) := ⟨Kd.C_below (by (with_reducible repeat (first | exact Csd11.out | refine Kd.C_alloc ?_ _))) hb⟩
  replace Csd12 : Aside0 (Kd.C k42 w24 Asd12 (List.length sd12) sd12) := ⟨Kd.C_below (by (with_reducible repeat (first | exact Csd12.out | refine Kd.C_alloc ?_ _))) hb⟩
  replace Csd13 : Aside0 (Kd.C k42 w24 Asd13 (List.length sd13) sd13) := ⟨Kd.C_below (by (with_reducible repeat (first | exact Csd13.out | refine Kd.C_alloc ?_ _))) hb⟩
  replace Csd14 : Aside0 (Kd.C k42 w24 Asd14 (List.length sd14) sd14) := ⟨Kd.C_below (by (with_reducible repeat (first | exact Csd14.out | refine Kd.C_alloc ?_ _))) hb⟩
  replace Csd15 : Aside0 (Kd.C k42 w24 Asd15 (List.length sd15) sd15) := ⟨Kd.C_below (by (with_reducible repeat (first | exact Csd15.out | refine Kd.C_alloc ?_ _))) hb⟩
  replace Csd16 : Aside0 (Kd.C k42 w24 Asd16 (List.length sd16) sd16) := ⟨Kd.C_below (by (with_reducible repeat (first | exact Csd16.out | refine Kd.C_alloc ?_ _))) hb⟩
  replace Csd17 : Aside0 (Kd.C k42 w24 Asd17 (List.length sd17) sd17) := ⟨Kd.C_below (by (with_reducible repeat (first | exact Csd17.out | refine Kd.C_alloc ?_ _))) hb⟩
  replace Csd18 : Aside0 (Kd.C k42 w24 Asd18 (List.length sd18) sd18) := ⟨Kd.C_below (by (with_reducible repeat (first | exact Csd18.out | refine Kd.C_alloc ?_ _))) hb⟩
  replace Csd19 : Aside0 (Kd.C k42 w24 Asd19 (List.length sd19) sd19) := ⟨Kd.C_below (by (with_reducible repeat (first | exact Csd19.out | refine Kd.C_alloc ?_ _))) hb⟩
  replace Csd20 : Aside0 (Kd.C k42 w24 Asd20 (List.length sd20) sd20) := ⟨Kd.C_below (by (with_reducible repeat (first | exact Csd20.out | refine Kd.C_alloc ?_ _))) hb⟩
  clear hb hb2
  go_wp2_with fail
  refine (wrap_step sd21 sdH 6 0 (some ⟨w11.heap.size, 0, none⟩) 1 _ rfl (by decide) (by (with_reducible repeat (first | exact CsdH.out | refine Kd.C_alloc ?_ _))) (by decide)).mono ?_
  rintro e w25 ⟨Asd21, csd21, rfl, hsd21, hC, hb⟩
  have hb2 : Below w.heap.size w _ := below_step (by repeat (first | (with_reducible first | exact Below.refl _ _ | exact HB.out | apply below_alloc) | exact Below.refl _ _ | exact HB.out)) hb
  clear HB; have HB := Aside0.mk hb2
  replace CsdL : Aside0 (Kd.C k42 w25 (some ⟨w.heap.size, 0, none⟩) (List.length sdL) sdL) := ⟨Kd.C_below (by (with_reducible repeat (first | exact CsdL.out | refine Kd.C_alloc ?_ _))) hb⟩
  replace Csd1 : Aside0 (Kd.C k42 w25 Asd1 (List.length sd1) sd1) := ⟨Kd.C_below (by (with_reducible repeat (first | exact Csd1.out | refine Kd.C_alloc ?_ _))) hb⟩
  replace Csd2 : Aside0 (Kd.C k42 w25 Asd2 (List.length sd2) sd2) := ⟨Kd.C_below (by (with_reducible repeat (first | exact Csd2.out | refine Kd.C_alloc ?_ _))) hb⟩
  replace Csd3 : Aside0 (Kd.C k42 w25 Asd3 (List.length sd3) sd3) := ⟨Kd.C_below (by (with_reducible repeat (first | exact Csd3.out | refine Kd.C_alloc ?_ _))) hb⟩
  replace Csd4 : Aside0 (Kd.C k42 w25 Asd4 (List.length sd4) sd4) := ⟨Kd.C_below (by (with_reducible repeat (first | exact Csd4.out | refine Kd.C_alloc ?_ _))) hb⟩
  replace Csd5 : Aside0 (Kd.C k42 w25 Asd5 (List.length sd5) sd5) := ⟨Kd.C_below (by (with_reducible repeat (first | exact Csd5.out | refine Kd.C_alloc ?_ _))) hb⟩
  replace Csd6 : Aside0 (Kd.C k42 w25 Asd6 (List.length sd6) sd6) := ⟨Kd.C_below (by (with_reducible repeat (first | exact Csd6.out | refine Kd.C_alloc ?_ _))) hb⟩
  replace Csd7 : Aside0 (Kd.C k42 w25 Asd7 (List.length sd7) sd7) := ⟨Kd.C_below (by (with_reducible repeat (first | exact Csd7.out | refine Kd.C_alloc ?_ _))) hb⟩
  replace Csd8 : Aside0 (Kd.C k42 w25 Asd8 (List.length sd8) sd8) := ⟨Kd.C_below (by (with_reducible repeat (first | exact Csd8.out | refine Kd.C_alloc ?_ _))) hb⟩
  replace Csd9 : Aside0 (Kd.C k42 w25 Asd9 (List.length sd9) sd9) := ⟨Kd.C_below (by (with_reducible repeat (first | exact Csd9.out | refine Kd.C_alloc ?_ _))) hb⟩
  replace CsdH : Aside0 (Kd.C k42 w25 (some ⟨w11.heap.size, 0, none⟩) (List.length sdH) sdH) := ⟨Kd.C_below (by (with_reducible repeat (first | exact CsdH.out | refine Kd.C_alloc ?_ _))) hb⟩
  replace Csd10 : Aside0 (Kd.C k42 w25 Asd10 (List.length sd10) sd10) := ⟨Kd.C_below (by (with_reducible repeat (first | exact Csd10.out | refine Kd.C_alloc ?_ _))) hb⟩
  replace Csd11 : Aside0 (Kd.C k42 w25 Asd11 (List.length sd11) sd11) := ⟨Kd.C_below (by (with_reducible repeat (first | exact Csd11.out | refine Kd.C_alloc ?_ _))) hb⟩
  replace Csd12 : Aside0 (Kd.C k42 w25 Asd12 (List.length sd12) sd12) := ⟨Kd.C_below (by (with_reducible repeat (first | exact Csd12.out | refine Kd.C_alloc ?_ _))) hb⟩
  replace Csd13 : Aside0 (Kd.C k42 w25 Asd13 (List.length sd13) sd13) := ⟨Kd.C_below (by (with_reducible repeat (first | exact Csd13.out | refine Kd.C_alloc ?_ _))) hb⟩
  replace Csd14 : Aside0 (Kd.C k42 w25 Asd14 (List.length sd14) sd14) := ⟨Kd.C_below (by (with_reducible repeat (first | exact Csd14.out | refine Kd.C_alloc ?_ _))) hb⟩
  replace Csd15 : Aside0 (Kd.C k42 w25 Asd15 (List.length sd15) sd15) := ⟨Kd.C_below (by (with_reducible repeat (first | exact Csd15.out | refine Kd.C_alloc ?_ _))) hb⟩
  replace Csd16 : Aside0 (Kd.C k42 w25 Asd16 (List.length sd16) sd16) := ⟨Kd.C_below (by (with_reducible repeat (first | exact Csd16.out | refine Kd.C_alloc ?_ _))) hb⟩
  replace Csd17 : Aside0 (Kd.C k42 w25 Asd17 (List.length sd17) sd17) := ⟨Kd.C_below (by (with_reducible repeat (first | exact Csd17.out | refine Kd.C_alloc ?_ _))) hb⟩
  replace Csd18 : Aside0 (Kd.C k42 w25 Asd18 (List.length sd18) sd18) := ⟨Kd.C_below (by (with_reducible repeat (first | exact Csd18.out | refine Kd.C_alloc ?_ _))) hb⟩
  replace Csd19 : Aside0 (Kd.C k42 w25 Asd19 (List.length sd19) sd19) := ⟨Kd.C_below (by (with_reducible repeat (first | exact Csd19.out | refine Kd.C_alloc ?_ _))) hb⟩
  replace Csd20 : Aside0 (Kd.C k42 w25 Asd20 (List.length sd20) sd20) := ⟨Kd.C_below (by (with_reducible repeat (first | exact Csd20.out | refine Kd.C_alloc ?_ _))) hb⟩
  have Csd21 := Aside0.mk hC; clear hC
  clear hb hb2
  go_wp2_with fail
  refine (document_Render.calls Asd21 csd21 sd21 (some ⟨w25.heap.size, 0, none⟩) 1 [true] ⟨#[]⟩ 1 _ (by (with_reducible repeat (first | exact Csd21.out | refine Kd.C_alloc ?_ _))) hsd21 (litb _ true) (by decide) (by kernel_rfl)).mono ?_
  rintro e w26 ⟨rfl, hb⟩
  have hb2 : Below w.heap.size w _ := below_step (by repeat (first | (with_reducible first | exact Below.refl _ _ | exact HB.out | apply below_alloc) | exact Below.refl _ _ | exact HB.out)) hb
  clear HB; have HB := Aside0.mk hb2
  replace CsdL : Aside0 (Kd.C k42 w26 (some ⟨w.heap.size, 0, none⟩) (List.length sdL) sdL) := ⟨Kd.C_below (by (with_reducible repeat (first | exact CsdL.out | refine Kd.C_alloc ?_ _))) hb⟩
  replace Csd1 : Aside0 (Kd.C k42 w26 Asd1 (List.length sd1) sd1) := ⟨Kd.C_below (by (with_reducible repeat (first | exact Csd1.out | refine Kd.C_alloc ?_ _))) hb⟩
  replace Csd2 : Aside0 (Kd.C k42 w26 Asd2 (List.length sd2) sd2) := ⟨Kd.C_below (by (with_reducible repeat (first | exact Csd2.out | refine Kd.C_alloc ?_ _))) hb⟩
  replace Csd3 : Aside0 (Kd.C k42 w26 Asd3 (List.length sd3) sd3) := ⟨Kd.C_below (by (with_reducible repeat (first | exact Csd3.out | refine Kd.C_alloc ?_ _))) hb⟩
  replace Csd4 : Aside0 (Kd.C k42 w26 Asd4 (List.length sd4) sd4) := ⟨Kd.C_below (by (with_reducible repeat (first | exact Csd4.out | refine Kd.C_alloc ?_ _))) hb⟩
  replace Csd5 : Aside0 (Kd.C k42 w26 Asd5 (List.length sd5) sd5) := ⟨Kd.C_below (by (with_reducible repeat (first | exact Csd5.out | refine Kd.C_alloc ?_ _))) hb⟩
  replace Csd6 : Aside0 (Kd.C k42 w26 Asd6 (List.length sd6) sd6) := ⟨Kd.C_below (by (with_reducible repeat (first | exact Csd6.out | refine Kd.C_alloc ?_ _))) hb⟩
  replace Csd7 : Aside0 (Kd.C k42 w26 Asd7 (List.length sd7) sd7) := ⟨Kd.C_below (by (with_reducible repeat (first | exact Csd7.out | refine Kd.C_alloc ?_ _))) hb⟩
  replace Csd8 : Aside0 (Kd.C k42 w26 Asd8 (List.length sd8) sd8) := ⟨Kd.C_below (by (with_reducible repeat (first | exact Csd8.out | refine Kd.C_alloc ?_ _))) hb⟩
  replace Csd9 : Aside0 (Kd.C k42 w26 Asd9 (List.length sd9) sd9) := ⟨Kd.C_below (by (with_reducible repeat (first | exact Csd9.out | refine Kd.C_alloc ?_ _))) hb⟩
  replace CsdH : Aside0 (Kd.C k42 w26 (some ⟨w11.heap.size, 0, none⟩) (List.length sdH) sdH) := ⟨Kd.C_below (by (with_reducible repeat (first | exact CsdH.out | refine Kd.C_alloc ?_ _))) hb⟩
  replace Csd10 : Aside0 (Kd.C k42 w26 Asd10 (List.length sd10) sd10) := ⟨Kd.C_below (by (with_reducible repeat (first | exact Csd10.out | refine Kd.C_alloc ?_ _))) hb⟩
  replace Csd11 : Aside0 (Kd.C k42 w26 Asd11 (List.length sd11) sd11) := ⟨Kd.C_below (by (with_reducible repeat (first | exact Csd11.out | refine Kd.C_alloc ?_ _))) hb⟩
  replace Csd12 : Aside0 (Kd.C k42 w26 Asd12 (List.length sd12) sd12) := ⟨Kd.C_below (by (with_reducible repeat (first | exact Csd12.out | refine Kd.C_alloc ?_ _))) hb⟩
  replace Csd13 : Aside0 (Kd.C k42 w26 Asd13 (List.length sd13) sd13) := ⟨Kd.C_below (by (with_reducible repeat (first | exact Csd13.out | refine Kd.C_alloc ?_ _))) hb⟩
  replace Csd14 : Aside0 (Kd.C k42 w26 Asd14 (List.length sd14) sd14) := ⟨Kd.C_below (by (with_reducible repeat (first | exact Csd14.out | refine Kd.C_alloc ?_ _))) hb⟩
  replace Csd15 : Aside0 (Kd.C k42 w26 Asd15 (List.length sd15) sd15) := ⟨Kd.C_below (by (with_reducible repeat (first | exact Csd15.out | refine Kd.C_alloc ?_ _))) hb⟩
  replace Csd16 : Aside0 (Kd.C k42 w26 Asd16 (List.length sd16) sd16) := ⟨Kd.C_below (by (with_reducible repeat (first | exact Csd16.out | refine Kd.C_alloc ?_ _))) hb⟩
  replace Csd17 : Aside0 (Kd.C k42 w26 Asd17 (List.length sd17) sd17) := ⟨Kd.C_below (by (with_reducible repeat (first | exact Csd17.out | refine Kd.C_alloc ?_ _))) hb⟩
  replace Csd18 : Aside0 (Kd.C k42 w26 Asd18 (List.length sd18) sd18) := ⟨Kd.C_below (by (with_reducible repeat (first | exact Csd18.out | refine Kd.C_alloc ?_ _))) hb⟩
  replace Csd19 : Aside0 (Kd.C k42 w26 Asd19 (List.length sd19) sd19) := ⟨Kd.C_below (by (with_reducible repeat (first | exact Csd19.out | refine Kd.C_alloc ?_ _))) hb⟩
  replace Csd20 : Aside0 (Kd.C k42 w26 Asd20 (List.length sd20) sd20) := ⟨Kd.C_below (by (with_reducible repeat (first | exact Csd20.out | refine Kd.C_alloc ?_ _))) hb⟩
  replace Csd21 : Aside0 (Kd.C k42 w26 Asd21 (List.length sd21) sd21) := ⟨Kd.C_below (by (with_reducible repeat (first | exact Csd21.out | refine Kd.C_alloc ?_ _))) hb⟩
  clear hb hb2
  go_wp2_with (go_at_call 27; refine (document_Cost.calls ⟨#[102, 40, 10, 32, 32, 97, 10, 41]⟩ 2 1 2 _ (by kernel_rfl)).mono ?_; rintro e w99 ⟨rfl, hb⟩; have hb2 : Below w.heap.size w _ := below_step (by repeat (first | (with_reducible first | exact Below.refl _ _ | exact HB.out | apply below_alloc) | exact Below.refl _ _ | exact HB.out)) hb; clear HB; have HB := Aside0.mk hb2; clear hb hb2)
  go_ret
  exact ⟨rfl, HB.out⟩

theorem koinelaw25_sanity.calls (r : Bool) (w : World) (h : koinelaw25_sanity.f = some r) : Calls Try.prog 20 #[] w fun e w' => e = .returned (.bool r) ∧ Below w.heap.size w w' := by
  obtain rfl := Option.some.inj h
  exact sanity25_calls w

end Go.Proofs.Ythmmdmnbcecooaa.A

/-! Q1 -/
namespace Go.Proofs.Ythmmdmnbcecooaa.A
open Go.RowKit Go.Proofs.YthmmdmnbcecooaaW.PrintWords Go.Proofs.YthmmdmnbcecooaaW.PrintLast Go.Proofs.YthmmdmnbcecooaaW.PrintMore
set_option linter.unusedVariables false
set_option linter.unusedSimpArgs false

def refs (l : List S42) : List Nat := l.flatMap opsAt
def nodesOk (l : List S42) : Prop := ∀ i, i < l.length → NodeOk i (l.getD i z42)

theorem fieldsB_of {x : S42} {i : Nat} (h : NodeOk i x) : fieldsB x = true := by
  unfold fieldsB
  simp only [Bool.not_eq_true', Bool.or_eq_false_iff, Bool.and_eq_false_iff, Bool.not_eq_false', decide_eq_false_iff_not, bne_eq_false_iff_eq]
  refine ⟨⟨⟨⟨?_, by have := h.nl; omega⟩, ?_⟩, by have := h.n; omega⟩, by have := h.n; omega⟩
  · by_cases ht : x.f0 = 0 ∨ x.f0 = 1
    · right; rcases ht with ht | ht <;> simp [ht]
    · left; exact h.t0 ht
  · by_cases h4 : x.f0 = 4
    · right; exact h4
    · left; exact h.n0 h4

/-- One node that is in order. -/
theorem nodeStep_use {x : S42} {i : Nat} {us : List Bool} (h : NodeOk i x) (hl : i ≤ us.length) :
    ((∀ j ∈ opsAt x, us.getD j false = false) ∧ (opsAt x).Nodup → nodeStep x i us = some ((opsAt x).foldl (fun u j => u.set j true) us)) ∧
    (¬ ((∀ j ∈ opsAt x, us.getD j false = false) ∧ (opsAt x).Nodup) → nodeStep x i us = none) := by
  have hf := fieldsB_of h
  have hk := h.kind
  have hge : ¬ arityI x.f0 < 0 := by
    by_cases c1 : x.f0 < 3
    · rw [arityI_small c1 hk.1]; omega
    · by_cases c2 : 3 < x.f0
      · rw [arityI_big c2 hk.2]; omega
      · have : arityI x.f0 = 2 := by unfold arityI; rw [if_neg (by omega), if_neg (by omega), if_pos (by omega)]
        omega
  unfold nodeStep
  rw [if_neg hge, if_neg (by rw [hf]; decide)]
  clear hge
  unfold opsAt
  by_cases h3 : x.f0 = 3
  · have ha := h.a (by omega)
    have hb := h.b h3
    obtain ⟨a, ha'⟩ := Int.eq_ofNat_of_zero_le ha.1
    obtain ⟨b, hb'⟩ := Int.eq_ofNat_of_zero_le hb.1
    have e2 : arityI x.f0 = 2 := by unfold arityI; rw [if_neg (by omega), if_neg (by omega), if_pos h3]
    rw [if_pos h3, e2, ha', hb', show decide ((0 : Int) < 2) = true from rfl, show decide ((1 : Int) < 2) = true from rfl]
    have ua : useF us true (a : Int) i = !(us.getD a false) := by unfold useF; simp; omega
    cases hga : us.getD a false with
    | true =>
      rw [ua, hga]
      exact ⟨fun hh => by have := hh.1 a (by simp); rw [hga] at this; exact Bool.noConfusion this, fun _ => by simp⟩
    | false =>
      have la : useL us true (a : Int) i = us.set a true := by unfold useL; rw [ua, hga]; simp
      have hset : (us.set a true).getD b false = (if a = b ∧ b < us.length then true else us.getD b false) := getD_set_true us a b
      have ub : useF (us.set a true) true (b : Int) i = !((us.set a true).getD b false) := by unfold useF; simp; omega
      have lb : (us.set a true).getD b false = false → useL (us.set a true) true (b : Int) i = (us.set a true).set b true := fun hh => by unfold useL; rw [ub, hh]; simp
      rw [ua, hga, la, ub]
      by_cases hab : a = b
      · subst hab
        have hset2 : (us.set a true).getD a false = true := by rw [getD_set_true, if_pos ⟨rfl, by omega⟩]
        rw [hset2]
        exact ⟨fun hh => by have := hh.2; simp at this, fun _ => by simp⟩
      · have hset' : (us.set a true).getD b false = us.getD b false := by rw [hset, if_neg (fun e => hab e.1)]
        cases hgb : us.getD b false with
        | true =>
          rw [hset', hgb]
          exact ⟨fun hh => by have := hh.1 b (by simp); rw [hgb] at this; exact Bool.noConfusion this, fun _ => by simp⟩
        | false =>
          rw [hset', hgb, lb (by rw [hset', hgb])]
          refine ⟨fun _ => by simp, fun hh => (hh ⟨?_, ?_⟩).elim⟩
          · intro j hj; simp at hj; rcases hj with rfl | rfl <;> assumption
          · simp [hab]
  · rw [if_neg h3]
    by_cases hg : 3 < x.f0
    · have ha := h.a (by omega)
      have hb := h.b0 h3
      obtain ⟨a, ha'⟩ := Int.eq_ofNat_of_zero_le ha.1
      rw [if_pos hg, arityI_big hg hk.2, ha', hb, show decide ((0 : Int) < 1) = true from rfl, show decide ((1 : Int) < 1) = false from rfl]
      have ua : useF us true (a : Int) i = !(us.getD a false) := by unfold useF; simp; omega
      cases hga : us.getD a false with
      | true =>
        rw [ua, hga]
        exact ⟨fun hh => by have := hh.1 a (by simp); rw [hga] at this; exact Bool.noConfusion this, fun _ => by simp⟩
      | false =>
        have la : useL us true (a : Int) i = us.set a true := by unfold useL; rw [ua, hga]; simp
        rw [ua, hga, la]
        refine ⟨fun _ => by simp [useF, useL], fun hh => (hh ⟨?_, ?_⟩).elim⟩
        · intro j hj; simp at hj; subst hj; exact hga
        · simp
    · have ha := h.a0 (by omega)
      have hb := h.b0 h3
      rw [if_neg hg, arityI_small (by omega) hk.1, ha, hb]
      exact ⟨fun _ => by simp [useF, useL], fun hh => (hh ⟨by simp, by simp⟩).elim⟩

def flagsR (n : Nat) (L : List Nat) : List Bool := (List.range n).map (fun j => decide (j ∈ L))
theorem flagsR_length (n : Nat) (L : List Nat) : (flagsR n L).length = n := by simp [flagsR]
theorem flagsR_set (n : Nat) (L : List Nat) (j : Nat) : (flagsR n L).set j true = flagsR n (L ++ [j]) := by
  apply List.ext_getElem
  · simp [flagsR]
  · intro i h1 h2
    simp only [flagsR, List.getElem_set, List.getElem_map, List.getElem_range]
    by_cases h : j = i
    · subst h; simp
    · rw [if_neg h]; congr 1; apply propext; simp; intro e; exact absurd e.symm h
theorem flagsR_sets (n : Nat) : ∀ (K L : List Nat), K.foldl (fun u j => u.set j true) (flagsR n L) = flagsR n (L ++ K)
  | [], L => by simp
  | j :: K, L => by rw [List.foldl_cons, flagsR_set, flagsR_sets n K]; simp
theorem flagsR_get (n : Nat) (L : List Nat) (j : Nat) (h : j < n) : (flagsR n L).getD j false = decide (j ∈ L) := by
  simp [flagsR, List.getD, h]
theorem flagsR_nil (n : Nat) : List.replicate n false = flagsR n [] := by
  apply List.ext_getElem <;> simp [flagsR]

theorem ops_bound {i j : Nat} {x : S42} (h : NodeOk i x) (hj : j ∈ opsAt x) : j < i := by
  unfold opsAt at hj
  split at hj
  · rename_i h3
    have ha := h.a (by omega)
    have hb := h.b h3
    simp at hj; omega
  split at hj
  · rename_i h3
    have ha := h.a (by omega)
    simp at hj; omega
  · cases hj

theorem refs_take {l : List S42} {i : Nat} (h : i < l.length) : refs (l.take (i + 1)) = refs (l.take i) ++ opsAt (l.getD i z42) := by
  unfold refs
  rw [List.take_succ_eq_append_getElem h, List.flatMap_append]
  simp [List.getD, h]
theorem refs_prefix (l : List S42) (i : Nat) : refs l = refs (l.take i) ++ refs (l.drop i) := by
  unfold refs
  rw [← List.flatMap_append, List.take_append_drop]

open Classical in
theorem scan_spec (l : List S42) : ∀ (d i : Nat), i + d = l.length → (refs (l.take i)).Nodup → scanFrom l d i (flagsR l.length (refs (l.take i))) =
    if (∀ j, i ≤ j → j < l.length → NodeOk j (l.getD j z42)) ∧ (refs l).Nodup then some (flagsR l.length (refs l)) else none
  | 0, i, hi, hn => by
    rw [show l.take i = l from List.take_of_length_le (by omega)] at hn ⊢
    rw [scanFrom, if_pos ⟨fun j h1 h2 => by omega, hn⟩]
  | d + 1, i, hi, hn => by
    rw [scanFrom]
    by_cases hok : NodeOk i (l.getD i z42)
    · have hu := nodeStep_use (us := flagsR l.length (refs (l.take i))) hok (by rw [flagsR_length]; omega)
      have hiff : ((∀ j ∈ opsAt (l.getD i z42), (flagsR l.length (refs (l.take i))).getD j false = false) ∧ (opsAt (l.getD i z42)).Nodup) ↔ (refs (l.take (i + 1))).Nodup := by
        rw [refs_take (by omega), List.nodup_append]
        constructor
        · rintro ⟨h1, h2⟩
          refine ⟨hn, h2, fun a ha b hb e => ?_⟩
          subst e
          have h3 := h1 a hb
          rw [flagsR_get _ _ _ (by have := ops_bound hok hb; omega)] at h3
          simp at h3
          exact h3 ha
        · rintro ⟨_, h2, h3⟩
          refine ⟨fun j hj => ?_, h2⟩
          rw [flagsR_get _ _ _ (by have := ops_bound hok hj; omega)]
          simp
          exact fun hm => h3 j hm j hj rfl
      by_cases hnd : (refs (l.take (i + 1))).Nodup
      · rw [hu.1 (hiff.2 hnd), Option.bind_some, flagsR_sets, ← refs_take (by omega), scan_spec l d (i + 1) (by omega) hnd]
        congr 1
        apply propext
        constructor
        · rintro ⟨h1, h2⟩
          refine ⟨fun j a b => ?_, h2⟩
          by_cases e : j = i
          · subst e; exact hok
          · exact h1 j (by omega) b
        · rintro ⟨h1, h2⟩
          exact ⟨fun j a b => h1 j (by omega) b, h2⟩
      · rw [hu.2 (fun h => hnd (hiff.1 h)), Option.bind_none, if_neg]
        rintro ⟨_, h2⟩
        rw [refs_prefix l (i + 1), List.nodup_append] at h2
        exact hnd h2.1
    · have : nodeStep (l.getD i z42) i (flagsR l.length (refs (l.take i))) = none := by
        cases hs : nodeStep (l.getD i z42) i (flagsR l.length (refs (l.take i))) with
        | none => rfl
        | some us => exact absurd (nodeStep_ok hs) hok
      rw [this, Option.bind_none, if_neg]
      rintro ⟨h1, _⟩
      exact hok (h1 i (Nat.le_refl _) (by omega))

/-- A document in order. -/
structure Good (l : List S42) : Prop where
  pos : 0 < l.length
  le : l.length ≤ 65536
  ok : nodesOk l
  once : ∀ i, i < l.length - 1 → (refs l).count i = 1

theorem refs_lt {l : List S42} (h : nodesOk l) {j : Nat} (hj : j ∈ refs l) : j < l.length - 1 := by
  unfold refs at hj
  obtain ⟨x, hx, hjx⟩ := List.mem_flatMap.1 hj
  obtain ⟨i, hi, rfl⟩ := List.mem_iff_getElem.1 hx
  have := h i hi
  rw [show l.getD i z42 = l[i] from by simp [List.getD, hi]] at this
  have := ops_bound this hjx
  omega

theorem check_cases (l : List S42) (h : l.length ≤ 65536) : (Good l ∧ checkI l = 0) ∨ (¬ Good l ∧ checkI l = 250) := by
  have hs := scan_spec l l.length 0 (by omega) (by simp [refs])
  rw [show refs (l.take 0) = [] from by simp [refs], ← flagsR_nil] at hs
  by_cases hc : (∀ j, 0 ≤ j → j < l.length → NodeOk j (l.getD j z42)) ∧ (refs l).Nodup
  · rw [if_pos hc] at hs
    have hok : nodesOk l := fun i hi => hc.1 i (by omega) hi
    have hall : ((flagsR l.length (refs l)).take (l.length - 1)).all id = true ↔ ∀ i, i < l.length - 1 → i ∈ refs l := by
      rw [List.all_eq_true]
      constructor
      · intro ha i hi
        have := ha (decide (i ∈ refs l)) (List.mem_iff_getElem.2 ⟨i, by simp [flagsR]; omega, by simp [flagsR]⟩)
        simpa using this
      · intro ha x hx
        obtain ⟨i, hi, rfl⟩ := List.mem_iff_getElem.1 hx
        simp [flagsR] at hi
        simp only [List.getElem_take, flagsR, List.getElem_map, List.getElem_range, id]
        exact decide_eq_true (ha i (by omega))
    by_cases hp : 0 < l.length
    · cases hu : ((flagsR l.length (refs l)).take (l.length - 1)).all id with
      | true =>
        refine .inl ⟨⟨hp, h, hok, fun i hi => ?_⟩, check_good h hp hs hu⟩
        have h1 := List.nodup_iff_count.1 hc.2 i
        have h2 := List.count_pos_iff.2 (hall.1 hu i hi)
        omega
      | false =>
        refine .inr ⟨fun hg => ?_, check_unused h hs hu⟩
        have := hall.2 (fun i hi => List.count_pos_iff.1 (by rw [hg.once i hi]; omega))
        rw [hu] at this; cases this
    · refine .inr ⟨fun hg => hp hg.pos, ?_⟩
      obtain rfl : l = [] := List.eq_nil_of_length_eq_zero (by omega)
      rfl
  · rw [if_neg hc] at hs
    refine .inr ⟨fun hg => hc ⟨fun j _ hj => hg.ok j hj, ?_⟩, check_bad h hs⟩
    rw [List.nodup_iff_count]
    intro a
    by_cases ha : a ∈ refs l
    · rw [hg.once a (refs_lt hg.ok ha)]; omega
    · rw [List.count_eq_zero_of_not_mem ha]; omega

theorem check_zero_iff (l : List S42) : checkI l = 0 ↔ Good l := by
  by_cases h : l.length ≤ 65536
  · rcases check_cases l h with ⟨h1, h2⟩ | ⟨h1, h2⟩
    · exact ⟨fun _ => h1, fun _ => h2⟩
    · exact ⟨fun e => (by rw [h2] at e; cases e), fun e => absurd e h1⟩
  · rw [checkI_big (by omega)]
    exact ⟨fun e => (by cases e), fun e => absurd e.le h⟩

end Go.Proofs.Ythmmdmnbcecooaa.A

/-! Q2 -/
namespace Go.Proofs.Ythmmdmnbcecooaa.A
open Go.RowKit Go.Proofs.YthmmdmnbcecooaaW.PrintWords Go.Proofs.YthmmdmnbcecooaaW.PrintLast Go.Proofs.YthmmdmnbcecooaaW.PrintMore
set_option linter.unusedVariables false
set_option linter.unusedSimpArgs false

theorem shiftN_kind (n : Int) (x : S42) : (shiftN n x).f0 = x.f0 ∧ (shiftN n x).f1 = x.f1 ∧ (shiftN n x).f2 = x.f2 := by
  unfold shiftN; split
  · split <;> exact ⟨rfl, rfl, rfl⟩
  · exact ⟨rfl, rfl, rfl⟩

theorem shiftN_small {i : Nat} {x : S42} (h : NodeOk i x) (hi : i ≤ 1000000) (n : Nat) (hn : n ≤ 1000000) :
    shiftN n x = if x.f0 = 3 then ⟨x.f0, x.f1, x.f2, x.f3 + n, x.f4 + n⟩ else if 3 < x.f0 then ⟨x.f0, x.f1, x.f2, x.f3 + n, x.f4⟩ else x := by
  have hk := h.kind
  unfold shiftN
  by_cases h3 : x.f0 = 3
  · have e2 : arityI x.f0 = 2 := by unfold arityI; rw [if_neg (by omega), if_neg (by omega), if_pos h3]
    have ha := h.a (by omega)
    have hb := h.b h3
    rw [if_pos h3, e2, if_pos (by omega), if_pos (by omega), wrap64_small (x := x.f3 + n) (by omega) (by omega), wrap64_small (by omega) (by omega)]
  · rw [if_neg h3]
    by_cases hg : 3 < x.f0
    · have ha := h.a (by omega)
      rw [if_pos hg, arityI_big hg hk.2, if_pos (by omega), if_neg (by omega), wrap64_small (by omega) (by omega)]
    · rw [if_neg hg, arityI_small (by omega) hk.1, if_neg (by omega)]

theorem shift_ok {i : Nat} {x : S42} (h : NodeOk i x) (hi : i ≤ 1000000) (n : Nat) (hn : n ≤ 1000000) : NodeOk (n + i) (shiftN n x) := by
  obtain ⟨k0, k1, k2⟩ := shiftN_kind n x
  have hs := shiftN_small h hi n hn
  refine ⟨by rw [k0]; exact h.kind, fun h3 => ?_, fun h3 => ?_, fun h3 => ?_, fun h3 => ?_, by rw [k2]; exact h.n, by rw [k0, k2]; exact h.n0, by rw [k1]; exact h.nl, by rw [k0, k1]; exact h.t0⟩
  · rw [k0] at h3
    have := h.a h3
    rw [hs]
    split
    · simp only; omega
    · rw [if_pos (by omega)]; simp only; omega
  · rw [k0] at h3
    have := h.b h3
    rw [hs, if_pos h3]
    simp only; omega
  · rw [k0] at h3
    have := h.a0 h3
    rw [hs, if_neg (by omega), if_neg (by omega)]
    exact this
  · rw [k0] at h3
    have := h.b0 h3
    rw [hs, if_neg h3]
    split
    · exact this
    · exact this

theorem shift_ops {i : Nat} {x : S42} (h : NodeOk i x) (hi : i ≤ 1000000) (n : Nat) (hn : n ≤ 1000000) : opsAt (shiftN n x) = (opsAt x).map (· + n) := by
  obtain ⟨k0, _, _⟩ := shiftN_kind n x
  have hs := shiftN_small h hi n hn
  unfold opsAt
  rw [k0]
  by_cases h3 : x.f0 = 3
  · have ha := h.a (by omega)
    have hb := h.b h3
    rw [if_pos h3, if_pos h3, hs, if_pos h3]
    simp only [List.map_cons, List.map_nil]
    rw [Int.toNat_add ha.1 (by omega), Int.toNat_add hb.1 (by omega), Int.toNat_natCast]
  · rw [if_neg h3, if_neg h3]
    by_cases hg : 3 < x.f0
    · have ha := h.a (by omega)
      rw [if_pos hg, if_pos hg, hs, if_neg h3, if_pos hg]
      simp only [List.map_cons, List.map_nil]
      rw [Int.toNat_add ha.1 (by omega), Int.toNat_natCast]
    · rw [if_neg hg, if_neg hg]; rfl

theorem nl_empty : Lib.indexByte (⟨#[]⟩ : ByteArray).data.toList 10 < 0 := by decide
theorem refs_append (a b : List S42) : refs (a ++ b) = refs a ++ refs b := List.flatMap_append

theorem refs_shift (n : Nat) (hn : n ≤ 1000000) : ∀ (b : List S42) (i : Nat), i + b.length ≤ 1000000 → (∀ j, j < b.length → NodeOk (i + j) (b.getD j z42)) → refs (b.map (shiftN n)) = (refs b).map (· + n)
  | [], _, _, _ => rfl
  | x :: t, i, hl, h => by
    have h0 : NodeOk i x := h 0 (by simp)
    have ht := refs_shift n hn t (i + 1) (by simp at hl; omega) (fun j hj => by have := h (j + 1) (by simpa using hj); simpa [Nat.add_assoc, Nat.add_comm 1 j] using this)
    simp only [List.length_cons] at hl
    show opsAt (shiftN n x) ++ refs (t.map (shiftN n)) = (opsAt x ++ refs t).map (· + n)
    rw [ht, shift_ops h0 (by omega) n hn, List.map_append]

theorem getD_snd (a b : List S42) (j : Nat) : (a ++ b).getD (a.length + j) z42 = b.getD j z42 := by
  simp [List.getD, List.getElem?_append_right]
theorem getD_fst (a b : List S42) (j : Nat) (h : j < a.length) : (a ++ b).getD j z42 = a.getD j z42 := by
  simp [List.getD, List.getElem?_append_left h]
theorem getD_map (n : Int) (b : List S42) (j : Nat) (h : j < b.length) : (b.map (shiftN n)).getD j z42 = shiftN n (b.getD j z42) := by
  simp [List.getD, h]

theorem count_shift (n a : Nat) (L : List Nat) : (L.map (· + n)).count (a + n) = L.count a := by
  induction L with
  | nil => rfl
  | cons x t ih =>
    simp only [List.map_cons, List.count_cons, ih]
    congr 1
    by_cases h : x = a
    · subst h; simp
    · have : ¬ x + n = a + n := by omega
      simp [h, this]

theorem good_seq {a b : List S42} (ha : Good a) (hb : Good b) (hl : a.length + b.length + 1 ≤ 65536) : Good (seqD a b) := by
  have hpa := ha.pos
  have hpb := hb.pos
  have hlen : (seqD a b).length = a.length + b.length + 1 := seqD_length a b
  have hrefs : refs (seqD a b) = refs a ++ (refs b).map (· + a.length) ++ [a.length - 1, a.length + b.length - 1] := by
    unfold seqD joinD
    rw [refs_append, refs_append, refs_shift a.length (by omega) b 0 (by omega) (fun j hj => by simpa using hb.ok j hj)]
    congr 1
    show opsAt _ ++ [] = _
    rw [List.append_nil]
    unfold opsAt
    rw [if_pos rfl]
    simp only
    rw [show ((a.length : Int) - 1).toNat = a.length - 1 from by omega, show ((a.length : Int) + b.length - 1).toNat = a.length + b.length - 1 from by omega]
  refine ⟨by omega, by omega, fun i hi => ?_, fun i hi => ?_⟩
  · rw [hlen] at hi
    unfold seqD joinD
    by_cases h1 : i < a.length
    · rw [List.append_assoc, getD_fst _ _ _ h1]
      exact ha.ok i h1
    · obtain ⟨j, rfl⟩ : ∃ j, i = a.length + j := ⟨i - a.length, by omega⟩
      rw [List.append_assoc, getD_snd]
      by_cases h2 : j < b.length
      · rw [getD_fst _ _ _ (by simpa using h2), getD_map _ _ _ h2]
        exact shift_ok (hb.ok j h2) (by omega) a.length (by omega)
      · obtain rfl : j = b.length := by omega
        have := getD_snd (b.map (shiftN a.length)) [(⟨3, ⟨#[]⟩, 0, (a.length : Int) - 1, (a.length : Int) + b.length - 1⟩ : S42)] 0
        rw [List.length_map, Nat.add_zero] at this
        rw [this]
        show NodeOk _ (⟨3, ⟨#[]⟩, 0, (a.length : Int) - 1, (a.length : Int) + b.length - 1⟩ : S42)
        exact ⟨⟨by simp only; omega, by simp only; omega⟩, fun _ => ⟨by simp only; omega, by simp only; omega⟩, fun _ => ⟨by simp only; omega, by simp only; omega⟩, fun h => by simp at h, fun h => absurd rfl h, ⟨by simp only; omega, by simp only; omega⟩, fun _ => rfl, nl_empty, fun _ => rfl⟩
  · rw [hlen] at hi
    rw [hrefs, List.count_append, List.count_append]
    have hra : ∀ j, j ∈ refs a → j < a.length - 1 := fun j hj => refs_lt ha.ok hj
    have hrb : ∀ j, j ∈ refs b → j < b.length - 1 := fun j hj => refs_lt hb.ok hj
    by_cases h1 : i < a.length
    · have c2 : ((refs b).map (· + a.length)).count i = 0 := List.count_eq_zero_of_not_mem (fun hm => by
        obtain ⟨j, _, e⟩ := List.mem_map.1 hm
        omega)
      rw [c2]
      by_cases h2 : i = a.length - 1
      · have c1 : (refs a).count i = 0 := List.count_eq_zero_of_not_mem (fun hm => by have := hra i hm; omega)
        rw [c1, h2]
        have : ¬ a.length + b.length - 1 = a.length - 1 := by omega
        simp [List.count_cons, this]
      · rw [ha.once i (by omega)]
        have e1 : ¬ a.length - 1 = i := by omega
        have e2 : ¬ a.length + b.length - 1 = i := by omega
        simp [List.count_cons, e1, e2]
    · obtain ⟨j, rfl⟩ : ∃ j, i = j + a.length := ⟨i - a.length, by omega⟩
      have c1 : (refs a).count (j + a.length) = 0 := List.count_eq_zero_of_not_mem (fun hm => by have := hra _ hm; omega)
      rw [c1, count_shift]
      have e1 : ¬ a.length - 1 = j + a.length := by omega
      by_cases h2 : j = b.length - 1
      · have c2 : (refs b).count j = 0 := List.count_eq_zero_of_not_mem (fun hm => by have := hrb j hm; omega)
        have e2 : a.length + b.length - 1 = j + a.length := by omega
        rw [c2, e2]
        simp [List.count_cons, e1]
      · rw [hb.once j (by omega)]
        have e2 : ¬ a.length + b.length - 1 = j + a.length := by omega
        simp [List.count_cons, e1, e2]

theorem good_wrap {a : List S42} {kind n : Int} (ha : Good a) (hk : 4 ≤ kind ∧ kind ≤ 6) (hn : 0 ≤ n ∧ n ≤ 1000) (h0 : kind ≠ 4 → n = 0) (hl : a.length + 1 ≤ 65536) : Good (wrapD kind n a) := by
  have hpa := ha.pos
  have hlen : (wrapD kind n a).length = a.length + 1 := wrapD_length kind n a
  have hrefs : refs (wrapD kind n a) = refs a ++ [a.length - 1] := by
    unfold wrapD
    rw [refs_append]
    congr 1
    show opsAt _ ++ [] = _
    rw [List.append_nil]
    unfold opsAt
    simp only
    rw [if_neg (by omega), if_pos (by omega), show ((a.length : Int) - 1).toNat = a.length - 1 from by omega]
  refine ⟨by omega, by omega, fun i hi => ?_, fun i hi => ?_⟩
  · rw [hlen] at hi
    unfold wrapD
    by_cases h1 : i < a.length
    · rw [getD_fst _ _ _ h1]; exact ha.ok i h1
    · obtain rfl : i = a.length := by omega
      have := getD_snd a [(⟨kind, ⟨#[]⟩, n, (a.length : Int) - 1, 0⟩ : S42)] 0
      rw [Nat.add_zero] at this
      rw [this]
      show NodeOk _ (⟨kind, ⟨#[]⟩, n, (a.length : Int) - 1, 0⟩ : S42)
      exact ⟨by simp only; omega, fun _ => ⟨by simp only; omega, by simp only; omega⟩, fun h => by simp only at h; omega, fun h => by simp only at h; omega, fun _ => rfl, hn, h0, nl_empty, fun _ => rfl⟩
  · rw [hlen] at hi
    rw [hrefs, List.count_append]
    by_cases h2 : i = a.length - 1
    · have c1 : (refs a).count i = 0 := List.count_eq_zero_of_not_mem (fun hm => by have := refs_lt ha.ok hm; omega)
      rw [c1, h2]; simp
    · rw [ha.once i (by omega)]
      have e1 : ¬ a.length - 1 = i := by omega
      simp [List.count_cons, e1]

theorem good_leaf {x : S42} (h : NodeOk 0 x) : Good [x] := by
  refine ⟨by simp, by simp, fun i hi => ?_, fun i hi => ?_⟩
  · obtain rfl : i = 0 := by simpa using hi
    exact h
  · simp at hi

end Go.Proofs.Ythmmdmnbcecooaa.A

/-! Q3 -/
namespace Go.Proofs.Ythmmdmnbcecooaa.A
open Go.RowKit Go.Proofs.YthmmdmnbcecooaaW.PrintWords Go.Proofs.YthmmdmnbcecooaaW.PrintLast Go.Proofs.YthmmdmnbcecooaaW.PrintMore
set_option linter.unusedVariables false
set_option linter.unusedSimpArgs false

theorem leaf_good {k : Int} (h0 : 0 ≤ k) (h1 : k ≤ 255) : Good (leafD k) := by
  have h : ∀ i : Fin 256, checkI (leafD (i.val : Int)) = 0 := by decide +kernel
  have := h ⟨k.toNat, by omega⟩
  simp only [Int.toNat_of_nonneg h0] at this
  exact (check_zero_iff _).1 this

theorem len_le_sum : ∀ (D : List (List S42)) (d : List S42), d ∈ D → d.length ≤ (D.map List.length).sum
  | [], _, h => by cases h
  | a :: t, d, h => by
    simp only [List.map_cons, List.sum_cons]
    rcases List.mem_cons.1 h with rfl | h
    · omega
    · have := len_le_sum t d h; omega

theorem getD_memD {D : List (List S42)} {j : Nat} (h : j < D.length) : D.getD j [] ∈ D := by simp [List.getD, h]

theorem madeStep_good {k : Int} (hk : 0 ≤ k ∧ k ≤ 255) {sz : Nat} {D : List (List S42)} (hg : ∀ d ∈ D, Good d) (hz : stOk D sz) (hs : sz ≤ 2000) : ∀ d ∈ (madeStep k sz D).2, Good d := by
  unfold stOk at hz
  unfold madeStep
  by_cases c1 : k % 10 < 4 ∨ D.length = 0 ∨ (D.length = 1 ∧ 8 ≤ k % 10)
  · rw [if_pos c1]
    intro d hd
    rcases List.mem_append.1 hd with h | h
    · exact hg d h
    · rw [List.mem_singleton.1 h]; exact leaf_good hk.1 hk.2
  rw [if_neg c1]
  by_cases c2 : 8 ≤ k % 10
  · rw [if_pos c2]
    intro d hd
    rcases List.mem_append.1 hd with h | h
    · exact hg d (List.mem_of_mem_take h)
    · rw [List.mem_singleton.1 h]
      obtain ⟨m, hm⟩ : ∃ m, D.length = m + 2 := ⟨D.length - 2, by omega⟩
      have hsp := sum_split D m hm
      rw [hm, show m + 2 - 2 = m from by omega, show m + 2 - 1 = m + 1 from by omega]
      exact good_seq (hg _ (getD_memD (by omega))) (hg _ (getD_memD (by omega))) (by omega)
  · rw [if_neg c2]
    intro d hd
    have hx := getD_memD (D := D) (j := D.length - 1) (by omega)
    have hl := len_le_sum D _ hx
    rcases List.mem_or_eq_of_mem_set hd with h | h
    · exact hg d h
    · rw [h]
      split
      · exact good_wrap (hg _ hx) ⟨by omega, by omega⟩ ⟨by omega, by omega⟩ (fun h => absurd rfl h) (by omega)
      · split
        · exact good_wrap (hg _ hx) ⟨by omega, by omega⟩ ⟨by omega, by omega⟩ (fun _ => rfl) (by omega)
        · exact good_wrap (hg _ hx) ⟨by omega, by omega⟩ ⟨by omega, by omega⟩ (fun _ => rfl) (by omega)

theorem madeGo_good {most : Int} (hm : most ≤ 1000) : ∀ (l : List Int) (sz : Nat) (D : List (List S42)), (∀ x ∈ l, 0 ≤ x ∧ x ≤ 255) → (∀ d ∈ D, Good d) → stOk D sz ∧ sz ≤ 2000 ∧ D.length ≤ 2000 →
    (∀ d ∈ madeGo most l sz D, Good d) ∧ ∃ sz', stOk (madeGo most l sz D) sz' ∧ sz' ≤ 2000
  | [], sz, D, _, hg, hz => ⟨hg, sz, hz.1, hz.2.1⟩
  | k :: t, sz, D, hb, hg, hz => by
    unfold madeGo
    by_cases hs : (sz : Int) + 2 < most
    · rw [if_pos hs]
      have hk := hb k (by simp)
      exact madeGo_good hm t _ _ (fun x hx => hb x (by simp [hx])) (madeStep_good hk hg hz.1 hz.2.1) (made_ok hs hm hk rfl hz)
    · rw [if_neg hs]
      exact ⟨hg, sz, hz.1, hz.2.1⟩

theorem fold_good : ∀ (t : List (List S42)) (a : List S42), Good a → (∀ d ∈ t, Good d) → a.length + (t.map List.length).sum + t.length ≤ 65536 → Good (t.foldl seqD a)
  | [], a, ha, _, _ => ha
  | b :: t, a, ha, hg, hl => by
    simp only [List.map_cons, List.sum_cons, List.length_cons] at hl
    have hs := seqD_length a b
    exact fold_good t (seqD a b) (good_seq ha (hg b (by simp)) (by omega)) (fun d hd => hg d (by simp [hd])) (by omega)

theorem made_good {l : List Int} {most : Int} (hb : ∀ x ∈ l, 0 ≤ x ∧ x ≤ 255) (hm : most ≤ 1000) : Good (madeDoc l most) ∧ (madeDoc l most).length ≤ 2000 := by
  obtain ⟨h1, sz, h2, h3⟩ := madeGo_good hm l 0 [] hb (by simp) ⟨by simp [stOk], by omega, by simp⟩
  unfold madeDoc
  cases hD : madeGo most l 0 [] with
  | nil => exact ⟨good_leaf ⟨by decide, by decide, by decide, fun _ => rfl, fun _ => rfl, by decide, fun _ => rfl, by decide, fun h => absurd (Or.inl rfl) h⟩, by decide⟩
  | cons a t =>
    rw [hD] at h1 h2
    unfold stOk at h2
    simp only [List.map_cons, List.sum_cons, List.length_cons] at h2
    exact ⟨fold_good t a (h1 a (by simp)) (fun d hd => h1 d (by simp [hd])) (by omega), by show (t.foldl seqD a).length ≤ 2000; rw [fold_length]; omega⟩

end Go.Proofs.Ythmmdmnbcecooaa.A
