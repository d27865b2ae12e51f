/- A25, PureLayoutFills, LawLayoutFills: what the claims rest on of these texts, one behind the other. No condition of its own. -/
import Derived.Test.YthmmdmnbcecooaaZY14
import Derived.WalkKit
import Derived.ProofKit
import Derived.OpenShut
import Derived.ShutString
import Derived.ChangeOld
import Derived.ChangeSlices
import Derived.Below
import Derived.SizedLaws
import Derived.Test.YthmmdmnbcecooaaRows
section
namespace Go.Proofs.Ythmmdmnbcecooaa.A
open Go.RowKit Go.Proofs.YthmmdmnbcecooaaW.PrintWords Go.Proofs.YthmmdmnbcecooaaW.PrintLast Go.Proofs.YthmmdmnbcecooaaW.PrintMore
attribute [local go_sem] max2_int max_two
set_option linter.unusedVariables false
set_option linter.unusedSimpArgs false
attribute [local go_sem high] eqA36
mutual
def koinelaw26_LayoutFills.l0 : Nat → List Int → Bool → Int → List (S42) → Int → Int → Int → Option (Bool)
  | 0, _, _, _, _, _, _, _ => none
  | k + 1, x0, x5, x6, x7, x8, x9, x10 => if x10 < (x0.length : Int) then (koinelaw26_LayoutFills.j1 k x0 x5 x6 x7 x8 x9 x10 (decide (x10 < 40))) else (koinelaw26_LayoutFills.j1 k x0 x5 x6 x7 x8 x9 x10 false)
def koinelaw26_LayoutFills.j1 : Nat → List Int → Bool → Int → List (S42) → Int → Int → Int → Bool → Option (Bool)
  | 0, _, _, _, _, _, _, _, _ => none
  | k + 1, x0, x5, x6, x7, x8, x9, x10, x28 => if x28 = true then (if 0 ≤ x10 then (if x10 < (x0.length : Int) then (if x10 > 0 then ((koinelaw26_gap.f).bind fun t395 => ((koineref25_Seq.f x7 t395).bind fun t398 => (if (wrap64 ((wrap64 (x9 + 1)) + (wrap64 (1 + (wrap64 (Int.tmod (rd x0 x10) 9)))))) ≤ x6 then (if 0 ≤ (wrap64 (1 + (wrap64 (Int.tmod (rd x0 x10) 9)))) then (if (wrap64 (1 + (wrap64 (Int.tmod (rd x0 x10) 9)))) ≤ 9 then ((koineref25_Text.f ((⟨#[119, 119, 119, 119, 119, 119, 119, 119, 119]⟩ : ByteArray).extract 0 ((wrap64 (1 + (wrap64 (Int.tmod (rd x0 x10) 9)))) : Int).toNat)).bind fun t401 => ((koineref25_Seq.f t398 t401).bind fun t404 => (koinelaw26_LayoutFills.l0 k x0 x5 x6 t404 x8 (wrap64 ((wrap64 (x9 + 1)) + (wrap64 (1 + (wrap64 (Int.tmod (rd x0 x10) 9)))))) (wrap64 (x10 + 1))))) else (none)) else (none)) else (if 0 ≤ (wrap64 (1 + (wrap64 (Int.tmod (rd x0 x10) 9)))) then (if (wrap64 (1 + (wrap64 (Int.tmod (rd x0 x10) 9)))) ≤ 9 then ((koineref25_Text.f ((⟨#[119, 119, 119, 119, 119, 119, 119, 119, 119]⟩ : ByteArray).extract 0 ((wrap64 (1 + (wrap64 (Int.tmod (rd x0 x10) 9)))) : Int).toNat)).bind fun t407 => ((koineref25_Seq.f t398 t407).bind fun t410 => (koinelaw26_LayoutFills.l0 k x0 x5 x6 t410 (wrap64 (x8 + 1)) (wrap64 (1 + (wrap64 (Int.tmod (rd x0 x10) 9)))) (wrap64 (x10 + 1))))) else (none)) else (none))))) else (if 0 ≤ (wrap64 (1 + (wrap64 (Int.tmod (rd x0 x10) 9)))) then (if (wrap64 (1 + (wrap64 (Int.tmod (rd x0 x10) 9)))) ≤ 9 then ((koineref25_Text.f ((⟨#[119, 119, 119, 119, 119, 119, 119, 119, 119]⟩ : ByteArray).extract 0 ((wrap64 (1 + (wrap64 (Int.tmod (rd x0 x10) 9)))) : Int).toNat)).bind fun t413 => ((koineref25_Seq.f x7 t413).bind fun t416 => (koinelaw26_LayoutFills.l0 k x0 x5 x6 t416 x8 (wrap64 (1 + (wrap64 (Int.tmod (rd x0 x10) 9)))) (wrap64 (x10 + 1))))) else (none)) else (none))) else (none)) else (none)) else ((layout_Best.f x7 x6).bind fun bt389 => (if bt389.2.2.2 = 0 then (if (bt389.2.1 == 0 && (bt389.2.2.1 == x8)) = true then (some x5) else (some false)) else (some false)))
end
def koinelaw26_LayoutFills.f (k : Nat) (l0 : List Int) (a1 : Int) : Option (Bool) := (koinelaw26_sanity.f).bind fun t385 => ((koineref25_Text.f (⟨#[]⟩ : ByteArray)).bind fun t386 => (koinelaw26_LayoutFills.l0 k l0 t385 (wrap64 (9 + (wrap64 (Int.tmod a1 40)))) t386 0 0 0))
set_option maxHeartbeats 8000000 in
set_option maxRecDepth 100000 in
theorem koinelaw26_LayoutFills.calls (k : Nat) (A0 : Option Addr) (c0 : Nat) (l0 : List Int) (a1 : Int) (r : Bool) (w : World) (hr0 : Kd.C (Kd.int .u8) w A0 l0.length l0) (hc0 : l0.length ≤ c0) (h : koinelaw26_LayoutFills.f k l0 a1 = some r) :
    Calls Try.prog 9 #[.slice A0 l0.length c0, .int .u8 a1] w fun e w' => e = .returned (.bool r) ∧ Below w.heap.size w w' := by
  have hu36 := Try.underlying36
  have HR0 := Aside0.mk hr0
  have HC0 := Aside0.mk hc0
  clear hr0 hc0
  have HB := Aside0.mk (Below.refl w.heap.size w)
  have H : ((koinelaw26_sanity.f).bind fun t385 => ((koineref25_Text.f (⟨#[]⟩ : ByteArray)).bind fun t386 => (koinelaw26_LayoutFills.l0 k l0 t385 (wrap64 (9 + (wrap64 (Int.tmod a1 40)))) t386 0 0 0))) = some r := h
  clear h
  replace H := Option.bind_eq_some_iff.mp H
  obtain ⟨t385, A30, H⟩ := H
  replace H : ((koineref25_Text.f (⟨#[]⟩ : ByteArray)).bind fun t386 => (koinelaw26_LayoutFills.l0 k l0 t385 (wrap64 (9 + (wrap64 (Int.tmod a1 40)))) t386 0 0 0)) = some r := H
  have A3 := Aside0.mk A30
  clear A30
  replace H := Option.bind_eq_some_iff.mp H
  obtain ⟨t386, A40, H⟩ := H
  replace H : (koinelaw26_LayoutFills.l0 k l0 t385 (wrap64 (9 + (wrap64 (Int.tmod a1 40)))) t386 0 0 0) = some r := H
  have A4 := Aside0.mk A40
  clear A40
  have H' := Aside0.mk H
  clear H
  go_enter Try.func9, Try.ntmps9
  go_wp2_with (first | ((with_reducible refine gate_callee (f := 33) rfl ?_); refine goesL_ (some 15) rfl rfl Try.func33 (by kernel_rfl) rfl #[] rfl (by (try simp only [List.map_toArray, List.map_cons, List.map_nil]); first | done | rfl | (simp only [List.length_drop, List.length_take]; rfl)) ?_; (with_reducible refine (koinelaw26_sanity.calls  t385 _ A3.out).mono ?_); rintro e w5 ⟨rfl, hb⟩; refine ⟨_, rfl, ?_⟩; have n0_ := Aside0.mk (below_step (by repeat (first | (with_reducible first | exact HB.out | apply below_alloc | apply pw_below_drewN | apply below_drew1) | exact HB.out)) hb); clear HB; have HB := n0_; clear n0_; (try clear hb); (try clear hb2); (try clear hk); (try clear hi)) | ((with_reducible refine gate_callee (f := 38) rfl ?_); refine goesL_ (some 20) rfl rfl Try.func38 (by kernel_rfl) rfl #[.string (⟨#[]⟩ : ByteArray)] rfl (by (try simp only [List.map_toArray, List.map_cons, List.map_nil]); first | done | rfl | (simp only [List.length_drop, List.length_take]; rfl)) ?_; (with_reducible refine (koineref25_Text.calls (⟨#[]⟩ : ByteArray) t386 _ A4.out).mono ?_); rintro e w6 ⟨v387, rfl, ho0, hb⟩; refine ⟨_, rfl, ?_⟩; have n0_ := Aside0.mk (Kd.R_lower ho0 (below_size (by repeat (first | (with_reducible first | exact HB.out | apply below_alloc | apply pw_below_drewN | apply below_drew1) | exact HB.out)))); have n1_ := Aside0.mk (below_step (by repeat (first | (with_reducible first | exact HB.out | apply below_alloc | apply pw_below_drewN | apply below_drew1) | exact HB.out)) hb); clear HB; have HO388 := n0_; have HB := n1_; clear n0_ n1_; (try clear hb); (try clear hb2); (try clear hk); (try clear hi); (try clear ho0)))
  go_loopg [7, 8, 9, 10] k (fun kq v7 v8 v9 v10 w' => ∃ (x7_1 : List (S42)) (x8_1 : Int) (x9_1 : Int) (x10_1 : Int), v8 = .int .i64 x8_1 ∧ v9 = .int .i64 x9_1 ∧ v10 = .int .i64 x10_1 ∧ Aside0 (koinelaw26_LayoutFills.l0 kq l0 t385 (wrap64 (9 + (wrap64 (Int.tmod a1 40)))) x7_1 x8_1 x9_1 x10_1 = some r) ∧ Aside0 (kq ≤ k) ∧ Aside0 (Kd.R k42 42 w' w.heap.size (fun _ => True) v7 x7_1) ∧ Aside0 (Below w.heap.size w w'))
  case atStart => exact ⟨(t386), (0), (0), (0), (by first | rfl | (simp; done) | (simp [*]; done)), (by first | rfl | (simp; done) | (simp [*]; done)), (by first | rfl | (simp; done) | (simp [*]; done)), H', ⟨Nat.le_refl _⟩, ⟨by (with_reducible repeat (first | apply Kd.R_alloc | apply Kd.R_drewN | apply Kd.R_drew)); exact HO388.out⟩, ⟨by repeat (first | (with_reducible first | exact HB.out | apply below_alloc | apply pw_below_drewN | apply below_drew1) | exact HB.out)⟩⟩
  case round =>
    clear H'
    try clear p2
    try clear c3
    try clear p6
    obtain ⟨x7_1, x8_1, x9_1, x10_1, rfl, rfl, rfl, HA, HK1, HO_7, HB⟩ := hrel
    cases gk with
    | zero => exact absurd HA.out (by simp [koinelaw26_LayoutFills.l0])
    | succ k1 =>
      have H := HA.out
      clear HA
      simp only [koinelaw26_LayoutFills.l0] at H
      have HC7 := Aside0.mk H
      clear H
      go_upto_region 7 with (fail)
      go_cut [28] (fun v28 wc => ∃ (kq : Nat) (x28_6 : Bool), v28 = .bool x28_6 ∧ Aside0 (koinelaw26_LayoutFills.j1 kq l0 t385 (wrap64 (9 + (wrap64 (Int.tmod a1 40)))) x7_1 x8_1 x9_1 x10_1 x28_6 = some r) ∧ Aside0 (kq ≤ k1) ∧ Aside0 (Kd.R k42 42 wc w.heap.size (fun _ => True) u7 x7_1) ∧ Aside0 (Below w.heap.size w wc))
      case first =>
        have H := HC7.out
        clear HC7
        by_cases c8 : x10_1 < (l0.length : Int)
        · rw [if_pos c8] at H
          have c8b0 : decide (x10_1 < (l0.length : Int)) = true := decide_eq_true c8
          clear c8
          (first | rw [c8b0] | (simp only [i64_w, i32_w]; rw [c8b0]) | skip)
          have H' := Aside0.mk H
          clear H
          go_wp2
          go_meet
          case rel => exact ⟨_, (decide (x10_1 < 40)), (by first | rfl | (simp; done) | (simp [*]; done)), H', ⟨by have := HK1.out; first | omega | exact Nat.le_refl _⟩, ⟨by (with_reducible repeat (first | apply Kd.R_alloc | apply Kd.R_drewN | apply Kd.R_drew)); exact HO_7.out⟩, ⟨by repeat (first | (with_reducible first | exact HB.out | apply below_alloc | apply pw_below_drewN | apply below_drew1) | exact HB.out)⟩⟩
        · rw [if_neg c8] at H
          have c8b0 : decide (x10_1 < (l0.length : Int)) = false := decide_eq_false c8
          clear c8
          (first | rw [c8b0] | (simp only [i64_w, i32_w]; rw [c8b0]) | skip)
          have H' := Aside0.mk H
          clear H
          go_wp2
          go_meet
          case rel => exact ⟨_, (false), (by first | rfl | (simp; done) | (simp [*]; done)), H', ⟨by have := HK1.out; first | omega | exact Nat.le_refl _⟩, ⟨by (with_reducible repeat (first | apply Kd.R_alloc | apply Kd.R_drewN | apply Kd.R_drew)); exact HO_7.out⟩, ⟨by repeat (first | (with_reducible first | exact HB.out | apply below_alloc | apply pw_below_drewN | apply below_drew1) | exact HB.out)⟩⟩
      case rest =>
        clear HC7
        try clear p2
        try clear c3
        try clear p6
        try clear c8
        try clear c8b0
        try clear p2
        try clear p6
        obtain ⟨kq, x28_6, rfl, HA, HJ6, HO_7, HB⟩ := hcut
        cases kq with
        | zero => exact absurd HA.out (by simp [koinelaw26_LayoutFills.j1])
        | succ kj6 =>
          have H := HA.out
          clear HA
          simp only [koinelaw26_LayoutFills.j1] at H
          by_cases c9 : x28_6 = true
          · subst c9
            have H1 : (if 0 ≤ x10_1 then (if x10_1 < (l0.length : Int) then (if x10_1 > 0 then ((koinelaw26_gap.f).bind fun t395 => ((koineref25_Seq.f x7_1 t395).bind fun t398 => (if (wrap64 ((wrap64 (x9_1 + 1)) + (wrap64 (1 + (wrap64 (Int.tmod (rd l0 x10_1) 9)))))) ≤ (wrap64 (9 + (wrap64 (Int.tmod a1 40)))) then (if 0 ≤ (wrap64 (1 + (wrap64 (Int.tmod (rd l0 x10_1) 9)))) then (if (wrap64 (1 + (wrap64 (Int.tmod (rd l0 x10_1) 9)))) ≤ 9 then ((koineref25_Text.f ((⟨#[119, 119, 119, 119, 119, 119, 119, 119, 119]⟩ : ByteArray).extract 0 ((wrap64 (1 + (wrap64 (Int.tmod (rd l0 x10_1) 9)))) : Int).toNat)).bind fun t401 => ((koineref25_Seq.f t398 t401).bind fun t404 => (koinelaw26_LayoutFills.l0 kj6 l0 t385 (wrap64 (9 + (wrap64 (Int.tmod a1 40)))) t404 x8_1 (wrap64 ((wrap64 (x9_1 + 1)) + (wrap64 (1 + (wrap64 (Int.tmod (rd l0 x10_1) 9)))))) (wrap64 (x10_1 + 1))))) else (none)) else (none)) else (if 0 ≤ (wrap64 (1 + (wrap64 (Int.tmod (rd l0 x10_1) 9)))) then (if (wrap64 (1 + (wrap64 (Int.tmod (rd l0 x10_1) 9)))) ≤ 9 then ((koineref25_Text.f ((⟨#[119, 119, 119, 119, 119, 119, 119, 119, 119]⟩ : ByteArray).extract 0 ((wrap64 (1 + (wrap64 (Int.tmod (rd l0 x10_1) 9)))) : Int).toNat)).bind fun t407 => ((koineref25_Seq.f t398 t407).bind fun t410 => (koinelaw26_LayoutFills.l0 kj6 l0 t385 (wrap64 (9 + (wrap64 (Int.tmod a1 40)))) t410 (wrap64 (x8_1 + 1)) (wrap64 (1 + (wrap64 (Int.tmod (rd l0 x10_1) 9)))) (wrap64 (x10_1 + 1))))) else (none)) else (none))))) else (if 0 ≤ (wrap64 (1 + (wrap64 (Int.tmod (rd l0 x10_1) 9)))) then (if (wrap64 (1 + (wrap64 (Int.tmod (rd l0 x10_1) 9)))) ≤ 9 then ((koineref25_Text.f ((⟨#[119, 119, 119, 119, 119, 119, 119, 119, 119]⟩ : ByteArray).extract 0 ((wrap64 (1 + (wrap64 (Int.tmod (rd l0 x10_1) 9)))) : Int).toNat)).bind fun t413 => ((koineref25_Seq.f x7_1 t413).bind fun t416 => (koinelaw26_LayoutFills.l0 kj6 l0 t385 (wrap64 (9 + (wrap64 (Int.tmod a1 40)))) t416 x8_1 (wrap64 (1 + (wrap64 (Int.tmod (rd l0 x10_1) 9)))) (wrap64 (x10_1 + 1))))) else (none)) else (none))) else (none)) else (none)) = some r := by rw [if_pos rfl] at H; exact H
            clear H
            have H := H1
            clear H1
            by_cases c10 : 0 ≤ x10_1
            · rw [if_pos c10] at H
              have c10b0 : decide (0 ≤ x10_1) = true := decide_eq_true c10
              clear c10
              by_cases c11 : x10_1 < (l0.length : Int)
              · rw [if_pos c11] at H
                have c11b0 : decide (x10_1 < (l0.length : Int)) = true := decide_eq_true c11
                clear c11
                by_cases c12 : x10_1 > 0
                · rw [if_pos c12] at H
                  have c12b0 : decide (0 < x10_1) = true := decide_eq_true c12
                  clear c12
                  replace H := Option.bind_eq_some_iff.mp H
                  obtain ⟨t395, A130, H⟩ := H
                  replace H : ((koineref25_Seq.f x7_1 t395).bind fun t398 => (if (wrap64 ((wrap64 (x9_1 + 1)) + (wrap64 (1 + (wrap64 (Int.tmod (rd l0 x10_1) 9)))))) ≤ (wrap64 (9 + (wrap64 (Int.tmod a1 40)))) then (if 0 ≤ (wrap64 (1 + (wrap64 (Int.tmod (rd l0 x10_1) 9)))) then (if (wrap64 (1 + (wrap64 (Int.tmod (rd l0 x10_1) 9)))) ≤ 9 then ((koineref25_Text.f ((⟨#[119, 119, 119, 119, 119, 119, 119, 119, 119]⟩ : ByteArray).extract 0 ((wrap64 (1 + (wrap64 (Int.tmod (rd l0 x10_1) 9)))) : Int).toNat)).bind fun t401 => ((koineref25_Seq.f t398 t401).bind fun t404 => (koinelaw26_LayoutFills.l0 kj6 l0 t385 (wrap64 (9 + (wrap64 (Int.tmod a1 40)))) t404 x8_1 (wrap64 ((wrap64 (x9_1 + 1)) + (wrap64 (1 + (wrap64 (Int.tmod (rd l0 x10_1) 9)))))) (wrap64 (x10_1 + 1))))) else (none)) else (none)) else (if 0 ≤ (wrap64 (1 + (wrap64 (Int.tmod (rd l0 x10_1) 9)))) then (if (wrap64 (1 + (wrap64 (Int.tmod (rd l0 x10_1) 9)))) ≤ 9 then ((koineref25_Text.f ((⟨#[119, 119, 119, 119, 119, 119, 119, 119, 119]⟩ : ByteArray).extract 0 ((wrap64 (1 + (wrap64 (Int.tmod (rd l0 x10_1) 9)))) : Int).toNat)).bind fun t407 => ((koineref25_Seq.f t398 t407).bind fun t410 => (koinelaw26_LayoutFills.l0 kj6 l0 t385 (wrap64 (9 + (wrap64 (Int.tmod a1 40)))) t410 (wrap64 (x8_1 + 1)) (wrap64 (1 + (wrap64 (Int.tmod (rd l0 x10_1) 9)))) (wrap64 (x10_1 + 1))))) else (none)) else (none)))) = some r := H
                  have A13 := Aside0.mk A130
                  clear A130
                  replace H := Option.bind_eq_some_iff.mp H
                  obtain ⟨t398, A140, H⟩ := H
                  replace H : (if (wrap64 ((wrap64 (x9_1 + 1)) + (wrap64 (1 + (wrap64 (Int.tmod (rd l0 x10_1) 9)))))) ≤ (wrap64 (9 + (wrap64 (Int.tmod a1 40)))) then (if 0 ≤ (wrap64 (1 + (wrap64 (Int.tmod (rd l0 x10_1) 9)))) then (if (wrap64 (1 + (wrap64 (Int.tmod (rd l0 x10_1) 9)))) ≤ 9 then ((koineref25_Text.f ((⟨#[119, 119, 119, 119, 119, 119, 119, 119, 119]⟩ : ByteArray).extract 0 ((wrap64 (1 + (wrap64 (Int.tmod (rd l0 x10_1) 9)))) : Int).toNat)).bind fun t401 => ((koineref25_Seq.f t398 t401).bind fun t404 => (koinelaw26_LayoutFills.l0 kj6 l0 t385 (wrap64 (9 + (wrap64 (Int.tmod a1 40)))) t404 x8_1 (wrap64 ((wrap64 (x9_1 + 1)) + (wrap64 (1 + (wrap64 (Int.tmod (rd l0 x10_1) 9)))))) (wrap64 (x10_1 + 1))))) else (none)) else (none)) else (if 0 ≤ (wrap64 (1 + (wrap64 (Int.tmod (rd l0 x10_1) 9)))) then (if (wrap64 (1 + (wrap64 (Int.tmod (rd l0 x10_1) 9)))) ≤ 9 then ((koineref25_Text.f ((⟨#[119, 119, 119, 119, 119, 119, 119, 119, 119]⟩ : ByteArray).extract 0 ((wrap64 (1 + (wrap64 (Int.tmod (rd l0 x10_1) 9)))) : Int).toNat)).bind fun t407 => ((koineref25_Seq.f t398 t407).bind fun t410 => (koinelaw26_LayoutFills.l0 kj6 l0 t385 (wrap64 (9 + (wrap64 (Int.tmod a1 40)))) t410 (wrap64 (x8_1 + 1)) (wrap64 (1 + (wrap64 (Int.tmod (rd l0 x10_1) 9)))) (wrap64 (x10_1 + 1))))) else (none)) else (none))) = some r := H
                  have A14 := Aside0.mk A140
                  clear A140
                  by_cases c15 : (wrap64 ((wrap64 (x9_1 + 1)) + (wrap64 (1 + (wrap64 (Int.tmod (rd l0 x10_1) 9)))))) ≤ (wrap64 (9 + (wrap64 (Int.tmod a1 40))))
                  · rw [if_pos c15] at H
                    have c15b0 : decide ((wrap64 ((wrap64 (x9_1 + 1)) + (wrap64 (1 + (wrap64 (Int.tmod (rd l0 x10_1) 9)))))) ≤ (wrap64 (9 + (wrap64 (Int.tmod a1 40))))) = true := decide_eq_true c15
                    clear c15
                    obtain ⟨ji16, hji16⟩ : ∃ j_ : Int, (wrap64 (1 + (wrap64 (Int.tmod (rd l0 x10_1) 9)))) = j_ := ⟨_, rfl⟩
                    replace H : (if 0 ≤ (ji16) then (if (ji16) ≤ 9 then ((koineref25_Text.f ((⟨#[119, 119, 119, 119, 119, 119, 119, 119, 119]⟩ : ByteArray).extract 0 ((ji16) : Int).toNat)).bind fun t401 => ((koineref25_Seq.f t398 t401).bind fun t404 => (koinelaw26_LayoutFills.l0 kj6 l0 t385 (wrap64 (9 + (wrap64 (Int.tmod a1 40)))) t404 x8_1 (wrap64 ((wrap64 (x9_1 + 1)) + (ji16))) (wrap64 (x10_1 + 1))))) else (none)) else (none)) = some r := by first | (rw [hji16] at H; exact H) | (simp only [hji16] at H ⊢; exact H)
                    (try rw [hji16] at c15b0)
                    (try rw [hji16] at A13)
                    (try rw [hji16] at A14)
                    have hji16w : (IntKind.i64.wrap (1 + (wrap64 (Int.tmod (rd l0 x10_1) 9)))) = ji16 := (i64_w _).trans hji16
                    by_cases c17 : 0 ≤ (ji16)
                    · rw [if_pos c17] at H
                      have c17b0 := eq_true c17
                      have c17b1 : decide (0 ≤ (ji16)) = true := decide_eq_true c17
                      clear c17
                      by_cases c18 : (ji16) ≤ 9
                      · rw [if_pos c18] at H
                        have c18b0 := eq_true c18
                        have c18b1 : decide ((ji16) ≤ 9) = true := decide_eq_true c18
                        clear c18
                        replace H := Option.bind_eq_some_iff.mp H
                        obtain ⟨t401, A190, H⟩ := H
                        replace H : ((koineref25_Seq.f t398 t401).bind fun t404 => (koinelaw26_LayoutFills.l0 kj6 l0 t385 (wrap64 (9 + (wrap64 (Int.tmod a1 40)))) t404 x8_1 (wrap64 ((wrap64 (x9_1 + 1)) + (ji16))) (wrap64 (x10_1 + 1)))) = some r := H
                        have A19 := Aside0.mk A190
                        clear A190
                        replace H := Option.bind_eq_some_iff.mp H
                        obtain ⟨t404, A200, H⟩ := H
                        replace H : (koinelaw26_LayoutFills.l0 kj6 l0 t385 (wrap64 (9 + (wrap64 (Int.tmod a1 40)))) t404 x8_1 (wrap64 ((wrap64 (x9_1 + 1)) + (ji16))) (wrap64 (x10_1 + 1))) = some r := H
                        have A20 := Aside0.mk A200
                        clear A200
                        have H' := Aside0.mk H
                        clear H
                        have p394 : 0 ≤ (x10_1 : Int) := of_decide_eq_true (by first | (with_reducible assumption) | assumption)
                        have q394 : x10_1 < (l0.length : Int) := of_decide_eq_true (by first | (with_reducible assumption) | assumption)
                        obtain ⟨ad394, e394, hx394_0⟩ := Kd.at_int HR0.out x10_1 p394 q394
                        cases e394
                        replace hx394_0 := (HB.out.cell (World.block_lt_of_cell? w _ hx394_0)).trans hx394_0
                        replace p394 := eq_true p394
                        replace q394 := eq_true q394
                        go_wp2_with (first | ((with_reducible refine gate_callee (f := 39) rfl ?_); refine goesL_ (some 41) rfl rfl Try.func39 (by kernel_rfl) rfl #[] rfl (by (try simp only [List.map_toArray, List.map_cons, List.map_nil]); first | done | rfl | (simp only [List.length_drop, List.length_take]; rfl)) ?_; (with_reducible refine (koinelaw26_gap.calls  t395 _ A13.out).mono ?_); rintro e w21 ⟨v396, rfl, ho0, hb⟩; refine ⟨_, rfl, ?_⟩; have n0_ := Aside0.mk (Kd.R_elder' (by (with_reducible repeat (first | apply Kd.R_alloc | apply Kd.R_drewN | apply Kd.R_drew)); exact HO_7.out) (Kd.R_base ho0) hb); have n1_ := Aside0.mk (Kd.R_lower (Kd.R_new' ho0 (Kd.R_lt (by (with_reducible repeat (first | apply Kd.R_alloc | apply Kd.R_drewN | apply Kd.R_drew)); exact HO_7.out))) (below_size (by repeat (first | (with_reducible first | exact HB.out | apply below_alloc | apply pw_below_drewN | apply below_drew1) | exact HB.out)))); have n2_ := Aside0.mk (below_step (by repeat (first | (with_reducible first | exact HB.out | apply below_alloc | apply pw_below_drewN | apply below_drew1) | exact HB.out)) hb); clear HO_7; clear HB; have HO_7 := n0_; have HO397 := n1_; have HB := n2_; clear n0_ n1_ n2_; (try clear hb); (try clear hb2); (try clear hk); (try clear hi); (try clear ho0); obtain ⟨Ao22, co22, eo22⟩ := Kd.R_slice HO_7.out; subst eo22; obtain ⟨Ao23, co23, eo23⟩ := Kd.R_slice HO397.out; subst eo23) | ((with_reducible refine gate_callee (f := 35) rfl ?_); refine goesL_ (some 42) rfl rfl Try.func35 (by kernel_rfl) rfl #[.slice Ao22 x7_1.length co22, .slice Ao23 t395.length co23] rfl (by (try simp only [List.map_toArray, List.map_cons, List.map_nil]); first | done | rfl | (simp only [List.length_drop, List.length_take]; rfl)) ?_; (with_reducible refine (koineref25_Seq.calls _ _ x7_1 _ _ t395 t398 _ ?side1 ?side2 ?side3 ?side4 A14.out).mono ?_); (case side1 => repeat (first | exact (Kd.R_reads' HO_7.out).2.2 | (with_reducible refine Kd.C_alloc ?_ _) | (with_reducible refine Kd.C_drewN ?_ _) | (with_reducible refine Kd.C_drew ?_))); (case side2 => exact (Kd.R_reads' HO_7.out).2.1); (case side3 => repeat (first | exact (Kd.R_reads' HO397.out).2.2 | (with_reducible refine Kd.C_alloc ?_ _) | (with_reducible refine Kd.C_drewN ?_ _) | (with_reducible refine Kd.C_drew ?_))); (case side4 => exact (Kd.R_reads' HO397.out).2.1); rintro e w24 ⟨v399, rfl, ho0, hb⟩; refine ⟨_, rfl, ?_⟩; have n0_ := Aside0.mk (Kd.R_elder' (by (with_reducible repeat (first | apply Kd.R_alloc | apply Kd.R_drewN | apply Kd.R_drew)); exact HO_7.out) (Kd.R_base ho0) hb); have n1_ := Aside0.mk (Kd.R_elder' (by (with_reducible repeat (first | apply Kd.R_alloc | apply Kd.R_drewN | apply Kd.R_drew)); exact HO397.out) (Kd.R_base ho0) hb); have n2_ := Aside0.mk (Kd.R_lower (Kd.R_new' (Kd.R_new' ho0 (Kd.R_lt (by (with_reducible repeat (first | apply Kd.R_alloc | apply Kd.R_drewN | apply Kd.R_drew)); exact HO_7.out))) (Kd.R_lt (by (with_reducible repeat (first | apply Kd.R_alloc | apply Kd.R_drewN | apply Kd.R_drew)); exact HO397.out))) (below_size (by repeat (first | (with_reducible first | exact HB.out | apply below_alloc | apply pw_below_drewN | apply below_drew1) | exact HB.out)))); have n3_ := Aside0.mk (below_step (by repeat (first | (with_reducible first | exact HB.out | apply below_alloc | apply pw_below_drewN | apply below_drew1) | exact HB.out)) hb); clear HO_7; clear HO397; clear HB; have HO_7 := n0_; have HO397 := n1_; have HO400 := n2_; have HB := n3_; clear n0_ n1_ n2_ n3_; (try clear hb); (try clear hb2); (try clear hk); (try clear hi); (try clear ho0)) | ((with_reducible refine gate_callee (f := 38) rfl ?_); refine goesL_ (some 60) rfl rfl Try.func38 (by kernel_rfl) rfl #[.string ((⟨#[119, 119, 119, 119, 119, 119, 119, 119, 119]⟩ : ByteArray).extract 0 ((ji16) : Int).toNat)] rfl (by (try simp only [List.map_toArray, List.map_cons, List.map_nil]); first | done | (simp only [hji16]; rfl) | rfl | (simp only [List.length_drop, List.length_take]; rfl)) ?_; (with_reducible refine (koineref25_Text.calls ((⟨#[119, 119, 119, 119, 119, 119, 119, 119, 119]⟩ : ByteArray).extract 0 ((ji16) : Int).toNat) t401 _ A19.out).mono ?_); rintro e w25 ⟨v402, rfl, ho0, hb⟩; refine ⟨_, rfl, ?_⟩; have n0_ := Aside0.mk (Kd.R_elder' (by (with_reducible repeat (first | apply Kd.R_alloc | apply Kd.R_drewN | apply Kd.R_drew)); exact HO_7.out) (Kd.R_base ho0) hb); have n1_ := Aside0.mk (Kd.R_elder' (by (with_reducible repeat (first | apply Kd.R_alloc | apply Kd.R_drewN | apply Kd.R_drew)); exact HO397.out) (Kd.R_base ho0) hb); have n2_ := Aside0.mk (Kd.R_elder' (by (with_reducible repeat (first | apply Kd.R_alloc | apply Kd.R_drewN | apply Kd.R_drew)); exact HO400.out) (Kd.R_base ho0) hb); have n3_ := Aside0.mk (Kd.R_lower (Kd.R_new' (Kd.R_new' (Kd.R_new' ho0 (Kd.R_lt (by (with_reducible repeat (first | apply Kd.R_alloc | apply Kd.R_drewN | apply Kd.R_drew)); exact HO_7.out))) (Kd.R_lt (by (with_reducible repeat (first | apply Kd.R_alloc | apply Kd.R_drewN | apply Kd.R_drew)); exact HO397.out))) (Kd.R_lt (by (with_reducible repeat (first | apply Kd.R_alloc | apply Kd.R_drewN | apply Kd.R_drew)); exact HO400.out))) (below_size (by repeat (first | (with_reducible first | exact HB.out | apply below_alloc | apply pw_below_drewN | apply below_drew1) | exact HB.out)))); have n4_ := Aside0.mk (below_step (by repeat (first | (with_reducible first | exact HB.out | apply below_alloc | apply pw_below_drewN | apply below_drew1) | exact HB.out)) hb); clear HO_7; clear HO397; clear HO400; clear HB; have HO_7 := n0_; have HO397 := n1_; have HO400 := n2_; have HO403 := n3_; have HB := n4_; clear n0_ n1_ n2_ n3_ n4_; (try clear hb); (try clear hb2); (try clear hk); (try clear hi); (try clear ho0); obtain ⟨Ao26, co26, eo26⟩ := Kd.R_slice HO400.out; subst eo26; obtain ⟨Ao27, co27, eo27⟩ := Kd.R_slice HO403.out; subst eo27) | ((with_reducible refine gate_callee (f := 35) rfl ?_); refine goesL_ (some 61) rfl rfl Try.func35 (by kernel_rfl) rfl #[.slice Ao26 t398.length co26, .slice Ao27 t401.length co27] rfl (by (try simp only [List.map_toArray, List.map_cons, List.map_nil]); first | done | rfl | (simp only [List.length_drop, List.length_take]; rfl)) ?_; (with_reducible refine (koineref25_Seq.calls _ _ t398 _ _ t401 t404 _ ?side1 ?side2 ?side3 ?side4 A20.out).mono ?_); (case side1 => repeat (first | exact (Kd.R_reads' HO400.out).2.2 | (with_reducible refine Kd.C_alloc ?_ _) | (with_reducible refine Kd.C_drewN ?_ _) | (with_reducible refine Kd.C_drew ?_))); (case side2 => exact (Kd.R_reads' HO400.out).2.1); (case side3 => repeat (first | exact (Kd.R_reads' HO403.out).2.2 | (with_reducible refine Kd.C_alloc ?_ _) | (with_reducible refine Kd.C_drewN ?_ _) | (with_reducible refine Kd.C_drew ?_))); (case side4 => exact (Kd.R_reads' HO403.out).2.1); rintro e w28 ⟨v405, rfl, ho0, hb⟩; refine ⟨_, rfl, ?_⟩; have n0_ := Aside0.mk (Kd.R_elder' (by (with_reducible repeat (first | apply Kd.R_alloc | apply Kd.R_drewN | apply Kd.R_drew)); exact HO_7.out) (Kd.R_base ho0) hb); have n1_ := Aside0.mk (Kd.R_elder' (by (with_reducible repeat (first | apply Kd.R_alloc | apply Kd.R_drewN | apply Kd.R_drew)); exact HO397.out) (Kd.R_base ho0) hb); have n2_ := Aside0.mk (Kd.R_elder' (by (with_reducible repeat (first | apply Kd.R_alloc | apply Kd.R_drewN | apply Kd.R_drew)); exact HO400.out) (Kd.R_base ho0) hb); have n3_ := Aside0.mk (Kd.R_elder' (by (with_reducible repeat (first | apply Kd.R_alloc | apply Kd.R_drewN | apply Kd.R_drew)); exact HO403.out) (Kd.R_base ho0) hb); have n4_ := Aside0.mk (Kd.R_lower (Kd.R_new' (Kd.R_new' (Kd.R_new' (Kd.R_new' ho0 (Kd.R_lt (by (with_reducible repeat (first | apply Kd.R_alloc | apply Kd.R_drewN | apply Kd.R_drew)); exact HO_7.out))) (Kd.R_lt (by (with_reducible repeat (first | apply Kd.R_alloc | apply Kd.R_drewN | apply Kd.R_drew)); exact HO397.out))) (Kd.R_lt (by (with_reducible repeat (first | apply Kd.R_alloc | apply Kd.R_drewN | apply Kd.R_drew)); exact HO400.out))) (Kd.R_lt (by (with_reducible repeat (first | apply Kd.R_alloc | apply Kd.R_drewN | apply Kd.R_drew)); exact HO403.out))) (below_size (by repeat (first | (with_reducible first | exact HB.out | apply below_alloc | apply pw_below_drewN | apply below_drew1) | exact HB.out)))); have n5_ := Aside0.mk (below_step (by repeat (first | (with_reducible first | exact HB.out | apply below_alloc | apply pw_below_drewN | apply below_drew1) | exact HB.out)) hb); clear HO_7; clear HO397; clear HO400; clear HO403; clear HB; have HO_7 := n0_; have HO397 := n1_; have HO400 := n2_; have HO403 := n3_; have HO406 := n4_; have HB := n5_; clear n0_ n1_ n2_ n3_ n4_ n5_; (try clear hb); (try clear hb2); (try clear hk); (try clear hi); (try clear ho0)))
                        go_roundg kj6
                        case measure => have := HK1.out; have := HJ6.out; omega
                        case rel => exact ⟨(t404), (x8_1), (wrap64 ((wrap64 (x9_1 + 1)) + (ji16))), (wrap64 (x10_1 + 1)), (by first | rfl | (simp; done) | (simp [*]; done)), (by first | rfl | (simp; done) | (simp only [← hji16] <;> (first | rfl | simp)) | (simp [*]; done)), (by first | rfl | (simp; done) | (simp [*]; done)), H', ⟨by have := HK1.out; have := HJ6.out; omega⟩, ⟨by (with_reducible repeat (first | apply Kd.R_alloc | apply Kd.R_drewN | apply Kd.R_drew)); exact Kd.R_mono HO406.out (fun _ hk => trivial)⟩, ⟨by repeat (first | (with_reducible first | exact HB.out | apply below_alloc | apply pw_below_drewN | apply below_drew1) | exact HB.out)⟩⟩
                      · rw [if_neg c18] at H
                        exact absurd H (by simp)
                    · rw [if_neg c17] at H
                      exact absurd H (by simp)
                  · rw [if_neg c15] at H
                    have c15b0 : decide ((wrap64 ((wrap64 (x9_1 + 1)) + (wrap64 (1 + (wrap64 (Int.tmod (rd l0 x10_1) 9)))))) ≤ (wrap64 (9 + (wrap64 (Int.tmod a1 40))))) = false := decide_eq_false c15
                    clear c15
                    obtain ⟨ji29, hji29⟩ : ∃ j_ : Int, (wrap64 (1 + (wrap64 (Int.tmod (rd l0 x10_1) 9)))) = j_ := ⟨_, rfl⟩
                    replace H : (if 0 ≤ (ji29) then (if (ji29) ≤ 9 then ((koineref25_Text.f ((⟨#[119, 119, 119, 119, 119, 119, 119, 119, 119]⟩ : ByteArray).extract 0 ((ji29) : Int).toNat)).bind fun t407 => ((koineref25_Seq.f t398 t407).bind fun t410 => (koinelaw26_LayoutFills.l0 kj6 l0 t385 (wrap64 (9 + (wrap64 (Int.tmod a1 40)))) t410 (wrap64 (x8_1 + 1)) ji29 (wrap64 (x10_1 + 1))))) else (none)) else (none)) = some r := by first | (rw [hji29] at H; exact H) | (simp only [hji29] at H ⊢; exact H)
                    (try rw [hji29] at c15b0)
                    (try rw [hji29] at A13)
                    (try rw [hji29] at A14)
                    have hji29w : (IntKind.i64.wrap (1 + (wrap64 (Int.tmod (rd l0 x10_1) 9)))) = ji29 := (i64_w _).trans hji29
                    by_cases c30 : 0 ≤ (ji29)
                    · rw [if_pos c30] at H
                      have c30b0 := eq_true c30
                      have c30b1 : decide (0 ≤ (ji29)) = true := decide_eq_true c30
                      clear c30
                      by_cases c31 : (ji29) ≤ 9
                      · rw [if_pos c31] at H
                        have c31b0 := eq_true c31
                        have c31b1 : decide ((ji29) ≤ 9) = true := decide_eq_true c31
                        clear c31
                        replace H := Option.bind_eq_some_iff.mp H
                        obtain ⟨t407, A320, H⟩ := H
                        replace H : ((koineref25_Seq.f t398 t407).bind fun t410 => (koinelaw26_LayoutFills.l0 kj6 l0 t385 (wrap64 (9 + (wrap64 (Int.tmod a1 40)))) t410 (wrap64 (x8_1 + 1)) ji29 (wrap64 (x10_1 + 1)))) = some r := H
                        have A32 := Aside0.mk A320
                        clear A320
                        replace H := Option.bind_eq_some_iff.mp H
                        obtain ⟨t410, A330, H⟩ := H
                        replace H : (koinelaw26_LayoutFills.l0 kj6 l0 t385 (wrap64 (9 + (wrap64 (Int.tmod a1 40)))) t410 (wrap64 (x8_1 + 1)) ji29 (wrap64 (x10_1 + 1))) = some r := H
                        have A33 := Aside0.mk A330
                        clear A330
                        have H' := Aside0.mk H
                        clear H
                        have p394 : 0 ≤ (x10_1 : Int) := of_decide_eq_true (by first | (with_reducible assumption) | assumption)
                        have q394 : x10_1 < (l0.length : Int) := of_decide_eq_true (by first | (with_reducible assumption) | assumption)
                        obtain ⟨ad394, e394, hx394_0⟩ := Kd.at_int HR0.out x10_1 p394 q394
                        cases e394
                        replace hx394_0 := (HB.out.cell (World.block_lt_of_cell? w _ hx394_0)).trans hx394_0
                        replace p394 := eq_true p394
                        replace q394 := eq_true q394
                        go_wp2_with (first | ((with_reducible refine gate_callee (f := 39) rfl ?_); refine goesL_ (some 41) rfl rfl Try.func39 (by kernel_rfl) rfl #[] rfl (by (try simp only [List.map_toArray, List.map_cons, List.map_nil]); first | done | rfl | (simp only [List.length_drop, List.length_take]; rfl)) ?_; (with_reducible refine (koinelaw26_gap.calls  t395 _ A13.out).mono ?_); rintro e w34 ⟨v396, rfl, ho0, hb⟩; refine ⟨_, rfl, ?_⟩; have n0_ := Aside0.mk (Kd.R_elder' (by (with_reducible repeat (first | apply Kd.R_alloc | apply Kd.R_drewN | apply Kd.R_drew)); exact HO_7.out) (Kd.R_base ho0) hb); have n1_ := Aside0.mk (Kd.R_lower (Kd.R_new' ho0 (Kd.R_lt (by (with_reducible repeat (first | apply Kd.R_alloc | apply Kd.R_drewN | apply Kd.R_drew)); exact HO_7.out))) (below_size (by repeat (first | (with_reducible first | exact HB.out | apply below_alloc | apply pw_below_drewN | apply below_drew1) | exact HB.out)))); have n2_ := Aside0.mk (below_step (by repeat (first | (with_reducible first | exact HB.out | apply below_alloc | apply pw_below_drewN | apply below_drew1) | exact HB.out)) hb); clear HO_7; clear HB; have HO_7 := n0_; have HO397 := n1_; have HB := n2_; clear n0_ n1_ n2_; (try clear hb); (try clear hb2); (try clear hk); (try clear hi); (try clear ho0); obtain ⟨Ao35, co35, eo35⟩ := Kd.R_slice HO_7.out; subst eo35; obtain ⟨Ao36, co36, eo36⟩ := Kd.R_slice HO397.out; subst eo36) | ((with_reducible refine gate_callee (f := 35) rfl ?_); refine goesL_ (some 42) rfl rfl Try.func35 (by kernel_rfl) rfl #[.slice Ao35 x7_1.length co35, .slice Ao36 t395.length co36] rfl (by (try simp only [List.map_toArray, List.map_cons, List.map_nil]); first | done | rfl | (simp only [List.length_drop, List.length_take]; rfl)) ?_; (with_reducible refine (koineref25_Seq.calls _ _ x7_1 _ _ t395 t398 _ ?side1 ?side2 ?side3 ?side4 A14.out).mono ?_); (case side1 => repeat (first | exact (Kd.R_reads' HO_7.out).2.2 | (with_reducible refine Kd.C_alloc ?_ _) | (with_reducible refine Kd.C_drewN ?_ _) | (with_reducible refine Kd.C_drew ?_))); (case side2 => exact (Kd.R_reads' HO_7.out).2.1); (case side3 => repeat (first | exact (Kd.R_reads' HO397.out).2.2 | (with_reducible refine Kd.C_alloc ?_ _) | (with_reducible refine Kd.C_drewN ?_ _) | (with_reducible refine Kd.C_drew ?_))); (case side4 => exact (Kd.R_reads' HO397.out).2.1); rintro e w37 ⟨v399, rfl, ho0, hb⟩; refine ⟨_, rfl, ?_⟩; have n0_ := Aside0.mk (Kd.R_elder' (by (with_reducible repeat (first | apply Kd.R_alloc | apply Kd.R_drewN | apply Kd.R_drew)); exact HO_7.out) (Kd.R_base ho0) hb); have n1_ := Aside0.mk (Kd.R_elder' (by (with_reducible repeat (first | apply Kd.R_alloc | apply Kd.R_drewN | apply Kd.R_drew)); exact HO397.out) (Kd.R_base ho0) hb); have n2_ := Aside0.mk (Kd.R_lower (Kd.R_new' (Kd.R_new' ho0 (Kd.R_lt (by (with_reducible repeat (first | apply Kd.R_alloc | apply Kd.R_drewN | apply Kd.R_drew)); exact HO_7.out))) (Kd.R_lt (by (with_reducible repeat (first | apply Kd.R_alloc | apply Kd.R_drewN | apply Kd.R_drew)); exact HO397.out))) (below_size (by repeat (first | (with_reducible first | exact HB.out | apply below_alloc | apply pw_below_drewN | apply below_drew1) | exact HB.out)))); have n3_ := Aside0.mk (below_step (by repeat (first | (with_reducible first | exact HB.out | apply below_alloc | apply pw_below_drewN | apply below_drew1) | exact HB.out)) hb); clear HO_7; clear HO397; clear HB; have HO_7 := n0_; have HO397 := n1_; have HO400 := n2_; have HB := n3_; clear n0_ n1_ n2_ n3_; (try clear hb); (try clear hb2); (try clear hk); (try clear hi); (try clear ho0)) | ((with_reducible refine gate_callee (f := 38) rfl ?_); refine goesL_ (some 60) rfl rfl Try.func38 (by kernel_rfl) rfl #[.string ((⟨#[119, 119, 119, 119, 119, 119, 119, 119, 119]⟩ : ByteArray).extract 0 ((ji29) : Int).toNat)] rfl (by (try simp only [List.map_toArray, List.map_cons, List.map_nil]); first | done | (simp only [hji29]; rfl) | rfl | (simp only [List.length_drop, List.length_take]; rfl)) ?_; (with_reducible refine (koineref25_Text.calls ((⟨#[119, 119, 119, 119, 119, 119, 119, 119, 119]⟩ : ByteArray).extract 0 ((ji29) : Int).toNat) t407 _ A32.out).mono ?_); rintro e w38 ⟨v408, rfl, ho0, hb⟩; refine ⟨_, rfl, ?_⟩; have n0_ := Aside0.mk (Kd.R_elder' (by (with_reducible repeat (first | apply Kd.R_alloc | apply Kd.R_drewN | apply Kd.R_drew)); exact HO_7.out) (Kd.R_base ho0) hb); have n1_ := Aside0.mk (Kd.R_elder' (by (with_reducible repeat (first | apply Kd.R_alloc | apply Kd.R_drewN | apply Kd.R_drew)); exact HO397.out) (Kd.R_base ho0) hb); have n2_ := Aside0.mk (Kd.R_elder' (by (with_reducible repeat (first | apply Kd.R_alloc | apply Kd.R_drewN | apply Kd.R_drew)); exact HO400.out) (Kd.R_base ho0) hb); have n3_ := Aside0.mk (Kd.R_lower (Kd.R_new' (Kd.R_new' (Kd.R_new' ho0 (Kd.R_lt (by (with_reducible repeat (first | apply Kd.R_alloc | apply Kd.R_drewN | apply Kd.R_drew)); exact HO_7.out))) (Kd.R_lt (by (with_reducible repeat (first | apply Kd.R_alloc | apply Kd.R_drewN | apply Kd.R_drew)); exact HO397.out))) (Kd.R_lt (by (with_reducible repeat (first | apply Kd.R_alloc | apply Kd.R_drewN | apply Kd.R_drew)); exact HO400.out))) (below_size (by repeat (first | (with_reducible first | exact HB.out | apply below_alloc | apply pw_below_drewN | apply below_drew1) | exact HB.out)))); have n4_ := Aside0.mk (below_step (by repeat (first | (with_reducible first | exact HB.out | apply below_alloc | apply pw_below_drewN | apply below_drew1) | exact HB.out)) hb); clear HO_7; clear HO397; clear HO400; clear HB; have HO_7 := n0_; have HO397 := n1_; have HO400 := n2_; have HO409 := n3_; have HB := n4_; clear n0_ n1_ n2_ n3_ n4_; (try clear hb); (try clear hb2); (try clear hk); (try clear hi); (try clear ho0); obtain ⟨Ao39, co39, eo39⟩ := Kd.R_slice HO400.out; subst eo39; obtain ⟨Ao40, co40, eo40⟩ := Kd.R_slice HO409.out; subst eo40) | ((with_reducible refine gate_callee (f := 35) rfl ?_); refine goesL_ (some 61) rfl rfl Try.func35 (by kernel_rfl) rfl #[.slice Ao39 t398.length co39, .slice Ao40 t407.length co40] rfl (by (try simp only [List.map_toArray, List.map_cons, List.map_nil]); first | done | rfl | (simp only [List.length_drop, List.length_take]; rfl)) ?_; (with_reducible refine (koineref25_Seq.calls _ _ t398 _ _ t407 t410 _ ?side1 ?side2 ?side3 ?side4 A33.out).mono ?_); (case side1 => repeat (first | exact (Kd.R_reads' HO400.out).2.2 | (with_reducible refine Kd.C_alloc ?_ _) | (with_reducible refine Kd.C_drewN ?_ _) | (with_reducible refine Kd.C_drew ?_))); (case side2 => exact (Kd.R_reads' HO400.out).2.1); (case side3 => repeat (first | exact (Kd.R_reads' HO409.out).2.2 | (with_reducible refine Kd.C_alloc ?_ _) | (with_reducible refine Kd.C_drewN ?_ _) | (with_reducible refine Kd.C_drew ?_))); (case side4 => exact (Kd.R_reads' HO409.out).2.1); rintro e w41 ⟨v411, rfl, ho0, hb⟩; refine ⟨_, rfl, ?_⟩; have n0_ := Aside0.mk (Kd.R_elder' (by (with_reducible repeat (first | apply Kd.R_alloc | apply Kd.R_drewN | apply Kd.R_drew)); exact HO_7.out) (Kd.R_base ho0) hb); have n1_ := Aside0.mk (Kd.R_elder' (by (with_reducible repeat (first | apply Kd.R_alloc | apply Kd.R_drewN | apply Kd.R_drew)); exact HO397.out) (Kd.R_base ho0) hb); have n2_ := Aside0.mk (Kd.R_elder' (by (with_reducible repeat (first | apply Kd.R_alloc | apply Kd.R_drewN | apply Kd.R_drew)); exact HO400.out) (Kd.R_base ho0) hb); have n3_ := Aside0.mk (Kd.R_elder' (by (with_reducible repeat (first | apply Kd.R_alloc | apply Kd.R_drewN | apply Kd.R_drew)); exact HO409.out) (Kd.R_base ho0) hb); have n4_ := Aside0.mk (Kd.R_lower (Kd.R_new' (Kd.R_new' (Kd.R_new' (Kd.R_new' ho0 (Kd.R_lt (by (with_reducible repeat (first | apply Kd.R_alloc | apply Kd.R_drewN | apply Kd.R_drew)); exact HO_7.out))) (Kd.R_lt (by (with_reducible repeat (first | apply Kd.R_alloc | apply Kd.R_drewN | apply Kd.R_drew)); exact HO397.out))) (Kd.R_lt (by (with_reducible repeat (first | apply Kd.R_alloc | apply Kd.R_drewN | apply Kd.R_drew)); exact HO400.out))) (Kd.R_lt (by (with_reducible repeat (first | apply Kd.R_alloc | apply Kd.R_drewN | apply Kd.R_drew)); exact HO409.out))) (below_size (by repeat (first | (with_reducible first | exact HB.out | apply below_alloc | apply pw_below_drewN | apply below_drew1) | exact HB.out)))); have n5_ := Aside0.mk (below_step (by repeat (first | (with_reducible first | exact HB.out | apply below_alloc | apply pw_below_drewN | apply below_drew1) | exact HB.out)) hb); clear HO_7; clear HO397; clear HO400; clear HO409; clear HB; have HO_7 := n0_; have HO397 := n1_; have HO400 := n2_; have HO409 := n3_; have HO412 := n4_; have HB := n5_; clear n0_ n1_ n2_ n3_ n4_ n5_; (try clear hb); (try clear hb2); (try clear hk); (try clear hi); (try clear ho0)))
                        go_roundg kj6
                        case measure => have := HK1.out; have := HJ6.out; omega
                        case rel => exact ⟨(t410), (wrap64 (x8_1 + 1)), (ji29), (wrap64 (x10_1 + 1)), (by first | rfl | (simp; done) | (simp [*]; done)), (by first | rfl | (simp; done) | (simp only [← hji29] <;> (first | rfl | simp)) | (simp [*]; done)), (by first | rfl | (simp; done) | (simp [*]; done)), H', ⟨by have := HK1.out; have := HJ6.out; omega⟩, ⟨by (with_reducible repeat (first | apply Kd.R_alloc | apply Kd.R_drewN | apply Kd.R_drew)); exact Kd.R_mono HO412.out (fun _ hk => trivial)⟩, ⟨by repeat (first | (with_reducible first | exact HB.out | apply below_alloc | apply pw_below_drewN | apply below_drew1) | exact HB.out)⟩⟩
                      · rw [if_neg c31] at H
                        exact absurd H (by simp)
                    · rw [if_neg c30] at H
                      exact absurd H (by simp)
                · rw [if_neg c12] at H
                  have c12b0 : decide (0 < x10_1) = false := decide_eq_false c12
                  clear c12
                  obtain ⟨ji42, hji42⟩ : ∃ j_ : Int, (wrap64 (1 + (wrap64 (Int.tmod (rd l0 x10_1) 9)))) = j_ := ⟨_, rfl⟩
                  replace H : (if 0 ≤ (ji42) then (if (ji42) ≤ 9 then ((koineref25_Text.f ((⟨#[119, 119, 119, 119, 119, 119, 119, 119, 119]⟩ : ByteArray).extract 0 ((ji42) : Int).toNat)).bind fun t413 => ((koineref25_Seq.f x7_1 t413).bind fun t416 => (koinelaw26_LayoutFills.l0 kj6 l0 t385 (wrap64 (9 + (wrap64 (Int.tmod a1 40)))) t416 x8_1 ji42 (wrap64 (x10_1 + 1))))) else (none)) else (none)) = some r := by first | (rw [hji42] at H; exact H) | (simp only [hji42] at H ⊢; exact H)
                  have hji42w : (IntKind.i64.wrap (1 + (wrap64 (Int.tmod (rd l0 x10_1) 9)))) = ji42 := (i64_w _).trans hji42
                  by_cases c43 : 0 ≤ (ji42)
                  · rw [if_pos c43] at H
                    have c43b0 := eq_true c43
                    have c43b1 : decide (0 ≤ (ji42)) = true := decide_eq_true c43
                    clear c43
                    by_cases c44 : (ji42) ≤ 9
                    · rw [if_pos c44] at H
                      have c44b0 := eq_true c44
                      have c44b1 : decide ((ji42) ≤ 9) = true := decide_eq_true c44
                      clear c44
                      replace H := Option.bind_eq_some_iff.mp H
                      obtain ⟨t413, A450, H⟩ := H
                      replace H : ((koineref25_Seq.f x7_1 t413).bind fun t416 => (koinelaw26_LayoutFills.l0 kj6 l0 t385 (wrap64 (9 + (wrap64 (Int.tmod a1 40)))) t416 x8_1 ji42 (wrap64 (x10_1 + 1)))) = some r := H
                      have A45 := Aside0.mk A450
                      clear A450
                      replace H := Option.bind_eq_some_iff.mp H
                      obtain ⟨t416, A460, H⟩ := H
                      replace H : (koinelaw26_LayoutFills.l0 kj6 l0 t385 (wrap64 (9 + (wrap64 (Int.tmod a1 40)))) t416 x8_1 ji42 (wrap64 (x10_1 + 1))) = some r := H
                      have A46 := Aside0.mk A460
                      clear A460
                      have H' := Aside0.mk H
                      clear H
                      have p394 : 0 ≤ (x10_1 : Int) := of_decide_eq_true (by first | (with_reducible assumption) | assumption)
                      have q394 : x10_1 < (l0.length : Int) := of_decide_eq_true (by first | (with_reducible assumption) | assumption)
                      obtain ⟨ad394, e394, hx394_0⟩ := Kd.at_int HR0.out x10_1 p394 q394
                      cases e394
                      replace hx394_0 := (HB.out.cell (World.block_lt_of_cell? w _ hx394_0)).trans hx394_0
                      replace p394 := eq_true p394
                      replace q394 := eq_true q394
                      go_wp2_with (first | ((with_reducible refine gate_callee (f := 38) rfl ?_); refine goesL_ (some 60) rfl rfl Try.func38 (by kernel_rfl) rfl #[.string ((⟨#[119, 119, 119, 119, 119, 119, 119, 119, 119]⟩ : ByteArray).extract 0 ((ji42) : Int).toNat)] rfl (by (try simp only [List.map_toArray, List.map_cons, List.map_nil]); first | done | (simp only [hji42]; rfl) | rfl | (simp only [List.length_drop, List.length_take]; rfl)) ?_; (with_reducible refine (koineref25_Text.calls ((⟨#[119, 119, 119, 119, 119, 119, 119, 119, 119]⟩ : ByteArray).extract 0 ((ji42) : Int).toNat) t413 _ A45.out).mono ?_); rintro e w47 ⟨v414, rfl, ho0, hb⟩; refine ⟨_, rfl, ?_⟩; have n0_ := Aside0.mk (Kd.R_elder' (by (with_reducible repeat (first | apply Kd.R_alloc | apply Kd.R_drewN | apply Kd.R_drew)); exact HO_7.out) (Kd.R_base ho0) hb); have n1_ := Aside0.mk (Kd.R_lower (Kd.R_new' ho0 (Kd.R_lt (by (with_reducible repeat (first | apply Kd.R_alloc | apply Kd.R_drewN | apply Kd.R_drew)); exact HO_7.out))) (below_size (by repeat (first | (with_reducible first | exact HB.out | apply below_alloc | apply pw_below_drewN | apply below_drew1) | exact HB.out)))); have n2_ := Aside0.mk (below_step (by repeat (first | (with_reducible first | exact HB.out | apply below_alloc | apply pw_below_drewN | apply below_drew1) | exact HB.out)) hb); clear HO_7; clear HB; have HO_7 := n0_; have HO415 := n1_; have HB := n2_; clear n0_ n1_ n2_; (try clear hb); (try clear hb2); (try clear hk); (try clear hi); (try clear ho0); obtain ⟨Ao48, co48, eo48⟩ := Kd.R_slice HO_7.out; subst eo48; obtain ⟨Ao49, co49, eo49⟩ := Kd.R_slice HO415.out; subst eo49) | ((with_reducible refine gate_callee (f := 35) rfl ?_); refine goesL_ (some 61) rfl rfl Try.func35 (by kernel_rfl) rfl #[.slice Ao48 x7_1.length co48, .slice Ao49 t413.length co49] rfl (by (try simp only [List.map_toArray, List.map_cons, List.map_nil]); first | done | rfl | (simp only [List.length_drop, List.length_take]; rfl)) ?_; (with_reducible refine (koineref25_Seq.calls _ _ x7_1 _ _ t413 t416 _ ?side1 ?side2 ?side3 ?side4 A46.out).mono ?_); (case side1 => repeat (first | exact (Kd.R_reads' HO_7.out).2.2 | (with_reducible refine Kd.C_alloc ?_ _) | (with_reducible refine Kd.C_drewN ?_ _) | (with_reducible refine Kd.C_drew ?_))); (case side2 => exact (Kd.R_reads' HO_7.out).2.1); (case side3 => repeat (first | exact (Kd.R_reads' HO415.out).2.2 | (with_reducible refine Kd.C_alloc ?_ _) | (with_reducible refine Kd.C_drewN ?_ _) | (with_reducible refine Kd.C_drew ?_))); (case side4 => exact (Kd.R_reads' HO415.out).2.1); rintro e w50 ⟨v417, rfl, ho0, hb⟩; refine ⟨_, rfl, ?_⟩; have n0_ := Aside0.mk (Kd.R_elder' (by (with_reducible repeat (first | apply Kd.R_alloc | apply Kd.R_drewN | apply Kd.R_drew)); exact HO_7.out) (Kd.R_base ho0) hb); have n1_ := Aside0.mk (Kd.R_elder' (by (with_reducible repeat (first | apply Kd.R_alloc | apply Kd.R_drewN | apply Kd.R_drew)); exact HO415.out) (Kd.R_base ho0) hb); have n2_ := Aside0.mk (Kd.R_lower (Kd.R_new' (Kd.R_new' ho0 (Kd.R_lt (by (with_reducible repeat (first | apply Kd.R_alloc | apply Kd.R_drewN | apply Kd.R_drew)); exact HO_7.out))) (Kd.R_lt (by (with_reducible repeat (first | apply Kd.R_alloc | apply Kd.R_drewN | apply Kd.R_drew)); exact HO415.out))) (below_size (by repeat (first | (with_reducible first | exact HB.out | apply below_alloc | apply pw_below_drewN | apply below_drew1) | exact HB.out)))); have n3_ := Aside0.mk (below_step (by repeat (first | (with_reducible first | exact HB.out | apply below_alloc | apply pw_below_drewN | apply below_drew1) | exact HB.out)) hb); clear HO_7; clear HO415; clear HB; have HO_7 := n0_; have HO415 := n1_; have HO418 := n2_; have HB := n3_; clear n0_ n1_ n2_ n3_; (try clear hb); (try clear hb2); (try clear hk); (try clear hi); (try clear ho0)))
                      go_roundg kj6
                      case measure => have := HK1.out; have := HJ6.out; omega
                      case rel => exact ⟨(t416), (x8_1), (ji42), (wrap64 (x10_1 + 1)), (by first | rfl | (simp; done) | (simp [*]; done)), (by first | rfl | (simp; done) | (simp only [← hji42] <;> (first | rfl | simp)) | (simp [*]; done)), (by first | rfl | (simp; done) | (simp [*]; done)), H', ⟨by have := HK1.out; have := HJ6.out; omega⟩, ⟨by (with_reducible repeat (first | apply Kd.R_alloc | apply Kd.R_drewN | apply Kd.R_drew)); exact Kd.R_mono HO418.out (fun _ hk => trivial)⟩, ⟨by repeat (first | (with_reducible first | exact HB.out | apply below_alloc | apply pw_below_drewN | apply below_drew1) | exact HB.out)⟩⟩
                    · rw [if_neg c44] at H
                      exact absurd H (by simp)
                  · rw [if_neg c43] at H
                    exact absurd H (by simp)
              · rw [if_neg c11] at H
                exact absurd H (by simp)
            · rw [if_neg c10] at H
              exact absurd H (by simp)
          · replace c9 := Bool.eq_false_iff.mpr c9
            subst c9
            have H1 : ((layout_Best.f x7_1 (wrap64 (9 + (wrap64 (Int.tmod a1 40))))).bind fun bt389 => (if bt389.2.2.2 = 0 then (if (bt389.2.1 == 0 && (bt389.2.2.1 == x8_1)) = true then (some t385) else (some false)) else (some false))) = some r := by rw [if_neg (show ¬ (false = true) by decide)] at H; exact H
            clear H
            have H := H1
            clear H1
            replace H := Option.bind_eq_some_iff.mp H
            obtain ⟨⟨t389, t390, t391, t392⟩, A510, H⟩ := H
            replace H : (if t392 = 0 then (if (t390 == 0 && (t391 == x8_1)) = true then (some t385) else (some false)) else (some false)) = some r := H
            have A51 := Aside0.mk A510
            clear A510
            by_cases c52 : t392 = 0
            · rw [if_pos c52] at H
              have c52b0 : (t392 == 0) = true := beq_iff_eq.mpr c52
              have c52b1 : (t392 != 0) = false := bne_eq_false_iff_eq.mpr c52
              clear c52
              by_cases c53 : (t390 == 0 && (t391 == x8_1)) = true
              · rw [if_pos c53] at H
                have c53b0 : (t390 == 0 && (t391 == x8_1)) = true := c53
                (try (have c53b1 : decide (t390 = 0 && (t391 == x8_1)) = true := by simpa using c53))
                (try (have c53b2 : (t390 == 0 && (t391 == x8_1)) = true := by simpa using c53))
                clear c53
                obtain rfl := Option.some.inj H
                obtain ⟨Ao54, co54, eo54⟩ := Kd.R_slice HO_7.out
                subst eo54
                go_wp2_with (first | ((with_reducible refine gate_callee (f := 34) rfl ?_); refine goesL_ (some 65) rfl rfl Try.func34 (by kernel_rfl) rfl #[.slice Ao54 x7_1.length co54, .int .i64 (wrap64 (9 + (wrap64 (Int.tmod a1 40))))] rfl (by (try simp only [List.map_toArray, List.map_cons, List.map_nil]); first | done | rfl | (simp only [List.length_drop, List.length_take]; rfl)) ?_; (with_reducible refine (layout_Best.calls _ _ x7_1 (wrap64 (9 + (wrap64 (Int.tmod a1 40)))) t389 t390 t391 t392 _ ?side1 ?side2 A51.out).mono ?_); (case side1 => repeat (first | exact (Kd.R_reads' HO_7.out).2.2 | (with_reducible refine Kd.C_alloc ?_ _) | (with_reducible refine Kd.C_drewN ?_ _) | (with_reducible refine Kd.C_drew ?_))); (case side2 => exact (Kd.R_reads' HO_7.out).2.1); rintro e w55 ⟨rfl, hb⟩; refine ⟨_, rfl, ?_⟩; have n0_ := Aside0.mk (Kd.R_below (by (with_reducible repeat (first | apply Kd.R_alloc | apply Kd.R_drewN | apply Kd.R_drew)); exact HO_7.out) hb); have n1_ := Aside0.mk (below_step (by repeat (first | (with_reducible first | exact HB.out | apply below_alloc | apply pw_below_drewN | apply below_drew1) | exact HB.out)) hb); clear HO_7; clear HB; have HO_7 := n0_; have HB := n1_; clear n0_ n1_; (try clear hb); (try clear hb2); (try clear hk); (try clear hi)) | ((with_reducible refine gate_dst (N := 13) rfl ?_); refine box_event ?hg (N := 13) ?hd (cs := #[.int .i64 0, .int .i64 0]) (t := 36) ?hr ?_; (case hd => rfl); (case hg => rfl); (case hr => first | (go_simp; done) | (go_simp; rfl)); intro gb393 hg w56 hbox hb; have n0_ := Aside0.mk (Kd.R_below (by (with_reducible repeat (first | apply Kd.R_alloc | apply Kd.R_drewN | apply Kd.R_drew)); exact HO_7.out) hb); have n1_ := Aside0.mk (below_step (by repeat (first | (with_reducible first | exact HB.out | apply below_alloc | apply pw_below_drewN | apply below_drew1) | exact HB.out)) hb); have n2_ := Aside0.mk (hbox); have n3_ := Aside0.mk ((by rw [hg]; exact (below_size (by repeat (first | (with_reducible first | exact HB.out | apply below_alloc | apply pw_below_drewN | apply below_drew1) | exact HB.out))) : w.heap.size ≤ gb393)); have n4_ := Aside0.mk ((by rw [hg]; exact (below_size (by repeat (first | (with_reducible first | exact HB.out | apply below_alloc | apply pw_below_drewN | apply below_drew1) | exact HB.out))) : w.heap.size ≤ gb393)); clear HO_7; clear HB; have HO_7 := n0_; have HB := n1_; have BK393 := n2_; have GW393 := n3_; have GE393 := n4_; clear n0_ n1_ n2_ n3_ n4_; clear hb hbox hg; have hcz57_0 : w56.cell? ⟨gb393, 0, none⟩ = some (.int .i64 0) := (blk_cell BK393.out 0).trans rfl; have hcz57_1 : w56.cell? ⟨gb393, 1, none⟩ = some (.int .i64 0) := (blk_cell BK393.out 1).trans rfl; have hfz57_0 := blk_frozen BK393.out 0; have hfz57_1 := blk_frozen BK393.out 1))
                go_ret
                exact ⟨by first | rfl | (simp [errW_none, errW_some] <;> rfl) | (simp [*, errW_none, errW_some] <;> rfl), by repeat (first | (with_reducible first | exact HB.out | apply below_alloc | apply pw_below_drewN | apply below_drew1 | refine below_set ?_ GE393.out) | exact HB.out)⟩
              · rw [if_neg c53] at H
                have c53b0 : (t390 == 0 && (t391 == x8_1)) = false := by simpa using c53
                (try (have c53b1 : decide (t390 = 0 && (t391 == x8_1)) = false := by simpa using c53))
                (try (have c53b2 : (t390 == 0 && (t391 == x8_1)) = false := by simpa using c53))
                (try (have c53b3 : ¬ (t390 = 0 && (t391 == x8_1)) := by simpa using c53))
                clear c53
                obtain rfl := Option.some.inj H
                obtain ⟨Ao58, co58, eo58⟩ := Kd.R_slice HO_7.out
                subst eo58
                go_wp2_with (first | ((with_reducible refine gate_callee (f := 34) rfl ?_); refine goesL_ (some 65) rfl rfl Try.func34 (by kernel_rfl) rfl #[.slice Ao58 x7_1.length co58, .int .i64 (wrap64 (9 + (wrap64 (Int.tmod a1 40))))] rfl (by (try simp only [List.map_toArray, List.map_cons, List.map_nil]); first | done | rfl | (simp only [List.length_drop, List.length_take]; rfl)) ?_; (with_reducible refine (layout_Best.calls _ _ x7_1 (wrap64 (9 + (wrap64 (Int.tmod a1 40)))) t389 t390 t391 t392 _ ?side1 ?side2 A51.out).mono ?_); (case side1 => repeat (first | exact (Kd.R_reads' HO_7.out).2.2 | (with_reducible refine Kd.C_alloc ?_ _) | (with_reducible refine Kd.C_drewN ?_ _) | (with_reducible refine Kd.C_drew ?_))); (case side2 => exact (Kd.R_reads' HO_7.out).2.1); rintro e w59 ⟨rfl, hb⟩; refine ⟨_, rfl, ?_⟩; have n0_ := Aside0.mk (Kd.R_below (by (with_reducible repeat (first | apply Kd.R_alloc | apply Kd.R_drewN | apply Kd.R_drew)); exact HO_7.out) hb); have n1_ := Aside0.mk (below_step (by repeat (first | (with_reducible first | exact HB.out | apply below_alloc | apply pw_below_drewN | apply below_drew1) | exact HB.out)) hb); clear HO_7; clear HB; have HO_7 := n0_; have HB := n1_; clear n0_ n1_; (try clear hb); (try clear hb2); (try clear hk); (try clear hi)) | ((with_reducible refine gate_dst (N := 13) rfl ?_); refine box_event ?hg (N := 13) ?hd (cs := #[.int .i64 0, .int .i64 0]) (t := 36) ?hr ?_; (case hd => rfl); (case hg => rfl); (case hr => first | (go_simp; done) | (go_simp; rfl)); intro gb393 hg w60 hbox hb; have n0_ := Aside0.mk (Kd.R_below (by (with_reducible repeat (first | apply Kd.R_alloc | apply Kd.R_drewN | apply Kd.R_drew)); exact HO_7.out) hb); have n1_ := Aside0.mk (below_step (by repeat (first | (with_reducible first | exact HB.out | apply below_alloc | apply pw_below_drewN | apply below_drew1) | exact HB.out)) hb); have n2_ := Aside0.mk (hbox); have n3_ := Aside0.mk ((by rw [hg]; exact (below_size (by repeat (first | (with_reducible first | exact HB.out | apply below_alloc | apply pw_below_drewN | apply below_drew1) | exact HB.out))) : w.heap.size ≤ gb393)); have n4_ := Aside0.mk ((by rw [hg]; exact (below_size (by repeat (first | (with_reducible first | exact HB.out | apply below_alloc | apply pw_below_drewN | apply below_drew1) | exact HB.out))) : w.heap.size ≤ gb393)); clear HO_7; clear HB; have HO_7 := n0_; have HB := n1_; have BK393 := n2_; have GW393 := n3_; have GE393 := n4_; clear n0_ n1_ n2_ n3_ n4_; clear hb hbox hg; have hcz61_0 : w60.cell? ⟨gb393, 0, none⟩ = some (.int .i64 0) := (blk_cell BK393.out 0).trans rfl; have hcz61_1 : w60.cell? ⟨gb393, 1, none⟩ = some (.int .i64 0) := (blk_cell BK393.out 1).trans rfl; have hfz61_0 := blk_frozen BK393.out 0; have hfz61_1 := blk_frozen BK393.out 1))
                go_ret
                exact ⟨by first | rfl | (simp [errW_none, errW_some] <;> rfl) | (simp [*, errW_none, errW_some] <;> rfl), by repeat (first | (with_reducible first | exact HB.out | apply below_alloc | apply pw_below_drewN | apply below_drew1 | refine below_set ?_ GE393.out) | exact HB.out)⟩
            · rw [if_neg c52] at H
              have c52b0 : (t392 == 0) = false := beq_eq_false_iff_ne.mpr c52
              have c52b1 : (t392 != 0) = true := bne_iff_ne.mpr c52
              obtain rfl := Option.some.inj H
              obtain ⟨Ao62, co62, eo62⟩ := Kd.R_slice HO_7.out
              subst eo62
              go_wp2_with (first | ((with_reducible refine gate_callee (f := 34) rfl ?_); refine goesL_ (some 65) rfl rfl Try.func34 (by kernel_rfl) rfl #[.slice Ao62 x7_1.length co62, .int .i64 (wrap64 (9 + (wrap64 (Int.tmod a1 40))))] rfl (by (try simp only [List.map_toArray, List.map_cons, List.map_nil]); first | done | rfl | (simp only [List.length_drop, List.length_take]; rfl)) ?_; (with_reducible refine (layout_Best.calls _ _ x7_1 (wrap64 (9 + (wrap64 (Int.tmod a1 40)))) t389 t390 t391 t392 _ ?side1 ?side2 A51.out).mono ?_); (case side1 => repeat (first | exact (Kd.R_reads' HO_7.out).2.2 | (with_reducible refine Kd.C_alloc ?_ _) | (with_reducible refine Kd.C_drewN ?_ _) | (with_reducible refine Kd.C_drew ?_))); (case side2 => exact (Kd.R_reads' HO_7.out).2.1); rintro e w63 ⟨rfl, hb⟩; refine ⟨_, rfl, ?_⟩; have n0_ := Aside0.mk (Kd.R_below (by (with_reducible repeat (first | apply Kd.R_alloc | apply Kd.R_drewN | apply Kd.R_drew)); exact HO_7.out) hb); have n1_ := Aside0.mk (below_step (by repeat (first | (with_reducible first | exact HB.out | apply below_alloc | apply pw_below_drewN | apply below_drew1) | exact HB.out)) hb); clear HO_7; clear HB; have HO_7 := n0_; have HB := n1_; clear n0_ n1_; (try clear hb); (try clear hb2); (try clear hk); (try clear hi)) | ((with_reducible refine gate_dst (N := 13) rfl ?_); refine box_event ?hg (N := 13) ?hd (cs := #[.int .i64 0, .int .i64 0]) (t := 36) ?hr ?_; (case hd => rfl); (case hg => rfl); (case hr => first | (go_simp; done) | (go_simp; rfl)); intro gb393 hg w64 hbox hb; have n0_ := Aside0.mk (Kd.R_below (by (with_reducible repeat (first | apply Kd.R_alloc | apply Kd.R_drewN | apply Kd.R_drew)); exact HO_7.out) hb); have n1_ := Aside0.mk (below_step (by repeat (first | (with_reducible first | exact HB.out | apply below_alloc | apply pw_below_drewN | apply below_drew1) | exact HB.out)) hb); have n2_ := Aside0.mk (hbox); have n3_ := Aside0.mk ((by rw [hg]; exact (below_size (by repeat (first | (with_reducible first | exact HB.out | apply below_alloc | apply pw_below_drewN | apply below_drew1) | exact HB.out))) : w.heap.size ≤ gb393)); have n4_ := Aside0.mk ((by rw [hg]; exact (below_size (by repeat (first | (with_reducible first | exact HB.out | apply below_alloc | apply pw_below_drewN | apply below_drew1) | exact HB.out))) : w.heap.size ≤ gb393)); clear HO_7; clear HB; have HO_7 := n0_; have HB := n1_; have BK393 := n2_; have GW393 := n3_; have GE393 := n4_; clear n0_ n1_ n2_ n3_ n4_; clear hb hbox hg; have hcz65_0 : w64.cell? ⟨gb393, 0, none⟩ = some (.int .i64 0) := (blk_cell BK393.out 0).trans rfl; have hcz65_1 : w64.cell? ⟨gb393, 1, none⟩ = some (.int .i64 0) := (blk_cell BK393.out 1).trans rfl; have hfz65_0 := blk_frozen BK393.out 0; have hfz65_1 := blk_frozen BK393.out 1))
              go_ret
              exact ⟨by first | rfl | (simp [errW_none, errW_some] <;> rfl) | (simp [*, errW_none, errW_some] <;> rfl), by repeat (first | (with_reducible first | exact HB.out | apply below_alloc | apply pw_below_drewN | apply below_drew1 | refine below_set ?_ GE393.out) | exact HB.out)⟩
/-- THE ONE PURE STATEMENT of koinelaw26_LayoutFills: yours. -/
def koinelaw26_LayoutFills.Pure : Prop := ∀ (l0 : List Int) (a1 : Int), l0.length ≤ maxLen → l0.length * 1 ≤ 140737488351232 → (∀ x ∈ l0, (Lit.int .u8 x).wf = true) → (Lit.int .u8 a1).wf = true → ∃ k, koinelaw26_LayoutFills.f k l0 a1 = some true
end Go.Proofs.Ythmmdmnbcecooaa.A
end

section
namespace Go.Proofs.Ythmmdmnbcecooaa.A
open Go.RowKit Go.Proofs.YthmmdmnbcecooaaW.PrintWords Go.Proofs.YthmmdmnbcecooaaW.PrintLast
set_option linter.unusedVariables false
set_option linter.unusedSimpArgs false
def word (n : Nat) : ByteArray := (⟨#[119, 119, 119, 119, 119, 119, 119, 119, 119]⟩ : ByteArray).extract 0 n
theorem word_ok (n : Nat) (h : 1 ≤ n ∧ n ≤ 9) : (word n).data.toList.length = n ∧ Lib.indexByte (word n).data.toList 10 < 0 ∧ (word n).size ≤ 20 := by
  obtain ⟨h1, h2⟩ := h
  rcases (show n = 1 ∨ n = 2 ∨ n = 3 ∨ n = 4 ∨ n = 5 ∨ n = 6 ∨ n = 7 ∨ n = 8 ∨ n = 9 by omega) with rfl | rfl | rfl | rfl | rfl | rfl | rfl | rfl | rfl <;> decide
theorem text_f (s : ByteArray) : koineref25_Text.f s = some (textD s) := rfl
def gapD : List S42 := wrapD 6 0 [⟨1, ⟨#[32]⟩, 0, 0, 0⟩]
theorem gap_f : koinelaw26_gap.f = some gapD := by unfold koinelaw26_gap.f; rw [Wrap_eq 6 0 _ (by decide)]; rfl
theorem gap_good : Good gapD := (check_zero_iff _).1 (by decide +kernel)
theorem gap_E : E gapD = gapT ⟨#[32]⟩ := by rfl
/-- The document behind i words: sizes small, the greedy filling. -/
structure FillD (w : Int) (D : List S42) (i : Nat) : Prop where
  good : Good D
  len : D.length ≤ 10 * i + 1
  lv : lv (E D) ≤ 10 * i + 1
  wt : wt (E D) ≤ 10 * i
theorem fill_loop (l : List Int) (hl : ∀ x ∈ l, 0 ≤ x ∧ x ≤ 255) (hlen : l.length ≤ 140737488351232) (w : Int) (hw : 9 ≤ w ∧ w ≤ 48) : ∀ (d i k : Nat) (D : List S42) (lines col : Int), i + d = 40 → i ≤ l.length → d + 1 < k → FillD w D i → (i = 0 → E D = .text ⟨#[]⟩ ∧ lines = 0 ∧ col = 0) → (0 < i → FillI w (E D) lines col ∧ 0 ≤ col) → 0 ≤ lines ∧ lines ≤ i ∧ 0 ≤ col ∧ col ≤ 48 →
    koinelaw26_LayoutFills.l0 (k + k) l true w D lines col i = some true := by
  have fin : ∀ (k i : Nat) (D : List S42) (lines col : Int), FillD w D i → i ≤ 40 → (i = 0 → E D = .text ⟨#[]⟩ ∧ lines = 0 ∧ col = 0) → (0 < i → FillI w (E D) lines col ∧ 0 ≤ col) → ∀ j, koinelaw26_LayoutFills.j1 (k + 1) l true w D lines col j false = some true := by
    intro k i D lines col hD hi h0 h1 j
    have hf : Fits (E D) := by
      have a := hD.lv
      have b := hD.wt
      refine ⟨by omega, ?_⟩
      have := Nat.mul_le_mul (show lv (E D) ≤ 401 by omega) (show wt (E D) + 1 ≤ 401 by omega)
      omega
    have hb : (bestR w (E D)).b = 0 ∧ (bestR w (E D)).l = lines := by
      rcases Nat.eq_zero_or_pos i with hi0 | hi0
      · obtain ⟨e1, e2, _⟩ := h0 hi0
        rw [e1, e2]
        have e : bestR w (.text ⟨#[]⟩) = ⟨0, 0, []⟩ := by
          unfold bestR
          rw [ach_text0]
          rfl
        rw [e]
        exact ⟨rfl, rfl⟩
      · exact fill_best (h1 hi0).1
    rw [koinelaw26_LayoutFills.j1, if_neg (by decide), lbest_f hD.good hf (by omega), Option.bind_some]
    simp only [if_true]
    rw [hb.1, hb.2, if_pos (by simp)]
  intro d
  induction d with
  | zero =>
    intro i k D lines col hid hil hk hD h0 h1 hb
    obtain ⟨k, rfl⟩ : ∃ m, k = m + 1 := ⟨k - 1, by omega⟩
    rw [show k + 1 + (k + 1) = (k + k + 1) + 1 from by omega, koinelaw26_LayoutFills.l0]
    split
    · rw [show decide ((i : Int) < 40) = false from decide_eq_false (by omega)]
      exact fin _ i D lines col hD (by omega) h0 h1 _
    · exact fin _ i D lines col hD (by omega) h0 h1 _
  | succ d ih =>
    intro i k D lines col hid hil hk hD h0 h1 hb
    obtain ⟨k, rfl⟩ : ∃ m, k = m + 1 := ⟨k - 1, by omega⟩
    rw [show k + 1 + (k + 1) = (k + k + 1) + 1 from by omega, koinelaw26_LayoutFills.l0]
    by_cases hi : (i : Int) < l.length
    · rw [if_pos hi, show decide ((i : Int) < 40) = true from decide_eq_true (by omega), koinelaw26_LayoutFills.j1, if_pos rfl, if_pos (by omega), if_pos hi]
      have hiN : i < l.length := by omega
      have hx := hl _ (List.getElem_mem hiN)
      have hrd : rd l (i : Int) = l[i] := by simp [rd, hiN]
      obtain ⟨n, hn⟩ : ∃ n : Nat, (n : Int) = 1 + Int.tmod (l[i]) 9 := ⟨(1 + Int.tmod (l[i]) 9).toNat, by rw [Int.tmod_eq_emod_of_nonneg hx.1]; omega⟩
      have hn9 : 1 ≤ n ∧ n ≤ 9 := by rw [Int.tmod_eq_emod_of_nonneg hx.1] at hn; omega
      have hwn : wrap64 (1 + wrap64 (Int.tmod (rd l (i : Int)) 9)) = (n : Int) := by
        rw [hrd]
        have := Int.tmod_eq_emod_of_nonneg hx.1 (b := 9)
        rw [wrap64_small (x := Int.tmod (l[i]) 9) (by omega) (by omega), wrap64_small (by omega) (by omega)]
        exact hn.symm
      obtain ⟨q1, q2, q3⟩ := word_ok n hn9
      have hwi : wrap64 ((i : Int) + 1) = ((i + 1 : Nat) : Int) := by rw [wrap64_small (by omega) (by omega)]; omega
      have hcol : wrap64 (wrap64 (col + 1) + (n : Int)) = col + 1 + n := by rw [wrap64_small (x := col + 1) (by omega) (by omega), wrap64_small (by omega) (by omega)]
      rw [hwn, hwi, hcol, Int.toNat_natCast]
      clear hwn hwi hcol hrd
      have ht : koineref25_Text.f ((⟨#[119, 119, 119, 119, 119, 119, 119, 119, 119]⟩ : ByteArray).extract 0 n) = some (textD (word n)) := rfl
      have hgt : Good (textD (word n)) := text_ok q2
      have lD := hD.len
      by_cases hi0 : (i : Int) > 0
      · have hS1 : koineref25_Seq.f D gapD = some (seqD D gapD) := Seq_eq D gapD (by have : gapD.length = 2 := rfl; omega)
        have g1 : Good (seqD D gapD) := good_seq hD.good gap_good (by have : gapD.length = 2 := rfl; omega)
        have l1 : (seqD D gapD).length = D.length + 2 + 1 := by rw [seqD_length]; rfl
        have g2 : Good (seqD (seqD D gapD) (textD (word n))) := good_seq g1 hgt (by have : (textD (word n)).length = 1 := rfl; omega)
        have hS2 : koineref25_Seq.f (seqD D gapD) (textD (word n)) = some (seqD (seqD D gapD) (textD (word n))) := Seq_eq _ _ (by have : (textD (word n)).length = 1 := rfl; omega)
        have e2 : E (seqD (seqD D gapD) (textD (word n))) = .seq (.seq (E D) (gapT ⟨#[32]⟩)) (.text (word n)) := by
          rw [E_seq g1 hgt (by have : (textD (word n)).length = 1 := rfl; omega), E_seq hD.good gap_good (by have : gapD.length = 2 := rfl; omega), gap_E]; rfl
        have hDn : FillD w (seqD (seqD D gapD) (textD (word n))) (i + 1) := by
          refine ⟨g2, by rw [seqD_length, l1]; have : (textD (word n)).length = 1 := rfl; omega, ?_, ?_⟩
          · rw [e2]; have := hD.lv; have g : lv (gapT ⟨#[32]⟩) = 1 := rfl; simp only [lv]; rw [g]; omega
          · rw [e2]; have := hD.wt; have g : wt (gapT ⟨#[32]⟩) = 1 := rfl; simp only [wt]; rw [g, q1]; omega
        have hF := fill_step (by omega) (h1 (by omega)).1 (h1 (by omega)).2 ⟨#[32]⟩ (word n) rfl q1 hn9
        rw [if_pos hi0, gap_f, Option.bind_some, hS1, Option.bind_some]
        by_cases hc : col + 1 + n ≤ w
        · rw [if_pos hc, if_pos (by omega), if_pos (by omega), ht, Option.bind_some, hS2, Option.bind_some]
          rw [if_pos hc, if_pos hc] at hF
          exact ih (i + 1) k _ lines (col + 1 + n) (by omega) (by omega) (by omega) hDn (fun h => by omega) (fun _ => by rw [e2]; exact ⟨hF, by omega⟩) (by omega)
        · rw [if_neg hc, if_pos (by omega), if_pos (by omega), ht, Option.bind_some, hS2, Option.bind_some, wrap64_small (x := lines + 1) (by omega) (by omega)]
          rw [if_neg hc, if_neg hc] at hF
          exact ih (i + 1) k _ (lines + 1) n (by omega) (by omega) (by omega) hDn (fun h => by omega) (fun _ => by rw [e2]; exact ⟨hF, by omega⟩) (by omega)
      · have hi00 : i = 0 := by omega
        obtain ⟨e1, e2, e3⟩ := h0 hi00
        have hS2 : koineref25_Seq.f D (textD (word n)) = some (seqD D (textD (word n))) := Seq_eq _ _ (by have : (textD (word n)).length = 1 := rfl; omega)
        have g2 : Good (seqD D (textD (word n))) := good_seq hD.good hgt (by have : (textD (word n)).length = 1 := rfl; omega)
        have e4 : E (seqD D (textD (word n))) = .seq (.text ⟨#[]⟩) (.text (word n)) := by
          rw [E_seq hD.good hgt (by have : (textD (word n)).length = 1 := rfl; omega), e1]; rfl
        have hDn : FillD w (seqD D (textD (word n))) (i + 1) := by
          refine ⟨g2, by rw [seqD_length]; have : (textD (word n)).length = 1 := rfl; omega, ?_, ?_⟩
          · rw [e4]; simp only [lv]; omega
          · rw [e4]; show (⟨#[]⟩ : ByteArray).data.toList.length + (word n).data.toList.length ≤ _; rw [q1]; show 0 + n ≤ _; omega
        have hF := fill_first (wd := w) (by omega) (word n) q1 hn9
        rw [if_neg hi0, if_pos (by omega), if_pos (by omega), ht, Option.bind_some, hS2, Option.bind_some]
        exact ih (i + 1) k _ lines n (by omega) (by omega) (by omega) hDn (fun h => by omega) (fun _ => by rw [e4, e2]; exact ⟨hF, by omega⟩) (by omega)
    · rw [if_neg hi]
      exact fin _ i D lines col hD (by omega) h0 h1 _
theorem layoutFills_pure : koinelaw26_LayoutFills.Pure := by
  intro l0 a1 _ hl hb0 h1
  have hb := bytes_of hb0
  have x1 := byte_of h1
  have hm := Int.tmod_eq_emod_of_nonneg x1.1 (b := 40)
  refine ⟨50 + 50, ?_⟩
  unfold koinelaw26_LayoutFills.f
  rw [show koinelaw26_sanity.f = some true from rfl, Option.bind_some, text_f, Option.bind_some, wrap64_small (x := Int.tmod a1 40) (by omega) (by omega), wrap64_small (x := 9 + Int.tmod a1 40) (by omega) (by omega)]
  refine fill_loop l0 hb (by omega) (9 + Int.tmod a1 40) (by omega) 40 0 50 (textD ⟨#[]⟩) 0 0 (by omega) (by omega) (by omega) ⟨text_ok (by decide), by decide, by decide, by decide⟩ (fun _ => ⟨rfl, rfl, rfl⟩) (fun h => by omega) (by omega)
theorem layoutFills_walk (w : World) (A0 : Option Addr) (c0 : Nat) (l0 : List Int) (hr0 : Kd.C (Kd.int .u8) w A0 l0.length l0) (hc0 : l0.length ≤ c0) (hw0 : ∀ x ∈ l0, (Lit.int .u8 x).wf = true) (y0 : l0.length * 1 ≤ 140737488351232) (a1 : Int) (w1 : (Lit.int .u8 a1).wf = true) :
    Calls Try.prog 9 #[.slice A0 l0.length c0, .int .u8 a1] w fun e w' => e = .returned (.bool true) ∧ Below w.heap.size w w' := by
  obtain ⟨k, h⟩ := layoutFills_pure l0 a1 (by unfold maxLen; omega) y0 hw0 w1
  exact koinelaw26_LayoutFills.calls k A0 c0 l0 a1 true w hr0 hc0 h
end Go.Proofs.Ythmmdmnbcecooaa.A
end

section
namespace Go.Proofs.Ythmmdmnbcecooaa.layoutFills
open Go.ChangeShapes Go.WideShapes Go.ChangeAt Go.RowKit
open Go.ChangeMaps (open_string shut_string)
open Go.Proofs.YthmmdmnbcecooaaW.PrintWords
set_option linter.unusedVariables false
theorem own : ownKnob Try.prog.godebug = none := by kernel_rfl
theorem laidOut : laidOutB Try.prog = true := by kernel_rfl
def IsRow (k : IntKind) (w : World) (a : Option Addr) (len cap : Nat) (zs : List Int) : Prop :=
  (a = none ∧ len = 0 ∧ cap = 0 ∧ zs = []) ∨
  ∃ x, a = some x ∧ len ≤ cap ∧ cap ≤ maxLen ∧ zs.length = cap ∧ (∀ i, i < zs.length → w.cell? (x.add i) = some (.int k (zs.getD i 0))) ∧ ∀ n ∈ zs, (Lit.int k n).wf = true
set_option maxRecDepth 100000 in
theorem lifted (os : Os) (started : os.Started) (H : Type) (enc : TypeId × Value → H) :
    ReturnsInHanded {} Try.checked os 9 .any (Rows.layoutFillsSpec.pre6 enc Try.prog Try.f9 Rows.layoutFillsRow.domain false) (Rows.layoutFillsSpec.post enc Try.prog Try.f9 false true false false) := by
  refine returnsInHanded_of_change_sized (C := Try.checked) own started (by kernel_rfl) Try.func9
    (ChangeSpec.witness6 (enc := enc) (C := Try.checked) false ⟨#[], #[.slice none 0 0, .int .u8 0], []⟩ 8 (by kernel_rfl) (by kernel_rfl) (by kernel_rfl) (by kernel_rfl)) ?_
  intro W base args ds gs before hval0 hW hcnd hsz0 _
  have hsz : (DataW.weightsEach Try.prog (Try.f9.params.toList ++ Rows.layoutFillsSpec.plain.varTypes Try.prog) (ds ++ gs)).all (· ≤ reachBytes) = true := hsz0
  have hval : ∀ (j : Nat) t v, Try.f9.params[j]? = some t → args[j]? = some v → Value.okWide Try.prog W .any base t v := hval0
  have hW' := hW
  obtain ⟨p, q, hA0, hV, rfl, hfz, hnd⟩ := hW
  have hA : DataW.TrodAll enc Try.prog W 0 (fun _ => true) true Try.f9.params.toList args.toList ds p := hA0
  rw [Try.params9] at hA hval hsz
  obtain ⟨v0, vs0, d0, ds0, p0, q0, hargs, rfl, rfl, h0, r0⟩ := trodAll_cons hA
  obtain ⟨v1, vs1, d1, ds1, p1, q1, rfl, rfl, rfl, h1, r1⟩ := trodAll_cons r0
  obtain ⟨rfl, rfl, rfl⟩ := trodAll_nil r1
  obtain rfl : args = #[v0, v1] := by cases args; simp_all
  obtain ⟨rfl, rfl⟩ := trodVars_none hV
  obtain ⟨a0, len0, cap0, rfl⟩ := okWide_slice Try.underlying22 (hval 0 22 v0 rfl rfl)
  have k0 := h0
  have lt0 : ∀ x ∈ p0, x.block < W.heap.size := by obtain ⟨m, hm⟩ := k0; exact DataW.trod_lt m _ _ _ hm
  obtain ⟨z0, w0⟩ : ∃ zs, IsRow .u8 W a0 len0 cap0 zs := by
    obtain ⟨fuel, hf⟩ := h0
    rcases open_ints Try.underlying22 Try.underlying5 (by kernel_rfl) hf with ⟨hcs, _⟩ | ⟨x, l, c, zs, hcs, _, hl, hm, hz, _, hcell, hwz⟩
    · simp [Value.cells] at hcs
      obtain ⟨rfl, rfl, rfl⟩ := hcs
      exact ⟨[], .inl ⟨rfl, rfl, rfl, rfl⟩⟩
    · simp [Value.cells] at hcs
      obtain ⟨rfl, rfl, rfl⟩ := hcs
      exact ⟨zs, .inr ⟨_, rfl, hl, hm, by simpa using hz, hcell, hwz⟩⟩
  have y0 : len0 * 1 ≤ 140737488351232 := sized_ints hsz (j := 0) (t := 22) rfl rfl Try.underlying22 Try.underlying5 (by kernel_rfl) (by kernel_rfl) h0
  obtain ⟨l0, rfl, hr0, hm0, hw0, hc0⟩ := ReadsInt.ofRowC w0
  obtain ⟨a1, rfl, rfl, rfl, w1⟩ := open_int Try.underlying5 (hval 1 5 v1 rfl rfl) h1
  clear hA0 hval0 hsz0 hsz
  refine (A.layoutFills_walk W a0 cap0 l0 (Kd.C_of_reads (d := (0 : Int)) (h1 := fun _ => rfl) hr0) hc0 hw0 y0 a1 w1).mono fun e W' ⟨he, bel⟩ => ?_
  subst he
  exact ⟨_, rfl, _, _, _, [], _, [], hW', trodAll_mk1 (shut_bool Try.underlying4 _), (trodAll_cons_mk (Below.trod laidOut (by kernel_rfl) (of_decide_eq_true (by kernel_rfl)) k0 bel lt0) (trodAll_cons_mk (shut_int Try.underlying5 w1) trodAll_mk0)), rfl, bel.frame _, fun h => by cases h⟩
theorem over : Rows.layoutFillsRow.holds Try.pinned (OpenSpec.ofChange Rows.layoutFillsSpec) :=
  OpenClaim.holds_of_wide 9 Try.f9 rfl rfl rfl rfl rfl rfl rfl ⟨rfl, rfl, rfl, rfl, rfl⟩ rfl rfl rfl rfl rfl (by kernel_rfl) Try.func9 (by kernel_rfl)
    (of_decide_eq_true (by kernel_rfl)) (by unfold Func.isWrapper; first | (rw [if_pos (by decide +kernel)]; kernel_rfl) | (rw [if_neg (by decide +kernel)]; exact ⟨rfl, rfl⟩))
    (fun os started H enc _ => lifted os started H enc)
theorem proved : Rows.LayoutFillsSaid := over
end Go.Proofs.Ythmmdmnbcecooaa.layoutFills
namespace Go.Proofs.Ythmmdmnbcecooaa
/-- The row, under a short name, for the claim. -/
theorem layoutFills_holds : Rows.LayoutFillsSaid := layoutFills.proved
end Go.Proofs.Ythmmdmnbcecooaa
end
#print axioms Go.Proofs.Ythmmdmnbcecooaa.layoutFills_holds
