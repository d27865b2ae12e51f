/- The contract of document.Check. No condition of its own. -/
import Derived.Test.YthmmdmnbcecooaaG2
namespace Go.Proofs.Ythmmdmnbcecooaa.A
open Go.RowKit Go.Proofs.YthmmdmnbcecooaaW.PrintWords Go.Proofs.YthmmdmnbcecooaaW.PrintLast Go.Proofs.YthmmdmnbcecooaaW.PrintMore
set_option linter.unusedVariables false
set_option linter.unusedSimpArgs false

/-- One node of document.Check: the new flags, or none. -/
def nodeStep (x : S42) (at_ : Int) (us : List Bool) : Option (List Bool) :=
  if arityI x.f0 < 0 then none else if fieldsB x = false then none
  else if useF us (decide (0 < arityI x.f0)) x.f3 at_ = false then none
  else if useF (useL us (decide (0 < arityI x.f0)) x.f3 at_) (decide (1 < arityI x.f0)) x.f4 at_ = false then none
  else some (useL (useL us (decide (0 < arityI x.f0)) x.f3 at_) (decide (1 < arityI x.f0)) x.f4 at_)

def scanFrom (l : List S42) : Nat → Nat → List Bool → Option (List Bool)
  | 0, _, us => some us
  | d + 1, i, us => (nodeStep (l.getD i z42) i us).bind (scanFrom l d (i + 1))

def checkI (l : List S42) : Int :=
  if l.length > 65536 then 2 else
  match scanFrom l l.length 0 (List.replicate l.length false) with
  | none => 250
  | some us => if (us.take (l.length - 1)).all id then (if l.length = 0 then 250 else 0) else 250

def document_Check.f (l0 : List S42) : Option Int := some (checkI l0)

theorem use_start (w : World) (n : Nat) : UseSt w.heap.size (w.heap.size + 1) w.heap.size (List.replicate n false) ((w.alloc (Obj.cells (madeCells #[Value.bool false] n) 4)).alloc (Obj.cells #[Value.slice (some { block := w.heap.size, off := 0 }) n n] 23)) := by
  have hl : (madeCells #[Value.bool false] n) = (bools (List.replicate n false)).toArray := by
    apply Array.ext
    · simp [madeCells, bools]
    · intro i h1 h2
      simp [madeCells, bools, Nat.mod_one]
  refine ⟨?_, ?_, by omega, by omega, by omega⟩
  · have := heap_alloc_new (w.alloc (Obj.cells (madeCells #[Value.bool false] n) 4)) (Obj.cells #[Value.slice (some { block := w.heap.size, off := 0 }) n n] 23)
    simpa using this
  · refine blk_alloc ?_ _
    rw [hl]
    exact heap_alloc_new w _

theorem check_bad {l : List S42} (h : l.length ≤ 65536) (hn : scanFrom l l.length 0 (List.replicate l.length false) = none) : checkI l = 250 := by
  unfold checkI
  rw [if_neg (by omega), hn]

theorem check_unused {l : List S42} (h : l.length ≤ 65536) {us : List Bool} (hn : scanFrom l l.length 0 (List.replicate l.length false) = some us) (hu : (us.take (l.length - 1)).all id = false) : checkI l = 250 := by
  unfold checkI
  rw [if_neg (by omega), hn]
  simp [hu]
theorem check_good {l : List S42} (h : l.length ≤ 65536) (hp : 0 < l.length) {us : List Bool} (hn : scanFrom l l.length 0 (List.replicate l.length false) = some us) (hu : (us.take (l.length - 1)).all id = true) : checkI l = 0 := by
  unfold checkI
  rw [if_neg (by omega), hn]
  simp only [hu, if_true]
  rw [if_neg (by omega)]
theorem nodeStep_some {k : Int} {s : ByteArray} {n a b at_ : Int} {us : List Bool} (h1 : ¬ arityI k < 0) (h2 : fieldsB ⟨k, s, n, a, b⟩ = true) (h3 : useF us (decide (0 < arityI k)) a at_ = true) (h4 : useF (useL us (decide (0 < arityI k)) a at_) (decide (1 < arityI k)) b at_ = true) :
    nodeStep ⟨k, s, n, a, b⟩ at_ us = some (useL (useL us (decide (0 < arityI k)) a at_) (decide (1 < arityI k)) b at_) := by
  unfold nodeStep
  rw [if_neg h1, if_neg (by rw [h2]; decide), if_neg (by rw [h3]; decide), if_neg (by rw [h4]; decide)]

theorem checkI_big {l : List S42} (h : 65536 < l.length) : checkI l = 2 := if_pos h

theorem cells42 {w : World} {ad : Addr} {n : Nat} {xs : List S42} (h : Kd.C k42 w (some ad) n xs) {k n' a b : Int} {s : ByteArray} {i : Nat} (h1 : i < n) (hx : xs.getD i z42 = ⟨k, s, n', a, b⟩) {W : World} (hb : Below w.heap.size w W) :
    W.cell? (ad.add (i * 5)) = some (.int .i64 k) ∧ W.cell? ⟨(ad.add (i * 5)).block, (ad.add (i * 5)).off + 1, none⟩ = some (.string s) ∧ W.cell? ⟨(ad.add (i * 5)).block, (ad.add (i * 5)).off + 2, none⟩ = some (.int .i64 n') ∧
    W.cell? ⟨(ad.add (i * 5)).block, (ad.add (i * 5)).off + 3, none⟩ = some (.int .i64 a) ∧ W.cell? ⟨(ad.add (i * 5)).block, (ad.add (i * 5)).off + 4, none⟩ = some (.int .i64 b) := by
  obtain ⟨ad', eA, k0, k1, k2, k3, k4⟩ := at_T42 h i (by omega) (by omega)
  obtain rfl := Option.some.inj eA
  have hr : rd_T42 xs i = ⟨k, s, n', a, b⟩ := hx
  rw [hr] at k0 k1 k2 k3 k4
  exact ⟨pw_cell_below hb k0, pw_cell_below hb k1, pw_cell_below hb k2, pw_cell_below hb k3, pw_cell_below hb k4⟩

set_option maxRecDepth 100000 in
theorem check_calls_pos (ad : Addr) (c0 : Nat) (l0 : List S42) (w : World) (hpos : 0 < l0.length) (hlen : l0.length ≤ 65536) (hr0 : Kd.C k42 w (some ad) l0.length l0) (hc0 : l0.length ≤ c0) :
    Calls Try.prog 30 #[.slice (some ad) l0.length c0] w fun e w' => e = .returned (.int .i64 (checkI l0)) ∧ Below w.heap.size w w' := by
  have hu42 := Try.underlying42
  have HR0 := Aside0.mk hr0
  clear hr0
  have hd : decide (65536 < l0.length) = false := decide_eq_false (by omega)
  obtain ⟨R, hR⟩ : ∃ R, scanFrom l0 l0.length 0 (List.replicate l0.length false) = R := ⟨_, rfl⟩
  have HRR := Aside0.mk hR
  clear hR
  have hmk := print_make_of (P := Try.prog) 23 4 (.bool false) 1 Try.underlying23 info4 rfl (by decide) l0.length (by omega)
  go_enter Try.func30, Try.ntmps30
  go_wp2_with fail
  go_loopg [18] l0.length (fun d v18 W => ∃ (i : Nat) (us : List Bool), v18 = .int .i64 i ∧ Aside0 (i + d = l0.length) ∧ Aside0 (us.length = l0.length) ∧ Aside0 (scanFrom l0 d i us = R) ∧ Aside0 (UseSt w.heap.size (w.heap.size + 1) w.heap.size us W) ∧ Aside0 (Below w.heap.size w W))
  case atStart =>
    exact ⟨0, List.replicate l0.length false, rfl, ⟨by simp⟩, ⟨by simp⟩, HRR, ⟨use_start w l0.length⟩, ⟨((Below.refl _ _).alloc (Nat.le_refl _) _).alloc (by simp) _⟩⟩
  case round =>
    obtain ⟨i, us, rfl, HI, HL, HS, HU, HB⟩ := hrel
    by_cases hlt : i < l0.length
    · obtain ⟨k, s, n, a, b, hx⟩ : ∃ k s n a b, l0.getD i z42 = ⟨k, s, n, a, b⟩ := ⟨_, _, _, _, _, rfl⟩
      obtain ⟨k0, k1, k2, k3, k4⟩ := cells42 HR0.out hlt hx HB.out
      have HX := Aside0.mk hx
      clear hx
      have hstep : ∃ d', gk = d' + 1 ∧ (nodeStep ⟨k, s, n, a, b⟩ (i : Int) us).bind (scanFrom l0 d' (i + 1)) = R := by
        have h1 := HI.out
        obtain ⟨d', rfl⟩ : ∃ d', gk = d' + 1 := ⟨gk - 1, by omega⟩
        refine ⟨d', rfl, ?_⟩
        have h2 := HS.out
        simp only [scanFrom, HX.out] at h2
        exact h2
      obtain ⟨d', hgk, hstep⟩ := hstep
      have HD := Aside0.mk hgk
      have HST := Aside0.mk hstep
      clear hgk hstep HS
      by_cases p1 : arityI k < 0
      · have HF := Aside0.mk (check_bad (l := l0) hlen (by rw [HRR.out, ← HST.out]; simp [nodeStep, p1]))
        go_wp2_with (first | (go_at_call 50; refine (arity_calls _ _).mono ?_; rintro e w' ⟨rfl, rfl⟩) | (go_at_call 58; refine (fields_calls _ _ _ _ _ _).mono ?_; rintro e w' ⟨rfl, rfl⟩))
        go_ret
        exact ⟨by rw [HF.out]; rfl, by exact HB.out.alloc (by have := HB.out.size; omega) _⟩
      have p1' : 0 ≤ arityI k := by omega
      cases p2 : fieldsB ⟨k, s, n, a, b⟩ with
      | false =>
        have HF := Aside0.mk (check_bad (l := l0) hlen (by rw [HRR.out, ← HST.out]; simp [nodeStep, p1, p2]))
        go_wp2_with (first | (go_at_call 50; refine (arity_calls _ _).mono ?_; rintro e w' ⟨rfl, rfl⟩) | (go_at_call 58; refine (fields_calls _ _ _ _ _ _).mono ?_; rintro e w' ⟨rfl, rfl⟩))
        go_ret
        exact ⟨by rw [HF.out]; rfl, by exact (HB.out.alloc (by have := HB.out.size; omega) _).alloc (by have := HB.out.size; simp; omega) _⟩
      | true =>
        go_wp2_with (first | (go_at_call 50; refine (arity_calls _ _).mono ?_; rintro e w' ⟨rfl, rfl⟩) | (go_at_call 58; refine (fields_calls _ _ _ _ _ _).mono ?_; rintro e w' ⟨rfl, rfl⟩))
        have hsz := HB.out.size
        refine (use_calls w.heap.size (w.heap.size + 1) w.heap.size us _ _ _ _ ((HU.out.alloc _).alloc _) (by have := HL.out; omega)).mono ?_
        rintro e w1 ⟨rfl, hU1, hB1, hs1, hk1⟩
        have HB1 := Aside0.mk (((HB.out.alloc (by omega) _).alloc (by simp; omega) _).trans hB1)
        have HU1 := Aside0.mk hU1
        have hblk : w1.heap[wr.heap.size]? = some (.cells #[.int .i64 k, .string s, .int .i64 n, .int .i64 a, .int .i64 b] 42 (0, 0)) := by
          rw [hk1 _ (by have := HU.out.lt_u; omega)]
          exact blk_alloc (heap_alloc_new wr _) _
        have m4 : w1.cell? ⟨wr.heap.size, 4, none⟩ = some (.int .i64 b) := (blk_cell hblk 4).trans rfl
        have hs1' : w.heap.size ≤ w1.heap.size := by rw [hs1]; simp; omega
        clear hU1 hB1 hs1 hk1 hblk
        cases p3 : useF us (decide (0 < arityI k)) a i with
        | false =>
          have HF := Aside0.mk (check_bad (l := l0) hlen (by rw [HRR.out, ← HST.out]; simp [nodeStep, p1, p2, p3]))
          go_wp2_with fail
          go_ret
          exact ⟨by rw [HF.out]; rfl, HB1.out⟩
        | true =>
          have HP := Aside0.mk (And.intro p1 (And.intro p2 p3))
          clear p1 p2
          go_wp2_with fail
          refine (use_calls w.heap.size (w.heap.size + 1) w.heap.size _ _ _ _ _ HU1.out (by rw [useL_length]; have := HL.out; omega)).mono ?_
          rintro e w2 ⟨rfl, hU2, hB2, hs2, hk2⟩
          have HB2 := Aside0.mk (HB1.out.trans hB2)
          have HU2 := Aside0.mk hU2
          clear hU2 hB2 hs2 hk2
          cases p4 : useF (useL us (decide (0 < arityI k)) a i) (decide (1 < arityI k)) b i with
          | false =>
            have HF := Aside0.mk (check_bad (l := l0) hlen (by rw [HRR.out, ← HST.out]; simp [nodeStep, HP.out.1, HP.out.2.1, HP.out.2.2, p4]))
            go_wp2_with fail
            go_ret
            exact ⟨by rw [HF.out]; rfl, HB2.out⟩
          | true =>
            go_wp2_with fail
            go_roundg d'
            case measure => have := HD.out; omega
            case rel =>
              refine ⟨i + 1, useL (useL us (decide (0 < arityI k)) a i) (decide (1 < arityI k)) b i, by go_num, ⟨by have := HI.out; have := HD.out; omega⟩, ⟨by rw [useL_length, useL_length]; exact HL.out⟩, ⟨?_⟩, HU2, HB2⟩
              rw [← HST.out, nodeStep_some (by have := HP.out.1; omega) HP.out.2.1 HP.out.2.2 p4]; rfl
    · have hi : i = l0.length ∧ gk = 0 := by have := HI.out; omega
      obtain ⟨hi1, hi2⟩ := hi
      have HR1 := Aside0.mk (show some us = R by have h2 := HS.out; rw [hi2] at h2; exact h2)
      clear hi1 hi2 HS
      go_wp2_with fail
      go_loopg [57] (l0.length - 1) (fun d v57 W => ∃ (j : Nat), v57 = .int .i64 j ∧ Aside0 (j + d = l0.length - 1) ∧ Aside0 ((us.take j).all id = true) ∧ Aside0 (UseSt w.heap.size (w.heap.size + 1) w.heap.size us W) ∧ Aside0 (Below w.heap.size w W))
      case atStart => exact ⟨0, rfl, ⟨by simp⟩, ⟨rfl⟩, HU, HB⟩
      case round =>
        clear HU HB
        obtain ⟨j, rfl, HJ, HA, HU, HB⟩ := hrel
        have hcu := (blk_cell HU.out.hu 0).trans rfl
        by_cases hj : (j : Int) < l0.length - 1
        · have hj' : j < us.length := by have := HL.out; omega
          have hcb : wr.cell? ⟨w.heap.size, j, none⟩ = some (.bool (us.getD j false)) := by
            rw [blk_cell HU.out.hb]
            simp [bools, hj']
          have HL' := HL.out
          cases hv : us.getD j false with
          | false =>
            have HF := Aside0.mk (show checkI l0 = 250 by
              refine check_unused hlen (us := us) (by rw [HRR.out, HR1.out]) ?_
              have hm : us.getD j false ∈ us.take (l0.length - 1) := by
                have := HJ.out
                rw [List.getD_eq_getElem?_getD, List.getElem?_eq_getElem hj']
                exact List.mem_take_iff_getElem.2 ⟨j, by omega, rfl⟩
              rw [hv] at hm
              rw [List.all_eq_false]
              exact ⟨false, hm, by simp⟩)
            rw [hv] at hcb
            clear hv hj'
            go_wp2_with fail
            go_ret
            exact ⟨by rw [HF.out]; rfl, HB.out⟩
          | true =>
            rw [hv] at hcb
            have HA2 := Aside0.mk (show (us.take (j + 1)).all id = true by
              rw [List.take_succ_eq_append_getElem hj', List.all_append, HA.out]
              rw [List.getD_eq_getElem?_getD, List.getElem?_eq_getElem hj'] at hv
              simpa using hv)
            clear hv
            go_wp2_with fail
            go_roundg (l0.length - 1 - (j + 1))
            case measure => have := HJ.out; omega
            case rel => exact ⟨j + 1, by go_num, ⟨by have := HJ.out; omega⟩, HA2, HU, HB⟩
        · have HF := Aside0.mk (show checkI l0 = 0 by
            refine check_good hlen hpos (us := us) (by rw [HRR.out, HR1.out]) ?_
            have h1 := HJ.out
            rw [show l0.length - 1 = j by omega]
            exact HA.out)
          have hz : ((l0.length : Int) == 0) = false := beq_eq_false_iff_ne.2 (by omega)
          go_wp2_with fail
          go_ret
          exact ⟨by rw [HF.out]; rfl, HB.out⟩

set_option maxRecDepth 100000 in
theorem check_calls_zero (A0 : Option Addr) (c0 : Nat) (w : World) :
    Calls Try.prog 30 #[.slice A0 0 c0] w fun e w' => e = .returned (.int .i64 250) ∧ Below w.heap.size w w' := by
  have hmk := print_make_of (P := Try.prog) 23 4 (.bool false) 1 Try.underlying23 info4 rfl (by decide) 0 (by omega)
  simp only [show ((0 : Nat) : Int) = 0 from rfl] at hmk
  go_enter Try.func30, Try.ntmps30
  go_wp2_with fail
  refine wp_loop_rounds 1 ?_
  rw [rounds_succ]
  go_wp2_with fail
  refine wp_loop_rounds 1 ?_
  rw [rounds_succ]
  go_wp2_with fail
  go_ret
  exact ⟨rfl, ((Below.refl _ _).alloc (Nat.le_refl _) _).alloc (by simp) _⟩

set_option maxRecDepth 100000 in
theorem check_calls_big (A0 : Option Addr) (c0 : Nat) (l0 : List S42) (w : World) (hbig : 65536 < l0.length) :
    Calls Try.prog 30 #[.slice A0 l0.length c0] w fun e w' => e = .returned (.int .i64 2) ∧ Below w.heap.size w w' := by
  have hd : decide (65536 < l0.length) = true := decide_eq_true hbig
  have HB := Aside0.mk (Below.refl w.heap.size w)
  go_enter Try.func30, Try.ntmps30
  go_wp2
  go_ret
  exact ⟨rfl, HB.out⟩

theorem document_Check.calls (A0 : Option Addr) (c0 : Nat) (l0 : List (S42)) (r : Int) (w : World) (hr0 : Kd.C k42 w A0 l0.length l0) (hc0 : l0.length ≤ c0) (h : document_Check.f l0 = some r) :
    Calls Try.prog 30 #[.slice A0 l0.length c0] w fun e w' => e = .returned (.int .i64 r) ∧ Below w.heap.size w w' := by
  obtain rfl := Option.some.inj h
  by_cases hbig : 65536 < l0.length
  · rw [checkI_big hbig]
    exact check_calls_big A0 c0 l0 w hbig
  rcases Nat.eq_zero_or_pos l0.length with h0 | hpos
  · obtain rfl := List.eq_nil_of_length_eq_zero h0
    exact check_calls_zero A0 c0 w
  · obtain ⟨ad, rfl, _⟩ := at_T42 hr0 0 (by omega) (by omega)
    exact check_calls_pos ad c0 l0 w hpos (by omega) hr0 hc0

end Go.Proofs.Ythmmdmnbcecooaa.A
