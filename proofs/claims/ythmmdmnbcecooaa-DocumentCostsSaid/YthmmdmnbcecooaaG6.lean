/- The contract of the reference's joined. No condition of its own. -/
import Derived.Test.YthmmdmnbcecooaaG0
import Derived.Test.YthmmdmnbcecooaaG4
import Derived.Outline
namespace Go.Proofs.Ythmmdmnbcecooaa.A
open Go.RowKit Go.Proofs.YthmmdmnbcecooaaW.PrintWords Go.Proofs.YthmmdmnbcecooaaW.PrintLast Go.Proofs.YthmmdmnbcecooaaW.PrintMore
set_option linter.unusedVariables false
set_option linter.unusedSimpArgs false

theorem wrap64_small {x : Int} (h0 : -9223372036854775808 ≤ x) (h1 : x ≤ 9223372036854775807) : wrap64 x = x := by
  unfold wrap64
  omega

/-- A node of the second document behind n nodes of the first. -/
def shiftN (n : Int) (x : S42) : S42 :=
  if 1 ≤ arityI x.f0 then (if 2 ≤ arityI x.f0 then ⟨x.f0, x.f1, x.f2, wrap64 (x.f3 + n), wrap64 (x.f4 + n)⟩ else ⟨x.f0, x.f1, x.f2, wrap64 (x.f3 + n), x.f4⟩) else x

def joinD (a b : List S42) : List S42 := a ++ b.map (shiftN a.length)

theorem R42_empty (w : World) : Kd.R k42 42 (w.alloc (.cells #[] 42)) w.heap.size (fun _ => True) (.slice (some ⟨w.heap.size, 0, none⟩) 0 0) [] := by
  refine ⟨fun _ _ => trivial, [], ?_, Reps.none _ _⟩
  exact World.ownsRow_lit (base := w.heap.size) (e := 42) (size := 5) w #[] 0 (Nat.le_refl _) (by simp) (by simp)

theorem shiftN0 {n : Int} {k : Int} {s : ByteArray} {n' a b : Int} (h : arityI k < 1) : shiftN n ⟨k, s, n', a, b⟩ = ⟨k, s, n', a, b⟩ := by unfold shiftN; simp only; rw [if_neg (by omega)]
theorem shiftN1 {n : Int} {k : Int} {s : ByteArray} {n' a b : Int} (h : 1 ≤ arityI k) (h2 : arityI k < 2) : shiftN n ⟨k, s, n', a, b⟩ = ⟨k, s, n', wrap64 (a + n), b⟩ := by unfold shiftN; simp only; rw [if_pos h, if_neg (by omega)]
theorem shiftN2 {n : Int} {k : Int} {s : ByteArray} {n' a b : Int} (h2 : 2 ≤ arityI k) : shiftN n ⟨k, s, n', a, b⟩ = ⟨k, s, n', wrap64 (a + n), wrap64 (b + n)⟩ := by unfold shiftN; simp only; rw [if_pos (by omega), if_pos h2]

theorem joined_next {l0 l1 : List S42} {i : Nat} {x : S42} (h : i < l1.length) (hx : l1.getD i z42 = x) : l0 ++ (l1.take (i + 1)).map (shiftN l0.length) = (l0 ++ (l1.take i).map (shiftN l0.length)) ++ [shiftN l0.length x] := by
  subst hx
  rw [List.take_succ_eq_append_getElem h, List.map_append, List.append_assoc]
  simp [List.getD, h]

set_option maxHeartbeats 1000000 in
set_option maxRecDepth 100000 in
theorem joined_calls (A0 : Option Addr) (c0 : Nat) (l0 : List S42) (A1 : Option Addr) (c1 : Nat) (l1 : List S42) (w : World) (hr0 : Kd.C k42 w A0 l0.length l0) (hc0 : l0.length ≤ c0) (hr1 : Kd.C k42 w A1 l1.length l1) (hc1 : l1.length ≤ c1) (hl : l0.length + l1.length ≤ 1000000) :
    Calls Try.prog 64 #[.slice A0 l0.length c0, .slice A1 l1.length c1] w fun e w' => ∃ v0_ : Value, e = .returned (v0_) ∧ Kd.R k42 42 w' w.heap.size (fun _ => True) v0_ (joinD l0 l1) ∧ Below w.heap.size w w' := by
  have hu42 := Try.underlying42
  have HR0 := Aside0.mk hr0
  have HR1 := Aside0.mk hr1
  have HB0 := Aside0.mk (Below.refl w.heap.size w)
  clear hr0 hr1
  go_enter Try.func64, Try.ntmps64
  go_wp2_with (at_builtin; refine Kd.R_append_rows k42 (w0 := w) w.heap.size rfl (.tmp 8) (.tmp 9) 26 42 (.agg #[(.int .i64 0), (.string ⟨#[]⟩), (.int .i64 0), (.int .i64 0), (.int .i64 0)]) 48 rfl Try.underlying26 info42 rfl (by decide) (by omega) (.slice (some ⟨w.heap.size, 0, none⟩) 0 0) [] l0 _ _ _ (fun _ => True) (fun _ => False) rfl rfl ?aO ?aR (fun _ _ h => h) (fun _ h => h.elim) ?aF ?aB ?aS ?aL ?_; (case aR => exact Kd.C_below HR0.out ((Below.refl _ _).alloc (Nat.le_refl _) _)); (case aO => exact R42_empty w); (case aF => exact (fun _ _ => trivial)); (case aB => exact (Below.refl _ _).alloc (Nat.le_refl _) _); (case aS => simp); (case aL => simp; omega); intro v1 w1 ho hb hg hat; obtain ⟨Av, cv, hv1⟩ := Kd.R_slice ho; have HO := Aside0.mk ho; have HB := Aside0.mk hb; clear ho hb hg hat hv1)
  go_loopg [5, 6] l1.length (fun d v5 v6 W => ∃ (i : Nat) (v : Value), v6 = .int .i64 i ∧ v = v5 ∧ Aside0 (i + d = l1.length) ∧ Aside0 (Kd.R k42 42 W w.heap.size (fun _ => True) v (l0 ++ (l1.take i).map (shiftN l0.length))) ∧ Aside0 (Below w.heap.size w W))
  case atStart => exact ⟨0, _, rfl, rfl, ⟨by simp⟩, ⟨by simpa using HO.out⟩, HB⟩
  case round =>
    clear HO HB
    obtain ⟨i, v, rfl, rfl, HI, HR, HB⟩ := hrel
    by_cases hlt : i < l1.length
    · obtain ⟨k, s, n, a, b, hx⟩ : ∃ k s n a b, l1.getD i z42 = ⟨k, s, n, a, b⟩ := ⟨_, _, _, _, _, rfl⟩
      obtain ⟨ad, rfl, _⟩ := at_T42 HR1.out i (by omega) (by omega)
      obtain ⟨k0, k1, k2, k3, k4⟩ := cells42 HR1.out hlt hx HB.out
      have HX := Aside0.mk hx
      have HG := Aside0.mk HB.out.size
      have hlt' := hlt
      clear hx
      obtain ⟨d', rfl⟩ : ∃ d', gk = d' + 1 := ⟨gk - 1, by have := HI.out; omega⟩
      by_cases h1 : 1 ≤ arityI k
      · by_cases h2 : 2 ≤ arityI k
        · go_wp2_with (first | (go_at_call 60; refine (operands_calls k _).mono ?_; rintro e w' ⟨rfl, rfl⟩) | (at_builtin; refine Kd.R_append k42 (w0 := w) w.heap.size rfl (.tmp 41) (.tmp 43) 26 42 (.agg #[(.int .i64 0), (.string ⟨#[]⟩), (.int .i64 0), (.int .i64 0), (.int .i64 0)]) 48 rfl Try.underlying26 info42 rfl (by decide) (by omega) v (l0 ++ (l1.take i).map (shiftN l0.length)) ⟨k, s, n, wrap64 (a + l0.length), wrap64 (b + l0.length)⟩ _ (fun _ => True) (fun _ => False) rfl ?aX ?aP (fun _ hk => hk.elim) ?aF ?aO ?aB ?aS ?aL ?_; (case aX => first | (simp [Act.eval]; done) | (go_simp; done) | (go_simp; rfl)); (case aP => exact k42_mkM _ _ _ ⟨k, s, n, wrap64 (a + l0.length), wrap64 (b + l0.length)⟩); (case aF => exact (fun _ _ => trivial)); (case aO => exact Kd.R_below HR.out (by repeat (first | (with_reducible first | exact Below.refl _ _ | exact HB.out | apply below_alloc | refine below_set ?_ (Nat.le_refl _) | refine below_set ?_ HG.out) | exact Below.refl _ _ | exact HB.out))); (case aB => exact (by repeat (first | (with_reducible first | exact Below.refl _ _ | exact HB.out | apply below_alloc | refine below_set ?_ (Nat.le_refl _) | refine below_set ?_ HG.out) | exact Below.refl _ _ | exact HB.out))); (case aS => exact Below.size (by repeat (first | (with_reducible first | exact Below.refl _ _ | exact HB.out | apply below_alloc | refine below_set ?_ (Nat.le_refl _) | refine below_set ?_ HG.out) | exact Below.refl _ _ | exact HB.out))); (case aL => simp only [List.length_append, List.length_map, List.length_take]; omega); intro v1 w1 hR1 hB1 hg1 hat1; obtain ⟨A1, c1, rfl⟩ := R_slice1 hR1; have HR' := Aside0.mk hR1; have HB' := Aside0.mk hB1; clear hR1 hB1 hg1 hat1))
          go_roundg d'
          case measure => omega
          case rel => exact ⟨i + 1, _, by go_num, rfl, ⟨by have := HI.out; omega⟩, ⟨by rw [joined_next hlt' HX.out, shiftN2 h2]; have hR9 := HR'.out; simp only [List.length_append, List.length_map, List.length_take] at hR9; exact hR9⟩, HB'⟩ -- using HR'.out⟩, HB'⟩
        · go_wp2_with (first | (go_at_call 60; refine (operands_calls k _).mono ?_; rintro e w' ⟨rfl, rfl⟩) | (at_builtin; refine Kd.R_append k42 (w0 := w) w.heap.size rfl (.tmp 41) (.tmp 43) 26 42 (.agg #[(.int .i64 0), (.string ⟨#[]⟩), (.int .i64 0), (.int .i64 0), (.int .i64 0)]) 48 rfl Try.underlying26 info42 rfl (by decide) (by omega) v (l0 ++ (l1.take i).map (shiftN l0.length)) ⟨k, s, n, wrap64 (a + l0.length), b⟩ _ (fun _ => True) (fun _ => False) rfl ?aX ?aP (fun _ hk => hk.elim) ?aF ?aO ?aB ?aS ?aL ?_; (case aX => first | (simp [Act.eval]; done) | (go_simp; done) | (go_simp; rfl)); (case aP => exact k42_mkM _ _ _ ⟨k, s, n, wrap64 (a + l0.length), b⟩); (case aF => exact (fun _ _ => trivial)); (case aO => exact Kd.R_below HR.out (by repeat (first | (with_reducible first | exact Below.refl _ _ | exact HB.out | apply below_alloc | refine below_set ?_ (Nat.le_refl _) | refine below_set ?_ HG.out) | exact Below.refl _ _ | exact HB.out))); (case aB => exact (by repeat (first | (with_reducible first | exact Below.refl _ _ | exact HB.out | apply below_alloc | refine below_set ?_ (Nat.le_refl _) | refine below_set ?_ HG.out) | exact Below.refl _ _ | exact HB.out))); (case aS => exact Below.size (by repeat (first | (with_reducible first | exact Below.refl _ _ | exact HB.out | apply below_alloc | refine below_set ?_ (Nat.le_refl _) | refine below_set ?_ HG.out) | exact Below.refl _ _ | exact HB.out))); (case aL => simp only [List.length_append, List.length_map, List.length_take]; omega); intro v1 w1 hR1 hB1 hg1 hat1; obtain ⟨A1, c1, rfl⟩ := R_slice1 hR1; have HR' := Aside0.mk hR1; have HB' := Aside0.mk hB1; clear hR1 hB1 hg1 hat1))
          go_roundg d'
          case measure => omega
          case rel => exact ⟨i + 1, _, by go_num, rfl, ⟨by have := HI.out; omega⟩, ⟨by rw [joined_next hlt' HX.out, shiftN1 h1 (by omega)]; have hR9 := HR'.out; simp only [List.length_append, List.length_map, List.length_take] at hR9; exact hR9⟩, HB'⟩ -- using HR'.out⟩, HB'⟩
      · have h2 : ¬ 2 ≤ arityI k := by omega
        go_wp2_with (first | (go_at_call 60; refine (operands_calls k _).mono ?_; rintro e w' ⟨rfl, rfl⟩) | (at_builtin; refine Kd.R_append k42 (w0 := w) w.heap.size rfl (.tmp 41) (.tmp 43) 26 42 (.agg #[(.int .i64 0), (.string ⟨#[]⟩), (.int .i64 0), (.int .i64 0), (.int .i64 0)]) 48 rfl Try.underlying26 info42 rfl (by decide) (by omega) v (l0 ++ (l1.take i).map (shiftN l0.length)) ⟨k, s, n, a, b⟩ _ (fun _ => True) (fun _ => False) rfl ?aX ?aP (fun _ hk => hk.elim) ?aF ?aO ?aB ?aS ?aL ?_; (case aX => first | (simp [Act.eval]; done) | (go_simp; done) | (go_simp; rfl)); (case aP => exact k42_mkM _ _ _ ⟨k, s, n, a, b⟩); (case aF => exact (fun _ _ => trivial)); (case aO => exact Kd.R_below HR.out (by repeat (first | (with_reducible first | exact Below.refl _ _ | exact HB.out | apply below_alloc | refine below_set ?_ (Nat.le_refl _) | refine below_set ?_ HG.out) | exact Below.refl _ _ | exact HB.out))); (case aB => exact (by repeat (first | (with_reducible first | exact Below.refl _ _ | exact HB.out | apply below_alloc | refine below_set ?_ (Nat.le_refl _) | refine below_set ?_ HG.out) | exact Below.refl _ _ | exact HB.out))); (case aS => exact Below.size (by repeat (first | (with_reducible first | exact Below.refl _ _ | exact HB.out | apply below_alloc | refine below_set ?_ (Nat.le_refl _) | refine below_set ?_ HG.out) | exact Below.refl _ _ | exact HB.out))); (case aL => simp only [List.length_append, List.length_map, List.length_take]; omega); intro v1 w1 hR1 hB1 hg1 hat1; obtain ⟨A1, c1, rfl⟩ := R_slice1 hR1; have HR' := Aside0.mk hR1; have HB' := Aside0.mk hB1; clear hR1 hB1 hg1 hat1))
        go_roundg d'
        case measure => omega
        case rel => exact ⟨i + 1, _, by go_num, rfl, ⟨by have := HI.out; omega⟩, ⟨by rw [joined_next hlt' HX.out, shiftN0 (by omega)]; have hR9 := HR'.out; simp only [List.length_append, List.length_map, List.length_take] at hR9; exact hR9⟩, HB'⟩ -- using HR'.out⟩, HB'⟩
    · have hi : i = l1.length := by have := HI.out; omega
      subst hi
      go_wp2_with fail
      go_ret
      exact ⟨_, rfl, by have := HR.out; rw [List.take_length] at this; exact this, HB.out⟩

/-- No condition but the size of the two. -/
def koineref25_joined.f (l0 l1 : List S42) : Option (List S42) := if l0.length + l1.length ≤ 1000000 then some (joinD l0 l1) else none
theorem koineref25_joined.calls (A0 : Option Addr) (c0 : Nat) (l0 : List (S42)) (A1 : Option Addr) (c1 : Nat) (l1 : List (S42)) (r : List (S42)) (w : World) (hr0 : Kd.C k42 w A0 l0.length l0) (hc0 : l0.length ≤ c0) (hr1 : Kd.C k42 w A1 l1.length l1) (hc1 : l1.length ≤ c1) (h : koineref25_joined.f l0 l1 = some r) :
    Calls Try.prog 64 #[.slice A0 l0.length c0, .slice A1 l1.length c1] w fun e w' => ∃ v0_ : Value, e = .returned (v0_) ∧ Kd.R k42 42 w' w.heap.size (fun _ => True) v0_ r ∧ Below w.heap.size w w' := by
  unfold koineref25_joined.f at h
  split at h
  · obtain rfl := Option.some.inj h
    exact joined_calls A0 c0 l0 A1 c1 l1 w hr0 hc0 hr1 hc1 (by omega)
  · exact absurd h (by simp)

end Go.Proofs.Ythmmdmnbcecooaa.A
