/- The contract of document.Cost. No condition of its own. -/
import Derived.Test.YthmmdmnbcecooaaC1
namespace Go.Proofs.Ythmmdmnbcecooaa.A
open Go.RowKit Go.Proofs.YthmmdmnbcecooaaW.PrintWords Go.Proofs.YthmmdmnbcecooaaW.PrintLast Go.Proofs.YthmmdmnbcecooaaW.PrintMore
attribute [local go_sem] max2_int min2_int max_two min_two max_three min_three max_four min_four
set_option linter.unusedVariables false
set_option linter.unusedSimpArgs false

def CostPost (s : ByteArray) (wd : Int) (w : World) (e : Ending) (w' : World) : Prop :=
  e = .returned (.agg #[.int .i64 (costGo wd s.data.toList 0).1, .int .i64 (costGo wd s.data.toList 0).2]) ∧ Below w.heap.size w w'

theorem cut_step {t : ByteArray} {i : Nat} (h : Lib.indexByte t.data.toList 10 = i) (wd : Int) :
    i + 1 ≤ t.size ∧ costGo wd t.data.toList 0 = (mx 0 (i - wd) + (costGo wd (t.extract (i + 1) t.size).data.toList 0).1, (costGo wd (t.extract (i + 1) t.size).data.toList 0).2 + 1) ∧ (t.extract (i + 1) t.size).size + (i + 1) = t.size ∧ (t.extract 0 i).size = i := by
  have hi : i + 1 ≤ t.size := by
    have h1 := (Lib.indexByte_some h).1
    have := (List.getElem?_eq_some_iff.1 h1).1
    rw [data_length] at this
    omega
  refine ⟨hi, ?_, ?_, ?_⟩
  · rw [costGo_hit wd _ 0 i h, Int.zero_add]
    have hd : (t.extract (i + 1) t.size).data.toList = t.data.toList.drop (i + 1) := by
      rw [ByteArray.data_extract]
      simp
      apply List.take_of_length_le
      rw [List.length_drop, data_length]
      exact Nat.le_refl _
    rw [hd]
  · simp; omega
  · simp; omega

theorem cost_next {w wr : World} {b l : Int} (hr : wr.heap[w.heap.size]? = some (.cells #[.int .i64 0, .int .i64 0] 36 (0, 0))) (hc : wr.heap[w.heap.size + 1]? = some (.cells #[.int .i64 b, .int .i64 l] 36 (0, 0))) (hB : Below w.heap.size w wr) (n : Nat) (x l' : Int) :
    (((wr.drewN n).setCell ⟨w.heap.size + 1, 0, none⟩ (.int .i64 x)).setCell ⟨w.heap.size + 1, 1, none⟩ (.int .i64 l')).heap[w.heap.size]? = some (.cells #[.int .i64 0, .int .i64 0] 36 (0, 0)) ∧
    (((wr.drewN n).setCell ⟨w.heap.size + 1, 0, none⟩ (.int .i64 x)).setCell ⟨w.heap.size + 1, 1, none⟩ (.int .i64 l')).heap[w.heap.size + 1]? = some (.cells #[.int .i64 x, .int .i64 l'] 36 (0, 0)) ∧
    Below w.heap.size w (((wr.drewN n).setCell ⟨w.heap.size + 1, 0, none⟩ (.int .i64 x)).setCell ⟨w.heap.size + 1, 1, none⟩ (.int .i64 l')) := by
  refine ⟨blk_far (blk_far (blk_drewN hr n) (p := ⟨w.heap.size + 1, 0, none⟩) (by simp) _) (p := ⟨w.heap.size + 1, 1, none⟩) (by simp) _, blk_put (cs := #[.int .i64 x, .int .i64 l]) (blk_put (cs := #[.int .i64 b, .int .i64 l]) (blk_drewN hc n) 0 _ rfl) 1 _ rfl, ?_⟩
  exact ((pw_below_drewN hB n).setCell (p := ⟨w.heap.size + 1, 0, none⟩) (by simp) _).setCell (p := ⟨w.heap.size + 1, 1, none⟩) (by simp) _
theorem ret_agg2 {a b c d : Int} (h : a = c) (k : b = d) : Ending.returned (.agg #[.int .i64 a, .int .i64 b]) = .returned (.agg #[.int .i64 c, .int .i64 d]) := by rw [h, k]
theorem cost_end {w wr : World} {b l : Int} (hr : wr.heap[w.heap.size]? = some (.cells #[.int .i64 0, .int .i64 0] 36 (0, 0))) (hc : wr.heap[w.heap.size + 1]? = some (.cells #[.int .i64 b, .int .i64 l] 36 (0, 0))) (hB : Below w.heap.size w wr) (n : Nat) (x l' : Int) :
    ((((wr.drewN n).setCell ⟨w.heap.size + 1, 0, none⟩ (.int .i64 x)).setCell ⟨w.heap.size, 0, none⟩ (.int .i64 x)).setCell ⟨w.heap.size, 1, none⟩ (.int .i64 l')).heap[w.heap.size]? = some (.cells #[.int .i64 x, .int .i64 l'] 36 (0, 0)) ∧
    Below w.heap.size w ((((wr.drewN n).setCell ⟨w.heap.size + 1, 0, none⟩ (.int .i64 x)).setCell ⟨w.heap.size, 0, none⟩ (.int .i64 x)).setCell ⟨w.heap.size, 1, none⟩ (.int .i64 l')) := by
  refine ⟨blk_put (cs := #[.int .i64 x, .int .i64 0]) (blk_put (cs := #[.int .i64 0, .int .i64 0]) (blk_far (blk_drewN hr n) (p := ⟨w.heap.size + 1, 0, none⟩) (by simp) _) 0 _ rfl) 1 _ rfl, ?_⟩
  exact (((pw_below_drewN hB n).setCell (p := ⟨w.heap.size + 1, 0, none⟩) (by simp) _).setCell (p := ⟨w.heap.size, 0, none⟩) (Nat.le_refl _) _).setCell (p := ⟨w.heap.size, 1, none⟩) (Nat.le_refl _) _

set_option maxRecDepth 100000 in
theorem cost_nn (a0 : ByteArray) (a1 : Int) (w : World) (hs : a0.size ≤ 140737488355328) (h1 : a1 ≤ 9223372036854775807) (hn : 0 ≤ a1) :
    Calls Try.prog 27 #[.string a0, .int .i64 a1] w (CostPost a0 a1 w) := by
  have hu36 := Try.underlying36
  obtain ⟨B, L, hBL⟩ : ∃ B L, costGo a1 a0.data.toList 0 = (B, L) := ⟨_, _, rfl⟩
  have HBL := Aside0.mk hBL
  have hlen := data_length a0
  have hbd := costGo_bounds a1 (by omega) a0.data.toList 0 (by omega)
  rw [hBL, hlen] at hbd
  obtain ⟨hb1, hb2, hb3, hb4⟩ := hbd
  simp only at hb1 hb2 hb3 hb4
  clear hBL hlen
  go_enter Try.func27, Try.ntmps27
  go_wp2_with fail
  go_loopg [0] a0.size (fun d v0 W => ∃ (t : ByteArray) (b l : Int), v0 = .string t ∧ Aside0 (t.size = d) ∧ Aside0 (t.size ≤ a0.size) ∧ Aside0 (0 ≤ b ∧ 0 ≤ l ∧ b + (costGo a1 t.data.toList 0).1 = B ∧ l + (costGo a1 t.data.toList 0).2 = L) ∧
    Aside0 (W.heap[w.heap.size]? = some (.cells #[.int .i64 0, .int .i64 0] 36 (0, 0))) ∧ Aside0 (W.heap[w.heap.size + 1]? = some (.cells #[.int .i64 b, .int .i64 l] 36 (0, 0))) ∧ Aside0 (Below w.heap.size w W))
  case atStart => exact ⟨a0, 0, 0, rfl, ⟨rfl⟩, ⟨Nat.le_refl _⟩, ⟨by rw [HBL.out]; simp⟩, ⟨blk_alloc (heap_alloc_new w _) _⟩, ⟨by simpa using heap_alloc_new (w.alloc (Obj.cells #[Value.int IntKind.i64 0, Value.int IntKind.i64 0] 36)) (Obj.cells #[Value.int IntKind.i64 0, Value.int IntKind.i64 0] 36)⟩, ⟨((Below.refl _ _).alloc (Nat.le_refl _) _).alloc (by simp) _⟩⟩
  case round =>
    obtain ⟨t, b, l, rfl, HT, HTS, HS, HR, HC, HB⟩ := hrel
    have hb := costGo_bounds a1 (by omega) t.data.toList 0 (by omega)
    have htl := data_length t
    obtain ⟨s1, s2, s3, s4⟩ := HS.out
    have hts := HTS.out
    have hc0 : wr.cell? ⟨w.heap.size + 1, 0, none⟩ = some (.int .i64 b) := (blk_cell HC.out 0).trans rfl
    have hc1 : wr.cell? ⟨w.heap.size + 1, 1, none⟩ = some (.int .i64 l) := (blk_cell HC.out 1).trans rfl
    have hf0 : wr.frozen? ⟨w.heap.size + 1, 0, none⟩ = false := blk_frozen HC.out 0
    have hf1 : wr.frozen? ⟨w.heap.size + 1, 1, none⟩ = false := blk_frozen HC.out 1
    have hr0 : wr.cell? ⟨w.heap.size, 0, none⟩ = some (.int .i64 0) := (blk_cell HR.out 0).trans rfl
    have hr1 : wr.cell? ⟨w.heap.size, 1, none⟩ = some (.int .i64 0) := (blk_cell HR.out 1).trans rfl
    have hg0 : wr.frozen? ⟨w.heap.size, 0, none⟩ = false := blk_frozen HR.out 0
    have hg1 : wr.frozen? ⟨w.heap.size, 1, none⟩ = false := blk_frozen HR.out 1
    by_cases hm : Lib.indexByte t.data.toList 10 = -1
    · have hc := costGo_miss a1 t.data.toList 0 hm
      rw [htl, Int.zero_add] at hc
      rw [hc] at s3 s4 hb
      simp only at s3 s4 hb
      have HM := Aside0.mk hm
      have HS3 := Aside0.mk (And.intro s3 s4)
      have hbl : b ≤ B := by omega
      have hmx : 0 ≤ mx 0 ((t.size : Int) - a1) ∧ mx 0 ((t.size : Int) - a1) ≤ t.size := by unfold mx; split <;> omega
      clear hm hc htl s3 s4
      by_cases hgt : 0 < (t.size : Int) - a1
      · have HV := Aside0.mk (show mx 0 ((t.size : Int) - a1) = (t.size : Int) - a1 by unfold mx; rw [if_pos hgt])
        go_wp2_with (go_at_call 56; refine (cut_miss _ _ HM.out).mono ?_; rintro e w' ⟨rfl, n, rfl⟩)
        refine bodyPost_ret (results_cell_row rfl _ _ w.heap.size 36 #[.int .i64 (b + (↑t.size - a1)), .int .i64 l] (0, 0) _ rfl (cost_end HR.out HC.out HB.out n _ l).1 Try.underlying36 rfl (by kernel_rfl)) rfl ⟨?_, (cost_end HR.out HC.out HB.out n _ l).2⟩
        rw [HBL.out]
        exact ret_agg2 (by have := HS3.out.1; rw [HV.out] at this; omega) (by have := HS3.out.2; omega)
      · have HV := Aside0.mk (show mx 0 ((t.size : Int) - a1) = 0 by unfold mx; rw [if_neg hgt])
        go_wp2_with (go_at_call 56; refine (cut_miss _ _ HM.out).mono ?_; rintro e w' ⟨rfl, n, rfl⟩)
        refine bodyPost_ret (results_cell_row rfl _ _ w.heap.size 36 #[.int .i64 (b), .int .i64 l] (0, 0) _ rfl (cost_end HR.out HC.out HB.out n _ l).1 Try.underlying36 rfl (by kernel_rfl)) rfl ⟨?_, (cost_end HR.out HC.out HB.out n _ l).2⟩
        rw [HBL.out]
        exact ret_agg2 (by have := HS3.out.1; rw [HV.out] at this; omega) (by have := HS3.out.2; omega)
    · obtain ⟨i, hi⟩ : ∃ i : Nat, Lib.indexByte t.data.toList 10 = i := ⟨(Lib.indexByte t.data.toList 10).toNat, by have := Lib.indexByte_ge t.data.toList 10; omega⟩
      obtain ⟨q1, q2, q3, q4⟩ := cut_step hi a1
      have hb' := costGo_bounds a1 (by omega) (t.extract (i + 1) t.size).data.toList 0 (by omega)
      rw [q2] at s3 s4
      simp only at s3 s4
      have hmx : 0 ≤ mx 0 ((i : Int) - a1) ∧ mx 0 ((i : Int) - a1) ≤ i := by unfold mx; split <;> omega
      have hbl : b + mx 0 ((i : Int) - a1) ≤ B := by omega
      have hbl2 : l + 1 ≤ L := by omega
      have HI := Aside0.mk hi
      have HS3 := Aside0.mk (And.intro s3 s4)
      have HQ := Aside0.mk (And.intro q3 q4)
      have hmin : min i t.size = i := by omega
      clear hm hi q2 q3 q4 s3 s4 htl
      by_cases hgt : 0 < (i : Int) - a1
      · have hv : mx 0 ((i : Int) - a1) = (i : Int) - a1 := by unfold mx; rw [if_pos hgt]
        rw [hv] at hbl
        have HV := Aside0.mk hv
        clear hv
        go_wp2_with (go_at_call 56; refine (cut_hit _ i _ (by omega) q1 HI.out).mono ?_; rintro e w' ⟨rfl, n, rfl⟩)
        go_roundg (t.extract (i + 1) t.size).size
        case measure => have := HQ.out.1; have := HT.out; omega
        case rel => exact ⟨t.extract (i + 1) t.size, b + ((i : Int) - a1), l + 1, rfl, ⟨rfl⟩, ⟨by have := HQ.out.1; omega⟩, ⟨by omega, by omega, by have := HS3.out.1; rw [HV.out] at this; omega, by have := HS3.out.2; omega⟩, ⟨(cost_next HR.out HC.out HB.out n _ _).1⟩, ⟨(cost_next HR.out HC.out HB.out n _ _).2.1⟩, ⟨(cost_next HR.out HC.out HB.out n _ _).2.2⟩⟩
      · have hv : mx 0 ((i : Int) - a1) = 0 := by unfold mx; rw [if_neg hgt]
        rw [hv] at hbl
        have HV := Aside0.mk hv
        clear hv
        go_wp2_with (go_at_call 56; refine (cut_hit _ i _ (by omega) q1 HI.out).mono ?_; rintro e w' ⟨rfl, n, rfl⟩)
        go_roundg (t.extract (i + 1) t.size).size
        case measure => have := HQ.out.1; have := HT.out; omega
        case rel => exact ⟨t.extract (i + 1) t.size, b, l + 1, rfl, ⟨rfl⟩, ⟨by have := HQ.out.1; omega⟩, ⟨by omega, by omega, by have := HS3.out.1; rw [HV.out] at this; omega, by have := HS3.out.2; omega⟩, ⟨(cost_next HR.out HC.out HB.out n _ _).1⟩, ⟨(cost_next HR.out HC.out HB.out n _ _).2.1⟩, ⟨(cost_next HR.out HC.out HB.out n _ _).2.2⟩⟩

set_option maxRecDepth 100000 in
theorem cost_neg (a0 : ByteArray) (a1 : Int) (w : World) (hs : a0.size ≤ 140737488355328) (h1 : a1 ≤ 9223372036854775807) (hn : a1 < 0) :
    Calls Try.prog 27 #[.string a0, .int .i64 a1] w (CostPost a0 0 w) := by
  have hu36 := Try.underlying36
  obtain ⟨B, L, hBL⟩ : ∃ B L, costGo 0 a0.data.toList 0 = (B, L) := ⟨_, _, rfl⟩
  have HBL := Aside0.mk hBL
  have hlen := data_length a0
  have hbd := costGo_bounds 0 (by omega) a0.data.toList 0 (by omega)
  rw [hBL, hlen] at hbd
  obtain ⟨hb1, hb2, hb3, hb4⟩ := hbd
  simp only at hb1 hb2 hb3 hb4
  clear hBL hlen
  go_enter Try.func27, Try.ntmps27
  go_wp2_with fail
  go_loopg [0] a0.size (fun d v0 W => ∃ (t : ByteArray) (b l : Int), v0 = .string t ∧ Aside0 (t.size = d) ∧ Aside0 (t.size ≤ a0.size) ∧ Aside0 (0 ≤ b ∧ 0 ≤ l ∧ b + (costGo 0 t.data.toList 0).1 = B ∧ l + (costGo 0 t.data.toList 0).2 = L) ∧
    Aside0 (W.heap[w.heap.size]? = some (.cells #[.int .i64 0, .int .i64 0] 36 (0, 0))) ∧ Aside0 (W.heap[w.heap.size + 1]? = some (.cells #[.int .i64 b, .int .i64 l] 36 (0, 0))) ∧ Aside0 (Below w.heap.size w W))
  case atStart => exact ⟨a0, 0, 0, rfl, ⟨rfl⟩, ⟨Nat.le_refl _⟩, ⟨by rw [HBL.out]; simp⟩, ⟨blk_alloc (heap_alloc_new w _) _⟩, ⟨by simpa using heap_alloc_new (w.alloc (Obj.cells #[Value.int IntKind.i64 0, Value.int IntKind.i64 0] 36)) (Obj.cells #[Value.int IntKind.i64 0, Value.int IntKind.i64 0] 36)⟩, ⟨((Below.refl _ _).alloc (Nat.le_refl _) _).alloc (by simp) _⟩⟩
  case round =>
    obtain ⟨t, b, l, rfl, HT, HTS, HS, HR, HC, HB⟩ := hrel
    have hb := costGo_bounds 0 (by omega) t.data.toList 0 (by omega)
    have htl := data_length t
    obtain ⟨s1, s2, s3, s4⟩ := HS.out
    have hts := HTS.out
    have hc0 : wr.cell? ⟨w.heap.size + 1, 0, none⟩ = some (.int .i64 b) := (blk_cell HC.out 0).trans rfl
    have hc1 : wr.cell? ⟨w.heap.size + 1, 1, none⟩ = some (.int .i64 l) := (blk_cell HC.out 1).trans rfl
    have hf0 : wr.frozen? ⟨w.heap.size + 1, 0, none⟩ = false := blk_frozen HC.out 0
    have hf1 : wr.frozen? ⟨w.heap.size + 1, 1, none⟩ = false := blk_frozen HC.out 1
    have hr0 : wr.cell? ⟨w.heap.size, 0, none⟩ = some (.int .i64 0) := (blk_cell HR.out 0).trans rfl
    have hr1 : wr.cell? ⟨w.heap.size, 1, none⟩ = some (.int .i64 0) := (blk_cell HR.out 1).trans rfl
    have hg0 : wr.frozen? ⟨w.heap.size, 0, none⟩ = false := blk_frozen HR.out 0
    have hg1 : wr.frozen? ⟨w.heap.size, 1, none⟩ = false := blk_frozen HR.out 1
    by_cases hm : Lib.indexByte t.data.toList 10 = -1
    · have hc := costGo_miss 0 t.data.toList 0 hm
      rw [htl, Int.zero_add] at hc
      rw [hc] at s3 s4 hb
      simp only at s3 s4 hb
      have HM := Aside0.mk hm
      have HS3 := Aside0.mk (And.intro s3 s4)
      have hbl : b ≤ B := by omega
      have hmx : 0 ≤ mx 0 ((t.size : Int) - 0) ∧ mx 0 ((t.size : Int) - 0) ≤ t.size := by unfold mx; split <;> omega
      clear hm hc htl s3 s4
      by_cases hgt : 0 < (t.size : Int) - 0
      · have HV := Aside0.mk (show mx 0 ((t.size : Int) - 0) = (t.size : Int) - 0 by unfold mx; rw [if_pos hgt])
        go_wp2_with (go_at_call 56; refine (cut_miss _ _ HM.out).mono ?_; rintro e w' ⟨rfl, n, rfl⟩)
        refine bodyPost_ret (results_cell_row rfl _ _ w.heap.size 36 #[.int .i64 (b + ↑t.size), .int .i64 l] (0, 0) _ rfl (cost_end HR.out HC.out HB.out n _ l).1 Try.underlying36 rfl (by kernel_rfl)) rfl ⟨?_, (cost_end HR.out HC.out HB.out n _ l).2⟩
        rw [HBL.out]
        exact ret_agg2 (by have := HS3.out.1; rw [HV.out] at this; omega) (by have := HS3.out.2; omega)
      · have HV := Aside0.mk (show mx 0 ((t.size : Int) - 0) = 0 by unfold mx; rw [if_neg hgt])
        go_wp2_with (go_at_call 56; refine (cut_miss _ _ HM.out).mono ?_; rintro e w' ⟨rfl, n, rfl⟩)
        refine bodyPost_ret (results_cell_row rfl _ _ w.heap.size 36 #[.int .i64 (b), .int .i64 l] (0, 0) _ rfl (cost_end HR.out HC.out HB.out n _ l).1 Try.underlying36 rfl (by kernel_rfl)) rfl ⟨?_, (cost_end HR.out HC.out HB.out n _ l).2⟩
        rw [HBL.out]
        exact ret_agg2 (by have := HS3.out.1; rw [HV.out] at this; omega) (by have := HS3.out.2; omega)
    · obtain ⟨i, hi⟩ : ∃ i : Nat, Lib.indexByte t.data.toList 10 = i := ⟨(Lib.indexByte t.data.toList 10).toNat, by have := Lib.indexByte_ge t.data.toList 10; omega⟩
      obtain ⟨q1, q2, q3, q4⟩ := cut_step hi 0
      have hb' := costGo_bounds 0 (by omega) (t.extract (i + 1) t.size).data.toList 0 (by omega)
      rw [q2] at s3 s4
      simp only at s3 s4
      have hmx : 0 ≤ mx 0 ((i : Int) - 0) ∧ mx 0 ((i : Int) - 0) ≤ i := by unfold mx; split <;> omega
      have hbl : b + mx 0 ((i : Int) - 0) ≤ B := by omega
      have hbl2 : l + 1 ≤ L := by omega
      have HI := Aside0.mk hi
      have HS3 := Aside0.mk (And.intro s3 s4)
      have HQ := Aside0.mk (And.intro q3 q4)
      have hmin : min i t.size = i := by omega
      clear hm hi q2 q3 q4 s3 s4 htl
      by_cases hgt : 0 < (i : Int) - 0
      · have hv : mx 0 ((i : Int) - 0) = (i : Int) - 0 := by unfold mx; rw [if_pos hgt]
        rw [hv] at hbl
        have HV := Aside0.mk hv
        clear hv
        go_wp2_with (go_at_call 56; refine (cut_hit _ i _ (by omega) q1 HI.out).mono ?_; rintro e w' ⟨rfl, n, rfl⟩)
        go_roundg (t.extract (i + 1) t.size).size
        case measure => have := HQ.out.1; have := HT.out; omega
        case rel => exact ⟨t.extract (i + 1) t.size, b + (i : Int), l + 1, rfl, ⟨rfl⟩, ⟨by have := HQ.out.1; omega⟩, ⟨by omega, by omega, by have := HS3.out.1; rw [HV.out] at this; omega, by have := HS3.out.2; omega⟩, ⟨(cost_next HR.out HC.out HB.out n _ _).1⟩, ⟨(cost_next HR.out HC.out HB.out n _ _).2.1⟩, ⟨(cost_next HR.out HC.out HB.out n _ _).2.2⟩⟩
      · have hv : mx 0 ((i : Int) - 0) = 0 := by unfold mx; rw [if_neg hgt]
        rw [hv] at hbl
        have HV := Aside0.mk hv
        clear hv
        go_wp2_with (go_at_call 56; refine (cut_hit _ i _ (by omega) q1 HI.out).mono ?_; rintro e w' ⟨rfl, n, rfl⟩)
        go_roundg (t.extract (i + 1) t.size).size
        case measure => have := HQ.out.1; have := HT.out; omega
        case rel => exact ⟨t.extract (i + 1) t.size, b, l + 1, rfl, ⟨rfl⟩, ⟨by have := HQ.out.1; omega⟩, ⟨by omega, by omega, by have := HS3.out.1; rw [HV.out] at this; omega, by have := HS3.out.2; omega⟩, ⟨(cost_next HR.out HC.out HB.out n _ _).1⟩, ⟨(cost_next HR.out HC.out HB.out n _ _).2.1⟩, ⟨(cost_next HR.out HC.out HB.out n _ _).2.2⟩⟩

def document_Cost.f (a0 : ByteArray) (a1 : Int) : Option (Int × Int) :=
  if a0.size ≤ 140737488355328 ∧ a1 ≤ 9223372036854775807 then some (costGo (mx a1 0) a0.data.toList 0) else none

theorem document_Cost.calls (a0 : ByteArray) (a1 : Int) (r1 : Int) (r2 : Int) (w : World) (h : document_Cost.f a0 a1 = some (r1, r2)) :
    Calls Try.prog 27 #[.string a0, .int .i64 a1] w fun e w' => e = .returned (.agg #[.int .i64 r1, .int .i64 r2]) ∧ Below w.heap.size w w' := by
  unfold document_Cost.f at h
  split at h
  case isFalse => cases h
  case isTrue hs =>
    have h' := Option.some.inj h
    by_cases hn : a1 < 0
    · refine (cost_neg a0 a1 w hs.1 hs.2 hn).mono ?_
      intro e w' hw
      unfold CostPost at hw
      rw [show mx a1 0 = 0 by unfold mx; rw [if_pos hn]] at h'
      rw [h'] at hw
      exact hw
    · refine (cost_nn a0 a1 w hs.1 hs.2 (by omega)).mono ?_
      intro e w' hw
      unfold CostPost at hw
      rw [show mx a1 0 = a1 by unfold mx; rw [if_neg hn]] at h'
      rw [h'] at hw
      exact hw

end Go.Proofs.Ythmmdmnbcecooaa.A
