/- The contract of document.parts. No condition of its own. -/
import Derived.Test.YthmmdmnbcecooaaB4
import Derived.Test.YthmmdmnbcecooaaG3
import Derived.RegionTactic
import Derived.Outline
namespace Go.Proofs.Ythmmdmnbcecooaa.A
open Go.RowKit Go.Proofs.YthmmdmnbcecooaaW.PrintWords Go.Proofs.YthmmdmnbcecooaaW.PrintLast Go.Proofs.YthmmdmnbcecooaaW.PrintMore
set_option linter.unusedVariables false
set_option linter.unusedSimpArgs false

theorem info85 : (Try.prog.info? 85).map (fun i => (i.zero, i.size, i.bytes)) = some (some .nilIface, 1, 16) := by kernel_rfl

def partsL (ch : Nat → Bool) (l : List S42) (n i : Nat) : List Value := (List.range n).map fun j => if j < i then partV ch (tree l j) else .nilIface

theorem partsL_length (ch : Nat → Bool) (l : List S42) (n i : Nat) : (partsL ch l n i).length = n := by simp [partsL]
theorem partsL_get (ch : Nat → Bool) (l : List S42) (n i j : Nat) (hj : j < i) (hi : i ≤ n) : (partsL ch l n i)[j]? = some (partV ch (tree l j)) := by
  simp [partsL, hj, show j < n by omega]
theorem partsL_set (ch : Nat → Bool) (l : List S42) (n i : Nat) (hi : i < n) : (partsL ch l n i).set i (partV ch (tree l i)) = partsL ch l n (i + 1) := by
  apply List.ext_getElem
  · simp [partsL]
  · intro j h1 h2
    simp only [partsL, List.getElem_set, List.getElem_map, List.getElem_range]
    by_cases h : i = j
    · subst h; simp
    · rw [if_neg h]
      by_cases h3 : j < i
      · rw [if_pos h3, if_pos (by omega)]
      · rw [if_neg h3, if_neg (by omega)]
theorem partsL_start (ch : Nat → Bool) (l : List S42) (n : Nat) : (madeCells #[Value.nilIface] n) = (partsL ch l n 0).toArray := by
  apply Array.ext
  · simp [madeCells, partsL]
  · intro i h1 h2
    simp [madeCells, partsL, Nat.mod_one]

theorem parts_put {W : World} {g : Nat} {ch : Nat → Bool} {l : List S42} {n i : Nat} {v : Value} (h : W.heap[g]? = some (.cells (partsL ch l n i).toArray 85 (0, 0))) (hi : i < n) (hv : v = partV ch (tree l i)) :
    (W.setCell ⟨g, i, none⟩ v).heap[g]? = some (.cells (partsL ch l n (i + 1)).toArray 85 (0, 0)) := by
  rw [blk_set h i v, hv]
  simp only [List.setIfInBounds_toArray, partsL_set ch l n i hi]
theorem blk_old_alloc {W : World} {g : Nat} (h : g < W.heap.size) (o : Obj) : (W.alloc o).heap[g]? = W.heap[g]? := ((Below.refl W.heap.size W).alloc (Nat.le_refl _) o).block g h

set_option maxHeartbeats 1000000 in
set_option maxRecDepth 100000 in
theorem parts_calls (ad : Addr) (c gm : Nat) (l : List S42) (ch : Nat → Bool) (w : World) (hn : l.length ≤ 65536) (hp : 0 < l.length) (hv : ∀ i, i < l.length → NodeOk i (l.getD i z42)) (hr0 : Kd.C k42 w (some ad) l.length l) (hc : l.length ≤ c) (hgm : gm < w.heap.size)
    (hm : ∀ W, W.heap[gm]? = w.heap[gm]? → ∀ i : Nat, i < l.length → (Instr.lookup 77 (.map (some gm)) (.int .i64 i) false).run Try.prog W = .ok (.bool (ch i)) W) :
    Calls Try.prog 52 #[.slice (some ad) l.length c, .map (some gm)] w fun e w' => e = .returned (partV ch (tree l (l.length - 1))) ∧ Below w.heap.size w w' := by
  have hu42 := Try.underlying42
  have HR := Aside0.mk hr0
  have HM := Aside0.mk hm
  have HV := Aside0.mk hv
  clear hr0 hm hv
  have hmk := print_make_of (P := Try.prog) 103 85 .nilIface 16 Try.underlying103 info85 rfl (by decide) l.length (by omega)
  go_enter Try.func52, Try.ntmps52
  go_wp2_with fail
  go_loopg [13] l.length (fun d v13 W => ∃ (i : Nat), v13 = .int .i64 i ∧ Aside0 (i + d = l.length) ∧ Aside0 (W.heap[w.heap.size]? = some (.cells (partsL ch l l.length i).toArray 85 (0, 0))) ∧ Aside0 (Below w.heap.size w W))
  case atStart => exact ⟨0, rfl, ⟨by simp⟩, ⟨by rw [partsL_start ch l]; exact heap_alloc_new w _⟩, ⟨(Below.refl _ _).alloc (Nat.le_refl _) _⟩⟩
  case round =>
    obtain ⟨i, rfl, HI, HA, HB⟩ := hrel
    by_cases hlt : i < l.length
    · obtain ⟨k, s, n, a, b, hx⟩ : ∃ k s n a b, l.getD i z42 = ⟨k, s, n, a, b⟩ := ⟨_, _, _, _, _, rfl⟩
      obtain ⟨k0, k1, k2, k3, k4⟩ := cells42 HR.out hlt hx HB.out
      have ho := HV.out i hlt
      rw [hx] at ho
      have hkind : k = 0 ∨ k = 1 ∨ k = 2 ∨ k = 3 ∨ k = 4 ∨ k = 5 ∨ k = 6 := by have := ho.kind; simp only at this; omega
      have hfz : wr.frozen? ⟨w.heap.size, i, none⟩ = false := blk_frozen HA.out i
      have hci : wr.cell? ⟨w.heap.size, i, none⟩ = some .nilIface := by
        rw [blk_cell HA.out i]
        simp [partsL, hlt]
      have hws : w.heap.size < wr.heap.size := blk_lt HA.out
      have HX := Aside0.mk hx
      have HO := Aside0.mk ho
      clear hx ho
      obtain ⟨d', hd'⟩ : ∃ d', gk = d' + 1 := ⟨gk - 1, by have := HI.out; omega⟩
      have HD := Aside0.mk hd'
      clear hd'
      rcases hkind with rfl | rfl | rfl | rfl | rfl | rfl | rfl
      · have HV2 := Aside0.mk (show Value.iface 104 (Value.string s) = partV ch (tree l i) by rw [tree_text (by rw [HX.out]), HX.out]; rfl)
        go_wp2_with fail
        go_roundg d'
        case measure => have := HD.out; omega
        case rel => exact ⟨i + 1, by go_num, ⟨by have := HI.out; have := HD.out; omega⟩, ⟨by (with_reducible repeat (first | refine blk_drewN ?_ _ | refine blk_drew ?_ | refine blk_alloc ?_ _)); exact parts_put HA.out hlt HV2.out⟩, ⟨by repeat (first | (with_reducible first | exact HB.out | apply below_alloc | apply pw_below_drewN | apply below_drew1 | refine below_set ?_ (Nat.le_refl _)) | exact HB.out)⟩⟩
      · have HV2 := Aside0.mk (show Value.iface 105 (Value.string s) = partV ch (tree l i) by rw [tree_line (by rw [HX.out]), HX.out]; rfl)
        go_wp2_with fail
        go_roundg d'
        case measure => have := HD.out; omega
        case rel => exact ⟨i + 1, by go_num, ⟨by have := HI.out; have := HD.out; omega⟩, ⟨by (with_reducible repeat (first | refine blk_drewN ?_ _ | refine blk_drew ?_ | refine blk_alloc ?_ _)); exact parts_put HA.out hlt HV2.out⟩, ⟨by repeat (first | (with_reducible first | exact HB.out | apply below_alloc | apply pw_below_drewN | apply below_drew1 | refine below_set ?_ (Nat.le_refl _)) | exact HB.out)⟩⟩
      · have HV2 := Aside0.mk (show Value.iface 107 (Value.agg #[]) = partV ch (tree l i) by rw [tree_hard (by rw [HX.out])]; rfl)
        go_wp2_with fail
        go_roundg d'
        case measure => have := HD.out; omega
        case rel => exact ⟨i + 1, by go_num, ⟨by have := HI.out; have := HD.out; omega⟩, ⟨by (with_reducible repeat (first | refine blk_drewN ?_ _ | refine blk_drew ?_ | refine blk_alloc ?_ _)); exact parts_put HA.out hlt HV2.out⟩, ⟨by repeat (first | (with_reducible first | exact HB.out | apply below_alloc | apply pw_below_drewN | apply below_drew1 | refine below_set ?_ (Nat.le_refl _)) | exact HB.out)⟩⟩
      · obtain ⟨ha0, ha1⟩ := HO.out.a (by simp)
        obtain ⟨hb0, hb1⟩ := HO.out.b rfl
        obtain ⟨a', rfl⟩ := Int.eq_ofNat_of_zero_le (show 0 ≤ a from ha0)
        obtain ⟨b', rfl⟩ := Int.eq_ofNat_of_zero_le (show 0 ≤ b from hb0)
        have ha1 : a' < i := by simp only at ha1; omega
        have hb1 : b' < i := by simp only at hb1; omega
        have hca : wr.cell? ⟨w.heap.size, a', none⟩ = some (.iface (partT (tree l a')) (partP ch (tree l a'))) := by
          rw [blk_cell HA.out a', ← partV_eq]
          simpa using partsL_get ch l l.length i a' ha1 (by omega)
        have ha2 : a' < l.length := by omega
        have hcb : wr.cell? ⟨w.heap.size, b', none⟩ = some (.iface (partT (tree l b')) (partP ch (tree l b'))) := by
          rw [blk_cell HA.out b', ← partV_eq]
          simpa using partsL_get ch l l.length i b' hb1 (by omega)
        have hb2 : b' < l.length := by omega
        have HV2 := Aside0.mk (show Value.iface 109 (.agg #[.iface (partT (tree l a')) (partP ch (tree l a')), .iface (partT (tree l b')) (partP ch (tree l b'))]) = partV ch (tree l i) by rw [tree_seq HV.out hlt (by rw [HX.out]), HX.out]; simp only [partV, partV_eq, Int.toNat_natCast])
        go_wp2_with fail
        go_region
        go_wp2_with fail
        go_roundg d'
        case measure => have := HD.out; omega
        case rel => exact ⟨i + 1, by go_num, ⟨by have := HI.out; have := HD.out; omega⟩, ⟨by (with_reducible repeat (first | refine blk_drewN ?_ _ | refine blk_drew ?_ | refine blk_alloc ?_ _)); exact parts_put HA.out hlt HV2.out⟩, ⟨by repeat (first | (with_reducible first | exact HB.out | apply below_alloc | apply pw_below_drewN | apply below_drew1 | refine below_set ?_ (Nat.le_refl _)) | exact HB.out)⟩⟩
      · obtain ⟨ha0, ha1⟩ := HO.out.a (by simp)
        obtain ⟨a', rfl⟩ := Int.eq_ofNat_of_zero_le (show 0 ≤ a from ha0)
        have ha1 : a' < i := by simp only at ha1; omega
        have hca : wr.cell? ⟨w.heap.size, a', none⟩ = some (.iface (partT (tree l a')) (partP ch (tree l a'))) := by
          rw [blk_cell HA.out a', ← partV_eq]
          simpa using partsL_get ch l l.length i a' ha1 (by omega)
        have ha2 : a' < l.length := by omega
        have HV2 := Aside0.mk (show Value.iface 111 (.agg #[.int .i64 n, .iface (partT (tree l a')) (partP ch (tree l a'))]) = partV ch (tree l i) by rw [tree_nest HV.out hlt (by rw [HX.out]), HX.out]; simp only [partV, partV_eq, Int.toNat_natCast])
        go_wp2_with fail
        go_region
        go_wp2_with fail
        go_roundg d'
        case measure => have := HD.out; omega
        case rel => exact ⟨i + 1, by go_num, ⟨by have := HI.out; have := HD.out; omega⟩, ⟨by (with_reducible repeat (first | refine blk_drewN ?_ _ | refine blk_drew ?_ | refine blk_alloc ?_ _)); exact parts_put HA.out hlt HV2.out⟩, ⟨by repeat (first | (with_reducible first | exact HB.out | apply below_alloc | apply pw_below_drewN | apply below_drew1 | refine below_set ?_ (Nat.le_refl _)) | exact HB.out)⟩⟩
      · obtain ⟨ha0, ha1⟩ := HO.out.a (by simp)
        obtain ⟨a', rfl⟩ := Int.eq_ofNat_of_zero_le (show 0 ≤ a from ha0)
        have ha1 : a' < i := by simp only at ha1; omega
        have hca : wr.cell? ⟨w.heap.size, a', none⟩ = some (.iface (partT (tree l a')) (partP ch (tree l a'))) := by
          rw [blk_cell HA.out a', ← partV_eq]
          simpa using partsL_get ch l l.length i a' ha1 (by omega)
        have ha2 : a' < l.length := by omega
        have HV2 := Aside0.mk (show Value.iface 113 (.agg #[.iface (partT (tree l a')) (partP ch (tree l a'))]) = partV ch (tree l i) by rw [tree_align HV.out hlt (by rw [HX.out]), HX.out]; simp only [partV, partV_eq, Int.toNat_natCast])
        go_wp2_with fail
        go_roundg d'
        case measure => have := HD.out; omega
        case rel => exact ⟨i + 1, by go_num, ⟨by have := HI.out; have := HD.out; omega⟩, ⟨by (with_reducible repeat (first | refine blk_drewN ?_ _ | refine blk_drew ?_ | refine blk_alloc ?_ _)); exact parts_put HA.out hlt HV2.out⟩, ⟨by repeat (first | (with_reducible first | exact HB.out | apply below_alloc | apply pw_below_drewN | apply below_drew1 | refine below_set ?_ (Nat.le_refl _)) | exact HB.out)⟩⟩
      · obtain ⟨ha0, ha1⟩ := HO.out.a (by simp)
        obtain ⟨a', rfl⟩ := Int.eq_ofNat_of_zero_le (show 0 ≤ a from ha0)
        have ha1 : a' < i := by simp only at ha1; omega
        have hca : wr.cell? ⟨w.heap.size, a', none⟩ = some (.iface (partT (tree l a')) (partP ch (tree l a'))) := by
          rw [blk_cell HA.out a', ← partV_eq]
          simpa using partsL_get ch l l.length i a' ha1 (by omega)
        have ha2 : a' < l.length := by omega
        have HV2 := Aside0.mk (show Value.iface 115 (.agg #[.iface (partT (tree l a')) (partP ch (tree l a')), .bool (ch i)]) = partV ch (tree l i) by rw [tree_group HV.out hlt (by rw [HX.out]), HX.out]; simp only [partV, partV_eq, Int.toNat_natCast])
        have hlk := HM.out ((wr.alloc (Obj.cells #[Value.int IntKind.i64 6, Value.string s, Value.int IntKind.i64 n, Value.int IntKind.i64 a', Value.int IntKind.i64 b] 42)).drew) ((blk_old_alloc (by omega) _).trans (HB.out.block gm hgm)) i hlt
        go_wp2_with fail
        go_region
        go_wp2_with fail
        go_roundg d'
        case measure => have := HD.out; omega
        case rel => exact ⟨i + 1, by go_num, ⟨by have := HI.out; have := HD.out; omega⟩, ⟨by (with_reducible repeat (first | refine blk_drewN ?_ _ | refine blk_drew ?_ | refine blk_alloc ?_ _)); exact parts_put HA.out hlt HV2.out⟩, ⟨by repeat (first | (with_reducible first | exact HB.out | apply below_alloc | apply pw_below_drewN | apply below_drew1 | refine below_set ?_ (Nat.le_refl _)) | exact HB.out)⟩⟩
    · have hi : i = l.length := by have := HI.out; omega
      have hcl : wr.cell? ⟨w.heap.size, l.length - 1, none⟩ = some (.iface (partT (tree l (l.length - 1))) (partP ch (tree l (l.length - 1)))) := by
        rw [blk_cell HA.out, ← partV_eq]
        simpa using partsL_get ch l l.length i (l.length - 1) (by omega) (by omega)
      clear hi
      go_wp2_with fail
      go_ret
      exact ⟨by rw [partV_eq]; rfl, HB.out⟩

end Go.Proofs.Ythmmdmnbcecooaa.A
