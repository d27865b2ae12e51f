/- strings.Builder at the head of document's writer: the contract of String; the contracts of the writer's add and feed. No condition of its own. -/
import Derived.Test.YthmmdmnbcecooaaB1
import Derived.Test.YthmmdmnbcecooaaShelf
import Derived.Outline
namespace Go.Proofs.Ythmmdmnbcecooaa.A
open Go.RowKit Go.Proofs.YthmmdmnbcecooaaW.PrintWords Go.Proofs.YthmmdmnbcecooaaW.PrintLast Go.Proofs.YthmmdmnbcecooaaW.PrintMore
set_option linter.unusedVariables false
set_option linter.unusedSimpArgs false

theorem cells5 : Try.prog.cellsOf 5 = 1 := by kernel_rfl

theorem unsafeString_none (W : World) (q : Option Addr) : (Builtin.unsafeString_ #[116, 3] 9 #[.pointer q, .int .i64 0]).run Try.prog W = .ok (.string .empty) W := Lib.run_unsafeString_none W _ _ _ q

theorem nums_bsI (l : List UInt8) : nums .u8 (bsI l) = Lib.byteCells l := by simp [nums, bsI, Lib.byteCells]

section
variable (W : World) (g : Nat) (p : Value) (col pend : Int) (wrong : Bool)
set_option maxRecDepth 100000 in
theorem string_some (B g' cap : Nat) (l : List UInt8) (h0 : l ≠ []) (hbk : W.heap[g]? = some (.cells #[p, .slice (some ⟨g', 0, none⟩) l.length cap, .int .i64 col, .int .i64 pend, .bool wrong] 83 (0, 0)))
    (hown : W.ownsRow B 5 1 (.slice (some ⟨g', 0, none⟩) l.length cap) l.length (Lib.byteCells l)) :
    Calls Try.prog 53 #[.pointer (some ⟨g, 0, none⟩)] W fun e w' => e = .returned (.string ⟨l.toArray⟩) ∧ Below B W w' := by
  have hl0 : l.length ≠ 0 := by simpa using h0
  obtain ⟨cur, hbg, hg, hnc, hcm, hcs⟩ : ∃ cur, B ≤ g' ∧ W.heap[g']? = some (.cells cur 5 (0, 0)) ∧ l.length ≤ cap ∧ cap ≤ maxLen ∧ cur.size = cap * 1 := by
    rcases hown.2 with ⟨hv, hz⟩ | ⟨g'', cap', cur, hv, r1, r2, r3, r4, r5, _⟩
    · exact absurd hz hl0
    · injection hv with e1 e2 e3
      injection e1 with e1
      injection e1 with e1
      subst e1 e3
      exact ⟨cur, r1, r2, r3, r4, r5⟩
  have c1 : W.drew.cell? ⟨g, 1, none⟩ = some (.slice (some ⟨g', 0, none⟩) l.length cap) := by
    have : W.drew.heap[g]? = some (.cells #[p, .slice (some ⟨g', 0, none⟩) l.length cap, .int .i64 col, .int .i64 pend, .bool wrong] 83 (0, 0)) := hbk
    rw [Lib.cell_of_heap this]; rfl
  have hSD : (Builtin.unsafeSliceData_ #[22] 116 #[.slice (some ⟨g', 0, none⟩) l.length cap]).run Try.prog W.drew = .ok (.pointer (some ⟨g', 0, none⟩)) W.drew :=
    Lib.run_unsafeSliceData_row _ _ _ _ _ _ (by omega)
  have hUS : (Builtin.unsafeString_ #[116, 3] 9 #[.pointer (some ⟨g', 0, none⟩), .int .i64 l.length]).run Try.prog W.drew = .ok (.string ⟨l.toArray⟩) (W.drew.freeze ⟨g', 0, none⟩ l.length) := by
    refine Lib.run_unsafeString_row W.drew 116 3 9 5 Try.underlying116 cells5 g' cur.size (by have hg' : W.drew.heap[g']? = some (.cells cur 5 (0, 0)) := hg; simp [World.shape?, hg']) l h0 (by omega) (by unfold maxLen at hcm; omega) ?_
    intro j x hx
    have := hown.cells (g := g') rfl j (.int .u8 x.toNat) (by simp [Lib.byteCells, hx])
    exact this
  go_enter Try.func53, Try.ntmps53
  go_wp2
  go_region
  all_goals (go_wp2; go_ret; exact ⟨rfl, Lib.below_freeze (Below.drew (Below.refl B W)) (p := ⟨g', 0, none⟩) hbg _⟩)

set_option maxRecDepth 100000 in
theorem string_nil (B : Nat) (hbk : W.heap[g]? = some (.cells #[p, .slice none 0 0, .int .i64 col, .int .i64 pend, .bool wrong] 83 (0, 0))) :
    Calls Try.prog 53 #[.pointer (some ⟨g, 0, none⟩)] W fun e w' => e = .returned (.string ⟨#[]⟩) ∧ Below B W w' := by
  have hUS := unsafeString_none
  have c1 : W.drew.cell? ⟨g, 1, none⟩ = some (.slice none 0 0) := by
    have : W.drew.heap[g]? = some (.cells #[p, .slice none 0 0, .int .i64 col, .int .i64 pend, .bool wrong] 83 (0, 0)) := hbk
    rw [Lib.cell_of_heap this]; rfl
  have hSD : (Builtin.unsafeSliceData_ #[22] 116 #[.slice none 0 0]).run Try.prog W.drew = .ok (.pointer none) W.drew := rfl
  go_enter Try.func53, Try.ntmps53
  go_wp2
  go_region
  all_goals (go_wp2; go_ret; exact ⟨rfl, Below.drew (Below.refl B W)⟩)

set_option maxRecDepth 100000 in
theorem string_noroom (B g' : Nat) (cur : Array Value) (hBw : B ≤ W.heap.size) (hbk : W.heap[g]? = some (.cells #[p, .slice (some ⟨g', 0, none⟩) 0 0, .int .i64 col, .int .i64 pend, .bool wrong] 83 (0, 0))) (hg : W.heap[g']? = some (.cells cur 5 (0, 0))) :
    Calls Try.prog 53 #[.pointer (some ⟨g, 0, none⟩)] W fun e w' => e = .returned (.string ⟨#[]⟩) ∧ Below B W w' := by
  have hUS := unsafeString_none
  have hlt : g < W.heap.size := blk_lt hbk
  have c1 : W.drew.cell? ⟨g, 1, none⟩ = some (.slice (some ⟨g', 0, none⟩) 0 0) := by
    have : W.drew.heap[g]? = some (.cells #[p, .slice (some ⟨g', 0, none⟩) 0 0, .int .i64 col, .int .i64 pend, .bool wrong] 83 (0, 0)) := hbk
    rw [Lib.cell_of_heap this]; rfl
  have hSD : (Builtin.unsafeSliceData_ #[22] 116 #[.slice (some ⟨g', 0, none⟩) 0 0]).run Try.prog W.drew = .ok (.pointer (some ⟨W.drew.heap.size, 0, none⟩)) (W.drew.alloc (.view ⟨g', 0, none⟩ 5)) :=
    Lib.run_unsafeSliceData_zero W.drew _ _ 5 Try.underlying116 ⟨g', 0, none⟩ 0 (5, cur.size) (by have hg' : W.drew.heap[g']? = some (.cells cur 5 (0, 0)) := hg; simp [World.shape?, hg'])
  have c2 : (W.drew.alloc (.view ⟨g', 0, none⟩ 5)).cell? ⟨g, 1, none⟩ = some (.slice (some ⟨g', 0, none⟩) 0 0) := by
    have : (W.drew.alloc (.view ⟨g', 0, none⟩ 5)).heap[g]? = _ := (Lib.alloc_old W.drew _ g hlt).trans hbk
    rw [Lib.cell_of_heap this]; rfl
  have c3 : (W.alloc (.view ⟨g', 0, none⟩ 5)).drew.cell? ⟨g, 1, none⟩ = some (.slice (some ⟨g', 0, none⟩) 0 0) := c2
  have c0 : W.cell? ⟨g, 1, none⟩ = some (.slice (some ⟨g', 0, none⟩) 0 0) := c1
  go_enter Try.func53, Try.ntmps53
  go_wp2
  go_region
  all_goals (go_wp2; go_ret; exact ⟨rfl, (Below.drew (Below.refl B W)).alloc hBw _⟩)

set_option maxRecDepth 100000 in
theorem string_room (B g' cap : Nat) (hc0 : cap ≠ 0) (hbk : W.heap[g]? = some (.cells #[p, .slice (some ⟨g', 0, none⟩) 0 cap, .int .i64 col, .int .i64 pend, .bool wrong] 83 (0, 0))) :
    Calls Try.prog 53 #[.pointer (some ⟨g, 0, none⟩)] W fun e w' => e = .returned (.string ⟨#[]⟩) ∧ Below B W w' := by
  have hUS := unsafeString_none
  have c1 : W.drew.cell? ⟨g, 1, none⟩ = some (.slice (some ⟨g', 0, none⟩) 0 cap) := by
    have : W.drew.heap[g]? = some (.cells #[p, .slice (some ⟨g', 0, none⟩) 0 cap, .int .i64 col, .int .i64 pend, .bool wrong] 83 (0, 0)) := hbk
    rw [Lib.cell_of_heap this]; rfl
  have hSD : (Builtin.unsafeSliceData_ #[22] 116 #[.slice (some ⟨g', 0, none⟩) 0 cap]).run Try.prog W.drew = .ok (.pointer (some ⟨g', 0, none⟩)) W.drew :=
    Lib.run_unsafeSliceData_row _ _ _ _ _ _ hc0
  clear hc0
  go_enter Try.func53, Try.ntmps53
  go_wp2
  go_region
  all_goals (go_wp2; go_ret; exact ⟨rfl, Below.drew (Below.refl B W)⟩)
end

/-- (*strings.Builder).String of the writer's builder. -/
theorem string_calls (w0 W : World) (g : Nat) (out : List UInt8) (col pend : Int) (wrong : Bool) (h : WrSt w0 g out col pend wrong W) :
    Calls Try.prog 53 #[.pointer (some ⟨g, 0, none⟩)] W fun e w' => e = .returned (.string ⟨out.toArray⟩) ∧ Below w0.heap.size w0 w' := by
  obtain ⟨p, v, hb, hp, ho⟩ := h.hb
  rw [nums_bsI, bsI_length] at ho
  have key : Calls Try.prog 53 #[.pointer (some ⟨g, 0, none⟩)] W fun e w' => e = .returned (.string ⟨out.toArray⟩) ∧ Below w0.heap.size W w' := by
    cases out with
    | nil =>
      rcases ho.2 with ⟨rfl, _⟩ | ⟨g', cap, cur, rfl, hbg, hg, _, _, _, _⟩
      · exact string_nil W g p col pend wrong _ hb
      · by_cases hc0 : cap = 0
        · subst hc0
          exact string_noroom W g p col pend wrong _ g' cur h.bel.size hb hg
        · exact string_room W g p col pend wrong _ g' cap hc0 hb
    | cons x r =>
      obtain ⟨g', cap, rfl, _, _⟩ := ho.form (by simp)
      exact string_some W g p col pend wrong _ g' cap (x :: r) (by simp) hb ho
  exact key.mono fun e w' ⟨he, hb'⟩ => ⟨he, h.bel.trans hb'⟩

end Go.Proofs.Ythmmdmnbcecooaa.A
