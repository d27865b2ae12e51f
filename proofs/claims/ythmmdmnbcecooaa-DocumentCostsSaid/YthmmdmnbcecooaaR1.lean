/- A map from whole numbers to bools that a call makes: its entries in order. No condition of its own. -/
import Derived.Test.YthmmdmnbcecooaaB5
import Derived.MapKept
import Derived.Carry
namespace Go.Proofs.Ythmmdmnbcecooaa.A
open Go.RowKit Go.Proofs.YthmmdmnbcecooaaW.PrintWords Go.Proofs.YthmmdmnbcecooaaW.PrintLast Go.Proofs.YthmmdmnbcecooaaW.PrintMore
open Go.Instr
set_option linter.unusedVariables false
set_option linter.unusedSimpArgs false

def mkEs : List (Nat × Bool) → Nat → List MapEntry
  | [], _ => []
  | p :: t, j => { key := .int .i64 p.1, val := .bool p.2, born := j } :: mkEs t (j + 1)

/-- What the map says of a key. -/
def chOf : List (Nat × Bool) → Nat → Bool
  | [], _ => false
  | p :: t, i => if p.1 = i then p.2 else chOf t i

theorem mkEs_snoc : ∀ (ps : List (Nat × Bool)) (j : Nat) (p : Nat × Bool), mkEs (ps ++ [p]) j = mkEs ps j ++ [{ key := .int .i64 p.1, val := .bool p.2, born := j + ps.length }]
  | [], j, p => rfl
  | q :: t, j, p => by simp only [List.cons_append, mkEs, mkEs_snoc t (j + 1) p, List.length_cons]; rw [show j + 1 + t.length = j + (t.length + 1) by omega]

theorem findNow_miss (g : Nat) : ∀ (ps : List (Nat × Bool)) (j n : Nat), (∀ p ∈ ps, p.1 ≠ g) → findNow (.int .i64) (.int .i64 g) (mkEs ps j) n = some none
  | [], _, _, _ => rfl
  | p :: t, j, n, h => by
    have h1 : ((g : Int) == (p.1 : Int)) = false := by
      have := h p List.mem_cons_self
      rw [beq_eq_false_iff_ne]; omega
    simp only [mkEs, findNow, sameNow, if_true, h1]
    exact findNow_miss g t (j + 1) (n + 1) (fun q hq => h q (List.mem_cons_of_mem _ hq))

theorem findNow_any (g : Nat) : ∀ (ps : List (Nat × Bool)) (j n : Nat), (∃ m, findNow (.int .i64) (.int .i64 g) (mkEs ps j) n = some (some (m, .bool (chOf ps g)))) ∨ (findNow (.int .i64) (.int .i64 g) (mkEs ps j) n = some none ∧ chOf ps g = false)
  | [], _, _ => .inr ⟨rfl, rfl⟩
  | p :: t, j, n => by
    by_cases h : p.1 = g
    · have h1 : ((g : Int) == (p.1 : Int)) = true := by rw [beq_iff_eq]; omega
      refine .inl ⟨n, ?_⟩
      simp only [mkEs, findNow, sameNow, if_true, h1, chOf, if_pos h]
    · have h1 : ((g : Int) == (p.1 : Int)) = false := by rw [beq_eq_false_iff_ne]; omega
      have e : findNow (.int .i64) (.int .i64 g) (mkEs (p :: t) j) n = findNow (.int .i64) (.int .i64 g) (mkEs t (j + 1)) (n + 1) := by
        simp only [mkEs, findNow, sameNow, if_true, h1]
      rw [e]
      simp only [chOf, if_neg h]
      exact findNow_any g t (j + 1) (n + 1)

def MapSt (W : World) (gm : Nat) (ps : List (Nat × Bool)) : Prop := W.heap[gm]? = some (.map (mkEs ps 0).toArray ps.length)

theorem findKey3 {W : World} {g : Nat} {es : List MapEntry} {r : Option (Nat × Value)} (h : findNow (.int .i64) (.int .i64 g) es 0 = some r) : (findKey 3 (.int .i64 g) es).run Try.prog W = .ok r W := by
  simp [findKey, run_underlying Try.underlying3, h]

theorem checkKey3 (e : Bool) (n : Nat) (g : Int) (W : World) : (checkKey e (n + 1) 3 (.int .i64 g)).run Try.prog W = .ok () W := by
  simp [checkKey, run_underlying Try.underlying3]

theorem lookup_run {W : World} {gm : Nat} {ps : List (Nat × Bool)} (h : MapSt W gm ps) (i : Nat) : (lookup 77 (.map (some gm)) (.int .i64 i) false).run Try.prog W = .ok (.bool (chOf ps i)) W := by
  have hz : (zeroValue 4).run Try.prog W = .ok (.bool false) W := Try.zeroValue4 W
  rcases findNow_any i ps 0 0 with ⟨m, hf⟩ | ⟨hf, hc⟩
  · simp [lookup, run_underlying Try.underlying77, MapKept.run_getObj_map h, checkKey3, findKey3 hf]
  · simp [lookup, run_underlying Try.underlying77, MapKept.run_getObj_map h, checkKey3, findKey3 hf, hz, hc]

theorem update_run {W : World} {gm : Nat} {ps : List (Nat × Bool)} (h : MapSt W gm ps) (g : Nat) (b : Bool) (hg : ∀ p ∈ ps, p.1 ≠ g) :
    ∃ W', (mapUpdate 77 (.map (some gm)) (.int .i64 g) (.bool b)).run Try.prog W = .ok () W' ∧ MapSt W' gm (ps ++ [(g, b)]) ∧ Below gm W W' ∧ KeepNot [] W W' := by
  have hf := findNow_miss g ps 0 0 hg
  have hlt : gm < W.heap.size := (Array.getElem?_eq_some_iff.1 h).1
  refine ⟨{ W with heap := W.heap.setIfInBounds gm (.map ((mkEs ps 0).toArray.push { key := .int .i64 g, val := .bool b, born := ps.length }) (ps.length + 1)) }, ?_, ?_, ?_, ?_⟩
  · simp [mapUpdate, run_underlying Try.underlying77, MapKept.run_getObj_map h, checkKey3, findKey3 hf, MapKept.run_setObj_map _ h]
  · unfold MapSt
    rw [mkEs_snoc]
    simp [Array.getElem?_setIfInBounds, hlt]
  · exact ⟨rfl, rfl, rfl, by simp, fun i hi => by simp [Array.getElem?_setIfInBounds]; omega⟩
  · refine ⟨fun k cs t fr _ hb => ?_⟩
    have hne : gm ≠ k := by
      rintro rfl
      rw [show W.heap[gm]? = _ from h] at hb
      cases hb
    simp [Array.getElem?_setIfInBounds, hne, hb]

end Go.Proofs.Ythmmdmnbcecooaa.A
