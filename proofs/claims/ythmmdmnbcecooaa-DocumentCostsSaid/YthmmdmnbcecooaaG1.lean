/- Contracts of document.arity and document.fields. No condition of its own. -/
import Derived.Test.YthmmdmnbcecooaaA0
import Derived.Test.YthmmdmnbcecooaaShelf
import Derived.Outline
namespace Go.Proofs.Ythmmdmnbcecooaa.A
open Go.RowKit Go.Proofs.YthmmdmnbcecooaaW.PrintWords Go.Proofs.YthmmdmnbcecooaaW.PrintLast Go.Proofs.YthmmdmnbcecooaaW.PrintMore
set_option linter.unusedVariables false
set_option linter.unusedSimpArgs false

def arityI (k : Int) : Int := if k = 0 ∨ k = 1 ∨ k = 2 then 0 else if k = 4 ∨ k = 5 ∨ k = 6 then 1 else if k = 3 then 2 else -1

theorem arity_calls (k : Int) (w : World) :
    Calls Try.prog 50 #[.int .i64 k] w fun e w' => e = .returned (.int .i64 (arityI k)) ∧ w = w' := by
  by_cases h0 : k = 0
  · subst h0
    go_enter Try.func50, Try.ntmps50
    go_wp2
    go_ret
    exact ⟨rfl, rfl⟩
  by_cases h1 : k = 1
  · subst h1
    go_enter Try.func50, Try.ntmps50
    go_wp2
    go_ret
    exact ⟨rfl, rfl⟩
  by_cases h2 : k = 2
  · subst h2
    go_enter Try.func50, Try.ntmps50
    go_wp2
    go_ret
    exact ⟨rfl, rfl⟩
  by_cases h3 : k = 3
  · subst h3
    go_enter Try.func50, Try.ntmps50
    go_wp2
    go_ret
    exact ⟨rfl, rfl⟩
  by_cases h4 : k = 4
  · subst h4
    go_enter Try.func50, Try.ntmps50
    go_wp2
    go_ret
    exact ⟨rfl, rfl⟩
  by_cases h5 : k = 5
  · subst h5
    go_enter Try.func50, Try.ntmps50
    go_wp2
    go_ret
    exact ⟨rfl, rfl⟩
  by_cases h6 : k = 6
  · subst h6
    go_enter Try.func50, Try.ntmps50
    go_wp2
    go_ret
    exact ⟨rfl, rfl⟩
  have b0 : (k == 0) = false := beq_eq_false_iff_ne.2 h0
  have b1 : (k == 1) = false := beq_eq_false_iff_ne.2 h1
  have b2 : (k == 2) = false := beq_eq_false_iff_ne.2 h2
  have b3 : (k == 3) = false := beq_eq_false_iff_ne.2 h3
  have b4 : (k == 4) = false := beq_eq_false_iff_ne.2 h4
  have b5 : (k == 5) = false := beq_eq_false_iff_ne.2 h5
  have b6 : (k == 6) = false := beq_eq_false_iff_ne.2 h6
  have hv : arityI k = -1 := by unfold arityI; simp [h0, h1, h2, h3, h4, h5, h6]
  have HV := Aside0.mk hv
  clear hv h0 h1 h2 h3 h4 h5 h6
  go_enter Try.func50, Try.ntmps50
  go_wp2
  go_ret
  exact ⟨by rw [HV.out]; rfl, rfl⟩

def enc42 (x : S42) : Value := .agg #[.int .i64 x.f0, .string x.f1, .int .i64 x.f2, .int .i64 x.f3, .int .i64 x.f4]

def fieldsB (x : S42) : Bool :=
  !((!x.f1.data.toList.isEmpty && !(x.f0 == 0 || x.f0 == 1)) || decide (0 ≤ Lib.indexByte x.f1.data.toList 10) || ((x.f2 != 0) && (x.f0 != 4)) || decide (x.f2 < 0) || decide (x.f2 > 1000))

theorem fields_calls (k : Int) (s : ByteArray) (n a b : Int) (w : World) :
    Calls Try.prog 58 #[.agg #[.int .i64 k, .string s, .int .i64 n, .int .i64 a, .int .i64 b]] w fun e w' => e = .returned (.bool (fieldsB ⟨k, s, n, a, b⟩)) ∧ w' = w.alloc (.cells #[.int .i64 k, .string s, .int .i64 n, .int .i64 a, .int .i64 b] 42) := by
  go_enter Try.func58, Try.ntmps58
  go_wp2_with (go_at_call 72; refine (Try.strings_Contains_one _ _ _).mono ?_; rintro e w' ⟨rfl, rfl⟩)
  all_goals
    go_ret
    refine ⟨?_, by first | rfl | simp [*]⟩
    try (simp_all [fieldsB, ByteArray.toList_eq]; done)
  all_goals trace_state

end Go.Proofs.Ythmmdmnbcecooaa.A
