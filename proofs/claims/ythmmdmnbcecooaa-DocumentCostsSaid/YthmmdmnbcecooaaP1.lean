/- What the reference's operands, joined, Seq, Wrap and Text come to, in plain words. No condition of its own. -/
import Derived.Test.YthmmdmnbcecooaaA2
import Derived.Test.YthmmdmnbcecooaaG6
namespace Go.Proofs.Ythmmdmnbcecooaa.A
open Go.RowKit Go.Proofs.YthmmdmnbcecooaaW.PrintWords Go.Proofs.YthmmdmnbcecooaaW.PrintLast Go.Proofs.YthmmdmnbcecooaaW.PrintMore
set_option linter.unusedVariables false
set_option linter.unusedSimpArgs false

theorem operands_eq (a : Int) : koineref25_operands.f a = some (arityI a) := rfl

def seqD (a b : List S42) : List S42 := joinD a b ++ [⟨3, ⟨#[]⟩, 0, (a.length : Int) - 1, (a.length : Int) + b.length - 1⟩]
def wrapD (kind n : Int) (a : List S42) : List S42 := a ++ [⟨kind, ⟨#[]⟩, n, (a.length : Int) - 1, 0⟩]
def textD (s : ByteArray) : List S42 := [⟨0, s, 0, 0, 0⟩]

theorem seqD_length (a b : List S42) : (seqD a b).length = a.length + b.length + 1 := by simp [seqD, joinD]; omega
theorem wrapD_length (kind n : Int) (a : List S42) : (wrapD kind n a).length = a.length + 1 := by simp [wrapD]

theorem joined_eq (a b : List S42) (ha : a.length + b.length ≤ 1000000) : koineref25_joined.f a b = some (joinD a b) := if_pos ha

theorem Seq_eq (a b : List S42) (ha : a.length + b.length ≤ 1000000) : koineref25_Seq.f a b = some (seqD a b) := by
  unfold koineref25_Seq.f
  rw [joined_eq a b ha]
  simp only [Option.bind_some]
  rw [if_pos (by simp [joinD]; omega), wrap64_small (by omega) (by omega), wrap64_small (x := (a.length : Int) + b.length) (by omega) (by omega), wrap64_small (by omega) (by omega)]
  rfl

theorem Wrap_eq (kind n : Int) (a : List S42) (ha : a.length ≤ 1000000) : koineref25_Wrap.f kind n a = some (wrapD kind n a) := by
  unfold koineref25_Wrap.f
  simp only [Option.bind_some, List.nil_append, List.length_nil]
  rw [if_pos (by omega), if_pos (by omega), wrap64_small (by omega) (by omega)]
  rfl

end Go.Proofs.Ythmmdmnbcecooaa.A
