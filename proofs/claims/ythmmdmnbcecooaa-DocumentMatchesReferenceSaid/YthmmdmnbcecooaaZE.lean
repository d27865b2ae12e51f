/- A7, A8, R4, R5, R3, A11, A12, Q11, Q12: texts of this seat, one behind the other. No condition of its own. -/
import Derived.Test.YthmmdmnbcecooaaZA
import Derived.Test.YthmmdmnbcecooaaZC
import Derived.Deep.RegionWith
import Derived.Test.YthmmdmnbcecooaaZD
/-! A7 -/
namespace Go.Proofs.Ythmmdmnbcecooaa.A
open Go.RowKit Go.Proofs.YthmmdmnbcecooaaW.PrintWords Go.Proofs.YthmmdmnbcecooaaW.PrintLast Go.Proofs.YthmmdmnbcecooaaW.PrintMore
attribute [local go_sem] max2_int min2_int max_two min_two max_three min_three max_four min_four   -- for this text's walks alone
set_option linter.unusedVariables false
set_option linter.unusedSimpArgs false

/-- A state of type 93 at block g of W; what its slices lead to came in by w0. -/
def IsS93 (w0 W : World) (g : Nat) (f0 : List (S42)) (f1 : List Int) (f2 : List Bool) (f3 : ByteArray) (f4 : Int) (f5 : Int) (f6 : Bool) : Prop := ∃ A0 c0, ∃ A1 c1, ∃ A2 c2, W.heap[g]? = some (.cells #[.slice A0 f0.length c0, .slice A1 f1.length c1, .slice A2 f2.length c2, .string f3, .int .i64 f4, .int .i64 f5, .bool f6] 93 (0, 0)) ∧ w0.heap.size ≤ g ∧ Kd.C k42 w0 A0 f0.length f0 ∧ Kd.C (Kd.int .i64) w0 A1 f1.length f1 ∧ Kd.C Kd.bool w0 A2 f2.length f2
theorem IsS93.grown {w0 W : World} {g : Nat} {f0 : List (S42)} {f1 : List Int} {f2 : List Bool} {f3 : ByteArray} {f4 : Int} {f5 : Int} {f6 : Bool} {W1 : World} {row : Option Nat} (h : IsS93 w0 W g f0 f1 f2 f3 f4 f5 f6) (hw : W.grownBy W1 row) (hne : some g ≠ row) : IsS93 w0 W1 g f0 f1 f2 f3 f4 f5 f6 := by
  obtain ⟨A0, c0, A1, c1, A2, c2, hb, hg, hr0, hr1, hr2⟩ := h
  exact ⟨A0, c0, A1, c1, A2, c2, blk_grown hb hw hne, hg, hr0, hr1, hr2⟩
theorem IsS93.own_neN {w0 W : World} {g : Nat} {f0 : List (S42)} {f1 : List Int} {f2 : List Bool} {f3 : ByteArray} {f4 : Int} {f5 : Int} {f6 : Bool} {α : Type} {d : Kd α} {e : Nat} {base : Nat} {ok : Nat → Prop} {v : Value} {xs : List α} (h : IsS93 w0 W g f0 f1 f2 f3 f4 f5 f6) (ho : Kd.N d e W base ok v xs) (ht : e ≠ 93) : some g ≠ v.ownBlock := by
  obtain ⟨A0, c0, A1, c1, A2, c2, hb, hg, hr0, hr1, hr2⟩ := h
  exact Kd.N_ne ho hb ht
theorem IsS93.fresh {w0 W : World} {g : Nat} {f0 : List (S42)} {f1 : List Int} {f2 : List Bool} {f3 : ByteArray} {f4 : Int} {f5 : Int} {f6 : Bool} (h : IsS93 w0 W g f0 f1 f2 f3 f4 f5 f6) : ∀ k, W.heap.size ≤ k → k ≠ g := by
  obtain ⟨A0, c0, A1, c1, A2, c2, hb, hg, hr0, hr1, hr2⟩ := h
  exact Kd.freshB hb
theorem IsS93.kept {w0 W : World} {g : Nat} {f0 : List (S42)} {f1 : List Int} {f2 : List Bool} {f3 : ByteArray} {f4 : Int} {f5 : Int} {f6 : Bool} {W1 : World} {S : Nat → Prop} (h : IsS93 w0 W g f0 f1 f2 f3 f4 f5 f6) (hk : Kept W W1 S) (hne : ¬ S g) : IsS93 w0 W1 g f0 f1 f2 f3 f4 f5 f6 := by
  obtain ⟨A0, c0, A1, c1, A2, c2, hb, hg, hr0, hr1, hr2⟩ := h
  exact ⟨A0, c0, A1, c1, A2, c2, blk_kept hb hk hne, hg, hr0, hr1, hr2⟩
theorem IsS93.below {w0 W : World} {g : Nat} {f0 : List (S42)} {f1 : List Int} {f2 : List Bool} {f3 : ByteArray} {f4 : Int} {f5 : Int} {f6 : Bool} {W1 : World} (h : IsS93 w0 W g f0 f1 f2 f3 f4 f5 f6) (hw : Below W.heap.size W W1) : IsS93 w0 W1 g f0 f1 f2 f3 f4 f5 f6 := h.grown (grown_of_below hw none) (by simp)
theorem IsS93.alloc {w0 W : World} {g : Nat} {f0 : List (S42)} {f1 : List Int} {f2 : List Bool} {f3 : ByteArray} {f4 : Int} {f5 : Int} {f6 : Bool} (h : IsS93 w0 W g f0 f1 f2 f3 f4 f5 f6) (o : Obj) : IsS93 w0 (W.alloc o) g f0 f1 f2 f3 f4 f5 f6 := h.below (below_alloc (Below.refl _ _) o)
theorem IsS93.drewN {w0 W : World} {g : Nat} {f0 : List (S42)} {f1 : List Int} {f2 : List Bool} {f3 : ByteArray} {f4 : Int} {f5 : Int} {f6 : Bool} (h : IsS93 w0 W g f0 f1 f2 f3 f4 f5 f6) (m : Nat) : IsS93 w0 (W.drewN m) g f0 f1 f2 f3 f4 f5 f6 := h
theorem IsS93.drew {w0 W : World} {g : Nat} {f0 : List (S42)} {f1 : List Int} {f2 : List Bool} {f3 : ByteArray} {f4 : Int} {f5 : Int} {f6 : Bool} (h : IsS93 w0 W g f0 f1 f2 f3 f4 f5 f6) : IsS93 w0 W.drew g f0 f1 f2 f3 f4 f5 f6 := h
theorem IsS93.at_ {w0 W : World} {g : Nat} {f0 : List (S42)} {f1 : List Int} {f2 : List Bool} {f3 : ByteArray} {f4 : Int} {f5 : Int} {f6 : Bool} {w' : World} {m : Nat} (hq : W.drewN m = w') (h : IsS93 w0 W g f0 f1 f2 f3 f4 f5 f6) : IsS93 w0 w' g f0 f1 f2 f3 f4 f5 f6 := by subst hq; exact IsS93.drewN h m
theorem IsS93.apart {w0 W : World} {g : Nat} {f0 : List (S42)} {f1 : List Int} {f2 : List Bool} {f3 : ByteArray} {f4 : Int} {f5 : Int} {f6 : Bool} {α : Type} {d : Kd α} {e : Nat} {base : Nat} {ok : Nat → Prop} {v : Value} {xs : List α} (h : IsS93 w0 W g f0 f1 f2 f3 f4 f5 f6) (ho : d.R e W base ok v xs) (ht : ∀ q, q ∈ e :: d.E → q ≠ 93) : d.R e W base (fun k => ok k ∧ k ≠ g) v xs := by
  obtain ⟨A0, c0, A1, c1, A2, c2, hb, hg, hr0, hr1, hr2⟩ := h
  exact Kd.R_types ho hb ht
theorem IsS93.own_ne {w0 W : World} {g : Nat} {f0 : List (S42)} {f1 : List Int} {f2 : List Bool} {f3 : ByteArray} {f4 : Int} {f5 : Int} {f6 : Bool} {α : Type} {d : Kd α} {e : Nat} {base : Nat} {ok : Nat → Prop} {v : Value} {xs : List α} (h : IsS93 w0 W g f0 f1 f2 f3 f4 f5 f6) (ho : d.R e W base ok v xs) (ht : e ≠ 93) : some g ≠ v.ownBlock := by
  obtain ⟨A0, c0, A1, c1, A2, c2, hb, hg, hr0, hr1, hr2⟩ := h
  exact Kd.R_ne ho hb ht
theorem IsS93.apartQ {w0 W : World} {g : Nat} {f0 : List (S42)} {f1 : List Int} {f2 : List Bool} {f3 : ByteArray} {f4 : Int} {f5 : Int} {f6 : Bool} {α : Type} {d : Kd α} {e : Nat} {base : Nat} {ok : Nat → Prop} {v : Value} {xs : List α} (h : IsS93 w0 W g f0 f1 f2 f3 f4 f5 f6) (ho : d.Q e W base ok v xs) (ht : ∀ q, q ∈ e :: d.E → q ≠ 93) : d.Q e W base (fun k => ok k ∧ k ≠ g) v xs := by
  obtain ⟨A0, c0, A1, c1, A2, c2, hb, hg, hr0, hr1, hr2⟩ := h
  exact Kd.Q_types ho hb ht
theorem IsS93.own_neQ {w0 W : World} {g : Nat} {f0 : List (S42)} {f1 : List Int} {f2 : List Bool} {f3 : ByteArray} {f4 : Int} {f5 : Int} {f6 : Bool} {α : Type} {d : Kd α} {e : Nat} {base : Nat} {ok : Nat → Prop} {v : Value} {xs : List α} (h : IsS93 w0 W g f0 f1 f2 f3 f4 f5 f6) (ho : d.Q e W base ok v xs) (ht : e ≠ 93) : some g ≠ v.ownBlock := by
  obtain ⟨A0, c0, A1, c1, A2, c2, hb, hg, hr0, hr1, hr2⟩ := h
  exact Kd.Q_ne ho hb ht
theorem IsS93.apartS {w0 W : World} {g : Nat} {f0 : List (S42)} {f1 : List Int} {f2 : List Bool} {f3 : ByteArray} {f4 : Int} {f5 : Int} {f6 : Bool} {α : Type} {d : Kd α} {e : Nat} {base : Nat} {ok : Nat → Prop} {v : Value} {xs : List α} (h : IsS93 w0 W g f0 f1 f2 f3 f4 f5 f6) (ho : d.S e W base ok v xs) (ht : ∀ q, q ∈ e :: d.E → q ≠ 93) : d.S e W base (fun k => ok k ∧ k ≠ g) v xs := by
  obtain ⟨A0, c0, A1, c1, A2, c2, hb, hg, hr0, hr1, hr2⟩ := h
  exact Kd.S_types ho hb ht
theorem IsS93.own_neS {w0 W : World} {g : Nat} {f0 : List (S42)} {f1 : List Int} {f2 : List Bool} {f3 : ByteArray} {f4 : Int} {f5 : Int} {f6 : Bool} {α : Type} {d : Kd α} {e : Nat} {base : Nat} {ok : Nat → Prop} {v : Value} {xs : List α} (h : IsS93 w0 W g f0 f1 f2 f3 f4 f5 f6) (ho : d.S e W base ok v xs) (ht : e ≠ 93) : some g ≠ v.ownBlock := by
  obtain ⟨A0, c0, A1, c1, A2, c2, hb, hg, hr0, hr1, hr2⟩ := h
  exact Kd.S_ne ho hb ht
theorem IsS93.lt {w0 W : World} {g : Nat} {f0 : List (S42)} {f1 : List Int} {f2 : List Bool} {f3 : ByteArray} {f4 : Int} {f5 : Int} {f6 : Bool} (h : IsS93 w0 W g f0 f1 f2 f3 f4 f5 f6) : g < W.heap.size := by
  obtain ⟨A0, c0, A1, c1, A2, c2, hb, hg, hr0, hr1, hr2⟩ := h
  exact blk_lt hb
theorem IsS93.ge {w0 W : World} {g : Nat} {f0 : List (S42)} {f1 : List Int} {f2 : List Bool} {f3 : ByteArray} {f4 : Int} {f5 : Int} {f6 : Bool} (h : IsS93 w0 W g f0 f1 f2 f3 f4 f5 f6) : w0.heap.size ≤ g := by
  obtain ⟨A0, c0, A1, c1, A2, c2, hb, hg, hr0, hr1, hr2⟩ := h
  exact hg
theorem IsS93.ne_blk {w0 W : World} {g : Nat} {f0 : List (S42)} {f1 : List Int} {f2 : List Bool} {f3 : ByteArray} {f4 : Int} {f5 : Int} {f6 : Bool} {a : Nat} {cs : Array Value} {t : TypeId} {fr : Nat × Nat} (h : IsS93 w0 W g f0 f1 f2 f3 f4 f5 f6) (hb2 : W.heap[a]? = some (.cells cs t fr)) (ht : t ≠ 93) : g ≠ a := by
  obtain ⟨A0, c0, A1, c1, A2, c2, hb, hg, hr0, hr1, hr2⟩ := h
  rintro rfl
  rw [hb] at hb2
  injection hb2 with hb2
  injection hb2 with _ ht2
  exact ht ht2.symm
theorem IsS93.far {w0 W : World} {g : Nat} {f0 : List (S42)} {f1 : List Int} {f2 : List Bool} {f3 : ByteArray} {f4 : Int} {f5 : Int} {f6 : Bool} {p : Addr} (h : IsS93 w0 W g f0 f1 f2 f3 f4 f5 f6) (hne : g ≠ p.block) (u : Value) : IsS93 w0 (W.setCell p u) g f0 f1 f2 f3 f4 f5 f6 := by
  obtain ⟨A0, c0, A1, c1, A2, c2, hb, hg, hr0, hr1, hr2⟩ := h
  exact ⟨A0, c0, A1, c1, A2, c2, blk_far hb hne u, hg, hr0, hr1, hr2⟩
theorem cellS93_0 {W : World} {g : Nat} {A0 : Option Addr} {c0 : Nat} {A1 : Option Addr} {c1 : Nat} {A2 : Option Addr} {c2 : Nat} {f0 : List (S42)} {f1 : List Int} {f2 : List Bool} {f3 : ByteArray} {f4 : Int} {f5 : Int} {f6 : Bool} (h : W.heap[g]? = some (.cells #[.slice A0 f0.length c0, .slice A1 f1.length c1, .slice A2 f2.length c2, .string f3, .int .i64 f4, .int .i64 f5, .bool f6] 93 (0, 0))) : W.cell? ⟨g, 0, none⟩ = some (.slice A0 f0.length c0) := (blk_cell h 0).trans rfl
theorem cellS93_1 {W : World} {g : Nat} {A0 : Option Addr} {c0 : Nat} {A1 : Option Addr} {c1 : Nat} {A2 : Option Addr} {c2 : Nat} {f0 : List (S42)} {f1 : List Int} {f2 : List Bool} {f3 : ByteArray} {f4 : Int} {f5 : Int} {f6 : Bool} (h : W.heap[g]? = some (.cells #[.slice A0 f0.length c0, .slice A1 f1.length c1, .slice A2 f2.length c2, .string f3, .int .i64 f4, .int .i64 f5, .bool f6] 93 (0, 0))) : W.cell? ⟨g, 1, none⟩ = some (.slice A1 f1.length c1) := (blk_cell h 1).trans rfl
theorem cellS93_2 {W : World} {g : Nat} {A0 : Option Addr} {c0 : Nat} {A1 : Option Addr} {c1 : Nat} {A2 : Option Addr} {c2 : Nat} {f0 : List (S42)} {f1 : List Int} {f2 : List Bool} {f3 : ByteArray} {f4 : Int} {f5 : Int} {f6 : Bool} (h : W.heap[g]? = some (.cells #[.slice A0 f0.length c0, .slice A1 f1.length c1, .slice A2 f2.length c2, .string f3, .int .i64 f4, .int .i64 f5, .bool f6] 93 (0, 0))) : W.cell? ⟨g, 2, none⟩ = some (.slice A2 f2.length c2) := (blk_cell h 2).trans rfl
theorem cellS93_3 {W : World} {g : Nat} {A0 : Option Addr} {c0 : Nat} {A1 : Option Addr} {c1 : Nat} {A2 : Option Addr} {c2 : Nat} {f0 : List (S42)} {f1 : List Int} {f2 : List Bool} {f3 : ByteArray} {f4 : Int} {f5 : Int} {f6 : Bool} (h : W.heap[g]? = some (.cells #[.slice A0 f0.length c0, .slice A1 f1.length c1, .slice A2 f2.length c2, .string f3, .int .i64 f4, .int .i64 f5, .bool f6] 93 (0, 0))) : W.cell? ⟨g, 3, none⟩ = some (.string f3) := (blk_cell h 3).trans rfl
theorem IsS93.set_3 {w0 W : World} {g : Nat} {f0 : List (S42)} {f1 : List Int} {f2 : List Bool} {f3 : ByteArray} {f4 : Int} {f5 : Int} {f6 : Bool} (h : IsS93 w0 W g f0 f1 f2 f3 f4 f5 f6) (x : ByteArray) : IsS93 w0 (W.setCell ⟨g, 3, none⟩ (.string x)) g f0 f1 f2 x f4 f5 f6 := by
  obtain ⟨A0, c0, A1, c1, A2, c2, hb, hg, hr0, hr1, hr2⟩ := h
  exact ⟨A0, c0, A1, c1, A2, c2, by simpa using blk_set hb 3 (.string x), hg, hr0, hr1, hr2⟩
theorem cellS93_4 {W : World} {g : Nat} {A0 : Option Addr} {c0 : Nat} {A1 : Option Addr} {c1 : Nat} {A2 : Option Addr} {c2 : Nat} {f0 : List (S42)} {f1 : List Int} {f2 : List Bool} {f3 : ByteArray} {f4 : Int} {f5 : Int} {f6 : Bool} (h : W.heap[g]? = some (.cells #[.slice A0 f0.length c0, .slice A1 f1.length c1, .slice A2 f2.length c2, .string f3, .int .i64 f4, .int .i64 f5, .bool f6] 93 (0, 0))) : W.cell? ⟨g, 4, none⟩ = some (.int .i64 f4) := (blk_cell h 4).trans rfl
theorem IsS93.set_4 {w0 W : World} {g : Nat} {f0 : List (S42)} {f1 : List Int} {f2 : List Bool} {f3 : ByteArray} {f4 : Int} {f5 : Int} {f6 : Bool} (h : IsS93 w0 W g f0 f1 f2 f3 f4 f5 f6) (x : Int) : IsS93 w0 (W.setCell ⟨g, 4, none⟩ (.int .i64 x)) g f0 f1 f2 f3 x f5 f6 := by
  obtain ⟨A0, c0, A1, c1, A2, c2, hb, hg, hr0, hr1, hr2⟩ := h
  exact ⟨A0, c0, A1, c1, A2, c2, by simpa using blk_set hb 4 (.int .i64 x), hg, hr0, hr1, hr2⟩
theorem cellS93_5 {W : World} {g : Nat} {A0 : Option Addr} {c0 : Nat} {A1 : Option Addr} {c1 : Nat} {A2 : Option Addr} {c2 : Nat} {f0 : List (S42)} {f1 : List Int} {f2 : List Bool} {f3 : ByteArray} {f4 : Int} {f5 : Int} {f6 : Bool} (h : W.heap[g]? = some (.cells #[.slice A0 f0.length c0, .slice A1 f1.length c1, .slice A2 f2.length c2, .string f3, .int .i64 f4, .int .i64 f5, .bool f6] 93 (0, 0))) : W.cell? ⟨g, 5, none⟩ = some (.int .i64 f5) := (blk_cell h 5).trans rfl
theorem IsS93.set_5 {w0 W : World} {g : Nat} {f0 : List (S42)} {f1 : List Int} {f2 : List Bool} {f3 : ByteArray} {f4 : Int} {f5 : Int} {f6 : Bool} (h : IsS93 w0 W g f0 f1 f2 f3 f4 f5 f6) (x : Int) : IsS93 w0 (W.setCell ⟨g, 5, none⟩ (.int .i64 x)) g f0 f1 f2 f3 f4 x f6 := by
  obtain ⟨A0, c0, A1, c1, A2, c2, hb, hg, hr0, hr1, hr2⟩ := h
  exact ⟨A0, c0, A1, c1, A2, c2, by simpa using blk_set hb 5 (.int .i64 x), hg, hr0, hr1, hr2⟩
theorem cellS93_6 {W : World} {g : Nat} {A0 : Option Addr} {c0 : Nat} {A1 : Option Addr} {c1 : Nat} {A2 : Option Addr} {c2 : Nat} {f0 : List (S42)} {f1 : List Int} {f2 : List Bool} {f3 : ByteArray} {f4 : Int} {f5 : Int} {f6 : Bool} (h : W.heap[g]? = some (.cells #[.slice A0 f0.length c0, .slice A1 f1.length c1, .slice A2 f2.length c2, .string f3, .int .i64 f4, .int .i64 f5, .bool f6] 93 (0, 0))) : W.cell? ⟨g, 6, none⟩ = some (.bool f6) := (blk_cell h 6).trans rfl
theorem IsS93.set_6 {w0 W : World} {g : Nat} {f0 : List (S42)} {f1 : List Int} {f2 : List Bool} {f3 : ByteArray} {f4 : Int} {f5 : Int} {f6 : Bool} (h : IsS93 w0 W g f0 f1 f2 f3 f4 f5 f6) (x : Bool) : IsS93 w0 (W.setCell ⟨g, 6, none⟩ (.bool x)) g f0 f1 f2 f3 f4 f5 x := by
  obtain ⟨A0, c0, A1, c1, A2, c2, hb, hg, hr0, hr1, hr2⟩ := h
  exact ⟨A0, c0, A1, c1, A2, c2, by simpa using blk_set hb 6 (.bool x), hg, hr0, hr1, hr2⟩
theorem IsS93.new (w0 W : World) (A0 : Option Addr) (c0 : Nat) (A1 : Option Addr) (c1 : Nat) (A2 : Option Addr) (c2 : Nat) (f0 : List (S42)) (f1 : List Int) (f2 : List Bool) (f3 : ByteArray) (f4 : Int) (f5 : Int) (f6 : Bool) (hB : Below w0.heap.size w0 W) (hr0 : Kd.C k42 w0 A0 f0.length f0) (hr1 : Kd.C (Kd.int .i64) w0 A1 f1.length f1) (hr2 : Kd.C Kd.bool w0 A2 f2.length f2) : IsS93 w0 (W.alloc (.cells #[.slice A0 f0.length c0, .slice A1 f1.length c1, .slice A2 f2.length c2, .string f3, .int .i64 f4, .int .i64 f5, .bool f6] 93)) W.heap.size f0 f1 f2 f3 f4 f5 f6 := ⟨A0, c0, A1, c1, A2, c2, by simpa using heap_alloc_new W _, hB.size, hr0, hr1, hr2⟩

/-! ### koineref25_writer_line: function 69 -/
def koineref25_writer_line.f (s0_0 : List (S42)) (s0_1 : List Int) (s0_2 : List Bool) (s0_3 : ByteArray) (s0_4 : Int) (s0_5 : Int) (s0_6 : Bool) (a1 : Int) : Option (ByteArray × Int × Int × Bool) := if s0_3.size + 1 ≤ 9223372036854775807 then (some (s0_3 ++ (⟨#[10]⟩ : ByteArray), 0, a1, s0_6)) else (none)
set_option maxHeartbeats 8000000 in
set_option maxRecDepth 100000 in
theorem koineref25_writer_line.calls (g : Nat) (s0_0 : List (S42)) (s0_1 : List Int) (s0_2 : List Bool) (s0_3 : ByteArray) (s0_4 : Int) (s0_5 : Int) (s0_6 : Bool) (a1 : Int) (r1 : ByteArray) (r2 : Int) (r3 : Int) (r4 : Bool) (w0 w : World) (hI : IsS93 w0 w g s0_0 s0_1 s0_2 s0_3 s0_4 s0_5 s0_6) (hB : Below w0.heap.size w0 w) (h : koineref25_writer_line.f s0_0 s0_1 s0_2 s0_3 s0_4 s0_5 s0_6 a1 = some (r1, r2, r3, r4)) :
    Calls Try.prog 69 #[.pointer (some ⟨g, 0, none⟩), .int .i64 a1] w fun e w' => e = .returned (.tuple #[]) ∧ IsS93 w0 w' g s0_0 s0_1 s0_2 r1 r2 r3 r4 ∧ Below w0.heap.size w0 w' ∧ KeepBut w w' g none := by
  have HI0 := Aside0.mk hI
  have HK := Aside0.mk (KeepBut.refl w g none)
  have HL := Aside0.mk hB.size
  clear hI
  have HW0 := Aside0.mk hB.size
  have HB := Aside0.mk hB
  clear hB
  have H : (if s0_3.size + 1 ≤ 9223372036854775807 then (some (s0_3 ++ (⟨#[10]⟩ : ByteArray), 0, a1, s0_6)) else (none)) = some (r1, r2, r3, r4) := h
  clear h
  by_cases c3 : s0_3.size + 1 ≤ 9223372036854775807
  · rw [if_pos c3] at H
    have c3b0 := eq_true c3
    have c3b1 : decide (s0_3.size + 1 ≤ 9223372036854775807) = true := decide_eq_true c3
    try have c3b2 : (9223372036854775807 < s0_3.size + 1) = False := eq_false (Nat.not_lt.2 c3)
    simp only [Option.some.injEq, Prod.mk.injEq] at H
    obtain ⟨rfl, rfl, rfl, rfl⟩ := H
    obtain ⟨ASz4_0, cSz4_0, ASz4_1, cSz4_1, ASz4_2, cSz4_2, HGz4, hgz4, HSz4_0, HSz4_1, HSz4_2⟩ := HI0.out
    have hcz4_0 := cellS93_0 HGz4
    have hcz4_1 := cellS93_1 HGz4
    have hcz4_2 := cellS93_2 HGz4
    have hcz4_3 := cellS93_3 HGz4
    have hcz4_4 := cellS93_4 HGz4
    have hcz4_5 := cellS93_5 HGz4
    have hcz4_6 := cellS93_6 HGz4
    have hfz4_3 := blk_frozen HGz4 3
    have hfz4_4 := blk_frozen HGz4 4
    have hfz4_5 := blk_frozen HGz4 5
    have hfz4_6 := blk_frozen HGz4 6
    clear HGz4 hgz4
    go_enter Try.func69, Try.ntmps69
    go_wp2
    first | go_end0 | ((try simp only [Exit.inBlock, Exit.then]); refine bodyPost_ret (results_none rfl _ _ _) rfl ?_)
    exact ⟨by first | rfl | (simp [errW_none, errW_some] <;> rfl) | (simp [*, errW_none, errW_some] <;> rfl), by repeat (first | (with_reducible first | exact HI0.out | apply IsS93.alloc | apply IsS93.drewN | apply IsS93.drew | apply IsS93.set_3 | apply IsS93.set_4 | apply IsS93.set_5 | apply IsS93.set_6) | exact HI0.out), by repeat (first | (with_reducible first | exact HB.out | apply below_alloc | apply pw_below_drewN | apply below_drew1 | refine below_set ?_ (IsS93.ge HI0.out)) | exact HB.out), by repeat (first | (with_reducible first | exact HK.out | apply KeepBut.set_ | apply keep_drewN | apply keep_drew | apply keep_alloc) | exact HK.out)⟩
  · rw [if_neg c3] at H
    exact absurd H (by simp)

end Go.Proofs.Ythmmdmnbcecooaa.A

/-! A8 -/
namespace Go.Proofs.Ythmmdmnbcecooaa.A
open Go.RowKit Go.Proofs.YthmmdmnbcecooaaW.PrintWords Go.Proofs.YthmmdmnbcecooaaW.PrintLast Go.Proofs.YthmmdmnbcecooaaW.PrintMore
attribute [local go_sem] max2_int min2_int max_two min_two max_three min_three max_four min_four   -- for this text's walks alone
set_option linter.unusedVariables false
set_option linter.unusedSimpArgs false

/-! ### koineref25_writer_chosen: function 70 -/
def koineref25_writer_chosen.l0 : Nat → Int → Int → List (S42) → List Int → List Bool → ByteArray → Int → Int → Bool → Option (Bool × ByteArray × Int × Int × Bool)
  | 0, _, _, _, _, _, _, _, _, _ => none
  | k + 1, x1, x5, x1000, x1001, x1002, x1003, x1004, x1005, x1006 => if x5 < (x1001.length : Int) then (if 0 ≤ x5 then (if (rd x1001 x5) = x1 then (if x5 < (x1002.length : Int) then (some (rdOf false x1002 x5, x1003, x1004, x1005, x1006)) else (none)) else (koineref25_writer_chosen.l0 k x1 (wrap64 (x5 + 1)) x1000 x1001 x1002 x1003 x1004 x1005 x1006)) else (none)) else (some (false, x1003, x1004, x1005, x1006))
def koineref25_writer_chosen.f (k : Nat) (s0_0 : List (S42)) (s0_1 : List Int) (s0_2 : List Bool) (s0_3 : ByteArray) (s0_4 : Int) (s0_5 : Int) (s0_6 : Bool) (a1 : Int) : Option (Bool × ByteArray × Int × Int × Bool) := koineref25_writer_chosen.l0 k a1 0 s0_0 s0_1 s0_2 s0_3 s0_4 s0_5 s0_6
theorem koineref25_writer_chosen.mono_l : ∀ k, (∀ y0 y1 y2 y3 y4 y5 y6 y7 y8, LeO (koineref25_writer_chosen.l0 k y0 y1 y2 y3 y4 y5 y6 y7 y8) (koineref25_writer_chosen.l0 (k + 1) y0 y1 y2 y3 y4 y5 y6 y7 y8))
  | 0 => fun _ _ _ _ _ _ _ _ _ r h => by simp [koineref25_writer_chosen.l0] at h
  | k + 1 => by
    have ih0 := koineref25_writer_chosen.mono_l k
    · intro y0 y1 y2 y3 y4 y5 y6 y7 y8
      unfold koineref25_writer_chosen.l0
      repeat' first
      | (with_reducible exact ih0 _ _ _ _ _ _ _ _ _)
      | (with_reducible exact LeO.refl _)
      | (with_reducible exact LeO.none _)
      | (with_reducible refine LeO.ite ?_ ?_)
      | (with_reducible refine LeO.bind ?_ (fun _ => ?_))
      | exact ih0 _ _ _ _ _ _ _ _ _
      | exact LeO.none _
      | refine LeO.ite ?_ ?_
      | refine LeO.bind ?_ (fun _ => ?_)
theorem koineref25_writer_chosen.mono : ∀ a0 a1 a2 a3 a4 a5 a6 a7 k, LeO (koineref25_writer_chosen.f k a0 a1 a2 a3 a4 a5 a6 a7) (koineref25_writer_chosen.f (k + 1) a0 a1 a2 a3 a4 a5 a6 a7) := by
  intro a0 a1 a2 a3 a4 a5 a6 a7 k
  have ih0 := koineref25_writer_chosen.mono_l k
  unfold koineref25_writer_chosen.f
  repeat' first
      | (with_reducible exact ih0 _ _ _ _ _ _ _ _ _)
      | (with_reducible exact LeO.refl _)
      | (with_reducible exact LeO.none _)
      | (with_reducible refine LeO.ite ?_ ?_)
      | (with_reducible refine LeO.bind ?_ (fun _ => ?_))
      | exact ih0 _ _ _ _ _ _ _ _ _
      | exact LeO.none _
      | refine LeO.ite ?_ ?_
      | refine LeO.bind ?_ (fun _ => ?_)
set_option maxHeartbeats 8000000 in
set_option maxRecDepth 100000 in
theorem koineref25_writer_chosen.calls (k : Nat) (g : Nat) (s0_0 : List (S42)) (s0_1 : List Int) (s0_2 : List Bool) (s0_3 : ByteArray) (s0_4 : Int) (s0_5 : Int) (s0_6 : Bool) (a1 : Int) (r1 : Bool) (r2 : ByteArray) (r3 : Int) (r4 : Int) (r5 : Bool) (w0 w : World) (hI : IsS93 w0 w g s0_0 s0_1 s0_2 s0_3 s0_4 s0_5 s0_6) (hB : Below w0.heap.size w0 w) (h : koineref25_writer_chosen.f k s0_0 s0_1 s0_2 s0_3 s0_4 s0_5 s0_6 a1 = some (r1, r2, r3, r4, r5)) :
    Calls Try.prog 70 #[.pointer (some ⟨g, 0, none⟩), .int .i64 a1] w fun e w' => e = .returned (.bool r1) ∧ IsS93 w0 w' g s0_0 s0_1 s0_2 r2 r3 r4 r5 ∧ Below w0.heap.size w0 w' ∧ KeepBut w w' g none := by
  have HI0 := Aside0.mk hI
  have HK := Aside0.mk (KeepBut.refl w g none)
  have HL := Aside0.mk hB.size
  clear hI
  have HW0 := Aside0.mk hB.size
  have HB := Aside0.mk hB
  clear hB
  have H : (koineref25_writer_chosen.l0 k a1 0 s0_0 s0_1 s0_2 s0_3 s0_4 s0_5 s0_6) = some (r1, r2, r3, r4, r5) := h
  clear h
  have H' := Aside0.mk H
  clear H
  go_enter Try.func70, Try.ntmps70
  go_wp2
  go_loopg [5] k (fun kq v5 w' => ∃ (x5_1 : Int), v5 = .int .i64 x5_1 ∧ Aside0 (koineref25_writer_chosen.l0 kq a1 x5_1 s0_0 s0_1 s0_2 s0_3 s0_4 s0_5 s0_6 = some (r1, r2, r3, r4, r5)) ∧ Aside0 (kq ≤ k) ∧ Aside0 (IsS93 w0 w' g s0_0 s0_1 s0_2 s0_3 s0_4 s0_5 s0_6) ∧ Aside0 (KeepBut w w' g none) ∧ Aside0 (Below w0.heap.size w0 w'))
  case atStart => exact ⟨(0), (by first | rfl | (simp; done) | (simp [*]; done)), H', ⟨Nat.le_refl _⟩, ⟨by repeat (first | (with_reducible first | exact HI0.out | apply IsS93.alloc | apply IsS93.drewN | apply IsS93.drew | apply IsS93.set_3 | apply IsS93.set_4 | apply IsS93.set_5 | apply IsS93.set_6) | exact HI0.out)⟩, ⟨by repeat (first | (with_reducible first | exact HK.out | apply KeepBut.set_ | apply keep_drewN | apply keep_drew | apply keep_alloc) | exact HK.out)⟩, ⟨by repeat (first | (with_reducible first | exact HB.out | apply below_alloc | apply pw_below_drewN | apply below_drew1 | refine below_set ?_ (IsS93.ge HI0.out)) | exact HB.out)⟩⟩
  case round =>
    clear H'
    try clear p2
    obtain ⟨x5_1, rfl, HA, HK1, HI0, HK, HB⟩ := hrel
    cases gk with
    | zero => exact absurd HA.out (by simp [koineref25_writer_chosen.l0])
    | succ k1 =>
      have H := HA.out
      clear HA
      simp only [koineref25_writer_chosen.l0] at H
      by_cases c3 : x5_1 < (s0_1.length : Int)
      · rw [if_pos c3] at H
        have c3b0 : decide (x5_1 < (s0_1.length : Int)) = true := decide_eq_true c3
        clear c3
        by_cases c4 : 0 ≤ x5_1
        · rw [if_pos c4] at H
          have c4b0 : decide (0 ≤ x5_1) = true := decide_eq_true c4
          clear c4
          by_cases c5 : (rd s0_1 x5_1) = a1
          · rw [if_pos c5] at H
            have c5b0 : ((rd s0_1 x5_1) == a1) = true := beq_iff_eq.mpr c5
            have c5b1 : ((rd s0_1 x5_1) != a1) = false := bne_eq_false_iff_eq.mpr c5
            clear c5
            by_cases c6 : x5_1 < (s0_2.length : Int)
            · rw [if_pos c6] at H
              have c6b0 : decide (x5_1 < (s0_2.length : Int)) = true := decide_eq_true c6
              clear c6
              simp only [Option.some.injEq, Prod.mk.injEq] at H
              obtain ⟨rfl, rfl, rfl, rfl, rfl⟩ := H
              obtain ⟨ASz7_0, cSz7_0, ASz7_1, cSz7_1, ASz7_2, cSz7_2, HGz7, hgz7, HSz7_0, HSz7_1, HSz7_2⟩ := HI0.out
              have hcz7_0 := cellS93_0 HGz7
              have hcz7_1 := cellS93_1 HGz7
              have hcz7_2 := cellS93_2 HGz7
              have hcz7_3 := cellS93_3 HGz7
              have hcz7_4 := cellS93_4 HGz7
              have hcz7_5 := cellS93_5 HGz7
              have hcz7_6 := cellS93_6 HGz7
              have hfz7_3 := blk_frozen HGz7 3
              have hfz7_4 := blk_frozen HGz7 4
              have hfz7_5 := blk_frozen HGz7 5
              have hfz7_6 := blk_frozen HGz7 6
              clear HGz7 hgz7
              have p202 : 0 ≤ (x5_1 : Int) := of_decide_eq_true (by first | (with_reducible assumption) | assumption)
              have q202 : x5_1 < (s0_1.length : Int) := of_decide_eq_true (by first | (with_reducible assumption) | assumption)
              obtain ⟨ad202, e202, hx202_0⟩ := Kd.at_int HSz7_1 x5_1 p202 q202
              cases e202
              replace hx202_0 := pw_cell_below HB.out hx202_0
              replace p202 := eq_true p202
              replace q202 := eq_true q202
              have p203 : 0 ≤ (x5_1 : Int) := of_decide_eq_true (by first | (with_reducible assumption) | assumption)
              have q203 : x5_1 < (s0_2.length : Int) := of_decide_eq_true (by first | (with_reducible assumption) | assumption)
              obtain ⟨ad203, e203, hx203_0⟩ := Kd.at_bool HSz7_2 x5_1 p203 q203
              cases e203
              replace hx203_0 := pw_cell_below HB.out hx203_0
              replace p203 := eq_true p203
              replace q203 := eq_true q203
              go_wp2
              go_ret
              exact ⟨by first | rfl | (simp [errW_none, errW_some] <;> rfl) | (simp [*, errW_none, errW_some] <;> rfl), by repeat (first | (with_reducible first | exact HI0.out | apply IsS93.alloc | apply IsS93.drewN | apply IsS93.drew | apply IsS93.set_3 | apply IsS93.set_4 | apply IsS93.set_5 | apply IsS93.set_6) | exact HI0.out), by repeat (first | (with_reducible first | exact HB.out | apply below_alloc | apply pw_below_drewN | apply below_drew1 | refine below_set ?_ (IsS93.ge HI0.out)) | exact HB.out), by repeat (first | (with_reducible first | exact HK.out | apply KeepBut.set_ | apply keep_drewN | apply keep_drew | apply keep_alloc) | exact HK.out)⟩
            · rw [if_neg c6] at H
              exact absurd H (by simp)
          · rw [if_neg c5] at H
            have c5b0 : ((rd s0_1 x5_1) == a1) = false := beq_eq_false_iff_ne.mpr c5
            have c5b1 : ((rd s0_1 x5_1) != a1) = true := bne_iff_ne.mpr c5
            have H' := Aside0.mk H
            clear H
            obtain ⟨ASz8_0, cSz8_0, ASz8_1, cSz8_1, ASz8_2, cSz8_2, HGz8, hgz8, HSz8_0, HSz8_1, HSz8_2⟩ := HI0.out
            have hcz8_0 := cellS93_0 HGz8
            have hcz8_1 := cellS93_1 HGz8
            have hcz8_2 := cellS93_2 HGz8
            have hcz8_3 := cellS93_3 HGz8
            have hcz8_4 := cellS93_4 HGz8
            have hcz8_5 := cellS93_5 HGz8
            have hcz8_6 := cellS93_6 HGz8
            have hfz8_3 := blk_frozen HGz8 3
            have hfz8_4 := blk_frozen HGz8 4
            have hfz8_5 := blk_frozen HGz8 5
            have hfz8_6 := blk_frozen HGz8 6
            clear HGz8 hgz8
            have p202 : 0 ≤ (x5_1 : Int) := of_decide_eq_true (by first | (with_reducible assumption) | assumption)
            have q202 : x5_1 < (s0_1.length : Int) := of_decide_eq_true (by first | (with_reducible assumption) | assumption)
            obtain ⟨ad202, e202, hx202_0⟩ := Kd.at_int HSz8_1 x5_1 p202 q202
            cases e202
            replace hx202_0 := pw_cell_below HB.out hx202_0
            replace p202 := eq_true p202
            replace q202 := eq_true q202
            go_wp2
            go_roundg k1
            case measure => have := HK1.out; omega
            case rel => exact ⟨(wrap64 (x5_1 + 1)), (by first | rfl | (simp; done) | (simp [*]; done)), H', ⟨by have := HK1.out; omega⟩, ⟨by repeat (first | (with_reducible first | exact HI0.out | apply IsS93.alloc | apply IsS93.drewN | apply IsS93.drew | apply IsS93.set_3 | apply IsS93.set_4 | apply IsS93.set_5 | apply IsS93.set_6) | exact HI0.out)⟩, ⟨by repeat (first | (with_reducible first | exact HK.out | apply KeepBut.set_ | apply keep_drewN | apply keep_drew | apply keep_alloc) | exact HK.out)⟩, ⟨by repeat (first | (with_reducible first | exact HB.out | apply below_alloc | apply pw_below_drewN | apply below_drew1 | refine below_set ?_ (IsS93.ge HI0.out)) | exact HB.out)⟩⟩
        · rw [if_neg c4] at H
          exact absurd H (by simp)
      · rw [if_neg c3] at H
        have c3b0 : decide (x5_1 < (s0_1.length : Int)) = false := decide_eq_false c3
        clear c3
        simp only [Option.some.injEq, Prod.mk.injEq] at H
        obtain ⟨rfl, rfl, rfl, rfl, rfl⟩ := H
        obtain ⟨ASz9_0, cSz9_0, ASz9_1, cSz9_1, ASz9_2, cSz9_2, HGz9, hgz9, HSz9_0, HSz9_1, HSz9_2⟩ := HI0.out
        have hcz9_0 := cellS93_0 HGz9
        have hcz9_1 := cellS93_1 HGz9
        have hcz9_2 := cellS93_2 HGz9
        have hcz9_3 := cellS93_3 HGz9
        have hcz9_4 := cellS93_4 HGz9
        have hcz9_5 := cellS93_5 HGz9
        have hcz9_6 := cellS93_6 HGz9
        have hfz9_3 := blk_frozen HGz9 3
        have hfz9_4 := blk_frozen HGz9 4
        have hfz9_5 := blk_frozen HGz9 5
        have hfz9_6 := blk_frozen HGz9 6
        clear HGz9 hgz9
        go_wp2
        go_ret
        exact ⟨by first | rfl | (simp [errW_none, errW_some] <;> rfl) | (simp [*, errW_none, errW_some] <;> rfl), by repeat (first | (with_reducible first | exact HI0.out | apply IsS93.alloc | apply IsS93.drewN | apply IsS93.drew | apply IsS93.set_3 | apply IsS93.set_4 | apply IsS93.set_5 | apply IsS93.set_6) | exact HI0.out), by repeat (first | (with_reducible first | exact HB.out | apply below_alloc | apply pw_below_drewN | apply below_drew1 | refine below_set ?_ (IsS93.ge HI0.out)) | exact HB.out), by repeat (first | (with_reducible first | exact HK.out | apply KeepBut.set_ | apply keep_drewN | apply keep_drew | apply keep_alloc) | exact HK.out)⟩

-- GIVEN: koineref25_Render

end Go.Proofs.Ythmmdmnbcecooaa.A

/-! R4 -/
namespace Go.Proofs.Ythmmdmnbcecooaa.A
open Go.RowKit Go.Proofs.YthmmdmnbcecooaaW.PrintWords Go.Proofs.YthmmdmnbcecooaaW.PrintLast Go.Proofs.YthmmdmnbcecooaaW.PrintMore
attribute [local go_sem] max2_int min2_int max_two min_two max_three min_three max_four min_four
set_option linter.unusedVariables false
set_option linter.unusedSimpArgs false

/-! ### spaces -/
theorem spaces_loop (n : Nat) (hn : n ≤ 140737488355328) : ∀ (d j k : Nat), j + d = n → d < k →
    koineref25_spaces.l0 k n (List.replicate j 32 ++ List.replicate d 0) j = some ⟨(List.replicate n 32).toArray⟩
  | 0, j, k, hj, hk => by
    obtain ⟨k, rfl⟩ : ∃ m, k = m + 1 := ⟨k - 1, by omega⟩
    obtain rfl : j = n := by omega
    rw [koineref25_spaces.l0, if_neg (by omega)]
    simp [strOfNums]
  | d + 1, j, k, hj, hk => by
    obtain ⟨k, rfl⟩ : ∃ m, k = m + 1 := ⟨k - 1, by omega⟩
    have hw : wrap64 ((j : Int) + 1) = ((j + 1 : Nat) : Int) := by rw [wrap64_small (by omega) (by omega)]; omega
    rw [koineref25_spaces.l0, if_pos (by omega), if_pos (by omega), if_pos (by simp; omega), hw, Int.toNat_natCast]
    have e : (List.replicate j (32 : Int) ++ List.replicate (d + 1) 0).set j 32 = List.replicate (j + 1) 32 ++ List.replicate d 0 := by
      apply List.ext_getElem
      · simp; omega
      · intro i h1 h2
        simp only [List.getElem_set, List.getElem_append, List.getElem_replicate, List.length_replicate]
        split
        · rw [dif_pos (by omega)]
        · by_cases h : i < j
          · rw [dif_pos h, dif_pos (by omega)]
          · rw [dif_neg h, dif_neg (by omega)]
    rw [e]
    exact spaces_loop n hn d (j + 1) k (by omega) (by omega)
theorem spaces_eq (n : Nat) (hn : n ≤ 140737488355328) : koineref25_spaces.f (n + 1) n = some ⟨(List.replicate n 32).toArray⟩ := by
  unfold koineref25_spaces.f
  rw [if_pos (by omega), Int.toNat_natCast, if_pos (by omega)]
  exact spaces_loop n hn n 0 (n + 1) (by omega) (by omega)

/-! ### the bytes behind the last line feed -/
def tailLen (l : List UInt8) : Nat := (l.reverse.takeWhile (· != 10)).length
theorem tailLen_append (l s : List UInt8) (h : ∀ c ∈ s, c ≠ 10) : tailLen (l ++ s) = tailLen l + s.length := by
  unfold tailLen
  rw [List.reverse_append, List.takeWhile_append_of_pos (by
    intro c hc
    have := h c (List.mem_reverse.1 hc)
    simpa using this), List.length_append, List.length_reverse]
  omega
theorem tailLen_nl (l : List UInt8) : tailLen (l ++ [10]) = 0 := by
  unfold tailLen
  rw [List.reverse_append]
  rfl
theorem tailLen_from (l : List UInt8) (q : Nat) (hq : q ≤ l.length) (h : ∀ j (hj : j < l.length), q ≤ j → l[j] ≠ 10) (h0 : q = 0 ∨ ∃ h : q - 1 < l.length, l[q - 1] = 10) : tailLen l = l.length - q := by
  have e : l = l.take q ++ l.drop q := (List.take_append_drop q l).symm
  have hd : ∀ c ∈ l.drop q, c ≠ 10 := by
    intro c hc
    obtain ⟨j, hj, rfl⟩ := List.mem_iff_getElem.1 hc
    rw [List.getElem_drop]
    exact h _ _ (by omega)
  have h1 : tailLen (l.take q) = 0 := by
    rcases h0 with rfl | ⟨hlt, h0⟩
    · rfl
    · by_cases hz : q = 0
      · subst hz; rfl
      · obtain ⟨m, rfl⟩ : ∃ m, q = m + 1 := ⟨q - 1, by omega⟩
        have h0' : l[m]'(by omega) = 10 := h0
        rw [List.take_succ_eq_append_getElem (by omega), h0']
        exact tailLen_nl _
  have h2 := tailLen_append (l.take q) (l.drop q) hd
  rw [← e, h1, List.length_drop] at h2
  omega

/-- The column is the number of bytes on the line. -/
def Inv (st : St) : Prop := st.col = (tailLen st.out : Int)
theorem inv_add {st st' : St} {s : List UInt8} (h : Inv st) (hs : ∀ c ∈ s, c ≠ 10) (ha : addO st s = some st') : Inv st' := by
  unfold addO at ha
  unfold Inv at h ⊢
  split at ha
  · obtain rfl := Option.some.inj ha; exact h
  split at ha
  · rename_i hc
    split at ha
    · rename_i hb
      obtain rfl := Option.some.inj ha
      simp only
      have hsp : ∀ c ∈ List.replicate st.pend.toNat (32 : UInt8), c ≠ 10 := fun c hc => by rw [List.eq_of_mem_replicate hc]; decide
      rw [← List.append_assoc, tailLen_append _ _ hs, tailLen_append _ _ hsp, List.length_replicate]
      omega
    · cases ha
  · split at ha
    · obtain rfl := Option.some.inj ha
      simp only
      rw [tailLen_append _ _ hs]
      omega
    · cases ha
theorem inv_feed {st st' : St} {i : Int} (ha : feedO st i = some st') : Inv st' := by
  unfold feedO at ha
  split at ha
  · obtain rfl := Option.some.inj ha
    unfold Inv
    simp only
    rw [tailLen_nl]
    rfl
  · cases ha

section
variable {w0 W : World} {g : Nat} {d : List S42} {gs : List Int} {fl : List Bool} {o : ByteArray} {c p : Int} {b : Bool} (h : IsS93 w0 W g d gs fl o c p b)
include h
theorem IsS93.c3 : W.cell? ⟨g, 3, none⟩ = some (.string o) := by
  obtain ⟨_, _, _, _, _, _, hb, _⟩ := h; exact cellS93_3 hb
theorem IsS93.c4 : W.cell? ⟨g, 4, none⟩ = some (.int .i64 c) := by
  obtain ⟨_, _, _, _, _, _, hb, _⟩ := h; exact cellS93_4 hb
theorem IsS93.c5 : W.cell? ⟨g, 5, none⟩ = some (.int .i64 p) := by
  obtain ⟨_, _, _, _, _, _, hb, _⟩ := h; exact cellS93_5 hb
theorem IsS93.c6 : W.cell? ⟨g, 6, none⟩ = some (.bool b) := by
  obtain ⟨_, _, _, _, _, _, hb, _⟩ := h; exact cellS93_6 hb
theorem IsS93.free (i : Nat) : W.frozen? ⟨g, i, none⟩ = false := by
  obtain ⟨_, _, _, _, _, _, hb, _⟩ := h; exact blk_frozen hb i
end

def RS (w0 W : World) (g : Nat) (d : List S42) (gs : List Int) (fl : List Bool) (st : St) : Prop := IsS93 w0 W g d gs fl ⟨st.out.toArray⟩ st.col st.pend st.wrong ∧ Below w0.heap.size w0 W
def RPost (w0 : World) (g : Nat) (d : List S42) (gs : List Int) (fl : List Bool) (st : St) (W : World) (e : Ending) (W' : World) : Prop :=
  e = .returned (.tuple #[]) ∧ RS w0 W' g d gs fl st ∧ KeepBut W W' g none

theorem concat_data (a b : ByteArray) : a ++ b = ⟨(a.data.toList ++ b.data.toList).toArray⟩ := by
  apply ByteArray.ext
  apply Array.toList_inj.1
  simp

/-- The loop's state: the bytes from q on are counted. -/
def RLoop (w0 W : World) (g : Nat) (d : List S42) (gs : List Int) (fl : List Bool) (S : ByteArray) (pp : Int) (wrong : Bool) (q : Nat) (v : Value) (W' : World) : Prop :=
  ∃ k : Int, v = .int .i64 k ∧ k + 1 = (q : Int) ∧ q ≤ S.size ∧ IsS93 w0 W' g d gs fl S ((S.size : Int) - q) pp wrong ∧ (∀ j : Nat, q ≤ j → j < S.size → bt S j ≠ 10) ∧ Below w0.heap.size w0 W' ∧ KeepBut W W' g none
theorem rloop_start {w0 W W' : World} {g : Nat} {d : List S42} {gs : List Int} {fl : List Bool} {S : ByteArray} {pp : Int} {wrong : Bool} (h : IsS93 w0 W' g d gs fl S 0 pp wrong) (hB : Below w0.heap.size w0 W') (hK : KeepBut W W' g none) :
    RLoop w0 W g d gs fl S pp wrong S.size (.int .i64 ((S.size : Int) - 1)) W' :=
  ⟨_, rfl, by omega, Nat.le_refl _, by rw [Int.sub_self]; exact h, fun j h1 h2 => by omega, hB, hK⟩
theorem rloop_at {w0 W W' W2 : World} {g : Nat} {d : List S42} {gs : List Int} {fl : List Bool} {S : ByteArray} {pp : Int} {wrong : Bool} {n : Nat} {v v' : Value} (h : RLoop w0 W g d gs fl S pp wrong n v W') (e : v' = v) (e2 : W2 = W') : RLoop w0 W g d gs fl S pp wrong n v' W2 := by
  rw [e, e2]; exact h
def RLoopE (w0 W : World) (g : Nat) (d : List S42) (gs : List Int) (fl : List Bool) (S0 : ByteArray) (p0 : Int) (wrong : Bool) (q : Nat) (v : Value) (W' : World) : Prop :=
  ∃ S pp, S = S0 ∧ pp = p0 ∧ RLoop w0 W g d gs fl S pp wrong q v W'
theorem rloopE_at {w0 W W' : World} {g : Nat} {d : List S42} {gs : List Int} {fl : List Bool} {S : ByteArray} {pp : Int} {wrong : Bool} {n : Nat} {v v' : Value} (h : RLoop w0 W g d gs fl S pp wrong n v W') (e : v' = v) : RLoopE w0 W g d gs fl S pp wrong n v' W' :=
  ⟨S, pp, rfl, rfl, rloop_at h e rfl⟩
theorem bt_list (S : ByteArray) (L : List UInt8) (hS : S = ⟨L.toArray⟩) (j : Nat) (h : j < L.length) : bt S j = ((L[j]).toNat : Int) := by
  subst hS
  unfold bt
  rw [dif_pos (by simp [ByteArray.size]; omega)]
  simp
  rfl
def RFin (st' : St) (S0 : ByteArray) (p0 : Int) (wrong : Bool) : Prop := S0 = ⟨st'.out.toArray⟩ ∧ st'.pend = p0 ∧ st'.wrong = wrong ∧ Inv st'
theorem rloop_end {w0 W W' : World} {g : Nat} {d : List S42} {gs : List Int} {fl : List Bool} {S : ByteArray} {pp : Int} {wrong : Bool} {q : Nat} {st' : St} {S0 : ByteArray} {p0 : Int} (h : IsS93 w0 W' g d gs fl S ((S.size : Int) - q) pp wrong) (hB : Below w0.heap.size w0 W') (hK : KeepBut W W' g none)
    (hq : q ≤ S.size) (hno : ∀ j : Nat, q ≤ j → j < S.size → bt S j ≠ 10) (h0 : q = 0 ∨ ∃ k : Int, k + 1 = q ∧ 0 ≤ k ∧ bt S k = 10) (hst : RFin st' S0 p0 wrong) (hS : S = S0) (hp : pp = p0) :
    RPost w0 g d gs fl st' W (.returned (.tuple #[])) W' := by
  obtain ⟨e1, rfl, rfl, hi⟩ := hst
  subst hp
  rw [e1] at hS
  have hz : S.size = st'.out.length := by rw [hS]; simp [ByteArray.size]
  have ht := tailLen_from st'.out q (by omega) (fun j hj h1 e => hno j h1 (by omega) (by rw [bt_list S st'.out hS j hj, e]; rfl)) (by
    rcases h0 with h0 | ⟨k, hk, hk0, hb⟩
    · exact .inl h0
    · obtain ⟨m, rfl⟩ := Int.eq_ofNat_of_zero_le hk0
      obtain rfl : q = m + 1 := by omega
      refine .inr ⟨by omega, ?_⟩
      rw [bt_list S st'.out hS m (by omega)] at hb
      apply UInt8.toNat_inj.1
      have : (st'.out[m]'(by omega)).toNat = 10 := by omega
      exact this)
  unfold Inv at hi
  have hc : st'.col = (S.size : Int) - q := by rw [hi, ht, hz]; omega
  refine ⟨rfl, ⟨?_, hB⟩, hK⟩
  rw [hc, ← hS]
  exact h
theorem rloop_next {w0 W W' : World} {g : Nat} {d : List S42} {gs : List Int} {fl : List Bool} {S : ByteArray} {pp : Int} {wrong : Bool} {q : Nat} {k : Int} (h : IsS93 w0 W' g d gs fl S ((S.size : Int) - q) pp wrong) (hB : Below w0.heap.size w0 W') (hK : KeepBut W W' g none)
    (hk : k + 1 = (q : Int)) (hq : q ≤ S.size) (hno : ∀ j : Nat, q ≤ j → j < S.size → bt S j ≠ 10) (hk0 : 0 ≤ k) (hb : ¬ bt S k = 10) (hz : S.size ≤ 140737488355328) :
    RLoop w0 W g d gs fl S pp wrong (q - 1) (.int .i64 (k - 1)) (W'.setCell ⟨g, 4, none⟩ (.int .i64 ((S.size : Int) - q + 1))) := by
  refine ⟨_, rfl, by omega, by omega, ?_, ?_, below_set hB (IsS93.ge h), hK.set_ 4 _⟩
  · have := h.set_4 ((S.size : Int) - q + 1)
    rwa [show (S.size : Int) - ((q - 1 : Nat) : Int) = (S.size : Int) - q + 1 from by omega]
  · intro j h1 h2
    by_cases e : q ≤ j
    · exact hno j e h2
    · rwa [show (j : Int) = k from by omega]

set_option maxHeartbeats 1000000 in
set_option maxRecDepth 100000 in
theorem rtext_calls (w0 W : World) (g : Nat) (d : List S42) (gs : List Int) (fl : List Bool) (st st' : St) (s : ByteArray) (h : RS w0 W g d gs fl st) (hi : Inv st) (hs : ∀ c ∈ s.data.toList, c ≠ 10) (ha : addO st s.data.toList = some st') :
    Calls Try.prog 68 #[.pointer (some ⟨g, 0, none⟩), .string s] W (RPost w0 g d gs fl st' W) := by
  have hi' := inv_add hi hs ha
  obtain ⟨out, col, pend, wrong⟩ := st
  by_cases hs0 : s.data.toList = []
  · have he : s.toList = [] := by rw [ByteArray.toList_eq]; exact hs0
    unfold addO at ha
    rw [if_pos hs0] at ha
    obtain rfl := Option.some.inj ha
    have HS := Aside0.mk h
    clear h ha hs0 hs hi hi'
    go_enter Try.func68, Try.ntmps68
    go_wp2_with fail
    go_end0
    exact ⟨rfl, HS.out, KeepBut.refl _ _ _⟩
  · have he : ¬ (s.toList = []) := by rw [ByteArray.toList_eq]; exact hs0
    have he2 : s.toList.isEmpty = false := by rw [List.isEmpty_eq_false_iff]; exact he
    have hsz := data_length s
    have hpos : 0 < s.data.toList.length := List.length_pos_iff.2 hs0
    unfold addO at ha
    rw [if_neg hs0] at ha
    simp only at ha
    obtain ⟨O, hO⟩ : ∃ O : ByteArray, O = ⟨out.toArray⟩ := ⟨_, rfl⟩
    have h1 := h.1
    simp only at h1
    rw [← hO] at h1
    have zO : O.size = out.length := by rw [hO]; simp [ByteArray.size]
    have c3 := h1.c3
    have c4 := h1.c4
    have c5 := h1.c5
    have f3 := h1.free 3
    have f4 := h1.free 4
    by_cases hc : col = 0
    · subst hc
      rw [if_pos rfl] at ha
      split at ha
      case isFalse => cases ha
      case isTrue hl =>
        obtain rfl := Option.some.inj ha
        obtain ⟨hl1, hl2⟩ := hl
        obtain ⟨c, rfl⟩ := Int.eq_ofNat_of_zero_le hl1
        rw [Int.toNat_natCast] at hl2 hi' ⊢
        have hsp := spaces_eq c (by omega)
        obtain ⟨SP, hSP⟩ : ∃ SP : ByteArray, SP = ⟨(List.replicate c 32).toArray⟩ := ⟨_, rfl⟩
        rw [← hSP] at hsp
        have HP := Aside0.mk hsp
        have zS : SP.size = c := by rw [hSP]; simp [ByteArray.size]
        have hz1 : (9223372036854775807 < O.size + SP.size) = False := eq_false (by omega)
        have hz2 : (9223372036854775807 < (O ++ SP).size + s.size) = False := eq_false (by rw [ByteArray.size_append]; omega)
        have hz3 : (9223372036854775807 < O.size + SP.size + s.size) = False := eq_false (by omega)
        clear hz1 hz2 hz3
        have HW := Aside0.mk (show Value.int .i64 (wrap64 ((O.size : Int) + SP.size + s.size - 1)) = .int .i64 (((O.size + SP.size + s.size : Nat) : Int) - 1) from by rw [wrap64_small (by omega) (by omega)]; congr 2 <;> omega)
        have HF := Aside0.mk (show RFin ⟨out ++ (List.replicate c 32 ++ s.data.toList), (c : Int) + s.data.toList.length, c, wrong⟩ (O ++ SP ++ s) c wrong from ⟨by rw [hO, hSP, concat_data, concat_data]; simp, rfl, rfl, hi'⟩)
        have HSZ := Aside0.mk (show (O ++ SP ++ s).size ≤ 140737488355328 from by simp only [ByteArray.size_append]; omega)
        have hz1 : (9223372036854775807 < O.size + SP.size) = False := eq_false (by omega)
        have hz2 : (9223372036854775807 < (O ++ SP).size + s.size) = False := eq_false (by rw [ByteArray.size_append]; omega)
        have hz3 : (9223372036854775807 < O.size + SP.size + s.size) = False := eq_false (by omega)
        have HS := Aside0.mk h1
        have HB := Aside0.mk h.2
        clear h ha hs hi hi' hsp hO hSP zO zS h1 hl1 hl2 hsz hpos hs0
        go_enter Try.func68, Try.ntmps68
        go_wp2_with fail
        have hd : IsS93 w0 W.drew g d gs fl O 0 c wrong := HS.out
        have HD := Aside0.mk hd
        have d3 : W.drew.cell? ⟨g, 3, none⟩ = some (.string O) := hd.c3
        have d5 : W.drew.cell? ⟨g, 5, none⟩ = some (.int .i64 c) := hd.c5
        clear hd
        go_region_with (go_at_call 78; refine (koineref25_spaces.calls (c + 1) c _ _ HP.out).mono ?_; rintro e w1 ⟨rfl, hb1⟩; have HB1 := Aside0.mk hb1; have hd1 := IsS93.below HD.out hb1; have HD1 := Aside0.mk hd1; have e3 := hd1.c3; have g3 := hd1.free 3; clear hb1 hd1)
        all_goals
          have HK2 := Aside0.mk (show KeepBut W w1 g none from (keep_drew (KeepBut.refl W g none)).trans (KeepBut.of_below HB1.out g none) (.inl rfl))
          have HB2 := Aside0.mk (show Below w0.heap.size w0 w1 from (show Below w0.heap.size w0 W.drew from by first | exact below_drew1 HB.out | exact pw_below_drewN HB.out 1).trans (show Below w0.heap.size W.drew w1 from HB1.out.mono HB.out.size))
          have HD2 := Aside0.mk (HD1.out.set_3 (O ++ SP))
          have e3' := HD2.out.c3
          have g3' := HD2.out.free 3
          have g4' := HD2.out.free 4
          have e4 := HD1.out.c4
          have g4 := HD1.out.free 4
          clear e3 g3 c3 c4 c5 f3 f4 d3 d5
          go_wp2_with fail
          clear e3' g3' g4' e4 g4 hz1 hz2 hz3
          have HL := Aside0.mk (rloop_start (W := W) (((HD1.out.set_3 (O ++ SP)).set_3 (O ++ SP ++ s)).set_4 0) (below_set (below_set (below_set HB2.out (IsS93.ge HS.out)) (IsS93.ge HS.out)) (IsS93.ge HS.out)) (((HK2.out.set_ 3 _).set_ 3 _).set_ 4 _))
          go_loopg [4] (O ++ SP ++ s).size (fun q v4 W' => RLoopE w0 W g d gs fl (O ++ SP ++ s) (c : Int) wrong q v4 W')
          case atStart => exact rloopE_at HL.out (by simp only [ByteArray.size_append]; exact HW.out)
          case round =>
            clear HL
            have hr := hrel
            clear hrel
            obtain ⟨S, pp, hS, hpp, k, rfl, hk1, hk2, hI, hno, hB1, hK1⟩ := hr
            have HSS := Aside0.mk hS
            have HPP := Aside0.mk hpp
            have HZ1 := Aside0.mk (show S.size ≤ 140737488355328 from by rw [hS]; exact HSZ.out)
            have hkm : -1 ≤ k := by omega
            have hks : k < S.size := by omega
            have HI1 := Aside0.mk hI
            have HK := Aside0.mk hk1
            have HQ := Aside0.mk hk2
            have HNO := Aside0.mk hno
            have HB1 := Aside0.mk hB1
            have HK1 := Aside0.mk hK1
            have m3 := hI.c3
            have m4 := hI.c4
            have n4 := hI.free 4
            have hbt := bt_at S k
            clear hI hk1 hk2 hno hB1 hK1 hS hpp
            by_cases hk : 0 ≤ k
            · by_cases hb : bt S k = 10
              · have hb1 : (bt S k != 10) = false := bne_eq_false_iff_eq.mpr hb
                have HT := Aside0.mk (rloop_end HI1.out HB1.out HK1.out HQ.out HNO.out (.inr ⟨k, HK.out, hk, hb⟩) HF.out HSS.out HPP.out)
                clear hb
                have hk' := eq_true hk
                have hks' := eq_true hks
                go_wp2_with fail
                go_end0
                exact HT.out
              · have hb1 : (bt S k != 10) = true := bne_iff_ne.mpr hb
                have HT := Aside0.mk (rloop_next HI1.out HB1.out HK1.out HK.out HQ.out HNO.out hk hb HZ1.out)
                have HKW := Aside0.mk (show Value.int .i64 (wrap64 (k - 1)) = .int .i64 (k - 1) from by have := HZ1.out; rw [wrap64_small (by omega) (by omega)])
                have HW4 := Aside0.mk (show (wrap64 ((S.size : Int) - gk + 1)) = (S.size : Int) - gk + 1 from by have := HZ1.out; have := HQ.out; rw [wrap64_small (by omega) (by omega)])
                clear hb
                have hk' := eq_true hk
                have hks' := eq_true hks
                go_wp2_with fail
                go_roundg (gk - 1)
                case measure => have := HK.out; omega
                case rel => exact ⟨S, pp, HSS.out, HPP.out, rloop_at HT.out (by first | rfl | exact HKW.out) (by first | rfl | rw [HW4.out])⟩
            · have HT := Aside0.mk (rloop_end HI1.out HB1.out HK1.out HQ.out HNO.out (.inl (by have := HK.out; omega)) HF.out HSS.out HPP.out)
              go_wp2_with fail
              go_end0
              exact HT.out
    · rw [if_neg hc] at ha
      split at ha
      case isFalse => cases ha
      case isTrue hl =>
        obtain rfl := Option.some.inj ha
        obtain ⟨hl0, hl1, hl2⟩ := hl
        have hcb : (col == 0) = false := beq_eq_false_iff_ne.2 hc
        have HW := Aside0.mk (show Value.int .i64 (wrap64 ((O.size : Int) + s.size - 1)) = .int .i64 (((O.size + s.size : Nat) : Int) - 1) from by rw [wrap64_small (by omega) (by omega)]; congr 2 <;> omega)
        have HF := Aside0.mk (show RFin ⟨out ++ s.data.toList, col + s.data.toList.length, pend, wrong⟩ (O ++ s) pend wrong from ⟨by rw [hO, concat_data], rfl, rfl, hi'⟩)
        have HSZ := Aside0.mk (show (O ++ s).size ≤ 140737488355328 from by simp only [ByteArray.size_append]; omega)
        have hz1 : (9223372036854775807 < O.size + s.size) = False := eq_false (by omega)
        have HS := Aside0.mk h1
        have HB := Aside0.mk h.2
        have HD2 := Aside0.mk (h1.set_3 (O ++ s))
        have e3' := HD2.out.c3
        have g3' := HD2.out.free 3
        clear h ha hs hi hi' hO zO h1 hl0 hl1 hl2 hsz hpos hs0 hc
        go_enter Try.func68, Try.ntmps68
        go_wp2_with fail
        clear e3' g3' hz1
        have HL := Aside0.mk (rloop_start (W := W) ((HS.out.set_3 (O ++ s)).set_4 0) (below_set (below_set HB.out (IsS93.ge HS.out)) (IsS93.ge HS.out)) (((KeepBut.refl W g none).set_ 3 _).set_ 4 _))
        go_loopg [4] (O ++ s).size (fun q v4 W' => RLoopE w0 W g d gs fl (O ++ s) pend wrong q v4 W')
        case atStart => exact rloopE_at HL.out (by simp only [ByteArray.size_append]; exact HW.out)
        case round =>
          clear HL
          have hr := hrel
          clear hrel
          obtain ⟨S, pp, hS, hpp, k, rfl, hk1, hk2, hI, hno, hB1, hK1⟩ := hr
          have HSS := Aside0.mk hS
          have HPP := Aside0.mk hpp
          have HZ1 := Aside0.mk (show S.size ≤ 140737488355328 from by rw [hS]; exact HSZ.out)
          have hkm : -1 ≤ k := by omega
          have hks : k < S.size := by omega
          have HI1 := Aside0.mk hI
          have HK := Aside0.mk hk1
          have HQ := Aside0.mk hk2
          have HNO := Aside0.mk hno
          have HB1 := Aside0.mk hB1
          have HK1 := Aside0.mk hK1
          have m3 := hI.c3
          have m4 := hI.c4
          have n4 := hI.free 4
          have hbt := bt_at S k
          clear hI hk1 hk2 hno hB1 hK1 hS hpp
          by_cases hk : 0 ≤ k
          · by_cases hb : bt S k = 10
            · have hb1 : (bt S k != 10) = false := bne_eq_false_iff_eq.mpr hb
              have HT := Aside0.mk (rloop_end HI1.out HB1.out HK1.out HQ.out HNO.out (.inr ⟨k, HK.out, hk, hb⟩) HF.out HSS.out HPP.out)
              clear hb
              have hk' := eq_true hk
              have hks' := eq_true hks
              go_wp2_with fail
              go_end0
              exact HT.out
            · have hb1 : (bt S k != 10) = true := bne_iff_ne.mpr hb
              have HT := Aside0.mk (rloop_next HI1.out HB1.out HK1.out HK.out HQ.out HNO.out hk hb HZ1.out)
              have HKW := Aside0.mk (show Value.int .i64 (wrap64 (k - 1)) = .int .i64 (k - 1) from by have := HZ1.out; rw [wrap64_small (by omega) (by omega)])
              have HW4 := Aside0.mk (show (wrap64 ((S.size : Int) - gk + 1)) = (S.size : Int) - gk + 1 from by have := HZ1.out; have := HQ.out; rw [wrap64_small (by omega) (by omega)])
              clear hb
              have hk' := eq_true hk
              have hks' := eq_true hks
              go_wp2_with fail
              go_roundg (gk - 1)
              case measure => have := HK.out; omega
              case rel => exact ⟨S, pp, HSS.out, HPP.out, rloop_at HT.out (by first | rfl | exact HKW.out) (by first | rfl | rw [HW4.out])⟩
          · have HT := Aside0.mk (rloop_end HI1.out HB1.out HK1.out HQ.out HNO.out (.inl (by have := HK.out; omega)) HF.out HSS.out HPP.out)
            go_wp2_with fail
            go_end0
            exact HT.out

end Go.Proofs.Ythmmdmnbcecooaa.A

/-! R5 -/
namespace Go.Proofs.Ythmmdmnbcecooaa.A
open Go.RowKit Go.Proofs.YthmmdmnbcecooaaW.PrintWords Go.Proofs.YthmmdmnbcecooaaW.PrintLast Go.Proofs.YthmmdmnbcecooaaW.PrintMore
attribute [local go_sem] max2_int min2_int max_two min_two max_three min_three max_four min_four
set_option linter.unusedVariables false
set_option linter.unusedSimpArgs false

theorem rline_calls (w0 W : World) (g : Nat) (d : List S42) (gs : List Int) (fl : List Bool) (st st' : St) (ind : Int) (h : RS w0 W g d gs fl st) (ha : feedO st ind = some st') :
    Calls Try.prog 69 #[.pointer (some ⟨g, 0, none⟩), .int .i64 ind] W (RPost w0 g d gs fl st' W) := by
  unfold feedO at ha
  split at ha
  case isFalse => cases ha
  case isTrue hl =>
    obtain rfl := Option.some.inj ha
    refine (koineref25_writer_line.calls g d gs fl ⟨st.out.toArray⟩ st.col st.pend st.wrong ind (⟨st.out.toArray⟩ ++ ⟨#[10]⟩) 0 ind st.wrong w0 W h.1 h.2 ?_).mono ?_
    · unfold koineref25_writer_line.f
      rw [if_pos (by simp [ByteArray.size]; omega)]
    · rintro e W' ⟨rfl, h1, h2, h3⟩
      refine ⟨rfl, ⟨?_, h2⟩, h3⟩
      have e : (⟨st.out.toArray⟩ : ByteArray) ++ (⟨#[10]⟩ : ByteArray) = ⟨(st.out ++ [10]).toArray⟩ := by rw [concat_data]
      rw [e] at h1
      exact h1

def NodeAt (w0 : World) (g : Nat) (ch : Nat → Bool) (l : List S42) (gs : List Int) (fl : List Bool) (i : Nat) : Prop :=
  ∀ (W : World) (ind : Int) (flat : Bool) (st st' : St), RS w0 W g l gs fl st → Inv st → wrO ch (tree l i) ind flat st = some st' →
    Calls Try.prog 54 #[.pointer (some ⟨g, 0, none⟩), .int .i64 i, .int .i64 ind, .bool flat] W (RPost w0 g l gs fl st' W)
def ChAt (ch : Nat → Bool) (l : List S42) (gs : List Int) (fl : List Bool) : Prop :=
  ∀ (o : ByteArray) (c p : Int) (b : Bool) (i : Nat), koineref25_writer_chosen.f (gs.length + 1) l gs fl o c p b i = some (ch i, o, c, p, b)

theorem RS.alloc {w0 W : World} {g : Nat} {d : List S42} {gs : List Int} {fl : List Bool} {st : St} (h : RS w0 W g d gs fl st) (o : Obj) : RS w0 (W.alloc o) g d gs fl st := ⟨h.1.alloc o, below_alloc h.2 o⟩
theorem RS.drew {w0 W : World} {g : Nat} {d : List S42} {gs : List Int} {fl : List Bool} {st : St} (h : RS w0 W g d gs fl st) : RS w0 W.drew g d gs fl st := ⟨h.1.drew, below_drew1 h.2⟩
theorem keep_alloc0 (W : World) (g : Nat) (o : Obj) : KeepBut W (W.alloc o) g none := keep_alloc (KeepBut.refl W g none) o
theorem keep_then {w w1 w2 : World} {g : Nat} (h : KeepBut w w1 g none) (k : KeepBut w1 w2 g none) : KeepBut w w2 g none := h.trans k (.inl rfl)

theorem nl_of {s : ByteArray} (h : Lib.indexByte s.data.toList 10 < 0) : ∀ c ∈ s.data.toList, c ≠ 10 := by
  have := (noNl_iff _).2 h
  unfold noNl at this
  intro c hc
  simpa using List.all_eq_true.1 this c hc

section
variable {w0 W : World} {g : Nat} {l : List S42} {gs : List Int} {fl : List Bool} {st : St}
theorem node_cells (h : RS w0 W g l gs fl st) {i : Nat} (hi : i < l.length) {k : Int} {s : ByteArray} {n a b : Int} (hx : l.getD i z42 = ⟨k, s, n, a, b⟩) : ∃ ad c0, W.cell? ⟨g, 0, none⟩ = some (.slice (some ad) l.length c0) ∧ W.cell? (ad.add (i * 5)) = some (.int .i64 k) ∧
    W.cell? ⟨(ad.add (i * 5)).block, (ad.add (i * 5)).off + 1, none⟩ = some (.string s) ∧ W.cell? ⟨(ad.add (i * 5)).block, (ad.add (i * 5)).off + 2, none⟩ = some (.int .i64 n) ∧ W.cell? ⟨(ad.add (i * 5)).block, (ad.add (i * 5)).off + 3, none⟩ = some (.int .i64 a) ∧ W.cell? ⟨(ad.add (i * 5)).block, (ad.add (i * 5)).off + 4, none⟩ = some (.int .i64 b) := by
  obtain ⟨A0, c0, A1, c1, A2, c2, hb, hg, hr0, hr1, hr2⟩ := h.1
  have hcd := cellS93_0 hb
  obtain ⟨ad, rfl, h0, h1, h2, h3, h4⟩ := at_T42 hr0 i (by omega) (by omega)
  rw [rd42_nat, Int.toNat_natCast, hx] at h0 h1 h2 h3 h4
  exact ⟨ad, c0, hcd, pw_cell_below h.2 h0, pw_cell_below h.2 h1, pw_cell_below h.2 h2, pw_cell_below h.2 h3, pw_cell_below h.2 h4⟩
end

set_option maxHeartbeats 1000000 in
set_option maxRecDepth 100000 in
theorem node_leaf (w0 W : World) (g : Nat) (ch : Nat → Bool) (l : List S42) (gs : List Int) (fl : List Bool) (i : Nat) (hi : i < l.length) (hk : (l.getD i z42).f0 = 0 ∨ (l.getD i z42).f0 = 1) (hnl : Lib.indexByte (l.getD i z42).f1.data.toList 10 < 0)
    (ind : Int) (flat : Bool) (st st' : St) (h : RS w0 W g l gs fl st) (hin : Inv st) (hw : (if (l.getD i z42).f0 = 0 ∨ flat = true then addO st (l.getD i z42).f1.data.toList else feedO st ind) = some st') :
    Calls Try.prog 54 #[.pointer (some ⟨g, 0, none⟩), .int .i64 i, .int .i64 ind, .bool flat] W (RPost w0 g l gs fl st' W) := by
  have hu42 := Try.underlying42
  obtain ⟨k, s, n, a, b, hx⟩ : ∃ k s n a b, l.getD i z42 = ⟨k, s, n, a, b⟩ := ⟨_, _, _, _, _, rfl⟩
  obtain ⟨ad, c0, hcd, k0, k1, k2, k3, k4⟩ := node_cells h hi hx
  rw [hx] at hk hnl hw
  simp only at hk hnl hw
  have HNL := Aside0.mk (nl_of hnl)
  have HS := Aside0.mk h
  have HI := Aside0.mk hin
  have hp := eq_true (show (0 : Int) ≤ i by omega)
  have hq := eq_true (show (i : Int) < l.length by omega)
  clear h hx hnl hin
  rcases hk with rfl | rfl
  · rw [if_pos (.inl rfl)] at hw
    have HW := Aside0.mk hw
    clear hw
    go_enter Try.func54, Try.ntmps54
    go_wp2_with fail
    refine (rtext_calls w0 _ g l gs fl st st' s (HS.out.alloc _) HI.out HNL.out HW.out).mono ?_
    rintro e W1 ⟨rfl, hS1, hK1⟩
    have HS1 := Aside0.mk hS1
    have HK1 := Aside0.mk hK1
    clear hS1 hK1
    go_wp2_with fail
    go_end0
    exact ⟨rfl, HS1.out, keep_then (keep_alloc0 W g _) HK1.out⟩
  · cases flat with
    | true =>
      rw [if_pos (.inr rfl)] at hw
      have HW := Aside0.mk hw
      clear hw
      go_enter Try.func54, Try.ntmps54
      go_wp2_with fail
      refine (rtext_calls w0 _ g l gs fl st st' s (HS.out.alloc _) HI.out HNL.out HW.out).mono ?_
      rintro e W1 ⟨rfl, hS1, hK1⟩
      have HS1 := Aside0.mk hS1
      have HK1 := Aside0.mk hK1
      clear hS1 hK1
      go_wp2_with fail
      go_end0
      exact ⟨rfl, HS1.out, keep_then (keep_alloc0 W g _) HK1.out⟩
    | false =>
      rw [if_neg (by decide)] at hw
      have HW := Aside0.mk hw
      clear hw
      go_enter Try.func54, Try.ntmps54
      go_wp2_with fail
      refine (rline_calls w0 _ g l gs fl st st' ind (HS.out.alloc _) HW.out).mono ?_
      rintro e W1 ⟨rfl, hS1, hK1⟩
      have HS1 := Aside0.mk hS1
      have HK1 := Aside0.mk hK1
      clear hS1 hK1
      go_wp2_with fail
      go_end0
      exact ⟨rfl, HS1.out, keep_then (keep_alloc0 W g _) HK1.out⟩

set_option maxHeartbeats 1000000 in
set_option maxRecDepth 100000 in
theorem node_hard (w0 W : World) (g : Nat) (ch : Nat → Bool) (l : List S42) (gs : List Int) (fl : List Bool) (i : Nat) (hi : i < l.length) (hk : (l.getD i z42).f0 = 2)
    (ind : Int) (flat : Bool) (st st' : St) (h : RS w0 W g l gs fl st) (hw : feedO { st with wrong := st.wrong || flat } ind = some st') :
    Calls Try.prog 54 #[.pointer (some ⟨g, 0, none⟩), .int .i64 i, .int .i64 ind, .bool flat] W (RPost w0 g l gs fl st' W) := by
  have hu42 := Try.underlying42
  obtain ⟨k, s, n, a, b, hx⟩ : ∃ k s n a b, l.getD i z42 = ⟨k, s, n, a, b⟩ := ⟨_, _, _, _, _, rfl⟩
  obtain ⟨ad, c0, hcd, k0, k1, k2, k3, k4⟩ := node_cells h hi hx
  rw [hx] at hk
  simp only at hk
  subst hk
  obtain ⟨out, col, pend, wrong⟩ := st
  have m6 := h.1.c6
  have f6 := h.1.free 6
  have hlt := h.1.lt
  simp only at m6
  have HS := Aside0.mk h
  have HW := Aside0.mk hw
  have hp := eq_true (show (0 : Int) ≤ i by omega)
  have hq := eq_true (show (i : Int) < l.length by omega)
  clear h hx hw
  cases wrong with
  | true =>
    go_enter Try.func54, Try.ntmps54
    go_wp2_with fail
    refine (rline_calls w0 _ g l gs fl ⟨out, col, pend, true⟩ st' ind ⟨(HS.out.1.set_6 true).alloc _, below_alloc (below_set HS.out.2 HS.out.1.ge) _⟩ HW.out).mono ?_
    rintro e W1 ⟨rfl, hS1, hK1⟩
    have HS1 := Aside0.mk hS1
    have HK1 := Aside0.mk hK1
    clear hS1 hK1
    go_wp2_with fail
    go_end0
    exact ⟨rfl, HS1.out, keep_then (keep_alloc ((KeepBut.refl W g none).set_ 6 _) _) HK1.out⟩
  | false =>
    cases flat with
    | true =>
      go_enter Try.func54, Try.ntmps54
      go_wp2_with fail
      refine (rline_calls w0 _ g l gs fl ⟨out, col, pend, true⟩ st' ind ⟨(HS.out.1.set_6 true).alloc _, below_alloc (below_set HS.out.2 HS.out.1.ge) _⟩ HW.out).mono ?_
      rintro e W1 ⟨rfl, hS1, hK1⟩
      have HS1 := Aside0.mk hS1
      have HK1 := Aside0.mk hK1
      clear hS1 hK1
      go_wp2_with fail
      go_end0
      exact ⟨rfl, HS1.out, keep_then (keep_alloc ((KeepBut.refl W g none).set_ 6 _) _) HK1.out⟩
    | false =>
      go_enter Try.func54, Try.ntmps54
      go_wp2_with fail
      refine (rline_calls w0 _ g l gs fl ⟨out, col, pend, false⟩ st' ind ⟨(HS.out.1.set_6 false).alloc _, below_alloc (below_set HS.out.2 HS.out.1.ge) _⟩ HW.out).mono ?_
      rintro e W1 ⟨rfl, hS1, hK1⟩
      have HS1 := Aside0.mk hS1
      have HK1 := Aside0.mk hK1
      clear hS1 hK1
      go_wp2_with fail
      go_end0
      exact ⟨rfl, HS1.out, keep_then (keep_alloc ((KeepBut.refl W g none).set_ 6 _) _) HK1.out⟩

set_option maxHeartbeats 1000000 in
set_option maxRecDepth 100000 in
theorem node_seq (w0 W : World) (g : Nat) (ch : Nat → Bool) (l : List S42) (gs : List Int) (fl : List Bool) (i a' b' : Nat) (hi : i < l.length) (hk : (l.getD i z42).f0 = 3) (ha' : (l.getD i z42).f3 = (a' : Int)) (hb' : (l.getD i z42).f4 = (b' : Int))
    (ih : NodeAt w0 g ch l gs fl a') (ih2 : NodeAt w0 g ch l gs fl b') (hinv : ∀ (ind : Int) (flat : Bool) (st st' : St), Inv st → wrO ch (tree l a') ind flat st = some st' → Inv st')
    (ind : Int) (flat : Bool) (st st1 st' : St) (h : RS w0 W g l gs fl st) (hin : Inv st) (hw : wrO ch (tree l a') ind flat st = some st1) (hw2 : wrO ch (tree l b') ind flat st1 = some st') :
    Calls Try.prog 54 #[.pointer (some ⟨g, 0, none⟩), .int .i64 i, .int .i64 ind, .bool flat] W (RPost w0 g l gs fl st' W) := by
  have hu42 := Try.underlying42
  obtain ⟨k, s, n, a, b, hx⟩ : ∃ k s n a b, l.getD i z42 = ⟨k, s, n, a, b⟩ := ⟨_, _, _, _, _, rfl⟩
  obtain ⟨ad, c0, hcd, k0, k1, k2, k3, k4⟩ := node_cells h hi hx
  rw [hx] at hk ha' hb'
  simp only at hk ha' hb'
  subst hk ha' hb'
  have HS := Aside0.mk h
  have HI := Aside0.mk hin
  have HI2 := Aside0.mk (hinv _ _ _ _ hin hw)
  have HW := Aside0.mk hw
  have HW2 := Aside0.mk hw2
  have HIH := Aside0.mk ih
  have HIH2 := Aside0.mk ih2
  have hp := eq_true (show (0 : Int) ≤ i by omega)
  have hq := eq_true (show (i : Int) < l.length by omega)
  have HNE := Aside0.mk (show W.heap.size ≠ g from fun e => by have := h.1.lt; omega)
  clear h hx hw hw2 ih ih2 hin hinv
  go_enter Try.func54, Try.ntmps54
  go_wp2_with fail
  refine (HIH.out _ ind flat st st1 (HS.out.alloc _) HI.out HW.out).mono ?_
  rintro e W1 ⟨rfl, hS1, hK1⟩
  have HS1 := Aside0.mk hS1
  have hblk := hK1.blk (heap_alloc_new W _) HNE.out (by simp)
  have m4 := (blk_cell hblk 4).trans rfl
  have HK1 := Aside0.mk (keep_then (keep_alloc0 W g _) hK1)
  clear hS1 hK1 hblk
  go_wp2_with fail
  refine (HIH2.out _ ind flat st1 st' HS1.out HI2.out HW2.out).mono ?_
  rintro e W2 ⟨rfl, hS2, hK2⟩
  have HS2 := Aside0.mk hS2
  have HK2 := Aside0.mk (keep_then HK1.out hK2)
  clear hS2 hK2
  go_wp2_with fail
  go_end0
  exact ⟨rfl, HS2.out, HK2.out⟩

set_option maxHeartbeats 1000000 in
set_option maxRecDepth 100000 in
theorem node_nest (w0 W : World) (g : Nat) (ch : Nat → Bool) (l : List S42) (gs : List Int) (fl : List Bool) (i a' : Nat) (n' : Int) (hi : i < l.length) (hk : (l.getD i z42).f0 = 4) (ha' : (l.getD i z42).f3 = (a' : Int)) (hn' : (l.getD i z42).f2 = n') (ih : NodeAt w0 g ch l gs fl a')
    (ind : Int) (flat : Bool) (st st' : St) (h : RS w0 W g l gs fl st) (hin : Inv st) (hb : 0 ≤ ind + n' ∧ ind + n' ≤ 4611686018427387904) (hw : wrO ch (tree l a') (ind + n') flat st = some st') :
    Calls Try.prog 54 #[.pointer (some ⟨g, 0, none⟩), .int .i64 i, .int .i64 ind, .bool flat] W (RPost w0 g l gs fl st' W) := by
  have hu42 := Try.underlying42
  obtain ⟨k, s, n, a, b, hx⟩ : ∃ k s n a b, l.getD i z42 = ⟨k, s, n, a, b⟩ := ⟨_, _, _, _, _, rfl⟩
  obtain ⟨ad, c0, hcd, k0, k1, k2, k3, k4⟩ := node_cells h hi hx
  rw [hx] at hk ha' hn'
  simp only at hk ha' hn'
  subst hk ha' hn'
  have HS := Aside0.mk h
  have HI := Aside0.mk hin
  have HW := Aside0.mk hw
  have HIH := Aside0.mk ih
  obtain ⟨hb1, hb2⟩ := hb
  have HE := Aside0.mk (show wrap64 (ind + n) = ind + n from wrap64_small (by omega) (by omega))
  have hp := eq_true (show (0 : Int) ≤ i by omega)
  have hq := eq_true (show (i : Int) < l.length by omega)
  clear h hx hw ih hin hb1 hb2
  go_enter Try.func54, Try.ntmps54
  go_wp2_with fail
  rw [HE.out]
  refine (HIH.out _ (ind + n) flat st st' (HS.out.alloc _) HI.out HW.out).mono ?_
  rintro e W1 ⟨rfl, hS1, hK1⟩
  have HS1 := Aside0.mk hS1
  have HK1 := Aside0.mk (keep_then (keep_alloc0 W g _) hK1)
  clear hS1 hK1
  go_wp2_with fail
  go_end0
  exact ⟨rfl, HS1.out, HK1.out⟩

set_option maxHeartbeats 1000000 in
set_option maxRecDepth 100000 in
theorem node_align (w0 W : World) (g : Nat) (ch : Nat → Bool) (l : List S42) (gs : List Int) (fl : List Bool) (i a' : Nat) (hi : i < l.length) (hk : (l.getD i z42).f0 = 5) (ha' : (l.getD i z42).f3 = (a' : Int)) (ih : NodeAt w0 g ch l gs fl a')
    (ind : Int) (flat : Bool) (st st' : St) (h : RS w0 W g l gs fl st) (hin : Inv st) (hw : wrO ch (tree l a') (if st.col = 0 then st.pend else st.col) flat st = some st') :
    Calls Try.prog 54 #[.pointer (some ⟨g, 0, none⟩), .int .i64 i, .int .i64 ind, .bool flat] W (RPost w0 g l gs fl st' W) := by
  have hu42 := Try.underlying42
  obtain ⟨k, s, n, a, b, hx⟩ : ∃ k s n a b, l.getD i z42 = ⟨k, s, n, a, b⟩ := ⟨_, _, _, _, _, rfl⟩
  obtain ⟨ad, c0, hcd, k0, k1, k2, k3, k4⟩ := node_cells h hi hx
  rw [hx] at hk ha'
  simp only at hk ha'
  subst hk ha'
  have m4 := h.1.c4
  have m5 := h.1.c5
  have hlt := h.1.lt
  have hcol : 0 ≤ st.col := by rw [show st.col = (tailLen st.out : Int) from hin]; omega
  obtain ⟨out, col, pend, wrong⟩ := st
  simp only at m4 m5 hcol hw
  have HS := Aside0.mk h
  have HI := Aside0.mk hin
  have HIH := Aside0.mk ih
  have hp := eq_true (show (0 : Int) ≤ i by omega)
  have hq := eq_true (show (i : Int) < l.length by omega)
  by_cases hc : col = 0
  · subst hc
    rw [if_pos rfl] at hw
    have HW := Aside0.mk hw
    clear h hx hw ih hin hcol
    go_enter Try.func54, Try.ntmps54
    go_wp2_with fail
    go_region_with (go_at_call 54; refine (HIH.out _ pend flat _ st' (HS.out.alloc _).drew HI.out HW.out).mono ?_; rintro e W1 ⟨rfl, hS1, hK1⟩; have HS1 := Aside0.mk hS1; have HK1 := Aside0.mk (keep_then (keep_drew (keep_alloc0 W g _)) hK1); clear hS1 hK1)
    all_goals
      go_wp2_with fail
      go_end0
      exact ⟨rfl, HS1.out, HK1.out⟩
  · rw [if_neg hc] at hw
    have HW := Aside0.mk hw
    have hc0 : 0 < col := by omega
    clear h hx hw ih hin hcol hc
    go_enter Try.func54, Try.ntmps54
    go_wp2_with fail
    go_region_with (go_at_call 54; refine (HIH.out _ col flat _ st' (HS.out.alloc _).drew HI.out HW.out).mono ?_; rintro e W1 ⟨rfl, hS1, hK1⟩; have HS1 := Aside0.mk hS1; have HK1 := Aside0.mk (keep_then (keep_drew (keep_alloc0 W g _)) hK1); clear hS1 hK1)
    all_goals
      go_wp2_with fail
      go_end0
      exact ⟨rfl, HS1.out, HK1.out⟩

set_option maxHeartbeats 4000000 in
set_option maxRecDepth 100000 in
theorem node_group_flat (w0 W : World) (g : Nat) (ch : Nat → Bool) (l : List S42) (gs : List Int) (fl : List Bool) (i a' : Nat) (hi : i < l.length) (hk : (l.getD i z42).f0 = 6) (ha' : (l.getD i z42).f3 = (a' : Int)) (ih : NodeAt w0 g ch l gs fl a') (hch : ChAt ch l gs fl)
    (ind : Int) (st st' : St) (h : RS w0 W g l gs fl st) (hin : Inv st) (hw : wrO ch (tree l a') ind true st = some st') :
    Calls Try.prog 54 #[.pointer (some ⟨g, 0, none⟩), .int .i64 i, .int .i64 ind, .bool true] W (RPost w0 g l gs fl st' W) := by
  have hu42 := Try.underlying42
  obtain ⟨k, s, n, a, b, hx⟩ : ∃ k s n a b, l.getD i z42 = ⟨k, s, n, a, b⟩ := ⟨_, _, _, _, _, rfl⟩
  obtain ⟨ad, c0, hcd, k0, k1, k2, k3, k4⟩ := node_cells h hi hx
  rw [hx] at hk ha'
  simp only at hk ha'
  subst hk ha'
  have HS := Aside0.mk h
  have HI := Aside0.mk hin
  have HIH := Aside0.mk ih
  have HCH := Aside0.mk hch
  have hp := eq_true (show (0 : Int) ≤ i by omega)
  have hq := eq_true (show (i : Int) < l.length by omega)
  have HNE := Aside0.mk (show W.heap.size ≠ g from fun e => by have := h.1.lt; omega)
  have HW := Aside0.mk hw
  clear h hx hw ih hin hch
  go_enter Try.func54, Try.ntmps54
  go_wp2_with fail
  first | (go_region_with (go_at_call 54; refine (HIH.out _ ind true _ st' (HS.out.alloc _).drew HI.out HW.out).mono ?_; rintro e W1 ⟨rfl, hS1, hK1⟩; have HS1 := Aside0.mk hS1; have HK1 := Aside0.mk (keep_then (keep_drew (keep_alloc0 W g _)) hK1); clear hS1 hK1)) | fail
  all_goals
    go_wp2_with fail
    go_end0
    exact ⟨rfl, HS1.out, HK1.out⟩

set_option maxHeartbeats 4000000 in
set_option maxRecDepth 100000 in
theorem node_group_open (w0 W : World) (g : Nat) (ch : Nat → Bool) (l : List S42) (gs : List Int) (fl : List Bool) (i a' : Nat) (hi : i < l.length) (hk : (l.getD i z42).f0 = 6) (ha' : (l.getD i z42).f3 = (a' : Int)) (ih : NodeAt w0 g ch l gs fl a') (hch : ChAt ch l gs fl)
    (ind : Int) (st st' : St) (h : RS w0 W g l gs fl st) (hin : Inv st) (hw : wrO ch (tree l a') ind (ch i) st = some st') :
    Calls Try.prog 54 #[.pointer (some ⟨g, 0, none⟩), .int .i64 i, .int .i64 ind, .bool false] W (RPost w0 g l gs fl st' W) := by
  have hu42 := Try.underlying42
  obtain ⟨k, s, n, a, b, hx⟩ : ∃ k s n a b, l.getD i z42 = ⟨k, s, n, a, b⟩ := ⟨_, _, _, _, _, rfl⟩
  obtain ⟨ad, c0, hcd, k0, k1, k2, k3, k4⟩ := node_cells h hi hx
  rw [hx] at hk ha'
  simp only at hk ha'
  subst hk ha'
  have HS := Aside0.mk h
  have HI := Aside0.mk hin
  have HIH := Aside0.mk ih
  have HCH := Aside0.mk hch
  have hp := eq_true (show (0 : Int) ≤ i by omega)
  have hq := eq_true (show (i : Int) < l.length by omega)
  have HNE := Aside0.mk (show W.heap.size ≠ g from fun e => by have := h.1.lt; omega)
  obtain ⟨cb, hcb⟩ : ∃ cb, cb = ch i := ⟨_, rfl⟩
  have HCB := Aside0.mk hcb
  rw [← hcb] at hw
  have HW := Aside0.mk hw
  clear h hx hw ih hin hch hcb
  go_enter Try.func54, Try.ntmps54
  go_wp2_with fail
  go_region_with (first | (go_at_call 70; refine (koineref25_writer_chosen.calls (gs.length + 1) g l gs fl _ st.col st.pend st.wrong i (ch i) _ st.col st.pend st.wrong w0 _ (HS.out.alloc _).drew.1 (HS.out.alloc _).drew.2 (HCH.out _ _ _ _ i)).mono ?_; rintro e W2 ⟨rfl, hS2, hB2, hK2⟩; have HS2 := Aside0.mk hS2; have HB2 := Aside0.mk hB2; have hblk := (keep_then (keep_drew (KeepBut.refl _ g none)) hK2).blk (heap_alloc_new W _) HNE.out (by simp); have m3 := (blk_cell hblk 3).trans rfl; have HK2 := Aside0.mk (keep_then (keep_drew (keep_alloc0 W g _)) hK2); clear hS2 hB2 hK2 hblk) | (go_at_call 54; refine (HIH.out _ ind (ch i) st st' ⟨HS2.out, HB2.out⟩ HI.out (by rw [← HCB.out]; exact HW.out)).mono ?_; rintro e W1 ⟨rfl, hS1, hK1⟩; have HS1 := Aside0.mk hS1; have HK1 := Aside0.mk (keep_then HK2.out hK1); clear hS1 hK1))
  all_goals
    go_wp2_with fail
    go_end0
    exact ⟨rfl, HS1.out, HK1.out⟩

theorem inv_wrO {ch : Nat → Bool} {l : List S42} (hv : nodesOk l) : ∀ i, i < l.length → ∀ (ind : Int) (flat : Bool) (st st' : St), Inv st → wrO ch (tree l i) ind flat st = some st' → Inv st' := by
  intro i
  induction i using Nat.strongRecOn with
  | _ i ih =>
    intro hi ind flat st st' hin hw
    have h := hv i hi
    have hkd := h.kind
    have hnl := nl_of h.nl
    rcases (show (l.getD i z42).f0 = 0 ∨ (l.getD i z42).f0 = 1 ∨ (l.getD i z42).f0 = 2 ∨ (l.getD i z42).f0 = 3 ∨ (l.getD i z42).f0 = 4 ∨ (l.getD i z42).f0 = 5 ∨ (l.getD i z42).f0 = 6 by omega) with h4 | h4 | h4 | h4 | h4 | h4 | h4
    · rw [tree_text h4] at hw; exact inv_add hin hnl hw
    · rw [tree_line h4] at hw
      simp only [wrO] at hw
      split at hw
      · exact inv_add hin hnl hw
      · exact inv_feed hw
    · rw [tree_hard h4] at hw; exact inv_feed hw
    · have ha := h.a (by omega)
      have hb := h.b h4
      rw [tree_seq hv hi h4] at hw
      obtain ⟨st1, h1, h2⟩ := Option.bind_eq_some_iff.1 hw
      exact ih _ (by omega) (by omega) _ _ _ _ (ih _ (by omega) (by omega) _ _ _ _ hin h1) h2
    · have ha := h.a (by omega)
      rw [tree_nest hv hi h4] at hw
      simp only [wrO] at hw
      split at hw
      · exact ih _ (by omega) (by omega) _ _ _ _ hin hw
      · cases hw
    · have ha := h.a (by omega)
      rw [tree_align hv hi h4] at hw
      exact ih _ (by omega) (by omega) _ _ _ _ hin hw
    · have ha := h.a (by omega)
      rw [tree_group hv hi h4] at hw
      exact ih _ (by omega) (by omega) _ _ _ _ hin hw

theorem node_calls (w0 : World) (g : Nat) (ch : Nat → Bool) (l : List S42) (gs : List Int) (fl : List Bool) (hv : nodesOk l) (hch : ChAt ch l gs fl) : ∀ i, i < l.length → NodeAt w0 g ch l gs fl i := by
  intro i
  induction i using Nat.strongRecOn with
  | _ i ih =>
    intro hi W ind flat st st' hS hin hw
    have h := hv i hi
    have hkd := h.kind
    rcases (show (l.getD i z42).f0 = 0 ∨ (l.getD i z42).f0 = 1 ∨ (l.getD i z42).f0 = 2 ∨ (l.getD i z42).f0 = 3 ∨ (l.getD i z42).f0 = 4 ∨ (l.getD i z42).f0 = 5 ∨ (l.getD i z42).f0 = 6 by omega) with h4 | h4 | h4 | h4 | h4 | h4 | h4
    · rw [tree_text h4] at hw
      exact node_leaf w0 W g ch l gs fl i hi (.inl h4) h.nl ind flat st st' hS hin (by rw [if_pos (.inl h4)]; exact hw)
    · rw [tree_line h4] at hw
      refine node_leaf w0 W g ch l gs fl i hi (.inr h4) h.nl ind flat st st' hS hin ?_
      simp only [wrO] at hw
      by_cases hf : flat = true
      · rw [if_pos (.inr hf)]; rw [if_pos hf] at hw; exact hw
      · rw [if_neg (by rintro (h | h); omega; exact hf h)]; rw [if_neg hf] at hw; exact hw
    · rw [tree_hard h4] at hw
      exact node_hard w0 W g ch l gs fl i hi h4 ind flat st st' hS hw
    · have ha := h.a (by omega)
      have hb := h.b h4
      obtain ⟨a, ha'⟩ := Int.eq_ofNat_of_zero_le ha.1
      obtain ⟨b, hb'⟩ := Int.eq_ofNat_of_zero_le hb.1
      rw [tree_seq hv hi h4, ha', hb', Int.toNat_natCast, Int.toNat_natCast] at hw
      obtain ⟨st1, h1, h2⟩ := Option.bind_eq_some_iff.1 hw
      exact node_seq w0 W g ch l gs fl i a b hi h4 ha' hb' (ih a (by omega) (by omega)) (ih b (by omega) (by omega)) (inv_wrO hv a (by omega)) ind flat st st1 st' hS hin h1 h2
    · have ha := h.a (by omega)
      obtain ⟨a, ha'⟩ := Int.eq_ofNat_of_zero_le ha.1
      rw [tree_nest hv hi h4, ha', Int.toNat_natCast] at hw
      simp only [wrO] at hw
      split at hw
      · rename_i hb
        exact node_nest w0 W g ch l gs fl i a _ hi h4 ha' rfl (ih a (by omega) (by omega)) ind flat st st' hS hin hb hw
      · cases hw
    · have ha := h.a (by omega)
      obtain ⟨a, ha'⟩ := Int.eq_ofNat_of_zero_le ha.1
      rw [tree_align hv hi h4, ha', Int.toNat_natCast] at hw
      exact node_align w0 W g ch l gs fl i a hi h4 ha' (ih a (by omega) (by omega)) ind flat st st' hS hin hw
    · have ha := h.a (by omega)
      obtain ⟨a, ha'⟩ := Int.eq_ofNat_of_zero_le ha.1
      rw [tree_group hv hi h4, ha', Int.toNat_natCast] at hw
      simp only [wrO] at hw
      cases flat with
      | true =>
        rw [Bool.true_or] at hw
        exact node_group_flat w0 W g ch l gs fl i a hi h4 ha' (ih a (by omega) (by omega)) hch ind st st' hS hin hw
      | false =>
        rw [Bool.false_or] at hw
        exact node_group_open w0 W g ch l gs fl i a hi h4 ha' (ih a (by omega) (by omega)) hch ind st st' hS hin hw

end Go.Proofs.Ythmmdmnbcecooaa.A

/-! R3 -/
namespace Go.Proofs.Ythmmdmnbcecooaa.A
open Go.RowKit Go.Proofs.YthmmdmnbcecooaaW.PrintWords Go.Proofs.YthmmdmnbcecooaaW.PrintLast Go.Proofs.YthmmdmnbcecooaaW.PrintMore
attribute [local go_sem] max2_int min2_int max_two min_two max_three min_three max_four min_four
set_option linter.unusedVariables false
set_option linter.unusedSimpArgs false

theorem chosen_loop (l : List S42) (o : ByteArray) (c p : Int) (b : Bool) (i : Nat) (gs : List Nat) (fl : List Bool) (hlen : gs.length = fl.length) (hg : gs.length ≤ 65536) : ∀ (d j : Nat), j + d = gs.length →
    koineref25_writer_chosen.l0 (d + 1) i j l (gs.map Int.ofNat) fl o c p b = some (chOf ((gs.drop j).zip (fl.drop j)) i, o, c, p, b)
  | 0, j, hj => by
    rw [koineref25_writer_chosen.l0, if_neg (by simp; omega), List.drop_eq_nil_of_le (by omega)]
    rfl
  | d + 1, j, hj => by
    have hlt : j < gs.length := by omega
    have hlt2 : j < fl.length := by omega
    have hw : wrap64 ((j : Int) + 1) = ((j + 1 : Nat) : Int) := by rw [wrap64_small (by omega) (by omega)]; omega
    rw [koineref25_writer_chosen.l0, if_pos (by simp; omega), if_pos (by omega), rd_map hlt, hw, List.drop_eq_getElem_cons hlt, List.drop_eq_getElem_cons hlt2]
    simp only [List.zip_cons_cons, chOf]
    by_cases e : gs[j] = i
    · rw [if_pos (by omega), if_pos (by omega), if_pos e]
      have hrf : rdOf false fl (j : Int) = fl[j] := by simp [rdOf, List.getD, hlt2]
      rw [hrf]
    · rw [if_neg (by omega), if_neg e]
      exact chosen_loop l o c p b i gs fl hlen hg d (j + 1) (by omega)
theorem chAt_of (l : List S42) (gs : List Nat) (fl : List Bool) (hlen : gs.length = fl.length) (hg : gs.length ≤ 65536) : ChAt (chOf (gs.zip fl)) l (gs.map Int.ofNat) fl := by
  intro o c p b i
  have := chosen_loop l o c p b i gs fl hlen hg gs.length 0 (by omega)
  unfold koineref25_writer_chosen.f
  rw [List.length_map]
  simpa using this

def koineref25_Render.f (l0 : List S42) (l1 : List Bool) : Option (ByteArray × Int) :=
  if (l0.all fun x => decide (x.f1.size ≤ 140737488355328)) = true then document_Render.f l0 l1 else none

set_option maxRecDepth 100000 in
theorem rrender_bad (A0 : Option Addr) (c0 : Nat) (l0 : List S42) (A1 : Option Addr) (n1 c1 : Nat) (w : World) (k : Nat) (gs : List Int) (r : Int) (hr0 : Kd.C k42 w A0 l0.length l0) (hc0 : l0.length ≤ c0) (hg : koineref25_Groups.f k l0 = some (gs, r)) (h : r ≠ 0) :
    Calls Try.prog 25 #[.slice A0 l0.length c0, .slice A1 n1 c1] w (RenderPost ⟨#[]⟩ r w) := by
  have HR := Aside0.mk hr0
  have hb : (r != 0) = true := by simpa using h
  have HG := Aside0.mk hg
  clear hr0 h hg
  go_enter Try.func25, Try.ntmps25
  go_wp2_with fail
  refine (koineref25_Groups.calls k A0 c0 l0 gs r w HR.out hc0 HG.out).mono ?_
  rintro e w1 ⟨v0, rfl, _, hb1⟩
  have HB := Aside0.mk hb1
  clear hb1
  go_wp2_with fail
  go_ret2
  exact ⟨rfl, HB.out⟩

set_option maxRecDepth 100000 in
theorem rrender_len (A0 : Option Addr) (c0 : Nat) (l0 : List S42) (A1 : Option Addr) (n1 c1 : Nat) (w : World) (k : Nat) (gs : List Int) (hr0 : Kd.C k42 w A0 l0.length l0) (hc0 : l0.length ≤ c0) (hg : koineref25_Groups.f k l0 = some (gs, 0)) (hl : n1 ≠ gs.length) :
    Calls Try.prog 25 #[.slice A0 l0.length c0, .slice A1 n1 c1] w (RenderPost ⟨#[]⟩ 1 w) := by
  have HR := Aside0.mk hr0
  have hne : ((n1 : Int) != (gs.length : Int)) = true := by rw [bne_iff_ne]; omega
  have hne2 : (n1 != gs.length) = true := by rw [bne_iff_ne]; omega
  have HG := Aside0.mk hg
  clear hr0 hg hl
  go_enter Try.func25, Try.ntmps25
  go_wp2_with fail
  refine (koineref25_Groups.calls k A0 c0 l0 gs 0 w HR.out hc0 HG.out).mono ?_
  rintro e w1 ⟨v0, rfl, hr1, hb1⟩
  obtain ⟨A, c, rfl, _, _⟩ := Kd.R_reads hr1
  have HB := Aside0.mk hb1
  clear hb1 hr1
  go_wp2_with fail
  go_ret2
  exact ⟨rfl, HB.out⟩

set_option maxHeartbeats 1000000 in
set_option maxRecDepth 100000 in
theorem rrender_good (A0 : Option Addr) (c0 : Nat) (l0 : List S42) (A1 : Option Addr) (c1 : Nat) (l1 : List Bool) (w : World) (k : Nat) (hr0 : Kd.C k42 w A0 l0.length l0) (hc0 : l0.length ≤ c0) (hr1 : Kd.C Kd.bool w A1 l1.length l1)
    (hg : koineref25_Groups.f k l0 = some (groupsL l0, 0)) (h : checkI l0 = 0) (hl : l1.length = (groupsI (rootT l0)).length) (r1 : ByteArray) (r2 : Int) (hro : renderO l0 l1 = some (r1, r2)) :
    Calls Try.prog 25 #[.slice A0 l0.length c0, .slice A1 l1.length c1] w (RenderPost r1 r2 w) := by
  obtain ⟨hp, hn, hv, _⟩ := check_valid h
  have hgl : (groupsL l0).length = (groupsI (rootT l0)).length := by simp [groupsL, rootT]
  have hgm : (groupsI (rootT l0)).length ≤ 65536 := groups_le h
  have hne : ((l1.length : Int) != ((groupsL l0).length : Int)) = false := by rw [bne_eq_false_iff_eq]; omega
  have hne2 : (l1.length != (groupsL l0).length) = false := by rw [bne_eq_false_iff_eq]; omega
  obtain ⟨st, hst, hres⟩ := renderO_some hro
  have HST := Aside0.mk hst
  have HRES := Aside0.mk hres
  have HR := Aside0.mk hr0
  have HR1 := Aside0.mk hr1
  have HG := Aside0.mk hg
  have HL := Aside0.mk hp
  have HCH := Aside0.mk (chAt_of l0 (groupsI (rootT l0)) l1 hl.symm hgm)
  have HV := Aside0.mk hv
  have HW := Aside0.mk (show wrap64 ((l0.length : Int) - 1) = ((l0.length - 1 : Nat) : Int) by rw [wrap64_small (by omega) (by omega)]; omega)
  clear hr0 h hgl hl hr1 hv hro hst hres hgm hg hp hn
  go_enter Try.func25, Try.ntmps25
  go_wp2_with fail
  refine (koineref25_Groups.calls k A0 c0 l0 (groupsL l0) 0 w HR.out hc0 HG.out).mono ?_
  rintro e w1 ⟨v0, rfl, hg1, hb1⟩
  obtain ⟨A, c, rfl, hcc, hcg⟩ := Kd.R_reads hg1
  have HB := Aside0.mk hb1
  have HN := Aside0.mk (IsS93.new w1 w1 A0 c0 A c A1 c1 l0 (groupsL l0) l1 ⟨#[]⟩ 0 0 false (Below.refl _ _) (Kd.C_below HR.out hb1) hcg (Kd.C_below HR1.out hb1))
  have HB0 := Aside0.mk (below_alloc (Below.refl w1.heap.size w1) (.cells #[.slice A0 l0.length c0, .slice A (groupsL l0).length c, .slice A1 l1.length c1, .string ⟨#[]⟩, .int .i64 0, .int .i64 0, .bool false] 93))
  clear hb1 hg1 hcg
  go_wp2_with fail
  rw [HW.out]
  refine (node_calls w1 w1.heap.size (chOf ((groupsI (rootT l0)).zip l1)) l0 (groupsL l0) l1 HV.out HCH.out (l0.length - 1) (by have := HL.out; omega) _ 0 false st0 st ⟨HN.out, HB0.out⟩ rfl HST.out).mono ?_
  rintro e W3 ⟨rfl, h3, hk3⟩
  have m6 := h3.1.c6
  have m3 := h3.1.c3
  have H3 := Aside0.mk h3
  have HB5 := Aside0.mk (below_then HB.out HB.out.size h3.2)
  clear h3 hk3
  cases hw : st.wrong with
  | true =>
    have HE := Aside0.mk (show r1 = ⟨#[]⟩ ∧ r2 = 1 by have := HRES.out; rw [hw] at this; exact this)
    rw [hw] at m6
    clear hw
    go_wp2_with fail
    go_ret2
    exact ⟨by rw [HE.out.1, HE.out.2]; rfl, HB5.out⟩
  | false =>
    have HE := Aside0.mk (show r1 = ⟨st.out.toArray⟩ ∧ r2 = 0 by have := HRES.out; rw [hw] at this; exact this)
    rw [hw] at m6
    clear hw
    go_wp2_with fail
    go_ret2
    exact ⟨by rw [HE.out.1, HE.out.2]; rfl, HB5.out⟩

theorem koineref25_Render.calls (A0 : Option Addr) (c0 : Nat) (l0 : List (S42)) (A1 : Option Addr) (c1 : Nat) (l1 : List Bool) (r1 : ByteArray) (r2 : Int) (w : World) (hr0 : Kd.C k42 w A0 l0.length l0) (hc0 : l0.length ≤ c0) (hr1 : Kd.C Kd.bool w A1 l1.length l1) (hc1 : l1.length ≤ c1) (h : koineref25_Render.f l0 l1 = some (r1, r2)) :
    Calls Try.prog 25 #[.slice A0 l0.length c0, .slice A1 l1.length c1] w fun e w' => e = .returned (.tuple #[.string r1, .int .i64 r2]) ∧ Below w.heap.size w w' := by
  unfold koineref25_Render.f at h
  split at h
  case isFalse => cases h
  case isTrue hs =>
    have hT : ∀ i, i < l0.length → (l0.getD i z42).f1.size ≤ 140737488355328 := fun i hi => by
      have := List.all_eq_true.1 hs (l0.getD i z42) (by simp [List.getD, hi])
      simpa using this
    have hg := Groups_eq l0 140737488355328 hT (Nat.le_refl _) (4 * 65536 + 140737488355328 + 5) (Nat.le_refl _)
    unfold document_Render.f at h
    unfold document_Groups.f at hg
    by_cases hc : checkI l0 = 0
    · rw [if_neg (by simpa using hc)] at h
      rw [if_pos hc] at hg
      by_cases hl : l1.length = (groupsI (rootT l0)).length
      · rw [if_neg (by simpa using hl)] at h
        exact rrender_good A0 c0 l0 A1 c1 l1 w _ hr0 hc0 hr1 hg hc hl r1 r2 h
      · rw [if_pos hl] at h
        simp only [Option.some.injEq, Prod.mk.injEq] at h
        obtain ⟨rfl, rfl⟩ := h
        have hgl : (groupsL l0).length = (groupsI (rootT l0)).length := by simp [groupsL, rootT]
        exact rrender_len A0 c0 l0 A1 l1.length c1 w _ (groupsL l0) hr0 hc0 hg (by omega)
    · rw [if_pos hc] at h
      rw [if_neg hc] at hg
      simp only [Option.some.injEq, Prod.mk.injEq] at h
      obtain ⟨rfl, rfl⟩ := h
      exact rrender_bad A0 c0 l0 A1 l1.length c1 w _ [] (checkI l0) hr0 hc0 hg hc

end Go.Proofs.Ythmmdmnbcecooaa.A

/-! A11 -/
namespace Go.Proofs.Ythmmdmnbcecooaa.A
open Go.RowKit Go.Proofs.YthmmdmnbcecooaaW.PrintWords Go.Proofs.YthmmdmnbcecooaaW.PrintLast Go.Proofs.YthmmdmnbcecooaaW.PrintMore
attribute [local go_sem] max2_int min2_int max_two min_two max_three min_three max_four min_four   -- for this text's walks alone
set_option linter.unusedVariables false
set_option linter.unusedSimpArgs false

/-! ### koineref25_Cost: function 28 -/
def koineref25_Cost.l0 : Nat → ByteArray → Int → Int → Int → Int → Int → Option (Int × Int)
  | 0, _, _, _, _, _, _ => none
  | k + 1, x0, x1, x6, x7, x231000, x231001 => if x7 < (x0.size : Int) then (if 0 ≤ x7 then (if (bt x0 x7) = 10 then (koineref25_Cost.l0 k x0 x1 0 (wrap64 (x7 + 1)) x231000 (wrap64 (x231001 + 1))) else (if (wrap64 (x6 + 1)) > x1 then (koineref25_Cost.l0 k x0 x1 (wrap64 (x6 + 1)) (wrap64 (x7 + 1)) (wrap64 (x231000 + 1)) x231001) else (koineref25_Cost.l0 k x0 x1 (wrap64 (x6 + 1)) (wrap64 (x7 + 1)) x231000 x231001))) else (none)) else (some (x231000, x231001))
def koineref25_Cost.f (k : Nat) (a0 : ByteArray) (a1 : Int) : Option (Int × Int) := koineref25_Cost.l0 k a0 a1 0 0 0 0
theorem koineref25_Cost.mono_l : ∀ k, (∀ y0 y1 y2 y3 y4 y5, LeO (koineref25_Cost.l0 k y0 y1 y2 y3 y4 y5) (koineref25_Cost.l0 (k + 1) y0 y1 y2 y3 y4 y5))
  | 0 => fun _ _ _ _ _ _ r h => by simp [koineref25_Cost.l0] at h
  | k + 1 => by
    have ih0 := koineref25_Cost.mono_l k
    · intro y0 y1 y2 y3 y4 y5
      unfold koineref25_Cost.l0
      repeat' first
      | (with_reducible exact ih0 _ _ _ _ _ _)
      | (with_reducible exact LeO.refl _)
      | (with_reducible exact LeO.none _)
      | (with_reducible refine LeO.ite ?_ ?_)
      | (with_reducible refine LeO.bind ?_ (fun _ => ?_))
      | exact ih0 _ _ _ _ _ _
      | exact LeO.none _
      | refine LeO.ite ?_ ?_
      | refine LeO.bind ?_ (fun _ => ?_)
theorem koineref25_Cost.mono : ∀ a0 a1 k, LeO (koineref25_Cost.f k a0 a1) (koineref25_Cost.f (k + 1) a0 a1) := by
  intro a0 a1 k
  have ih0 := koineref25_Cost.mono_l k
  unfold koineref25_Cost.f
  repeat' first
      | (with_reducible exact ih0 _ _ _ _ _ _)
      | (with_reducible exact LeO.refl _)
      | (with_reducible exact LeO.none _)
      | (with_reducible refine LeO.ite ?_ ?_)
      | (with_reducible refine LeO.bind ?_ (fun _ => ?_))
      | exact ih0 _ _ _ _ _ _
      | exact LeO.none _
      | refine LeO.ite ?_ ?_
      | refine LeO.bind ?_ (fun _ => ?_)
set_option maxHeartbeats 8000000 in
set_option maxRecDepth 100000 in
theorem koineref25_Cost.calls (k : Nat) (a0 : ByteArray) (a1 : Int) (r1 : Int) (r2 : Int) (w : World) (h : koineref25_Cost.f k a0 a1 = some (r1, r2)) :
    Calls Try.prog 28 #[.string a0, .int .i64 a1] w fun e w' => e = .returned (.agg #[.int .i64 r1, .int .i64 r2]) ∧ Below w.heap.size w w' := by
  have hu36 := Try.underlying36
  have HB := Aside0.mk (Below.refl w.heap.size w)
  have H : (koineref25_Cost.l0 k a0 a1 0 0 0 0) = some (r1, r2) := h
  clear h
  have H' := Aside0.mk H
  clear H
  go_enter Try.func28, Try.ntmps28
  go_wp2_with (first | ((with_reducible refine gate_dst (N := 4) rfl ?_); refine box_event ?hg (N := 4) ?hd (cs := #[.int .i64 0, .int .i64 0]) (t := 36) ?hr ?_; (case hd => rfl); (case hg => rfl); (case hr => first | (go_simp; done) | (go_simp; rfl)); intro gb229 hg w3 hbox hb; have n0_ := Aside0.mk (below_step (by repeat (first | (with_reducible first | exact HB.out | apply below_alloc | apply pw_below_drewN | apply below_drew1) | exact HB.out)) hb); have n1_ := Aside0.mk (hbox); have n2_ := Aside0.mk ((by rw [hg]; exact (below_size (by repeat (first | (with_reducible first | exact HB.out | apply below_alloc | apply pw_below_drewN | apply below_drew1) | exact HB.out))) : w.heap.size ≤ gb229)); have n3_ := Aside0.mk ((by rw [hg]; exact (below_size (by repeat (first | (with_reducible first | exact HB.out | apply below_alloc | apply pw_below_drewN | apply below_drew1) | exact HB.out))) : w.heap.size ≤ gb229)); clear HB; have HB := n0_; have BK229 := n1_; have GW229 := n2_; have GE229 := n3_; clear n0_ n1_ n2_ n3_; clear hb hbox hg) | ((with_reducible refine gate_dst (N := 5) rfl ?_); refine box_event ?hg (N := 5) ?hd (cs := #[.int .i64 0, .int .i64 0]) (t := 36) ?hr ?_; (case hd => rfl); (case hg => rfl); (case hr => first | (go_simp; done) | (go_simp; rfl)); intro gb230 hg w4 hbox hb; have n0_ := Aside0.mk (blk_below (g := gb229) (o := .cells #[.int .i64 0, .int .i64 0] 36 (0, 0)) (by (with_reducible repeat (first | refine blk_drewN ?_ _ | refine blk_drew ?_ | refine blk_alloc ?_ _)); exact BK229.out) hb); have n1_ := Aside0.mk (below_step (by repeat (first | (with_reducible first | exact HB.out | apply below_alloc | apply pw_below_drewN | apply below_drew1 | refine below_set ?_ GE229.out) | exact HB.out)) hb); have n2_ := Aside0.mk (hbox); have n3_ := Aside0.mk ((by rw [hg]; exact (below_size (by repeat (first | (with_reducible first | exact HB.out | apply below_alloc | apply pw_below_drewN | apply below_drew1 | refine below_set ?_ GE229.out) | exact HB.out))) : w.heap.size ≤ gb230)); have n4_ := Aside0.mk ((by rw [hg]; exact (below_size (by repeat (first | (with_reducible first | exact HB.out | apply below_alloc | apply pw_below_drewN | apply below_drew1 | refine below_set ?_ GE229.out) | exact HB.out))) : w.heap.size ≤ gb230)); have n5_ := Aside0.mk ((by rw [hg]; exact Nat.ne_of_lt (blk_lt (g := gb229) (o := .cells #[.int .i64 0, .int .i64 0] 36 (0, 0)) (by (with_reducible repeat (first | refine blk_drewN ?_ _ | refine blk_drew ?_ | refine blk_alloc ?_ _)); exact BK229.out)) : gb229 ≠ gb230)); have n6_ := Aside0.mk ((by rw [hg]; exact Nat.ne_of_gt (blk_lt (g := gb229) (o := .cells #[.int .i64 0, .int .i64 0] 36 (0, 0)) (by (with_reducible repeat (first | refine blk_drewN ?_ _ | refine blk_drew ?_ | refine blk_alloc ?_ _)); exact BK229.out)) : gb230 ≠ gb229)); clear BK229; clear HB; have BK229 := n0_; have HB := n1_; have BK230 := n2_; have GW230 := n3_; have GE230 := n4_; have NB229_230 := n5_; have NB230_229 := n6_; clear n0_ n1_ n2_ n3_ n4_ n5_ n6_; clear hb hbox hg; have hnb5 := NB230_229.out; have hnc5 := NB229_230.out; have hcz6_0 : w4.cell? ⟨gb230, 0, none⟩ = some (.int .i64 0) := (blk_cell BK230.out 0).trans rfl; have hcz6_1 : w4.cell? ⟨gb230, 1, none⟩ = some (.int .i64 0) := (blk_cell BK230.out 1).trans rfl; have hfz6_0 := blk_frozen BK230.out 0; have hfz6_1 := blk_frozen BK230.out 1))
  go_loopg [6, 7] k (fun kq v6 v7 w' => ∃ (x6_1 : Int) (x7_1 : Int) (x231000_1 : Int) (x231001_1 : Int), v6 = .int .i64 x6_1 ∧ v7 = .int .i64 x7_1 ∧ Aside0 (koineref25_Cost.l0 kq a0 a1 x6_1 x7_1 x231000_1 x231001_1 = some (r1, r2)) ∧ Aside0 (kq ≤ k) ∧ Aside0 (w'.heap[gb229]? = some (.cells #[.int .i64 0, .int .i64 0] 36 (0, 0))) ∧ Aside0 (w'.heap[gb230]? = some (.cells #[.int .i64 x231000_1, .int .i64 x231001_1] 36 (0, 0))) ∧ Aside0 (Below w.heap.size w w'))
  case atStart => exact ⟨(0), (0), (0), (0), (by first | rfl | (simp; done) | (simp [*]; done)), (by first | rfl | (simp; done) | (simp [*]; done)), H', ⟨Nat.le_refl _⟩, ⟨by (with_reducible repeat (first | refine blk_drewN ?_ _ | refine blk_drew ?_ | refine blk_alloc ?_ _)); refine blk_far ?_ NB229_230.out _; (with_reducible repeat (first | refine blk_drewN ?_ _ | refine blk_drew ?_ | refine blk_alloc ?_ _)); refine blk_far ?_ NB229_230.out _; (with_reducible repeat (first | refine blk_drewN ?_ _ | refine blk_drew ?_ | refine blk_alloc ?_ _)); exact BK229.out⟩, ⟨by (with_reducible repeat (first | refine blk_drewN ?_ _ | refine blk_drew ?_ | refine blk_alloc ?_ _)); refine blk_put (cs := #[.int .i64 0, .int .i64 0]) ?_ 1 _ rfl; (with_reducible repeat (first | refine blk_drewN ?_ _ | refine blk_drew ?_ | refine blk_alloc ?_ _)); refine blk_put (cs := #[.int .i64 0, .int .i64 0]) ?_ 0 _ rfl; (with_reducible repeat (first | refine blk_drewN ?_ _ | refine blk_drew ?_ | refine blk_alloc ?_ _)); exact BK230.out⟩, ⟨by repeat (first | (with_reducible first | exact HB.out | apply below_alloc | apply pw_below_drewN | apply below_drew1 | refine below_set ?_ GE229.out | refine below_set ?_ GE230.out) | exact HB.out)⟩⟩
  case round =>
    clear H'
    try clear c2
    try clear p2
    try clear c5
    try clear hcz6_0
    try clear hcz6_1
    try clear hfz6_0
    try clear hfz6_1
    obtain ⟨x6_1, x7_1, x231000_1, x231001_1, rfl, rfl, HA, HK1, BK229, BK230, HB⟩ := hrel
    cases gk with
    | zero => exact absurd HA.out (by simp [koineref25_Cost.l0])
    | succ k1 =>
      have H := HA.out
      clear HA
      simp only [koineref25_Cost.l0] at H
      by_cases c7 : x7_1 < (a0.size : Int)
      · rw [if_pos c7] at H
        have c7b0 : decide (x7_1 < (a0.size : Int)) = true := decide_eq_true c7
        clear c7
        by_cases c8 : 0 ≤ x7_1
        · rw [if_pos c8] at H
          have c8b0 : decide (0 ≤ x7_1) = true := decide_eq_true c8
          clear c8
          by_cases c10 : (bt a0 x7_1) = 10
          · rw [if_pos c10] at H
            have c10b0 : ((bt a0 x7_1) == 10) = true := beq_iff_eq.mpr c10
            have c10b1 : ((bt a0 x7_1) != 10) = false := bne_eq_false_iff_eq.mpr c10
            clear c10
            have H' := Aside0.mk H
            clear H
            have p9 : 0 ≤ (x7_1 : Int) := of_decide_eq_true (by first | (with_reducible assumption) | assumption)
            have q9 : x7_1 < (a0.size : Int) := of_decide_eq_true (by first | (with_reducible assumption) | assumption)
            have hx9 := bt_at a0 x7_1
            replace p9 := eq_true p9
            replace q9 := eq_true q9
            have hnb11 := NB230_229.out
            have hnc11 := NB229_230.out
            have hcz12_0 : wr.cell? ⟨gb230, 0, none⟩ = some (.int .i64 x231000_1) := (blk_cell BK230.out 0).trans rfl
            have hcz12_1 : wr.cell? ⟨gb230, 1, none⟩ = some (.int .i64 x231001_1) := (blk_cell BK230.out 1).trans rfl
            have hfz12_0 := blk_frozen BK230.out 0
            have hfz12_1 := blk_frozen BK230.out 1
            go_wp2
            go_roundg k1
            case measure => have := HK1.out; omega
            case rel => exact ⟨(0), (wrap64 (x7_1 + 1)), (x231000_1), (wrap64 (x231001_1 + 1)), (by first | rfl | (simp; done) | (simp [*]; done)), (by first | rfl | (simp; done) | (simp [*]; done)), H', ⟨by have := HK1.out; omega⟩, ⟨by (with_reducible repeat (first | refine blk_drewN ?_ _ | refine blk_drew ?_ | refine blk_alloc ?_ _)); refine blk_far ?_ NB229_230.out _; (with_reducible repeat (first | refine blk_drewN ?_ _ | refine blk_drew ?_ | refine blk_alloc ?_ _)); exact BK229.out⟩, ⟨by (with_reducible repeat (first | refine blk_drewN ?_ _ | refine blk_drew ?_ | refine blk_alloc ?_ _)); refine blk_put (cs := #[.int .i64 x231000_1, .int .i64 x231001_1]) ?_ 1 _ rfl; (with_reducible repeat (first | refine blk_drewN ?_ _ | refine blk_drew ?_ | refine blk_alloc ?_ _)); exact BK230.out⟩, ⟨by repeat (first | (with_reducible first | exact HB.out | apply below_alloc | apply pw_below_drewN | apply below_drew1 | refine below_set ?_ GE229.out | refine below_set ?_ GE230.out) | exact HB.out)⟩⟩
          · rw [if_neg c10] at H
            have c10b0 : ((bt a0 x7_1) == 10) = false := beq_eq_false_iff_ne.mpr c10
            have c10b1 : ((bt a0 x7_1) != 10) = true := bne_iff_ne.mpr c10
            by_cases c13 : (wrap64 (x6_1 + 1)) > a1
            · rw [if_pos c13] at H
              have c13b0 : decide (a1 < (wrap64 (x6_1 + 1))) = true := decide_eq_true c13
              clear c13
              have H' := Aside0.mk H
              clear H
              have p9 : 0 ≤ (x7_1 : Int) := of_decide_eq_true (by first | (with_reducible assumption) | assumption)
              have q9 : x7_1 < (a0.size : Int) := of_decide_eq_true (by first | (with_reducible assumption) | assumption)
              have hx9 := bt_at a0 x7_1
              replace p9 := eq_true p9
              replace q9 := eq_true q9
              have hnb14 := NB230_229.out
              have hnc14 := NB229_230.out
              have hcz15_0 : wr.cell? ⟨gb230, 0, none⟩ = some (.int .i64 x231000_1) := (blk_cell BK230.out 0).trans rfl
              have hcz15_1 : wr.cell? ⟨gb230, 1, none⟩ = some (.int .i64 x231001_1) := (blk_cell BK230.out 1).trans rfl
              have hfz15_0 := blk_frozen BK230.out 0
              have hfz15_1 := blk_frozen BK230.out 1
              go_wp2
              go_roundg k1
              case measure => have := HK1.out; omega
              case rel => exact ⟨(wrap64 (x6_1 + 1)), (wrap64 (x7_1 + 1)), (wrap64 (x231000_1 + 1)), (x231001_1), (by first | rfl | (simp; done) | (simp [*]; done)), (by first | rfl | (simp; done) | (simp [*]; done)), H', ⟨by have := HK1.out; omega⟩, ⟨by (with_reducible repeat (first | refine blk_drewN ?_ _ | refine blk_drew ?_ | refine blk_alloc ?_ _)); refine blk_far ?_ NB229_230.out _; (with_reducible repeat (first | refine blk_drewN ?_ _ | refine blk_drew ?_ | refine blk_alloc ?_ _)); exact BK229.out⟩, ⟨by (with_reducible repeat (first | refine blk_drewN ?_ _ | refine blk_drew ?_ | refine blk_alloc ?_ _)); refine blk_put (cs := #[.int .i64 x231000_1, .int .i64 x231001_1]) ?_ 0 _ rfl; (with_reducible repeat (first | refine blk_drewN ?_ _ | refine blk_drew ?_ | refine blk_alloc ?_ _)); exact BK230.out⟩, ⟨by repeat (first | (with_reducible first | exact HB.out | apply below_alloc | apply pw_below_drewN | apply below_drew1 | refine below_set ?_ GE229.out | refine below_set ?_ GE230.out) | exact HB.out)⟩⟩
            · rw [if_neg c13] at H
              have c13b0 : decide (a1 < (wrap64 (x6_1 + 1))) = false := decide_eq_false c13
              clear c13
              have H' := Aside0.mk H
              clear H
              have p9 : 0 ≤ (x7_1 : Int) := of_decide_eq_true (by first | (with_reducible assumption) | assumption)
              have q9 : x7_1 < (a0.size : Int) := of_decide_eq_true (by first | (with_reducible assumption) | assumption)
              have hx9 := bt_at a0 x7_1
              replace p9 := eq_true p9
              replace q9 := eq_true q9
              go_wp2
              go_roundg k1
              case measure => have := HK1.out; omega
              case rel => exact ⟨(wrap64 (x6_1 + 1)), (wrap64 (x7_1 + 1)), (x231000_1), (x231001_1), (by first | rfl | (simp; done) | (simp [*]; done)), (by first | rfl | (simp; done) | (simp [*]; done)), H', ⟨by have := HK1.out; omega⟩, ⟨by (with_reducible repeat (first | refine blk_drewN ?_ _ | refine blk_drew ?_ | refine blk_alloc ?_ _)); exact BK229.out⟩, ⟨by (with_reducible repeat (first | refine blk_drewN ?_ _ | refine blk_drew ?_ | refine blk_alloc ?_ _)); exact BK230.out⟩, ⟨by repeat (first | (with_reducible first | exact HB.out | apply below_alloc | apply pw_below_drewN | apply below_drew1 | refine below_set ?_ GE229.out | refine below_set ?_ GE230.out) | exact HB.out)⟩⟩
        · rw [if_neg c8] at H
          exact absurd H (by simp)
      · rw [if_neg c7] at H
        have c7b0 : decide (x7_1 < (a0.size : Int)) = false := decide_eq_false c7
        clear c7
        simp only [Option.some.injEq, Prod.mk.injEq] at H
        obtain ⟨rfl, rfl⟩ := H
        have hnb16 := NB230_229.out
        have hnc16 := NB229_230.out
        have hcz17_0 : wr.cell? ⟨gb230, 0, none⟩ = some (.int .i64 x231000_1) := (blk_cell BK230.out 0).trans rfl
        have hcz17_1 : wr.cell? ⟨gb230, 1, none⟩ = some (.int .i64 x231001_1) := (blk_cell BK230.out 1).trans rfl
        have hfz17_0 := blk_frozen BK230.out 0
        have hfz17_1 := blk_frozen BK230.out 1
        have hcz18_0 : wr.cell? ⟨gb229, 0, none⟩ = some (.int .i64 0) := (blk_cell BK229.out 0).trans rfl
        have hcz18_1 : wr.cell? ⟨gb229, 1, none⟩ = some (.int .i64 0) := (blk_cell BK229.out 1).trans rfl
        have hfz18_0 := blk_frozen BK229.out 0
        have hfz18_1 := blk_frozen BK229.out 1
        go_wp2
        refine bodyPost_ret (results_cell_row rfl _ _ gb229 36 #[.int .i64 x231000_1, .int .i64 x231001_1] (0, 0) _ rfl (by (with_reducible repeat (first | refine blk_drewN ?_ _ | refine blk_drew ?_ | refine blk_alloc ?_ _)); refine blk_put (cs := #[.int .i64 x231000_1, .int .i64 0]) ?_ 1 _ rfl; (with_reducible repeat (first | refine blk_drewN ?_ _ | refine blk_drew ?_ | refine blk_alloc ?_ _)); refine blk_put (cs := #[.int .i64 0, .int .i64 0]) ?_ 0 _ rfl; (with_reducible repeat (first | refine blk_drewN ?_ _ | refine blk_drew ?_ | refine blk_alloc ?_ _)); exact BK229.out) Try.underlying36 rfl (by kernel_rfl)) rfl ?_
        exact ⟨by first | rfl | (simp [errW_none, errW_some] <;> rfl) | (simp [*, errW_none, errW_some] <;> rfl), by repeat (first | (with_reducible first | exact HB.out | apply below_alloc | apply pw_below_drewN | apply below_drew1 | refine below_set ?_ GE229.out | refine below_set ?_ GE230.out) | exact HB.out)⟩

end Go.Proofs.Ythmmdmnbcecooaa.A

/-! A12 -/
namespace Go.Proofs.Ythmmdmnbcecooaa.A
open Go.RowKit Go.Proofs.YthmmdmnbcecooaaW.PrintWords Go.Proofs.YthmmdmnbcecooaaW.PrintLast Go.Proofs.YthmmdmnbcecooaaW.PrintMore
attribute [local go_sem] max2_int min2_int max_two min_two max_three min_three max_four min_four   -- for this text's walks alone
set_option linter.unusedVariables false
set_option linter.unusedSimpArgs false

/-! ### koinelaw25_same: function 29 -/
def koinelaw25_same.l0 : Nat → List Int → List Int → Int → Option (Bool)
  | 0, _, _, _ => none
  | k + 1, x0, x1, x5 => if x5 < (x0.length : Int) then (if 0 ≤ x5 then (if x5 < (x1.length : Int) then (if (rd x0 x5) = (rd x1 x5) then (koinelaw25_same.l0 k x0 x1 (wrap64 (x5 + 1))) else (some false)) else (none)) else (none)) else (some true)
def koinelaw25_same.f (k : Nat) (l0 : List Int) (l1 : List Int) : Option (Bool) := if (l0.length : Int) = (l1.length : Int) then (koinelaw25_same.l0 k l0 l1 0) else (some false)
theorem koinelaw25_same.mono_l : ∀ k, (∀ y0 y1 y2, LeO (koinelaw25_same.l0 k y0 y1 y2) (koinelaw25_same.l0 (k + 1) y0 y1 y2))
  | 0 => fun _ _ _ r h => by simp [koinelaw25_same.l0] at h
  | k + 1 => by
    have ih0 := koinelaw25_same.mono_l k
    · intro y0 y1 y2
      unfold koinelaw25_same.l0
      repeat' first
      | (with_reducible exact ih0 _ _ _)
      | (with_reducible exact LeO.refl _)
      | (with_reducible exact LeO.none _)
      | (with_reducible refine LeO.ite ?_ ?_)
      | (with_reducible refine LeO.bind ?_ (fun _ => ?_))
      | exact ih0 _ _ _
      | exact LeO.none _
      | refine LeO.ite ?_ ?_
      | refine LeO.bind ?_ (fun _ => ?_)
theorem koinelaw25_same.mono : ∀ a0 a1 k, LeO (koinelaw25_same.f k a0 a1) (koinelaw25_same.f (k + 1) a0 a1) := by
  intro a0 a1 k
  have ih0 := koinelaw25_same.mono_l k
  unfold koinelaw25_same.f
  repeat' first
      | (with_reducible exact ih0 _ _ _)
      | (with_reducible exact LeO.refl _)
      | (with_reducible exact LeO.none _)
      | (with_reducible refine LeO.ite ?_ ?_)
      | (with_reducible refine LeO.bind ?_ (fun _ => ?_))
      | exact ih0 _ _ _
      | exact LeO.none _
      | refine LeO.ite ?_ ?_
      | refine LeO.bind ?_ (fun _ => ?_)
set_option maxHeartbeats 8000000 in
set_option maxRecDepth 100000 in
theorem koinelaw25_same.calls (k : Nat) (A0 : Option Addr) (c0 : Nat) (l0 : List Int) (A1 : Option Addr) (c1 : Nat) (l1 : List Int) (r : Bool) (w : World) (hr0 : Kd.C (Kd.int .i64) w A0 l0.length l0) (hc0 : l0.length ≤ c0) (hr1 : Kd.C (Kd.int .i64) w A1 l1.length l1) (hc1 : l1.length ≤ c1) (h : koinelaw25_same.f k l0 l1 = some r) :
    Calls Try.prog 29 #[.slice A0 l0.length c0, .slice A1 l1.length c1] w fun e w' => e = .returned (.bool r) ∧ Drawn0 w w' := by
  have HR0 := Aside0.mk hr0
  have HC0 := Aside0.mk hc0
  clear hr0 hc0
  have HR1 := Aside0.mk hr1
  have HC1 := Aside0.mk hc1
  clear hr1 hc1
  have H : (if (l0.length : Int) = (l1.length : Int) then (koinelaw25_same.l0 k l0 l1 0) else (some false)) = some r := h
  clear h
  by_cases c3 : (l0.length : Int) = (l1.length : Int)
  · rw [if_pos c3] at H
    have c3b0 : ((l0.length : Int) == (l1.length : Int)) = true := beq_iff_eq.mpr c3
    have c3b1 : ((l0.length : Int) != (l1.length : Int)) = false := bne_eq_false_iff_eq.mpr c3
    have c3b2 : (l0.length == l1.length) = true := by first | simpa using c3 | (simp at c3 ⊢; omega)
    clear c3
    have H' := Aside0.mk H
    clear H
    go_enter Try.func29, Try.ntmps29
    go_wp2
    repeat (go_quiet (fail); try go_wp2)
    go_loopg [5] k (fun kq v5 w' => ∃ (x5_1 : Int), v5 = .int .i64 x5_1 ∧ Aside0 (koinelaw25_same.l0 kq l0 l1 x5_1 = some r) ∧ Aside0 (kq ≤ k) ∧ Drawn0 w w')
    case atStart => exact ⟨(0), (by first | rfl | (simp; done) | (simp [*]; done)), H', ⟨Nat.le_refl _⟩, by repeat (first | exact Drawn0.refl _ | apply Drawn0.step)⟩
    case round =>
      clear H'
      try clear c1
      try clear c2
      try clear p2
      try clear c3
      try clear c3b0
      try clear c3b1
      try clear c3b2
      obtain ⟨x5_1, rfl, HA, HK1, ⟨m1, rfl⟩⟩ := hrel
      cases gk with
      | zero => exact absurd HA.out (by simp [koinelaw25_same.l0])
      | succ k1 =>
        have H := HA.out
        clear HA
        simp only [koinelaw25_same.l0] at H
        by_cases c4 : x5_1 < (l0.length : Int)
        · rw [if_pos c4] at H
          have c4b0 : decide (x5_1 < (l0.length : Int)) = true := decide_eq_true c4
          clear c4
          by_cases c5 : 0 ≤ x5_1
          · rw [if_pos c5] at H
            have c5b0 : decide (0 ≤ x5_1) = true := decide_eq_true c5
            clear c5
            by_cases c6 : x5_1 < (l1.length : Int)
            · rw [if_pos c6] at H
              have c6b0 : decide (x5_1 < (l1.length : Int)) = true := decide_eq_true c6
              clear c6
              by_cases c7 : (rd l0 x5_1) = (rd l1 x5_1)
              · rw [if_pos c7] at H
                have c7b0 : ((rd l0 x5_1) == (rd l1 x5_1)) = true := beq_iff_eq.mpr c7
                have c7b1 : ((rd l0 x5_1) != (rd l1 x5_1)) = false := bne_eq_false_iff_eq.mpr c7
                clear c7
                have H' := Aside0.mk H
                clear H
                have p231 : 0 ≤ (x5_1 : Int) := of_decide_eq_true (by first | (with_reducible assumption) | assumption)
                have q231 : x5_1 < (l0.length : Int) := of_decide_eq_true (by first | (with_reducible assumption) | assumption)
                obtain ⟨ad231, e231, hx231_0⟩ := Kd.at_int HR0.out x5_1 p231 q231
                cases e231
                replace p231 := eq_true p231
                replace q231 := eq_true q231
                have p232 : 0 ≤ (x5_1 : Int) := of_decide_eq_true (by first | (with_reducible assumption) | assumption)
                have q232 : x5_1 < (l1.length : Int) := of_decide_eq_true (by first | (with_reducible assumption) | assumption)
                obtain ⟨ad232, e232, hx232_0⟩ := Kd.at_int HR1.out x5_1 p232 q232
                cases e232
                replace p232 := eq_true p232
                replace q232 := eq_true q232
                go_wp2
                repeat (go_quiet (fail); try go_wp2)
                go_roundg k1
                case measure => have := HK1.out; omega
                case rel => exact ⟨(wrap64 (x5_1 + 1)), (by first | rfl | (simp; done) | (simp [*]; done)), H', ⟨by have := HK1.out; omega⟩, by repeat (first | exact Drawn0.refl _ | apply Drawn0.step)⟩
              · rw [if_neg c7] at H
                have c7b0 : ((rd l0 x5_1) == (rd l1 x5_1)) = false := beq_eq_false_iff_ne.mpr c7
                have c7b1 : ((rd l0 x5_1) != (rd l1 x5_1)) = true := bne_iff_ne.mpr c7
                obtain rfl := Option.some.inj H
                have p231 : 0 ≤ (x5_1 : Int) := of_decide_eq_true (by first | (with_reducible assumption) | assumption)
                have q231 : x5_1 < (l0.length : Int) := of_decide_eq_true (by first | (with_reducible assumption) | assumption)
                obtain ⟨ad231, e231, hx231_0⟩ := Kd.at_int HR0.out x5_1 p231 q231
                cases e231
                replace p231 := eq_true p231
                replace q231 := eq_true q231
                have p232 : 0 ≤ (x5_1 : Int) := of_decide_eq_true (by first | (with_reducible assumption) | assumption)
                have q232 : x5_1 < (l1.length : Int) := of_decide_eq_true (by first | (with_reducible assumption) | assumption)
                obtain ⟨ad232, e232, hx232_0⟩ := Kd.at_int HR1.out x5_1 p232 q232
                cases e232
                replace p232 := eq_true p232
                replace q232 := eq_true q232
                go_wp2
                repeat (go_quiet (fail); try go_wp2)
                go_ret
                exact ⟨by first | rfl | (simp; done) | (simp [*]; done), by repeat (first | exact Drawn0.refl _ | apply Drawn0.step)⟩
            · rw [if_neg c6] at H
              exact absurd H (by simp)
          · rw [if_neg c5] at H
            exact absurd H (by simp)
        · rw [if_neg c4] at H
          have c4b0 : decide (x5_1 < (l0.length : Int)) = false := decide_eq_false c4
          clear c4
          obtain rfl := Option.some.inj H
          go_wp2
          repeat (go_quiet (fail); try go_wp2)
          go_ret
          exact ⟨by first | rfl | (simp; done) | (simp [*]; done), by repeat (first | exact Drawn0.refl _ | apply Drawn0.step)⟩
  · rw [if_neg c3] at H
    have c3b0 : ((l0.length : Int) == (l1.length : Int)) = false := beq_eq_false_iff_ne.mpr c3
    have c3b1 : ((l0.length : Int) != (l1.length : Int)) = true := bne_iff_ne.mpr c3
    have c3b2 : (l0.length == l1.length) = false := by first | simpa using c3 | (simp at c3 ⊢; omega)
    obtain rfl := Option.some.inj H
    go_enter Try.func29, Try.ntmps29
    go_wp2
    repeat (go_quiet (fail); try go_wp2)
    go_ret
    exact ⟨by first | rfl | (simp; done) | (simp [*]; done), by repeat (first | exact Drawn0.refl _ | apply Drawn0.step)⟩

end Go.Proofs.Ythmmdmnbcecooaa.A

/-! Q11 -/
namespace Go.Proofs.Ythmmdmnbcecooaa.A
open Go.RowKit Go.Proofs.YthmmdmnbcecooaaW.PrintWords Go.Proofs.YthmmdmnbcecooaaW.PrintLast Go.Proofs.YthmmdmnbcecooaaW.PrintMore
set_option linter.unusedVariables false
set_option linter.unusedSimpArgs false

theorem u8_ten (c : UInt8) : (c.toNat : Int) = 10 ↔ c = 10 := by
  constructor
  · intro e
    apply UInt8.toNat_inj.1
    have : c.toNat = 10 := by omega
    rw [this]; rfl
  · rintro rfl; rfl

theorem cost_loop (s : ByteArray) (w : Int) (hs : s.size ≤ 1000000000000) : ∀ (d j k : Nat) (n B L : Int), j + d = s.size → d < k → 0 ≤ n → n ≤ j → 0 ≤ B → B ≤ j → 0 ≤ L → L ≤ j →
    koineref25_Cost.l0 k s w n j B L = some (B + (costGo (mx w 0) (s.data.toList.drop j) n).1 - mx 0 (n - mx w 0), L + (costGo (mx w 0) (s.data.toList.drop j) n).2)
  | 0, j, k, n, B, L, hj, hk, _, _, _, _, _, _ => by
    obtain ⟨k, rfl⟩ : ∃ m, k = m + 1 := ⟨k - 1, by omega⟩
    have hlen := data_length s
    rw [koineref25_Cost.l0, if_neg (by omega), List.drop_eq_nil_of_le (by omega)]
    simp only [costGo]
    rw [show B + mx 0 (n - mx w 0) - mx 0 (n - mx w 0) = B by omega, Int.add_zero]
  | d + 1, j, k, n, B, L, hj, hk, h1, h2, h3, h4, h5, h6 => by
    obtain ⟨k, rfl⟩ : ∃ m, k = m + 1 := ⟨k - 1, by omega⟩
    have hlen := data_length s
    have hlt : j < s.data.toList.length := by omega
    have hwj : wrap64 ((j : Int) + 1) = ((j + 1 : Nat) : Int) := by rw [wrap64_small (by omega) (by omega)]; omega
    rw [koineref25_Cost.l0, if_pos (by omega), if_pos (by omega), bt_get s j hlt, hwj, List.drop_eq_getElem_cons hlt, wrap64_small (x := n + 1) (by omega) (by omega), wrap64_small (x := L + 1) (by omega) (by omega), wrap64_small (x := B + 1) (by omega) (by omega)]
    generalize s.data.toList[j] = c
    simp only [costGo, u8_ten]
    by_cases hc : c = 10
    · rw [if_pos hc, if_pos hc, cost_loop s w hs d (j + 1) k 0 B (L + 1) (by omega) (by omega) (by omega) (by omega) (by omega) (by omega) (by omega) (by omega)]
      congr 1
      simp only [Prod.mk.injEq]
      refine ⟨?_, by omega⟩
      unfold mx; split <;> split <;> split <;> omega
    · rw [if_neg hc, if_neg hc]
      by_cases hw : n + 1 > w
      · rw [if_pos hw, cost_loop s w hs d (j + 1) k (n + 1) (B + 1) L (by omega) (by omega) (by omega) (by omega) (by omega) (by omega) (by omega) (by omega)]
        congr 1
        simp only [Prod.mk.injEq]
        refine ⟨?_, trivial⟩
        have : mx 0 (n + 1 - mx w 0) = mx 0 (n - mx w 0) + 1 := by
          unfold mx; split <;> split <;> split <;> omega
        omega
      · rw [if_neg hw, cost_loop s w hs d (j + 1) k (n + 1) B L (by omega) (by omega) (by omega) (by omega) (by omega) (by omega) (by omega) (by omega)]
        congr 1
        simp only [Prod.mk.injEq]
        refine ⟨?_, trivial⟩
        have : mx 0 (n + 1 - mx w 0) = mx 0 (n - mx w 0) := by
          unfold mx; split <;> split <;> split <;> omega
        omega

theorem refcost_f (s : ByteArray) (w : Int) (hs : s.size ≤ 1000000000000) {k : Nat} (hk : s.size < k) : koineref25_Cost.f k s w = some (costGo (mx w 0) s.data.toList 0) := by
  have := cost_loop s w hs s.size 0 k 0 0 0 (by omega) hk (by omega) (by omega) (by omega) (by omega) (by omega) (by omega)
  unfold koineref25_Cost.f
  rw [show ((0 : Nat) : Int) = 0 from rfl] at this
  rw [this, List.drop_zero]
  have hm : mx 0 (0 - mx w 0) = 0 := by unfold mx; split <;> split <;> omega
  rw [hm]
  simp
theorem cost_f (s : ByteArray) (w : Int) (hs : s.size ≤ 1000000000000) (hw : w ≤ 9223372036854775807) : document_Cost.f s w = some (costGo (mx w 0) s.data.toList 0) := by
  unfold document_Cost.f
  rw [if_pos ⟨by omega, hw⟩]

theorem same_loop (l : List Int) (hl : l.length ≤ 1000000) : ∀ (d j k : Nat), j + d = l.length → d < k → koinelaw25_same.l0 k l l j = some true
  | 0, j, k, hj, hk => by
    obtain ⟨k, rfl⟩ : ∃ m, k = m + 1 := ⟨k - 1, by omega⟩
    rw [koinelaw25_same.l0, if_neg (by omega)]
  | d + 1, j, k, hj, hk => by
    obtain ⟨k, rfl⟩ : ∃ m, k = m + 1 := ⟨k - 1, by omega⟩
    rw [koinelaw25_same.l0, if_pos (by omega), if_pos (by omega), if_pos (by omega), if_pos rfl, wrap64_small (by omega) (by omega), show (j : Int) + 1 = ((j + 1 : Nat) : Int) by omega]
    exact same_loop l hl d (j + 1) k (by omega) (by omega)
theorem same_f (l : List Int) (hl : l.length ≤ 1000000) {k : Nat} (hk : l.length < k) : koinelaw25_same.f k l l = some true := by
  unfold koinelaw25_same.f
  rw [if_pos rfl]
  exact same_loop l hl l.length 0 k (by omega) hk

theorem refrender_f {T : Nat} {l : List S42} (h : Tb T l) (hT : T ≤ 140737488355328) (fl : List Bool) : koineref25_Render.f l fl = document_Render.f l fl := by
  unfold koineref25_Render.f
  rw [if_pos]
  rw [List.all_eq_true]
  intro x hx
  have := h x hx
  rw [decide_eq_true_iff]
  omega
theorem refgroups_f {T : Nat} {l : List S42} (h : Tb T l) (hT : T ≤ 1000000) {k : Nat} (hk : 2000000 ≤ k) : koineref25_Groups.f k l = document_Groups.f l :=
  Groups_eq l T h.at_ (by omega) k (by omega)
theorem refcheck_f {T : Nat} {l : List S42} (h : Tb T l) (hT : T ≤ 1000000) {k : Nat} (hk : 2000000 ≤ k) : koineref25_Check.f k l = some (checkI l) :=
  Check_eq l T h.at_ (by omega) k (by omega)

theorem out_size {l : List S42} (h : Doc20 l) (fl : List Bool) : (rnd (E l) fl).length ≤ 140737488355328 ∧ (wt (E l) ≤ 8000 → lv (E l) ≤ 2000 → (rnd (E l) fl).length ≤ 1000000000) := by
  have hg := h.good
  have h0 := (check_zero_iff l).2 hg
  have hp := hg.pos
  have key : ∀ fl : List Bool, fl.length = ng (E l) → (wrP (E l) 0 false fl st0).out.length ≤ lv (E l) * (wt (E l) + 1) := by
    intro fl hl
    have hgl : (groupsI (rootT l)).length = ng (E l) := by rw [ng_eq]; exact (er_ng _).symm
    have hnd : (groupsI (rootT l)).Nodup := groups_nodup hg.ok (check_once h0) (l.length - 1) (by omega)
    have hf := h.fits
    have hw := wrO_eq (chOf ((groupsI (rootT l)).zip fl)) (rootT l) 0 0 false st0 (nn_tree hg.ok _ (by omega)) ⟨by decide, by decide, by decide, by decide⟩ ⟨by decide, by decide⟩
      (by have := hf.1; unfold E at this; rw [er_wt] at this; omega) (by
        have := hf.2; unfold E at this; rw [er_wt, er_lv] at this
        rw [Nat.zero_add]
        show 0 + _ ≤ _
        omega)
    have := hw.2.2
    rw [chOf_zip _ _ hnd (by omega), Nat.zero_add] at this
    unfold E
    rw [er_wrP, er_wt, er_lv]
    have z : st0.out.length = 0 := rfl
    omega
  have hk := key (chz (gh (E l)) fl) (by rw [chz_length, gh_length])
  refine ⟨?_, fun hw hl => ?_⟩
  · have := h.fits.2
    unfold rnd
    omega
  · have := Nat.mul_le_mul hl (show wt (E l) + 1 ≤ 8001 by omega)
    unfold rnd
    omega

end Go.Proofs.Ythmmdmnbcecooaa.A

/-! Q12 -/
namespace Go.Proofs.Ythmmdmnbcecooaa.A
open Go.RowKit Go.Proofs.YthmmdmnbcecooaaW.PrintWords Go.Proofs.YthmmdmnbcecooaaW.PrintLast Go.Proofs.YthmmdmnbcecooaaW.PrintMore
set_option linter.unusedVariables false
set_option linter.unusedSimpArgs false

theorem refs_perm {l : List S42} (hg : Good l) : (refs l).Perm (List.range (l.length - 1)) := by
  rw [List.perm_iff_count]
  intro a
  by_cases h : a < l.length - 1
  · rw [hg.once a h]
    have h1 := List.nodup_iff_count.1 (List.nodup_range (n := l.length - 1)) a
    have h2 := List.count_pos_iff.2 (List.mem_range.2 h)
    omega
  · rw [List.count_eq_zero_of_not_mem (fun hm => h (refs_lt hg.ok hm)), List.count_eq_zero_of_not_mem (fun hm => h (List.mem_range.1 hm))]

theorem weigh {l : List S42} (W : Nat → Nat) (f : S42 → Nat) (hW : ∀ i, i < l.length → W i = f (l.getD i z42) + ((opsAt (l.getD i z42)).map W).sum) :
    ∀ m, m ≤ l.length → ((List.range m).map W).sum = ((l.take m).map f).sum + ((refs (l.take m)).map W).sum
  | 0, _ => by simp [refs]
  | m + 1, hm => by
    have ih := weigh W f hW m (by omega)
    rw [List.range_succ, List.map_append, List.sum_append, ih, refs_take (by omega), List.map_append, List.sum_append, List.take_succ_eq_append_getElem (by omega), List.map_append, List.sum_append]
    have e : l[m]'(by omega) = l.getD m z42 := by simp [List.getD, show m < l.length by omega]
    simp only [List.map_cons, List.map_nil, List.sum_cons, List.sum_nil]
    rw [hW m (by omega), e]
    omega

theorem weigh_root {l : List S42} (hg : Good l) (W : Nat → Nat) (f : S42 → Nat) (hW : ∀ i, i < l.length → W i = f (l.getD i z42) + ((opsAt (l.getD i z42)).map W).sum) :
    W (l.length - 1) = (l.map f).sum := by
  have hp := hg.pos
  have h := weigh W f hW l.length (Nat.le_refl _)
  rw [List.take_of_length_le (Nat.le_refl _), ((refs_perm hg).map W).sum_nat] at h
  obtain ⟨n, hn⟩ : ∃ n, l.length = n + 1 := ⟨l.length - 1, by omega⟩
  rw [hn, List.range_succ, List.map_append, List.sum_append, Nat.add_sub_cancel] at h
  simp only [List.map_cons, List.map_nil, List.sum_cons, List.sum_nil] at h
  rw [hn, Nat.add_sub_cancel]
  omega

theorem sum_le (f : S42 → Nat) (B : Nat) : ∀ (l : List S42), (∀ x ∈ l, f x ≤ B) → (l.map f).sum ≤ l.length * B
  | [], _ => by simp
  | x :: t, h => by
    have h1 := h x (by simp)
    have h2 := sum_le f B t (fun y hy => h y (by simp [hy]))
    simp only [List.map_cons, List.sum_cons, List.length_cons, Nat.add_mul, Nat.one_mul]
    omega

def fLv (x : S42) : Nat := if x.f0 < 3 then 1 else 0
def fWt (x : S42) : Nat := if x.f0 = 0 ∨ x.f0 = 1 then x.f1.data.toList.length else if x.f0 = 4 then x.f2.toNat else 0

theorem weights {l : List S42} (hg : Good l) : lv (E l) = (l.map fLv).sum ∧ wt (E l) = (l.map fWt).sum := by
  have hv := hg.ok
  unfold E rootT
  rw [er_lv, er_wt]
  refine ⟨weigh_root hg (fun i => lv (tree l i)) fLv (fun i hi => ?_), weigh_root hg (fun i => wt (tree l i)) fWt (fun i hi => ?_)⟩
  all_goals
    have h := hv i hi
    have hkd := h.kind
    rcases (show (l.getD i z42).f0 = 0 ∨ (l.getD i z42).f0 = 1 ∨ (l.getD i z42).f0 = 2 ∨ (l.getD i z42).f0 = 3 ∨ (l.getD i z42).f0 = 4 ∨ (l.getD i z42).f0 = 5 ∨ (l.getD i z42).f0 = 6 by omega) with h4 | h4 | h4 | h4 | h4 | h4 | h4
  · rw [tree_text h4, ops0 (by omega)]; unfold fLv; rw [if_pos (by omega)]; simp [lv]
  · rw [tree_line h4, ops0 (by omega)]; unfold fLv; rw [if_pos (by omega)]; simp [lv]
  · rw [tree_hard h4, ops0 (by omega)]; unfold fLv; rw [if_pos (by omega)]; simp [lv]
  · rw [tree_seq hv hi h4, ops3 h4]; unfold fLv; rw [if_neg (by omega)]; simp [lv]
  · rw [tree_nest hv hi h4, ops1 (by omega)]; unfold fLv; rw [if_neg (by omega)]; simp [lv]
  · rw [tree_align hv hi h4, ops1 (by omega)]; unfold fLv; rw [if_neg (by omega)]; simp [lv]
  · rw [tree_group hv hi h4, ops1 (by omega)]; unfold fLv; rw [if_neg (by omega)]; simp [lv]
  · rw [tree_text h4, ops0 (by omega)]; unfold fWt; rw [if_pos (by omega)]; simp [wt]
  · rw [tree_line h4, ops0 (by omega)]; unfold fWt; rw [if_pos (by omega)]; simp [wt]
  · rw [tree_hard h4, ops0 (by omega)]; unfold fWt; rw [if_neg (by omega), if_neg (by omega)]; simp [wt]
  · rw [tree_seq hv hi h4, ops3 h4]; unfold fWt; rw [if_neg (by omega), if_neg (by omega)]; simp [wt]
  · rw [tree_nest hv hi h4, ops1 (by omega)]; unfold fWt; rw [if_neg (by omega), if_pos h4]; simp [wt]
  · rw [tree_align hv hi h4, ops1 (by omega)]; unfold fWt; rw [if_neg (by omega), if_neg (by omega)]; simp [wt]
  · rw [tree_group hv hi h4, ops1 (by omega)]; unfold fWt; rw [if_neg (by omega), if_neg (by omega)]; simp [wt]

theorem good_bounds {l : List S42} (hg : Good l) {T : Nat} (h : Tb T l) : lv (E l) ≤ l.length ∧ wt (E l) ≤ l.length * (T + 1000) := by
  obtain ⟨h1, h2⟩ := weights hg
  rw [h1, h2]
  refine ⟨?_, sum_le _ _ l (fun x hx => ?_)⟩
  · have := sum_le fLv 1 l (fun x _ => by unfold fLv; split <;> omega)
    omega
  · have ht := h x hx
    have hlen := data_length x.f1
    obtain ⟨i, hi, rfl⟩ := List.mem_iff_getElem.1 hx
    have hn := (hg.ok i hi).n
    rw [show l.getD i z42 = l[i] from by simp [List.getD, hi]] at hn
    unfold fWt
    split
    · omega
    split
    · omega
    · omega

theorem good_fits {l : List S42} (hg : Good l) {T : Nat} (h : Tb T l) (hl : l.length ≤ 60) (hT : T ≤ 1000000) : Fits (E l) := by
  obtain ⟨h1, h2⟩ := good_bounds hg h
  have h3 : l.length * (T + 1000) ≤ 60 * 1001000 := Nat.mul_le_mul hl (by omega)
  refine ⟨by omega, ?_⟩
  have := Nat.mul_le_mul (show lv (E l) ≤ 60 by omega) (show wt (E l) + 1 ≤ 60060001 by omega)
  omega

end Go.Proofs.Ythmmdmnbcecooaa.A
