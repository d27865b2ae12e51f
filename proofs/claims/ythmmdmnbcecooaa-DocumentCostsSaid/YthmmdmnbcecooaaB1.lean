/- strings.Builder at the head of document's writer: the contracts of copyCheck, WriteString, WriteByte. No condition of its own. -/
import Derived.Test.YthmmdmnbcecooaaG4
import Derived.Shelf.Strings.Builder1
import Derived.RegionTactic
import Derived.Deep.RegionWith
import Derived.Outline
namespace Go.Proofs.Ythmmdmnbcecooaa.A
open Go.RowKit Go.Proofs.YthmmdmnbcecooaaW.PrintWords Go.Proofs.YthmmdmnbcecooaaW.PrintLast Go.Proofs.YthmmdmnbcecooaaW.PrintMore
set_option linter.unusedVariables false
set_option linter.unusedSimpArgs false

def bsI (l : List UInt8) : List Int := l.map fun b => (b.toNat : Int)
theorem bsI_length (l : List UInt8) : (bsI l).length = l.length := by simp [bsI]
theorem bsI_append (l m : List UInt8) : bsI (l ++ m) = bsI l ++ bsI m := by simp [bsI]
theorem bytesOf_bsI (s : ByteArray) : bytesOf s = bsI s.data.toList := rfl

/-- document's writer at block g: what it has written, its column, its pending indentation, whether it is wrong. -/
structure WrSt (w0 : World) (g : Nat) (out : List UInt8) (col pend : Int) (wrong : Bool) (W : World) : Prop where
  hb : ∃ (p v : Value), W.heap[g]? = some (.cells #[p, v, .int .i64 col, .int .i64 pend, .bool wrong] 83 (0, 0)) ∧ (p = .pointer none ∨ p = .pointer (some ⟨g, 0, none⟩)) ∧ W.ownsRow w0.heap.size 5 1 v (bsI out).length (nums .u8 (bsI out))
  lo : w0.heap.size ≤ g
  bel : Below w0.heap.size w0 W

theorem own_drewN {W : World} {base : Nat} {e : TypeId} {size n : Nat} {v : Value} {xs : List Value} (h : W.ownsRow base e size v n xs) (k : Nat) : (W.drewN k).ownsRow base e size v n xs := own_move h (fun _ _ => rfl)
theorem own_allocd {W : World} {base : Nat} {e : TypeId} {size n : Nat} {v : Value} {xs : List Value} (h : W.ownsRow base e size v n xs) (o : Obj) : (W.alloc o).ownsRow base e size v n xs := h.alloc o

theorem WrSt.lt {w0 W : World} {g : Nat} {out : List UInt8} {col pend : Int} {wrong : Bool} (h : WrSt w0 g out col pend wrong W) : g < W.heap.size := by
  obtain ⟨p, v, hb, _⟩ := h.hb
  exact blk_lt hb
theorem WrSt.below {w0 W W1 : World} {g : Nat} {out : List UInt8} {col pend : Int} {wrong : Bool} (h : WrSt w0 g out col pend wrong W) (hb : Below W.heap.size W W1) : WrSt w0 g out col pend wrong W1 := by
  obtain ⟨p, v, h1, h2, h3⟩ := h.hb
  exact ⟨⟨p, v, (hb.block g (blk_lt h1)).trans h1, h2, pw_own_below h3 hb⟩, h.lo, below_then h.bel h.bel.size hb⟩
theorem WrSt.alloc {w0 W : World} {g : Nat} {out : List UInt8} {col pend : Int} {wrong : Bool} (h : WrSt w0 g out col pend wrong W) (o : Obj) : WrSt w0 g out col pend wrong (W.alloc o) := h.below ((Below.refl _ _).alloc (Nat.le_refl _) o)
theorem WrSt.drewN {w0 W : World} {g : Nat} {out : List UInt8} {col pend : Int} {wrong : Bool} (h : WrSt w0 g out col pend wrong W) (n : Nat) : WrSt w0 g out col pend wrong (W.drewN n) := h.below (pw_below_drewN (Below.refl _ _) n)

/-! ### copyCheck -/
theorem size81 : (Try.prog.info? 81).map (·.size) = some 2 := by kernel_rfl
theorem lies81 : liesAt Try.prog Try.prog.depth 83 (5 / Try.prog.cellsOf 83) 0 81 1 = true := by kernel_rfl

set_option maxRecDepth 100000 in
theorem copyCheck_used (b : Nat) (w : World) (h0 : w.cell? ⟨b, 0, none⟩ = some (.pointer (some ⟨b, 0, none⟩))) :
    Calls Try.prog 99 #[.pointer (some ⟨b, 0, none⟩)] w fun e w' => e = .returned (.tuple #[]) ∧ w = w' := by
  obtain ⟨j, hj, _⟩ := Option.map_eq_some_iff.1 size81
  go_enter Try.func99, Try.ntmps99
  go_wp2
  rw [Lib.run_neq_ptr_same w _ Try.underlying79 hj]
  go_wp2
  go_end0
  exact ⟨rfl, rfl⟩

set_option maxRecDepth 100000 in
theorem copyCheck_fresh (b : Nat) (w : World) (h0 : w.cell? ⟨b, 0, none⟩ = some (.pointer none)) (hsh : w.shape? b = some (83, 5)) (hfz : w.frozen? ⟨b, 0, none⟩ = false) :
    Calls Try.prog 99 #[.pointer (some ⟨b, 0, none⟩)] w fun e w' => e = .returned (.tuple #[]) ∧ w.setCell ⟨b, 0, none⟩ (.pointer (some ⟨b, 0, none⟩)) = w' := by
  obtain ⟨j, hj, hjs⟩ := Option.map_eq_some_iff.1 size81
  go_enter Try.func99, Try.ntmps99
  go_wp2
  rw [Lib.run_to_unsafe w ⟨b, 0, none⟩ Try.underlying79 Try.underlying161 hj (by rw [hjs]; decide) hsh (Nat.zero_lt_succ 4)]
  simp only [Result.andThen]
  rw [Oper.upon_value]
  go_wp2
  rw [run_callFunc_extern Try.func101 (by kernel_rfl) (by kernel_rfl) (by kernel_rfl) (e := Extern.AbiNoEscape.same) (by kernel_rfl)]
  rw [Lib.run_noEscape]
  simp only [Result.andThen]
  rw [Oper.upon_value]
  go_wp2
  rw [Lib.run_from_unsafe w ⟨b, 0, none⟩ Try.underlying161 Try.underlying79 hj hsh lies81]
  simp only [Result.andThen]
  rw [Oper.upon_value]
  go_wp2
  go_end0
  exact ⟨rfl, rfl⟩

/-- The writer, its builder used; its buffer is v. -/
structure WrAt (w0 : World) (g : Nat) (v : Value) (out : List UInt8) (col pend : Int) (wrong : Bool) (W : World) : Prop where
  hb : W.heap[g]? = some (.cells #[.pointer (some ⟨g, 0, none⟩), v, .int .i64 col, .int .i64 pend, .bool wrong] 83 (0, 0))
  ho : W.ownsRow w0.heap.size 5 1 v (bsI out).length (nums .u8 (bsI out))
  lo : w0.heap.size ≤ g
  bel : Below w0.heap.size w0 W
theorem WrAt.st {w0 W : World} {g : Nat} {v : Value} {out : List UInt8} {col pend : Int} {wrong : Bool} (h : WrAt w0 g v out col pend wrong W) : WrSt w0 g out col pend wrong W :=
  ⟨⟨_, v, h.hb, .inr rfl, h.ho⟩, h.lo, h.bel⟩

def CopyPost (w0 : World) (g : Nat) (out : List UInt8) (col pend : Int) (wrong : Bool) (W : World) (e : Ending) (W' : World) : Prop :=
  e = .returned (.tuple #[]) ∧ (∃ v, WrAt w0 g v out col pend wrong W') ∧ KeepNot [83, 5] W W'

theorem copyCheck_any (w0 W : World) (g : Nat) (out : List UInt8) (col pend : Int) (wrong : Bool) (h : WrSt w0 g out col pend wrong W) :
    Calls Try.prog 99 #[.pointer (some ⟨g, 0, none⟩)] W (CopyPost w0 g out col pend wrong W) := by
  obtain ⟨p, v, hb, hp, ho⟩ := h.hb
  rcases hp with rfl | rfl
  · refine (copyCheck_fresh g W ((blk_cell hb 0).trans rfl) (by simp [World.shape?, hb]) (blk_frozen hb 0)).mono ?_
    rintro e W' ⟨rfl, rfl⟩
    refine ⟨rfl, ⟨v, blk_put (cs := #[.pointer none, v, .int .i64 col, .int .i64 pend, .bool wrong]) hb 0 _ rfl, ?_, h.lo, h.bel.setCell (p := ⟨g, 0, none⟩) h.lo _⟩, KeepNot.setCell (p := ⟨g, 0, none⟩) hb (by decide) _⟩
    exact own_setCell ho (p := ⟨g, 0, none⟩) (own_ne ho hb (by decide)) _
  · refine (copyCheck_used g W ((blk_cell hb 0).trans rfl)).mono ?_
    rintro e W' ⟨rfl, rfl⟩
    exact ⟨rfl, ⟨v, hb, ho, h.lo, h.bel⟩, KeepNot.refl _ _⟩

/-- What a longer buffer leaves of the writer. -/
theorem WrAt.grown {w0 W W1 : World} {g : Nat} {v v1 : Value} {out out1 : List UInt8} {col pend : Int} {wrong : Bool} (h : WrAt w0 g v out col pend wrong W) (ho1 : W1.ownsRow w0.heap.size 5 1 v1 (bsI out1).length (nums .u8 (bsI out1))) (hB1 : Below w0.heap.size w0 W1) (hg : W.grownBy W1 v.ownBlock) :
    W1.heap[g]? = some (.cells #[.pointer (some ⟨g, 0, none⟩), v, .int .i64 col, .int .i64 pend, .bool wrong] 83 (0, 0)) ∧ WrAt w0 g v1 out1 col pend wrong (W1.setCell ⟨g, 1, none⟩ v1) ∧ KeepNot [83, 5] W (W1.setCell ⟨g, 1, none⟩ v1) := by
  have hne : some g ≠ v.ownBlock := own_ne h.ho h.hb (by decide)
  have hb1 := blk_grown h.hb hg hne
  refine ⟨hb1, ⟨blk_put (cs := #[.pointer (some ⟨g, 0, none⟩), v, .int .i64 col, .int .i64 pend, .bool wrong]) hb1 1 _ rfl, ?_, h.lo, hB1.setCell (p := ⟨g, 1, none⟩) h.lo _⟩, ?_⟩
  · exact own_setCell ho1 (p := ⟨g, 1, none⟩) (own_ne ho1 hb1 (by decide)) _
  · refine (KeepNot.grown hg fun k hk => ?_).trans (KeepNot.setCell (p := ⟨g, 1, none⟩) hb1 (by decide) _)
    obtain ⟨cs, hb⟩ := own_typed h.ho k hk
    exact ⟨cs, 5, by decide, hb⟩

def WritePost (w0 : World) (g : Nat) (out : List UInt8) (col pend : Int) (wrong : Bool) (r : Value) (W : World) (e : Ending) (W' : World) : Prop :=
  e = .returned r ∧ WrSt w0 g out col pend wrong W' ∧ KeepNot [83, 5] W W'

set_option maxRecDepth 100000 in
theorem writeString_calls (w0 W : World) (g : Nat) (out : List UInt8) (col pend : Int) (wrong : Bool) (s : ByteArray) (h : WrSt w0 g out col pend wrong W) (hlen : out.length + s.size ≤ 140737488355328) :
    Calls Try.prog 92 #[.pointer (some ⟨g, 0, none⟩), .string s] W (WritePost w0 g (out ++ s.data.toList) col pend wrong (.tuple #[.int .i64 s.size, .nilIface]) W) := by
  have HS := Aside0.mk h
  have HL := Aside0.mk hlen
  clear h hlen
  go_enter Try.func92, Try.ntmps92
  go_wp2_with fail
  refine (copyCheck_any w0 W g out col pend wrong HS.out).mono ?_
  rintro e W1 ⟨rfl, ⟨v, h1⟩, hk1⟩
  have H1 := Aside0.mk h1
  have HK := Aside0.mk hk1
  have c1 : W1.cell? ⟨g, 1, none⟩ = some v := (blk_cell h1.hb 1).trans rfl
  clear h1 hk1
  go_wp2_with (at_builtin; refine print_append_str (w0 := w0) w0.heap.size rfl (.tmp 12) (.tmp 13) 22 9 5 rfl Try.underlying22 Try.underlying9 info5 v (bsI out) s rfl rfl ?aO ?aB ?aS ?aL ?_; (case aO => exact H1.out.ho); (case aB => exact H1.out.bel); (case aS => exact H1.out.bel.size); (case aL => have := HL.out; rw [bsI_length]; exact this); intro v1 w2 ho2 hB2 hg2; obtain ⟨A1, c1', hv1⟩ := own_slice ho2; subst hv1; have HX := Aside0.mk (H1.out.grown (out1 := out ++ s.data.toList) (by rw [bsI_append]; exact ho2) hB2 hg2); have hc : w2.cell? ⟨g, 1, none⟩ = some v := (blk_cell HX.out.1 1).trans rfl; have hfz : w2.frozen? ⟨g, 1, none⟩ = false := blk_frozen HX.out.1 1; clear ho2 hB2 hg2)
  go_ret2
  have hx := HX.out.2
  rw [List.length_append] at hx
  exact ⟨rfl, hx.1.st, HK.out.trans hx.2⟩

set_option maxRecDepth 100000 in
theorem writeByte_calls (w0 W : World) (g : Nat) (out : List UInt8) (col pend : Int) (wrong : Bool) (h : WrSt w0 g out col pend wrong W) (hlen : out.length + 1 ≤ 140737488355328) :
    Calls Try.prog 123 #[.pointer (some ⟨g, 0, none⟩), .int .u8 10] W (WritePost w0 g (out ++ [10]) col pend wrong .nilIface W) := by
  have HS := Aside0.mk h
  have HL := Aside0.mk hlen
  clear h hlen
  go_enter Try.func123, Try.ntmps123
  go_wp2_with fail
  refine (copyCheck_any w0 W g out col pend wrong HS.out).mono ?_
  rintro e W1 ⟨rfl, ⟨v, h1⟩, hk1⟩
  have H1 := Aside0.mk h1
  have HK := Aside0.mk hk1
  have c1 : W1.cell? ⟨g, 1, none⟩ = some v := (blk_cell h1.hb 1).trans rfl
  clear h1 hk1
  go_wp2_with (at_builtin; refine print_append_num (w0 := w0) w0.heap.size rfl (.tmp 11) (.tmp 13) 22 5 .u8 1 rfl Try.underlying22 info5 (by omega) v (bsI out) 10 rfl rfl ?aO ?aB ?aS ?aL ?_; (case aO => exact H1.out.ho); (case aB => exact H1.out.bel); (case aS => exact H1.out.bel.size); (case aL => have := HL.out; rw [bsI_length]; omega); intro v1 w2 ho2 hB2 hg2 hat2; obtain ⟨A1, c1', hv1⟩ := own_slice ho2; subst hv1; have HX := Aside0.mk (H1.out.grown (out1 := out ++ [10]) (by rw [bsI_append]; exact ho2) hB2 hg2); have hc : w2.cell? ⟨g, 1, none⟩ = some v := (blk_cell HX.out.1 1).trans rfl; have hfz : w2.frozen? ⟨g, 1, none⟩ = false := blk_frozen HX.out.1 1; clear ho2 hB2 hg2 hat2)
  go_ret
  have hx := HX.out.2
  rw [List.length_append] at hx
  exact ⟨rfl, hx.1.st, HK.out.trans hx.2⟩

end Go.Proofs.Ythmmdmnbcecooaa.A
