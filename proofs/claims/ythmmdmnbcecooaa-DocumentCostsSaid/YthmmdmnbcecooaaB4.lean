/- The contracts of the seven write methods of document's parts. No condition of its own. -/
import Derived.Test.YthmmdmnbcecooaaB3
import Derived.Test.YthmmdmnbcecooaaT1
namespace Go.Proofs.Ythmmdmnbcecooaa.A
open Go.RowKit Go.Proofs.YthmmdmnbcecooaaW.PrintWords Go.Proofs.YthmmdmnbcecooaaW.PrintLast Go.Proofs.YthmmdmnbcecooaaW.PrintMore
set_option linter.unusedVariables false
set_option linter.unusedSimpArgs false

/-- A tree as document's parts: the values in memory. -/
def partV (ch : Nat → Bool) : Doc → Value
  | .text s => .iface 104 (.string s)
  | .line s => .iface 105 (.string s)
  | .hard => .iface 107 (.agg #[])
  | .seq a b => .iface 109 (.agg #[partV ch a, partV ch b])
  | .nest n a => .iface 111 (.agg #[.int .i64 n, partV ch a])
  | .align a => .iface 113 (.agg #[partV ch a])
  | .group i a => .iface 115 (.agg #[partV ch a, .bool (ch i)])

def partF : Doc → Nat
  | .text _ => 119
  | .line _ => 121
  | .hard => 124
  | .seq _ _ => 125
  | .nest _ _ => 126
  | .align _ => 127
  | .group _ _ => 128

def partT : Doc → Nat
  | .text _ => 104
  | .line _ => 105
  | .hard => 107
  | .seq _ _ => 109
  | .nest _ _ => 111
  | .align _ => 113
  | .group _ _ => 115

def partP (ch : Nat → Bool) : Doc → Value
  | .text s => .string s
  | .line s => .string s
  | .hard => .agg #[]
  | .seq a b => .agg #[partV ch a, partV ch b]
  | .nest n a => .agg #[.int .i64 n, partV ch a]
  | .align a => .agg #[partV ch a]
  | .group i a => .agg #[partV ch a, .bool (ch i)]

theorem partV_eq (ch : Nat → Bool) (t : Doc) : partV ch t = .iface (partT t) (partP ch t) := by cases t <;> rfl

/-- What writing a tree comes to; none: beyond a bound. -/
def wrO (ch : Nat → Bool) : Doc → Int → Bool → St → Option St
  | .text s, _, _, st => addO st s.data.toList
  | .line s, ind, flat, st => if flat then addO st s.data.toList else feedO st ind
  | .hard, ind, flat, st => feedO { st with wrong := st.wrong || flat } ind
  | .seq a b, ind, flat, st => (wrO ch a ind flat st).bind (wrO ch b ind flat)
  | .nest n a, ind, flat, st => if 0 ≤ ind + n ∧ ind + n ≤ 4611686018427387904 then wrO ch a (ind + n) flat st else none
  | .align a, _, flat, st => wrO ch a (if st.col = 0 then st.pend else st.col) flat st
  | .group i a, ind, flat, st => wrO ch a ind (flat || ch i) st

def WriteOk (ch : Nat → Bool) (t : Doc) : Prop :=
  ∀ (w0 W : World) (g : Nat) (ind : Int) (flat : Bool) (st st' : St), WrS w0 g st W → wrO ch t ind flat st = some st' →
    Calls Try.prog (partF t) #[partP ch t, .pointer (some ⟨g, 0, none⟩), .agg #[.int .i64 ind, .bool flat]] W (WrPost w0 g st' W)

theorem WrS.alloc {w0 W : World} {g : Nat} {st : St} (h : WrS w0 g st W) (o : Obj) : WrS w0 g st (W.alloc o) := WrSt.alloc h o

set_option maxRecDepth 100000 in
theorem write_text (ch : Nat → Bool) (s : ByteArray) : WriteOk ch (.text s) := by
  intro w0 W g ind flat st st' h hw
  have HS := Aside0.mk h
  have HW := Aside0.mk (show addO st s.data.toList = some st' from hw)
  clear h hw
  show Calls Try.prog 119 #[.string s, .pointer (some ⟨g, 0, none⟩), .agg #[.int .i64 ind, .bool flat]] W (WrPost w0 g st' W)
  go_enter Try.func119, Try.ntmps119
  go_wp2_with fail
  refine (add_calls w0 _ g st st' s (HS.out.alloc _) HW.out).mono ?_
  rintro e W1 ⟨rfl, h1, hk1⟩
  have H1 := Aside0.mk h1
  have HK := Aside0.mk ((KeepNot.alloc _).trans hk1)
  clear h1 hk1
  go_wp2_with fail
  go_end0
  exact ⟨rfl, H1.out, HK.out⟩

set_option maxRecDepth 100000 in
theorem write_line (ch : Nat → Bool) (s : ByteArray) : WriteOk ch (.line s) := by
  intro w0 W g ind flat st st' h hw
  show Calls Try.prog 121 #[.string s, .pointer (some ⟨g, 0, none⟩), .agg #[.int .i64 ind, .bool flat]] W (WrPost w0 g st' W)
  have HS := Aside0.mk h
  clear h
  cases flat with
  | true =>
    have HW := Aside0.mk (show addO st s.data.toList = some st' from hw)
    clear hw
    go_enter Try.func121, Try.ntmps121
    go_wp2_with fail
    refine (add_calls w0 _ g st st' s (HS.out.alloc _) HW.out).mono ?_
    rintro e W1 ⟨rfl, h1, hk1⟩
    have H1 := Aside0.mk h1
    have HK := Aside0.mk ((KeepNot.alloc _).trans hk1)
    clear h1 hk1
    go_wp2_with fail
    go_end0
    exact ⟨rfl, H1.out, HK.out⟩
  | false =>
    have HW := Aside0.mk (show feedO st ind = some st' from hw)
    clear hw
    go_enter Try.func121, Try.ntmps121
    go_wp2_with fail
    refine (feed_calls w0 _ g st st' ind (HS.out.alloc _) HW.out).mono ?_
    rintro e W1 ⟨rfl, h1, hk1⟩
    have H1 := Aside0.mk h1
    have HK := Aside0.mk ((KeepNot.alloc _).trans hk1)
    clear h1 hk1
    go_wp2_with fail
    go_end0
    exact ⟨rfl, H1.out, HK.out⟩

set_option maxRecDepth 100000 in
theorem write_hard (ch : Nat → Bool) : WriteOk ch .hard := by
  intro w0 W g ind flat st st' h hw
  show Calls Try.prog 124 #[.agg #[], .pointer (some ⟨g, 0, none⟩), .agg #[.int .i64 ind, .bool flat]] W (WrPost w0 g st' W)
  obtain ⟨out, col, pend, wrong⟩ := st
  have h' : WrSt w0 g out col pend wrong W := h
  have hlt := h'.lt
  have c4 := h'.cell4
  have f4 := h'.free 4
  have HS := Aside0.mk h'
  have HW := Aside0.mk (show feedO ⟨out, col, pend, wrong || flat⟩ ind = some st' from hw)
  clear h hw h'
  cases wrong with
  | true =>
    go_enter Try.func124, Try.ntmps124
    go_wp2_with fail
    refine (feed_calls w0 _ g ⟨out, col, pend, true⟩ st' ind (((HS.out.set4 true).alloc _).alloc _) HW.out).mono ?_
    rintro e W1 ⟨rfl, h1, hk1⟩
    have H1 := Aside0.mk h1
    have HK := Aside0.mk ((((HS.out.keep 4 _).trans (KeepNot.alloc _)).trans (KeepNot.alloc _)).trans hk1)
    clear h1 hk1
    go_wp2_with fail
    go_end0
    exact ⟨rfl, H1.out, HK.out⟩
  | false =>
    go_enter Try.func124, Try.ntmps124
    go_wp2_with fail
    refine (feed_calls w0 _ g ⟨out, col, pend, flat⟩ st' ind (((HS.out.set4 flat).alloc _).alloc _) HW.out).mono ?_
    rintro e W1 ⟨rfl, h1, hk1⟩
    have H1 := Aside0.mk h1
    have HK := Aside0.mk ((((HS.out.keep 4 _).trans (KeepNot.alloc _)).trans (KeepNot.alloc _)).trans hk1)
    clear h1 hk1
    go_wp2_with fail
    go_end0
    exact ⟨rfl, H1.out, HK.out⟩

theorem part_method (ch : Nat → Bool) (t : Doc) (w : World) : (method 277 (partT t) (partP ch t) "koine/document.write").run Try.prog w = .ok (partF t, partP ch t) w := by
  cases t <;> kernel_rfl

theorem part_enters (t : Doc) (args : Array Value) (w : World) : (callFunc (partF t) args).run Try.prog w = .ok (.enter (partF t) args) w := by
  cases t
  · exact enters_of Try.func119 (by kernel_rfl) rfl args w
  · exact enters_of Try.func121 (by kernel_rfl) rfl args w
  · exact enters_of Try.func124 (by kernel_rfl) rfl args w
  · exact enters_of Try.func125 (by kernel_rfl) rfl args w
  · exact enters_of Try.func126 (by kernel_rfl) rfl args w
  · exact enters_of Try.func127 (by kernel_rfl) rfl args w
  · exact enters_of Try.func128 (by kernel_rfl) rfl args w

set_option maxRecDepth 100000 in
theorem write_seq (ch : Nat → Bool) (a b : Doc) (iha : WriteOk ch a) (ihb : WriteOk ch b) : WriteOk ch (.seq a b) := by
  intro w0 W g ind flat st st' h hw
  show Calls Try.prog 125 #[.agg #[partV ch a, partV ch b], .pointer (some ⟨g, 0, none⟩), .agg #[.int .i64 ind, .bool flat]] W (WrPost w0 g st' W)
  obtain ⟨st1, hw1, hw2⟩ := Option.bind_eq_some_iff.1 (show (wrO ch a ind flat st).bind (wrO ch b ind flat) = some st' from hw)
  have HS := Aside0.mk h
  have HW1 := Aside0.mk hw1
  have HW2 := Aside0.mk hw2
  have IA := Aside0.mk iha
  have IB := Aside0.mk ihb
  clear h hw hw1 hw2 iha ihb
  rw [partV_eq ch a, partV_eq ch b]
  have hma := part_method ch a
  have hmb := part_method ch b
  have hea := part_enters a
  have heb := part_enters b
  go_enter Try.func125, Try.ntmps125
  go_wp2_with fail
  refine (IA.out w0 _ g ind flat st st1 ((HS.out.alloc _).alloc _) HW1.out).mono ?_
  rintro e W1 ⟨rfl, h1, hk1⟩
  have k3 := hk1.keep W.heap.size _ 109 (0, 0) (by decide) (blk_alloc (heap_alloc_new W _) _)
  have k5 := hk1.keep (W.heap.size + 1) #[.int .i64 ind, .bool flat] 89 (0, 0) (by decide) (by simpa using heap_alloc_new (W.alloc _) _)
  have m31 : W1.cell? ⟨W.heap.size, 1, none⟩ = some (.iface (partT b) (partP ch b)) := (blk_cell k3 1).trans rfl
  have m50 : W1.cell? ⟨W.heap.size + 1, 0, none⟩ = some (.int .i64 ind) := (blk_cell k5 0).trans rfl
  have m51 : W1.cell? ⟨W.heap.size + 1, 1, none⟩ = some (.bool flat) := (blk_cell k5 1).trans rfl
  have H1 := Aside0.mk h1
  have HK := Aside0.mk (((KeepNot.alloc _).trans (KeepNot.alloc _)).trans hk1)
  clear h1 hk1 k3 k5
  go_wp2_with fail
  refine (IB.out w0 _ g ind flat st1 st' H1.out HW2.out).mono ?_
  rintro e W2 ⟨rfl, h2, hk2⟩
  have H2 := Aside0.mk h2
  have HK2 := Aside0.mk (HK.out.trans hk2)
  clear h2 hk2
  go_wp2_with fail
  go_end0
  exact ⟨rfl, H2.out, HK2.out⟩

set_option maxRecDepth 100000 in
theorem write_nest (ch : Nat → Bool) (n : Int) (a : Doc) (iha : WriteOk ch a) : WriteOk ch (.nest n a) := by
  intro w0 W g ind flat st st' h hw
  show Calls Try.prog 126 #[.agg #[.int .i64 n, partV ch a], .pointer (some ⟨g, 0, none⟩), .agg #[.int .i64 ind, .bool flat]] W (WrPost w0 g st' W)
  simp only [wrO] at hw
  split at hw
  case isFalse => cases hw
  case isTrue hr =>
  obtain ⟨hr0, hr1⟩ := hr
  have HS := Aside0.mk h
  have HW1 := Aside0.mk hw
  have IA := Aside0.mk iha
  clear h hw iha
  rw [partV_eq ch a]
  have hma := part_method ch a
  have hea := part_enters a
  go_enter Try.func126, Try.ntmps126
  go_wp2_with fail
  refine (IA.out w0 _ g (ind + n) flat st st' ((HS.out.alloc _).alloc _) HW1.out).mono ?_
  rintro e W1 ⟨rfl, h1, hk1⟩
  have H1 := Aside0.mk h1
  have HK := Aside0.mk (((KeepNot.alloc _).trans (KeepNot.alloc _)).trans hk1)
  clear h1 hk1
  go_wp2_with fail
  go_end0
  exact ⟨rfl, H1.out, HK.out⟩

set_option maxRecDepth 100000 in
theorem write_align (ch : Nat → Bool) (a : Doc) (iha : WriteOk ch a) : WriteOk ch (.align a) := by
  intro w0 W g ind flat st st' h hw
  show Calls Try.prog 127 #[.agg #[partV ch a], .pointer (some ⟨g, 0, none⟩), .agg #[.int .i64 ind, .bool flat]] W (WrPost w0 g st' W)
  simp only [wrO] at hw
  have hlt := WrSt.lt h
  have c2 := WrSt.cell2 h
  have c3 := WrSt.cell3 h
  have HS := Aside0.mk h
  have IA := Aside0.mk iha
  clear h iha
  rw [partV_eq ch a]
  have hma := part_method ch a
  have hea := part_enters a
  by_cases hc : st.col = 0
  · rw [if_pos hc] at hw
    rw [hc] at c2
    have HW1 := Aside0.mk hw
    clear hw hc
    go_enter Try.func127, Try.ntmps127
    go_wp2_with fail
    refine (IA.out w0 _ g st.pend flat st st' ((HS.out.alloc _).alloc _) HW1.out).mono ?_
    rintro e W1 ⟨rfl, h1, hk1⟩
    have H1 := Aside0.mk h1
    have HK := Aside0.mk (((KeepNot.alloc _).trans (KeepNot.alloc _)).trans hk1)
    clear h1 hk1
    go_wp2_with fail
    go_end0
    exact ⟨rfl, H1.out, HK.out⟩
  · rw [if_neg hc] at hw
    have hcb : (st.col == 0) = false := beq_eq_false_iff_ne.2 hc
    have HW1 := Aside0.mk hw
    clear hw hc
    go_enter Try.func127, Try.ntmps127
    go_wp2_with fail
    refine (IA.out w0 _ g st.col flat st st' ((HS.out.alloc _).alloc _) HW1.out).mono ?_
    rintro e W1 ⟨rfl, h1, hk1⟩
    have H1 := Aside0.mk h1
    have HK := Aside0.mk (((KeepNot.alloc _).trans (KeepNot.alloc _)).trans hk1)
    clear h1 hk1
    go_wp2_with fail
    go_end0
    exact ⟨rfl, H1.out, HK.out⟩

set_option maxRecDepth 100000 in
theorem write_group (ch : Nat → Bool) (i : Nat) (a : Doc) (iha : WriteOk ch a) : WriteOk ch (.group i a) := by
  intro w0 W g ind flat st st' h hw
  show Calls Try.prog 128 #[.agg #[partV ch a, .bool (ch i)], .pointer (some ⟨g, 0, none⟩), .agg #[.int .i64 ind, .bool flat]] W (WrPost w0 g st' W)
  simp only [wrO] at hw
  have HS := Aside0.mk h
  have IA := Aside0.mk iha
  generalize ch i = b at hw ⊢
  have HW1 := Aside0.mk hw
  clear h iha hw
  rw [partV_eq ch a]
  have hma := part_method ch a
  have hea := part_enters a
  cases flat with
  | true =>
    go_enter Try.func128, Try.ntmps128
    go_wp2_with fail
    refine (IA.out w0 _ g ind true st st' ((HS.out.alloc _).alloc _) (by have := HW1.out; simpa using this)).mono ?_
    rintro e W1 ⟨rfl, h1, hk1⟩
    have H1 := Aside0.mk h1
    have HK := Aside0.mk (((KeepNot.alloc _).trans (KeepNot.alloc _)).trans hk1)
    clear h1 hk1
    go_wp2_with fail
    go_end0
    exact ⟨rfl, H1.out, HK.out⟩
  | false =>
    go_enter Try.func128, Try.ntmps128
    go_wp2_with fail
    refine (IA.out w0 _ g ind b st st' ((HS.out.alloc _).alloc _) (by have := HW1.out; simpa using this)).mono ?_
    rintro e W1 ⟨rfl, h1, hk1⟩
    have H1 := Aside0.mk h1
    have HK := Aside0.mk (((KeepNot.alloc _).trans (KeepNot.alloc _)).trans hk1)
    clear h1 hk1
    go_wp2_with fail
    go_end0
    exact ⟨rfl, H1.out, HK.out⟩

theorem write_any (ch : Nat → Bool) (t : Doc) : WriteOk ch t := by
  induction t with
  | text s => exact write_text ch s
  | line s => exact write_line ch s
  | hard => exact write_hard ch
  | seq a b iha ihb => exact write_seq ch a b iha ihb
  | nest n a iha => exact write_nest ch n a iha
  | align a iha => exact write_align ch a iha
  | group i a iha => exact write_group ch i a iha

end Go.Proofs.Ythmmdmnbcecooaa.A
