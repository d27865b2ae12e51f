/- The contracts of document.Groups and of its inner function (walk). No condition of its own. -/
import Derived.Test.YthmmdmnbcecooaaT1
namespace Go.Proofs.Ythmmdmnbcecooaa.A
open Go.RowKit Go.Proofs.YthmmdmnbcecooaaW.PrintWords Go.Proofs.YthmmdmnbcecooaaW.PrintLast Go.Proofs.YthmmdmnbcecooaaW.PrintMore
set_option linter.unusedVariables false
set_option linter.unusedSimpArgs false

/-- Blocks of cells of types outside of bad stay. -/
structure KeepNot (bad : List Nat) (W W' : World) : Prop where
  keep : ∀ (b : Nat) (cs : Array Value) (t : TypeId) (fr : Nat × Nat), t ∉ bad → W.heap[b]? = some (Obj.cells cs t fr) → W'.heap[b]? = some (Obj.cells cs t fr)
namespace KeepNot
variable {bad : List Nat} {W W1 W2 : World}
theorem refl (bad : List Nat) (W : World) : KeepNot bad W W := ⟨fun _ _ _ _ _ h => h⟩
theorem trans (h : KeepNot bad W W1) (k : KeepNot bad W1 W2) : KeepNot bad W W2 := ⟨fun b cs t fr ht hb => k.keep b cs t fr ht (h.keep b cs t fr ht hb)⟩
theorem below (h : Below W.heap.size W W1) : KeepNot bad W W1 := ⟨fun b cs t fr _ hb => (h.block b (blk_lt hb)).trans hb⟩
theorem alloc (o : Obj) : KeepNot bad W (W.alloc o) := ⟨fun b cs t fr _ hb => blk_alloc hb o⟩
theorem drewN (n : Nat) : KeepNot bad W (W.drewN n) := ⟨fun b cs t fr _ hb => blk_drewN hb n⟩
theorem setCell {p : Addr} {cs : Array Value} {t : TypeId} {fr : Nat × Nat} (hp : W.heap[p.block]? = some (.cells cs t fr)) (ht : t ∈ bad) (v : Value) : KeepNot bad W (W.setCell p v) :=
  ⟨fun b cs' t' fr' ht' hb => (Below.heap_setCell W p v b (by
    rintro rfl
    rw [hb] at hp
    injection hp with hp
    injection hp with _ h2
    exact ht' (h2 ▸ ht))).trans hb⟩
theorem grown {row : Option Nat} (hg : W.grownBy W1 row) (hr : ∀ k, row = some k → ∃ cs t, t ∈ bad ∧ W.heap[k]? = some (.cells cs t (0, 0))) : KeepNot bad W W1 :=
  ⟨fun b cs t fr ht hb => (hg.block b (blk_lt hb) (by
    intro e
    obtain ⟨cs', t', ht', hb'⟩ := hr b e.symm
    rw [hb] at hb'
    injection hb' with hb'
    injection hb' with _ h2
    exact ht (h2 ▸ ht'))).trans hb⟩
end KeepNot

/-- The captured variables of document.Groups: d at gd, out at go_, walk at gw. -/
structure GrSt (w0 : World) (gd go_ gw : Nat) (ad : Addr) (n c : Nat) (out : List Int) (W : World) : Prop where
  hd : W.heap[gd]? = some (.cells #[.slice (some ad) n c] 26 (0, 0))
  hw : W.heap[gw]? = some (.cells #[.func (.func 49) #[] #[.pointer (some ⟨gd, 0, none⟩), .pointer (some ⟨go_, 0, none⟩), .pointer (some ⟨gw, 0, none⟩)]] 74 (0, 0))
  ho : ∃ v, W.heap[go_]? = some (.cells #[v] 28 (0, 0)) ∧ Kd.R (Kd.int .i64) 3 W w0.heap.size (fun _ => True) v out
  lo : w0.heap.size ≤ go_
  bel : Below w0.heap.size w0 W

theorem GrSt.alloc {w0 : World} {gd go_ gw : Nat} {ad : Addr} {n c : Nat} {out : List Int} {W : World} (h : GrSt w0 gd go_ gw ad n c out W) (o : Obj) : GrSt w0 gd go_ gw ad n c out (W.alloc o) := by
  obtain ⟨v, h1, h2⟩ := h.ho
  exact ⟨blk_alloc h.hd o, blk_alloc h.hw o, ⟨v, blk_alloc h1 o, Kd.R_alloc h2 o⟩, h.lo, h.bel.alloc h.bel.size o⟩

set_option maxRecDepth 100000 in
theorem walk_leaf (w0 W : World) (gd go_ gw : Nat) (ad : Addr) (c : Nat) (l : List S42) (out : List Int) (i : Nat) (hi : i < l.length) (hr0 : Kd.C k42 w0 (some ad) l.length l) (hc : l.length ≤ c) (hn : l.length ≤ 65536)
    (h : GrSt w0 gd go_ gw ad l.length c out W) (hk : (l.getD i z42).f0 = 0 ∨ (l.getD i z42).f0 = 1 ∨ (l.getD i z42).f0 = 2) :
    Calls Try.prog 49 #[.int .i64 i, .pointer (some ⟨gd, 0, none⟩), .pointer (some ⟨go_, 0, none⟩), .pointer (some ⟨gw, 0, none⟩)] W fun e W' =>
      e = .returned (.tuple #[]) ∧ GrSt w0 gd go_ gw ad l.length c out W' ∧ KeepNot [28, 3] W W' := by
  have hu42 := Try.underlying42
  have hcd := (blk_cell h.hd 0).trans rfl
  obtain ⟨k, s, n, a, b, hx⟩ : ∃ k s n a b, l.getD i z42 = ⟨k, s, n, a, b⟩ := ⟨_, _, _, _, _, rfl⟩
  obtain ⟨k0, k1, k2, k3, k4⟩ := cells42 hr0 hi hx h.bel
  rw [hx] at hk
  have HS := Aside0.mk h
  clear h hx hr0
  simp only at hk
  rcases hk with rfl | rfl | rfl
  all_goals
    have ha : arityI 0 = 0 := rfl
    have ha1 : arityI 1 = 0 := rfl
    have ha2 : arityI 2 = 0 := rfl
    go_enter Try.func49, Try.ntmps49
    go_wp2_with (go_at_call 50; refine (arity_calls _ _).mono ?_; rintro e w' ⟨rfl, rfl⟩)
    go_end0
    exact ⟨rfl, HS.out.alloc _, KeepNot.alloc _⟩

def WalkPost (w0 : World) (gd go_ gw : Nat) (ad : Addr) (n c : Nat) (out : List Int) (W : World) (e : Ending) (W' : World) : Prop :=
  e = .returned (.tuple #[]) ∧ GrSt w0 gd go_ gw ad n c out W' ∧ KeepNot [28, 3] W W'

def WalkAt (w0 : World) (gd go_ gw : Nat) (ad : Addr) (c : Nat) (l : List S42) (i : Nat) : Prop :=
  ∀ (out : List Int) (W : World), GrSt w0 gd go_ gw ad l.length c out W → out.length + (groupsI (tree l i)).length ≤ 65536 * 65536 →
    Calls Try.prog 49 #[.int .i64 i, .pointer (some ⟨gd, 0, none⟩), .pointer (some ⟨go_, 0, none⟩), .pointer (some ⟨gw, 0, none⟩)] W
      (WalkPost w0 gd go_ gw ad l.length c (out ++ (groupsI (tree l i)).map Int.ofNat) W)

set_option maxRecDepth 100000 in
theorem walk_un (w0 W : World) (gd go_ gw : Nat) (ad : Addr) (c : Nat) (l : List S42) (out : List Int) (i a' : Nat) (hi : i < l.length) (hr0 : Kd.C k42 w0 (some ad) l.length l) (hc : l.length ≤ c) (hn : l.length ≤ 65536)
    (h : GrSt w0 gd go_ gw ad l.length c out W) (hk : (l.getD i z42).f0 = 4 ∨ (l.getD i z42).f0 = 5) (ha' : (l.getD i z42).f3 = (a' : Int)) (ih : WalkAt w0 gd go_ gw ad c l a') (hb : out.length + (groupsI (tree l a')).length ≤ 65536 * 65536) :
    Calls Try.prog 49 #[.int .i64 i, .pointer (some ⟨gd, 0, none⟩), .pointer (some ⟨go_, 0, none⟩), .pointer (some ⟨gw, 0, none⟩)] W
      (WalkPost w0 gd go_ gw ad l.length c (out ++ (groupsI (tree l a')).map Int.ofNat) W) := by
  have hu42 := Try.underlying42
  have hcd := (blk_cell h.hd 0).trans rfl
  have hlw : gw < W.heap.size := blk_lt h.hw
  have hcw : W.cell? ⟨gw, 0, none⟩ = some (.func (.func 49) #[] #[.pointer (some ⟨gd, 0, none⟩), .pointer (some ⟨go_, 0, none⟩), .pointer (some ⟨gw, 0, none⟩)]) := (blk_cell h.hw 0).trans rfl
  obtain ⟨k, s, n, a, b, hx⟩ : ∃ k s n a b, l.getD i z42 = ⟨k, s, n, a, b⟩ := ⟨_, _, _, _, _, rfl⟩
  obtain ⟨k0, k1, k2, k3, k4⟩ := cells42 hr0 hi hx h.bel
  rw [hx] at hk ha'
  have HS := Aside0.mk h
  have HIH := Aside0.mk ih
  have HBD := Aside0.mk hb
  clear h hx hr0 ih hb
  simp only at hk ha'
  subst ha'
  rcases hk with rfl | rfl
  all_goals
    have ha4 : arityI 4 = 1 := rfl
    have ha5 : arityI 5 = 1 := rfl
    go_enter Try.func49, Try.ntmps49
    go_wp2_with (go_at_call 50; refine (arity_calls _ _).mono ?_; rintro e w' ⟨rfl, rfl⟩)
    refine (HIH.out out _ (HS.out.alloc _) HBD.out).mono ?_
    rintro e W1 ⟨rfl, hS1, hK1⟩
    have HS1 := Aside0.mk hS1
    have HK1 := Aside0.mk hK1
    have hblk := hK1.keep W.heap.size _ 42 (0, 0) (by decide) (heap_alloc_new W _)
    have m0 := (blk_cell hblk 0).trans rfl
    clear hS1 hK1 hblk
    go_wp2_with (go_at_call 50; refine (arity_calls _ _).mono ?_; rintro e w' ⟨rfl, rfl⟩)
    go_end0
    exact ⟨rfl, HS1.out, (KeepNot.alloc _).trans HK1.out⟩

set_option maxRecDepth 100000 in
theorem walk_seq (w0 W : World) (gd go_ gw : Nat) (ad : Addr) (c : Nat) (l : List S42) (out : List Int) (i a' b' : Nat) (hi : i < l.length) (hr0 : Kd.C k42 w0 (some ad) l.length l) (hc : l.length ≤ c) (hn : l.length ≤ 65536)
    (h : GrSt w0 gd go_ gw ad l.length c out W) (hk : (l.getD i z42).f0 = 3) (ha' : (l.getD i z42).f3 = (a' : Int)) (hb' : (l.getD i z42).f4 = (b' : Int)) (ih : WalkAt w0 gd go_ gw ad c l a') (ih2 : WalkAt w0 gd go_ gw ad c l b')
    (hb : out.length + ((groupsI (tree l a')).length + (groupsI (tree l b')).length) ≤ 65536 * 65536) :
    Calls Try.prog 49 #[.int .i64 i, .pointer (some ⟨gd, 0, none⟩), .pointer (some ⟨go_, 0, none⟩), .pointer (some ⟨gw, 0, none⟩)] W
      (WalkPost w0 gd go_ gw ad l.length c (out ++ (groupsI (tree l a') ++ groupsI (tree l b')).map Int.ofNat) W) := by
  have hu42 := Try.underlying42
  have hcd := (blk_cell h.hd 0).trans rfl
  have hlw : gw < W.heap.size := blk_lt h.hw
  have hcw : W.cell? ⟨gw, 0, none⟩ = some (.func (.func 49) #[] #[.pointer (some ⟨gd, 0, none⟩), .pointer (some ⟨go_, 0, none⟩), .pointer (some ⟨gw, 0, none⟩)]) := (blk_cell h.hw 0).trans rfl
  obtain ⟨k, s, n, a, b, hx⟩ : ∃ k s n a b, l.getD i z42 = ⟨k, s, n, a, b⟩ := ⟨_, _, _, _, _, rfl⟩
  obtain ⟨k0, k1, k2, k3, k4⟩ := cells42 hr0 hi hx h.bel
  rw [hx] at hk ha' hb'
  have HS := Aside0.mk h
  have HIH := Aside0.mk ih
  have HIH2 := Aside0.mk ih2
  have HBD := Aside0.mk hb
  clear h hx hr0 ih hb ih2
  simp only at hk ha' hb'
  subst ha' hb' hk
  have ha3 : arityI 3 = 2 := rfl
  go_enter Try.func49, Try.ntmps49
  go_wp2_with (go_at_call 50; refine (arity_calls _ _).mono ?_; rintro e w' ⟨rfl, rfl⟩)
  refine (HIH.out out _ (HS.out.alloc _) (by have := HBD.out; omega)).mono ?_
  rintro e W1 ⟨rfl, hS1, hK1⟩
  have HS1 := Aside0.mk hS1
  have HK1 := Aside0.mk hK1
  have hblk := hK1.keep W.heap.size _ 42 (0, 0) (by decide) (heap_alloc_new W _)
  have m0 := (blk_cell hblk 0).trans rfl
  have m4 := (blk_cell hblk 4).trans rfl
  have hcw1 : W1.cell? ⟨gw, 0, none⟩ = some (.func (.func 49) #[] #[.pointer (some ⟨gd, 0, none⟩), .pointer (some ⟨go_, 0, none⟩), .pointer (some ⟨gw, 0, none⟩)]) := (blk_cell hS1.hw 0).trans rfl
  clear hS1 hK1 hblk
  go_wp2_with (go_at_call 50; refine (arity_calls _ _).mono ?_; rintro e w' ⟨rfl, rfl⟩)
  refine (HIH2.out _ _ HS1.out (by have := HBD.out; simp; omega)).mono ?_
  rintro e W2 ⟨rfl, hS2, hK2⟩
  have HS2 := Aside0.mk hS2
  have HK2 := Aside0.mk (((KeepNot.alloc _).trans HK1.out).trans hK2)
  clear hS2 hK2
  go_wp2_with fail
  go_end0
  exact ⟨rfl, by have := HS2.out; rwa [List.append_assoc, ← List.map_append] at this, HK2.out⟩

theorem GrSt.appended {w0 W W1 : World} {gd go_ gw : Nat} {ad : Addr} {n c : Nat} {out : List Int} {v v1 : Value} {p : Int} (h : GrSt w0 gd go_ gw ad n c out W) (hgo : W.heap[go_]? = some (.cells #[v] 28 (0, 0))) (hR : Kd.R (Kd.int .i64) 3 W w0.heap.size (fun _ => True) v out)
    (hR1 : Kd.R (Kd.int .i64) 3 W1 w0.heap.size (fun _ => True) v1 (out ++ [p])) (hB1 : Below w0.heap.size w0 W1) (hg : W.grownBy W1 v.ownBlock) :
    W1.heap[go_]? = some (.cells #[v] 28 (0, 0)) ∧ GrSt w0 gd go_ gw ad n c (out ++ [p]) (W1.setCell ⟨go_, 0, none⟩ v1) ∧ KeepNot [28, 3] W (W1.setCell ⟨go_, 0, none⟩ v1) ∧ W1.cell? ⟨gw, 0, none⟩ = some (.func (.func 49) #[] #[.pointer (some ⟨gd, 0, none⟩), .pointer (some ⟨go_, 0, none⟩), .pointer (some ⟨gw, 0, none⟩)]) := by
  have hne : some go_ ≠ v.ownBlock := Kd.R_ne hR hgo (by decide)
  have hgo1 := blk_grown hgo hg hne
  have hrow : ∀ k, v.ownBlock = some k → ∃ cs, W.heap[k]? = some (.cells cs 3 (0, 0)) := fun k hk => by
    obtain ⟨inner, ho⟩ := Kd.R_own hR
    exact own_typed ho k hk
  have hnt : ∀ {b : Nat} {cs : Array Value} {t : TypeId}, W.heap[b]? = some (.cells cs t (0, 0)) → t ≠ 3 → some b ≠ v.ownBlock := fun {b cs t} hb ht e => by
    obtain ⟨cs', h'⟩ := hrow b e.symm
    rw [hb] at h'
    injection h' with h'
    injection h' with _ h2
    exact ht h2
  have hd1 := blk_grown h.hd hg (hnt h.hd (by decide))
  have hw1 := blk_grown h.hw hg (hnt h.hw (by decide))
  refine ⟨hgo1, ⟨blk_far hd1 (p := ⟨go_, 0, none⟩) (blk_ne hd1 hgo1 (by decide)) v1, blk_far hw1 (p := ⟨go_, 0, none⟩) (blk_ne hw1 hgo1 (by decide)) v1, ⟨v1, ?_, ?_⟩, h.lo, ?_⟩, ?_, (blk_cell hw1 0).trans rfl⟩
  · simpa using blk_set hgo1 0 v1
  · exact Kd.R_set hR1 hgo1 (by intro q hq; simp [Kd.int, Kd.scalar] at hq; omega) 0 v1
  · exact hB1.setCell (p := ⟨go_, 0, none⟩) h.lo _
  · refine (KeepNot.grown hg fun k hk => ?_).trans (KeepNot.setCell (p := ⟨go_, 0, none⟩) hgo1 (by decide) v1)
    obtain ⟨cs, hb⟩ := hrow k hk
    exact ⟨cs, 3, by decide, hb⟩

theorem R_slice1 {α : Type} {d : Kd α} {e base : Nat} {ok : Nat → Prop} {w : World} {v : Value} {xs : List α} {p : α} (h : d.R e w base ok v (xs ++ [p])) : ∃ A c, v = .slice A (xs.length + 1) c := by
  obtain ⟨A, c, he⟩ := Kd.R_slice h
  exact ⟨A, c, by rw [he, List.length_append]; rfl⟩
theorem R_lt {α : Type} {d : Kd α} {e base : Nat} {ok : Nat → Prop} {w : World} {v : Value} {xs : List α} (h : d.R e w base ok v xs) (k : Nat) (hk : v.ownBlock = some k) : k < w.heap.size := by
  obtain ⟨inner, ho⟩ := Kd.R_own h
  exact own_lt ho k hk
theorem R_new_ne {α : Type} {d : Kd α} {e base : Nat} {ok : Nat → Prop} {w : World} {v : Value} {xs : List α} (h : d.R e w base ok v xs) : some w.heap.size ≠ v.ownBlock := fun e => Nat.lt_irrefl _ (R_lt h _ e.symm)

set_option maxRecDepth 100000 in
theorem walk_group (w0 W : World) (gd go_ gw : Nat) (ad : Addr) (c : Nat) (l : List S42) (out : List Int) (i a' : Nat) (hi : i < l.length) (hr0 : Kd.C k42 w0 (some ad) l.length l) (hc : l.length ≤ c) (hn : l.length ≤ 65536)
    (h : GrSt w0 gd go_ gw ad l.length c out W) (hk : (l.getD i z42).f0 = 6) (ha' : (l.getD i z42).f3 = (a' : Int)) (ih : WalkAt w0 gd go_ gw ad c l a') (hb : out.length + ((groupsI (tree l a')).length + 1) ≤ 65536 * 65536) :
    Calls Try.prog 49 #[.int .i64 i, .pointer (some ⟨gd, 0, none⟩), .pointer (some ⟨go_, 0, none⟩), .pointer (some ⟨gw, 0, none⟩)] W
      (WalkPost w0 gd go_ gw ad l.length c (out ++ (i :: groupsI (tree l a')).map Int.ofNat) W) := by
  have hu42 := Try.underlying42
  have hcd := (blk_cell h.hd 0).trans rfl
  obtain ⟨v, hgo, hR⟩ := h.ho
  have hco : W.cell? ⟨go_, 0, none⟩ = some v := (blk_cell hgo 0).trans rfl
  have hlo : go_ < W.heap.size := blk_lt hgo
  obtain ⟨k, s, n, a, b, hx⟩ : ∃ k s n a b, l.getD i z42 = ⟨k, s, n, a, b⟩ := ⟨_, _, _, _, _, rfl⟩
  obtain ⟨k0, k1, k2, k3, k4⟩ := cells42 hr0 hi hx h.bel
  rw [hx] at hk ha'
  have HS := Aside0.mk h
  have HGO := Aside0.mk hgo
  have HR := Aside0.mk hR
  have HIH := Aside0.mk ih
  have HBD := Aside0.mk hb
  have hne1 : go_ ≠ W.heap.size := by omega
  have hne2 : W.heap.size ≠ go_ := by omega
  have hne3 : gw ≠ go_ := blk_ne h.hw hgo (by decide)
  have hne4 : go_ ≠ gw := fun e => hne3 e.symm
  clear h hx hr0 ih hb hgo hR
  simp only at hk ha'
  subst ha' hk
  have ha6 : arityI 6 = 1 := rfl
  go_enter Try.func49, Try.ntmps49
  go_wp2_with (at_builtin; refine Kd.R_append (Kd.int .i64) (w0 := w0) w0.heap.size rfl (.tmp 13) (.tmp 15) 28 3 (.int .i64 0) 8 rfl Try.underlying28 info3 rfl (by decide) (by omega) v out (i : Int) [.int .i64 i] (fun _ => True) (fun _ => False) rfl ?aX ?aP (fun _ hk => hk.elim) ?aF ?aO ?aB ?aS ?aL ?_; (case aX => simp [Act.eval]); (case aP => exact rfl); (case aF => exact (fun _ _ => trivial)); (case aO => exact Kd.R_alloc HR.out _); (case aB => exact (HS.out.alloc _).bel); (case aS => exact (HS.out.alloc _).bel.size); (case aL => have := HBD.out; omega); intro v1 w1 hR1 hB1 hg1 hat1; obtain ⟨A1, c1, rfl⟩ := R_slice1 hR1; have HX := Aside0.mk ((HS.out.alloc _).appended (blk_alloc HGO.out _) (Kd.R_alloc HR.out _) hR1 hB1 hg1); have hfz : w1.frozen? ⟨go_, 0, none⟩ = false := blk_frozen HX.out.1 0; have hcc : w1.cell? ⟨go_, 0, none⟩ = some v := (blk_cell HX.out.1 0).trans rfl; have HT := Aside0.mk (blk_grown (heap_alloc_new W _) hg1 (R_new_ne HR.out)); have m0 : w1.cell? ⟨W.heap.size, 0, none⟩ = some (.int .i64 6) := (blk_cell HT.out 0).trans rfl; have m3 : w1.cell? ⟨W.heap.size, 3, none⟩ = some (.int .i64 a') := (blk_cell HT.out 3).trans rfl; have mw := HX.out.2.2.2; clear hR1 hB1 hg1 hat1)
  go_wp2_with (go_at_call 50; refine (arity_calls _ _).mono ?_; rintro e w' ⟨rfl, rfl⟩)
  refine (HIH.out _ _ HX.out.2.1 (by have := HBD.out; simp; omega)).mono ?_
  rintro e W2 ⟨rfl, hS2, hK2⟩
  have HS2 := Aside0.mk hS2
  have HK2 := Aside0.mk (((KeepNot.alloc _).trans HX.out.2.2.1).trans hK2)
  have hblk := hK2.keep W.heap.size _ 42 (0, 0) (by decide) (blk_far HT.out (p := ⟨go_, 0, none⟩) hne2 _)
  have m00 := (blk_cell hblk 0).trans rfl
  clear hS2 hK2 hblk
  go_wp2_with (go_at_call 50; refine (arity_calls _ _).mono ?_; rintro e w' ⟨rfl, rfl⟩)
  go_end0
  exact ⟨rfl, by have := HS2.out; rw [List.append_assoc] at this; exact this, HK2.out⟩

/-- The inner function of document.Groups at every node of a valid document. -/
theorem walk_any (w0 : World) (gd go_ gw : Nat) (ad : Addr) (c : Nat) (l : List S42) (hv : ∀ i, i < l.length → NodeOk i (l.getD i z42)) (hr0 : Kd.C k42 w0 (some ad) l.length l) (hc : l.length ≤ c) (hn : l.length ≤ 65536) :
    ∀ i, i < l.length → WalkAt w0 gd go_ gw ad c l i := by
  intro i
  induction i using Nat.strongRecOn with
  | _ i ih =>
    intro hi out W h hb
    have ho := hv i hi
    by_cases h3 : (l.getD i z42).f0 < 3
    · have hk : (l.getD i z42).f0 = 0 ∨ (l.getD i z42).f0 = 1 ∨ (l.getD i z42).f0 = 2 := by have := ho.kind; omega
      have hg : groupsI (tree l i) = [] := by
        rcases hk with hk | hk | hk
        · rw [tree_text hk]; rfl
        · rw [tree_line hk]; rfl
        · rw [tree_hard hk]; rfl
      rw [hg, List.map_nil, List.append_nil]
      exact walk_leaf w0 W gd go_ gw ad c l out i hi hr0 hc hn h hk
    · obtain ⟨ha0, ha1⟩ := ho.a (by omega)
      obtain ⟨a', ha'⟩ := Int.eq_ofNat_of_zero_le ha0
      have iha := ih a' (by omega) (by omega)
      have e1 : (l.getD i z42).f3.toNat = a' := by omega
      by_cases hk3 : (l.getD i z42).f0 = 3
      · obtain ⟨hb0, hb1⟩ := ho.b hk3
        obtain ⟨b', hb'⟩ := Int.eq_ofNat_of_zero_le hb0
        have ihb := ih b' (by omega) (by omega)
        have e2 : (l.getD i z42).f4.toNat = b' := by omega
        rw [tree_seq hv hi hk3, e1, e2] at hb ⊢
        simp only [groupsI, List.length_append] at hb ⊢
        exact walk_seq w0 W gd go_ gw ad c l out i a' b' hi hr0 hc hn h hk3 ha' hb' iha ihb (by omega)
      by_cases hk6 : (l.getD i z42).f0 = 6
      · rw [tree_group hv hi hk6, e1] at hb ⊢
        simp only [groupsI, List.length_cons] at hb ⊢
        exact walk_group w0 W gd go_ gw ad c l out i a' hi hr0 hc hn h hk6 ha' iha (by omega)
      · have hk : (l.getD i z42).f0 = 4 ∨ (l.getD i z42).f0 = 5 := by have := ho.kind; omega
        have hg : groupsI (tree l i) = groupsI (tree l a') := by
          rcases hk with hk | hk
          · rw [tree_nest hv hi hk, e1]; rfl
          · rw [tree_align hv hi hk, e1]; rfl
        rw [hg] at hb ⊢
        exact walk_un w0 W gd go_ gw ad c l out i a' hi hr0 hc hn h hk ha' iha hb

end Go.Proofs.Ythmmdmnbcecooaa.A
