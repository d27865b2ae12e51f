/- The contracts of the writer's add and feed. No condition of its own. -/
import Derived.Test.YthmmdmnbcecooaaB2
namespace Go.Proofs.Ythmmdmnbcecooaa.A
open Go.RowKit Go.Proofs.YthmmdmnbcecooaaW.PrintWords Go.Proofs.YthmmdmnbcecooaaW.PrintLast Go.Proofs.YthmmdmnbcecooaaW.PrintMore
set_option linter.unusedVariables false
set_option linter.unusedSimpArgs false

/-- What a writer holds. -/
structure St where
  out : List UInt8
  col : Int
  pend : Int
  wrong : Bool

def addO (st : St) (s : List UInt8) : Option St :=
  if s = [] then some st
  else if st.col = 0 then
    if 0 ≤ st.pend ∧ st.out.length + st.pend.toNat + s.length ≤ 140737488355328 then some ⟨st.out ++ (List.replicate st.pend.toNat 32 ++ s), st.pend + s.length, st.pend, st.wrong⟩ else none
  else if 0 ≤ st.col ∧ st.col ≤ 140737488355328 ∧ st.out.length + s.length ≤ 140737488355328 then some ⟨st.out ++ s, st.col + s.length, st.pend, st.wrong⟩ else none

def feedO (st : St) (indent : Int) : Option St :=
  if st.out.length + 1 ≤ 140737488355328 then some ⟨st.out ++ [10], 0, indent, st.wrong⟩ else none

def WrS (w0 : World) (g : Nat) (st : St) (W : World) : Prop := WrSt w0 g st.out st.col st.pend st.wrong W
def WrPost (w0 : World) (g : Nat) (st : St) (W : World) (e : Ending) (W' : World) : Prop :=
  e = .returned (.tuple #[]) ∧ WrS w0 g st W' ∧ KeepNot [83, 5] W W'

section
variable {w0 W : World} {g : Nat} {out : List UInt8} {col pend : Int} {wrong : Bool} (h : WrSt w0 g out col pend wrong W)
include h
theorem WrSt.cell2 : W.cell? ⟨g, 2, none⟩ = some (.int .i64 col) := by
  obtain ⟨p, v, hb, _⟩ := h.hb
  exact (blk_cell hb 2).trans rfl
theorem WrSt.cell3 : W.cell? ⟨g, 3, none⟩ = some (.int .i64 pend) := by
  obtain ⟨p, v, hb, _⟩ := h.hb
  exact (blk_cell hb 3).trans rfl
theorem WrSt.cell4 : W.cell? ⟨g, 4, none⟩ = some (.bool wrong) := by
  obtain ⟨p, v, hb, _⟩ := h.hb
  exact (blk_cell hb 4).trans rfl
theorem WrSt.free (i : Nat) : W.frozen? ⟨g, i, none⟩ = false := by
  obtain ⟨p, v, hb, _⟩ := h.hb
  exact blk_frozen hb i
theorem WrSt.set2 (c : Int) : WrSt w0 g out c pend wrong (W.setCell ⟨g, 2, none⟩ (.int .i64 c)) := by
  obtain ⟨p, v, hb, hp, ho⟩ := h.hb
  exact ⟨⟨p, v, blk_put (cs := #[p, v, .int .i64 col, .int .i64 pend, .bool wrong]) hb 2 _ rfl, hp, own_setCell ho (p := ⟨g, 2, none⟩) (own_ne ho hb (by decide)) _⟩, h.lo, h.bel.setCell (p := ⟨g, 2, none⟩) h.lo _⟩
theorem WrSt.set3 (c : Int) : WrSt w0 g out col c wrong (W.setCell ⟨g, 3, none⟩ (.int .i64 c)) := by
  obtain ⟨p, v, hb, hp, ho⟩ := h.hb
  exact ⟨⟨p, v, blk_put (cs := #[p, v, .int .i64 col, .int .i64 pend, .bool wrong]) hb 3 _ rfl, hp, own_setCell ho (p := ⟨g, 3, none⟩) (own_ne ho hb (by decide)) _⟩, h.lo, h.bel.setCell (p := ⟨g, 3, none⟩) h.lo _⟩
theorem WrSt.set4 (c : Bool) : WrSt w0 g out col pend c (W.setCell ⟨g, 4, none⟩ (.bool c)) := by
  obtain ⟨p, v, hb, hp, ho⟩ := h.hb
  exact ⟨⟨p, v, blk_put (cs := #[p, v, .int .i64 col, .int .i64 pend, .bool wrong]) hb 4 _ rfl, hp, own_setCell ho (p := ⟨g, 4, none⟩) (own_ne ho hb (by decide)) _⟩, h.lo, h.bel.setCell (p := ⟨g, 4, none⟩) h.lo _⟩
theorem WrSt.keep (i : Nat) (v : Value) : KeepNot [83, 5] W (W.setCell ⟨g, i, none⟩ v) := by
  obtain ⟨p, v', hb, _⟩ := h.hb
  exact KeepNot.setCell (p := ⟨g, i, none⟩) hb (by decide) v
end

set_option maxRecDepth 100000 in
theorem feed_calls (w0 W : World) (g : Nat) (st st' : St) (indent : Int) (h : WrS w0 g st W) (hf : feedO st indent = some st') :
    Calls Try.prog 122 #[.pointer (some ⟨g, 0, none⟩), .int .i64 indent] W (WrPost w0 g st' W) := by
  unfold feedO at hf
  split at hf
  case isFalse => cases hf
  case isTrue hl =>
    obtain rfl := Option.some.inj hf
    obtain ⟨out, col, pend, wrong⟩ := st
    have HS := Aside0.mk h
    have HL := Aside0.mk hl
    clear h hl hf
    go_enter Try.func122, Try.ntmps122
    go_wp2_with fail
    refine (writeByte_calls w0 W g out col pend wrong HS.out HL.out).mono ?_
    rintro e W1 ⟨rfl, h1, hk1⟩
    have c2 := h1.cell2
    have c3 := h1.cell3
    have f2 := h1.free 2
    have f3 := h1.free 3
    have H1 := Aside0.mk h1
    have HK := Aside0.mk hk1
    clear h1 hk1
    go_wp2_with fail
    go_end0
    exact ⟨rfl, (H1.out.set2 0).set3 indent, (HK.out.trans (H1.out.keep 2 _)).trans ((H1.out.set2 0).keep 3 _)⟩

theorem repeat_spaces (c : Nat) : Lib.repeatL [32] c = List.replicate c 32 := by
  induction c with
  | zero => rfl
  | succ c ih => simp only [Lib.repeatL, ih]; rfl

theorem spaces_data (c : Nat) : ((⟨(Lib.repeatL (⟨#[32]⟩ : ByteArray).data.toList c).toArray⟩ : ByteArray)).data.toList = List.replicate c 32 := by
  rw [← repeat_spaces]

theorem spaces_size (c : Nat) : ((⟨(Lib.repeatL (⟨#[32]⟩ : ByteArray).data.toList c).toArray⟩ : ByteArray)).size = c := by
  rw [← data_length, spaces_data, List.length_replicate]

set_option maxRecDepth 100000 in
theorem add_calls (w0 W : World) (g : Nat) (st st' : St) (s : ByteArray) (h : WrS w0 g st W) (hf : addO st s.data.toList = some st') :
    Calls Try.prog 120 #[.pointer (some ⟨g, 0, none⟩), .string s] W (WrPost w0 g st' W) := by
  obtain ⟨out, col, pend, wrong⟩ := st
  by_cases hs : s.data.toList = []
  · have he : s.toList = [] := by rw [ByteArray.toList_eq]; exact hs
    unfold addO at hf
    rw [if_pos hs] at hf
    obtain rfl := Option.some.inj hf
    have HS := Aside0.mk h
    clear h hf hs
    go_enter Try.func120, Try.ntmps120
    go_wp2_with fail
    go_end0
    exact ⟨rfl, HS.out, KeepNot.refl _ _⟩
  · have he : ¬ (s.toList = []) := by rw [ByteArray.toList_eq]; exact hs
    have hsz := data_length s
    have he2 : s.toList.isEmpty = false := by rw [List.isEmpty_eq_false_iff]; exact he
    unfold addO at hf
    rw [if_neg hs] at hf
    simp only at hf
    have c2 := WrSt.cell2 h
    have c3 := WrSt.cell3 h
    by_cases hc : col = 0
    · subst hc
      rw [if_pos rfl] at hf
      split at hf
      case isFalse => cases hf
      case isTrue hl =>
        obtain rfl := Option.some.inj hf
        obtain ⟨hl1, hl2⟩ := hl
        obtain ⟨c, rfl⟩ := Int.eq_ofNat_of_zero_le hl1
        rw [Int.toNat_natCast] at hl2 ⊢
        have HS := Aside0.mk h
        have HL := Aside0.mk hl2
        have hsz2 : s.size ≤ 140737488355328 := by omega
        have hcap : c ≤ 140737488355328 := by omega
        clear h hf hs hl2
        go_enter Try.func120, Try.ntmps120
        go_wp2_with fail
        have h1 := (HS.out : WrSt w0 g out 0 c wrong W).drewN 1
        have hd : WrSt w0 g out 0 c wrong W.drew := h1
        have HD := Aside0.mk hd
        have c3' : W.drew.cell? ⟨g, 3, none⟩ = some (.int .i64 c) := hd.cell3
        clear h1 hd
        go_region_with (first | (go_at_call 84; refine (Try.strings_Repeat ⟨#[32]⟩ c _ (by omega) (by rw [show (⟨#[32]⟩ : ByteArray).size = 1 from rfl]; omega)).mono ?_; rintro e w1 ⟨rfl, hb1⟩; have HB1 := Aside0.mk (HD.out.below hb1); have HK1 := Aside0.mk (KeepNot.below (bad := [83, 5]) hb1); clear hb1) | (go_at_call 92; refine (writeString_calls w0 _ g out 0 c wrong _ HB1.out (by rw [spaces_size]; have := HL.out; omega)).mono ?_; rintro e w2 ⟨rfl, h2, hk2⟩; have H2 := Aside0.mk h2; have HK2 := Aside0.mk hk2; clear h2 hk2))
        have h2 := H2.out
        rw [repeat_spaces] at h2
        have H3 := Aside0.mk h2
        have d3 := h2.cell3
        have f2 := h2.free 2
        have d2 := h2.cell2
        clear h2 H2 c2 c3 c3'
        go_wp2_with fail
        refine (writeString_calls w0 _ g _ c c wrong s (H3.out.set2 c) (by have := HL.out; rw [List.length_append, List.length_replicate]; omega)).mono ?_
        rintro e w3 ⟨rfl, h4, hk4⟩
        have H4 := Aside0.mk h4
        have HK4 := Aside0.mk hk4
        have d2 := h4.cell2
        have f2 := h4.free 2
        clear h4 hk4
        go_wp2_with fail
        go_end0
        refine ⟨rfl, ?_, ?_⟩
        · have := H4.out.set2 ((c : Int) + s.size)
          rw [List.append_assoc] at this
          show WrSt w0 g _ _ _ _ _
          rw [hsz]
          exact this
        · exact ((((KeepNot.drewN 1).trans HK1.out).trans HK2.out).trans ((H3.out.keep 2 _).trans HK4.out)).trans (H4.out.keep 2 _)
    · rw [if_neg hc] at hf
      split at hf
      case isFalse => cases hf
      case isTrue hl =>
        obtain rfl := Option.some.inj hf
        obtain ⟨hl0, hl1, hl2⟩ := hl
        have hcb : (col == 0) = false := beq_eq_false_iff_ne.2 hc
        have HS := Aside0.mk h
        have HL := Aside0.mk (show out.length + s.data.toList.length ≤ 140737488355328 from hl2)
        have hsz2 : s.size ≤ 140737488355328 := by omega
        clear h hf hs hl2 hc
        go_enter Try.func120, Try.ntmps120
        go_wp2_with fail
        refine (writeString_calls w0 _ g out col pend wrong s HS.out (by have := HL.out; omega)).mono ?_
        rintro e w3 ⟨rfl, h4, hk4⟩
        have H4 := Aside0.mk h4
        have HK4 := Aside0.mk hk4
        have d2 := h4.cell2
        have f2 := h4.free 2
        clear h4 hk4
        go_wp2_with fail
        go_end0
        refine ⟨rfl, ?_, HK4.out.trans (H4.out.keep 2 _)⟩
        have := H4.out.set2 (col + s.size)
        show WrSt w0 g _ _ _ _ _
        rw [hsz]
        exact this

end Go.Proofs.Ythmmdmnbcecooaa.A
