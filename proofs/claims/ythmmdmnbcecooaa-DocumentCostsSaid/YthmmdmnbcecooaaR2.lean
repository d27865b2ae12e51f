/- The contract of document.Render. No condition of its own. -/
import Derived.Test.YthmmdmnbcecooaaR1
import Derived.Test.YthmmdmnbcecooaaG5
namespace Go.Proofs.Ythmmdmnbcecooaa.A
open Go.RowKit Go.Proofs.YthmmdmnbcecooaaW.PrintWords Go.Proofs.YthmmdmnbcecooaaW.PrintLast Go.Proofs.YthmmdmnbcecooaaW.PrintMore
set_option linter.unusedVariables false
set_option linter.unusedSimpArgs false

def st0 : St := ⟨[], 0, 0, false⟩
def rootT (l : List S42) : Doc := tree l (l.length - 1)

/-- What document.Render answers on a valid document with a choice of the right length. -/
def renderO (l : List S42) (flat : List Bool) : Option (ByteArray × Int) :=
  (wrO (chOf ((groupsI (rootT l)).zip flat)) (rootT l) 0 false st0).bind fun st => some (if st.wrong then (⟨#[]⟩, 1) else (⟨st.out.toArray⟩, 0))

def document_Render.f (l0 : List S42) (l1 : List Bool) : Option (ByteArray × Int) :=
  if checkI l0 ≠ 0 then some (⟨#[]⟩, checkI l0)
  else if l1.length ≠ (groupsI (rootT l0)).length then some (⟨#[]⟩, 1)
  else renderO l0 l1

def RenderPost (r1 : ByteArray) (r2 : Int) (w : World) (e : Ending) (w' : World) : Prop := e = .returned (.tuple #[.string r1, .int .i64 r2]) ∧ Below w.heap.size w w'

set_option maxRecDepth 100000 in
theorem render_bad (A0 : Option Addr) (c0 : Nat) (l0 : List S42) (A1 : Option Addr) (n1 c1 : Nat) (w : World) (hr0 : Kd.C k42 w A0 l0.length l0) (hc0 : l0.length ≤ c0) (h : checkI l0 ≠ 0) :
    Calls Try.prog 24 #[.slice A0 l0.length c0, .slice A1 n1 c1] w (RenderPost ⟨#[]⟩ (checkI l0) w) := by
  have HR := Aside0.mk hr0
  have hb : (checkI l0 != 0) = true := by simpa using h
  have HG := Aside0.mk (show document_Groups.f l0 = some ([], checkI l0) by unfold document_Groups.f; rw [if_neg h])
  clear hr0 h
  go_enter Try.func24, Try.ntmps24
  go_wp2_with fail
  refine (document_Groups.calls A0 c0 l0 [] (checkI l0) w HR.out hc0 HG.out).mono ?_
  rintro e w1 ⟨v0, rfl, _, hb1⟩
  have HB := Aside0.mk hb1
  clear hb1
  go_wp2_with fail
  go_ret2
  exact ⟨rfl, HB.out⟩

set_option maxRecDepth 100000 in
theorem render_len (A0 : Option Addr) (c0 : Nat) (l0 : List S42) (A1 : Option Addr) (n1 c1 : Nat) (w : World) (hr0 : Kd.C k42 w A0 l0.length l0) (hc0 : l0.length ≤ c0) (h : checkI l0 = 0) (hl : n1 ≠ (groupsI (rootT l0)).length) :
    Calls Try.prog 24 #[.slice A0 l0.length c0, .slice A1 n1 c1] w (RenderPost ⟨#[]⟩ 1 w) := by
  have HR := Aside0.mk hr0
  have hgl : (groupsL l0).length = (groupsI (rootT l0)).length := by simp [groupsL, rootT]
  have hne : ((n1 : Int) != ((groupsL l0).length : Int)) = true := by rw [bne_iff_ne]; omega
  have hne2 : (n1 != (groupsL l0).length) = true := by rw [bne_iff_ne]; omega
  have HG := Aside0.mk (show document_Groups.f l0 = some (groupsL l0, 0) by unfold document_Groups.f; rw [if_pos h])
  clear hr0 h hgl
  go_enter Try.func24, Try.ntmps24
  go_wp2_with fail
  refine (document_Groups.calls A0 c0 l0 (groupsL l0) 0 w HR.out hc0 HG.out).mono ?_
  rintro e w1 ⟨v0, rfl, hr1, hb1⟩
  obtain ⟨A, c, rfl, _, _⟩ := Kd.R_reads hr1
  have HB := Aside0.mk hb1
  clear hb1 hr1
  go_wp2_with fail
  go_ret2
  exact ⟨rfl, HB.out⟩
/-! main -/
theorem KeepNot.cell {W W1 : World} (h : KeepNot [] W W1) {a : Addr} {v : Value} (hc : W.cell? a = some v) : W1.cell? a = some v := by
  unfold World.cell? at hc ⊢
  cases hb : W.heap[a.block]? with
  | none => rw [hb] at hc; cases hc
  | some o =>
    rw [hb] at hc
    cases o with
    | cells cs t fr => rw [h.keep _ _ _ _ (by simp) hb]; exact hc
    | _ => cases hc

theorem renderO_some {l : List S42} {flat : List Bool} {r1 : ByteArray} {r2 : Int} (h : renderO l flat = some (r1, r2)) :
    ∃ st, wrO (chOf ((groupsI (rootT l)).zip flat)) (tree l (l.length - 1)) 0 false st0 = some st ∧ (if st.wrong = true then r1 = ⟨#[]⟩ ∧ r2 = 1 else r1 = ⟨st.out.toArray⟩ ∧ r2 = 0) := by
  obtain ⟨st, h1, h2⟩ := Option.bind_eq_some_iff.1 h
  refine ⟨st, h1, ?_⟩
  split at h2
  · rename_i hw
    rw [if_pos hw]
    simp only [Option.some.injEq, Prod.mk.injEq] at h2
    exact ⟨h2.1.symm, h2.2.symm⟩
  · rename_i hw
    rw [if_neg hw]
    simp only [Option.some.injEq, Prod.mk.injEq] at h2
    exact ⟨h2.1.symm, h2.2.symm⟩

theorem rd_map {gs : List Nat} {k : Nat} (h : k < gs.length) : rd (gs.map Int.ofNat) k = (gs[k] : Int) := by simp [rd, h]

theorem zip_fresh {gs : List Nat} {fl : List Bool} (hnd : gs.Nodup) {k : Nat} (hk : k < gs.length) : ∀ p ∈ (gs.zip fl).take k, p.1 ≠ gs[k] := by
  rintro ⟨a, b⟩ hp e
  obtain ⟨j, hj, he⟩ := List.mem_take_iff_getElem.1 hp
  simp only [List.length_zip] at hj
  rw [List.getElem_zip] at he
  have h1 : gs[j]'(by omega) = gs[k] := by have := congrArg Prod.fst he; simp only at this e; rw [this]; exact e
  have := (List.getElem_inj hnd).1 h1
  omega

set_option maxHeartbeats 1000000 in
set_option maxRecDepth 100000 in
theorem render_pos (ad : Addr) (c0 : Nat) (l0 : List S42) (a1 : Addr) (c1 : Nat) (l1 : List Bool) (w : World) (hr0 : Kd.C k42 w (some ad) l0.length l0) (hc0 : l0.length ≤ c0) (hr1 : Kd.C Kd.bool w (some a1) l1.length l1)
    (h : checkI l0 = 0) (hl : l1.length = (groupsI (rootT l0)).length) (hpos : 0 < (groupsI (rootT l0)).length) (r1 : ByteArray) (r2 : Int) (hro : renderO l0 l1 = some (r1, r2)) :
    Calls Try.prog 24 #[.slice (some ad) l0.length c0, .slice (some a1) l1.length c1] w (RenderPost r1 r2 w) := by
  obtain ⟨hp, hn, hv, _⟩ := check_valid h
  have hnd := groups_nodup hv (check_once h) (l0.length - 1) (by omega)
  have hgl : (groupsL l0).length = (groupsI (rootT l0)).length := by simp [groupsL, rootT]
  have hgm : (groupsL l0).length ≤ 65536 := by rw [hgl]; exact groups_le h
  have hne : ((l1.length : Int) != ((groupsL l0).length : Int)) = false := by rw [bne_eq_false_iff_eq]; omega
  have hne2 : (l1.length != (groupsL l0).length) = false := by rw [bne_eq_false_iff_eq]; omega
  obtain ⟨st, hst, hres⟩ := renderO_some hro
  have HST := Aside0.mk hst
  have HRES := Aside0.mk hres
  have HR := Aside0.mk hr0
  have HR1 := Aside0.mk hr1
  have HL := Aside0.mk (show l1.length = (groupsL l0).length ∧ (groupsL l0).length = (groupsI (rootT l0)).length by omega)
  have HN := Aside0.mk (show (groupsI (rootT l0)).Nodup from hnd)
  have HV := Aside0.mk hv
  have HG := Aside0.mk (show document_Groups.f l0 = some (groupsL l0, 0) by unfold document_Groups.f; rw [if_pos h])
  have hmm := @run_makeMap Try.prog
  have hpos' : 0 < (groupsL l0).length := by omega
  clear hr0 h hgl hl hr1 hnd hv hro hst hres
  go_enter Try.func24, Try.ntmps24
  go_wp2_with fail
  refine (document_Groups.calls (some ad) c0 l0 (groupsL l0) 0 w HR.out hc0 HG.out).mono ?_
  rintro e w1 ⟨v0, rfl, hg1, hb1⟩
  obtain ⟨A, c, rfl, hcc, hcg⟩ := Kd.R_reads hg1
  have HB := Aside0.mk hb1
  have HCG := Aside0.mk hcg
  have hws := hb1.size
  clear hb1 hg1 hcg
  rcases A with _ | ag
  · obtain ⟨ad', he, _⟩ := Kd.at_int HCG.out 0 (by omega) (by omega)
    cases he
  · go_wp2_with fail
    go_loopg [28] (groupsL l0).length (fun d v28 W => ∃ (k : Nat), v28 = .int .i64 k ∧ Aside0 (k + d = (groupsL l0).length) ∧ Aside0 (MapSt W w1.heap.size (((groupsI (rootT l0)).zip l1).take k)) ∧ Aside0 (KeepNot [] w1 W) ∧ Aside0 (Below w.heap.size w W))
    case atStart => exact ⟨0, rfl, ⟨by omega⟩, ⟨by simpa [MapSt, mkEs] using heap_alloc_new w1 (Obj.map #[] 0)⟩, ⟨KeepNot.alloc _⟩, ⟨HB.out.alloc hws _⟩⟩
    case round =>
      obtain ⟨k, rfl, HI, HMS, HKN, HB2⟩ := hrel
      by_cases hlt : k < (groupsL l0).length
      · have hlt2 : k < l1.length := by have := HL.out; omega
        have hlt3 : k < (groupsI (rootT l0)).length := by have := HL.out; omega
        obtain ⟨ad', he, hcg⟩ := Kd.at_int HCG.out k (by omega) (by omega)
        obtain rfl := Option.some.inj he
        obtain ⟨ad', he, hcb⟩ := Kd.at_bool HR1.out k (by omega) (by omega)
        obtain rfl := Option.some.inj he
        have hrg : rd (groupsL l0) k = ((groupsI (rootT l0))[k] : Int) := rd_map hlt3
        have hrb : rdOf false l1 k = l1[k] := by simp [rdOf, hlt2]
        rw [hrg, Int.toNat_natCast] at hcg
        rw [hrb, Int.toNat_natCast] at hcb
        have g1 := HKN.out.cell hcg
        have g2 := pw_cell_below HB2.out hcb
        obtain ⟨W', hrun, hms, hbm, hkm⟩ := update_run HMS.out ((groupsI (rootT l0))[k]) (l1[k]) (zip_fresh HN.out hlt3)
        have HMS' := Aside0.mk (show MapSt W' w1.heap.size (((groupsI (rootT l0)).zip l1).take (k + 1)) by
          rw [List.take_succ_eq_append_getElem (by rw [List.length_zip]; omega), List.getElem_zip]; exact hms)
        have HKN' := Aside0.mk (HKN.out.trans hkm)
        have HB2' := Aside0.mk (HB2.out.trans (hbm.mono hws))
        have hlt4 : (k : Int) < l1.length := by omega
        clear hcg hcb hrg hrb hms hbm hkm he
        generalize (groupsI (rootT l0))[k] = gk_ at g1 hrun
        generalize l1[k] = bk_ at g2 hrun
        go_wp2_with fail
        go_roundg ((groupsL l0).length - (k + 1))
        case measure => have := HI.out; omega
        case rel => exact ⟨k + 1, by go_num, ⟨by omega⟩, HMS', HKN', HB2'⟩
      · have hk : ((groupsI (rootT l0)).zip l1).take k = (groupsI (rootT l0)).zip l1 := by
          apply List.take_of_length_le
          rw [List.length_zip]
          have := HL.out
          omega
        rw [hk] at HMS
        clear hk
        go_wp2_with fail
        have hsw : w.heap.size ≤ wr.heap.size := HB2.out.size
        have hB3 : Below w.heap.size w (wr.alloc (Obj.cells #[Value.pointer none, Value.slice none 0 0, Value.int IntKind.i64 0, Value.int IntKind.i64 0, Value.bool false] 83)) := HB2.out.alloc hsw _
        have hparts := parts_calls ad c0 w1.heap.size l0 (chOf ((groupsI (rootT l0)).zip l1)) _ hn hp HV.out (Kd.C_below HR.out hB3) hc0 (by have := blk_lt HMS.out; simp; omega) (fun W hW i hi => lookup_run (show MapSt W w1.heap.size ((groupsI (rootT l0)).zip l1) from (hW.trans (blk_old_alloc (blk_lt HMS.out) _)).trans HMS.out) i)
        rw [partV_eq] at hparts
        refine hparts.mono ?_
        rintro e W2 ⟨rfl, hb2⟩
        have hB4 := hB3.trans (hb2.mono (by simp; omega))
        have HWS := Aside0.mk (show WrS w wr.heap.size st0 W2 from ⟨⟨.pointer none, .slice none 0 0, (hb2.block wr.heap.size (by simp)).trans (heap_alloc_new wr _), .inl rfl, own_nil _ _ _ _⟩, hsw, hB4⟩)
        have hpm := part_method (chOf ((groupsI (rootT l0)).zip l1)) (tree l0 (l0.length - 1))
        have hpe := part_enters (tree l0 (l0.length - 1))
        clear hb2 hB4 hB3 hparts
        go_wp2_with fail
        refine (write_any _ _ w W2 wr.heap.size 0 false st0 st HWS.out HST.out).mono ?_
        rintro e W3 ⟨rfl, h3, hk3⟩
        have m4 := WrSt.cell4 h3
        have H3 := Aside0.mk h3
        have HB5 := Aside0.mk h3.bel
        clear h3 hk3
        cases hw : st.wrong with
        | true =>
          have HE := Aside0.mk (show r1 = ⟨#[]⟩ ∧ r2 = 1 by have := HRES.out; rw [hw] at this; exact this)
          rw [hw] at m4
          clear hw
          go_wp2_with fail
          go_ret2
          exact ⟨by rw [HE.out.1, HE.out.2]; rfl, HB5.out⟩
        | false =>
          have HE := Aside0.mk (show r1 = ⟨st.out.toArray⟩ ∧ r2 = 0 by have := HRES.out; rw [hw] at this; exact this)
          rw [hw] at m4
          clear hw
          go_wp2_with fail
          refine (string_calls w W3 wr.heap.size st.out _ _ _ H3.out).mono ?_
          rintro e W4 ⟨rfl, hb4⟩
          have HB6 := Aside0.mk hb4
          clear hb4
          go_wp2_with fail
          go_ret2
          exact ⟨by rw [HE.out.1, HE.out.2]; rfl, HB6.out⟩

set_option maxHeartbeats 1000000 in
set_option maxRecDepth 100000 in
theorem render_zero (ad : Addr) (c0 : Nat) (l0 : List S42) (A1 : Option Addr) (c1 : Nat) (w : World) (hr0 : Kd.C k42 w (some ad) l0.length l0) (hc0 : l0.length ≤ c0)
    (h : checkI l0 = 0) (hz : groupsI (rootT l0) = []) (r1 : ByteArray) (r2 : Int) (hro : renderO l0 [] = some (r1, r2)) :
    Calls Try.prog 24 #[.slice (some ad) l0.length c0, .slice A1 0 c1] w (RenderPost r1 r2 w) := by
  obtain ⟨hp, hn, hv, _⟩ := check_valid h
  obtain ⟨st, hst, hres⟩ := renderO_some hro
  rw [List.zip_nil_right] at hst
  have HST := Aside0.mk hst
  have HRES := Aside0.mk hres
  have HR := Aside0.mk hr0
  have HV := Aside0.mk hv
  have HG := Aside0.mk (show document_Groups.f l0 = some ([], 0) by unfold document_Groups.f groupsL; rw [if_pos h, show groupsI (tree l0 (l0.length - 1)) = [] from hz]; rfl)
  have hmm := @run_makeMap Try.prog
  clear hr0 h hz hv hro hst hres
  go_enter Try.func24, Try.ntmps24
  go_wp2_with fail
  refine (document_Groups.calls (some ad) c0 l0 [] 0 w HR.out hc0 HG.out).mono ?_
  rintro e w1 ⟨v0, rfl, hg1, hb1⟩
  obtain ⟨A, c, rfl, hcc, hcg⟩ := Kd.R_reads hg1
  have hws := hb1.size
  have hB2 := hb1.alloc hws (Obj.map #[] 0)
  have hms : MapSt (w1.alloc (Obj.map #[] 0)) w1.heap.size [] := by simpa [MapSt, mkEs] using heap_alloc_new w1 (Obj.map #[] 0)
  clear hb1 hg1 hcg
  go_wp2_with fail
  refine wp_loop_rounds 1 ?_
  rw [rounds_succ]
  obtain ⟨W0, hW0⟩ : ∃ W0, W0 = w1.alloc (Obj.map #[] 0) := ⟨_, rfl⟩
  rw [← hW0] at hB2 hms ⊢
  have HB2 := Aside0.mk hB2
  have HMS := Aside0.mk hms
  clear hW0 hB2 hms
  go_wp2_with fail
  have hsw : w.heap.size ≤ W0.heap.size := HB2.out.size
  have hB3 : Below w.heap.size w (W0.alloc (Obj.cells #[Value.pointer none, Value.slice none 0 0, Value.int IntKind.i64 0, Value.int IntKind.i64 0, Value.bool false] 83)) := HB2.out.alloc hsw _
  have hparts := parts_calls ad c0 w1.heap.size l0 (chOf []) _ hn hp HV.out (Kd.C_below HR.out hB3) hc0 (by have := blk_lt HMS.out; simp; omega) (fun W hW i hi => lookup_run (show MapSt W w1.heap.size [] from (hW.trans (blk_old_alloc (blk_lt HMS.out) _)).trans HMS.out) i)
  rw [partV_eq] at hparts
  refine hparts.mono ?_
  rintro e W2 ⟨rfl, hb2⟩
  have hB4 := hB3.trans (hb2.mono (by simp; omega))
  have HWS := Aside0.mk (show WrS w W0.heap.size st0 W2 from ⟨⟨.pointer none, .slice none 0 0, (hb2.block W0.heap.size (by simp)).trans (heap_alloc_new W0 _), .inl rfl, own_nil _ _ _ _⟩, hsw, hB4⟩)
  have hpm := part_method (chOf []) (tree l0 (l0.length - 1))
  have hpe := part_enters (tree l0 (l0.length - 1))
  clear hb2 hB4 hB3 hparts
  go_wp2_with fail
  refine (write_any _ _ w W2 W0.heap.size 0 false st0 st HWS.out HST.out).mono ?_
  rintro e W3 ⟨rfl, h3, hk3⟩
  have m4 := WrSt.cell4 h3
  have H3 := Aside0.mk h3
  have HB5 := Aside0.mk h3.bel
  clear h3 hk3
  cases hw : st.wrong with
  | true =>
    have HE := Aside0.mk (show r1 = ⟨#[]⟩ ∧ r2 = 1 by have := HRES.out; rw [hw] at this; exact this)
    rw [hw] at m4
    clear hw
    go_wp2_with fail
    go_ret2
    exact ⟨by rw [HE.out.1, HE.out.2]; rfl, HB5.out⟩
  | false =>
    have HE := Aside0.mk (show r1 = ⟨st.out.toArray⟩ ∧ r2 = 0 by have := HRES.out; rw [hw] at this; exact this)
    rw [hw] at m4
    clear hw
    go_wp2_with fail
    refine (string_calls w W3 W0.heap.size st.out _ _ _ H3.out).mono ?_
    rintro e W4 ⟨rfl, hb4⟩
    have HB6 := Aside0.mk hb4
    clear hb4
    go_wp2_with fail
    go_ret2
    exact ⟨by rw [HE.out.1, HE.out.2]; rfl, HB6.out⟩

theorem document_Render.calls (A0 : Option Addr) (c0 : Nat) (l0 : List (S42)) (A1 : Option Addr) (c1 : Nat) (l1 : List Bool) (r1 : ByteArray) (r2 : Int) (w : World) (hr0 : Kd.C k42 w A0 l0.length l0) (hc0 : l0.length ≤ c0) (hr1 : Kd.C Kd.bool w A1 l1.length l1) (hc1 : l1.length ≤ c1) (h : document_Render.f l0 l1 = some (r1, r2)) :
    Calls Try.prog 24 #[.slice A0 l0.length c0, .slice A1 l1.length c1] w fun e w' => e = .returned (.tuple #[.string r1, .int .i64 r2]) ∧ Below w.heap.size w w' := by
  unfold document_Render.f at h
  by_cases hc : checkI l0 = 0
  · rw [if_neg (by simpa using hc)] at h
    by_cases hl : l1.length = (groupsI (rootT l0)).length
    · rw [if_neg (by simpa using hl)] at h
      obtain ⟨hp, _⟩ := check_valid hc
      obtain ⟨ad, rfl, _⟩ := at_T42 hr0 0 (by omega) (by omega)
      rcases Nat.eq_zero_or_pos (groupsI (rootT l0)).length with h0 | hpos
      · obtain rfl := List.eq_nil_of_length_eq_zero (hl.trans h0)
        exact render_zero ad c0 l0 A1 c1 w hr0 hc0 hc (List.eq_nil_of_length_eq_zero h0) r1 r2 h
      · obtain ⟨a1, rfl, _⟩ := Kd.at_bool hr1 0 (by omega) (by omega)
        exact render_pos ad c0 l0 a1 c1 l1 w hr0 hc0 hr1 hc hl hpos r1 r2 h
    · rw [if_pos hl] at h
      simp only [Option.some.injEq, Prod.mk.injEq] at h
      obtain ⟨rfl, rfl⟩ := h
      exact render_len A0 c0 l0 A1 l1.length c1 w hr0 hc0 hc hl
  · rw [if_pos hc] at h
    simp only [Option.some.injEq, Prod.mk.injEq] at h
    obtain ⟨rfl, rfl⟩ := h
    exact render_bad A0 c0 l0 A1 l1.length c1 w hr0 hc0 hc

end Go.Proofs.Ythmmdmnbcecooaa.A
