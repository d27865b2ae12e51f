/- LF, Q13, L9, K2, A1, A13, A14: what the claims rest on of these texts, one behind the other. No condition of its own. -/
import Derived.Test.YthmmdmnbcecooaaZY12
import Derived.Deep.DeepCutAuto
import Derived.Deep.CutBlock
import Derived.Deep.RegionHeld3
section
namespace Go.Proofs.Ythmmdmnbcecooaa.A
open Go.RowKit Go.Proofs.YthmmdmnbcecooaaW.PrintWords Go.Proofs.YthmmdmnbcecooaaW.PrintLast Go.Proofs.YthmmdmnbcecooaaW.PrintMore
open Go.Instr (lookup mapUpdate)
open Go.ChangeMaps (setBlock)
attribute [local go_sem] max2_int max_two
set_option linter.unusedVariables false
set_option linter.unusedSimpArgs false
def ChoicesPost (r1 : List Bool) (r2 : Int) (w : World) (e : Ending) (w' : World) : Prop :=
  ∃ v0_ : Value, e = .returned (.tuple #[v0_, .int .i64 r2]) ∧ Kd.R Kd.bool 4 w' w.heap.size (fun _ => True) v0_ r1 ∧ Below w.heap.size w w'
set_option maxRecDepth 100000 in
theorem choices_bad (A0 : Option Addr) (c0 : Nat) (l0 : List S42) (wd : Int) (w : World) (hr0 : Kd.C k42 w A0 l0.length l0) (hc0 : l0.length ≤ c0) (h : checkI l0 ≠ 0) :
    Calls Try.prog 63 #[.slice A0 l0.length c0, .int .i64 wd] w (ChoicesPost [] (checkI l0) w) := by
  have HR := Aside0.mk hr0
  have hb : (checkI l0 != 0) = true := by simpa using h
  clear hr0 h
  go_enter Try.func63, Try.ntmps63
  go_wp2_with fail
  refine (document_Check.calls A0 c0 l0 (checkI l0) _ HR.out hc0 rfl).mono ?_
  rintro e w1 ⟨rfl, hb1⟩
  have HB := Aside0.mk hb1
  clear hb1
  go_wp2_with fail
  go_ret2
  exact ⟨_, rfl, Kd.R_nil _ _ _ _ _, HB.out⟩
set_option maxRecDepth 100000 in
theorem choices_arg (A0 : Option Addr) (c0 : Nat) (l0 : List S42) (wd : Int) (w : World) (hr0 : Kd.C k42 w A0 l0.length l0) (hc0 : l0.length ≤ c0) (h : checkI l0 = 0) (hw : wd < 0 ∨ 1000 < wd) :
    Calls Try.prog 63 #[.slice A0 l0.length c0, .int .i64 wd] w (ChoicesPost [] 1 w) := by
  have HR := Aside0.mk hr0
  have HC := Aside0.mk h
  clear hr0 h
  by_cases hn : wd < 0
  · have hd := decide_eq_true hn
    clear hw
    go_enter Try.func63, Try.ntmps63
    go_wp2_with fail
    refine (document_Check.calls A0 c0 l0 0 _ HR.out hc0 (by show some _ = _; rw [HC.out])).mono ?_
    rintro e w1 ⟨rfl, hb1⟩
    have HB := Aside0.mk hb1
    clear hb1
    go_wp2_with fail
    go_ret2
    exact ⟨_, rfl, Kd.R_nil _ _ _ _ _, HB.out⟩
  · have hd := decide_eq_false hn
    have hd2 := decide_eq_true (show 1000 < wd by omega)
    clear hw
    go_enter Try.func63, Try.ntmps63
    go_wp2_with fail
    refine (document_Check.calls A0 c0 l0 0 _ HR.out hc0 (by show some _ = _; rw [HC.out])).mono ?_
    rintro e w1 ⟨rfl, hb1⟩
    have HB := Aside0.mk hb1
    clear hb1
    go_wp2_with fail
    go_ret2
    exact ⟨_, rfl, Kd.R_nil _ _ _ _ _, HB.out⟩
theorem made_ints (n : Nat) : madeCells #[Value.int .i64 0] n = (nums .i64 (List.replicate n 0)).toArray := by
  apply Array.ext
  · simp [nums, size_madeCells]
  · intro i h1 h2
    simp [madeCells, nums, Nat.mod_one]
theorem made_bools (n : Nat) : madeCells #[Value.bool false] n = (bools (List.replicate n false)).toArray := by
  apply Array.ext
  · simp [bools, size_madeCells]
  · intro i h1 h2
    simp [madeCells, bools, Nat.mod_one]
theorem alloc4_at0 (w : World) (a b c d : Obj) : ((((w.alloc a).alloc b).alloc c).alloc d).heap[w.heap.size]? = some a :=
  ((below_alloc (Below.refl (((w.alloc a).alloc b).alloc c).heap.size (((w.alloc a).alloc b).alloc c)) d).block w.heap.size (by simp only [alloc_sz]; omega)).trans (alloc_at0 w a b c)
/-- The layouter while its tables are filled. -/
structure TbSt (B g b2 b3 gm : Nat) (ad : Addr) (n c0 : Nat) (wd : Int) (gz : List Int) (hd : List Bool) (W : World) : Prop where
  hg : W.heap[g]? = some (.cells #[.slice (some ad) n c0, .int .i64 wd, .slice (some ⟨b2, 0, none⟩) n n, .slice (some ⟨b3, 0, none⟩) n n, .map (some gm)] 123 (0, 0))
  h2 : W.heap[b2]? = some (.cells (nums .i64 gz).toArray 3 (0, 0))
  h3 : W.heap[b3]? = some (.cells (bools hd).toArray 4 (0, 0))
  hm : W.heap[gm]? = some (.map #[] 0)
  low : B ≤ g ∧ B ≤ b2 ∧ B ≤ b3 ∧ B ≤ gm
theorem TbSt.of {W W' : World} {B g b2 b3 gm : Nat} {ad : Addr} {n c0 : Nat} {wd : Int} {gz : List Int} {hd : List Bool} (h : TbSt B g b2 b3 gm ad n c0 wd gz hd W) (hb : Below W.heap.size W W') : TbSt B g b2 b3 gm ad n c0 wd gz hd W' :=
  ⟨(hb.block _ (blk_lt h.hg)).trans h.hg, (hb.block _ (blk_lt h.h2)).trans h.h2, (hb.block _ (blk_lt h.h3)).trans h.h3, (hb.block _ (blk_lt h.hm)).trans h.hm, h.low⟩
theorem TbSt.set2 {W : World} {B g b2 b3 gm : Nat} {ad : Addr} {n c0 : Nat} {wd : Int} {gz : List Int} {hd : List Bool} (h : TbSt B g b2 b3 gm ad n c0 wd gz hd W) (i : Nat) (x : Int) : TbSt B g b2 b3 gm ad n c0 wd (gz.set i x) hd (W.setCell ⟨b2, i, none⟩ (.int .i64 x)) := by
  refine ⟨blk_far h.hg (blk_ne h.hg h.h2 (by decide)) _, ?_, blk_far h.h3 (blk_ne h.h3 h.h2 (by decide)) _, ?_, h.low⟩
  · rw [blk_set h.h2 i (.int .i64 x)]
    simp [nums, List.map_set]
  · refine (Below.heap_setCell W ⟨b2, i, none⟩ _ gm ?_).trans h.hm
    rintro rfl
    have := h.hm
    rw [h.h2] at this
    cases this
theorem TbSt.set3 {W : World} {B g b2 b3 gm : Nat} {ad : Addr} {n c0 : Nat} {wd : Int} {gz : List Int} {hd : List Bool} (h : TbSt B g b2 b3 gm ad n c0 wd gz hd W) (i : Nat) (x : Bool) : TbSt B g b2 b3 gm ad n c0 wd gz (hd.set i x) (W.setCell ⟨b3, i, none⟩ (.bool x)) := by
  refine ⟨blk_far h.hg (blk_ne h.hg h.h3 (by decide)) _, blk_far h.h2 (blk_ne h.h2 h.h3 (by decide)) _, ?_, ?_, h.low⟩
  · rw [blk_set h.h3 i (.bool x)]
    simp [bools, List.map_set]
  · refine (Below.heap_setCell W ⟨b3, i, none⟩ _ gm ?_).trans h.hm
    rintro rfl
    have := h.hm
    rw [h.h3] at this
    cases this
section
variable {W : World} {B g b2 b3 gm : Nat} {ad : Addr} {n c0 : Nat} {wd : Int} {gz : List Int} {hd : List Bool} (h : TbSt B g b2 b3 gm ad n c0 wd gz hd W)
include h
theorem TbSt.c2 {j : Nat} (hj : j < gz.length) : W.cell? ⟨b2, j, none⟩ = some (.int .i64 (gz.getD j 0)) := by
  rw [blk_cell h.h2]; simp [nums, hj]
theorem TbSt.c3 {j : Nat} (hj : j < hd.length) : W.cell? ⟨b3, j, none⟩ = some (.bool (hd.getD j false)) := by
  rw [blk_cell h.h3]; simp [bools, hj]
theorem TbSt.alloc (o : Obj) : TbSt B g b2 b3 gm ad n c0 wd gz hd (W.alloc o) := h.of (below_alloc (Below.refl _ _) o)
theorem TbSt.drew : TbSt B g b2 b3 gm ad n c0 wd gz hd W.drew := ⟨h.hg, h.h2, h.h3, h.hm, h.low⟩
end
/-- The tables hold what the nodes below i have. -/
def TbOk (l : List S42) (i : Nat) (gz : List Int) (hd : List Bool) : Prop :=
  (gz.length = l.length ∧ hd.length = l.length) ∧ (∀ j, j < i → gz.getD j 0 = ((ng (tree l j) : Nat) : Int) ∧ hd.getD j false = hardT (tree l j)) ∧ ∀ j, i ≤ j → gz.getD j 0 = 0 ∧ hd.getD j false = false
theorem getD_set' {α : Type} (xs : List α) (i j : Nat) (x d : α) (hi : i < xs.length) : (xs.set i x).getD j d = if i = j then x else xs.getD j d := by
  simp only [List.getD_eq_getElem?_getD, List.getElem?_set]
  by_cases h : i = j
  · subst h; simp [hi]
  · simp [h]
theorem TbOk.keep {l : List S42} {i : Nat} {gz : List Int} {hd : List Bool} (h : TbOk l i gz hd) (hg : ((ng (tree l i) : Nat) : Int) = 0) (hh : hardT (tree l i) = false) : TbOk l (i + 1) gz hd :=
  ⟨h.1, fun j hj => by
    by_cases e : j = i
    · subst e
      rw [hg, hh]
      exact h.2.2 j (Nat.le_refl _)
    · exact h.2.1 j (by omega), fun j hj => h.2.2 j (by omega)⟩
theorem TbOk.put {l : List S42} {i : Nat} {gz : List Int} {hd : List Bool} (h : TbOk l i gz hd) (hi : i < l.length) {x : Int} {y : Bool} (hg : x = ((ng (tree l i) : Nat) : Int)) (hh : y = hardT (tree l i)) : TbOk l (i + 1) (gz.set i x) (hd.set i y) := by
  have e1 := h.1.1
  have e2 := h.1.2
  refine ⟨⟨by rw [List.length_set, e1], by rw [List.length_set, e2]⟩, fun j hj => ?_, fun j hj => ?_⟩
  · rw [getD_set' _ _ _ _ _ (by omega), getD_set' _ _ _ _ _ (by omega)]
    by_cases e : i = j
    · subst e; rw [if_pos rfl, if_pos rfl]; exact ⟨hg, hh⟩
    · rw [if_neg e, if_neg e]; exact h.2.1 j (by omega)
  · rw [getD_set' _ _ _ _ _ (by omega), getD_set' _ _ _ _ _ (by omega), if_neg (by omega), if_neg (by omega)]
    exact h.2.2 j (by omega)
theorem TbOk.put3 {l : List S42} {i : Nat} {gz : List Int} {hd : List Bool} (h : TbOk l i gz hd) (hi : i < l.length) {y : Bool} (hg : ((ng (tree l i) : Nat) : Int) = 0) (hh : y = hardT (tree l i)) : TbOk l (i + 1) gz (hd.set i y) := by
  have h1 := h.put hi (x := 0) hg.symm hh
  have e : gz.set i 0 = gz := by
    apply List.ext_getElem
    · simp
    · intro j h1 h2
      rw [List.getElem_set]
      split
      · rename_i e
        subst e
        have := (h.2.2 i (Nat.le_refl _)).1
        simp only [List.getD_eq_getElem?_getD, List.getElem?_eq_getElem h2, Option.getD_some] at this
        exact this.symm
      · rfl
  rw [e] at h1
  exact h1
/-- Reading in the tables where the cell i of both is being written. -/
theorem TbSt.at2 {W : World} {B g b2 b3 gm : Nat} {ad : Addr} {n c0 : Nat} {wd : Int} {gz : List Int} {hd : List Bool} {l : List S42} {i a : Nat} (h : TbSt B g b2 b3 gm ad n c0 wd gz hd W) (ho : TbOk l i gz hd) (hi : i < l.length) (ha : a < i) (x : Int) (y : Bool) :
    (W.cell? ⟨b2, a, none⟩ = some (.int .i64 ((ng (tree l a) : Nat) : Int)) ∧ W.cell? ⟨b3, a, none⟩ = some (.bool (hardT (tree l a)))) ∧
    ((W.setCell ⟨b2, i, none⟩ (.int .i64 x)).cell? ⟨b2, a, none⟩ = some (.int .i64 ((ng (tree l a) : Nat) : Int)) ∧ (W.setCell ⟨b2, i, none⟩ (.int .i64 x)).cell? ⟨b3, a, none⟩ = some (.bool (hardT (tree l a)))) ∧
    (((W.setCell ⟨b2, i, none⟩ (.int .i64 x)).setCell ⟨b3, i, none⟩ (.bool y)).cell? ⟨b2, a, none⟩ = some (.int .i64 ((ng (tree l a) : Nat) : Int)) ∧ ((W.setCell ⟨b2, i, none⟩ (.int .i64 x)).setCell ⟨b3, i, none⟩ (.bool y)).cell? ⟨b3, a, none⟩ = some (.bool (hardT (tree l a)))) := by
  have e1 := ho.1.1
  have e2 := ho.1.2
  obtain ⟨v1, v2⟩ := ho.2.1 a ha
  have h2 := h.set2 i x
  have h3 := h2.set3 i y
  have g1 : (gz.set i x).getD a 0 = ((ng (tree l a) : Nat) : Int) := by rw [getD_set' _ _ _ _ _ (by omega), if_neg (by omega), v1]
  have g2 : (hd.set i y).getD a false = hardT (tree l a) := by rw [getD_set' _ _ _ _ _ (by omega), if_neg (by omega), v2]
  refine ⟨⟨by rw [h.c2 (by omega), v1], by rw [h.c3 (by omega), v2]⟩, ⟨by rw [h2.c2 (by rw [List.length_set]; omega), g1], by rw [h2.c3 (by omega), v2]⟩, ⟨by rw [h3.c2 (by rw [List.length_set]; omega), g1], by rw [h3.c3 (by rw [List.length_set]; omega), g2]⟩⟩
theorem u8_zero (c : UInt8) : (c == 0) = (((c.toNat : Nat) : Int) == 0) := by
  rw [Bool.eq_iff_iff, beq_iff_eq, beq_iff_eq]
  constructor
  · rintro rfl; rfl
  · intro h
    have h2 : c.toNat = 0 := by omega
    exact UInt8.toNat_inj.1 h2
/-- Leaves of a document in order. -/
theorem good_lv {l : List S42} (hg : Good l) : lv (E l) ≤ 65536 := by
  have h1 := (weights hg).1
  have h2 := sum_le fLv 1 l (fun x _ => by unfold fLv; split <;> omega)
  have := hg.le
  omega
theorem run_field132 (x y : Int) (t : ByteArray) (W : World) : Sem.run Try.prog (Instr.field 132 (.agg #[.int .i64 x, .int .i64 y, .string t]) 1) W = .ok (.string t) W := by
  have hu := Try.underlying132
  unfold Instr.field
  simp [go_sem, hu, asAgg]
theorem run_makeMap124 (W : World) : Sem.run Try.prog (Instr.makeMap 124 none) W = .ok (.map (some W.heap.size)) (W.alloc (.map #[] 0)) := by
  first | rfl | (have := Try.underlying124; simp [Instr.makeMap, go_sem]; done) | (simp [Instr.makeMap]; rfl)
theorem min_final {wd : Int} {l : List S42} {i : Nat} {ps D : List (Pl × Res)} {P : List (Bool × Res)} (hbm : BestM ps (achS wd l ⟨i, 0, pl0⟩)) (hn : (ps.map (·.1)).Nodup) (hp : ps.Perm D) (h : BestM P (fun q x => q = true ∧ ∃ q0, (q0, x) ∈ D)) : findP P true = some (bestR wd (tree l i)) := by
  have h2 : BestM P (fun q x => q = true ∧ ∃ q0, achS wd l ⟨i, 0, pl0⟩ q0 x) := h.sub (fun q r ⟨e, q0, hm⟩ => ⟨e, q0, hbm.mem ((findP_mem hn _ _).2 (hp.mem_iff.2 hm))⟩) (fun q r ⟨e, q0, hc⟩ => by
    obtain ⟨m, hm, hl⟩ := hbm.least hc
    exact ⟨m, ⟨e, q0, hp.mem_iff.1 ((findP_mem hn _ _).1 hm)⟩, hl⟩)
  have hne : (ach wd (tree l i) 0 pl0).map (·.2) ≠ [] := by
    intro e
    rw [List.map_eq_nil_iff] at e
    have : ∀ (t : Doc) (ind : Int) (p : Pl), ach wd t ind p ≠ [] := by
      intro t
      induction t with
      | text s => intro ind p; simp [ach]
      | line s => intro ind p; simp [ach]
      | hard => intro ind p; simp [ach]
      | seq a b iha ihb =>
        intro ind p h0
        simp only [ach] at h0
        rw [List.flatMap_eq_nil_iff] at h0
        obtain ⟨x, t, hx⟩ := List.exists_cons_of_ne_nil (iha ind p)
        have := h0 x (by rw [hx]; simp)
        rw [List.map_eq_nil_iff] at this
        exact ihb ind x.1 this
      | nest n a ih => intro ind p; exact ih _ _
      | align a ih => intro ind p; exact ih _ _
      | group j a ih =>
        intro ind p h0
        simp only [ach] at h0
        rw [List.append_eq_nil_iff, List.map_eq_nil_iff] at h0
        exact ih ind p h0.2
    exact this _ _ _ e
  obtain ⟨m1, m2⟩ := minR_spec hne
  obtain ⟨⟨q0, r⟩, hm, he⟩ := List.mem_map.1 m1
  have hb : bestR wd (tree l i) = r := he.symm
  rw [(h2.1 true (bestR wd (tree l i)))]
  refine ⟨⟨rfl, q0, ?_⟩, fun r' ⟨_, q1, hc⟩ => ?_⟩
  · rw [hb]; exact hm
  · exact m2 r' (List.mem_map.2 ⟨(q1, r'), hc, rfl⟩)
set_option maxHeartbeats 2000000 in
set_option maxRecDepth 100000 in
theorem choices_good (ad : Addr) (c0 : Nat) (l0 : List S42) (wd : Int) (w : World) (hr0 : Kd.C k42 w (some ad) l0.length l0) (hc0 : l0.length ≤ c0) (h : checkI l0 = 0) (hw : 0 ≤ wd ∧ wd ≤ 1000) (hle : l0.length ≤ 65536) (hsz : lv (E l0) * wt (E l0) ≤ 1000000000000000) :
    Calls Try.prog 63 #[.slice (some ad) l0.length c0, .int .i64 wd] w (ChoicesPost (bestF wd (E l0)) 0 w) := by
  have HR := Aside0.mk hr0
  have HC := Aside0.mk h
  have hd := decide_eq_false (show ¬ wd < 0 by omega)
  have hd2 := decide_eq_false (show ¬ 1000 < wd by omega)
  have HW := Aside0.mk hw
  have hmk2 := print_make_of (P := Try.prog) 28 3 (.int .i64 0) 8 Try.underlying28 info3 rfl (by decide) l0.length (by omega)
  have hmk3 := print_make_of (P := Try.prog) 23 4 (.bool false) 1 Try.underlying23 info4 rfl (by decide) l0.length (by omega)
  have hmm : ∀ W : World, Sem.run Try.prog (Instr.makeMap 121 none) W = .ok (.map (some W.heap.size)) (W.alloc (.map #[] 0)) := fun W => by
    first | rfl | (have := Try.underlying121; simp [Instr.makeMap, go_sem]; done) | (simp [Instr.makeMap]; rfl)
  have HSZ := Aside0.mk hsz
  clear hr0 h hw hsz
  go_enter Try.func63, Try.ntmps63
  go_wp2_with fail
  refine (document_Check.calls (some ad) c0 l0 0 _ HR.out hc0 (by show some _ = _; rw [HC.out])).mono ?_
  rintro e w1 ⟨rfl, hb1⟩
  have HB := Aside0.mk hb1
  clear hb1
  go_wp2_with fail
  go_upto_region 6 with fail
  go_cut [7] (fun v7 wc => ∃ (b2 b3 gm : Nat), v7 = .pointer (some ⟨w1.heap.size + 1 + 1 + 1, 0, none⟩) ∧ Aside0 (TbSt w.heap.size (w1.heap.size + 1 + 1 + 1) b2 b3 gm ad l0.length c0 wd (List.replicate l0.length 0) (List.replicate l0.length false) wc) ∧ Aside0 (Below w.heap.size w wc))
  case first =>
    go_region
    all_goals
      go_wp2_with fail
      go_meet
      case rel =>
        refine ⟨_, _, _, rfl, ⟨⟨alloc4_at3 w1 _ _ _ _, ?_, ?_, ?_, ?_⟩⟩, ⟨below_drew1 ((HB.out.trans ((below_alloc4 w1 _ _ _ _).mono HB.out.size)))⟩⟩
        · rw [← made_ints]; first | exact alloc4_at0 w1 _ _ _ _ | exact alloc4_at1 w1 _ _ _ _ | exact alloc4_at2 w1 _ _ _ _
        · rw [← made_bools]; first | exact alloc4_at0 w1 _ _ _ _ | exact alloc4_at1 w1 _ _ _ _ | exact alloc4_at2 w1 _ _ _ _
        · first | exact alloc4_at0 w1 _ _ _ _ | exact alloc4_at1 w1 _ _ _ _ | exact alloc4_at2 w1 _ _ _ _
        · have := HB.out.size
          omega
  case rest =>
    obtain ⟨b2, b3, gm, rfl, HT, HB2⟩ := hcut
    obtain ⟨hpos, _, hok, _⟩ := check_valid HC.out
    have HOK := Aside0.mk (show nodesOk l0 from hok)
    clear hok
    go_wp2_with fail
    go_loopg [40] l0.length (fun d v40 Wc => ∃ (i : Nat) (gz : List Int) (hd : List Bool), v40 = .int .i64 i ∧ Aside0 (i + d = l0.length) ∧ Aside0 (TbSt w.heap.size (w1.heap.size + 1 + 1 + 1) b2 b3 gm ad l0.length c0 wd gz hd Wc) ∧ Aside0 (TbOk l0 i gz hd) ∧ Aside0 (Below w.heap.size w Wc))
    case atStart => exact ⟨0, _, _, rfl, ⟨Nat.zero_add _⟩, HT, ⟨⟨⟨by simp, by simp⟩, fun j hj => by omega, fun j _ => ⟨by rw [List.getD_eq_getElem?_getD, List.getElem?_replicate]; split <;> rfl, by rw [List.getD_eq_getElem?_getD, List.getElem?_replicate]; split <;> rfl⟩⟩⟩, HB2⟩
    case round =>
      obtain ⟨i, gz, hd, rfl, HI, HT2, HTO, HB3⟩ := hrel
      by_cases hlt : i < l0.length
      · obtain ⟨k, s, n, a, b, hx⟩ : ∃ k s n a b, l0.getD i z42 = ⟨k, s, n, a, b⟩ := ⟨_, _, _, _, _, rfl⟩
        obtain ⟨k0, k1, k2, k3, k4⟩ := cells42 HR.out hlt hx HB3.out
        have hkk := HOK.out i hlt
        have hkd := hkk.kind
        rw [hx] at hkd
        simp only at hkd
        have f3 := fun o => pw_cell_below (below_alloc (Below.refl wr.heap.size wr) o) (show wr.cell? ⟨w1.heap.size + 1 + 1 + 1, 3, none⟩ = some (.slice (some ⟨b3, 0, none⟩) l0.length l0.length) from (blk_cell HT2.out.hg 3).trans rfl)
        have f2 := fun o => pw_cell_below (below_alloc (Below.refl wr.heap.size wr) o) (show wr.cell? ⟨w1.heap.size + 1 + 1 + 1, 2, none⟩ = some (.slice (some ⟨b2, 0, none⟩) l0.length l0.length) from (blk_cell HT2.out.hg 2).trans rfl)
        have y2 := fun o => pw_cell_below (below_alloc (Below.refl wr.heap.size wr) o) (show wr.cell? ⟨b2, i, none⟩ = some (.int .i64 0) from by rw [HT2.out.c2 (by rw [HTO.out.1.1]; exact hlt), (HTO.out.2.2 i (Nat.le_refl _)).1])
        have y3 := fun o => pw_cell_below (below_alloc (Below.refl wr.heap.size wr) o) (show wr.cell? ⟨b3, i, none⟩ = some (.bool false) from by rw [HT2.out.c3 (by rw [HTO.out.1.2]; exact hlt), (HTO.out.2.2 i (Nat.le_refl _)).2])
        have z2 := fun o => blk_frozen (HT2.out.alloc o).h2 i
        have z3 := fun o => blk_frozen (HT2.out.alloc o).h3 i
        have HX := Aside0.mk hx
        clear hx hkk
        rcases (show k = 0 ∨ k = 1 ∨ k = 2 ∨ k = 3 ∨ k = 4 ∨ k = 5 ∨ k = 6 by omega) with rfl | rfl | rfl | rfl | rfl | rfl | rfl
        · have HK := Aside0.mk (HTO.out.keep (by rw [tree_text (by rw [HX.out])]; rfl) (by rw [tree_text (by rw [HX.out])]; rfl))
          go_wp2_with fail
          go_roundg (gk - 1)
          case measure => have := HI.out; omega
          case rel => exact ⟨i + 1, gz, hd, rfl, ⟨by have := HI.out; omega⟩, ⟨HT2.out.alloc _⟩, HK, ⟨HB3.out.alloc HB3.out.size _⟩⟩
        · have HK := Aside0.mk (HTO.out.keep (by rw [tree_line (by rw [HX.out])]; rfl) (by rw [tree_line (by rw [HX.out])]; rfl))
          go_wp2_with fail
          go_roundg (gk - 1)
          case measure => have := HI.out; omega
          case rel => exact ⟨i + 1, gz, hd, rfl, ⟨by have := HI.out; omega⟩, ⟨HT2.out.alloc _⟩, HK, ⟨HB3.out.alloc HB3.out.size _⟩⟩
        · have HK := Aside0.mk (HTO.out.put3 hlt (y := true) (by rw [tree_hard (by rw [HX.out])]; rfl) (by rw [tree_hard (by rw [HX.out])]; rfl))
          go_wp2_with fail
          go_roundg (gk - 1)
          case measure => have := HI.out; omega
          case rel => exact ⟨i + 1, gz, hd.set i true, rfl, ⟨by have := HI.out; omega⟩, ⟨(HT2.out.alloc _).set3 i true⟩, HK, ⟨(HB3.out.alloc HB3.out.size _).setCell (p := ⟨b3, i, none⟩) HT2.out.low.2.2.1 _⟩⟩
        · have hka : 3 ≤ (l0.getD i z42).f0 := by rw [HX.out]; show (3 : Int) ≤ 3; omega
          obtain ⟨ha0, ha1⟩ := (HOK.out i hlt).a hka
          obtain ⟨hb0, hb1⟩ := (HOK.out i hlt).b (by rw [HX.out])
          rw [HX.out] at ha0 ha1 hb0 hb1
          simp only at ha0 ha1 hb0 hb1
          obtain ⟨a, rfl⟩ := Int.eq_ofNat_of_zero_le ha0
          obtain ⟨b, rfl⟩ := Int.eq_ofNat_of_zero_le hb0
          have hal : a < i := by omega
          have hbl : b < i := by omega
          have ht := tree_seq HOK.out hlt (by rw [HX.out])
          rw [HX.out] at ht
          simp only [Int.toNat_natCast] at ht
          have g1 := eq_true (show (0 : Int) ≤ a by omega)
          have g2 := eq_true (show (a : Int) < l0.length by omega)
          have g3 := eq_true (show (0 : Int) ≤ b by omega)
          have g4 := eq_true (show (b : Int) < l0.length by omega)
          have HK := Aside0.mk (HTO.out.put hlt (x := ((ng (tree l0 a) : Nat) : Int) + ((ng (tree l0 b) : Nat) : Int)) (y := hardT (tree l0 a) || hardT (tree l0 b)) (by rw [ht]; simp only [ng]; omega) (by rw [ht]; rfl))
          obtain ⟨X, hX⟩ : ∃ X, X = wr.alloc (.cells #[.int .i64 3, .string s, .int .i64 n, .int .i64 a, .int .i64 b] 42) := ⟨_, rfl⟩
          have hTX : TbSt w.heap.size (w1.heap.size + 1 + 1 + 1) b2 b3 gm ad l0.length c0 wd gz hd X := by rw [hX]; exact HT2.out.alloc _
          have hBX : Below w.heap.size w X := by rw [hX]; exact HB3.out.alloc HB3.out.size _
          have E0 : X.heap[wr.heap.size]? = some (.cells #[.int .i64 3, .string s, .int .i64 n, .int .i64 a, .int .i64 b] 42 (0, 0)) := by rw [hX]; exact heap_alloc_new wr _
          have hA := fun x y => hTX.at2 HTO.out hlt hal x y
          have hB := fun x y => hTX.at2 HTO.out hlt hbl x y
          have hga := groups_le_any ((check_zero_iff l0).1 HC.out) a (by omega)
          have hgb := groups_le_any ((check_zero_iff l0).1 HC.out) b (by omega)
          rw [ng_eq] at hga hgb
          obtain ⟨G, hG⟩ : ∃ G, G = ng (tree l0 a) := ⟨_, rfl⟩
          obtain ⟨Gb, hGb⟩ : ∃ Gb, Gb = ng (tree l0 b) := ⟨_, rfl⟩
          obtain ⟨Hb, hHb⟩ : ∃ Hb, Hb = hardT (tree l0 b) := ⟨_, rfl⟩
          rw [← hG, ← hGb, ← hHb] at HK
          rw [← hG] at hA hga
          rw [← hGb, ← hHb] at hB
          rw [← hGb] at hgb
          clear hG hGb hHb
          have HGS := Aside0.mk (show IntKind.i64.wrap ((G : Int) + Gb) = (G : Int) + Gb from IntWalk.i64_in _ (by omega))
          cases hHa : hardT (tree l0 a) with
          | true => 
            rw [hHa] at hA HK
            obtain ⟨Hd, hHd⟩ : ∃ Hd, Hd = (true || Hb) := ⟨_, rfl⟩
            rw [← hHd] at HK
            obtain ⟨⟨xa2, xa3⟩, ⟨xb2, xb3⟩, xc2, xc3⟩ := hA ((G : Int) + Gb) true
            obtain ⟨⟨ya2, ya3⟩, ⟨yb2, yb3⟩, yc2, yc3⟩ := hB ((G : Int) + Gb) true
            simp only [Bool.true_or] at hHd
            have hT1 := hTX.set2 i ((G : Int) + Gb)
            have hT2 := hT1.set3 i true
            have D0 := blk_far (blk_far E0 (p := ⟨b2, i, none⟩) (blk_ne E0 hTX.h2 (by decide)) (.int .i64 ((G : Int) + Gb))) (p := ⟨b3, i, none⟩) (blk_ne E0 hTX.h3 (by decide)) (.bool true)
            have D1 := blk_far E0 (p := ⟨b2, i, none⟩) (blk_ne E0 hTX.h2 (by decide)) (.int .i64 ((G : Int) + Gb))
            have m2 : X.cell? ⟨w1.heap.size + 1 + 1 + 1, 2, none⟩ = some (.slice (some ⟨b2, 0, none⟩) l0.length l0.length) := (blk_cell hTX.hg 2).trans rfl
            have m3 : X.cell? ⟨w1.heap.size + 1 + 1 + 1, 3, none⟩ = some (.slice (some ⟨b3, 0, none⟩) l0.length l0.length) := (blk_cell hTX.hg 3).trans rfl
            have e3 : X.cell? ⟨wr.heap.size, 3, none⟩ = some (.int .i64 a) := (blk_cell E0 3).trans rfl
            have e4 : X.cell? ⟨wr.heap.size, 4, none⟩ = some (.int .i64 b) := (blk_cell E0 4).trans rfl
            have m2b := (blk_cell hT1.hg 2).trans rfl
            have m3b := (blk_cell hT1.hg 3).trans rfl
            have e3b := (blk_cell D1 3).trans rfl
            have e4b := (blk_cell D1 4).trans rfl
            have m2c := (blk_cell hT2.hg 2).trans rfl
            have m3c := (blk_cell hT2.hg 3).trans rfl
            have e3c := (blk_cell D0 3).trans rfl
            have e4c := (blk_cell D0 4).trans rfl
            have SA := Aside0.mk (And.intro xa2 (And.intro xa3 (And.intro m2 (And.intro m3 (And.intro e3 (And.intro ya2 (And.intro ya3 e4)))))))
            have SB := Aside0.mk (And.intro xb2 (And.intro xb3 (And.intro m2b (And.intro m3b (And.intro e3b (And.intro yb2 (And.intro yb3 e4b)))))))
            have SC := Aside0.mk (And.intro xc2 (And.intro xc3 (And.intro m2c (And.intro m3c (And.intro e3c (And.intro yc2 (And.intro yc3 e4c)))))))
            have p2 : X.cell? ⟨b2, i, none⟩ = some (.int .i64 0) := by rw [hX]; exact y2 _
            have p3 : X.cell? ⟨b3, i, none⟩ = some (.bool false) := by rw [hX]; exact y3 _
            have q2 : X.frozen? ⟨b2, i, none⟩ = false := blk_frozen hTX.h2 i
            have q3 : X.frozen? ⟨b3, i, none⟩ = false := blk_frozen hTX.h3 i
            have q3b : (X.setCell ⟨b2, i, none⟩ (.int .i64 ((G : Int) + Gb))).frozen? ⟨b3, i, none⟩ = false := blk_frozen hT1.h3 i
            have n5 := eq_false (show ¬ (b2 = b3) from blk_ne HT2.out.h2 HT2.out.h3 (by decide))
            have n6 := eq_false (show ¬ (b3 = b2) from blk_ne HT2.out.h3 HT2.out.h2 (by decide))
            have HTZ := Aside0.mk hT2.drew
            have HBZ := Aside0.mk (below_drew1 ((hBX.setCell (p := ⟨b2, i, none⟩) HT2.out.low.2.1 (.int .i64 ((G : Int) + Gb))).setCell (p := ⟨b3, i, none⟩) HT2.out.low.2.2.1 (.bool true)))
            have HXX := Aside0.mk hX
            have HHD := Aside0.mk hHd
            clear ht hal hbl hHd hTX hBX E0 D0 D1 hT1 hT2 xa2 xa3 xb2 xb3 xc2 xc3 ya2 ya3 yb2 yb3 yc2 yc3 m2 m3 e3 e4 m2b m3b e3b e4b m2c m3c e3c e4c hka ha0 ha1 hb0 hb1 hX hA hB hga hgb hHa
            go_wp2_with fail
            rw [← HXX.out]
            clear y2 y3 z2 z3 f2 f3 k0 k1 k2 k3 k4 hmk2 hmk3 hmm
            have hgs := HGS.out
            refine wp_region_held_drew (S := (fun w' => w'.cell? ⟨b2, a, none⟩ = some (.int .i64 (G : Int)) ∧ w'.cell? ⟨b3, a, none⟩ = some (.bool true) ∧ w'.cell? ⟨w1.heap.size + 1 + 1 + 1, 2, none⟩ = some (.slice (some ⟨b2, 0, none⟩) l0.length l0.length) ∧ w'.cell? ⟨w1.heap.size + 1 + 1 + 1, 3, none⟩ = some (.slice (some ⟨b3, 0, none⟩) l0.length l0.length) ∧ w'.cell? ⟨wr.heap.size, 3, none⟩ = some (.int .i64 a) ∧ w'.cell? ⟨b2, b, none⟩ = some (.int .i64 (Gb : Int)) ∧ w'.cell? ⟨b3, b, none⟩ = some (.bool Hb) ∧ w'.cell? ⟨wr.heap.size, 4, none⟩ = some (.int .i64 b))) (by kernel_rfl) (by first | exact SA.out | exact SB.out | exact SC.out) (fun hHeld => ?_)
            refine wpAnyH_take (i := 0) (oi := ({ dst := some 57, op := Go.Op.move (Go.Operand.tmp 7), type := 120, pos := "layout.go:136", after := #[], guard := none } : Oper)) (v := ?sv0) rfl (by kernel_rfl) (by kernel_rfl) (by kernel_rfl) (fun _ _ _ h => h) (Or.inl ⟨by rfl, ?shy0⟩) (by assumption) ?_
            case shy0 => (intro w hSw; (try dsimp only at hSw); go_simp; try (with_reducible rfl))
            try simp only [Act.put, List.setIfInBounds_toArray, List.set_cons_zero, List.set_cons_succ]
            refine wpAnyH_take (i := 1) (oi := ({ dst := some 58, op := Go.Op.nilCheck (Go.Operand.tmp 57), type := 0, pos := "layout.go:136", after := #[{ on := 0, ground := Go.Ground.data }], guard := none } : Oper)) (v := ?sv1) rfl (by kernel_rfl) (by kernel_rfl) (by kernel_rfl) (fun _ _ _ h => h) (Or.inl ⟨by rfl, ?shy1⟩) (by assumption) ?_
            case shy1 => (intro w hSw; (try dsimp only at hSw); go_simp; try (with_reducible rfl))
            try simp only [Act.put, List.setIfInBounds_toArray, List.set_cons_zero, List.set_cons_succ]
            refine wpAnyH_take (i := 2) (oi := ({ dst := some 59, op := Go.Op.fieldAddr 123 (Go.Operand.tmp 58) 2, type := 0, pos := "layout.go:136", after := #[{ on := 1, ground := Go.Ground.data }], guard := none } : Oper)) (v := ?sv2) rfl (by kernel_rfl) (by kernel_rfl) (by kernel_rfl) (fun _ _ _ h => h) (Or.inl ⟨by rfl, ?shy2⟩) (by assumption) ?_
            case shy2 => (intro w hSw; (try dsimp only at hSw); go_simp; try (with_reducible rfl))
            try simp only [Act.put, List.setIfInBounds_toArray, List.set_cons_zero, List.set_cons_succ]
            refine wpAnyH_take (i := 3) (oi := ({ dst := some 60, op := Go.Op.load 28 (Go.Operand.tmp 59), type := 28, pos := "layout.go:136", after := #[{ on := 2, ground := Go.Ground.data }], guard := none } : Oper)) (v := ?sv3) rfl (by kernel_rfl) (by kernel_rfl) (by kernel_rfl) (fun _ _ _ h => h) (Or.inl ⟨by rfl, ?shy3⟩) (by assumption) ?_
            case shy3 => (intro w hSw; (try dsimp only at hSw); go_simp; try (with_reducible rfl))
            try simp only [Act.put, List.setIfInBounds_toArray, List.set_cons_zero, List.set_cons_succ]
            refine wpAnyH_take (i := 4) (oi := ({ dst := some 61, op := Go.Op.move (Go.Operand.tmp 8), type := 3, pos := "layout.go:136", after := #[], guard := none } : Oper)) (v := ?sv4) rfl (by kernel_rfl) (by kernel_rfl) (by kernel_rfl) (fun _ _ _ h => h) (Or.inl ⟨by rfl, ?shy4⟩) (by assumption) ?_
            case shy4 => (intro w hSw; (try dsimp only at hSw); go_simp; try (with_reducible rfl))
            try simp only [Act.put, List.setIfInBounds_toArray, List.set_cons_zero, List.set_cons_succ]
            refine wpAnyH_take (i := 5) (oi := ({ dst := some 62, op := Go.Op.move (Go.Operand.tmp 7), type := 120, pos := "layout.go:136", after := #[], guard := none } : Oper)) (v := ?sv5) rfl (by kernel_rfl) (by kernel_rfl) (by kernel_rfl) (fun _ _ _ h => h) (Or.inl ⟨by rfl, ?shy5⟩) (by assumption) ?_
            case shy5 => (intro w hSw; (try dsimp only at hSw); go_simp; try (with_reducible rfl))
            try simp only [Act.put, List.setIfInBounds_toArray, List.set_cons_zero, List.set_cons_succ]
            refine wpAnyH_take (i := 6) (oi := ({ dst := some 63, op := Go.Op.nilCheck (Go.Operand.tmp 62), type := 0, pos := "layout.go:136", after := #[{ on := 5, ground := Go.Ground.data }], guard := none } : Oper)) (v := ?sv6) rfl (by kernel_rfl) (by kernel_rfl) (by kernel_rfl) (fun _ _ _ h => h) (Or.inl ⟨by rfl, ?shy6⟩) (by assumption) ?_
            case shy6 => (intro w hSw; (try dsimp only at hSw); go_simp; try (with_reducible rfl))
            try simp only [Act.put, List.setIfInBounds_toArray, List.set_cons_zero, List.set_cons_succ]
            refine wpAnyH_take (i := 7) (oi := ({ dst := some 64, op := Go.Op.fieldAddr 123 (Go.Operand.tmp 63) 3, type := 0, pos := "layout.go:136", after := #[{ on := 6, ground := Go.Ground.data }], guard := none } : Oper)) (v := ?sv7) rfl (by kernel_rfl) (by kernel_rfl) (by kernel_rfl) (fun _ _ _ h => h) (Or.inl ⟨by rfl, ?shy7⟩) (by assumption) ?_
            case shy7 => (intro w hSw; (try dsimp only at hSw); go_simp; try (with_reducible rfl))
            try simp only [Act.put, List.setIfInBounds_toArray, List.set_cons_zero, List.set_cons_succ]
            refine wpAnyH_take (i := 8) (oi := ({ dst := some 65, op := Go.Op.load 23 (Go.Operand.tmp 64), type := 23, pos := "layout.go:136", after := #[{ on := 7, ground := Go.Ground.data }], guard := none } : Oper)) (v := ?sv8) rfl (by kernel_rfl) (by kernel_rfl) (by kernel_rfl) (fun _ _ _ h => h) (Or.inl ⟨by rfl, ?shy8⟩) (by assumption) ?_
            case shy8 => (intro w hSw; (try dsimp only at hSw); go_simp; try (with_reducible rfl))
            try simp only [Act.put, List.setIfInBounds_toArray, List.set_cons_zero, List.set_cons_succ]
            refine wpAnyH_take (i := 9) (oi := ({ dst := some 66, op := Go.Op.move (Go.Operand.tmp 8), type := 3, pos := "layout.go:136", after := #[{ on := 46, ground := Go.Ground.gcOnly Go.Departure.lateStores }], guard := none } : Oper)) (v := ?sv9) rfl (by kernel_rfl) (by kernel_rfl) (by kernel_rfl) (fun _ _ _ h => h) (Or.inl ⟨by rfl, ?shy9⟩) (by assumption) ?_
            case shy9 => (intro w hSw; (try dsimp only at hSw); go_simp; try (with_reducible rfl))
            try simp only [Act.put, List.setIfInBounds_toArray, List.set_cons_zero, List.set_cons_succ]
            refine wpAnyH_take (i := 10) (oi := ({ dst := some 67, op := Go.Op.move (Go.Operand.tmp 7), type := 120, pos := "layout.go:136", after := #[], guard := none } : Oper)) (v := ?sv10) rfl (by kernel_rfl) (by kernel_rfl) (by kernel_rfl) (fun _ _ _ h => h) (Or.inl ⟨by rfl, ?shy10⟩) (by assumption) ?_
            case shy10 => (intro w hSw; (try dsimp only at hSw); go_simp; try (with_reducible rfl))
            try simp only [Act.put, List.setIfInBounds_toArray, List.set_cons_zero, List.set_cons_succ]
            refine wpAnyH_take (i := 11) (oi := ({ dst := some 68, op := Go.Op.nilCheck (Go.Operand.tmp 67), type := 0, pos := "layout.go:136", after := #[{ on := 10, ground := Go.Ground.data }], guard := none } : Oper)) (v := ?sv11) rfl (by kernel_rfl) (by kernel_rfl) (by kernel_rfl) (fun _ _ _ h => h) (Or.inl ⟨by rfl, ?shy11⟩) (by assumption) ?_
            case shy11 => (intro w hSw; (try dsimp only at hSw); go_simp; try (with_reducible rfl))
            try simp only [Act.put, List.setIfInBounds_toArray, List.set_cons_zero, List.set_cons_succ]
            refine wpAnyH_take (i := 12) (oi := ({ dst := some 69, op := Go.Op.fieldAddr 123 (Go.Operand.tmp 68) 2, type := 0, pos := "layout.go:136", after := #[{ on := 11, ground := Go.Ground.data }], guard := none } : Oper)) (v := ?sv12) rfl (by kernel_rfl) (by kernel_rfl) (by kernel_rfl) (fun _ _ _ h => h) (Or.inl ⟨by rfl, ?shy12⟩) (by assumption) ?_
            case shy12 => (intro w hSw; (try dsimp only at hSw); go_simp; try (with_reducible rfl))
            try simp only [Act.put, List.setIfInBounds_toArray, List.set_cons_zero, List.set_cons_succ]
            refine wpAnyH_take (i := 13) (oi := ({ dst := some 70, op := Go.Op.load 28 (Go.Operand.tmp 69), type := 28, pos := "layout.go:136", after := #[{ on := 12, ground := Go.Ground.data }], guard := none } : Oper)) (v := ?sv13) rfl (by kernel_rfl) (by kernel_rfl) (by kernel_rfl) (fun _ _ _ h => h) (Or.inl ⟨by rfl, ?shy13⟩) (by assumption) ?_
            case shy13 => (intro w hSw; (try dsimp only at hSw); go_simp; try (with_reducible rfl))
            try simp only [Act.put, List.setIfInBounds_toArray, List.set_cons_zero, List.set_cons_succ]
            refine wpAnyH_take (i := 14) (oi := ({ dst := some 71, op := Go.Op.fieldAddr 42 (Go.Operand.tmp 9) 3, type := 0, pos := "layout.go:136", after := #[], guard := none } : Oper)) (v := ?sv14) rfl (by kernel_rfl) (by kernel_rfl) (by kernel_rfl) (fun _ _ _ h => h) (Or.inl ⟨by rfl, ?shy14⟩) (by assumption) ?_
            case shy14 => (intro w hSw; (try dsimp only at hSw); go_simp; try (with_reducible rfl))
            try simp only [Act.put, List.setIfInBounds_toArray, List.set_cons_zero, List.set_cons_succ]
            refine wpAnyH_take (i := 15) (oi := ({ dst := some 72, op := Go.Op.load 3 (Go.Operand.tmp 71), type := 3, pos := "layout.go:136", after := #[{ on := 14, ground := Go.Ground.data }], guard := none } : Oper)) (v := ?sv15) rfl (by kernel_rfl) (by kernel_rfl) (by kernel_rfl) (fun _ _ _ h => h) (Or.inl ⟨by rfl, ?shy15⟩) (by assumption) ?_
            case shy15 => (intro w hSw; (try dsimp only at hSw); go_simp; try (with_reducible rfl))
            try simp only [Act.put, List.setIfInBounds_toArray, List.set_cons_zero, List.set_cons_succ]
            refine wpAnyH_take (i := 16) (oi := ({ dst := some 73, op := Go.Op.indexAddr 28 (Go.Operand.tmp 70) (Go.Operand.tmp 72), type := 0, pos := "layout.go:136", after := #[{ on := 13, ground := Go.Ground.data }, { on := 15, ground := Go.Ground.data }], guard := none } : Oper)) (v := ?sv16) rfl (by kernel_rfl) (by kernel_rfl) (by kernel_rfl) (fun _ _ _ h => h) (Or.inl ⟨by rfl, ?shy16⟩) (by assumption) ?_
            case shy16 => (intro w hSw; (try dsimp only at hSw); go_simp; try (with_reducible rfl))
            try simp only [Act.put, List.setIfInBounds_toArray, List.set_cons_zero, List.set_cons_succ]
            refine wpAnyH_take (i := 17) (oi := ({ dst := some 74, op := Go.Op.load 3 (Go.Operand.tmp 73), type := 3, pos := "layout.go:136", after := #[{ on := 16, ground := Go.Ground.data }], guard := none } : Oper)) (v := ?sv17) rfl (by kernel_rfl) (by kernel_rfl) (by kernel_rfl) (fun _ _ _ h => h) (Or.inl ⟨by rfl, ?shy17⟩) (by assumption) ?_
            case shy17 => (intro w hSw; (try dsimp only at hSw); go_simp; try (with_reducible rfl))
            try simp only [Act.put, List.setIfInBounds_toArray, List.set_cons_zero, List.set_cons_succ]
            refine wpAnyH_take (i := 18) (oi := ({ dst := some 75, op := Go.Op.move (Go.Operand.tmp 7), type := 120, pos := "layout.go:136", after := #[], guard := none } : Oper)) (v := ?sv18) rfl (by kernel_rfl) (by kernel_rfl) (by kernel_rfl) (fun _ _ _ h => h) (Or.inl ⟨by rfl, ?shy18⟩) (by assumption) ?_
            case shy18 => (intro w hSw; (try dsimp only at hSw); go_simp; try (with_reducible rfl))
            try simp only [Act.put, List.setIfInBounds_toArray, List.set_cons_zero, List.set_cons_succ]
            refine wpAnyH_take (i := 19) (oi := ({ dst := some 76, op := Go.Op.nilCheck (Go.Operand.tmp 75), type := 0, pos := "layout.go:136", after := #[{ on := 18, ground := Go.Ground.data }], guard := none } : Oper)) (v := ?sv19) rfl (by kernel_rfl) (by kernel_rfl) (by kernel_rfl) (fun _ _ _ h => h) (Or.inl ⟨by rfl, ?shy19⟩) (by assumption) ?_
            case shy19 => (intro w hSw; (try dsimp only at hSw); go_simp; try (with_reducible rfl))
            try simp only [Act.put, List.setIfInBounds_toArray, List.set_cons_zero, List.set_cons_succ]
            refine wpAnyH_take (i := 20) (oi := ({ dst := some 77, op := Go.Op.fieldAddr 123 (Go.Operand.tmp 76) 2, type := 0, pos := "layout.go:136", after := #[{ on := 19, ground := Go.Ground.data }], guard := none } : Oper)) (v := ?sv20) rfl (by kernel_rfl) (by kernel_rfl) (by kernel_rfl) (fun _ _ _ h => h) (Or.inl ⟨by rfl, ?shy20⟩) (by assumption) ?_
            case shy20 => (intro w hSw; (try dsimp only at hSw); go_simp; try (with_reducible rfl))
            try simp only [Act.put, List.setIfInBounds_toArray, List.set_cons_zero, List.set_cons_succ]
            refine wpAnyH_take (i := 21) (oi := ({ dst := some 78, op := Go.Op.load 28 (Go.Operand.tmp 77), type := 28, pos := "layout.go:136", after := #[{ on := 20, ground := Go.Ground.data }], guard := none } : Oper)) (v := ?sv21) rfl (by kernel_rfl) (by kernel_rfl) (by kernel_rfl) (fun _ _ _ h => h) (Or.inl ⟨by rfl, ?shy21⟩) (by assumption) ?_
            case shy21 => (intro w hSw; (try dsimp only at hSw); go_simp; try (with_reducible rfl))
            try simp only [Act.put, List.setIfInBounds_toArray, List.set_cons_zero, List.set_cons_succ]
            refine wpAnyH_take (i := 22) (oi := ({ dst := some 79, op := Go.Op.fieldAddr 42 (Go.Operand.tmp 9) 4, type := 0, pos := "layout.go:136", after := #[], guard := none } : Oper)) (v := ?sv22) rfl (by kernel_rfl) (by kernel_rfl) (by kernel_rfl) (fun _ _ _ h => h) (Or.inl ⟨by rfl, ?shy22⟩) (by assumption) ?_
            case shy22 => (intro w hSw; (try dsimp only at hSw); go_simp; try (with_reducible rfl))
            try simp only [Act.put, List.setIfInBounds_toArray, List.set_cons_zero, List.set_cons_succ]
            refine wpAnyH_take (i := 23) (oi := ({ dst := some 80, op := Go.Op.load 3 (Go.Operand.tmp 79), type := 3, pos := "layout.go:136", after := #[{ on := 22, ground := Go.Ground.data }], guard := none } : Oper)) (v := ?sv23) rfl (by kernel_rfl) (by kernel_rfl) (by kernel_rfl) (fun _ _ _ h => h) (Or.inl ⟨by rfl, ?shy23⟩) (by assumption) ?_
            case shy23 => (intro w hSw; (try dsimp only at hSw); go_simp; try (with_reducible rfl))
            try simp only [Act.put, List.setIfInBounds_toArray, List.set_cons_zero, List.set_cons_succ]
            refine wpAnyH_take (i := 24) (oi := ({ dst := some 81, op := Go.Op.indexAddr 28 (Go.Operand.tmp 78) (Go.Operand.tmp 80), type := 0, pos := "layout.go:136", after := #[{ on := 21, ground := Go.Ground.data }, { on := 23, ground := Go.Ground.data }], guard := none } : Oper)) (v := ?sv24) rfl (by kernel_rfl) (by kernel_rfl) (by kernel_rfl) (fun _ _ _ h => h) (Or.inl ⟨by rfl, ?shy24⟩) (by assumption) ?_
            case shy24 => (intro w hSw; (try dsimp only at hSw); go_simp; try (with_reducible rfl))
            try simp only [Act.put, List.setIfInBounds_toArray, List.set_cons_zero, List.set_cons_succ]
            refine wpAnyH_take (i := 25) (oi := ({ dst := some 82, op := Go.Op.load 3 (Go.Operand.tmp 81), type := 3, pos := "layout.go:136", after := #[{ on := 24, ground := Go.Ground.data }], guard := none } : Oper)) (v := ?sv25) rfl (by kernel_rfl) (by kernel_rfl) (by kernel_rfl) (fun _ _ _ h => h) (Or.inl ⟨by rfl, ?shy25⟩) (by assumption) ?_
            case shy25 => (intro w hSw; (try dsimp only at hSw); go_simp; try (with_reducible rfl))
            try simp only [Act.put, List.setIfInBounds_toArray, List.set_cons_zero, List.set_cons_succ]
            refine wpAnyH_take (i := 26) (oi := ({ dst := some 83, op := Go.Op.binOp Go.BinOp.add 3 (Go.Operand.tmp 74) (Go.Operand.tmp 82) 3, type := 3, pos := "layout.go:136", after := #[{ on := 17, ground := Go.Ground.data }, { on := 25, ground := Go.Ground.data }], guard := none } : Oper)) (v := ?sv26) rfl (by kernel_rfl) (by kernel_rfl) (by kernel_rfl) (fun _ _ _ h => h) (Or.inl ⟨by rfl, ?shy26⟩) (by assumption) ?_
            case shy26 => (intro w hSw; (try dsimp only at hSw); go_simp; try (with_reducible rfl))
            try simp only [Act.put, List.setIfInBounds_toArray, List.set_cons_zero, List.set_cons_succ]
            refine wpAnyH_take (i := 27) (oi := ({ dst := some 84, op := Go.Op.move (Go.Operand.tmp 7), type := 120, pos := "layout.go:136", after := #[], guard := none } : Oper)) (v := ?sv27) rfl (by kernel_rfl) (by kernel_rfl) (by kernel_rfl) (fun _ _ _ h => h) (Or.inl ⟨by rfl, ?shy27⟩) (by assumption) ?_
            case shy27 => (intro w hSw; (try dsimp only at hSw); go_simp; try (with_reducible rfl))
            try simp only [Act.put, List.setIfInBounds_toArray, List.set_cons_zero, List.set_cons_succ]
            refine wpAnyH_take (i := 28) (oi := ({ dst := some 85, op := Go.Op.nilCheck (Go.Operand.tmp 84), type := 0, pos := "layout.go:136", after := #[{ on := 27, ground := Go.Ground.data }], guard := none } : Oper)) (v := ?sv28) rfl (by kernel_rfl) (by kernel_rfl) (by kernel_rfl) (fun _ _ _ h => h) (Or.inl ⟨by rfl, ?shy28⟩) (by assumption) ?_
            case shy28 => (intro w hSw; (try dsimp only at hSw); go_simp; try (with_reducible rfl))
            try simp only [Act.put, List.setIfInBounds_toArray, List.set_cons_zero, List.set_cons_succ]
            refine wpAnyH_take (i := 29) (oi := ({ dst := some 86, op := Go.Op.fieldAddr 123 (Go.Operand.tmp 85) 3, type := 0, pos := "layout.go:136", after := #[{ on := 28, ground := Go.Ground.data }], guard := none } : Oper)) (v := ?sv29) rfl (by kernel_rfl) (by kernel_rfl) (by kernel_rfl) (fun _ _ _ h => h) (Or.inl ⟨by rfl, ?shy29⟩) (by assumption) ?_
            case shy29 => (intro w hSw; (try dsimp only at hSw); go_simp; try (with_reducible rfl))
            try simp only [Act.put, List.setIfInBounds_toArray, List.set_cons_zero, List.set_cons_succ]
            refine wpAnyH_take (i := 30) (oi := ({ dst := some 87, op := Go.Op.load 23 (Go.Operand.tmp 86), type := 23, pos := "layout.go:136", after := #[{ on := 29, ground := Go.Ground.data }], guard := none } : Oper)) (v := ?sv30) rfl (by kernel_rfl) (by kernel_rfl) (by kernel_rfl) (fun _ _ _ h => h) (Or.inl ⟨by rfl, ?shy30⟩) (by assumption) ?_
            case shy30 => (intro w hSw; (try dsimp only at hSw); go_simp; try (with_reducible rfl))
            try simp only [Act.put, List.setIfInBounds_toArray, List.set_cons_zero, List.set_cons_succ]
            refine wpAnyH_take (i := 31) (oi := ({ dst := some 88, op := Go.Op.fieldAddr 42 (Go.Operand.tmp 9) 3, type := 0, pos := "layout.go:136", after := #[], guard := none } : Oper)) (v := ?sv31) rfl (by kernel_rfl) (by kernel_rfl) (by kernel_rfl) (fun _ _ _ h => h) (Or.inl ⟨by rfl, ?shy31⟩) (by assumption) ?_
            case shy31 => (intro w hSw; (try dsimp only at hSw); go_simp; try (with_reducible rfl))
            try simp only [Act.put, List.setIfInBounds_toArray, List.set_cons_zero, List.set_cons_succ]
            refine wpAnyH_take (i := 32) (oi := ({ dst := some 89, op := Go.Op.load 3 (Go.Operand.tmp 88), type := 3, pos := "layout.go:136", after := #[{ on := 31, ground := Go.Ground.data }], guard := none } : Oper)) (v := ?sv32) rfl (by kernel_rfl) (by kernel_rfl) (by kernel_rfl) (fun _ _ _ h => h) (Or.inl ⟨by rfl, ?shy32⟩) (by assumption) ?_
            case shy32 => (intro w hSw; (try dsimp only at hSw); go_simp; try (with_reducible rfl))
            try simp only [Act.put, List.setIfInBounds_toArray, List.set_cons_zero, List.set_cons_succ]
            refine wpAnyH_take (i := 33) (oi := ({ dst := some 90, op := Go.Op.indexAddr 23 (Go.Operand.tmp 87) (Go.Operand.tmp 89), type := 0, pos := "layout.go:136", after := #[{ on := 30, ground := Go.Ground.data }, { on := 32, ground := Go.Ground.data }], guard := none } : Oper)) (v := ?sv33) rfl (by kernel_rfl) (by kernel_rfl) (by kernel_rfl) (fun _ _ _ h => h) (Or.inl ⟨by rfl, ?shy33⟩) (by assumption) ?_
            case shy33 => (intro w hSw; (try dsimp only at hSw); go_simp; try (with_reducible rfl))
            try simp only [Act.put, List.setIfInBounds_toArray, List.set_cons_zero, List.set_cons_succ]
            refine wpAnyH_take (i := 34) (oi := ({ dst := some 91, op := Go.Op.load 4 (Go.Operand.tmp 90), type := 4, pos := "layout.go:136", after := #[{ on := 33, ground := Go.Ground.data }], guard := none } : Oper)) (v := ?sv34) rfl (by kernel_rfl) (by kernel_rfl) (by kernel_rfl) (fun _ _ _ h => h) (Or.inl ⟨by rfl, ?shy34⟩) (by assumption) ?_
            case shy34 => (intro w hSw; (try dsimp only at hSw); go_simp; try (with_reducible rfl))
            try simp only [Act.put, List.setIfInBounds_toArray, List.set_cons_zero, List.set_cons_succ]
            refine wpAnyH_take (i := 35) (oi := ({ dst := some 92, op := Go.Op.move (Go.Operand.tmp 91), type := 4, pos := "layout.go:136", after := #[{ on := 34, ground := Go.Ground.data }], guard := none } : Oper)) (v := ?sv35) rfl (by kernel_rfl) (by kernel_rfl) (by kernel_rfl) (fun _ _ _ h => h) (Or.inl ⟨by rfl, ?shy35⟩) (by assumption) ?_
            case shy35 => (intro w hSw; (try dsimp only at hSw); go_simp; try (with_reducible rfl))
            try simp only [Act.put, List.setIfInBounds_toArray, List.set_cons_zero, List.set_cons_succ]
            refine wpAnyH_take (i := 36) (oi := ({ dst := some 93, op := Go.Op.move (Go.Operand.tmp 7), type := 120, pos := "layout.go:136", after := #[{ on := 35, ground := Go.Ground.guard }], guard := some (35, false) } : Oper)) (v := undef) rfl (by kernel_rfl) (by kernel_rfl) (by kernel_rfl) (fun _ _ _ h => h) (Or.inr ⟨by rfl, rfl⟩) (by assumption) ?_
            try simp only [Act.put, List.setIfInBounds_toArray, List.set_cons_zero, List.set_cons_succ]
            refine wpAnyH_take (i := 37) (oi := ({ dst := some 94, op := Go.Op.nilCheck (Go.Operand.tmp 93), type := 0, pos := "layout.go:136", after := #[{ on := 36, ground := Go.Ground.data }, { on := 35, ground := Go.Ground.guard }], guard := some (35, false) } : Oper)) (v := undef) rfl (by kernel_rfl) (by kernel_rfl) (by kernel_rfl) (fun _ _ _ h => h) (Or.inr ⟨by rfl, rfl⟩) (by assumption) ?_
            try simp only [Act.put, List.setIfInBounds_toArray, List.set_cons_zero, List.set_cons_succ]
            refine wpAnyH_take (i := 38) (oi := ({ dst := some 95, op := Go.Op.fieldAddr 123 (Go.Operand.tmp 94) 3, type := 0, pos := "layout.go:136", after := #[{ on := 37, ground := Go.Ground.data }, { on := 35, ground := Go.Ground.guard }], guard := some (35, false) } : Oper)) (v := undef) rfl (by kernel_rfl) (by kernel_rfl) (by kernel_rfl) (fun _ _ _ h => h) (Or.inr ⟨by rfl, rfl⟩) (by assumption) ?_
            try simp only [Act.put, List.setIfInBounds_toArray, List.set_cons_zero, List.set_cons_succ]
            refine wpAnyH_take (i := 39) (oi := ({ dst := some 96, op := Go.Op.load 23 (Go.Operand.tmp 95), type := 23, pos := "layout.go:136", after := #[{ on := 38, ground := Go.Ground.data }, { on := 35, ground := Go.Ground.guard }], guard := some (35, false) } : Oper)) (v := undef) rfl (by kernel_rfl) (by kernel_rfl) (by kernel_rfl) (fun _ _ _ h => h) (Or.inr ⟨by rfl, rfl⟩) (by assumption) ?_
            try simp only [Act.put, List.setIfInBounds_toArray, List.set_cons_zero, List.set_cons_succ]
            refine wpAnyH_take (i := 40) (oi := ({ dst := some 97, op := Go.Op.fieldAddr 42 (Go.Operand.tmp 9) 4, type := 0, pos := "layout.go:136", after := #[{ on := 35, ground := Go.Ground.guard }], guard := some (35, false) } : Oper)) (v := undef) rfl (by kernel_rfl) (by kernel_rfl) (by kernel_rfl) (fun _ _ _ h => h) (Or.inr ⟨by rfl, rfl⟩) (by assumption) ?_
            try simp only [Act.put, List.setIfInBounds_toArray, List.set_cons_zero, List.set_cons_succ]
            refine wpAnyH_take (i := 41) (oi := ({ dst := some 98, op := Go.Op.load 3 (Go.Operand.tmp 97), type := 3, pos := "layout.go:136", after := #[{ on := 40, ground := Go.Ground.data }, { on := 35, ground := Go.Ground.guard }], guard := some (35, false) } : Oper)) (v := undef) rfl (by kernel_rfl) (by kernel_rfl) (by kernel_rfl) (fun _ _ _ h => h) (Or.inr ⟨by rfl, rfl⟩) (by assumption) ?_
            try simp only [Act.put, List.setIfInBounds_toArray, List.set_cons_zero, List.set_cons_succ]
            refine wpAnyH_take (i := 42) (oi := ({ dst := some 99, op := Go.Op.indexAddr 23 (Go.Operand.tmp 96) (Go.Operand.tmp 98), type := 0, pos := "layout.go:136", after := #[{ on := 39, ground := Go.Ground.data }, { on := 41, ground := Go.Ground.data }, { on := 35, ground := Go.Ground.guard }], guard := some (35, false) } : Oper)) (v := undef) rfl (by kernel_rfl) (by kernel_rfl) (by kernel_rfl) (fun _ _ _ h => h) (Or.inr ⟨by rfl, rfl⟩) (by assumption) ?_
            try simp only [Act.put, List.setIfInBounds_toArray, List.set_cons_zero, List.set_cons_succ]
            refine wpAnyH_take (i := 43) (oi := ({ dst := some 100, op := Go.Op.load 4 (Go.Operand.tmp 99), type := 4, pos := "layout.go:136", after := #[{ on := 42, ground := Go.Ground.data }, { on := 35, ground := Go.Ground.guard }], guard := some (35, false) } : Oper)) (v := undef) rfl (by kernel_rfl) (by kernel_rfl) (by kernel_rfl) (fun _ _ _ h => h) (Or.inr ⟨by rfl, rfl⟩) (by assumption) ?_
            try simp only [Act.put, List.setIfInBounds_toArray, List.set_cons_zero, List.set_cons_succ]
            refine wpAnyH_take (i := 44) (oi := ({ dst := some 101, op := Go.Op.pick (Go.Operand.tmp 92) (Go.Operand.const (Go.Value.bool true)) (Go.Operand.tmp 100), type := 4, pos := "layout.go:136", after := #[{ on := 35, ground := Go.Ground.data }, { on := 43, ground := Go.Ground.data }], guard := none } : Oper)) (v := ?sv44) rfl (by kernel_rfl) (by kernel_rfl) (by kernel_rfl) (fun _ _ _ h => h) (Or.inl ⟨by rfl, ?shy44⟩) (by assumption) ?_
            case shy44 => (intro w hSw; (try dsimp only at hSw); go_simp; try (with_reducible rfl))
            try simp only [Act.put, List.setIfInBounds_toArray, List.set_cons_zero, List.set_cons_succ]
            refine wpAnyH_take (i := 45) (oi := ({ dst := some 102, op := Go.Op.indexAddr 28 (Go.Operand.tmp 60) (Go.Operand.tmp 61), type := 0, pos := "layout.go:136", after := #[{ on := 3, ground := Go.Ground.data }, { on := 4, ground := Go.Ground.data }, { on := 0, ground := Go.Ground.phase }, { on := 1, ground := Go.Ground.phase }, { on := 2, ground := Go.Ground.phase }, { on := 3, ground := Go.Ground.phase }, { on := 4, ground := Go.Ground.phase }, { on := 5, ground := Go.Ground.textOnly Go.Departure.lateStores }, { on := 6, ground := Go.Ground.textOnly Go.Departure.lateStoresUnsure }, { on := 7, ground := Go.Ground.textOnly Go.Departure.lateStoresUnsure }, { on := 8, ground := Go.Ground.phase }, { on := 9, ground := Go.Ground.textOnly Go.Departure.lateStores }, { on := 10, ground := Go.Ground.phase }, { on := 11, ground := Go.Ground.phase }, { on := 12, ground := Go.Ground.phase }, { on := 13, ground := Go.Ground.phase }, { on := 14, ground := Go.Ground.phase }, { on := 15, ground := Go.Ground.phase }, { on := 16, ground := Go.Ground.phase }, { on := 17, ground := Go.Ground.phase }, { on := 18, ground := Go.Ground.phase }, { on := 19, ground := Go.Ground.phase }, { on := 20, ground := Go.Ground.phase }, { on := 21, ground := Go.Ground.phase }, { on := 22, ground := Go.Ground.phase }, { on := 23, ground := Go.Ground.phase }, { on := 24, ground := Go.Ground.phase }, { on := 25, ground := Go.Ground.phase }, { on := 26, ground := Go.Ground.phase }, { on := 27, ground := Go.Ground.textOnly Go.Departure.lateStores }, { on := 28, ground := Go.Ground.textOnly Go.Departure.lateStoresUnsure }, { on := 29, ground := Go.Ground.textOnly Go.Departure.lateStoresUnsure }, { on := 30, ground := Go.Ground.phase }, { on := 31, ground := Go.Ground.textOnly Go.Departure.lateStores }, { on := 32, ground := Go.Ground.textOnly Go.Departure.lateStores }, { on := 33, ground := Go.Ground.textOnly Go.Departure.lateStoresUnsure }, { on := 34, ground := Go.Ground.phase }, { on := 35, ground := Go.Ground.textOnly Go.Departure.lateStoresUnsure }, { on := 36, ground := Go.Ground.textOnly Go.Departure.lateStores }, { on := 37, ground := Go.Ground.textOnly Go.Departure.lateStoresUnsure }, { on := 38, ground := Go.Ground.textOnly Go.Departure.lateStores }, { on := 39, ground := Go.Ground.phase }, { on := 40, ground := Go.Ground.textOnly Go.Departure.lateStores }, { on := 41, ground := Go.Ground.textOnly Go.Departure.lateStores }, { on := 42, ground := Go.Ground.textOnly Go.Departure.lateStoresUnsure }, { on := 43, ground := Go.Ground.phase }, { on := 44, ground := Go.Ground.textOnly Go.Departure.lateStoresUnsure }], guard := none } : Oper)) (v := ?sv45) rfl (by kernel_rfl) (by kernel_rfl) (by kernel_rfl) (fun _ _ _ h => h) (Or.inl ⟨by rfl, ?shy45⟩) (by assumption) ?_
            case shy45 => (intro w hSw; (try dsimp only at hSw); go_simp; try (with_reducible rfl))
            try simp only [Act.put, List.setIfInBounds_toArray, List.set_cons_zero, List.set_cons_succ]
            refine wpAnyH_ready (rs := [46]) (by kernel_rfl) (by simp) ?_
            refine AllReadyH.cons (o := ({ dst := none, op := Go.Op.store 3 (Go.Operand.tmp 102) (Go.Operand.tmp 83), type := 0, pos := "layout.go:136", after := #[{ on := 45, ground := Go.Ground.data }, { on := 26, ground := Go.Ground.data }, { on := 35, ground := Go.Ground.chain }, { on := 0, ground := Go.Ground.phase }, { on := 1, ground := Go.Ground.phase }, { on := 2, ground := Go.Ground.phase }, { on := 3, ground := Go.Ground.phase }, { on := 4, ground := Go.Ground.phase }, { on := 5, ground := Go.Ground.textOnly Go.Departure.lateStores }, { on := 6, ground := Go.Ground.textOnly Go.Departure.lateStoresUnsure }, { on := 7, ground := Go.Ground.textOnly Go.Departure.lateStoresUnsure }, { on := 8, ground := Go.Ground.phase }, { on := 9, ground := Go.Ground.textOnly Go.Departure.lateStores }, { on := 10, ground := Go.Ground.phase }, { on := 11, ground := Go.Ground.phase }, { on := 12, ground := Go.Ground.phase }, { on := 13, ground := Go.Ground.phase }, { on := 14, ground := Go.Ground.phase }, { on := 15, ground := Go.Ground.phase }, { on := 16, ground := Go.Ground.phase }, { on := 17, ground := Go.Ground.phase }, { on := 18, ground := Go.Ground.phase }, { on := 19, ground := Go.Ground.phase }, { on := 20, ground := Go.Ground.phase }, { on := 21, ground := Go.Ground.phase }, { on := 22, ground := Go.Ground.phase }, { on := 23, ground := Go.Ground.phase }, { on := 24, ground := Go.Ground.phase }, { on := 25, ground := Go.Ground.phase }, { on := 26, ground := Go.Ground.phase }, { on := 27, ground := Go.Ground.textOnly Go.Departure.lateStores }, { on := 28, ground := Go.Ground.textOnly Go.Departure.lateStoresUnsure }, { on := 29, ground := Go.Ground.textOnly Go.Departure.lateStoresUnsure }, { on := 30, ground := Go.Ground.phase }, { on := 31, ground := Go.Ground.textOnly Go.Departure.lateStores }, { on := 32, ground := Go.Ground.textOnly Go.Departure.lateStores }, { on := 33, ground := Go.Ground.textOnly Go.Departure.lateStoresUnsure }, { on := 34, ground := Go.Ground.phase }, { on := 35, ground := Go.Ground.textOnly Go.Departure.lateStoresUnsure }, { on := 36, ground := Go.Ground.textOnly Go.Departure.lateStores }, { on := 37, ground := Go.Ground.textOnly Go.Departure.lateStoresUnsure }, { on := 38, ground := Go.Ground.textOnly Go.Departure.lateStores }, { on := 39, ground := Go.Ground.phase }, { on := 40, ground := Go.Ground.textOnly Go.Departure.lateStores }, { on := 41, ground := Go.Ground.textOnly Go.Departure.lateStores }, { on := 42, ground := Go.Ground.textOnly Go.Departure.lateStoresUnsure }, { on := 43, ground := Go.Ground.phase }, { on := 44, ground := Go.Ground.textOnly Go.Departure.lateStoresUnsure }], guard := none } : Oper)) rfl (fun K hK => ?_) AllReadyH.nil
            go_simp
            refine hK.out _ _ (by first | exact SA.out | exact SB.out | exact SC.out) (fun hHeld => ?_)
            clear hK K
            try simp only [Act.put, List.setIfInBounds_toArray, List.set_cons_zero, List.set_cons_succ]
            refine wpAnyH_take (i := 47) (oi := ({ dst := some 103, op := Go.Op.indexAddr 23 (Go.Operand.tmp 65) (Go.Operand.tmp 66), type := 0, pos := "layout.go:136", after := #[{ on := 8, ground := Go.Ground.data }, { on := 9, ground := Go.Ground.data }, { on := 0, ground := Go.Ground.phase }, { on := 1, ground := Go.Ground.phase }, { on := 2, ground := Go.Ground.phase }, { on := 3, ground := Go.Ground.phase }, { on := 4, ground := Go.Ground.phase }, { on := 5, ground := Go.Ground.phase }, { on := 6, ground := Go.Ground.phase }, { on := 7, ground := Go.Ground.phase }, { on := 8, ground := Go.Ground.phase }, { on := 9, ground := Go.Ground.phase }, { on := 10, ground := Go.Ground.phase }, { on := 11, ground := Go.Ground.phase }, { on := 12, ground := Go.Ground.phase }, { on := 13, ground := Go.Ground.phase }, { on := 14, ground := Go.Ground.phase }, { on := 15, ground := Go.Ground.phase }, { on := 16, ground := Go.Ground.phase }, { on := 17, ground := Go.Ground.phase }, { on := 18, ground := Go.Ground.phase }, { on := 19, ground := Go.Ground.phase }, { on := 20, ground := Go.Ground.phase }, { on := 21, ground := Go.Ground.phase }, { on := 22, ground := Go.Ground.phase }, { on := 23, ground := Go.Ground.phase }, { on := 24, ground := Go.Ground.phase }, { on := 25, ground := Go.Ground.phase }, { on := 26, ground := Go.Ground.phase }, { on := 27, ground := Go.Ground.phase }, { on := 28, ground := Go.Ground.phase }, { on := 29, ground := Go.Ground.phase }, { on := 30, ground := Go.Ground.phase }, { on := 31, ground := Go.Ground.phase }, { on := 32, ground := Go.Ground.phase }, { on := 33, ground := Go.Ground.phase }, { on := 34, ground := Go.Ground.phase }, { on := 35, ground := Go.Ground.phase }, { on := 36, ground := Go.Ground.phase }, { on := 37, ground := Go.Ground.phase }, { on := 38, ground := Go.Ground.phase }, { on := 39, ground := Go.Ground.phase }, { on := 40, ground := Go.Ground.phase }, { on := 41, ground := Go.Ground.phase }, { on := 42, ground := Go.Ground.phase }, { on := 43, ground := Go.Ground.phase }, { on := 44, ground := Go.Ground.phase }, { on := 45, ground := Go.Ground.phase }, { on := 46, ground := Go.Ground.phase }], guard := none } : Oper)) (v := ?sv47) rfl (by kernel_rfl) (by kernel_rfl) (by kernel_rfl) (fun _ _ _ h => h) (Or.inl ⟨by rfl, ?shy47⟩) (by assumption) ?_
            case shy47 => (intro w hSw; (try dsimp only at hSw); go_simp; try (with_reducible rfl))
            try simp only [Act.put, List.setIfInBounds_toArray, List.set_cons_zero, List.set_cons_succ]
            refine wpAnyH_ready (rs := [48]) (by kernel_rfl) (by simp) ?_
            refine AllReadyH.cons (o := ({ dst := none, op := Go.Op.store 4 (Go.Operand.tmp 103) (Go.Operand.tmp 101), type := 0, pos := "layout.go:136", after := #[{ on := 47, ground := Go.Ground.data }, { on := 44, ground := Go.Ground.data }, { on := 46, ground := Go.Ground.chain }, { on := 0, ground := Go.Ground.phase }, { on := 1, ground := Go.Ground.phase }, { on := 2, ground := Go.Ground.phase }, { on := 3, ground := Go.Ground.phase }, { on := 4, ground := Go.Ground.phase }, { on := 5, ground := Go.Ground.phase }, { on := 6, ground := Go.Ground.phase }, { on := 7, ground := Go.Ground.phase }, { on := 8, ground := Go.Ground.phase }, { on := 9, ground := Go.Ground.phase }, { on := 10, ground := Go.Ground.phase }, { on := 11, ground := Go.Ground.phase }, { on := 12, ground := Go.Ground.phase }, { on := 13, ground := Go.Ground.phase }, { on := 14, ground := Go.Ground.phase }, { on := 15, ground := Go.Ground.phase }, { on := 16, ground := Go.Ground.phase }, { on := 17, ground := Go.Ground.phase }, { on := 18, ground := Go.Ground.phase }, { on := 19, ground := Go.Ground.phase }, { on := 20, ground := Go.Ground.phase }, { on := 21, ground := Go.Ground.phase }, { on := 22, ground := Go.Ground.phase }, { on := 23, ground := Go.Ground.phase }, { on := 24, ground := Go.Ground.phase }, { on := 25, ground := Go.Ground.phase }, { on := 26, ground := Go.Ground.phase }, { on := 27, ground := Go.Ground.phase }, { on := 28, ground := Go.Ground.phase }, { on := 29, ground := Go.Ground.phase }, { on := 30, ground := Go.Ground.phase }, { on := 31, ground := Go.Ground.phase }, { on := 32, ground := Go.Ground.phase }, { on := 33, ground := Go.Ground.phase }, { on := 34, ground := Go.Ground.phase }, { on := 35, ground := Go.Ground.phase }, { on := 36, ground := Go.Ground.phase }, { on := 37, ground := Go.Ground.phase }, { on := 38, ground := Go.Ground.phase }, { on := 39, ground := Go.Ground.phase }, { on := 40, ground := Go.Ground.phase }, { on := 41, ground := Go.Ground.phase }, { on := 42, ground := Go.Ground.phase }, { on := 43, ground := Go.Ground.phase }, { on := 44, ground := Go.Ground.phase }, { on := 45, ground := Go.Ground.phase }, { on := 46, ground := Go.Ground.phase }], guard := none } : Oper)) rfl (fun K hK => ?_) AllReadyH.nil
            go_simp
            refine hK.out _ _ (by first | exact SA.out | exact SB.out | exact SC.out) (fun hHeld => ?_)
            clear hK K
            try simp only [Act.put, List.setIfInBounds_toArray, List.set_cons_zero, List.set_cons_succ]
            refine wpAnyH_done (by kernel_rfl) ?_ _
            all_goals
              clear hgs
              go_wp2_with fail
              go_roundg (gk - 1)
              case measure => have := HI.out; omega
              case rel => exact ⟨i + 1, gz.set i ((G : Int) + Gb), hd.set i Hd, rfl, ⟨by have := HI.out; omega⟩, by rw [HHD.out]; exact HTZ, HK, HBZ⟩

          | false => 
            rw [hHa] at hA HK
            obtain ⟨Hd, hHd⟩ : ∃ Hd, Hd = (false || Hb) := ⟨_, rfl⟩
            rw [← hHd] at HK
            obtain ⟨⟨xa2, xa3⟩, ⟨xb2, xb3⟩, xc2, xc3⟩ := hA ((G : Int) + Gb) Hb
            obtain ⟨⟨ya2, ya3⟩, ⟨yb2, yb3⟩, yc2, yc3⟩ := hB ((G : Int) + Gb) Hb
            simp only [Bool.false_or] at hHd
            have hT1 := hTX.set2 i ((G : Int) + Gb)
            have hT2 := hT1.set3 i Hb
            have D0 := blk_far (blk_far E0 (p := ⟨b2, i, none⟩) (blk_ne E0 hTX.h2 (by decide)) (.int .i64 ((G : Int) + Gb))) (p := ⟨b3, i, none⟩) (blk_ne E0 hTX.h3 (by decide)) (.bool Hb)
            have D1 := blk_far E0 (p := ⟨b2, i, none⟩) (blk_ne E0 hTX.h2 (by decide)) (.int .i64 ((G : Int) + Gb))
            have m2 : X.cell? ⟨w1.heap.size + 1 + 1 + 1, 2, none⟩ = some (.slice (some ⟨b2, 0, none⟩) l0.length l0.length) := (blk_cell hTX.hg 2).trans rfl
            have m3 : X.cell? ⟨w1.heap.size + 1 + 1 + 1, 3, none⟩ = some (.slice (some ⟨b3, 0, none⟩) l0.length l0.length) := (blk_cell hTX.hg 3).trans rfl
            have e3 : X.cell? ⟨wr.heap.size, 3, none⟩ = some (.int .i64 a) := (blk_cell E0 3).trans rfl
            have e4 : X.cell? ⟨wr.heap.size, 4, none⟩ = some (.int .i64 b) := (blk_cell E0 4).trans rfl
            have m2b := (blk_cell hT1.hg 2).trans rfl
            have m3b := (blk_cell hT1.hg 3).trans rfl
            have e3b := (blk_cell D1 3).trans rfl
            have e4b := (blk_cell D1 4).trans rfl
            have m2c := (blk_cell hT2.hg 2).trans rfl
            have m3c := (blk_cell hT2.hg 3).trans rfl
            have e3c := (blk_cell D0 3).trans rfl
            have e4c := (blk_cell D0 4).trans rfl
            have SA := Aside0.mk (And.intro xa2 (And.intro xa3 (And.intro m2 (And.intro m3 (And.intro e3 (And.intro ya2 (And.intro ya3 e4)))))))
            have SB := Aside0.mk (And.intro xb2 (And.intro xb3 (And.intro m2b (And.intro m3b (And.intro e3b (And.intro yb2 (And.intro yb3 e4b)))))))
            have SC := Aside0.mk (And.intro xc2 (And.intro xc3 (And.intro m2c (And.intro m3c (And.intro e3c (And.intro yc2 (And.intro yc3 e4c)))))))
            have p2 : X.cell? ⟨b2, i, none⟩ = some (.int .i64 0) := by rw [hX]; exact y2 _
            have p3 : X.cell? ⟨b3, i, none⟩ = some (.bool false) := by rw [hX]; exact y3 _
            have q2 : X.frozen? ⟨b2, i, none⟩ = false := blk_frozen hTX.h2 i
            have q3 : X.frozen? ⟨b3, i, none⟩ = false := blk_frozen hTX.h3 i
            have q3b : (X.setCell ⟨b2, i, none⟩ (.int .i64 ((G : Int) + Gb))).frozen? ⟨b3, i, none⟩ = false := blk_frozen hT1.h3 i
            have n5 := eq_false (show ¬ (b2 = b3) from blk_ne HT2.out.h2 HT2.out.h3 (by decide))
            have n6 := eq_false (show ¬ (b3 = b2) from blk_ne HT2.out.h3 HT2.out.h2 (by decide))
            have HTZ := Aside0.mk hT2.drew
            have HBZ := Aside0.mk (below_drew1 ((hBX.setCell (p := ⟨b2, i, none⟩) HT2.out.low.2.1 (.int .i64 ((G : Int) + Gb))).setCell (p := ⟨b3, i, none⟩) HT2.out.low.2.2.1 (.bool Hb)))
            have HXX := Aside0.mk hX
            have HHD := Aside0.mk hHd
            clear ht hal hbl hHd hTX hBX E0 D0 D1 hT1 hT2 xa2 xa3 xb2 xb3 xc2 xc3 ya2 ya3 yb2 yb3 yc2 yc3 m2 m3 e3 e4 m2b m3b e3b e4b m2c m3c e3c e4c hka ha0 ha1 hb0 hb1 hX hA hB hga hgb hHa
            go_wp2_with fail
            rw [← HXX.out]
            clear y2 y3 z2 z3 f2 f3 k0 k1 k2 k3 k4 hmk2 hmk3 hmm
            have hgs := HGS.out
            refine wp_region_held_drew (S := (fun w' => w'.cell? ⟨b2, a, none⟩ = some (.int .i64 (G : Int)) ∧ w'.cell? ⟨b3, a, none⟩ = some (.bool false) ∧ w'.cell? ⟨w1.heap.size + 1 + 1 + 1, 2, none⟩ = some (.slice (some ⟨b2, 0, none⟩) l0.length l0.length) ∧ w'.cell? ⟨w1.heap.size + 1 + 1 + 1, 3, none⟩ = some (.slice (some ⟨b3, 0, none⟩) l0.length l0.length) ∧ w'.cell? ⟨wr.heap.size, 3, none⟩ = some (.int .i64 a) ∧ w'.cell? ⟨b2, b, none⟩ = some (.int .i64 (Gb : Int)) ∧ w'.cell? ⟨b3, b, none⟩ = some (.bool Hb) ∧ w'.cell? ⟨wr.heap.size, 4, none⟩ = some (.int .i64 b))) (by kernel_rfl) (by first | exact SA.out | exact SB.out | exact SC.out) (fun hHeld => ?_)
            refine wpAnyH_take (i := 0) (oi := ({ dst := some 57, op := Go.Op.move (Go.Operand.tmp 7), type := 120, pos := "layout.go:136", after := #[], guard := none } : Oper)) (v := ?tv0) rfl (by kernel_rfl) (by kernel_rfl) (by kernel_rfl) (fun _ _ _ h => h) (Or.inl ⟨by rfl, ?thy0⟩) (by assumption) ?_
            case thy0 => (intro w hSw; (try dsimp only at hSw); go_simp; try (with_reducible rfl))
            try simp only [Act.put, List.setIfInBounds_toArray, List.set_cons_zero, List.set_cons_succ]
            refine wpAnyH_take (i := 1) (oi := ({ dst := some 58, op := Go.Op.nilCheck (Go.Operand.tmp 57), type := 0, pos := "layout.go:136", after := #[{ on := 0, ground := Go.Ground.data }], guard := none } : Oper)) (v := ?tv1) rfl (by kernel_rfl) (by kernel_rfl) (by kernel_rfl) (fun _ _ _ h => h) (Or.inl ⟨by rfl, ?thy1⟩) (by assumption) ?_
            case thy1 => (intro w hSw; (try dsimp only at hSw); go_simp; try (with_reducible rfl))
            try simp only [Act.put, List.setIfInBounds_toArray, List.set_cons_zero, List.set_cons_succ]
            refine wpAnyH_take (i := 2) (oi := ({ dst := some 59, op := Go.Op.fieldAddr 123 (Go.Operand.tmp 58) 2, type := 0, pos := "layout.go:136", after := #[{ on := 1, ground := Go.Ground.data }], guard := none } : Oper)) (v := ?tv2) rfl (by kernel_rfl) (by kernel_rfl) (by kernel_rfl) (fun _ _ _ h => h) (Or.inl ⟨by rfl, ?thy2⟩) (by assumption) ?_
            case thy2 => (intro w hSw; (try dsimp only at hSw); go_simp; try (with_reducible rfl))
            try simp only [Act.put, List.setIfInBounds_toArray, List.set_cons_zero, List.set_cons_succ]
            refine wpAnyH_take (i := 3) (oi := ({ dst := some 60, op := Go.Op.load 28 (Go.Operand.tmp 59), type := 28, pos := "layout.go:136", after := #[{ on := 2, ground := Go.Ground.data }], guard := none } : Oper)) (v := ?tv3) rfl (by kernel_rfl) (by kernel_rfl) (by kernel_rfl) (fun _ _ _ h => h) (Or.inl ⟨by rfl, ?thy3⟩) (by assumption) ?_
            case thy3 => (intro w hSw; (try dsimp only at hSw); go_simp; try (with_reducible rfl))
            try simp only [Act.put, List.setIfInBounds_toArray, List.set_cons_zero, List.set_cons_succ]
            refine wpAnyH_take (i := 4) (oi := ({ dst := some 61, op := Go.Op.move (Go.Operand.tmp 8), type := 3, pos := "layout.go:136", after := #[], guard := none } : Oper)) (v := ?tv4) rfl (by kernel_rfl) (by kernel_rfl) (by kernel_rfl) (fun _ _ _ h => h) (Or.inl ⟨by rfl, ?thy4⟩) (by assumption) ?_
            case thy4 => (intro w hSw; (try dsimp only at hSw); go_simp; try (with_reducible rfl))
            try simp only [Act.put, List.setIfInBounds_toArray, List.set_cons_zero, List.set_cons_succ]
            refine wpAnyH_take (i := 5) (oi := ({ dst := some 62, op := Go.Op.move (Go.Operand.tmp 7), type := 120, pos := "layout.go:136", after := #[], guard := none } : Oper)) (v := ?tv5) rfl (by kernel_rfl) (by kernel_rfl) (by kernel_rfl) (fun _ _ _ h => h) (Or.inl ⟨by rfl, ?thy5⟩) (by assumption) ?_
            case thy5 => (intro w hSw; (try dsimp only at hSw); go_simp; try (with_reducible rfl))
            try simp only [Act.put, List.setIfInBounds_toArray, List.set_cons_zero, List.set_cons_succ]
            refine wpAnyH_take (i := 6) (oi := ({ dst := some 63, op := Go.Op.nilCheck (Go.Operand.tmp 62), type := 0, pos := "layout.go:136", after := #[{ on := 5, ground := Go.Ground.data }], guard := none } : Oper)) (v := ?tv6) rfl (by kernel_rfl) (by kernel_rfl) (by kernel_rfl) (fun _ _ _ h => h) (Or.inl ⟨by rfl, ?thy6⟩) (by assumption) ?_
            case thy6 => (intro w hSw; (try dsimp only at hSw); go_simp; try (with_reducible rfl))
            try simp only [Act.put, List.setIfInBounds_toArray, List.set_cons_zero, List.set_cons_succ]
            refine wpAnyH_take (i := 7) (oi := ({ dst := some 64, op := Go.Op.fieldAddr 123 (Go.Operand.tmp 63) 3, type := 0, pos := "layout.go:136", after := #[{ on := 6, ground := Go.Ground.data }], guard := none } : Oper)) (v := ?tv7) rfl (by kernel_rfl) (by kernel_rfl) (by kernel_rfl) (fun _ _ _ h => h) (Or.inl ⟨by rfl, ?thy7⟩) (by assumption) ?_
            case thy7 => (intro w hSw; (try dsimp only at hSw); go_simp; try (with_reducible rfl))
            try simp only [Act.put, List.setIfInBounds_toArray, List.set_cons_zero, List.set_cons_succ]
            refine wpAnyH_take (i := 8) (oi := ({ dst := some 65, op := Go.Op.load 23 (Go.Operand.tmp 64), type := 23, pos := "layout.go:136", after := #[{ on := 7, ground := Go.Ground.data }], guard := none } : Oper)) (v := ?tv8) rfl (by kernel_rfl) (by kernel_rfl) (by kernel_rfl) (fun _ _ _ h => h) (Or.inl ⟨by rfl, ?thy8⟩) (by assumption) ?_
            case thy8 => (intro w hSw; (try dsimp only at hSw); go_simp; try (with_reducible rfl))
            try simp only [Act.put, List.setIfInBounds_toArray, List.set_cons_zero, List.set_cons_succ]
            refine wpAnyH_take (i := 9) (oi := ({ dst := some 66, op := Go.Op.move (Go.Operand.tmp 8), type := 3, pos := "layout.go:136", after := #[{ on := 46, ground := Go.Ground.gcOnly Go.Departure.lateStores }], guard := none } : Oper)) (v := ?tv9) rfl (by kernel_rfl) (by kernel_rfl) (by kernel_rfl) (fun _ _ _ h => h) (Or.inl ⟨by rfl, ?thy9⟩) (by assumption) ?_
            case thy9 => (intro w hSw; (try dsimp only at hSw); go_simp; try (with_reducible rfl))
            try simp only [Act.put, List.setIfInBounds_toArray, List.set_cons_zero, List.set_cons_succ]
            refine wpAnyH_take (i := 10) (oi := ({ dst := some 67, op := Go.Op.move (Go.Operand.tmp 7), type := 120, pos := "layout.go:136", after := #[], guard := none } : Oper)) (v := ?tv10) rfl (by kernel_rfl) (by kernel_rfl) (by kernel_rfl) (fun _ _ _ h => h) (Or.inl ⟨by rfl, ?thy10⟩) (by assumption) ?_
            case thy10 => (intro w hSw; (try dsimp only at hSw); go_simp; try (with_reducible rfl))
            try simp only [Act.put, List.setIfInBounds_toArray, List.set_cons_zero, List.set_cons_succ]
            refine wpAnyH_take (i := 11) (oi := ({ dst := some 68, op := Go.Op.nilCheck (Go.Operand.tmp 67), type := 0, pos := "layout.go:136", after := #[{ on := 10, ground := Go.Ground.data }], guard := none } : Oper)) (v := ?tv11) rfl (by kernel_rfl) (by kernel_rfl) (by kernel_rfl) (fun _ _ _ h => h) (Or.inl ⟨by rfl, ?thy11⟩) (by assumption) ?_
            case thy11 => (intro w hSw; (try dsimp only at hSw); go_simp; try (with_reducible rfl))
            try simp only [Act.put, List.setIfInBounds_toArray, List.set_cons_zero, List.set_cons_succ]
            refine wpAnyH_take (i := 12) (oi := ({ dst := some 69, op := Go.Op.fieldAddr 123 (Go.Operand.tmp 68) 2, type := 0, pos := "layout.go:136", after := #[{ on := 11, ground := Go.Ground.data }], guard := none } : Oper)) (v := ?tv12) rfl (by kernel_rfl) (by kernel_rfl) (by kernel_rfl) (fun _ _ _ h => h) (Or.inl ⟨by rfl, ?thy12⟩) (by assumption) ?_
            case thy12 => (intro w hSw; (try dsimp only at hSw); go_simp; try (with_reducible rfl))
            try simp only [Act.put, List.setIfInBounds_toArray, List.set_cons_zero, List.set_cons_succ]
            refine wpAnyH_take (i := 13) (oi := ({ dst := some 70, op := Go.Op.load 28 (Go.Operand.tmp 69), type := 28, pos := "layout.go:136", after := #[{ on := 12, ground := Go.Ground.data }], guard := none } : Oper)) (v := ?tv13) rfl (by kernel_rfl) (by kernel_rfl) (by kernel_rfl) (fun _ _ _ h => h) (Or.inl ⟨by rfl, ?thy13⟩) (by assumption) ?_
            case thy13 => (intro w hSw; (try dsimp only at hSw); go_simp; try (with_reducible rfl))
            try simp only [Act.put, List.setIfInBounds_toArray, List.set_cons_zero, List.set_cons_succ]
            refine wpAnyH_take (i := 14) (oi := ({ dst := some 71, op := Go.Op.fieldAddr 42 (Go.Operand.tmp 9) 3, type := 0, pos := "layout.go:136", after := #[], guard := none } : Oper)) (v := ?tv14) rfl (by kernel_rfl) (by kernel_rfl) (by kernel_rfl) (fun _ _ _ h => h) (Or.inl ⟨by rfl, ?thy14⟩) (by assumption) ?_
            case thy14 => (intro w hSw; (try dsimp only at hSw); go_simp; try (with_reducible rfl))
            try simp only [Act.put, List.setIfInBounds_toArray, List.set_cons_zero, List.set_cons_succ]
            refine wpAnyH_take (i := 15) (oi := ({ dst := some 72, op := Go.Op.load 3 (Go.Operand.tmp 71), type := 3, pos := "layout.go:136", after := #[{ on := 14, ground := Go.Ground.data }], guard := none } : Oper)) (v := ?tv15) rfl (by kernel_rfl) (by kernel_rfl) (by kernel_rfl) (fun _ _ _ h => h) (Or.inl ⟨by rfl, ?thy15⟩) (by assumption) ?_
            case thy15 => (intro w hSw; (try dsimp only at hSw); go_simp; try (with_reducible rfl))
            try simp only [Act.put, List.setIfInBounds_toArray, List.set_cons_zero, List.set_cons_succ]
            refine wpAnyH_take (i := 16) (oi := ({ dst := some 73, op := Go.Op.indexAddr 28 (Go.Operand.tmp 70) (Go.Operand.tmp 72), type := 0, pos := "layout.go:136", after := #[{ on := 13, ground := Go.Ground.data }, { on := 15, ground := Go.Ground.data }], guard := none } : Oper)) (v := ?tv16) rfl (by kernel_rfl) (by kernel_rfl) (by kernel_rfl) (fun _ _ _ h => h) (Or.inl ⟨by rfl, ?thy16⟩) (by assumption) ?_
            case thy16 => (intro w hSw; (try dsimp only at hSw); go_simp; try (with_reducible rfl))
            try simp only [Act.put, List.setIfInBounds_toArray, List.set_cons_zero, List.set_cons_succ]
            refine wpAnyH_take (i := 17) (oi := ({ dst := some 74, op := Go.Op.load 3 (Go.Operand.tmp 73), type := 3, pos := "layout.go:136", after := #[{ on := 16, ground := Go.Ground.data }], guard := none } : Oper)) (v := ?tv17) rfl (by kernel_rfl) (by kernel_rfl) (by kernel_rfl) (fun _ _ _ h => h) (Or.inl ⟨by rfl, ?thy17⟩) (by assumption) ?_
            case thy17 => (intro w hSw; (try dsimp only at hSw); go_simp; try (with_reducible rfl))
            try simp only [Act.put, List.setIfInBounds_toArray, List.set_cons_zero, List.set_cons_succ]
            refine wpAnyH_take (i := 18) (oi := ({ dst := some 75, op := Go.Op.move (Go.Operand.tmp 7), type := 120, pos := "layout.go:136", after := #[], guard := none } : Oper)) (v := ?tv18) rfl (by kernel_rfl) (by kernel_rfl) (by kernel_rfl) (fun _ _ _ h => h) (Or.inl ⟨by rfl, ?thy18⟩) (by assumption) ?_
            case thy18 => (intro w hSw; (try dsimp only at hSw); go_simp; try (with_reducible rfl))
            try simp only [Act.put, List.setIfInBounds_toArray, List.set_cons_zero, List.set_cons_succ]
            refine wpAnyH_take (i := 19) (oi := ({ dst := some 76, op := Go.Op.nilCheck (Go.Operand.tmp 75), type := 0, pos := "layout.go:136", after := #[{ on := 18, ground := Go.Ground.data }], guard := none } : Oper)) (v := ?tv19) rfl (by kernel_rfl) (by kernel_rfl) (by kernel_rfl) (fun _ _ _ h => h) (Or.inl ⟨by rfl, ?thy19⟩) (by assumption) ?_
            case thy19 => (intro w hSw; (try dsimp only at hSw); go_simp; try (with_reducible rfl))
            try simp only [Act.put, List.setIfInBounds_toArray, List.set_cons_zero, List.set_cons_succ]
            refine wpAnyH_take (i := 20) (oi := ({ dst := some 77, op := Go.Op.fieldAddr 123 (Go.Operand.tmp 76) 2, type := 0, pos := "layout.go:136", after := #[{ on := 19, ground := Go.Ground.data }], guard := none } : Oper)) (v := ?tv20) rfl (by kernel_rfl) (by kernel_rfl) (by kernel_rfl) (fun _ _ _ h => h) (Or.inl ⟨by rfl, ?thy20⟩) (by assumption) ?_
            case thy20 => (intro w hSw; (try dsimp only at hSw); go_simp; try (with_reducible rfl))
            try simp only [Act.put, List.setIfInBounds_toArray, List.set_cons_zero, List.set_cons_succ]
            refine wpAnyH_take (i := 21) (oi := ({ dst := some 78, op := Go.Op.load 28 (Go.Operand.tmp 77), type := 28, pos := "layout.go:136", after := #[{ on := 20, ground := Go.Ground.data }], guard := none } : Oper)) (v := ?tv21) rfl (by kernel_rfl) (by kernel_rfl) (by kernel_rfl) (fun _ _ _ h => h) (Or.inl ⟨by rfl, ?thy21⟩) (by assumption) ?_
            case thy21 => (intro w hSw; (try dsimp only at hSw); go_simp; try (with_reducible rfl))
            try simp only [Act.put, List.setIfInBounds_toArray, List.set_cons_zero, List.set_cons_succ]
            refine wpAnyH_take (i := 22) (oi := ({ dst := some 79, op := Go.Op.fieldAddr 42 (Go.Operand.tmp 9) 4, type := 0, pos := "layout.go:136", after := #[], guard := none } : Oper)) (v := ?tv22) rfl (by kernel_rfl) (by kernel_rfl) (by kernel_rfl) (fun _ _ _ h => h) (Or.inl ⟨by rfl, ?thy22⟩) (by assumption) ?_
            case thy22 => (intro w hSw; (try dsimp only at hSw); go_simp; try (with_reducible rfl))
            try simp only [Act.put, List.setIfInBounds_toArray, List.set_cons_zero, List.set_cons_succ]
            refine wpAnyH_take (i := 23) (oi := ({ dst := some 80, op := Go.Op.load 3 (Go.Operand.tmp 79), type := 3, pos := "layout.go:136", after := #[{ on := 22, ground := Go.Ground.data }], guard := none } : Oper)) (v := ?tv23) rfl (by kernel_rfl) (by kernel_rfl) (by kernel_rfl) (fun _ _ _ h => h) (Or.inl ⟨by rfl, ?thy23⟩) (by assumption) ?_
            case thy23 => (intro w hSw; (try dsimp only at hSw); go_simp; try (with_reducible rfl))
            try simp only [Act.put, List.setIfInBounds_toArray, List.set_cons_zero, List.set_cons_succ]
            refine wpAnyH_take (i := 24) (oi := ({ dst := some 81, op := Go.Op.indexAddr 28 (Go.Operand.tmp 78) (Go.Operand.tmp 80), type := 0, pos := "layout.go:136", after := #[{ on := 21, ground := Go.Ground.data }, { on := 23, ground := Go.Ground.data }], guard := none } : Oper)) (v := ?tv24) rfl (by kernel_rfl) (by kernel_rfl) (by kernel_rfl) (fun _ _ _ h => h) (Or.inl ⟨by rfl, ?thy24⟩) (by assumption) ?_
            case thy24 => (intro w hSw; (try dsimp only at hSw); go_simp; try (with_reducible rfl))
            try simp only [Act.put, List.setIfInBounds_toArray, List.set_cons_zero, List.set_cons_succ]
            refine wpAnyH_take (i := 25) (oi := ({ dst := some 82, op := Go.Op.load 3 (Go.Operand.tmp 81), type := 3, pos := "layout.go:136", after := #[{ on := 24, ground := Go.Ground.data }], guard := none } : Oper)) (v := ?tv25) rfl (by kernel_rfl) (by kernel_rfl) (by kernel_rfl) (fun _ _ _ h => h) (Or.inl ⟨by rfl, ?thy25⟩) (by assumption) ?_
            case thy25 => (intro w hSw; (try dsimp only at hSw); go_simp; try (with_reducible rfl))
            try simp only [Act.put, List.setIfInBounds_toArray, List.set_cons_zero, List.set_cons_succ]
            refine wpAnyH_take (i := 26) (oi := ({ dst := some 83, op := Go.Op.binOp Go.BinOp.add 3 (Go.Operand.tmp 74) (Go.Operand.tmp 82) 3, type := 3, pos := "layout.go:136", after := #[{ on := 17, ground := Go.Ground.data }, { on := 25, ground := Go.Ground.data }], guard := none } : Oper)) (v := ?tv26) rfl (by kernel_rfl) (by kernel_rfl) (by kernel_rfl) (fun _ _ _ h => h) (Or.inl ⟨by rfl, ?thy26⟩) (by assumption) ?_
            case thy26 => (intro w hSw; (try dsimp only at hSw); go_simp; try (with_reducible rfl))
            try simp only [Act.put, List.setIfInBounds_toArray, List.set_cons_zero, List.set_cons_succ]
            refine wpAnyH_take (i := 27) (oi := ({ dst := some 84, op := Go.Op.move (Go.Operand.tmp 7), type := 120, pos := "layout.go:136", after := #[], guard := none } : Oper)) (v := ?tv27) rfl (by kernel_rfl) (by kernel_rfl) (by kernel_rfl) (fun _ _ _ h => h) (Or.inl ⟨by rfl, ?thy27⟩) (by assumption) ?_
            case thy27 => (intro w hSw; (try dsimp only at hSw); go_simp; try (with_reducible rfl))
            try simp only [Act.put, List.setIfInBounds_toArray, List.set_cons_zero, List.set_cons_succ]
            refine wpAnyH_take (i := 28) (oi := ({ dst := some 85, op := Go.Op.nilCheck (Go.Operand.tmp 84), type := 0, pos := "layout.go:136", after := #[{ on := 27, ground := Go.Ground.data }], guard := none } : Oper)) (v := ?tv28) rfl (by kernel_rfl) (by kernel_rfl) (by kernel_rfl) (fun _ _ _ h => h) (Or.inl ⟨by rfl, ?thy28⟩) (by assumption) ?_
            case thy28 => (intro w hSw; (try dsimp only at hSw); go_simp; try (with_reducible rfl))
            try simp only [Act.put, List.setIfInBounds_toArray, List.set_cons_zero, List.set_cons_succ]
            refine wpAnyH_take (i := 29) (oi := ({ dst := some 86, op := Go.Op.fieldAddr 123 (Go.Operand.tmp 85) 3, type := 0, pos := "layout.go:136", after := #[{ on := 28, ground := Go.Ground.data }], guard := none } : Oper)) (v := ?tv29) rfl (by kernel_rfl) (by kernel_rfl) (by kernel_rfl) (fun _ _ _ h => h) (Or.inl ⟨by rfl, ?thy29⟩) (by assumption) ?_
            case thy29 => (intro w hSw; (try dsimp only at hSw); go_simp; try (with_reducible rfl))
            try simp only [Act.put, List.setIfInBounds_toArray, List.set_cons_zero, List.set_cons_succ]
            refine wpAnyH_take (i := 30) (oi := ({ dst := some 87, op := Go.Op.load 23 (Go.Operand.tmp 86), type := 23, pos := "layout.go:136", after := #[{ on := 29, ground := Go.Ground.data }], guard := none } : Oper)) (v := ?tv30) rfl (by kernel_rfl) (by kernel_rfl) (by kernel_rfl) (fun _ _ _ h => h) (Or.inl ⟨by rfl, ?thy30⟩) (by assumption) ?_
            case thy30 => (intro w hSw; (try dsimp only at hSw); go_simp; try (with_reducible rfl))
            try simp only [Act.put, List.setIfInBounds_toArray, List.set_cons_zero, List.set_cons_succ]
            refine wpAnyH_take (i := 31) (oi := ({ dst := some 88, op := Go.Op.fieldAddr 42 (Go.Operand.tmp 9) 3, type := 0, pos := "layout.go:136", after := #[], guard := none } : Oper)) (v := ?tv31) rfl (by kernel_rfl) (by kernel_rfl) (by kernel_rfl) (fun _ _ _ h => h) (Or.inl ⟨by rfl, ?thy31⟩) (by assumption) ?_
            case thy31 => (intro w hSw; (try dsimp only at hSw); go_simp; try (with_reducible rfl))
            try simp only [Act.put, List.setIfInBounds_toArray, List.set_cons_zero, List.set_cons_succ]
            refine wpAnyH_take (i := 32) (oi := ({ dst := some 89, op := Go.Op.load 3 (Go.Operand.tmp 88), type := 3, pos := "layout.go:136", after := #[{ on := 31, ground := Go.Ground.data }], guard := none } : Oper)) (v := ?tv32) rfl (by kernel_rfl) (by kernel_rfl) (by kernel_rfl) (fun _ _ _ h => h) (Or.inl ⟨by rfl, ?thy32⟩) (by assumption) ?_
            case thy32 => (intro w hSw; (try dsimp only at hSw); go_simp; try (with_reducible rfl))
            try simp only [Act.put, List.setIfInBounds_toArray, List.set_cons_zero, List.set_cons_succ]
            refine wpAnyH_take (i := 33) (oi := ({ dst := some 90, op := Go.Op.indexAddr 23 (Go.Operand.tmp 87) (Go.Operand.tmp 89), type := 0, pos := "layout.go:136", after := #[{ on := 30, ground := Go.Ground.data }, { on := 32, ground := Go.Ground.data }], guard := none } : Oper)) (v := ?tv33) rfl (by kernel_rfl) (by kernel_rfl) (by kernel_rfl) (fun _ _ _ h => h) (Or.inl ⟨by rfl, ?thy33⟩) (by assumption) ?_
            case thy33 => (intro w hSw; (try dsimp only at hSw); go_simp; try (with_reducible rfl))
            try simp only [Act.put, List.setIfInBounds_toArray, List.set_cons_zero, List.set_cons_succ]
            refine wpAnyH_take (i := 34) (oi := ({ dst := some 91, op := Go.Op.load 4 (Go.Operand.tmp 90), type := 4, pos := "layout.go:136", after := #[{ on := 33, ground := Go.Ground.data }], guard := none } : Oper)) (v := ?tv34) rfl (by kernel_rfl) (by kernel_rfl) (by kernel_rfl) (fun _ _ _ h => h) (Or.inl ⟨by rfl, ?thy34⟩) (by assumption) ?_
            case thy34 => (intro w hSw; (try dsimp only at hSw); go_simp; try (with_reducible rfl))
            try simp only [Act.put, List.setIfInBounds_toArray, List.set_cons_zero, List.set_cons_succ]
            refine wpAnyH_take (i := 35) (oi := ({ dst := some 92, op := Go.Op.move (Go.Operand.tmp 91), type := 4, pos := "layout.go:136", after := #[{ on := 34, ground := Go.Ground.data }], guard := none } : Oper)) (v := ?tv35) rfl (by kernel_rfl) (by kernel_rfl) (by kernel_rfl) (fun _ _ _ h => h) (Or.inl ⟨by rfl, ?thy35⟩) (by assumption) ?_
            case thy35 => (intro w hSw; (try dsimp only at hSw); go_simp; try (with_reducible rfl))
            try simp only [Act.put, List.setIfInBounds_toArray, List.set_cons_zero, List.set_cons_succ]
            refine wpAnyH_take (i := 36) (oi := ({ dst := some 93, op := Go.Op.move (Go.Operand.tmp 7), type := 120, pos := "layout.go:136", after := #[{ on := 35, ground := Go.Ground.guard }], guard := some (35, false) } : Oper)) (v := ?tv36) rfl (by kernel_rfl) (by kernel_rfl) (by kernel_rfl) (fun _ _ _ h => h) (Or.inl ⟨by rfl, ?thy36⟩) (by assumption) ?_
            case thy36 => (intro w hSw; (try dsimp only at hSw); go_simp; try (with_reducible rfl))
            try simp only [Act.put, List.setIfInBounds_toArray, List.set_cons_zero, List.set_cons_succ]
            refine wpAnyH_take (i := 37) (oi := ({ dst := some 94, op := Go.Op.nilCheck (Go.Operand.tmp 93), type := 0, pos := "layout.go:136", after := #[{ on := 36, ground := Go.Ground.data }, { on := 35, ground := Go.Ground.guard }], guard := some (35, false) } : Oper)) (v := ?tv37) rfl (by kernel_rfl) (by kernel_rfl) (by kernel_rfl) (fun _ _ _ h => h) (Or.inl ⟨by rfl, ?thy37⟩) (by assumption) ?_
            case thy37 => (intro w hSw; (try dsimp only at hSw); go_simp; try (with_reducible rfl))
            try simp only [Act.put, List.setIfInBounds_toArray, List.set_cons_zero, List.set_cons_succ]
            refine wpAnyH_take (i := 38) (oi := ({ dst := some 95, op := Go.Op.fieldAddr 123 (Go.Operand.tmp 94) 3, type := 0, pos := "layout.go:136", after := #[{ on := 37, ground := Go.Ground.data }, { on := 35, ground := Go.Ground.guard }], guard := some (35, false) } : Oper)) (v := ?tv38) rfl (by kernel_rfl) (by kernel_rfl) (by kernel_rfl) (fun _ _ _ h => h) (Or.inl ⟨by rfl, ?thy38⟩) (by assumption) ?_
            case thy38 => (intro w hSw; (try dsimp only at hSw); go_simp; try (with_reducible rfl))
            try simp only [Act.put, List.setIfInBounds_toArray, List.set_cons_zero, List.set_cons_succ]
            refine wpAnyH_take (i := 39) (oi := ({ dst := some 96, op := Go.Op.load 23 (Go.Operand.tmp 95), type := 23, pos := "layout.go:136", after := #[{ on := 38, ground := Go.Ground.data }, { on := 35, ground := Go.Ground.guard }], guard := some (35, false) } : Oper)) (v := ?tv39) rfl (by kernel_rfl) (by kernel_rfl) (by kernel_rfl) (fun _ _ _ h => h) (Or.inl ⟨by rfl, ?thy39⟩) (by assumption) ?_
            case thy39 => (intro w hSw; (try dsimp only at hSw); go_simp; try (with_reducible rfl))
            try simp only [Act.put, List.setIfInBounds_toArray, List.set_cons_zero, List.set_cons_succ]
            refine wpAnyH_take (i := 40) (oi := ({ dst := some 97, op := Go.Op.fieldAddr 42 (Go.Operand.tmp 9) 4, type := 0, pos := "layout.go:136", after := #[{ on := 35, ground := Go.Ground.guard }], guard := some (35, false) } : Oper)) (v := ?tv40) rfl (by kernel_rfl) (by kernel_rfl) (by kernel_rfl) (fun _ _ _ h => h) (Or.inl ⟨by rfl, ?thy40⟩) (by assumption) ?_
            case thy40 => (intro w hSw; (try dsimp only at hSw); go_simp; try (with_reducible rfl))
            try simp only [Act.put, List.setIfInBounds_toArray, List.set_cons_zero, List.set_cons_succ]
            refine wpAnyH_take (i := 41) (oi := ({ dst := some 98, op := Go.Op.load 3 (Go.Operand.tmp 97), type := 3, pos := "layout.go:136", after := #[{ on := 40, ground := Go.Ground.data }, { on := 35, ground := Go.Ground.guard }], guard := some (35, false) } : Oper)) (v := ?tv41) rfl (by kernel_rfl) (by kernel_rfl) (by kernel_rfl) (fun _ _ _ h => h) (Or.inl ⟨by rfl, ?thy41⟩) (by assumption) ?_
            case thy41 => (intro w hSw; (try dsimp only at hSw); go_simp; try (with_reducible rfl))
            try simp only [Act.put, List.setIfInBounds_toArray, List.set_cons_zero, List.set_cons_succ]
            refine wpAnyH_take (i := 42) (oi := ({ dst := some 99, op := Go.Op.indexAddr 23 (Go.Operand.tmp 96) (Go.Operand.tmp 98), type := 0, pos := "layout.go:136", after := #[{ on := 39, ground := Go.Ground.data }, { on := 41, ground := Go.Ground.data }, { on := 35, ground := Go.Ground.guard }], guard := some (35, false) } : Oper)) (v := ?tv42) rfl (by kernel_rfl) (by kernel_rfl) (by kernel_rfl) (fun _ _ _ h => h) (Or.inl ⟨by rfl, ?thy42⟩) (by assumption) ?_
            case thy42 => (intro w hSw; (try dsimp only at hSw); go_simp; try (with_reducible rfl))
            try simp only [Act.put, List.setIfInBounds_toArray, List.set_cons_zero, List.set_cons_succ]
            refine wpAnyH_take (i := 43) (oi := ({ dst := some 100, op := Go.Op.load 4 (Go.Operand.tmp 99), type := 4, pos := "layout.go:136", after := #[{ on := 42, ground := Go.Ground.data }, { on := 35, ground := Go.Ground.guard }], guard := some (35, false) } : Oper)) (v := ?tv43) rfl (by kernel_rfl) (by kernel_rfl) (by kernel_rfl) (fun _ _ _ h => h) (Or.inl ⟨by rfl, ?thy43⟩) (by assumption) ?_
            case thy43 => (intro w hSw; (try dsimp only at hSw); go_simp; try (with_reducible rfl))
            try simp only [Act.put, List.setIfInBounds_toArray, List.set_cons_zero, List.set_cons_succ]
            refine wpAnyH_take (i := 44) (oi := ({ dst := some 101, op := Go.Op.pick (Go.Operand.tmp 92) (Go.Operand.const (Go.Value.bool true)) (Go.Operand.tmp 100), type := 4, pos := "layout.go:136", after := #[{ on := 35, ground := Go.Ground.data }, { on := 43, ground := Go.Ground.data }], guard := none } : Oper)) (v := ?tv44) rfl (by kernel_rfl) (by kernel_rfl) (by kernel_rfl) (fun _ _ _ h => h) (Or.inl ⟨by rfl, ?thy44⟩) (by assumption) ?_
            case thy44 => (intro w hSw; (try dsimp only at hSw); go_simp; try (with_reducible rfl))
            try simp only [Act.put, List.setIfInBounds_toArray, List.set_cons_zero, List.set_cons_succ]
            refine wpAnyH_take (i := 45) (oi := ({ dst := some 102, op := Go.Op.indexAddr 28 (Go.Operand.tmp 60) (Go.Operand.tmp 61), type := 0, pos := "layout.go:136", after := #[{ on := 3, ground := Go.Ground.data }, { on := 4, ground := Go.Ground.data }, { on := 0, ground := Go.Ground.phase }, { on := 1, ground := Go.Ground.phase }, { on := 2, ground := Go.Ground.phase }, { on := 3, ground := Go.Ground.phase }, { on := 4, ground := Go.Ground.phase }, { on := 5, ground := Go.Ground.textOnly Go.Departure.lateStores }, { on := 6, ground := Go.Ground.textOnly Go.Departure.lateStoresUnsure }, { on := 7, ground := Go.Ground.textOnly Go.Departure.lateStoresUnsure }, { on := 8, ground := Go.Ground.phase }, { on := 9, ground := Go.Ground.textOnly Go.Departure.lateStores }, { on := 10, ground := Go.Ground.phase }, { on := 11, ground := Go.Ground.phase }, { on := 12, ground := Go.Ground.phase }, { on := 13, ground := Go.Ground.phase }, { on := 14, ground := Go.Ground.phase }, { on := 15, ground := Go.Ground.phase }, { on := 16, ground := Go.Ground.phase }, { on := 17, ground := Go.Ground.phase }, { on := 18, ground := Go.Ground.phase }, { on := 19, ground := Go.Ground.phase }, { on := 20, ground := Go.Ground.phase }, { on := 21, ground := Go.Ground.phase }, { on := 22, ground := Go.Ground.phase }, { on := 23, ground := Go.Ground.phase }, { on := 24, ground := Go.Ground.phase }, { on := 25, ground := Go.Ground.phase }, { on := 26, ground := Go.Ground.phase }, { on := 27, ground := Go.Ground.textOnly Go.Departure.lateStores }, { on := 28, ground := Go.Ground.textOnly Go.Departure.lateStoresUnsure }, { on := 29, ground := Go.Ground.textOnly Go.Departure.lateStoresUnsure }, { on := 30, ground := Go.Ground.phase }, { on := 31, ground := Go.Ground.textOnly Go.Departure.lateStores }, { on := 32, ground := Go.Ground.textOnly Go.Departure.lateStores }, { on := 33, ground := Go.Ground.textOnly Go.Departure.lateStoresUnsure }, { on := 34, ground := Go.Ground.phase }, { on := 35, ground := Go.Ground.textOnly Go.Departure.lateStoresUnsure }, { on := 36, ground := Go.Ground.textOnly Go.Departure.lateStores }, { on := 37, ground := Go.Ground.textOnly Go.Departure.lateStoresUnsure }, { on := 38, ground := Go.Ground.textOnly Go.Departure.lateStores }, { on := 39, ground := Go.Ground.phase }, { on := 40, ground := Go.Ground.textOnly Go.Departure.lateStores }, { on := 41, ground := Go.Ground.textOnly Go.Departure.lateStores }, { on := 42, ground := Go.Ground.textOnly Go.Departure.lateStoresUnsure }, { on := 43, ground := Go.Ground.phase }, { on := 44, ground := Go.Ground.textOnly Go.Departure.lateStoresUnsure }], guard := none } : Oper)) (v := ?tv45) rfl (by kernel_rfl) (by kernel_rfl) (by kernel_rfl) (fun _ _ _ h => h) (Or.inl ⟨by rfl, ?thy45⟩) (by assumption) ?_
            case thy45 => (intro w hSw; (try dsimp only at hSw); go_simp; try (with_reducible rfl))
            try simp only [Act.put, List.setIfInBounds_toArray, List.set_cons_zero, List.set_cons_succ]
            refine wpAnyH_ready (rs := [46]) (by kernel_rfl) (by simp) ?_
            refine AllReadyH.cons (o := ({ dst := none, op := Go.Op.store 3 (Go.Operand.tmp 102) (Go.Operand.tmp 83), type := 0, pos := "layout.go:136", after := #[{ on := 45, ground := Go.Ground.data }, { on := 26, ground := Go.Ground.data }, { on := 35, ground := Go.Ground.chain }, { on := 0, ground := Go.Ground.phase }, { on := 1, ground := Go.Ground.phase }, { on := 2, ground := Go.Ground.phase }, { on := 3, ground := Go.Ground.phase }, { on := 4, ground := Go.Ground.phase }, { on := 5, ground := Go.Ground.textOnly Go.Departure.lateStores }, { on := 6, ground := Go.Ground.textOnly Go.Departure.lateStoresUnsure }, { on := 7, ground := Go.Ground.textOnly Go.Departure.lateStoresUnsure }, { on := 8, ground := Go.Ground.phase }, { on := 9, ground := Go.Ground.textOnly Go.Departure.lateStores }, { on := 10, ground := Go.Ground.phase }, { on := 11, ground := Go.Ground.phase }, { on := 12, ground := Go.Ground.phase }, { on := 13, ground := Go.Ground.phase }, { on := 14, ground := Go.Ground.phase }, { on := 15, ground := Go.Ground.phase }, { on := 16, ground := Go.Ground.phase }, { on := 17, ground := Go.Ground.phase }, { on := 18, ground := Go.Ground.phase }, { on := 19, ground := Go.Ground.phase }, { on := 20, ground := Go.Ground.phase }, { on := 21, ground := Go.Ground.phase }, { on := 22, ground := Go.Ground.phase }, { on := 23, ground := Go.Ground.phase }, { on := 24, ground := Go.Ground.phase }, { on := 25, ground := Go.Ground.phase }, { on := 26, ground := Go.Ground.phase }, { on := 27, ground := Go.Ground.textOnly Go.Departure.lateStores }, { on := 28, ground := Go.Ground.textOnly Go.Departure.lateStoresUnsure }, { on := 29, ground := Go.Ground.textOnly Go.Departure.lateStoresUnsure }, { on := 30, ground := Go.Ground.phase }, { on := 31, ground := Go.Ground.textOnly Go.Departure.lateStores }, { on := 32, ground := Go.Ground.textOnly Go.Departure.lateStores }, { on := 33, ground := Go.Ground.textOnly Go.Departure.lateStoresUnsure }, { on := 34, ground := Go.Ground.phase }, { on := 35, ground := Go.Ground.textOnly Go.Departure.lateStoresUnsure }, { on := 36, ground := Go.Ground.textOnly Go.Departure.lateStores }, { on := 37, ground := Go.Ground.textOnly Go.Departure.lateStoresUnsure }, { on := 38, ground := Go.Ground.textOnly Go.Departure.lateStores }, { on := 39, ground := Go.Ground.phase }, { on := 40, ground := Go.Ground.textOnly Go.Departure.lateStores }, { on := 41, ground := Go.Ground.textOnly Go.Departure.lateStores }, { on := 42, ground := Go.Ground.textOnly Go.Departure.lateStoresUnsure }, { on := 43, ground := Go.Ground.phase }, { on := 44, ground := Go.Ground.textOnly Go.Departure.lateStoresUnsure }], guard := none } : Oper)) rfl (fun K hK => ?_) AllReadyH.nil
            go_simp
            refine hK.out _ _ (by first | exact SA.out | exact SB.out | exact SC.out) (fun hHeld => ?_)
            clear hK K
            try simp only [Act.put, List.setIfInBounds_toArray, List.set_cons_zero, List.set_cons_succ]
            refine wpAnyH_take (i := 47) (oi := ({ dst := some 103, op := Go.Op.indexAddr 23 (Go.Operand.tmp 65) (Go.Operand.tmp 66), type := 0, pos := "layout.go:136", after := #[{ on := 8, ground := Go.Ground.data }, { on := 9, ground := Go.Ground.data }, { on := 0, ground := Go.Ground.phase }, { on := 1, ground := Go.Ground.phase }, { on := 2, ground := Go.Ground.phase }, { on := 3, ground := Go.Ground.phase }, { on := 4, ground := Go.Ground.phase }, { on := 5, ground := Go.Ground.phase }, { on := 6, ground := Go.Ground.phase }, { on := 7, ground := Go.Ground.phase }, { on := 8, ground := Go.Ground.phase }, { on := 9, ground := Go.Ground.phase }, { on := 10, ground := Go.Ground.phase }, { on := 11, ground := Go.Ground.phase }, { on := 12, ground := Go.Ground.phase }, { on := 13, ground := Go.Ground.phase }, { on := 14, ground := Go.Ground.phase }, { on := 15, ground := Go.Ground.phase }, { on := 16, ground := Go.Ground.phase }, { on := 17, ground := Go.Ground.phase }, { on := 18, ground := Go.Ground.phase }, { on := 19, ground := Go.Ground.phase }, { on := 20, ground := Go.Ground.phase }, { on := 21, ground := Go.Ground.phase }, { on := 22, ground := Go.Ground.phase }, { on := 23, ground := Go.Ground.phase }, { on := 24, ground := Go.Ground.phase }, { on := 25, ground := Go.Ground.phase }, { on := 26, ground := Go.Ground.phase }, { on := 27, ground := Go.Ground.phase }, { on := 28, ground := Go.Ground.phase }, { on := 29, ground := Go.Ground.phase }, { on := 30, ground := Go.Ground.phase }, { on := 31, ground := Go.Ground.phase }, { on := 32, ground := Go.Ground.phase }, { on := 33, ground := Go.Ground.phase }, { on := 34, ground := Go.Ground.phase }, { on := 35, ground := Go.Ground.phase }, { on := 36, ground := Go.Ground.phase }, { on := 37, ground := Go.Ground.phase }, { on := 38, ground := Go.Ground.phase }, { on := 39, ground := Go.Ground.phase }, { on := 40, ground := Go.Ground.phase }, { on := 41, ground := Go.Ground.phase }, { on := 42, ground := Go.Ground.phase }, { on := 43, ground := Go.Ground.phase }, { on := 44, ground := Go.Ground.phase }, { on := 45, ground := Go.Ground.phase }, { on := 46, ground := Go.Ground.phase }], guard := none } : Oper)) (v := ?tv47) rfl (by kernel_rfl) (by kernel_rfl) (by kernel_rfl) (fun _ _ _ h => h) (Or.inl ⟨by rfl, ?thy47⟩) (by assumption) ?_
            case thy47 => (intro w hSw; (try dsimp only at hSw); go_simp; try (with_reducible rfl))
            try simp only [Act.put, List.setIfInBounds_toArray, List.set_cons_zero, List.set_cons_succ]
            refine wpAnyH_ready (rs := [48]) (by kernel_rfl) (by simp) ?_
            refine AllReadyH.cons (o := ({ dst := none, op := Go.Op.store 4 (Go.Operand.tmp 103) (Go.Operand.tmp 101), type := 0, pos := "layout.go:136", after := #[{ on := 47, ground := Go.Ground.data }, { on := 44, ground := Go.Ground.data }, { on := 46, ground := Go.Ground.chain }, { on := 0, ground := Go.Ground.phase }, { on := 1, ground := Go.Ground.phase }, { on := 2, ground := Go.Ground.phase }, { on := 3, ground := Go.Ground.phase }, { on := 4, ground := Go.Ground.phase }, { on := 5, ground := Go.Ground.phase }, { on := 6, ground := Go.Ground.phase }, { on := 7, ground := Go.Ground.phase }, { on := 8, ground := Go.Ground.phase }, { on := 9, ground := Go.Ground.phase }, { on := 10, ground := Go.Ground.phase }, { on := 11, ground := Go.Ground.phase }, { on := 12, ground := Go.Ground.phase }, { on := 13, ground := Go.Ground.phase }, { on := 14, ground := Go.Ground.phase }, { on := 15, ground := Go.Ground.phase }, { on := 16, ground := Go.Ground.phase }, { on := 17, ground := Go.Ground.phase }, { on := 18, ground := Go.Ground.phase }, { on := 19, ground := Go.Ground.phase }, { on := 20, ground := Go.Ground.phase }, { on := 21, ground := Go.Ground.phase }, { on := 22, ground := Go.Ground.phase }, { on := 23, ground := Go.Ground.phase }, { on := 24, ground := Go.Ground.phase }, { on := 25, ground := Go.Ground.phase }, { on := 26, ground := Go.Ground.phase }, { on := 27, ground := Go.Ground.phase }, { on := 28, ground := Go.Ground.phase }, { on := 29, ground := Go.Ground.phase }, { on := 30, ground := Go.Ground.phase }, { on := 31, ground := Go.Ground.phase }, { on := 32, ground := Go.Ground.phase }, { on := 33, ground := Go.Ground.phase }, { on := 34, ground := Go.Ground.phase }, { on := 35, ground := Go.Ground.phase }, { on := 36, ground := Go.Ground.phase }, { on := 37, ground := Go.Ground.phase }, { on := 38, ground := Go.Ground.phase }, { on := 39, ground := Go.Ground.phase }, { on := 40, ground := Go.Ground.phase }, { on := 41, ground := Go.Ground.phase }, { on := 42, ground := Go.Ground.phase }, { on := 43, ground := Go.Ground.phase }, { on := 44, ground := Go.Ground.phase }, { on := 45, ground := Go.Ground.phase }, { on := 46, ground := Go.Ground.phase }], guard := none } : Oper)) rfl (fun K hK => ?_) AllReadyH.nil
            go_simp
            refine hK.out _ _ (by first | exact SA.out | exact SB.out | exact SC.out) (fun hHeld => ?_)
            clear hK K
            try simp only [Act.put, List.setIfInBounds_toArray, List.set_cons_zero, List.set_cons_succ]
            refine wpAnyH_done (by kernel_rfl) ?_ _
            all_goals
              clear hgs
              go_wp2_with fail
              go_roundg (gk - 1)
              case measure => have := HI.out; omega
              case rel => exact ⟨i + 1, gz.set i ((G : Int) + Gb), hd.set i Hd, rfl, ⟨by have := HI.out; omega⟩, by rw [HHD.out]; exact HTZ, HK, HBZ⟩

        · have hka : 3 ≤ (l0.getD i z42).f0 := by rw [HX.out]; show (3 : Int) ≤ 4; omega
          obtain ⟨ha0, ha1⟩ := (HOK.out i hlt).a hka
          rw [HX.out] at ha0 ha1
          simp only at ha0 ha1
          obtain ⟨a, rfl⟩ := Int.eq_ofNat_of_zero_le ha0
          have hal : a < i := by omega
          have ht := tree_nest HOK.out hlt (by rw [HX.out])
          rw [HX.out] at ht
          simp only [Int.toNat_natCast] at ht
          have g1 := eq_true (show (0 : Int) ≤ a by omega)
          have g2 := eq_true (show (a : Int) < l0.length by omega)
          have HK := Aside0.mk (HTO.out.put hlt (x := ((ng (tree l0 a) : Nat) : Int)) (y := hardT (tree l0 a)) (by rw [ht]; simp only [ng]) (by rw [ht]; rfl))
          obtain ⟨X, hX⟩ : ∃ X, X = wr.alloc (.cells #[.int .i64 4, .string s, .int .i64 n, .int .i64 a, .int .i64 b] 42) := ⟨_, rfl⟩
          have hTX : TbSt w.heap.size (w1.heap.size + 1 + 1 + 1) b2 b3 gm ad l0.length c0 wd gz hd X := by rw [hX]; exact HT2.out.alloc _
          have hBX : Below w.heap.size w X := by rw [hX]; exact HB3.out.alloc HB3.out.size _
          have E0 : X.heap[wr.heap.size]? = some (.cells #[.int .i64 4, .string s, .int .i64 n, .int .i64 a, .int .i64 b] 42 (0, 0)) := by rw [hX]; exact heap_alloc_new wr _
          obtain ⟨⟨xa2, xa3⟩, ⟨xb2, xb3⟩, xc2, xc3⟩ := hTX.at2 HTO.out hlt hal ((ng (tree l0 a) : Nat) : Int) (hardT (tree l0 a))
          obtain ⟨G, hG⟩ : ∃ G, G = ng (tree l0 a) := ⟨_, rfl⟩
          obtain ⟨Hd, hHd⟩ : ∃ Hd, Hd = hardT (tree l0 a) := ⟨_, rfl⟩
          rw [← hG] at xa2 xb2 xc2 xb3 xc3 HK
          rw [← hHd] at xa3 xb3 xc2 xc3 HK
          have hT1 := hTX.set2 i (G : Int)
          have hT2 := hT1.set3 i Hd
          have D0 := blk_far (blk_far E0 (p := ⟨b2, i, none⟩) (blk_ne E0 hTX.h2 (by decide)) (.int .i64 (G : Int))) (p := ⟨b3, i, none⟩) (blk_ne E0 hTX.h3 (by decide)) (.bool Hd)
          have D1 := blk_far E0 (p := ⟨b2, i, none⟩) (blk_ne E0 hTX.h2 (by decide)) (.int .i64 (G : Int))
          have m2 : X.cell? ⟨w1.heap.size + 1 + 1 + 1, 2, none⟩ = some (.slice (some ⟨b2, 0, none⟩) l0.length l0.length) := (blk_cell hTX.hg 2).trans rfl
          have m3 : X.cell? ⟨w1.heap.size + 1 + 1 + 1, 3, none⟩ = some (.slice (some ⟨b3, 0, none⟩) l0.length l0.length) := (blk_cell hTX.hg 3).trans rfl
          have e3 : X.cell? ⟨wr.heap.size, 3, none⟩ = some (.int .i64 a) := (blk_cell E0 3).trans rfl
          have m2b : (X.setCell ⟨b2, i, none⟩ (.int .i64 (G : Int))).cell? ⟨w1.heap.size + 1 + 1 + 1, 2, none⟩ = some (.slice (some ⟨b2, 0, none⟩) l0.length l0.length) := (blk_cell hT1.hg 2).trans rfl
          have m3b : (X.setCell ⟨b2, i, none⟩ (.int .i64 (G : Int))).cell? ⟨w1.heap.size + 1 + 1 + 1, 3, none⟩ = some (.slice (some ⟨b3, 0, none⟩) l0.length l0.length) := (blk_cell hT1.hg 3).trans rfl
          have e3b : (X.setCell ⟨b2, i, none⟩ (.int .i64 (G : Int))).cell? ⟨wr.heap.size, 3, none⟩ = some (.int .i64 a) := (blk_cell D1 3).trans rfl
          have m2c : ((X.setCell ⟨b2, i, none⟩ (.int .i64 (G : Int))).setCell ⟨b3, i, none⟩ (.bool Hd)).cell? ⟨w1.heap.size + 1 + 1 + 1, 2, none⟩ = some (.slice (some ⟨b2, 0, none⟩) l0.length l0.length) := (blk_cell hT2.hg 2).trans rfl
          have m3c : ((X.setCell ⟨b2, i, none⟩ (.int .i64 (G : Int))).setCell ⟨b3, i, none⟩ (.bool Hd)).cell? ⟨w1.heap.size + 1 + 1 + 1, 3, none⟩ = some (.slice (some ⟨b3, 0, none⟩) l0.length l0.length) := (blk_cell hT2.hg 3).trans rfl
          have e3c : ((X.setCell ⟨b2, i, none⟩ (.int .i64 (G : Int))).setCell ⟨b3, i, none⟩ (.bool Hd)).cell? ⟨wr.heap.size, 3, none⟩ = some (.int .i64 a) := (blk_cell D0 3).trans rfl
          have SA := Aside0.mk (And.intro xa2 (And.intro xa3 (And.intro m2 (And.intro m3 e3))))
          have SB := Aside0.mk (And.intro xb2 (And.intro xb3 (And.intro m2b (And.intro m3b e3b))))
          have SC := Aside0.mk (And.intro xc2 (And.intro xc3 (And.intro m2c (And.intro m3c e3c))))
          have p2 : X.cell? ⟨b2, i, none⟩ = some (.int .i64 0) := by rw [hX]; exact y2 _
          have p3 : X.cell? ⟨b3, i, none⟩ = some (.bool false) := by rw [hX]; exact y3 _
          have q2 : X.frozen? ⟨b2, i, none⟩ = false := blk_frozen hTX.h2 i
          have q3 : X.frozen? ⟨b3, i, none⟩ = false := blk_frozen hTX.h3 i
          have q3b : (X.setCell ⟨b2, i, none⟩ (.int .i64 (G : Int))).frozen? ⟨b3, i, none⟩ = false := blk_frozen hT1.h3 i
          have n5 := eq_false (show ¬ (b2 = b3) from blk_ne HT2.out.h2 HT2.out.h3 (by decide))
          have n6 := eq_false (show ¬ (b3 = b2) from blk_ne HT2.out.h3 HT2.out.h2 (by decide))
          have HTZ := Aside0.mk hT2.drew
          have HBZ := Aside0.mk (below_drew1 ((hBX.setCell (p := ⟨b2, i, none⟩) HT2.out.low.2.1 (.int .i64 (G : Int))).setCell (p := ⟨b3, i, none⟩) HT2.out.low.2.2.1 (.bool Hd)))
          have DD0 := Aside0.mk D0
          have HXX := Aside0.mk hX
          clear ht hal hG hHd hTX hBX E0 D0 D1 hT1 hT2 xa2 xa3 xb2 xb3 xc2 xc3 m2 m3 e3 m2b m3b e3b m2c m3c e3c hka ha0 ha1 hX
          go_wp2_with fail
          rw [← HXX.out]
          clear y2 y3 z2 z3 f2 f3 k0 k1 k2 k3 k4 hmk2 hmk3 hmm
          refine wp_region_held_drew (S := (fun w' => w'.cell? ⟨b2, a, none⟩ = some (.int .i64 (G : Int)) ∧ w'.cell? ⟨b3, a, none⟩ = some (.bool Hd) ∧ w'.cell? ⟨w1.heap.size + 1 + 1 + 1, 2, none⟩ = some (.slice (some ⟨b2, 0, none⟩) l0.length l0.length) ∧ w'.cell? ⟨w1.heap.size + 1 + 1 + 1, 3, none⟩ = some (.slice (some ⟨b3, 0, none⟩) l0.length l0.length) ∧ w'.cell? ⟨wr.heap.size, 3, none⟩ = some (.int .i64 a))) (by kernel_rfl) (by first | exact SA.out | exact SB.out | exact SC.out) (fun hHeld => ?_)
          refine wpAnyH_take (i := 0) (oi := ({ dst := some 108, op := Go.Op.move (Go.Operand.tmp 7), type := 120, pos := "layout.go:138", after := #[], guard := none } : Oper)) (v := ?kv0) rfl (by kernel_rfl) (by kernel_rfl) (by kernel_rfl) (fun _ _ _ h => h) (Or.inl ⟨by rfl, ?khy0⟩) (by assumption) ?_
          case khy0 => (intro w hSw; (try dsimp only at hSw); go_simp; try (with_reducible rfl))
          try simp only [Act.put, List.setIfInBounds_toArray, List.set_cons_zero, List.set_cons_succ]
          refine wpAnyH_take (i := 1) (oi := ({ dst := some 109, op := Go.Op.nilCheck (Go.Operand.tmp 108), type := 0, pos := "layout.go:138", after := #[{ on := 0, ground := Go.Ground.data }], guard := none } : Oper)) (v := ?kv1) rfl (by kernel_rfl) (by kernel_rfl) (by kernel_rfl) (fun _ _ _ h => h) (Or.inl ⟨by rfl, ?khy1⟩) (by assumption) ?_
          case khy1 => (intro w hSw; (try dsimp only at hSw); go_simp; try (with_reducible rfl))
          try simp only [Act.put, List.setIfInBounds_toArray, List.set_cons_zero, List.set_cons_succ]
          refine wpAnyH_take (i := 2) (oi := ({ dst := some 110, op := Go.Op.fieldAddr 123 (Go.Operand.tmp 109) 2, type := 0, pos := "layout.go:138", after := #[{ on := 1, ground := Go.Ground.data }], guard := none } : Oper)) (v := ?kv2) rfl (by kernel_rfl) (by kernel_rfl) (by kernel_rfl) (fun _ _ _ h => h) (Or.inl ⟨by rfl, ?khy2⟩) (by assumption) ?_
          case khy2 => (intro w hSw; (try dsimp only at hSw); go_simp; try (with_reducible rfl))
          try simp only [Act.put, List.setIfInBounds_toArray, List.set_cons_zero, List.set_cons_succ]
          refine wpAnyH_take (i := 3) (oi := ({ dst := some 111, op := Go.Op.load 28 (Go.Operand.tmp 110), type := 28, pos := "layout.go:138", after := #[{ on := 2, ground := Go.Ground.data }], guard := none } : Oper)) (v := ?kv3) rfl (by kernel_rfl) (by kernel_rfl) (by kernel_rfl) (fun _ _ _ h => h) (Or.inl ⟨by rfl, ?khy3⟩) (by assumption) ?_
          case khy3 => (intro w hSw; (try dsimp only at hSw); go_simp; try (with_reducible rfl))
          try simp only [Act.put, List.setIfInBounds_toArray, List.set_cons_zero, List.set_cons_succ]
          refine wpAnyH_take (i := 4) (oi := ({ dst := some 112, op := Go.Op.move (Go.Operand.tmp 8), type := 3, pos := "layout.go:138", after := #[], guard := none } : Oper)) (v := ?kv4) rfl (by kernel_rfl) (by kernel_rfl) (by kernel_rfl) (fun _ _ _ h => h) (Or.inl ⟨by rfl, ?khy4⟩) (by assumption) ?_
          case khy4 => (intro w hSw; (try dsimp only at hSw); go_simp; try (with_reducible rfl))
          try simp only [Act.put, List.setIfInBounds_toArray, List.set_cons_zero, List.set_cons_succ]
          refine wpAnyH_take (i := 5) (oi := ({ dst := some 113, op := Go.Op.move (Go.Operand.tmp 7), type := 120, pos := "layout.go:138", after := #[], guard := none } : Oper)) (v := ?kv5) rfl (by kernel_rfl) (by kernel_rfl) (by kernel_rfl) (fun _ _ _ h => h) (Or.inl ⟨by rfl, ?khy5⟩) (by assumption) ?_
          case khy5 => (intro w hSw; (try dsimp only at hSw); go_simp; try (with_reducible rfl))
          try simp only [Act.put, List.setIfInBounds_toArray, List.set_cons_zero, List.set_cons_succ]
          refine wpAnyH_take (i := 6) (oi := ({ dst := some 114, op := Go.Op.nilCheck (Go.Operand.tmp 113), type := 0, pos := "layout.go:138", after := #[{ on := 5, ground := Go.Ground.data }], guard := none } : Oper)) (v := ?kv6) rfl (by kernel_rfl) (by kernel_rfl) (by kernel_rfl) (fun _ _ _ h => h) (Or.inl ⟨by rfl, ?khy6⟩) (by assumption) ?_
          case khy6 => (intro w hSw; (try dsimp only at hSw); go_simp; try (with_reducible rfl))
          try simp only [Act.put, List.setIfInBounds_toArray, List.set_cons_zero, List.set_cons_succ]
          refine wpAnyH_take (i := 7) (oi := ({ dst := some 115, op := Go.Op.fieldAddr 123 (Go.Operand.tmp 114) 3, type := 0, pos := "layout.go:138", after := #[{ on := 6, ground := Go.Ground.data }], guard := none } : Oper)) (v := ?kv7) rfl (by kernel_rfl) (by kernel_rfl) (by kernel_rfl) (fun _ _ _ h => h) (Or.inl ⟨by rfl, ?khy7⟩) (by assumption) ?_
          case khy7 => (intro w hSw; (try dsimp only at hSw); go_simp; try (with_reducible rfl))
          try simp only [Act.put, List.setIfInBounds_toArray, List.set_cons_zero, List.set_cons_succ]
          refine wpAnyH_take (i := 8) (oi := ({ dst := some 116, op := Go.Op.load 23 (Go.Operand.tmp 115), type := 23, pos := "layout.go:138", after := #[{ on := 7, ground := Go.Ground.data }], guard := none } : Oper)) (v := ?kv8) rfl (by kernel_rfl) (by kernel_rfl) (by kernel_rfl) (fun _ _ _ h => h) (Or.inl ⟨by rfl, ?khy8⟩) (by assumption) ?_
          case khy8 => (intro w hSw; (try dsimp only at hSw); go_simp; try (with_reducible rfl))
          try simp only [Act.put, List.setIfInBounds_toArray, List.set_cons_zero, List.set_cons_succ]
          refine wpAnyH_take (i := 9) (oi := ({ dst := some 117, op := Go.Op.move (Go.Operand.tmp 8), type := 3, pos := "layout.go:138", after := #[{ on := 27, ground := Go.Ground.gcOnly Go.Departure.lateStores }], guard := none } : Oper)) (v := ?kv9) rfl (by kernel_rfl) (by kernel_rfl) (by kernel_rfl) (fun _ _ _ h => h) (Or.inl ⟨by rfl, ?khy9⟩) (by assumption) ?_
          case khy9 => (intro w hSw; (try dsimp only at hSw); go_simp; try (with_reducible rfl))
          try simp only [Act.put, List.setIfInBounds_toArray, List.set_cons_zero, List.set_cons_succ]
          refine wpAnyH_take (i := 10) (oi := ({ dst := some 118, op := Go.Op.move (Go.Operand.tmp 7), type := 120, pos := "layout.go:138", after := #[], guard := none } : Oper)) (v := ?kv10) rfl (by kernel_rfl) (by kernel_rfl) (by kernel_rfl) (fun _ _ _ h => h) (Or.inl ⟨by rfl, ?khy10⟩) (by assumption) ?_
          case khy10 => (intro w hSw; (try dsimp only at hSw); go_simp; try (with_reducible rfl))
          try simp only [Act.put, List.setIfInBounds_toArray, List.set_cons_zero, List.set_cons_succ]
          refine wpAnyH_take (i := 11) (oi := ({ dst := some 119, op := Go.Op.nilCheck (Go.Operand.tmp 118), type := 0, pos := "layout.go:138", after := #[{ on := 10, ground := Go.Ground.data }], guard := none } : Oper)) (v := ?kv11) rfl (by kernel_rfl) (by kernel_rfl) (by kernel_rfl) (fun _ _ _ h => h) (Or.inl ⟨by rfl, ?khy11⟩) (by assumption) ?_
          case khy11 => (intro w hSw; (try dsimp only at hSw); go_simp; try (with_reducible rfl))
          try simp only [Act.put, List.setIfInBounds_toArray, List.set_cons_zero, List.set_cons_succ]
          refine wpAnyH_take (i := 12) (oi := ({ dst := some 120, op := Go.Op.fieldAddr 123 (Go.Operand.tmp 119) 2, type := 0, pos := "layout.go:138", after := #[{ on := 11, ground := Go.Ground.data }], guard := none } : Oper)) (v := ?kv12) rfl (by kernel_rfl) (by kernel_rfl) (by kernel_rfl) (fun _ _ _ h => h) (Or.inl ⟨by rfl, ?khy12⟩) (by assumption) ?_
          case khy12 => (intro w hSw; (try dsimp only at hSw); go_simp; try (with_reducible rfl))
          try simp only [Act.put, List.setIfInBounds_toArray, List.set_cons_zero, List.set_cons_succ]
          refine wpAnyH_take (i := 13) (oi := ({ dst := some 121, op := Go.Op.load 28 (Go.Operand.tmp 120), type := 28, pos := "layout.go:138", after := #[{ on := 12, ground := Go.Ground.data }], guard := none } : Oper)) (v := ?kv13) rfl (by kernel_rfl) (by kernel_rfl) (by kernel_rfl) (fun _ _ _ h => h) (Or.inl ⟨by rfl, ?khy13⟩) (by assumption) ?_
          case khy13 => (intro w hSw; (try dsimp only at hSw); go_simp; try (with_reducible rfl))
          try simp only [Act.put, List.setIfInBounds_toArray, List.set_cons_zero, List.set_cons_succ]
          refine wpAnyH_take (i := 14) (oi := ({ dst := some 122, op := Go.Op.fieldAddr 42 (Go.Operand.tmp 9) 3, type := 0, pos := "layout.go:138", after := #[], guard := none } : Oper)) (v := ?kv14) rfl (by kernel_rfl) (by kernel_rfl) (by kernel_rfl) (fun _ _ _ h => h) (Or.inl ⟨by rfl, ?khy14⟩) (by assumption) ?_
          case khy14 => (intro w hSw; (try dsimp only at hSw); go_simp; try (with_reducible rfl))
          try simp only [Act.put, List.setIfInBounds_toArray, List.set_cons_zero, List.set_cons_succ]
          refine wpAnyH_take (i := 15) (oi := ({ dst := some 123, op := Go.Op.load 3 (Go.Operand.tmp 122), type := 3, pos := "layout.go:138", after := #[{ on := 14, ground := Go.Ground.data }], guard := none } : Oper)) (v := ?kv15) rfl (by kernel_rfl) (by kernel_rfl) (by kernel_rfl) (fun _ _ _ h => h) (Or.inl ⟨by rfl, ?khy15⟩) (by assumption) ?_
          case khy15 => (intro w hSw; (try dsimp only at hSw); go_simp; try (with_reducible rfl))
          try simp only [Act.put, List.setIfInBounds_toArray, List.set_cons_zero, List.set_cons_succ]
          refine wpAnyH_take (i := 16) (oi := ({ dst := some 124, op := Go.Op.indexAddr 28 (Go.Operand.tmp 121) (Go.Operand.tmp 123), type := 0, pos := "layout.go:138", after := #[{ on := 13, ground := Go.Ground.data }, { on := 15, ground := Go.Ground.data }], guard := none } : Oper)) (v := ?kv16) rfl (by kernel_rfl) (by kernel_rfl) (by kernel_rfl) (fun _ _ _ h => h) (Or.inl ⟨by rfl, ?khy16⟩) (by assumption) ?_
          case khy16 => (intro w hSw; (try dsimp only at hSw); go_simp; try (with_reducible rfl))
          try simp only [Act.put, List.setIfInBounds_toArray, List.set_cons_zero, List.set_cons_succ]
          refine wpAnyH_take (i := 17) (oi := ({ dst := some 125, op := Go.Op.load 3 (Go.Operand.tmp 124), type := 3, pos := "layout.go:138", after := #[{ on := 16, ground := Go.Ground.data }], guard := none } : Oper)) (v := ?kv17) rfl (by kernel_rfl) (by kernel_rfl) (by kernel_rfl) (fun _ _ _ h => h) (Or.inl ⟨by rfl, ?khy17⟩) (by assumption) ?_
          case khy17 => (intro w hSw; (try dsimp only at hSw); go_simp; try (with_reducible rfl))
          try simp only [Act.put, List.setIfInBounds_toArray, List.set_cons_zero, List.set_cons_succ]
          refine wpAnyH_take (i := 18) (oi := ({ dst := some 126, op := Go.Op.move (Go.Operand.tmp 7), type := 120, pos := "layout.go:138", after := #[], guard := none } : Oper)) (v := ?kv18) rfl (by kernel_rfl) (by kernel_rfl) (by kernel_rfl) (fun _ _ _ h => h) (Or.inl ⟨by rfl, ?khy18⟩) (by assumption) ?_
          case khy18 => (intro w hSw; (try dsimp only at hSw); go_simp; try (with_reducible rfl))
          try simp only [Act.put, List.setIfInBounds_toArray, List.set_cons_zero, List.set_cons_succ]
          refine wpAnyH_take (i := 19) (oi := ({ dst := some 127, op := Go.Op.nilCheck (Go.Operand.tmp 126), type := 0, pos := "layout.go:138", after := #[{ on := 18, ground := Go.Ground.data }], guard := none } : Oper)) (v := ?kv19) rfl (by kernel_rfl) (by kernel_rfl) (by kernel_rfl) (fun _ _ _ h => h) (Or.inl ⟨by rfl, ?khy19⟩) (by assumption) ?_
          case khy19 => (intro w hSw; (try dsimp only at hSw); go_simp; try (with_reducible rfl))
          try simp only [Act.put, List.setIfInBounds_toArray, List.set_cons_zero, List.set_cons_succ]
          refine wpAnyH_take (i := 20) (oi := ({ dst := some 128, op := Go.Op.fieldAddr 123 (Go.Operand.tmp 127) 3, type := 0, pos := "layout.go:138", after := #[{ on := 19, ground := Go.Ground.data }], guard := none } : Oper)) (v := ?kv20) rfl (by kernel_rfl) (by kernel_rfl) (by kernel_rfl) (fun _ _ _ h => h) (Or.inl ⟨by rfl, ?khy20⟩) (by assumption) ?_
          case khy20 => (intro w hSw; (try dsimp only at hSw); go_simp; try (with_reducible rfl))
          try simp only [Act.put, List.setIfInBounds_toArray, List.set_cons_zero, List.set_cons_succ]
          refine wpAnyH_take (i := 21) (oi := ({ dst := some 129, op := Go.Op.load 23 (Go.Operand.tmp 128), type := 23, pos := "layout.go:138", after := #[{ on := 20, ground := Go.Ground.data }], guard := none } : Oper)) (v := ?kv21) rfl (by kernel_rfl) (by kernel_rfl) (by kernel_rfl) (fun _ _ _ h => h) (Or.inl ⟨by rfl, ?khy21⟩) (by assumption) ?_
          case khy21 => (intro w hSw; (try dsimp only at hSw); go_simp; try (with_reducible rfl))
          try simp only [Act.put, List.setIfInBounds_toArray, List.set_cons_zero, List.set_cons_succ]
          refine wpAnyH_take (i := 22) (oi := ({ dst := some 130, op := Go.Op.fieldAddr 42 (Go.Operand.tmp 9) 3, type := 0, pos := "layout.go:138", after := #[], guard := none } : Oper)) (v := ?kv22) rfl (by kernel_rfl) (by kernel_rfl) (by kernel_rfl) (fun _ _ _ h => h) (Or.inl ⟨by rfl, ?khy22⟩) (by assumption) ?_
          case khy22 => (intro w hSw; (try dsimp only at hSw); go_simp; try (with_reducible rfl))
          try simp only [Act.put, List.setIfInBounds_toArray, List.set_cons_zero, List.set_cons_succ]
          refine wpAnyH_take (i := 23) (oi := ({ dst := some 131, op := Go.Op.load 3 (Go.Operand.tmp 130), type := 3, pos := "layout.go:138", after := #[{ on := 22, ground := Go.Ground.data }], guard := none } : Oper)) (v := ?kv23) rfl (by kernel_rfl) (by kernel_rfl) (by kernel_rfl) (fun _ _ _ h => h) (Or.inl ⟨by rfl, ?khy23⟩) (by assumption) ?_
          case khy23 => (intro w hSw; (try dsimp only at hSw); go_simp; try (with_reducible rfl))
          try simp only [Act.put, List.setIfInBounds_toArray, List.set_cons_zero, List.set_cons_succ]
          refine wpAnyH_take (i := 24) (oi := ({ dst := some 132, op := Go.Op.indexAddr 23 (Go.Operand.tmp 129) (Go.Operand.tmp 131), type := 0, pos := "layout.go:138", after := #[{ on := 21, ground := Go.Ground.data }, { on := 23, ground := Go.Ground.data }], guard := none } : Oper)) (v := ?kv24) rfl (by kernel_rfl) (by kernel_rfl) (by kernel_rfl) (fun _ _ _ h => h) (Or.inl ⟨by rfl, ?khy24⟩) (by assumption) ?_
          case khy24 => (intro w hSw; (try dsimp only at hSw); go_simp; try (with_reducible rfl))
          try simp only [Act.put, List.setIfInBounds_toArray, List.set_cons_zero, List.set_cons_succ]
          refine wpAnyH_take (i := 25) (oi := ({ dst := some 133, op := Go.Op.load 4 (Go.Operand.tmp 132), type := 4, pos := "layout.go:138", after := #[{ on := 24, ground := Go.Ground.data }], guard := none } : Oper)) (v := ?kv25) rfl (by kernel_rfl) (by kernel_rfl) (by kernel_rfl) (fun _ _ _ h => h) (Or.inl ⟨by rfl, ?khy25⟩) (by assumption) ?_
          case khy25 => (intro w hSw; (try dsimp only at hSw); go_simp; try (with_reducible rfl))
          try simp only [Act.put, List.setIfInBounds_toArray, List.set_cons_zero, List.set_cons_succ]
          refine wpAnyH_take (i := 26) (oi := ({ dst := some 134, op := Go.Op.indexAddr 28 (Go.Operand.tmp 111) (Go.Operand.tmp 112), type := 0, pos := "layout.go:138", after := #[{ on := 3, ground := Go.Ground.data }, { on := 4, ground := Go.Ground.data }, { on := 0, ground := Go.Ground.phase }, { on := 1, ground := Go.Ground.phase }, { on := 2, ground := Go.Ground.phase }, { on := 3, ground := Go.Ground.phase }, { on := 4, ground := Go.Ground.phase }, { on := 5, ground := Go.Ground.textOnly Go.Departure.lateStores }, { on := 6, ground := Go.Ground.textOnly Go.Departure.lateStoresUnsure }, { on := 7, ground := Go.Ground.textOnly Go.Departure.lateStoresUnsure }, { on := 8, ground := Go.Ground.phase }, { on := 9, ground := Go.Ground.textOnly Go.Departure.lateStores }, { on := 10, ground := Go.Ground.phase }, { on := 11, ground := Go.Ground.phase }, { on := 12, ground := Go.Ground.phase }, { on := 13, ground := Go.Ground.phase }, { on := 14, ground := Go.Ground.phase }, { on := 15, ground := Go.Ground.phase }, { on := 16, ground := Go.Ground.phase }, { on := 17, ground := Go.Ground.phase }, { on := 18, ground := Go.Ground.textOnly Go.Departure.lateStores }, { on := 19, ground := Go.Ground.textOnly Go.Departure.lateStoresUnsure }, { on := 20, ground := Go.Ground.textOnly Go.Departure.lateStoresUnsure }, { on := 21, ground := Go.Ground.phase }, { on := 22, ground := Go.Ground.textOnly Go.Departure.lateStores }, { on := 23, ground := Go.Ground.textOnly Go.Departure.lateStores }, { on := 24, ground := Go.Ground.textOnly Go.Departure.lateStoresUnsure }, { on := 25, ground := Go.Ground.phase }], guard := none } : Oper)) (v := ?kv26) rfl (by kernel_rfl) (by kernel_rfl) (by kernel_rfl) (fun _ _ _ h => h) (Or.inl ⟨by rfl, ?khy26⟩) (by assumption) ?_
          case khy26 => (intro w hSw; (try dsimp only at hSw); go_simp; try (with_reducible rfl))
          try simp only [Act.put, List.setIfInBounds_toArray, List.set_cons_zero, List.set_cons_succ]
          refine wpAnyH_ready (rs := [27]) (by kernel_rfl) (by simp) ?_
          refine AllReadyH.cons (o := ({ dst := none, op := Go.Op.store 3 (Go.Operand.tmp 134) (Go.Operand.tmp 125), type := 0, pos := "layout.go:138", after := #[{ on := 26, ground := Go.Ground.data }, { on := 17, ground := Go.Ground.data }, { on := 0, ground := Go.Ground.phase }, { on := 1, ground := Go.Ground.phase }, { on := 2, ground := Go.Ground.phase }, { on := 3, ground := Go.Ground.phase }, { on := 4, ground := Go.Ground.phase }, { on := 5, ground := Go.Ground.textOnly Go.Departure.lateStores }, { on := 6, ground := Go.Ground.textOnly Go.Departure.lateStoresUnsure }, { on := 7, ground := Go.Ground.textOnly Go.Departure.lateStoresUnsure }, { on := 8, ground := Go.Ground.phase }, { on := 9, ground := Go.Ground.textOnly Go.Departure.lateStores }, { on := 10, ground := Go.Ground.phase }, { on := 11, ground := Go.Ground.phase }, { on := 12, ground := Go.Ground.phase }, { on := 13, ground := Go.Ground.phase }, { on := 14, ground := Go.Ground.phase }, { on := 15, ground := Go.Ground.phase }, { on := 16, ground := Go.Ground.phase }, { on := 17, ground := Go.Ground.phase }, { on := 18, ground := Go.Ground.textOnly Go.Departure.lateStores }, { on := 19, ground := Go.Ground.textOnly Go.Departure.lateStoresUnsure }, { on := 20, ground := Go.Ground.textOnly Go.Departure.lateStoresUnsure }, { on := 21, ground := Go.Ground.phase }, { on := 22, ground := Go.Ground.textOnly Go.Departure.lateStores }, { on := 23, ground := Go.Ground.textOnly Go.Departure.lateStores }, { on := 24, ground := Go.Ground.textOnly Go.Departure.lateStoresUnsure }, { on := 25, ground := Go.Ground.phase }], guard := none } : Oper)) rfl (fun K hK => ?_) AllReadyH.nil
          go_simp
          refine hK.out _ _ (by first | exact SA.out | exact SB.out | exact SC.out) (fun hHeld => ?_)
          clear hK K
          try simp only [Act.put, List.setIfInBounds_toArray, List.set_cons_zero, List.set_cons_succ]
          refine wpAnyH_take (i := 28) (oi := ({ dst := some 135, op := Go.Op.indexAddr 23 (Go.Operand.tmp 116) (Go.Operand.tmp 117), type := 0, pos := "layout.go:138", after := #[{ on := 8, ground := Go.Ground.data }, { on := 9, ground := Go.Ground.data }, { on := 0, ground := Go.Ground.phase }, { on := 1, ground := Go.Ground.phase }, { on := 2, ground := Go.Ground.phase }, { on := 3, ground := Go.Ground.phase }, { on := 4, ground := Go.Ground.phase }, { on := 5, ground := Go.Ground.phase }, { on := 6, ground := Go.Ground.phase }, { on := 7, ground := Go.Ground.phase }, { on := 8, ground := Go.Ground.phase }, { on := 9, ground := Go.Ground.phase }, { on := 10, ground := Go.Ground.phase }, { on := 11, ground := Go.Ground.phase }, { on := 12, ground := Go.Ground.phase }, { on := 13, ground := Go.Ground.phase }, { on := 14, ground := Go.Ground.phase }, { on := 15, ground := Go.Ground.phase }, { on := 16, ground := Go.Ground.phase }, { on := 17, ground := Go.Ground.phase }, { on := 18, ground := Go.Ground.phase }, { on := 19, ground := Go.Ground.phase }, { on := 20, ground := Go.Ground.phase }, { on := 21, ground := Go.Ground.phase }, { on := 22, ground := Go.Ground.phase }, { on := 23, ground := Go.Ground.phase }, { on := 24, ground := Go.Ground.phase }, { on := 25, ground := Go.Ground.phase }, { on := 26, ground := Go.Ground.phase }, { on := 27, ground := Go.Ground.phase }], guard := none } : Oper)) (v := ?kv28) rfl (by kernel_rfl) (by kernel_rfl) (by kernel_rfl) (fun _ _ _ h => h) (Or.inl ⟨by rfl, ?khy28⟩) (by assumption) ?_
          case khy28 => (intro w hSw; (try dsimp only at hSw); go_simp; try (with_reducible rfl))
          try simp only [Act.put, List.setIfInBounds_toArray, List.set_cons_zero, List.set_cons_succ]
          refine wpAnyH_ready (rs := [29]) (by kernel_rfl) (by simp) ?_
          refine AllReadyH.cons (o := ({ dst := none, op := Go.Op.store 4 (Go.Operand.tmp 135) (Go.Operand.tmp 133), type := 0, pos := "layout.go:138", after := #[{ on := 28, ground := Go.Ground.data }, { on := 25, ground := Go.Ground.data }, { on := 27, ground := Go.Ground.chain }, { on := 0, ground := Go.Ground.phase }, { on := 1, ground := Go.Ground.phase }, { on := 2, ground := Go.Ground.phase }, { on := 3, ground := Go.Ground.phase }, { on := 4, ground := Go.Ground.phase }, { on := 5, ground := Go.Ground.phase }, { on := 6, ground := Go.Ground.phase }, { on := 7, ground := Go.Ground.phase }, { on := 8, ground := Go.Ground.phase }, { on := 9, ground := Go.Ground.phase }, { on := 10, ground := Go.Ground.phase }, { on := 11, ground := Go.Ground.phase }, { on := 12, ground := Go.Ground.phase }, { on := 13, ground := Go.Ground.phase }, { on := 14, ground := Go.Ground.phase }, { on := 15, ground := Go.Ground.phase }, { on := 16, ground := Go.Ground.phase }, { on := 17, ground := Go.Ground.phase }, { on := 18, ground := Go.Ground.phase }, { on := 19, ground := Go.Ground.phase }, { on := 20, ground := Go.Ground.phase }, { on := 21, ground := Go.Ground.phase }, { on := 22, ground := Go.Ground.phase }, { on := 23, ground := Go.Ground.phase }, { on := 24, ground := Go.Ground.phase }, { on := 25, ground := Go.Ground.phase }, { on := 26, ground := Go.Ground.phase }, { on := 27, ground := Go.Ground.phase }], guard := none } : Oper)) rfl (fun K hK => ?_) AllReadyH.nil
          go_simp
          refine hK.out _ _ (by first | exact SA.out | exact SB.out | exact SC.out) (fun hHeld => ?_)
          clear hK K
          try simp only [Act.put, List.setIfInBounds_toArray, List.set_cons_zero, List.set_cons_succ]
          refine wpAnyH_done (by kernel_rfl) ?_ _
          all_goals
            obtain ⟨Z, hZ⟩ : ∃ Z, Z = ((X.setCell ⟨b2, i, none⟩ (.int .i64 (G : Int))).setCell ⟨b3, i, none⟩ (.bool Hd)).drew := ⟨_, rfl⟩
            rw [← hZ]
            have hTZ := HTZ.out
            have hBZ := HBZ.out
            rw [← hZ] at hTZ hBZ
            have z0 : Z.cell? ⟨wr.heap.size, 0, none⟩ = some (.int .i64 4) := by rw [hZ]; exact (blk_cell DD0.out 0).trans rfl
            have HTZ := Aside0.mk hTZ
            have HBZ := Aside0.mk hBZ
            clear hZ hTZ hBZ p2 p3 q2 q3 q3b
            go_wp2_with fail
            go_roundg (gk - 1)
            case measure => have := HI.out; omega
            case rel => exact ⟨i + 1, gz.set i (G : Int), hd.set i Hd, rfl, ⟨by have := HI.out; omega⟩, HTZ, HK, HBZ⟩
        · have hka : 3 ≤ (l0.getD i z42).f0 := by rw [HX.out]; show (3 : Int) ≤ 5; omega
          obtain ⟨ha0, ha1⟩ := (HOK.out i hlt).a hka
          rw [HX.out] at ha0 ha1
          simp only at ha0 ha1
          obtain ⟨a, rfl⟩ := Int.eq_ofNat_of_zero_le ha0
          have hal : a < i := by omega
          have ht := tree_align HOK.out hlt (by rw [HX.out])
          rw [HX.out] at ht
          simp only [Int.toNat_natCast] at ht
          have g1 := eq_true (show (0 : Int) ≤ a by omega)
          have g2 := eq_true (show (a : Int) < l0.length by omega)
          have HK := Aside0.mk (HTO.out.put hlt (x := ((ng (tree l0 a) : Nat) : Int)) (y := hardT (tree l0 a)) (by rw [ht]; simp only [ng]) (by rw [ht]; rfl))
          obtain ⟨X, hX⟩ : ∃ X, X = wr.alloc (.cells #[.int .i64 5, .string s, .int .i64 n, .int .i64 a, .int .i64 b] 42) := ⟨_, rfl⟩
          have hTX : TbSt w.heap.size (w1.heap.size + 1 + 1 + 1) b2 b3 gm ad l0.length c0 wd gz hd X := by rw [hX]; exact HT2.out.alloc _
          have hBX : Below w.heap.size w X := by rw [hX]; exact HB3.out.alloc HB3.out.size _
          have E0 : X.heap[wr.heap.size]? = some (.cells #[.int .i64 5, .string s, .int .i64 n, .int .i64 a, .int .i64 b] 42 (0, 0)) := by rw [hX]; exact heap_alloc_new wr _
          obtain ⟨⟨xa2, xa3⟩, ⟨xb2, xb3⟩, xc2, xc3⟩ := hTX.at2 HTO.out hlt hal ((ng (tree l0 a) : Nat) : Int) (hardT (tree l0 a))
          obtain ⟨G, hG⟩ : ∃ G, G = ng (tree l0 a) := ⟨_, rfl⟩
          obtain ⟨Hd, hHd⟩ : ∃ Hd, Hd = hardT (tree l0 a) := ⟨_, rfl⟩
          rw [← hG] at xa2 xb2 xc2 xb3 xc3 HK
          rw [← hHd] at xa3 xb3 xc2 xc3 HK
          have hT1 := hTX.set2 i (G : Int)
          have hT2 := hT1.set3 i Hd
          have D0 := blk_far (blk_far E0 (p := ⟨b2, i, none⟩) (blk_ne E0 hTX.h2 (by decide)) (.int .i64 (G : Int))) (p := ⟨b3, i, none⟩) (blk_ne E0 hTX.h3 (by decide)) (.bool Hd)
          have D1 := blk_far E0 (p := ⟨b2, i, none⟩) (blk_ne E0 hTX.h2 (by decide)) (.int .i64 (G : Int))
          have m2 : X.cell? ⟨w1.heap.size + 1 + 1 + 1, 2, none⟩ = some (.slice (some ⟨b2, 0, none⟩) l0.length l0.length) := (blk_cell hTX.hg 2).trans rfl
          have m3 : X.cell? ⟨w1.heap.size + 1 + 1 + 1, 3, none⟩ = some (.slice (some ⟨b3, 0, none⟩) l0.length l0.length) := (blk_cell hTX.hg 3).trans rfl
          have e3 : X.cell? ⟨wr.heap.size, 3, none⟩ = some (.int .i64 a) := (blk_cell E0 3).trans rfl
          have m2b : (X.setCell ⟨b2, i, none⟩ (.int .i64 (G : Int))).cell? ⟨w1.heap.size + 1 + 1 + 1, 2, none⟩ = some (.slice (some ⟨b2, 0, none⟩) l0.length l0.length) := (blk_cell hT1.hg 2).trans rfl
          have m3b : (X.setCell ⟨b2, i, none⟩ (.int .i64 (G : Int))).cell? ⟨w1.heap.size + 1 + 1 + 1, 3, none⟩ = some (.slice (some ⟨b3, 0, none⟩) l0.length l0.length) := (blk_cell hT1.hg 3).trans rfl
          have e3b : (X.setCell ⟨b2, i, none⟩ (.int .i64 (G : Int))).cell? ⟨wr.heap.size, 3, none⟩ = some (.int .i64 a) := (blk_cell D1 3).trans rfl
          have m2c : ((X.setCell ⟨b2, i, none⟩ (.int .i64 (G : Int))).setCell ⟨b3, i, none⟩ (.bool Hd)).cell? ⟨w1.heap.size + 1 + 1 + 1, 2, none⟩ = some (.slice (some ⟨b2, 0, none⟩) l0.length l0.length) := (blk_cell hT2.hg 2).trans rfl
          have m3c : ((X.setCell ⟨b2, i, none⟩ (.int .i64 (G : Int))).setCell ⟨b3, i, none⟩ (.bool Hd)).cell? ⟨w1.heap.size + 1 + 1 + 1, 3, none⟩ = some (.slice (some ⟨b3, 0, none⟩) l0.length l0.length) := (blk_cell hT2.hg 3).trans rfl
          have e3c : ((X.setCell ⟨b2, i, none⟩ (.int .i64 (G : Int))).setCell ⟨b3, i, none⟩ (.bool Hd)).cell? ⟨wr.heap.size, 3, none⟩ = some (.int .i64 a) := (blk_cell D0 3).trans rfl
          have SA := Aside0.mk (And.intro xa2 (And.intro xa3 (And.intro m2 (And.intro m3 e3))))
          have SB := Aside0.mk (And.intro xb2 (And.intro xb3 (And.intro m2b (And.intro m3b e3b))))
          have SC := Aside0.mk (And.intro xc2 (And.intro xc3 (And.intro m2c (And.intro m3c e3c))))
          have p2 : X.cell? ⟨b2, i, none⟩ = some (.int .i64 0) := by rw [hX]; exact y2 _
          have p3 : X.cell? ⟨b3, i, none⟩ = some (.bool false) := by rw [hX]; exact y3 _
          have q2 : X.frozen? ⟨b2, i, none⟩ = false := blk_frozen hTX.h2 i
          have q3 : X.frozen? ⟨b3, i, none⟩ = false := blk_frozen hTX.h3 i
          have q3b : (X.setCell ⟨b2, i, none⟩ (.int .i64 (G : Int))).frozen? ⟨b3, i, none⟩ = false := blk_frozen hT1.h3 i
          have n5 := eq_false (show ¬ (b2 = b3) from blk_ne HT2.out.h2 HT2.out.h3 (by decide))
          have n6 := eq_false (show ¬ (b3 = b2) from blk_ne HT2.out.h3 HT2.out.h2 (by decide))
          have HTZ := Aside0.mk hT2.drew
          have HBZ := Aside0.mk (below_drew1 ((hBX.setCell (p := ⟨b2, i, none⟩) HT2.out.low.2.1 (.int .i64 (G : Int))).setCell (p := ⟨b3, i, none⟩) HT2.out.low.2.2.1 (.bool Hd)))
          have DD0 := Aside0.mk D0
          have HXX := Aside0.mk hX
          clear ht hal hG hHd hTX hBX E0 D0 D1 hT1 hT2 xa2 xa3 xb2 xb3 xc2 xc3 m2 m3 e3 m2b m3b e3b m2c m3c e3c hka ha0 ha1 hX
          go_wp2_with fail
          rw [← HXX.out]
          clear y2 y3 z2 z3 f2 f3 k0 k1 k2 k3 k4 hmk2 hmk3 hmm
          refine wp_region_held_drew (S := (fun w' => w'.cell? ⟨b2, a, none⟩ = some (.int .i64 (G : Int)) ∧ w'.cell? ⟨b3, a, none⟩ = some (.bool Hd) ∧ w'.cell? ⟨w1.heap.size + 1 + 1 + 1, 2, none⟩ = some (.slice (some ⟨b2, 0, none⟩) l0.length l0.length) ∧ w'.cell? ⟨w1.heap.size + 1 + 1 + 1, 3, none⟩ = some (.slice (some ⟨b3, 0, none⟩) l0.length l0.length) ∧ w'.cell? ⟨wr.heap.size, 3, none⟩ = some (.int .i64 a))) (by kernel_rfl) (by first | exact SA.out | exact SB.out | exact SC.out) (fun hHeld => ?_)
          refine wpAnyH_take (i := 0) (oi := ({ dst := some 108, op := Go.Op.move (Go.Operand.tmp 7), type := 120, pos := "layout.go:138", after := #[], guard := none } : Oper)) (v := ?mv0) rfl (by kernel_rfl) (by kernel_rfl) (by kernel_rfl) (fun _ _ _ h => h) (Or.inl ⟨by rfl, ?mhy0⟩) (by assumption) ?_
          case mhy0 => (intro w hSw; (try dsimp only at hSw); go_simp; try (with_reducible rfl))
          try simp only [Act.put, List.setIfInBounds_toArray, List.set_cons_zero, List.set_cons_succ]
          refine wpAnyH_take (i := 1) (oi := ({ dst := some 109, op := Go.Op.nilCheck (Go.Operand.tmp 108), type := 0, pos := "layout.go:138", after := #[{ on := 0, ground := Go.Ground.data }], guard := none } : Oper)) (v := ?mv1) rfl (by kernel_rfl) (by kernel_rfl) (by kernel_rfl) (fun _ _ _ h => h) (Or.inl ⟨by rfl, ?mhy1⟩) (by assumption) ?_
          case mhy1 => (intro w hSw; (try dsimp only at hSw); go_simp; try (with_reducible rfl))
          try simp only [Act.put, List.setIfInBounds_toArray, List.set_cons_zero, List.set_cons_succ]
          refine wpAnyH_take (i := 2) (oi := ({ dst := some 110, op := Go.Op.fieldAddr 123 (Go.Operand.tmp 109) 2, type := 0, pos := "layout.go:138", after := #[{ on := 1, ground := Go.Ground.data }], guard := none } : Oper)) (v := ?mv2) rfl (by kernel_rfl) (by kernel_rfl) (by kernel_rfl) (fun _ _ _ h => h) (Or.inl ⟨by rfl, ?mhy2⟩) (by assumption) ?_
          case mhy2 => (intro w hSw; (try dsimp only at hSw); go_simp; try (with_reducible rfl))
          try simp only [Act.put, List.setIfInBounds_toArray, List.set_cons_zero, List.set_cons_succ]
          refine wpAnyH_take (i := 3) (oi := ({ dst := some 111, op := Go.Op.load 28 (Go.Operand.tmp 110), type := 28, pos := "layout.go:138", after := #[{ on := 2, ground := Go.Ground.data }], guard := none } : Oper)) (v := ?mv3) rfl (by kernel_rfl) (by kernel_rfl) (by kernel_rfl) (fun _ _ _ h => h) (Or.inl ⟨by rfl, ?mhy3⟩) (by assumption) ?_
          case mhy3 => (intro w hSw; (try dsimp only at hSw); go_simp; try (with_reducible rfl))
          try simp only [Act.put, List.setIfInBounds_toArray, List.set_cons_zero, List.set_cons_succ]
          refine wpAnyH_take (i := 4) (oi := ({ dst := some 112, op := Go.Op.move (Go.Operand.tmp 8), type := 3, pos := "layout.go:138", after := #[], guard := none } : Oper)) (v := ?mv4) rfl (by kernel_rfl) (by kernel_rfl) (by kernel_rfl) (fun _ _ _ h => h) (Or.inl ⟨by rfl, ?mhy4⟩) (by assumption) ?_
          case mhy4 => (intro w hSw; (try dsimp only at hSw); go_simp; try (with_reducible rfl))
          try simp only [Act.put, List.setIfInBounds_toArray, List.set_cons_zero, List.set_cons_succ]
          refine wpAnyH_take (i := 5) (oi := ({ dst := some 113, op := Go.Op.move (Go.Operand.tmp 7), type := 120, pos := "layout.go:138", after := #[], guard := none } : Oper)) (v := ?mv5) rfl (by kernel_rfl) (by kernel_rfl) (by kernel_rfl) (fun _ _ _ h => h) (Or.inl ⟨by rfl, ?mhy5⟩) (by assumption) ?_
          case mhy5 => (intro w hSw; (try dsimp only at hSw); go_simp; try (with_reducible rfl))
          try simp only [Act.put, List.setIfInBounds_toArray, List.set_cons_zero, List.set_cons_succ]
          refine wpAnyH_take (i := 6) (oi := ({ dst := some 114, op := Go.Op.nilCheck (Go.Operand.tmp 113), type := 0, pos := "layout.go:138", after := #[{ on := 5, ground := Go.Ground.data }], guard := none } : Oper)) (v := ?mv6) rfl (by kernel_rfl) (by kernel_rfl) (by kernel_rfl) (fun _ _ _ h => h) (Or.inl ⟨by rfl, ?mhy6⟩) (by assumption) ?_
          case mhy6 => (intro w hSw; (try dsimp only at hSw); go_simp; try (with_reducible rfl))
          try simp only [Act.put, List.setIfInBounds_toArray, List.set_cons_zero, List.set_cons_succ]
          refine wpAnyH_take (i := 7) (oi := ({ dst := some 115, op := Go.Op.fieldAddr 123 (Go.Operand.tmp 114) 3, type := 0, pos := "layout.go:138", after := #[{ on := 6, ground := Go.Ground.data }], guard := none } : Oper)) (v := ?mv7) rfl (by kernel_rfl) (by kernel_rfl) (by kernel_rfl) (fun _ _ _ h => h) (Or.inl ⟨by rfl, ?mhy7⟩) (by assumption) ?_
          case mhy7 => (intro w hSw; (try dsimp only at hSw); go_simp; try (with_reducible rfl))
          try simp only [Act.put, List.setIfInBounds_toArray, List.set_cons_zero, List.set_cons_succ]
          refine wpAnyH_take (i := 8) (oi := ({ dst := some 116, op := Go.Op.load 23 (Go.Operand.tmp 115), type := 23, pos := "layout.go:138", after := #[{ on := 7, ground := Go.Ground.data }], guard := none } : Oper)) (v := ?mv8) rfl (by kernel_rfl) (by kernel_rfl) (by kernel_rfl) (fun _ _ _ h => h) (Or.inl ⟨by rfl, ?mhy8⟩) (by assumption) ?_
          case mhy8 => (intro w hSw; (try dsimp only at hSw); go_simp; try (with_reducible rfl))
          try simp only [Act.put, List.setIfInBounds_toArray, List.set_cons_zero, List.set_cons_succ]
          refine wpAnyH_take (i := 9) (oi := ({ dst := some 117, op := Go.Op.move (Go.Operand.tmp 8), type := 3, pos := "layout.go:138", after := #[{ on := 27, ground := Go.Ground.gcOnly Go.Departure.lateStores }], guard := none } : Oper)) (v := ?mv9) rfl (by kernel_rfl) (by kernel_rfl) (by kernel_rfl) (fun _ _ _ h => h) (Or.inl ⟨by rfl, ?mhy9⟩) (by assumption) ?_
          case mhy9 => (intro w hSw; (try dsimp only at hSw); go_simp; try (with_reducible rfl))
          try simp only [Act.put, List.setIfInBounds_toArray, List.set_cons_zero, List.set_cons_succ]
          refine wpAnyH_take (i := 10) (oi := ({ dst := some 118, op := Go.Op.move (Go.Operand.tmp 7), type := 120, pos := "layout.go:138", after := #[], guard := none } : Oper)) (v := ?mv10) rfl (by kernel_rfl) (by kernel_rfl) (by kernel_rfl) (fun _ _ _ h => h) (Or.inl ⟨by rfl, ?mhy10⟩) (by assumption) ?_
          case mhy10 => (intro w hSw; (try dsimp only at hSw); go_simp; try (with_reducible rfl))
          try simp only [Act.put, List.setIfInBounds_toArray, List.set_cons_zero, List.set_cons_succ]
          refine wpAnyH_take (i := 11) (oi := ({ dst := some 119, op := Go.Op.nilCheck (Go.Operand.tmp 118), type := 0, pos := "layout.go:138", after := #[{ on := 10, ground := Go.Ground.data }], guard := none } : Oper)) (v := ?mv11) rfl (by kernel_rfl) (by kernel_rfl) (by kernel_rfl) (fun _ _ _ h => h) (Or.inl ⟨by rfl, ?mhy11⟩) (by assumption) ?_
          case mhy11 => (intro w hSw; (try dsimp only at hSw); go_simp; try (with_reducible rfl))
          try simp only [Act.put, List.setIfInBounds_toArray, List.set_cons_zero, List.set_cons_succ]
          refine wpAnyH_take (i := 12) (oi := ({ dst := some 120, op := Go.Op.fieldAddr 123 (Go.Operand.tmp 119) 2, type := 0, pos := "layout.go:138", after := #[{ on := 11, ground := Go.Ground.data }], guard := none } : Oper)) (v := ?mv12) rfl (by kernel_rfl) (by kernel_rfl) (by kernel_rfl) (fun _ _ _ h => h) (Or.inl ⟨by rfl, ?mhy12⟩) (by assumption) ?_
          case mhy12 => (intro w hSw; (try dsimp only at hSw); go_simp; try (with_reducible rfl))
          try simp only [Act.put, List.setIfInBounds_toArray, List.set_cons_zero, List.set_cons_succ]
          refine wpAnyH_take (i := 13) (oi := ({ dst := some 121, op := Go.Op.load 28 (Go.Operand.tmp 120), type := 28, pos := "layout.go:138", after := #[{ on := 12, ground := Go.Ground.data }], guard := none } : Oper)) (v := ?mv13) rfl (by kernel_rfl) (by kernel_rfl) (by kernel_rfl) (fun _ _ _ h => h) (Or.inl ⟨by rfl, ?mhy13⟩) (by assumption) ?_
          case mhy13 => (intro w hSw; (try dsimp only at hSw); go_simp; try (with_reducible rfl))
          try simp only [Act.put, List.setIfInBounds_toArray, List.set_cons_zero, List.set_cons_succ]
          refine wpAnyH_take (i := 14) (oi := ({ dst := some 122, op := Go.Op.fieldAddr 42 (Go.Operand.tmp 9) 3, type := 0, pos := "layout.go:138", after := #[], guard := none } : Oper)) (v := ?mv14) rfl (by kernel_rfl) (by kernel_rfl) (by kernel_rfl) (fun _ _ _ h => h) (Or.inl ⟨by rfl, ?mhy14⟩) (by assumption) ?_
          case mhy14 => (intro w hSw; (try dsimp only at hSw); go_simp; try (with_reducible rfl))
          try simp only [Act.put, List.setIfInBounds_toArray, List.set_cons_zero, List.set_cons_succ]
          refine wpAnyH_take (i := 15) (oi := ({ dst := some 123, op := Go.Op.load 3 (Go.Operand.tmp 122), type := 3, pos := "layout.go:138", after := #[{ on := 14, ground := Go.Ground.data }], guard := none } : Oper)) (v := ?mv15) rfl (by kernel_rfl) (by kernel_rfl) (by kernel_rfl) (fun _ _ _ h => h) (Or.inl ⟨by rfl, ?mhy15⟩) (by assumption) ?_
          case mhy15 => (intro w hSw; (try dsimp only at hSw); go_simp; try (with_reducible rfl))
          try simp only [Act.put, List.setIfInBounds_toArray, List.set_cons_zero, List.set_cons_succ]
          refine wpAnyH_take (i := 16) (oi := ({ dst := some 124, op := Go.Op.indexAddr 28 (Go.Operand.tmp 121) (Go.Operand.tmp 123), type := 0, pos := "layout.go:138", after := #[{ on := 13, ground := Go.Ground.data }, { on := 15, ground := Go.Ground.data }], guard := none } : Oper)) (v := ?mv16) rfl (by kernel_rfl) (by kernel_rfl) (by kernel_rfl) (fun _ _ _ h => h) (Or.inl ⟨by rfl, ?mhy16⟩) (by assumption) ?_
          case mhy16 => (intro w hSw; (try dsimp only at hSw); go_simp; try (with_reducible rfl))
          try simp only [Act.put, List.setIfInBounds_toArray, List.set_cons_zero, List.set_cons_succ]
          refine wpAnyH_take (i := 17) (oi := ({ dst := some 125, op := Go.Op.load 3 (Go.Operand.tmp 124), type := 3, pos := "layout.go:138", after := #[{ on := 16, ground := Go.Ground.data }], guard := none } : Oper)) (v := ?mv17) rfl (by kernel_rfl) (by kernel_rfl) (by kernel_rfl) (fun _ _ _ h => h) (Or.inl ⟨by rfl, ?mhy17⟩) (by assumption) ?_
          case mhy17 => (intro w hSw; (try dsimp only at hSw); go_simp; try (with_reducible rfl))
          try simp only [Act.put, List.setIfInBounds_toArray, List.set_cons_zero, List.set_cons_succ]
          refine wpAnyH_take (i := 18) (oi := ({ dst := some 126, op := Go.Op.move (Go.Operand.tmp 7), type := 120, pos := "layout.go:138", after := #[], guard := none } : Oper)) (v := ?mv18) rfl (by kernel_rfl) (by kernel_rfl) (by kernel_rfl) (fun _ _ _ h => h) (Or.inl ⟨by rfl, ?mhy18⟩) (by assumption) ?_
          case mhy18 => (intro w hSw; (try dsimp only at hSw); go_simp; try (with_reducible rfl))
          try simp only [Act.put, List.setIfInBounds_toArray, List.set_cons_zero, List.set_cons_succ]
          refine wpAnyH_take (i := 19) (oi := ({ dst := some 127, op := Go.Op.nilCheck (Go.Operand.tmp 126), type := 0, pos := "layout.go:138", after := #[{ on := 18, ground := Go.Ground.data }], guard := none } : Oper)) (v := ?mv19) rfl (by kernel_rfl) (by kernel_rfl) (by kernel_rfl) (fun _ _ _ h => h) (Or.inl ⟨by rfl, ?mhy19⟩) (by assumption) ?_
          case mhy19 => (intro w hSw; (try dsimp only at hSw); go_simp; try (with_reducible rfl))
          try simp only [Act.put, List.setIfInBounds_toArray, List.set_cons_zero, List.set_cons_succ]
          refine wpAnyH_take (i := 20) (oi := ({ dst := some 128, op := Go.Op.fieldAddr 123 (Go.Operand.tmp 127) 3, type := 0, pos := "layout.go:138", after := #[{ on := 19, ground := Go.Ground.data }], guard := none } : Oper)) (v := ?mv20) rfl (by kernel_rfl) (by kernel_rfl) (by kernel_rfl) (fun _ _ _ h => h) (Or.inl ⟨by rfl, ?mhy20⟩) (by assumption) ?_
          case mhy20 => (intro w hSw; (try dsimp only at hSw); go_simp; try (with_reducible rfl))
          try simp only [Act.put, List.setIfInBounds_toArray, List.set_cons_zero, List.set_cons_succ]
          refine wpAnyH_take (i := 21) (oi := ({ dst := some 129, op := Go.Op.load 23 (Go.Operand.tmp 128), type := 23, pos := "layout.go:138", after := #[{ on := 20, ground := Go.Ground.data }], guard := none } : Oper)) (v := ?mv21) rfl (by kernel_rfl) (by kernel_rfl) (by kernel_rfl) (fun _ _ _ h => h) (Or.inl ⟨by rfl, ?mhy21⟩) (by assumption) ?_
          case mhy21 => (intro w hSw; (try dsimp only at hSw); go_simp; try (with_reducible rfl))
          try simp only [Act.put, List.setIfInBounds_toArray, List.set_cons_zero, List.set_cons_succ]
          refine wpAnyH_take (i := 22) (oi := ({ dst := some 130, op := Go.Op.fieldAddr 42 (Go.Operand.tmp 9) 3, type := 0, pos := "layout.go:138", after := #[], guard := none } : Oper)) (v := ?mv22) rfl (by kernel_rfl) (by kernel_rfl) (by kernel_rfl) (fun _ _ _ h => h) (Or.inl ⟨by rfl, ?mhy22⟩) (by assumption) ?_
          case mhy22 => (intro w hSw; (try dsimp only at hSw); go_simp; try (with_reducible rfl))
          try simp only [Act.put, List.setIfInBounds_toArray, List.set_cons_zero, List.set_cons_succ]
          refine wpAnyH_take (i := 23) (oi := ({ dst := some 131, op := Go.Op.load 3 (Go.Operand.tmp 130), type := 3, pos := "layout.go:138", after := #[{ on := 22, ground := Go.Ground.data }], guard := none } : Oper)) (v := ?mv23) rfl (by kernel_rfl) (by kernel_rfl) (by kernel_rfl) (fun _ _ _ h => h) (Or.inl ⟨by rfl, ?mhy23⟩) (by assumption) ?_
          case mhy23 => (intro w hSw; (try dsimp only at hSw); go_simp; try (with_reducible rfl))
          try simp only [Act.put, List.setIfInBounds_toArray, List.set_cons_zero, List.set_cons_succ]
          refine wpAnyH_take (i := 24) (oi := ({ dst := some 132, op := Go.Op.indexAddr 23 (Go.Operand.tmp 129) (Go.Operand.tmp 131), type := 0, pos := "layout.go:138", after := #[{ on := 21, ground := Go.Ground.data }, { on := 23, ground := Go.Ground.data }], guard := none } : Oper)) (v := ?mv24) rfl (by kernel_rfl) (by kernel_rfl) (by kernel_rfl) (fun _ _ _ h => h) (Or.inl ⟨by rfl, ?mhy24⟩) (by assumption) ?_
          case mhy24 => (intro w hSw; (try dsimp only at hSw); go_simp; try (with_reducible rfl))
          try simp only [Act.put, List.setIfInBounds_toArray, List.set_cons_zero, List.set_cons_succ]
          refine wpAnyH_take (i := 25) (oi := ({ dst := some 133, op := Go.Op.load 4 (Go.Operand.tmp 132), type := 4, pos := "layout.go:138", after := #[{ on := 24, ground := Go.Ground.data }], guard := none } : Oper)) (v := ?mv25) rfl (by kernel_rfl) (by kernel_rfl) (by kernel_rfl) (fun _ _ _ h => h) (Or.inl ⟨by rfl, ?mhy25⟩) (by assumption) ?_
          case mhy25 => (intro w hSw; (try dsimp only at hSw); go_simp; try (with_reducible rfl))
          try simp only [Act.put, List.setIfInBounds_toArray, List.set_cons_zero, List.set_cons_succ]
          refine wpAnyH_take (i := 26) (oi := ({ dst := some 134, op := Go.Op.indexAddr 28 (Go.Operand.tmp 111) (Go.Operand.tmp 112), type := 0, pos := "layout.go:138", after := #[{ on := 3, ground := Go.Ground.data }, { on := 4, ground := Go.Ground.data }, { on := 0, ground := Go.Ground.phase }, { on := 1, ground := Go.Ground.phase }, { on := 2, ground := Go.Ground.phase }, { on := 3, ground := Go.Ground.phase }, { on := 4, ground := Go.Ground.phase }, { on := 5, ground := Go.Ground.textOnly Go.Departure.lateStores }, { on := 6, ground := Go.Ground.textOnly Go.Departure.lateStoresUnsure }, { on := 7, ground := Go.Ground.textOnly Go.Departure.lateStoresUnsure }, { on := 8, ground := Go.Ground.phase }, { on := 9, ground := Go.Ground.textOnly Go.Departure.lateStores }, { on := 10, ground := Go.Ground.phase }, { on := 11, ground := Go.Ground.phase }, { on := 12, ground := Go.Ground.phase }, { on := 13, ground := Go.Ground.phase }, { on := 14, ground := Go.Ground.phase }, { on := 15, ground := Go.Ground.phase }, { on := 16, ground := Go.Ground.phase }, { on := 17, ground := Go.Ground.phase }, { on := 18, ground := Go.Ground.textOnly Go.Departure.lateStores }, { on := 19, ground := Go.Ground.textOnly Go.Departure.lateStoresUnsure }, { on := 20, ground := Go.Ground.textOnly Go.Departure.lateStoresUnsure }, { on := 21, ground := Go.Ground.phase }, { on := 22, ground := Go.Ground.textOnly Go.Departure.lateStores }, { on := 23, ground := Go.Ground.textOnly Go.Departure.lateStores }, { on := 24, ground := Go.Ground.textOnly Go.Departure.lateStoresUnsure }, { on := 25, ground := Go.Ground.phase }], guard := none } : Oper)) (v := ?mv26) rfl (by kernel_rfl) (by kernel_rfl) (by kernel_rfl) (fun _ _ _ h => h) (Or.inl ⟨by rfl, ?mhy26⟩) (by assumption) ?_
          case mhy26 => (intro w hSw; (try dsimp only at hSw); go_simp; try (with_reducible rfl))
          try simp only [Act.put, List.setIfInBounds_toArray, List.set_cons_zero, List.set_cons_succ]
          refine wpAnyH_ready (rs := [27]) (by kernel_rfl) (by simp) ?_
          refine AllReadyH.cons (o := ({ dst := none, op := Go.Op.store 3 (Go.Operand.tmp 134) (Go.Operand.tmp 125), type := 0, pos := "layout.go:138", after := #[{ on := 26, ground := Go.Ground.data }, { on := 17, ground := Go.Ground.data }, { on := 0, ground := Go.Ground.phase }, { on := 1, ground := Go.Ground.phase }, { on := 2, ground := Go.Ground.phase }, { on := 3, ground := Go.Ground.phase }, { on := 4, ground := Go.Ground.phase }, { on := 5, ground := Go.Ground.textOnly Go.Departure.lateStores }, { on := 6, ground := Go.Ground.textOnly Go.Departure.lateStoresUnsure }, { on := 7, ground := Go.Ground.textOnly Go.Departure.lateStoresUnsure }, { on := 8, ground := Go.Ground.phase }, { on := 9, ground := Go.Ground.textOnly Go.Departure.lateStores }, { on := 10, ground := Go.Ground.phase }, { on := 11, ground := Go.Ground.phase }, { on := 12, ground := Go.Ground.phase }, { on := 13, ground := Go.Ground.phase }, { on := 14, ground := Go.Ground.phase }, { on := 15, ground := Go.Ground.phase }, { on := 16, ground := Go.Ground.phase }, { on := 17, ground := Go.Ground.phase }, { on := 18, ground := Go.Ground.textOnly Go.Departure.lateStores }, { on := 19, ground := Go.Ground.textOnly Go.Departure.lateStoresUnsure }, { on := 20, ground := Go.Ground.textOnly Go.Departure.lateStoresUnsure }, { on := 21, ground := Go.Ground.phase }, { on := 22, ground := Go.Ground.textOnly Go.Departure.lateStores }, { on := 23, ground := Go.Ground.textOnly Go.Departure.lateStores }, { on := 24, ground := Go.Ground.textOnly Go.Departure.lateStoresUnsure }, { on := 25, ground := Go.Ground.phase }], guard := none } : Oper)) rfl (fun K hK => ?_) AllReadyH.nil
          go_simp
          refine hK.out _ _ (by first | exact SA.out | exact SB.out | exact SC.out) (fun hHeld => ?_)
          clear hK K
          try simp only [Act.put, List.setIfInBounds_toArray, List.set_cons_zero, List.set_cons_succ]
          refine wpAnyH_take (i := 28) (oi := ({ dst := some 135, op := Go.Op.indexAddr 23 (Go.Operand.tmp 116) (Go.Operand.tmp 117), type := 0, pos := "layout.go:138", after := #[{ on := 8, ground := Go.Ground.data }, { on := 9, ground := Go.Ground.data }, { on := 0, ground := Go.Ground.phase }, { on := 1, ground := Go.Ground.phase }, { on := 2, ground := Go.Ground.phase }, { on := 3, ground := Go.Ground.phase }, { on := 4, ground := Go.Ground.phase }, { on := 5, ground := Go.Ground.phase }, { on := 6, ground := Go.Ground.phase }, { on := 7, ground := Go.Ground.phase }, { on := 8, ground := Go.Ground.phase }, { on := 9, ground := Go.Ground.phase }, { on := 10, ground := Go.Ground.phase }, { on := 11, ground := Go.Ground.phase }, { on := 12, ground := Go.Ground.phase }, { on := 13, ground := Go.Ground.phase }, { on := 14, ground := Go.Ground.phase }, { on := 15, ground := Go.Ground.phase }, { on := 16, ground := Go.Ground.phase }, { on := 17, ground := Go.Ground.phase }, { on := 18, ground := Go.Ground.phase }, { on := 19, ground := Go.Ground.phase }, { on := 20, ground := Go.Ground.phase }, { on := 21, ground := Go.Ground.phase }, { on := 22, ground := Go.Ground.phase }, { on := 23, ground := Go.Ground.phase }, { on := 24, ground := Go.Ground.phase }, { on := 25, ground := Go.Ground.phase }, { on := 26, ground := Go.Ground.phase }, { on := 27, ground := Go.Ground.phase }], guard := none } : Oper)) (v := ?mv28) rfl (by kernel_rfl) (by kernel_rfl) (by kernel_rfl) (fun _ _ _ h => h) (Or.inl ⟨by rfl, ?mhy28⟩) (by assumption) ?_
          case mhy28 => (intro w hSw; (try dsimp only at hSw); go_simp; try (with_reducible rfl))
          try simp only [Act.put, List.setIfInBounds_toArray, List.set_cons_zero, List.set_cons_succ]
          refine wpAnyH_ready (rs := [29]) (by kernel_rfl) (by simp) ?_
          refine AllReadyH.cons (o := ({ dst := none, op := Go.Op.store 4 (Go.Operand.tmp 135) (Go.Operand.tmp 133), type := 0, pos := "layout.go:138", after := #[{ on := 28, ground := Go.Ground.data }, { on := 25, ground := Go.Ground.data }, { on := 27, ground := Go.Ground.chain }, { on := 0, ground := Go.Ground.phase }, { on := 1, ground := Go.Ground.phase }, { on := 2, ground := Go.Ground.phase }, { on := 3, ground := Go.Ground.phase }, { on := 4, ground := Go.Ground.phase }, { on := 5, ground := Go.Ground.phase }, { on := 6, ground := Go.Ground.phase }, { on := 7, ground := Go.Ground.phase }, { on := 8, ground := Go.Ground.phase }, { on := 9, ground := Go.Ground.phase }, { on := 10, ground := Go.Ground.phase }, { on := 11, ground := Go.Ground.phase }, { on := 12, ground := Go.Ground.phase }, { on := 13, ground := Go.Ground.phase }, { on := 14, ground := Go.Ground.phase }, { on := 15, ground := Go.Ground.phase }, { on := 16, ground := Go.Ground.phase }, { on := 17, ground := Go.Ground.phase }, { on := 18, ground := Go.Ground.phase }, { on := 19, ground := Go.Ground.phase }, { on := 20, ground := Go.Ground.phase }, { on := 21, ground := Go.Ground.phase }, { on := 22, ground := Go.Ground.phase }, { on := 23, ground := Go.Ground.phase }, { on := 24, ground := Go.Ground.phase }, { on := 25, ground := Go.Ground.phase }, { on := 26, ground := Go.Ground.phase }, { on := 27, ground := Go.Ground.phase }], guard := none } : Oper)) rfl (fun K hK => ?_) AllReadyH.nil
          go_simp
          refine hK.out _ _ (by first | exact SA.out | exact SB.out | exact SC.out) (fun hHeld => ?_)
          clear hK K
          try simp only [Act.put, List.setIfInBounds_toArray, List.set_cons_zero, List.set_cons_succ]
          refine wpAnyH_done (by kernel_rfl) ?_ _
          all_goals
            obtain ⟨Z, hZ⟩ : ∃ Z, Z = ((X.setCell ⟨b2, i, none⟩ (.int .i64 (G : Int))).setCell ⟨b3, i, none⟩ (.bool Hd)).drew := ⟨_, rfl⟩
            rw [← hZ]
            have hTZ := HTZ.out
            have hBZ := HBZ.out
            rw [← hZ] at hTZ hBZ
            have z0 : Z.cell? ⟨wr.heap.size, 0, none⟩ = some (.int .i64 5) := by rw [hZ]; exact (blk_cell DD0.out 0).trans rfl
            have HTZ := Aside0.mk hTZ
            have HBZ := Aside0.mk hBZ
            clear hZ hTZ hBZ p2 p3 q2 q3 q3b
            go_wp2_with fail
            go_roundg (gk - 1)
            case measure => have := HI.out; omega
            case rel => exact ⟨i + 1, gz.set i (G : Int), hd.set i Hd, rfl, ⟨by have := HI.out; omega⟩, HTZ, HK, HBZ⟩
        · have hka : 3 ≤ (l0.getD i z42).f0 := by rw [HX.out]; show (3 : Int) ≤ 6; omega
          obtain ⟨ha0, ha1⟩ := (HOK.out i hlt).a hka
          rw [HX.out] at ha0 ha1
          simp only at ha0 ha1
          obtain ⟨a, rfl⟩ := Int.eq_ofNat_of_zero_le ha0
          have hal : a < i := by omega
          have ht := tree_group HOK.out hlt (by rw [HX.out])
          rw [HX.out] at ht
          simp only [Int.toNat_natCast] at ht
          have g1 := eq_true (show (0 : Int) ≤ a by omega)
          have g2 := eq_true (show (a : Int) < l0.length by omega)
          have HK := Aside0.mk (HTO.out.put hlt (x := ((ng (tree l0 a) : Nat) : Int) + 1) (y := hardT (tree l0 a)) (by rw [ht]; simp only [ng]; omega) (by rw [ht]; rfl))
          obtain ⟨X, hX⟩ : ∃ X, X = wr.alloc (.cells #[.int .i64 6, .string s, .int .i64 n, .int .i64 a, .int .i64 b] 42) := ⟨_, rfl⟩
          have hTX : TbSt w.heap.size (w1.heap.size + 1 + 1 + 1) b2 b3 gm ad l0.length c0 wd gz hd X := by rw [hX]; exact HT2.out.alloc _
          have hBX : Below w.heap.size w X := by rw [hX]; exact HB3.out.alloc HB3.out.size _
          have E0 : X.heap[wr.heap.size]? = some (.cells #[.int .i64 6, .string s, .int .i64 n, .int .i64 a, .int .i64 b] 42 (0, 0)) := by rw [hX]; exact heap_alloc_new wr _
          obtain ⟨⟨xa2, xa3⟩, ⟨xb2, xb3⟩, xc2, xc3⟩ := hTX.at2 HTO.out hlt hal ((ng (tree l0 a) : Nat) : Int) (hardT (tree l0 a))
          obtain ⟨G, hG⟩ : ∃ G, G = ng (tree l0 a) := ⟨_, rfl⟩
          obtain ⟨Hd, hHd⟩ : ∃ Hd, Hd = hardT (tree l0 a) := ⟨_, rfl⟩
          rw [← hG] at xa2 xb2 xc2 xb3 xc3 HK
          rw [← hHd] at xa3 xb3 xc2 xc3 HK
          have hT1 := hTX.set2 i (G : Int)
          have hT2 := hT1.set3 i Hd
          have D0 := blk_far (blk_far E0 (p := ⟨b2, i, none⟩) (blk_ne E0 hTX.h2 (by decide)) (.int .i64 (G : Int))) (p := ⟨b3, i, none⟩) (blk_ne E0 hTX.h3 (by decide)) (.bool Hd)
          have D1 := blk_far E0 (p := ⟨b2, i, none⟩) (blk_ne E0 hTX.h2 (by decide)) (.int .i64 (G : Int))
          have m2 : X.cell? ⟨w1.heap.size + 1 + 1 + 1, 2, none⟩ = some (.slice (some ⟨b2, 0, none⟩) l0.length l0.length) := (blk_cell hTX.hg 2).trans rfl
          have m3 : X.cell? ⟨w1.heap.size + 1 + 1 + 1, 3, none⟩ = some (.slice (some ⟨b3, 0, none⟩) l0.length l0.length) := (blk_cell hTX.hg 3).trans rfl
          have e3 : X.cell? ⟨wr.heap.size, 3, none⟩ = some (.int .i64 a) := (blk_cell E0 3).trans rfl
          have m2b : (X.setCell ⟨b2, i, none⟩ (.int .i64 (G : Int))).cell? ⟨w1.heap.size + 1 + 1 + 1, 2, none⟩ = some (.slice (some ⟨b2, 0, none⟩) l0.length l0.length) := (blk_cell hT1.hg 2).trans rfl
          have m3b : (X.setCell ⟨b2, i, none⟩ (.int .i64 (G : Int))).cell? ⟨w1.heap.size + 1 + 1 + 1, 3, none⟩ = some (.slice (some ⟨b3, 0, none⟩) l0.length l0.length) := (blk_cell hT1.hg 3).trans rfl
          have e3b : (X.setCell ⟨b2, i, none⟩ (.int .i64 (G : Int))).cell? ⟨wr.heap.size, 3, none⟩ = some (.int .i64 a) := (blk_cell D1 3).trans rfl
          have m2c : ((X.setCell ⟨b2, i, none⟩ (.int .i64 (G : Int))).setCell ⟨b3, i, none⟩ (.bool Hd)).cell? ⟨w1.heap.size + 1 + 1 + 1, 2, none⟩ = some (.slice (some ⟨b2, 0, none⟩) l0.length l0.length) := (blk_cell hT2.hg 2).trans rfl
          have m3c : ((X.setCell ⟨b2, i, none⟩ (.int .i64 (G : Int))).setCell ⟨b3, i, none⟩ (.bool Hd)).cell? ⟨w1.heap.size + 1 + 1 + 1, 3, none⟩ = some (.slice (some ⟨b3, 0, none⟩) l0.length l0.length) := (blk_cell hT2.hg 3).trans rfl
          have e3c : ((X.setCell ⟨b2, i, none⟩ (.int .i64 (G : Int))).setCell ⟨b3, i, none⟩ (.bool Hd)).cell? ⟨wr.heap.size, 3, none⟩ = some (.int .i64 a) := (blk_cell D0 3).trans rfl
          have SA := Aside0.mk (And.intro xa2 (And.intro xa3 (And.intro m2 (And.intro m3 e3))))
          have SB := Aside0.mk (And.intro xb2 (And.intro xb3 (And.intro m2b (And.intro m3b e3b))))
          have SC := Aside0.mk (And.intro xc2 (And.intro xc3 (And.intro m2c (And.intro m3c e3c))))
          have p2 : X.cell? ⟨b2, i, none⟩ = some (.int .i64 0) := by rw [hX]; exact y2 _
          have p3 : X.cell? ⟨b3, i, none⟩ = some (.bool false) := by rw [hX]; exact y3 _
          have q2 : X.frozen? ⟨b2, i, none⟩ = false := blk_frozen hTX.h2 i
          have q3 : X.frozen? ⟨b3, i, none⟩ = false := blk_frozen hTX.h3 i
          have q3b : (X.setCell ⟨b2, i, none⟩ (.int .i64 (G : Int))).frozen? ⟨b3, i, none⟩ = false := blk_frozen hT1.h3 i
          have n5 := eq_false (show ¬ (b2 = b3) from blk_ne HT2.out.h2 HT2.out.h3 (by decide))
          have n6 := eq_false (show ¬ (b3 = b2) from blk_ne HT2.out.h3 HT2.out.h2 (by decide))
          have HTZ := Aside0.mk hT2.drew
          have HBZ := Aside0.mk (below_drew1 ((hBX.setCell (p := ⟨b2, i, none⟩) HT2.out.low.2.1 (.int .i64 (G : Int))).setCell (p := ⟨b3, i, none⟩) HT2.out.low.2.2.1 (.bool Hd)))
          have DD0 := Aside0.mk D0
          have HXX := Aside0.mk hX
          have HGB := Aside0.mk (show G ≤ 1000000000 by have h9 := groups_le_any ((check_zero_iff l0).1 HC.out) a (by omega); rw [ng_eq] at h9; omega)
          clear ht hal hG hHd hTX hBX E0 D0 D1 hT1 hT2 xa2 xa3 xb2 xb3 xc2 xc3 m2 m3 e3 m2b m3b e3b m2c m3c e3c hka ha0 ha1 hX
          go_wp2_with fail
          rw [← HXX.out]
          clear y2 y3 z2 z3 f2 f3 k0 k1 k2 k3 k4 hmk2 hmk3 hmm
          refine wp_region_held_drew (S := (fun w' => w'.cell? ⟨b2, a, none⟩ = some (.int .i64 (G : Int)) ∧ w'.cell? ⟨b3, a, none⟩ = some (.bool Hd) ∧ w'.cell? ⟨w1.heap.size + 1 + 1 + 1, 2, none⟩ = some (.slice (some ⟨b2, 0, none⟩) l0.length l0.length) ∧ w'.cell? ⟨w1.heap.size + 1 + 1 + 1, 3, none⟩ = some (.slice (some ⟨b3, 0, none⟩) l0.length l0.length) ∧ w'.cell? ⟨wr.heap.size, 3, none⟩ = some (.int .i64 a))) (by kernel_rfl) (by first | exact SA.out | exact SB.out | exact SC.out) (fun hHeld => ?_)
          refine wpAnyH_take (i := 0) (oi := ({ dst := some 108, op := Go.Op.move (Go.Operand.tmp 7), type := 120, pos := "layout.go:138", after := #[], guard := none } : Oper)) (v := ?gv0) rfl (by kernel_rfl) (by kernel_rfl) (by kernel_rfl) (fun _ _ _ h => h) (Or.inl ⟨by rfl, ?ghy0⟩) (by assumption) ?_
          case ghy0 => (intro w hSw; (try dsimp only at hSw); go_simp; try (with_reducible rfl))
          try simp only [Act.put, List.setIfInBounds_toArray, List.set_cons_zero, List.set_cons_succ]
          refine wpAnyH_take (i := 1) (oi := ({ dst := some 109, op := Go.Op.nilCheck (Go.Operand.tmp 108), type := 0, pos := "layout.go:138", after := #[{ on := 0, ground := Go.Ground.data }], guard := none } : Oper)) (v := ?gv1) rfl (by kernel_rfl) (by kernel_rfl) (by kernel_rfl) (fun _ _ _ h => h) (Or.inl ⟨by rfl, ?ghy1⟩) (by assumption) ?_
          case ghy1 => (intro w hSw; (try dsimp only at hSw); go_simp; try (with_reducible rfl))
          try simp only [Act.put, List.setIfInBounds_toArray, List.set_cons_zero, List.set_cons_succ]
          refine wpAnyH_take (i := 2) (oi := ({ dst := some 110, op := Go.Op.fieldAddr 123 (Go.Operand.tmp 109) 2, type := 0, pos := "layout.go:138", after := #[{ on := 1, ground := Go.Ground.data }], guard := none } : Oper)) (v := ?gv2) rfl (by kernel_rfl) (by kernel_rfl) (by kernel_rfl) (fun _ _ _ h => h) (Or.inl ⟨by rfl, ?ghy2⟩) (by assumption) ?_
          case ghy2 => (intro w hSw; (try dsimp only at hSw); go_simp; try (with_reducible rfl))
          try simp only [Act.put, List.setIfInBounds_toArray, List.set_cons_zero, List.set_cons_succ]
          refine wpAnyH_take (i := 3) (oi := ({ dst := some 111, op := Go.Op.load 28 (Go.Operand.tmp 110), type := 28, pos := "layout.go:138", after := #[{ on := 2, ground := Go.Ground.data }], guard := none } : Oper)) (v := ?gv3) rfl (by kernel_rfl) (by kernel_rfl) (by kernel_rfl) (fun _ _ _ h => h) (Or.inl ⟨by rfl, ?ghy3⟩) (by assumption) ?_
          case ghy3 => (intro w hSw; (try dsimp only at hSw); go_simp; try (with_reducible rfl))
          try simp only [Act.put, List.setIfInBounds_toArray, List.set_cons_zero, List.set_cons_succ]
          refine wpAnyH_take (i := 4) (oi := ({ dst := some 112, op := Go.Op.move (Go.Operand.tmp 8), type := 3, pos := "layout.go:138", after := #[], guard := none } : Oper)) (v := ?gv4) rfl (by kernel_rfl) (by kernel_rfl) (by kernel_rfl) (fun _ _ _ h => h) (Or.inl ⟨by rfl, ?ghy4⟩) (by assumption) ?_
          case ghy4 => (intro w hSw; (try dsimp only at hSw); go_simp; try (with_reducible rfl))
          try simp only [Act.put, List.setIfInBounds_toArray, List.set_cons_zero, List.set_cons_succ]
          refine wpAnyH_take (i := 5) (oi := ({ dst := some 113, op := Go.Op.move (Go.Operand.tmp 7), type := 120, pos := "layout.go:138", after := #[], guard := none } : Oper)) (v := ?gv5) rfl (by kernel_rfl) (by kernel_rfl) (by kernel_rfl) (fun _ _ _ h => h) (Or.inl ⟨by rfl, ?ghy5⟩) (by assumption) ?_
          case ghy5 => (intro w hSw; (try dsimp only at hSw); go_simp; try (with_reducible rfl))
          try simp only [Act.put, List.setIfInBounds_toArray, List.set_cons_zero, List.set_cons_succ]
          refine wpAnyH_take (i := 6) (oi := ({ dst := some 114, op := Go.Op.nilCheck (Go.Operand.tmp 113), type := 0, pos := "layout.go:138", after := #[{ on := 5, ground := Go.Ground.data }], guard := none } : Oper)) (v := ?gv6) rfl (by kernel_rfl) (by kernel_rfl) (by kernel_rfl) (fun _ _ _ h => h) (Or.inl ⟨by rfl, ?ghy6⟩) (by assumption) ?_
          case ghy6 => (intro w hSw; (try dsimp only at hSw); go_simp; try (with_reducible rfl))
          try simp only [Act.put, List.setIfInBounds_toArray, List.set_cons_zero, List.set_cons_succ]
          refine wpAnyH_take (i := 7) (oi := ({ dst := some 115, op := Go.Op.fieldAddr 123 (Go.Operand.tmp 114) 3, type := 0, pos := "layout.go:138", after := #[{ on := 6, ground := Go.Ground.data }], guard := none } : Oper)) (v := ?gv7) rfl (by kernel_rfl) (by kernel_rfl) (by kernel_rfl) (fun _ _ _ h => h) (Or.inl ⟨by rfl, ?ghy7⟩) (by assumption) ?_
          case ghy7 => (intro w hSw; (try dsimp only at hSw); go_simp; try (with_reducible rfl))
          try simp only [Act.put, List.setIfInBounds_toArray, List.set_cons_zero, List.set_cons_succ]
          refine wpAnyH_take (i := 8) (oi := ({ dst := some 116, op := Go.Op.load 23 (Go.Operand.tmp 115), type := 23, pos := "layout.go:138", after := #[{ on := 7, ground := Go.Ground.data }], guard := none } : Oper)) (v := ?gv8) rfl (by kernel_rfl) (by kernel_rfl) (by kernel_rfl) (fun _ _ _ h => h) (Or.inl ⟨by rfl, ?ghy8⟩) (by assumption) ?_
          case ghy8 => (intro w hSw; (try dsimp only at hSw); go_simp; try (with_reducible rfl))
          try simp only [Act.put, List.setIfInBounds_toArray, List.set_cons_zero, List.set_cons_succ]
          refine wpAnyH_take (i := 9) (oi := ({ dst := some 117, op := Go.Op.move (Go.Operand.tmp 8), type := 3, pos := "layout.go:138", after := #[{ on := 27, ground := Go.Ground.gcOnly Go.Departure.lateStores }], guard := none } : Oper)) (v := ?gv9) rfl (by kernel_rfl) (by kernel_rfl) (by kernel_rfl) (fun _ _ _ h => h) (Or.inl ⟨by rfl, ?ghy9⟩) (by assumption) ?_
          case ghy9 => (intro w hSw; (try dsimp only at hSw); go_simp; try (with_reducible rfl))
          try simp only [Act.put, List.setIfInBounds_toArray, List.set_cons_zero, List.set_cons_succ]
          refine wpAnyH_take (i := 10) (oi := ({ dst := some 118, op := Go.Op.move (Go.Operand.tmp 7), type := 120, pos := "layout.go:138", after := #[], guard := none } : Oper)) (v := ?gv10) rfl (by kernel_rfl) (by kernel_rfl) (by kernel_rfl) (fun _ _ _ h => h) (Or.inl ⟨by rfl, ?ghy10⟩) (by assumption) ?_
          case ghy10 => (intro w hSw; (try dsimp only at hSw); go_simp; try (with_reducible rfl))
          try simp only [Act.put, List.setIfInBounds_toArray, List.set_cons_zero, List.set_cons_succ]
          refine wpAnyH_take (i := 11) (oi := ({ dst := some 119, op := Go.Op.nilCheck (Go.Operand.tmp 118), type := 0, pos := "layout.go:138", after := #[{ on := 10, ground := Go.Ground.data }], guard := none } : Oper)) (v := ?gv11) rfl (by kernel_rfl) (by kernel_rfl) (by kernel_rfl) (fun _ _ _ h => h) (Or.inl ⟨by rfl, ?ghy11⟩) (by assumption) ?_
          case ghy11 => (intro w hSw; (try dsimp only at hSw); go_simp; try (with_reducible rfl))
          try simp only [Act.put, List.setIfInBounds_toArray, List.set_cons_zero, List.set_cons_succ]
          refine wpAnyH_take (i := 12) (oi := ({ dst := some 120, op := Go.Op.fieldAddr 123 (Go.Operand.tmp 119) 2, type := 0, pos := "layout.go:138", after := #[{ on := 11, ground := Go.Ground.data }], guard := none } : Oper)) (v := ?gv12) rfl (by kernel_rfl) (by kernel_rfl) (by kernel_rfl) (fun _ _ _ h => h) (Or.inl ⟨by rfl, ?ghy12⟩) (by assumption) ?_
          case ghy12 => (intro w hSw; (try dsimp only at hSw); go_simp; try (with_reducible rfl))
          try simp only [Act.put, List.setIfInBounds_toArray, List.set_cons_zero, List.set_cons_succ]
          refine wpAnyH_take (i := 13) (oi := ({ dst := some 121, op := Go.Op.load 28 (Go.Operand.tmp 120), type := 28, pos := "layout.go:138", after := #[{ on := 12, ground := Go.Ground.data }], guard := none } : Oper)) (v := ?gv13) rfl (by kernel_rfl) (by kernel_rfl) (by kernel_rfl) (fun _ _ _ h => h) (Or.inl ⟨by rfl, ?ghy13⟩) (by assumption) ?_
          case ghy13 => (intro w hSw; (try dsimp only at hSw); go_simp; try (with_reducible rfl))
          try simp only [Act.put, List.setIfInBounds_toArray, List.set_cons_zero, List.set_cons_succ]
          refine wpAnyH_take (i := 14) (oi := ({ dst := some 122, op := Go.Op.fieldAddr 42 (Go.Operand.tmp 9) 3, type := 0, pos := "layout.go:138", after := #[], guard := none } : Oper)) (v := ?gv14) rfl (by kernel_rfl) (by kernel_rfl) (by kernel_rfl) (fun _ _ _ h => h) (Or.inl ⟨by rfl, ?ghy14⟩) (by assumption) ?_
          case ghy14 => (intro w hSw; (try dsimp only at hSw); go_simp; try (with_reducible rfl))
          try simp only [Act.put, List.setIfInBounds_toArray, List.set_cons_zero, List.set_cons_succ]
          refine wpAnyH_take (i := 15) (oi := ({ dst := some 123, op := Go.Op.load 3 (Go.Operand.tmp 122), type := 3, pos := "layout.go:138", after := #[{ on := 14, ground := Go.Ground.data }], guard := none } : Oper)) (v := ?gv15) rfl (by kernel_rfl) (by kernel_rfl) (by kernel_rfl) (fun _ _ _ h => h) (Or.inl ⟨by rfl, ?ghy15⟩) (by assumption) ?_
          case ghy15 => (intro w hSw; (try dsimp only at hSw); go_simp; try (with_reducible rfl))
          try simp only [Act.put, List.setIfInBounds_toArray, List.set_cons_zero, List.set_cons_succ]
          refine wpAnyH_take (i := 16) (oi := ({ dst := some 124, op := Go.Op.indexAddr 28 (Go.Operand.tmp 121) (Go.Operand.tmp 123), type := 0, pos := "layout.go:138", after := #[{ on := 13, ground := Go.Ground.data }, { on := 15, ground := Go.Ground.data }], guard := none } : Oper)) (v := ?gv16) rfl (by kernel_rfl) (by kernel_rfl) (by kernel_rfl) (fun _ _ _ h => h) (Or.inl ⟨by rfl, ?ghy16⟩) (by assumption) ?_
          case ghy16 => (intro w hSw; (try dsimp only at hSw); go_simp; try (with_reducible rfl))
          try simp only [Act.put, List.setIfInBounds_toArray, List.set_cons_zero, List.set_cons_succ]
          refine wpAnyH_take (i := 17) (oi := ({ dst := some 125, op := Go.Op.load 3 (Go.Operand.tmp 124), type := 3, pos := "layout.go:138", after := #[{ on := 16, ground := Go.Ground.data }], guard := none } : Oper)) (v := ?gv17) rfl (by kernel_rfl) (by kernel_rfl) (by kernel_rfl) (fun _ _ _ h => h) (Or.inl ⟨by rfl, ?ghy17⟩) (by assumption) ?_
          case ghy17 => (intro w hSw; (try dsimp only at hSw); go_simp; try (with_reducible rfl))
          try simp only [Act.put, List.setIfInBounds_toArray, List.set_cons_zero, List.set_cons_succ]
          refine wpAnyH_take (i := 18) (oi := ({ dst := some 126, op := Go.Op.move (Go.Operand.tmp 7), type := 120, pos := "layout.go:138", after := #[], guard := none } : Oper)) (v := ?gv18) rfl (by kernel_rfl) (by kernel_rfl) (by kernel_rfl) (fun _ _ _ h => h) (Or.inl ⟨by rfl, ?ghy18⟩) (by assumption) ?_
          case ghy18 => (intro w hSw; (try dsimp only at hSw); go_simp; try (with_reducible rfl))
          try simp only [Act.put, List.setIfInBounds_toArray, List.set_cons_zero, List.set_cons_succ]
          refine wpAnyH_take (i := 19) (oi := ({ dst := some 127, op := Go.Op.nilCheck (Go.Operand.tmp 126), type := 0, pos := "layout.go:138", after := #[{ on := 18, ground := Go.Ground.data }], guard := none } : Oper)) (v := ?gv19) rfl (by kernel_rfl) (by kernel_rfl) (by kernel_rfl) (fun _ _ _ h => h) (Or.inl ⟨by rfl, ?ghy19⟩) (by assumption) ?_
          case ghy19 => (intro w hSw; (try dsimp only at hSw); go_simp; try (with_reducible rfl))
          try simp only [Act.put, List.setIfInBounds_toArray, List.set_cons_zero, List.set_cons_succ]
          refine wpAnyH_take (i := 20) (oi := ({ dst := some 128, op := Go.Op.fieldAddr 123 (Go.Operand.tmp 127) 3, type := 0, pos := "layout.go:138", after := #[{ on := 19, ground := Go.Ground.data }], guard := none } : Oper)) (v := ?gv20) rfl (by kernel_rfl) (by kernel_rfl) (by kernel_rfl) (fun _ _ _ h => h) (Or.inl ⟨by rfl, ?ghy20⟩) (by assumption) ?_
          case ghy20 => (intro w hSw; (try dsimp only at hSw); go_simp; try (with_reducible rfl))
          try simp only [Act.put, List.setIfInBounds_toArray, List.set_cons_zero, List.set_cons_succ]
          refine wpAnyH_take (i := 21) (oi := ({ dst := some 129, op := Go.Op.load 23 (Go.Operand.tmp 128), type := 23, pos := "layout.go:138", after := #[{ on := 20, ground := Go.Ground.data }], guard := none } : Oper)) (v := ?gv21) rfl (by kernel_rfl) (by kernel_rfl) (by kernel_rfl) (fun _ _ _ h => h) (Or.inl ⟨by rfl, ?ghy21⟩) (by assumption) ?_
          case ghy21 => (intro w hSw; (try dsimp only at hSw); go_simp; try (with_reducible rfl))
          try simp only [Act.put, List.setIfInBounds_toArray, List.set_cons_zero, List.set_cons_succ]
          refine wpAnyH_take (i := 22) (oi := ({ dst := some 130, op := Go.Op.fieldAddr 42 (Go.Operand.tmp 9) 3, type := 0, pos := "layout.go:138", after := #[], guard := none } : Oper)) (v := ?gv22) rfl (by kernel_rfl) (by kernel_rfl) (by kernel_rfl) (fun _ _ _ h => h) (Or.inl ⟨by rfl, ?ghy22⟩) (by assumption) ?_
          case ghy22 => (intro w hSw; (try dsimp only at hSw); go_simp; try (with_reducible rfl))
          try simp only [Act.put, List.setIfInBounds_toArray, List.set_cons_zero, List.set_cons_succ]
          refine wpAnyH_take (i := 23) (oi := ({ dst := some 131, op := Go.Op.load 3 (Go.Operand.tmp 130), type := 3, pos := "layout.go:138", after := #[{ on := 22, ground := Go.Ground.data }], guard := none } : Oper)) (v := ?gv23) rfl (by kernel_rfl) (by kernel_rfl) (by kernel_rfl) (fun _ _ _ h => h) (Or.inl ⟨by rfl, ?ghy23⟩) (by assumption) ?_
          case ghy23 => (intro w hSw; (try dsimp only at hSw); go_simp; try (with_reducible rfl))
          try simp only [Act.put, List.setIfInBounds_toArray, List.set_cons_zero, List.set_cons_succ]
          refine wpAnyH_take (i := 24) (oi := ({ dst := some 132, op := Go.Op.indexAddr 23 (Go.Operand.tmp 129) (Go.Operand.tmp 131), type := 0, pos := "layout.go:138", after := #[{ on := 21, ground := Go.Ground.data }, { on := 23, ground := Go.Ground.data }], guard := none } : Oper)) (v := ?gv24) rfl (by kernel_rfl) (by kernel_rfl) (by kernel_rfl) (fun _ _ _ h => h) (Or.inl ⟨by rfl, ?ghy24⟩) (by assumption) ?_
          case ghy24 => (intro w hSw; (try dsimp only at hSw); go_simp; try (with_reducible rfl))
          try simp only [Act.put, List.setIfInBounds_toArray, List.set_cons_zero, List.set_cons_succ]
          refine wpAnyH_take (i := 25) (oi := ({ dst := some 133, op := Go.Op.load 4 (Go.Operand.tmp 132), type := 4, pos := "layout.go:138", after := #[{ on := 24, ground := Go.Ground.data }], guard := none } : Oper)) (v := ?gv25) rfl (by kernel_rfl) (by kernel_rfl) (by kernel_rfl) (fun _ _ _ h => h) (Or.inl ⟨by rfl, ?ghy25⟩) (by assumption) ?_
          case ghy25 => (intro w hSw; (try dsimp only at hSw); go_simp; try (with_reducible rfl))
          try simp only [Act.put, List.setIfInBounds_toArray, List.set_cons_zero, List.set_cons_succ]
          refine wpAnyH_take (i := 26) (oi := ({ dst := some 134, op := Go.Op.indexAddr 28 (Go.Operand.tmp 111) (Go.Operand.tmp 112), type := 0, pos := "layout.go:138", after := #[{ on := 3, ground := Go.Ground.data }, { on := 4, ground := Go.Ground.data }, { on := 0, ground := Go.Ground.phase }, { on := 1, ground := Go.Ground.phase }, { on := 2, ground := Go.Ground.phase }, { on := 3, ground := Go.Ground.phase }, { on := 4, ground := Go.Ground.phase }, { on := 5, ground := Go.Ground.textOnly Go.Departure.lateStores }, { on := 6, ground := Go.Ground.textOnly Go.Departure.lateStoresUnsure }, { on := 7, ground := Go.Ground.textOnly Go.Departure.lateStoresUnsure }, { on := 8, ground := Go.Ground.phase }, { on := 9, ground := Go.Ground.textOnly Go.Departure.lateStores }, { on := 10, ground := Go.Ground.phase }, { on := 11, ground := Go.Ground.phase }, { on := 12, ground := Go.Ground.phase }, { on := 13, ground := Go.Ground.phase }, { on := 14, ground := Go.Ground.phase }, { on := 15, ground := Go.Ground.phase }, { on := 16, ground := Go.Ground.phase }, { on := 17, ground := Go.Ground.phase }, { on := 18, ground := Go.Ground.textOnly Go.Departure.lateStores }, { on := 19, ground := Go.Ground.textOnly Go.Departure.lateStoresUnsure }, { on := 20, ground := Go.Ground.textOnly Go.Departure.lateStoresUnsure }, { on := 21, ground := Go.Ground.phase }, { on := 22, ground := Go.Ground.textOnly Go.Departure.lateStores }, { on := 23, ground := Go.Ground.textOnly Go.Departure.lateStores }, { on := 24, ground := Go.Ground.textOnly Go.Departure.lateStoresUnsure }, { on := 25, ground := Go.Ground.phase }], guard := none } : Oper)) (v := ?gv26) rfl (by kernel_rfl) (by kernel_rfl) (by kernel_rfl) (fun _ _ _ h => h) (Or.inl ⟨by rfl, ?ghy26⟩) (by assumption) ?_
          case ghy26 => (intro w hSw; (try dsimp only at hSw); go_simp; try (with_reducible rfl))
          try simp only [Act.put, List.setIfInBounds_toArray, List.set_cons_zero, List.set_cons_succ]
          refine wpAnyH_ready (rs := [27]) (by kernel_rfl) (by simp) ?_
          refine AllReadyH.cons (o := ({ dst := none, op := Go.Op.store 3 (Go.Operand.tmp 134) (Go.Operand.tmp 125), type := 0, pos := "layout.go:138", after := #[{ on := 26, ground := Go.Ground.data }, { on := 17, ground := Go.Ground.data }, { on := 0, ground := Go.Ground.phase }, { on := 1, ground := Go.Ground.phase }, { on := 2, ground := Go.Ground.phase }, { on := 3, ground := Go.Ground.phase }, { on := 4, ground := Go.Ground.phase }, { on := 5, ground := Go.Ground.textOnly Go.Departure.lateStores }, { on := 6, ground := Go.Ground.textOnly Go.Departure.lateStoresUnsure }, { on := 7, ground := Go.Ground.textOnly Go.Departure.lateStoresUnsure }, { on := 8, ground := Go.Ground.phase }, { on := 9, ground := Go.Ground.textOnly Go.Departure.lateStores }, { on := 10, ground := Go.Ground.phase }, { on := 11, ground := Go.Ground.phase }, { on := 12, ground := Go.Ground.phase }, { on := 13, ground := Go.Ground.phase }, { on := 14, ground := Go.Ground.phase }, { on := 15, ground := Go.Ground.phase }, { on := 16, ground := Go.Ground.phase }, { on := 17, ground := Go.Ground.phase }, { on := 18, ground := Go.Ground.textOnly Go.Departure.lateStores }, { on := 19, ground := Go.Ground.textOnly Go.Departure.lateStoresUnsure }, { on := 20, ground := Go.Ground.textOnly Go.Departure.lateStoresUnsure }, { on := 21, ground := Go.Ground.phase }, { on := 22, ground := Go.Ground.textOnly Go.Departure.lateStores }, { on := 23, ground := Go.Ground.textOnly Go.Departure.lateStores }, { on := 24, ground := Go.Ground.textOnly Go.Departure.lateStoresUnsure }, { on := 25, ground := Go.Ground.phase }], guard := none } : Oper)) rfl (fun K hK => ?_) AllReadyH.nil
          go_simp
          refine hK.out _ _ (by first | exact SA.out | exact SB.out | exact SC.out) (fun hHeld => ?_)
          clear hK K
          try simp only [Act.put, List.setIfInBounds_toArray, List.set_cons_zero, List.set_cons_succ]
          refine wpAnyH_take (i := 28) (oi := ({ dst := some 135, op := Go.Op.indexAddr 23 (Go.Operand.tmp 116) (Go.Operand.tmp 117), type := 0, pos := "layout.go:138", after := #[{ on := 8, ground := Go.Ground.data }, { on := 9, ground := Go.Ground.data }, { on := 0, ground := Go.Ground.phase }, { on := 1, ground := Go.Ground.phase }, { on := 2, ground := Go.Ground.phase }, { on := 3, ground := Go.Ground.phase }, { on := 4, ground := Go.Ground.phase }, { on := 5, ground := Go.Ground.phase }, { on := 6, ground := Go.Ground.phase }, { on := 7, ground := Go.Ground.phase }, { on := 8, ground := Go.Ground.phase }, { on := 9, ground := Go.Ground.phase }, { on := 10, ground := Go.Ground.phase }, { on := 11, ground := Go.Ground.phase }, { on := 12, ground := Go.Ground.phase }, { on := 13, ground := Go.Ground.phase }, { on := 14, ground := Go.Ground.phase }, { on := 15, ground := Go.Ground.phase }, { on := 16, ground := Go.Ground.phase }, { on := 17, ground := Go.Ground.phase }, { on := 18, ground := Go.Ground.phase }, { on := 19, ground := Go.Ground.phase }, { on := 20, ground := Go.Ground.phase }, { on := 21, ground := Go.Ground.phase }, { on := 22, ground := Go.Ground.phase }, { on := 23, ground := Go.Ground.phase }, { on := 24, ground := Go.Ground.phase }, { on := 25, ground := Go.Ground.phase }, { on := 26, ground := Go.Ground.phase }, { on := 27, ground := Go.Ground.phase }], guard := none } : Oper)) (v := ?gv28) rfl (by kernel_rfl) (by kernel_rfl) (by kernel_rfl) (fun _ _ _ h => h) (Or.inl ⟨by rfl, ?ghy28⟩) (by assumption) ?_
          case ghy28 => (intro w hSw; (try dsimp only at hSw); go_simp; try (with_reducible rfl))
          try simp only [Act.put, List.setIfInBounds_toArray, List.set_cons_zero, List.set_cons_succ]
          refine wpAnyH_ready (rs := [29]) (by kernel_rfl) (by simp) ?_
          refine AllReadyH.cons (o := ({ dst := none, op := Go.Op.store 4 (Go.Operand.tmp 135) (Go.Operand.tmp 133), type := 0, pos := "layout.go:138", after := #[{ on := 28, ground := Go.Ground.data }, { on := 25, ground := Go.Ground.data }, { on := 27, ground := Go.Ground.chain }, { on := 0, ground := Go.Ground.phase }, { on := 1, ground := Go.Ground.phase }, { on := 2, ground := Go.Ground.phase }, { on := 3, ground := Go.Ground.phase }, { on := 4, ground := Go.Ground.phase }, { on := 5, ground := Go.Ground.phase }, { on := 6, ground := Go.Ground.phase }, { on := 7, ground := Go.Ground.phase }, { on := 8, ground := Go.Ground.phase }, { on := 9, ground := Go.Ground.phase }, { on := 10, ground := Go.Ground.phase }, { on := 11, ground := Go.Ground.phase }, { on := 12, ground := Go.Ground.phase }, { on := 13, ground := Go.Ground.phase }, { on := 14, ground := Go.Ground.phase }, { on := 15, ground := Go.Ground.phase }, { on := 16, ground := Go.Ground.phase }, { on := 17, ground := Go.Ground.phase }, { on := 18, ground := Go.Ground.phase }, { on := 19, ground := Go.Ground.phase }, { on := 20, ground := Go.Ground.phase }, { on := 21, ground := Go.Ground.phase }, { on := 22, ground := Go.Ground.phase }, { on := 23, ground := Go.Ground.phase }, { on := 24, ground := Go.Ground.phase }, { on := 25, ground := Go.Ground.phase }, { on := 26, ground := Go.Ground.phase }, { on := 27, ground := Go.Ground.phase }], guard := none } : Oper)) rfl (fun K hK => ?_) AllReadyH.nil
          go_simp
          refine hK.out _ _ (by first | exact SA.out | exact SB.out | exact SC.out) (fun hHeld => ?_)
          clear hK K
          try simp only [Act.put, List.setIfInBounds_toArray, List.set_cons_zero, List.set_cons_succ]
          refine wpAnyH_done (by kernel_rfl) ?_ _
          all_goals
            obtain ⟨Z, hZ⟩ : ∃ Z, Z = ((X.setCell ⟨b2, i, none⟩ (.int .i64 (G : Int))).setCell ⟨b3, i, none⟩ (.bool Hd)).drew := ⟨_, rfl⟩
            rw [← hZ]
            have hTZ := HTZ.out
            have hBZ := HBZ.out
            rw [← hZ] at hTZ hBZ
            have z0 : Z.cell? ⟨wr.heap.size, 0, none⟩ = some (.int .i64 6) := by rw [hZ]; exact (blk_cell DD0.out 0).trans rfl
            have z2 : Z.cell? ⟨w1.heap.size + 1 + 1 + 1, 2, none⟩ = some (.slice (some ⟨b2, 0, none⟩) l0.length l0.length) := (blk_cell hTZ.hg 2).trans rfl
            have z4 : Z.cell? ⟨b2, i, none⟩ = some (.int .i64 (G : Int)) := by rw [hTZ.c2 (by rw [List.length_set, HTO.out.1.1]; exact hlt), getD_set' _ _ _ _ _ (by rw [HTO.out.1.1]; exact hlt), if_pos rfl]
            have z5 : Z.frozen? ⟨b2, i, none⟩ = false := blk_frozen hTZ.h2 i
            have hTZ2 := hTZ.set2 i ((G : Int) + 1)
            rw [List.set_set] at hTZ2
            have HTZ := Aside0.mk hTZ2
            have HBZ := Aside0.mk (hBZ.setCell (p := ⟨b2, i, none⟩) HT2.out.low.2.1 (.int .i64 ((G : Int) + 1)))
            have gb := HGB.out
            clear hZ hTZ hTZ2 hBZ p2 p3 q2 q3 q3b
            go_wp2_with fail
            go_roundg (gk - 1)
            case measure => have := HI.out; omega
            case rel => exact ⟨i + 1, gz.set i ((G : Int) + 1), hd.set i Hd, rfl, ⟨by have := HI.out; omega⟩, HTZ, HK, HBZ⟩
      · have hin : i = l0.length := by have := HI.out; omega
        subst hin
        obtain ⟨V0, hV0⟩ : ∃ V0, V0 = wr := ⟨_, rfl⟩
        subst hV0
        have hT := HT2.out
        have hO := HTO.out
        have hg := (check_zero_iff l0).1 HC.out
        have hLS : LSt V0 (w1.heap.size + 1 + 1 + 1) gm l0 wd gz hd := ⟨⟨some ad, c0, some ⟨b2, 0, none⟩, l0.length, some ⟨b3, 0, none⟩, l0.length, by rw [hO.1.1, hO.1.2]; exact hT.hg, Kd.C_below HR.out HB3.out, Kd.C_of_reads ⟨rfl, by rw [hO.1.1]; omega, fun _ => ⟨_, rfl, fun j hj => by rw [add_plain]; exact hT.c2 hj⟩⟩, Kd.C_of_reads ⟨rfl, by rw [hO.1.2]; omega, fun _ => ⟨_, rfl, fun j hj => by rw [add_plain]; exact hT.c3 hj⟩⟩⟩, ⟨_, _, hT.hm⟩⟩
        have hbd : ∀ i, i < l0.length → lv (tree l0 i) ≤ 1000000000 ∧ ng (tree l0 i) ≤ 1000000000 := fun i hi => by
          have h1 := root_all hg i hi
          have h2 := good_lv hg
          have h3 := groups_le_any hg i hi
          rw [ng_eq] at h3
          unfold E at h2
          rw [er_lv] at h2
          omega
        have hBest := best_calls V0 (w1.heap.size + 1 + 1 + 1) gm l0 wd gz hd HW.out hLS HOK.out hO.1.1 hO.1.2 (fun i hi => (hO.2.1 i hi).1) (fun i hi => (hO.2.1 i hi).2) hbd (l0.length - 1) (by omega)
        have hMem : Mem gm l0 wd (· = V0.heap.size) (V0.alloc (.map #[] 0)) [] := ⟨⟨⟨#[], 0, (hT.alloc _).hm, trivial, fun e he => by simp at he, by simp⟩, by simp⟩, fun e => by have := blk_lt hT.hm; omega, fun s g' hf => by cases hf⟩
        have hszI : ((lv (tree l0 (l0.length - 1)) : Nat) : Int) * (0 + (wt (tree l0 (l0.length - 1)) : Nat)) ≤ 1000000000000000 := by
          have h9 := HSZ.out
          unfold E at h9
          rw [er_lv, er_wt] at h9
          rw [Int.zero_add, ← Int.natCast_mul]
          show ((lv (rootT l0) * wt (rootT l0) : Nat) : Int) ≤ ((1000000000000000 : Nat) : Int)
          exact Int.ofNat_le.2 h9
        have HBEST := Aside0.mk (hBest _ 0 pl0 0 [] (· = V0.heap.size) ((Only.refl _ _).alloc (.map #[] 0)) hMem (fun k hk => by rw [alloc_sz]; omega) (Int.le_refl _) (Int.le_refl _) (Int.le_refl _) (Int.le_refl _) hszI)
        have hmk4 := run_makeMap124
        have HGM := Aside0.mk (blk_lt hT.hm)
        clear hT hO hg hLS hbd hBest hMem hszI
        go_wp2_with fail
        rw [show ((l0.length : Int) - 1) = ((l0.length - 1 : Nat) : Int) from by omega]
        refine HBEST.out.mono ?_
        rintro e W1 ⟨r, ps, MM', rfl, hr, hbm, hM1, hnT, hng1, hO1⟩
        obtain ⟨o1, hrg, hIt⟩ := ItP.start hr Try.underlying125
        have hs1 : V0.heap.size + 1 ≤ W1.heap.size := by have h9 := hO1.size; rw [alloc_sz] at h9; exact h9
        have HS1 := Aside0.mk hs1
        have HO1 := Aside0.mk hO1
        have HIT := Aside0.mk hIt
        have HR1 := Aside0.mk hr
        have HBM := Aside0.mk hbm
        have HNT := Aside0.mk hnT
        have HNM := Aside0.mk (show MapP Value.bool rsV (W1.alloc o1) V0.heap.size ([] : List (Bool × Res)) from ((MapP.new V0).move (hO1.block _ (by rw [alloc_sz]; omega) (by have := HGM.out; omega))).move ((below_alloc (Below.refl W1.heap.size W1) o1).block _ (by omega)))
        clear hIt hr hbm hM1 hnT hng1 hO1 hs1
        go_wp2_with fail
        go_loopg [157] ps.length (fun d v157 Wc => ∃ (v : Value) (D L : List (Pl × Res)) (P7 : List (Bool × Res)), v = v157 ∧ Aside0 (L.length = d) ∧ Aside0 (ItP plV rsV Wc W1.heap.size r ps L) ∧ Aside0 (ps.Perm (D ++ L)) ∧ Aside0 (MapP Value.bool rsV Wc V0.heap.size P7) ∧ Aside0 (BestM P7 (fun (q : Bool) x => q = true ∧ ∃ q0, (q0, x) ∈ D)) ∧ Aside0 (Only (· = V0.heap.size) W1 Wc))
        case atStart => exact ⟨_, [], ps, [], rfl, ⟨rfl⟩, HIT, ⟨List.Perm.refl _⟩, HNM, ⟨BestM.nil.congr (fun q r => by simp)⟩, ⟨(Only.refl _ _).alloc _⟩⟩
        case round =>
          obtain ⟨v, D, L, P7, rfl, HLN, HIT2, HPM, HM7, HB7, HO7⟩ := hrel
          rcases HIT2.out.next 0 with ⟨hL0, hnx⟩ | ⟨L1, ⟨q, x⟩, L2, o, w2, hLL, hw1, hnx, hit, hen⟩
          · have hperm : ps.Perm D := by have := HPM.out; rw [hL0, List.append_nil] at this; exact this
            have hfin := min_final HBM.out HR1.out.nd hperm HB7.out
            have hg := (check_zero_iff l0).1 HC.out
            have htree : bestR wd (tree l0 (l0.length - 1)) = bestR wd (E l0) := by unfold bestR E rootT; rw [er_ach]
            rw [htree] at hfin
            have hlen : (bestR wd (E l0)).ch.length ≤ 65536 := by
              have h1 := norm_len (E l0) _ (best_of HW.out.1 (good_tok hg)).1
              have h2 := groups_le_any hg (l0.length - 1) (by omega)
              rw [ng_eq] at h2
              have h3 : ng (E l0) = ng (tree l0 (l0.length - 1)) := er_ng _
              have h4 : (bestF wd (E l0)).length = (bestR wd (E l0)).ch.length := List.length_map _
              omega
            have hbf : bestF wd (E l0) = flagsOf (bestR wd (E l0)).ch := rfl
            obtain ⟨Rb, hRb⟩ : ∃ Rb, Rb = bestR wd (E l0) := ⟨_, rfl⟩
            rw [← hRb] at hfin hlen hbf
            clear hRb
            obtain ⟨rb, rl, ch⟩ := Rb
            simp only at hlen hbf
            have HBF2 := Aside0.mk hbf
            have hlk : Sem.run Try.prog (lookup 124 (.map (some V0.heap.size)) (.bool true) false) wr = .ok (.agg #[.int .i64 rb, .int .i64 rl, .string ⟨ch.toArray⟩]) wr := lookupP_run1 keyT4 Try.underlying124 HM7.out true hfin
            have hrf := fun W => run_field132 rb rl ⟨ch.toArray⟩ W
            have hcv := print_bytes (P := Try.prog) 9 22 5 Try.underlying9 Try.underlying22 Try.underlying5 ⟨ch.toArray⟩ wr
            obtain ⟨WB, hWB⟩ : ∃ WB, WB = Lib.bytesWorld wr 5 ⟨ch.toArray⟩ := ⟨_, rfl⟩
            rw [← hWB] at hcv
            obtain ⟨CAP, hCAP⟩ : ∃ CAP, CAP = grownCap wr (⟨ch.toArray⟩ : ByteArray).size 0 5 := ⟨_, rfl⟩
            have hsize : (⟨ch.toArray⟩ : ByteArray).size = ch.length := by show ch.toArray.size = _; simp
            have hlow := HT2.out.low.2.2.2
            have hVw : Below w.heap.size w wr := (HB3.out.trans ((below_alloc (Below.refl V0.heap.size V0) (.map #[] 0)).mono HB3.out.size)).trans (((HO1.out.below (B := w.heap.size) (by have := HB3.out.size; rw [alloc_sz]; omega) (fun k hk e => by omega))).trans (HO7.out.below (B := w.heap.size) (by have := HB3.out.size; have := HS1.out; omega) (fun k hk e => by have := HB3.out.size; omega)))
            have HWB := Aside0.mk (show Below w.heap.size w WB by rw [hWB]; exact bytes_below hVw hVw.size 5 _)
            have hrd : ∀ j, (hj : j < ch.length) → WB.cell? ⟨wr.heap.size, j, none⟩ = some (.int .u8 ((ch[j].toNat : Nat) : Int)) := fun j hj => by
              obtain ⟨ad', e1, h2⟩ := (bytes_reads wr 5 ⟨ch.toArray⟩ (by rw [hsize]; omega)).2.2 (by rw [hsize]; omega)
              have h3 := h2 j (by rw [hsize]; exact hj)
              obtain rfl := Option.some.inj e1
              rw [add_plain, ← hWB] at h3
              rw [h3]
              simp [bytesOf, List.getD_eq_getElem?_getD, hj]
            have HRD := Aside0.mk hrd
            rw [← hCAP, hsize] at hcv
            clear hperm hfin hg htree hbf hWB hsize hlow hVw hrd hL0
            go_wp2_with fail
            go_loopg [13, 169] ch.length (fun d v13 v169 Wc => ∃ (v : Value) (j : Nat), v = v13 ∧ v169 = .int .i64 j ∧ Aside0 (j + d = ch.length) ∧ Aside0 (Kd.R Kd.bool 4 Wc WB.heap.size (fun _ => True) v (flagsOf (ch.take j))) ∧ Aside0 (Below WB.heap.size WB Wc))
            case atStart => exact ⟨_, 0, rfl, rfl, ⟨Nat.zero_add _⟩, ⟨Kd.R_nil _ _ _ _ _⟩, ⟨Below.refl _ _⟩⟩
            case round =>
              obtain ⟨vr, j, rfl, rfl, HJ, HRV, HBC⟩ := hrel
              by_cases hj : j < ch.length
              · have hcell := pw_cell_below HBC.out (HRD.out j hj)
                have HTK := Aside0.mk (show flagsOf (ch.take (j + 1)) = flagsOf (ch.take j) ++ [((ch[j].toNat : Nat) : Int) == 0] by
                  rw [← u8_zero]
                  show List.map _ _ = _
                  rw [List.take_succ_eq_append_getElem hj, List.map_append]
                  rfl)
                obtain ⟨cb, hcb⟩ : ∃ cb, cb = ch[j] := ⟨_, rfl⟩
                rw [← hcb] at hcell HTK
                clear hcb
                go_wp2_with (at_builtin; refine Kd.R_append Kd.bool (w0 := WB) WB.heap.size rfl (.tmp 173) (.tmp 176) 23 4 (.bool false) 1 rfl Try.underlying23 info4 rfl (by decide) (by omega) vr (flagsOf (ch.take j)) (((cb.toNat : Nat) : Int) == 0) [.bool (((cb.toNat : Nat) : Int) == 0)] (fun _ => True) (fun _ => False) rfl rfl ?aP (fun _ hk => hk.elim) ?aF ?aO ?aB ?aS ?aL ?_; (case aP => exact rfl); (case aF => exact (fun _ _ => trivial)); (case aO => exact HRV.out); (case aB => exact HBC.out); (case aS => exact HBC.out.size); (case aL => rw [show (flagsOf (ch.take j)).length = j from by simp [flagsOf]; omega]; omega); intro v1 w5 hR1 hB1 hg1 hat1; rw [← HTK.out] at hR1; have HRV2 := Aside0.mk hR1; have HBC2 := Aside0.mk hB1; clear hR1 hB1 hg1 hat1)
                go_roundg (gk - 1)
                case measure => have := HJ.out; omega
                case rel => exact ⟨_, j + 1, rfl, rfl, ⟨by have := HJ.out; omega⟩, HRV2, HBC2⟩
              · go_wp2_with fail
                go_ret2
                have hje : ch.take j = ch := List.take_of_length_le (by omega)
                have hr := HRV.out
                rw [hje] at hr
                exact ⟨vr, rfl, by rw [HBF2.out]; exact Kd.R_lower hr HWB.out.size, HWB.out.trans (HBC.out.mono HWB.out.size)⟩
          · obtain ⟨q0', q1'⟩ := q
            obtain ⟨x0, x1, x2⟩ := x
            obtain ⟨W2, hW2⟩ : ∃ W2, W2 = setBlock w2 W1.heap.size o := ⟨_, rfl⟩
            rw [← hW2] at hnx hit hen
            have hnx' : Sem.run Try.prog (Instr.next (.pointer (some ⟨W1.heap.size, 0, none⟩)) false 0) wr = .ok (.tuple #[.bool true, .agg #[.int .i64 q0', .bool q1'], .agg #[.int .i64 x0, .int .i64 x1, .string ⟨x2.toArray⟩]]) W2 := hnx
            have hen' : Sem.run Try.prog (Instr.entry (.pointer (some ⟨W1.heap.size, 0, none⟩))) W2 = .ok (.tuple #[.agg #[.int .i64 q0', .bool q1'], .agg #[.int .i64 x0, .int .i64 x1, .string ⟨x2.toArray⟩]]) W2 := hen
            have hO2 : Only (· = W1.heap.size) wr W2 := by rw [hW2]; exact only_set hw1 _ _
            have HO2 := Aside0.mk hO2
            have HM72 := Aside0.mk (show MapP Value.bool rsV W2 V0.heap.size P7 from HM7.out.move (hO2.block _ HM7.out.lt (by have := HS1.out; omega)))
            have HIT3 := Aside0.mk hit
            have HLL := Aside0.mk hLL
            clear hnx hen hit hW2 hw1 hLL hO2
            go_wp2_with fail
            refine (keep74_calls V0.heap.size P7 true ⟨x0, x1, x2⟩ _ (HM72.out.move ((below_alloc (Below.refl _ _) _).block _ HM72.out.lt))).mono ?_
            rintro e W5 ⟨rfl, hk1, hk2⟩
            have HK1 := Aside0.mk hk1
            have HK2 := Aside0.mk (show Only (· = V0.heap.size) W2 W5 from ((Only.of_below (below_alloc (Below.refl _ _) _)).trans hk2))
            clear hk1 hk2
            go_wp2_with fail
            go_roundg (L1 ++ L2).length
            case measure => have h1 := HLN.out; rw [HLL.out] at h1; simp only [List.length_append, List.length_cons] at h1 ⊢; omega
            case rel =>
              have hs1 := HS1.out
              refine ⟨_, D ++ [(⟨q0', q1'⟩, ⟨x0, x1, x2⟩)], L1 ++ L2, keepL P7 true ⟨x0, x1, x2⟩, rfl, ⟨rfl⟩, ⟨HIT3.out.move (HK2.out.block _ HIT3.out.lt.1 (by omega)) (HK2.out.block _ HIT3.out.lt.2.1 (fun e => HNT.out e))⟩, ⟨by have h1 := HPM.out; rw [HLL.out] at h1; refine h1.trans ?_; rw [List.append_assoc, List.singleton_append]; exact (List.perm_middle).append_left D⟩, HK1, ⟨(HB7.out.keep true ⟨x0, x1, x2⟩).congr (fun q r => ?_)⟩, ⟨((HO7.out.both HO2.out).both HK2.out).widen (fun j hj e => by omega)⟩⟩
              simp only [List.mem_append, List.mem_singleton, Prod.mk.injEq]
              constructor
              · rintro (⟨h1, q0, h2⟩ | ⟨rfl, rfl⟩)
                · exact ⟨h1, q0, .inl h2⟩
                · exact ⟨rfl, _, .inr ⟨rfl, rfl⟩⟩
              · rintro ⟨h1, q0, h2 | ⟨_, h3⟩⟩
                · exact .inl ⟨h1, q0, h2⟩
                · exact .inr ⟨h1, h3⟩
end Go.Proofs.Ythmmdmnbcecooaa.A
end

section
namespace Go.Proofs.Ythmmdmnbcecooaa.A
open Go.RowKit Go.Proofs.YthmmdmnbcecooaaW.PrintWords Go.Proofs.YthmmdmnbcecooaaW.PrintLast Go.Proofs.YthmmdmnbcecooaaW.PrintMore
set_option linter.unusedVariables false
set_option linter.unusedSimpArgs false
theorem cost_f_x (s : ByteArray) (w : Int) (hs : s.size ≤ 1000000000000) (hw : w ≤ 9223372036854775807) : document_Cost.f s w = some (costGo (mx w 0) s.data.toList 0) := by
  unfold document_Cost.f
  rw [if_pos ⟨by omega, hw⟩]
end Go.Proofs.Ythmmdmnbcecooaa.A
end

section
namespace Go.Proofs.Ythmmdmnbcecooaa.A
open Go.RowKit Go.Proofs.YthmmdmnbcecooaaW.PrintWords Go.Proofs.YthmmdmnbcecooaaW.PrintLast Go.Proofs.YthmmdmnbcecooaaW.PrintMore
attribute [local go_sem] max2_int max_two
set_option linter.unusedVariables false
set_option linter.unusedSimpArgs false
theorem txt_size {l : List S42} (hg : Good l) (hf : Fits (E l)) (fl : List Bool) (hl : fl.length = ng (E l)) : (txt (E l) fl).length ≤ lv (E l) * (wt (E l) + 1) := by
  have h0 := (check_zero_iff l).2 hg
  have hp := hg.pos
  have hgl : (groupsI (rootT l)).length = ng (E l) := by rw [ng_eq]; exact (er_ng _).symm
  have hnd : (groupsI (rootT l)).Nodup := groups_nodup hg.ok (check_once h0) (l.length - 1) (by omega)
  have hw := wrO_eq (chOf ((groupsI (rootT l)).zip fl)) (rootT l) 0 0 false st0 (nn_tree hg.ok _ (by omega)) ⟨by decide, by decide, by decide, by decide⟩ ⟨by decide, by decide⟩
    (by have := hf.1; unfold E at this; rw [er_wt] at this; omega) (by
      have := hf.2; unfold E at this; rw [er_wt, er_lv] at this
      rw [Nat.zero_add]
      show 0 + _ ≤ _
      omega)
  have := hw.2.2
  rw [chOf_zip _ _ hnd (by omega), Nat.zero_add] at this
  unfold txt E
  rw [er_wrP, er_wt, er_lv]
  have z : st0.out.length = 0 := rfl
  omega
/-- What the layout's Choices answers. -/
def layout_Choices.f (l0 : List S42) (a1 : Int) : Option (List Bool × Int) :=
  if checkI l0 ≠ 0 then some ([], checkI l0)
  else if a1 < 0 ∨ 1000 < a1 then some ([], 1)
  else if wt (E l0) ≤ 1000000000000 ∧ lv (E l0) * (wt (E l0) + 1) ≤ 140737488355328 then some (bestF a1 (E l0), 0) else none
/-- What the layout's Best answers. -/
def layout_Best.f (l0 : List S42) (a1 : Int) : Option (ByteArray × Int × Int × Int) :=
  if checkI l0 ≠ 0 then some (⟨#[]⟩, 0, 0, checkI l0)
  else if a1 < 0 ∨ 1000 < a1 then some (⟨#[]⟩, 0, 0, 1)
  else if wt (E l0) ≤ 1000000000000 ∧ lv (E l0) * (wt (E l0) + 1) ≤ 140737488355328 then some (⟨(bestT a1 (E l0)).toArray⟩, (bestR a1 (E l0)).b, (bestR a1 (E l0)).l, 0) else none
/-- The inner function of both. -/
theorem choices_calls (A0 : Option Addr) (c0 : Nat) (l0 : List S42) (a1 : Int) (r1 : List Bool) (r2 : Int) (w : World) (hr0 : Kd.C k42 w A0 l0.length l0) (hc0 : l0.length ≤ c0) (h : layout_Choices.f l0 a1 = some (r1, r2)) :
    Calls Try.prog 63 #[.slice A0 l0.length c0, .int .i64 a1] w (ChoicesPost r1 r2 w) := by
  unfold layout_Choices.f at h
  by_cases hc : checkI l0 = 0
  · rw [if_neg (by simp [hc])] at h
    by_cases hw : a1 < 0 ∨ 1000 < a1
    · rw [if_pos hw] at h
      simp only [Option.some.injEq, Prod.mk.injEq] at h
      obtain ⟨rfl, rfl⟩ := h
      exact choices_arg A0 c0 l0 a1 w hr0 hc0 hc hw
    · rw [if_neg hw] at h
      split at h
      case isFalse => cases h
      case isTrue hf =>
        simp only [Option.some.injEq, Prod.mk.injEq] at h
        obtain ⟨rfl, rfl⟩ := h
        obtain ⟨hp, hn, _⟩ := check_valid hc
        obtain ⟨ad, rfl, _⟩ := at_T42 hr0 0 (by omega) (by omega)
        refine choices_good ad c0 l0 a1 w hr0 hc0 hc (by omega) hn ?_
        have := hf.2
        rw [Nat.mul_succ] at this
        omega
  · rw [if_pos hc] at h
    simp only [Option.some.injEq, Prod.mk.injEq] at h
    obtain ⟨rfl, rfl⟩ := h
    exact choices_bad A0 c0 l0 a1 w hr0 hc0 hc
set_option maxRecDepth 100000 in
theorem layout_Choices.calls (A0 : Option Addr) (c0 : Nat) (l0 : List (S42)) (a1 : Int) (r1 : List Bool) (r2 : Int) (w : World) (hr0 : Kd.C k42 w A0 l0.length l0) (hc0 : l0.length ≤ c0) (h : layout_Choices.f l0 a1 = some (r1, r2)) :
    Calls Try.prog 43 #[.slice A0 l0.length c0, .int .i64 a1] w fun e w' => ∃ v0_ : Value, e = .returned (.tuple #[v0_, .int .i64 r2]) ∧ Kd.R Kd.bool 4 w' w.heap.size (fun _ => True) v0_ r1 ∧ Below w.heap.size w w' := by
  have HC := Aside0.mk (choices_calls A0 c0 l0 a1 r1 r2 w hr0 hc0 h)
  clear hr0 hc0 h
  go_enter Try.func43, Try.ntmps43
  go_wp2_with fail
  refine HC.out.mono ?_
  rintro e w1 ⟨v0, rfl, hR, hb⟩
  have HR := Aside0.mk hR
  have HB := Aside0.mk hb
  clear hR hb
  go_wp2_with fail
  go_ret2
  exact ⟨v0, rfl, HR.out, HB.out⟩
def LbPost (r1 : ByteArray) (r2 r3 r4 : Int) (w : World) (e : Ending) (w' : World) : Prop :=
  e = .returned (.tuple #[.string r1, .agg #[.int .i64 r2, .int .i64 r3], .int .i64 r4]) ∧ Below w.heap.size w w'
theorem lb_end {f : Func} (h : f.results = #[.tmp 4, .cell 5 36, .tmp 6]) {tmps : Array Value} {w W : World} {x y : Value} {s : ByteArray} {b l r : Int} (hb : W.heap[w.heap.size]? = some (.cells #[x, y] 36 (0, 0))) (hB : Below w.heap.size w W)
    (h4 : tmps.getD 4 undef = .string s) (h5 : tmps.getD 5 undef = .pointer (some ⟨w.heap.size, 0, none⟩)) (h6 : tmps.getD 6 undef = .int .i64 r) :
    bodyPost Try.prog f (LbPost s b l r w) Exit.ret ⟨tmps, []⟩ ((W.setCell ⟨w.heap.size, 0, none⟩ (.int .i64 b)).setCell ⟨w.heap.size, 1, none⟩ (.int .i64 l)) := by
  have e1 := blk_put (cs := #[x, y]) hb 0 (.int .i64 b) rfl
  have e2 := blk_put (cs := #[.int .i64 b, y]) e1 1 (.int .i64 l) rfl
  refine bodyPost_ret (results_list (rs := [.tmp 4, .cell 5 36, .tmp 6]) h (by simp) (.tmp (.cell w.heap.size 36 #[.int .i64 b, .int .i64 l] (0, 0) _ h5 e2 Try.underlying36 rfl info36 (.tmp .nil)))) rfl ⟨?_, ?_⟩
  · rw [h4, h6]
  · exact (hB.setCell (p := ⟨w.heap.size, 0, none⟩) (Nat.le_refl _) _).setCell (p := ⟨w.heap.size, 1, none⟩) (Nat.le_refl _) _
set_option maxRecDepth 100000 in
theorem best_err (A0 : Option Addr) (c0 : Nat) (l0 : List S42) (a1 : Int) (r1 : List Bool) (r2 : Int) (w : World) (hr0 : Kd.C k42 w A0 l0.length l0) (hc0 : l0.length ≤ c0) (h : layout_Choices.f l0 a1 = some (r1, r2)) (hne : r2 ≠ 0) :
    Calls Try.prog 34 #[.slice A0 l0.length c0, .int .i64 a1] w (LbPost ⟨#[]⟩ 0 0 r2 w) := by
  have hb : (r2 != 0) = true := by simpa using hne
  have HC := Aside0.mk (fun o => choices_calls A0 c0 l0 a1 r1 r2 (w.alloc o) (Kd.C_below hr0 (below_alloc (Below.refl _ _) o)) hc0 h)
  clear hr0 hc0 h hne
  go_enter Try.func34, Try.ntmps34
  go_wp2_with fail
  refine (HC.out _).mono ?_
  rintro e w1 ⟨v0, rfl, hR, hb1⟩
  have B1 := (hb1.block w.heap.size (by rw [alloc_sz]; omega)).trans (heap_alloc_new w _)
  have HB1 := Aside0.mk (below_then (below_alloc (Below.refl _ _) _) (below_alloc (Below.refl _ _) _).size hb1)
  have c10 := (blk_cell B1 0).trans rfl
  have c11 := (blk_cell B1 1).trans rfl
  have f10 := blk_frozen B1 0
  have f11 := blk_frozen B1 1
  have BB1 := Aside0.mk B1
  clear hR hb1 B1
  go_wp2_with fail
  exact lb_end rfl BB1.out HB1.out rfl rfl rfl
set_option maxRecDepth 100000 in
theorem best_ok (A0 : Option Addr) (c0 : Nat) (l0 : List S42) (a1 : Int) (r1 : List Bool) (s : ByteArray) (b l : Int) (w : World) (hr0 : Kd.C k42 w A0 l0.length l0) (hc0 : l0.length ≤ c0) (h : layout_Choices.f l0 a1 = some (r1, 0)) (h2 : document_Render.f l0 r1 = some (s, 0)) (h3 : document_Cost.f s a1 = some (b, l)) :
    Calls Try.prog 34 #[.slice A0 l0.length c0, .int .i64 a1] w (LbPost s b l 0 w) := by
  have HC := Aside0.mk (fun o => choices_calls A0 c0 l0 a1 r1 0 (w.alloc o) (Kd.C_below hr0 (below_alloc (Below.refl _ _) o)) hc0 h)
  have HR0 := Aside0.mk hr0
  have H2 := Aside0.mk h2
  have H3 := Aside0.mk h3
  clear hr0 h h2 h3
  go_enter Try.func34, Try.ntmps34
  go_wp2_with fail
  refine (HC.out _).mono ?_
  rintro e w1 ⟨v0, rfl, hR, hb1⟩
  obtain ⟨A1, c1, rfl, hc1, hr1⟩ := Kd.R_reads hR
  have HB1 := Aside0.mk (below_then (below_alloc (Below.refl w.heap.size w) (.cells #[.int .i64 0, .int .i64 0] 36)) (below_alloc (Below.refl _ _) _).size hb1)
  have HE1 := Aside0.mk ((hb1.block w.heap.size (by rw [alloc_sz]; omega)).trans (heap_alloc_new w _))
  have HR1 := Aside0.mk hr1
  clear hR hb1 hr1
  go_wp2_with fail
  refine (document_Render.calls A0 c0 l0 A1 c1 r1 s 0 _ (Kd.C_below HR0.out HB1.out) hc0 HR1.out hc1 H2.out).mono ?_
  rintro e w2 ⟨rfl, hb2⟩
  have HE2 := Aside0.mk ((hb2.block w.heap.size (blk_lt HE1.out)).trans HE1.out)
  have HB2 := Aside0.mk (HB1.out.trans (hb2.mono HB1.out.size))
  clear hb2
  go_wp2_with fail
  refine (document_Cost.calls s a1 b l _ H3.out).mono ?_
  rintro e w3 ⟨rfl, hb3⟩
  have B1 := (hb3.block w.heap.size (blk_lt HE2.out)).trans HE2.out
  have HB3 := Aside0.mk (HB2.out.trans (hb3.mono HB2.out.size))
  have c10 := (blk_cell B1 0).trans rfl
  have c11 := (blk_cell B1 1).trans rfl
  have f10 := blk_frozen B1 0
  have f11 := blk_frozen B1 1
  have BB1 := Aside0.mk B1
  clear hb3 B1
  go_wp2_with fail
  exact lb_end rfl BB1.out HB3.out rfl rfl rfl
theorem best_render {l0 : List S42} (hg : Good l0) (hf : Fits (E l0)) {a1 : Int} (hw : 0 ≤ a1 ∧ a1 ≤ 1000) : document_Render.f l0 (bestF a1 (E l0)) = some (⟨(bestT a1 (E l0)).toArray⟩, 0) ∧ document_Cost.f ⟨(bestT a1 (E l0)).toArray⟩ a1 = some ((bestR a1 (E l0)).b, (bestR a1 (E l0)).l) := by
  have hb := best_of hw.1 (good_tok hg)
  have hl := norm_len (E l0) _ hb.1
  constructor
  · rw [render_any hg hf _ hl, norm_wrong _ _ _ _ hb.1]
    rfl
  · unfold document_Cost.f
    have h1 := txt_size hg hf _ hl
    rw [if_pos ⟨by show (bestT a1 (E l0)).toArray.size ≤ _; rw [List.size_toArray]; have := hf.2; unfold bestT; omega, by omega⟩, show mx a1 0 = a1 by unfold mx; rw [if_neg (by omega)]]
    exact congrArg some (best_cost hw.1 (good_tok hg))
theorem layout_Best.calls (A0 : Option Addr) (c0 : Nat) (l0 : List (S42)) (a1 : Int) (r1 : ByteArray) (r2 r3 r4 : Int) (w : World) (hr0 : Kd.C k42 w A0 l0.length l0) (hc0 : l0.length ≤ c0) (h : layout_Best.f l0 a1 = some (r1, r2, r3, r4)) :
    Calls Try.prog 34 #[.slice A0 l0.length c0, .int .i64 a1] w fun e w' => e = .returned (.tuple #[.string r1, .agg #[.int .i64 r2, .int .i64 r3], .int .i64 r4]) ∧ Below w.heap.size w w' := by
  unfold layout_Best.f at h
  by_cases hc : checkI l0 = 0
  · rw [if_neg (by simp [hc])] at h
    by_cases hw : a1 < 0 ∨ 1000 < a1
    · rw [if_pos hw] at h
      simp only [Option.some.injEq, Prod.mk.injEq] at h
      obtain ⟨rfl, rfl, rfl, rfl⟩ := h
      exact best_err A0 c0 l0 a1 [] 1 w hr0 hc0 (by unfold layout_Choices.f; rw [if_neg (by simp [hc]), if_pos hw]) (by decide)
    · rw [if_neg hw] at h
      split at h
      case isFalse => cases h
      case isTrue hf =>
        simp only [Option.some.injEq, Prod.mk.injEq] at h
        obtain ⟨rfl, rfl, rfl, rfl⟩ := h
        have hbr := best_render ((check_zero_iff l0).1 hc) hf (a1 := a1) (by omega)
        exact best_ok A0 c0 l0 a1 (bestF a1 (E l0)) _ _ _ w hr0 hc0 (by unfold layout_Choices.f; rw [if_neg (by simp [hc]), if_neg hw, if_pos hf]) hbr.1 hbr.2
  · rw [if_pos hc] at h
    simp only [Option.some.injEq, Prod.mk.injEq] at h
    obtain ⟨rfl, rfl, rfl, rfl⟩ := h
    exact best_err A0 c0 l0 a1 [] (checkI l0) w hr0 hc0 (by unfold layout_Choices.f; rw [if_pos hc]) hc
end Go.Proofs.Ythmmdmnbcecooaa.A
end

section
namespace Go.Proofs.Ythmmdmnbcecooaa.A
open Go.RowKit Go.Proofs.YthmmdmnbcecooaaW.PrintWords Go.Proofs.YthmmdmnbcecooaaW.PrintLast Go.Proofs.YthmmdmnbcecooaaW.PrintMore
set_option linter.unusedVariables false
set_option linter.unusedSimpArgs false
def Docs (w0 W : World) (L : List (Option Addr × List S42)) : Prop := Below w0.heap.size w0 W ∧ ∀ p ∈ L, Kd.C k42 W p.1 p.2.length p.2
section
variable {w0 W W' : World} {L : List (Option Addr × List S42)}
theorem Docs.step (h : Docs w0 W L) (hb : Below W.heap.size W W') : Docs w0 W' L := ⟨below_then h.1 h.1.size hb, fun p hp => Kd.C_below (h.2 p hp) hb⟩
theorem Docs.add (h : Docs w0 W L) {A : Option Addr} {D : List S42} (hC : Kd.C k42 W A D.length D) : Docs w0 W ((A, D) :: L) :=
  ⟨h.1, fun p hp => by
    rcases List.mem_cons.1 hp with rfl | hp
    · exact hC
    · exact h.2 p hp⟩
theorem Docs.alloc (h : Docs w0 W L) (o : Obj) : Docs w0 (W.alloc o) L := h.step (below_alloc (Below.refl _ _) o)
theorem Docs.get (h : Docs w0 W L) {A : Option Addr} {D : List S42} (hm : (A, D) ∈ L) : Kd.C k42 W A D.length D := h.2 _ hm
end
theorem made_step (D : List S42) (A0 : Option Addr) (c0 : Nat) (l0 : List Int) (a1 : Int) (w : World) (hr0 : Kd.C (Kd.int .u8) w A0 l0.length l0) (hc0 : l0.length ≤ c0) (h : koineref25_Made.f l0 a1 = some D) :
    Calls Try.prog 21 #[.slice A0 l0.length c0, .int .i64 a1] w (DocPost D w) :=
  (koineref25_Made.calls A0 c0 l0 a1 D w hr0 hc0 h).mono fun _ _ h => .of h
end Go.Proofs.Ythmmdmnbcecooaa.A
end

section
namespace Go.Proofs.Ythmmdmnbcecooaa.A
open Go.RowKit Go.Proofs.YthmmdmnbcecooaaW.PrintWords Go.Proofs.YthmmdmnbcecooaaW.PrintLast Go.Proofs.YthmmdmnbcecooaaW.PrintMore
attribute [local go_sem] max2_int max_two
set_option linter.unusedVariables false
set_option linter.unusedSimpArgs false
theorem eqA36 (d : Nat) (w : World) (x0 y0 : Int) (x1 y1 : Int) :
    (Op.equalIn (d + 2) 36 (.agg #[.int .i64 x0, .int .i64 x1]) (.agg #[.int .i64 y0, .int .i64 y1])).run Try.prog w = .ok (x0 == y0 && (x1 == y1)) w := by
  refine eqA_of Try.underlying36 (by kernel_rfl) ?_
  refine eqf_cons (by rfl) (by go_simp; rfl) (by go_simp; rfl) (by go_simp) ?_
  exact eqf_last (by rfl) (by go_simp; rfl) (by go_simp; rfl) (by go_simp)
end Go.Proofs.Ythmmdmnbcecooaa.A
end

section
namespace Go.Proofs.Ythmmdmnbcecooaa.A
open Go.RowKit Go.Proofs.YthmmdmnbcecooaaW.PrintWords Go.Proofs.YthmmdmnbcecooaaW.PrintLast Go.Proofs.YthmmdmnbcecooaaW.PrintMore
attribute [local go_sem] max2_int max_two
set_option linter.unusedVariables false
set_option linter.unusedSimpArgs false
def koinelaw26_gap.f  : Option ((List (S42))) := (koineref25_Wrap.f 6 0 (([(⟨1, (⟨#[32]⟩ : ByteArray), 0, 0, 0⟩ : S42)] : List (S42)))).bind fun t344 => (some t344)
set_option maxHeartbeats 8000000 in
set_option maxRecDepth 100000 in
theorem koinelaw26_gap.calls  (r : List (S42)) (w : World) (h : koinelaw26_gap.f  = some r) :
    Calls Try.prog 39 #[] w fun e w' => ∃ v0_ : Value, e = .returned (v0_) ∧ Kd.R k42 42 w' w.heap.size (fun _ => True) v0_ r ∧ Below w.heap.size w w' := by
  have hu42 := Try.underlying42
  have HB := Aside0.mk (Below.refl w.heap.size w)
  have H : ((koineref25_Wrap.f 6 0 (([(⟨1, (⟨#[32]⟩ : ByteArray), 0, 0, 0⟩ : S42)] : List (S42)))).bind fun t344 => (some t344)) = some r := h
  clear h
  obtain ⟨y341, hy341⟩ : ∃ y_ : List (S42), y_ = (([(⟨1, (⟨#[32]⟩ : ByteArray), 0, 0, 0⟩ : S42)] : List (S42))) := ⟨_, rfl⟩
  replace H : ((koineref25_Wrap.f 6 0 y341).bind fun t344 => (some t344)) = some r := by first | (rw [hy341]; with_reducible exact H) | (have H2_ := (Option.bind_some _ _).symm.trans H; rw [hy341]; with_reducible exact H2_) | (have H2_ := (Option.bind_some _ _).symm.trans H; with_reducible exact H2_) | with_reducible exact H | (rw [hy341]; exact H) | exact H
  have Ny341 := Aside0.mk hy341
  clear hy341
  replace H := Option.bind_eq_some_iff.mp H
  obtain ⟨t344, A10, H⟩ := H
  replace H : (some t344) = some r := H
  have A1 := Aside0.mk A10
  clear A10
  obtain rfl := Option.some.inj H
  go_enter Try.func39, Try.ntmps39
  go_wp2_with (first | ((with_reducible refine gate_dst (N := 2) rfl ?_); refine Kd.R_lit k42 _ 42 ?hg (N := 2) ?hd (xs := ([(⟨1, (⟨#[32]⟩ : ByteArray), 0, 0, 0⟩ : S42)] : List (S42))) (inner := [.int .i64 1, .string (⟨#[32]⟩ : ByteArray), .int .i64 0, .int .i64 0, .int .i64 0]) (ok := fun _ => True) (okp := fun _ => True) ?hr ?hp (fun _ hk => hk) trivial (Below.refl _ _) (Nat.le_refl _) (by simp) ?_; (case hd => rfl); (case hg => rfl); (case hr => first | (go_simp; done) | (go_simp; rfl)); (case hp => exact (Reps.c5 (show Kd.M k42 _ _ _ (⟨1, (⟨#[32]⟩ : ByteArray), 0, 0, 0⟩ : S42) [.int .i64 1, .string (⟨#[32]⟩ : ByteArray), .int .i64 0, .int .i64 0, .int .i64 0] from (k42_mkM _ _ _ (⟨1, (⟨#[32]⟩ : ByteArray), 0, 0, 0⟩ : S42) )) (Reps.none _ _))); intro v342 w2 ho3 hb hg_ hnew_; clear hg_ hnew_; (first | rw [← Ny341.out] at ho3 | (simp only [Int.reduceToNat] at ho3; rw [← Ny341.out] at ho3)); have n0_ := Aside0.mk (Kd.R_lower ho3 (below_size (by repeat (first | (with_reducible first | exact HB.out | apply below_alloc | apply pw_below_drewN | apply below_drew1) | exact HB.out)))); have n1_ := Aside0.mk (below_step (by repeat (first | (with_reducible first | exact HB.out | apply below_alloc | apply pw_below_drewN | apply below_drew1) | exact HB.out)) hb); clear HB; have HO343 := n0_; have HB := n1_; clear n0_ n1_; clear hb ho3; obtain ⟨Ao4, co4, eo4⟩ := Kd.R_slice HO343.out; subst eo4) | ((with_reducible refine gate_callee (f := 36) rfl ?_); refine goesL_ (some 3) rfl rfl Try.func36 (by kernel_rfl) rfl #[.int .i64 6, .int .i64 0, .slice Ao4 y341.length co4] rfl (by (try simp only [List.map_toArray, List.map_cons, List.map_nil]); first | done | rfl | (simp only [List.length_drop, List.length_take]; rfl)) ?_; (with_reducible refine (koineref25_Wrap.calls 6 0 _ _ y341 t344 _ ?side1 ?side2 A1.out).mono ?_); (case side1 => repeat (first | exact (Kd.R_reads' HO343.out).2.2 | (with_reducible refine Kd.C_alloc ?_ _) | (with_reducible refine Kd.C_drewN ?_ _) | (with_reducible refine Kd.C_drew ?_))); (case side2 => exact (Kd.R_reads' HO343.out).2.1); rintro e w5 ⟨v345, rfl, ho0, hb⟩; refine ⟨_, rfl, ?_⟩; have n0_ := Aside0.mk (Kd.R_elder' (by (with_reducible repeat (first | apply Kd.R_alloc | apply Kd.R_drewN | apply Kd.R_drew)); exact HO343.out) (Kd.R_base ho0) hb); have n1_ := Aside0.mk (Kd.R_lower (Kd.R_new' ho0 (Kd.R_lt (by (with_reducible repeat (first | apply Kd.R_alloc | apply Kd.R_drewN | apply Kd.R_drew)); exact HO343.out))) (below_size (by repeat (first | (with_reducible first | exact HB.out | apply below_alloc | apply pw_below_drewN | apply below_drew1) | exact HB.out)))); have n2_ := Aside0.mk (below_step (by repeat (first | (with_reducible first | exact HB.out | apply below_alloc | apply pw_below_drewN | apply below_drew1) | exact HB.out)) hb); clear HO343; clear HB; have HO343 := n0_; have HO346 := n1_; have HB := n2_; clear n0_ n1_ n2_; (try clear hb); (try clear hb2); (try clear hk); (try clear hi); (try clear ho0)))
  go_ret
  exact ⟨_, by first | rfl | (simp [errW_none, errW_some] <;> rfl) | (simp [*, errW_none, errW_some] <;> rfl), by (with_reducible repeat (first | apply Kd.R_alloc | apply Kd.R_drewN | apply Kd.R_drew)); exact Kd.R_mono HO346.out (fun _ hk => trivial), by repeat (first | (with_reducible first | exact HB.out | apply below_alloc | apply pw_below_drewN | apply below_drew1) | exact HB.out)⟩
end Go.Proofs.Ythmmdmnbcecooaa.A
end

section
namespace Go.Proofs.Ythmmdmnbcecooaa.A
open Go.RowKit Go.Proofs.YthmmdmnbcecooaaW.PrintWords Go.Proofs.YthmmdmnbcecooaaW.PrintLast Go.Proofs.YthmmdmnbcecooaaW.PrintMore
attribute [local go_sem] max2_int max_two
set_option linter.unusedVariables false
set_option linter.unusedSimpArgs false
def koineref26_SameBools.l0 : Nat → List Bool → List Bool → Int → Option (Bool)
  | 0, _, _, _ => none
  | k + 1, x0, x1, x5 => if x5 < (x0.length : Int) then (if 0 ≤ x5 then (if x5 < (x1.length : Int) then (if ((rdOf false x0 x5) != (rdOf false x1 x5)) = true then (some false) else (koineref26_SameBools.l0 k x0 x1 (wrap64 (x5 + 1)))) else (none)) else (none)) else (some true)
def koineref26_SameBools.f (k : Nat) (l0 : List Bool) (l1 : List Bool) : Option (Bool) := if (l0.length : Int) = (l1.length : Int) then (koineref26_SameBools.l0 k l0 l1 0) else (some false)
set_option maxHeartbeats 8000000 in
set_option maxRecDepth 100000 in
theorem koineref26_SameBools.calls (k : Nat) (A0 : Option Addr) (c0 : Nat) (l0 : List Bool) (A1 : Option Addr) (c1 : Nat) (l1 : List Bool) (r : Bool) (w : World) (hr0 : Kd.C Kd.bool w A0 l0.length l0) (hc0 : l0.length ≤ c0) (hr1 : Kd.C Kd.bool w A1 l1.length l1) (hc1 : l1.length ≤ c1) (h : koineref26_SameBools.f k l0 l1 = some r) :
    Calls Try.prog 45 #[.slice A0 l0.length c0, .slice A1 l1.length c1] w fun e w' => e = .returned (.bool r) ∧ Drawn0 w w' := by
  have HR0 := Aside0.mk hr0
  have HC0 := Aside0.mk hc0
  clear hr0 hc0
  have HR1 := Aside0.mk hr1
  have HC1 := Aside0.mk hc1
  clear hr1 hc1
  have H : (if (l0.length : Int) = (l1.length : Int) then (koineref26_SameBools.l0 k l0 l1 0) else (some false)) = some r := h
  clear h
  by_cases c3 : (l0.length : Int) = (l1.length : Int)
  · rw [if_pos c3] at H
    have c3b0 : ((l0.length : Int) == (l1.length : Int)) = true := beq_iff_eq.mpr c3
    have c3b1 : ((l0.length : Int) != (l1.length : Int)) = false := bne_eq_false_iff_eq.mpr c3
    have c3b2 : (l0.length == l1.length) = true := by first | simpa using c3 | (simp at c3 ⊢; omega)
    clear c3
    have H' := Aside0.mk H
    clear H
    go_enter Try.func45, Try.ntmps45
    go_wp2
    repeat (go_quiet (fail); try go_wp2)
    go_loopg [5] k (fun kq v5 w' => ∃ (x5_1 : Int), v5 = .int .i64 x5_1 ∧ Aside0 (koineref26_SameBools.l0 kq l0 l1 x5_1 = some r) ∧ Aside0 (kq ≤ k) ∧ Drawn0 w w')
    case atStart => exact ⟨(0), (by first | rfl | (simp; done) | (simp [*]; done)), H', ⟨Nat.le_refl _⟩, by repeat (first | exact Drawn0.refl _ | apply Drawn0.step)⟩
    case round =>
      clear H'
      try clear c1
      try clear p2
      try clear c3
      try clear c3b0
      try clear c3b1
      try clear c3b2
      obtain ⟨x5_1, rfl, HA, HK1, ⟨m1, rfl⟩⟩ := hrel
      cases gk with
      | zero => exact absurd HA.out (by simp [koineref26_SameBools.l0])
      | succ k1 =>
        have H := HA.out
        clear HA
        simp only [koineref26_SameBools.l0] at H
        by_cases c4 : x5_1 < (l0.length : Int)
        · rw [if_pos c4] at H
          have c4b0 : decide (x5_1 < (l0.length : Int)) = true := decide_eq_true c4
          clear c4
          by_cases c5 : 0 ≤ x5_1
          · rw [if_pos c5] at H
            have c5b0 : decide (0 ≤ x5_1) = true := decide_eq_true c5
            clear c5
            by_cases c6 : x5_1 < (l1.length : Int)
            · rw [if_pos c6] at H
              have c6b0 : decide (x5_1 < (l1.length : Int)) = true := decide_eq_true c6
              clear c6
              by_cases c7 : ((rdOf false l0 x5_1) != (rdOf false l1 x5_1)) = true
              · rw [if_pos c7] at H
                have c7b0 : ((rdOf false l0 x5_1) != (rdOf false l1 x5_1)) = true := c7
                (try (have c7b1 : decide ((rdOf false l0 x5_1) = (rdOf false l1 x5_1)) = false := by simpa using c7))
                (try (have c7b2 : ((rdOf false l0 x5_1) == (rdOf false l1 x5_1)) = false := by simpa using c7))
                (try (have c7b3 : ¬ ((rdOf false l0 x5_1) = (rdOf false l1 x5_1)) := by simpa using c7))
                clear c7
                obtain rfl := Option.some.inj H
                have p347 : 0 ≤ (x5_1 : Int) := of_decide_eq_true (by first | (with_reducible assumption) | assumption)
                have q347 : x5_1 < (l0.length : Int) := of_decide_eq_true (by first | (with_reducible assumption) | assumption)
                obtain ⟨ad347, e347, hx347_0⟩ := Kd.at_bool HR0.out x5_1 p347 q347
                cases e347
                replace p347 := eq_true p347
                replace q347 := eq_true q347
                have p348 : 0 ≤ (x5_1 : Int) := of_decide_eq_true (by first | (with_reducible assumption) | assumption)
                have q348 : x5_1 < (l1.length : Int) := of_decide_eq_true (by first | (with_reducible assumption) | assumption)
                obtain ⟨ad348, e348, hx348_0⟩ := Kd.at_bool HR1.out x5_1 p348 q348
                cases e348
                replace p348 := eq_true p348
                replace q348 := eq_true q348
                go_wp2
                repeat (go_quiet (fail); try go_wp2)
                go_ret
                exact ⟨by first | rfl | (simp; done) | (simp [*]; done), by repeat (first | exact Drawn0.refl _ | apply Drawn0.step)⟩
              · rw [if_neg c7] at H
                have c7b0 : ((rdOf false l0 x5_1) != (rdOf false l1 x5_1)) = false := by simpa using c7
                (try (have c7b1 : decide ((rdOf false l0 x5_1) = (rdOf false l1 x5_1)) = true := by simpa using c7))
                (try (have c7b2 : ((rdOf false l0 x5_1) == (rdOf false l1 x5_1)) = true := by simpa using c7))
                clear c7
                have H' := Aside0.mk H
                clear H
                have p347 : 0 ≤ (x5_1 : Int) := of_decide_eq_true (by first | (with_reducible assumption) | assumption)
                have q347 : x5_1 < (l0.length : Int) := of_decide_eq_true (by first | (with_reducible assumption) | assumption)
                obtain ⟨ad347, e347, hx347_0⟩ := Kd.at_bool HR0.out x5_1 p347 q347
                cases e347
                replace p347 := eq_true p347
                replace q347 := eq_true q347
                have p348 : 0 ≤ (x5_1 : Int) := of_decide_eq_true (by first | (with_reducible assumption) | assumption)
                have q348 : x5_1 < (l1.length : Int) := of_decide_eq_true (by first | (with_reducible assumption) | assumption)
                obtain ⟨ad348, e348, hx348_0⟩ := Kd.at_bool HR1.out x5_1 p348 q348
                cases e348
                replace p348 := eq_true p348
                replace q348 := eq_true q348
                go_wp2
                repeat (go_quiet (fail); try go_wp2)
                go_roundg k1
                case measure => have := HK1.out; omega
                case rel => exact ⟨(wrap64 (x5_1 + 1)), (by first | rfl | (simp; done) | (simp [*]; done)), H', ⟨by have := HK1.out; omega⟩, by repeat (first | exact Drawn0.refl _ | apply Drawn0.step)⟩
            · rw [if_neg c6] at H
              exact absurd H (by simp)
          · rw [if_neg c5] at H
            exact absurd H (by simp)
        · rw [if_neg c4] at H
          have c4b0 : decide (x5_1 < (l0.length : Int)) = false := decide_eq_false c4
          clear c4
          obtain rfl := Option.some.inj H
          go_wp2
          repeat (go_quiet (fail); try go_wp2)
          go_ret
          exact ⟨by first | rfl | (simp; done) | (simp [*]; done), by repeat (first | exact Drawn0.refl _ | apply Drawn0.step)⟩
  · rw [if_neg c3] at H
    have c3b0 : ((l0.length : Int) == (l1.length : Int)) = false := beq_eq_false_iff_ne.mpr c3
    have c3b1 : ((l0.length : Int) != (l1.length : Int)) = true := bne_iff_ne.mpr c3
    have c3b2 : (l0.length == l1.length) = false := by first | simpa using c3 | (simp at c3 ⊢; omega)
    obtain rfl := Option.some.inj H
    go_enter Try.func45, Try.ntmps45
    go_wp2
    repeat (go_quiet (fail); try go_wp2)
    go_ret
    exact ⟨by first | rfl | (simp; done) | (simp [*]; done), by repeat (first | exact Drawn0.refl _ | apply Drawn0.step)⟩
end Go.Proofs.Ythmmdmnbcecooaa.A
end
