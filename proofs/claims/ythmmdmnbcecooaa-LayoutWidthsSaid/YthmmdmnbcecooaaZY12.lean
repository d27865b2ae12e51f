/- Q9, C1, U1, U2, U3, C2, Q10, Q12: what the claims rest on of these texts, one behind the other. No condition of its own. -/
import Derived.Test.YthmmdmnbcecooaaZY11
import Derived.RegionTactic
import Derived.Outline
section
namespace Go.Proofs.Ythmmdmnbcecooaa.A
open Go.RowKit Go.Proofs.YthmmdmnbcecooaaW.PrintWords Go.Proofs.YthmmdmnbcecooaaW.PrintLast Go.Proofs.YthmmdmnbcecooaaW.PrintMore
set_option linter.unusedVariables false
set_option linter.unusedSimpArgs false
theorem docOf_pref {a : List S42} (r : List S42) (hv : nodesOk a) : ∀ (k i : Nat), i < k → i < a.length → docOf (a ++ r) k i = docOf a k i := by
  intro k
  induction k with
  | zero => intro i h; omega
  | succ k ih =>
    intro i hk hi
    have h := hv i hi
    have hkd := h.kind
    simp only [docOf]
    rw [getD_fst _ _ _ hi]
    split
    · rfl
    split
    · rfl
    split
    · rfl
    have ha := h.a (by omega)
    have e3 := ih (a.getD i z42).f3.toNat (by omega) (by omega)
    rw [e3]
    by_cases h3 : (a.getD i z42).f0 = 3
    · have hb := h.b h3
      rw [if_pos h3, if_pos h3, ih (a.getD i z42).f4.toNat (by omega) (by omega)]
    · rw [if_neg h3, if_neg h3]
theorem docOf_suf {b : List S42} (L : List S42) (n : Nat) (hn : n ≤ 1000000) (hbl : b.length ≤ 1000000) (hv : nodesOk b) (hL : ∀ j, j < b.length → L.getD (n + j) z42 = shiftN n (b.getD j z42)) :
    ∀ (j k k' : Nat), j < k → j < k' → j < b.length → er (docOf L k (n + j)) = er (docOf b k' j) := by
  intro j
  induction j using Nat.strongRecOn with
  | _ j ih =>
    intro k k' hk hk' hj
    obtain ⟨k, rfl⟩ : ∃ m, k = m + 1 := ⟨k - 1, by omega⟩
    obtain ⟨k', rfl⟩ : ∃ m, k' = m + 1 := ⟨k' - 1, by omega⟩
    have h := hv j hj
    have hkd := h.kind
    obtain ⟨s0, s1, s2⟩ := shiftN_kind n (b.getD j z42)
    have hs := shiftN_small h (by omega) n hn
    simp only [docOf]
    rw [hL j hj, s0, s1, s2]
    split
    · rfl
    split
    · rfl
    split
    · rfl
    have ha := h.a (by omega)
    have e3 : (shiftN n (b.getD j z42)).f3.toNat = n + (b.getD j z42).f3.toNat := by
      rw [hs]
      split
      · simp only; omega
      · rw [if_pos (by omega)]; simp only; omega
    have c3 := ih (b.getD j z42).f3.toNat (by omega) k k' (by omega) (by omega) (by omega)
    rw [e3]
    split
    · rename_i h3
      have hb := h.b h3
      have e4 : (shiftN n (b.getD j z42)).f4.toNat = n + (b.getD j z42).f4.toNat := by
        rw [hs, if_pos h3]; simp only; omega
      rw [e4]
      simp only [er]
      rw [c3, ih (b.getD j z42).f4.toNat (by omega) k k' (by omega) (by omega) (by omega)]
    split
    · simp only [er]; rw [c3]
    split
    · simp only [er]; rw [c3]
    · simp only [er]; rw [c3]
theorem E_seq {a b : List S42} (ha : Good a) (hb : Good b) (hl : a.length + b.length + 1 ≤ 65536) : E (seqD a b) = .seq (E a) (E b) := by
  have hpa := ha.pos
  have hpb := hb.pos
  have hg := good_seq ha hb hl
  have hlen : (seqD a b).length = a.length + b.length + 1 := seqD_length a b
  have hroot : (seqD a b).getD ((seqD a b).length - 1) z42 = ⟨3, ⟨#[]⟩, 0, (a.length : Int) - 1, (a.length : Int) + b.length - 1⟩ := by
    rw [hlen]
    unfold seqD joinD
    have := getD_snd (a ++ b.map (shiftN a.length)) [(⟨3, ⟨#[]⟩, 0, (a.length : Int) - 1, (a.length : Int) + b.length - 1⟩ : S42)] 0
    rw [List.length_append, List.length_map, Nat.add_zero] at this
    rw [Nat.add_sub_cancel, this]
    rfl
  unfold E rootT
  rw [tree_seq hg.ok (by omega) (by rw [hroot]), hroot]
  simp only [er]
  rw [show ((a.length : Int) - 1).toNat = a.length - 1 by omega, show ((a.length : Int) + b.length - 1).toNat = a.length + (b.length - 1) by omega]
  congr 1
  · unfold tree seqD joinD
    rw [List.append_assoc, docOf_pref _ ha.ok _ _ (by omega) (by omega)]
  · unfold tree
    refine docOf_suf _ a.length (by omega) (by omega) hb.ok (fun j hj => ?_) _ _ _ (by omega) (by omega) (by omega)
    unfold seqD joinD
    rw [List.append_assoc, getD_snd, getD_fst _ _ _ (by simpa using hj), getD_map _ _ _ hj]
theorem wrap_root (a : List S42) (kind n : Int) : (wrapD kind n a).getD ((wrapD kind n a).length - 1) z42 = ⟨kind, ⟨#[]⟩, n, (a.length : Int) - 1, 0⟩ := by
  rw [wrapD_length]
  unfold wrapD
  have := getD_snd a [(⟨kind, ⟨#[]⟩, n, (a.length : Int) - 1, 0⟩ : S42)] 0
  rw [Nat.add_zero] at this
  rw [Nat.add_sub_cancel, this]
  rfl
theorem wrap_sub {a : List S42} (ha : Good a) (kind n : Int) : tree (wrapD kind n a) ((a.length : Int) - 1).toNat = rootT a := by
  have hpa := ha.pos
  rw [show ((a.length : Int) - 1).toNat = a.length - 1 by omega]
  unfold tree rootT wrapD
  rw [docOf_pref _ ha.ok _ _ (by omega) (by omega)]
  rfl
theorem E_nest {a : List S42} {n : Int} (ha : Good a) (hn : 0 ≤ n ∧ n ≤ 1000) (hl : a.length + 1 ≤ 65536) : E (wrapD 4 n a) = .nest n (E a) := by
  have hg := good_wrap (kind := 4) ha (by omega) hn (fun h => absurd rfl h) hl
  have hr := wrap_root a 4 n
  unfold E
  rw [rootT, tree_nest hg.ok (by rw [wrapD_length]; omega) (by rw [hr]), hr]
  simp only [er]
  rw [wrap_sub ha]
theorem E_align {a : List S42} (ha : Good a) (hl : a.length + 1 ≤ 65536) : E (wrapD 5 0 a) = .align (E a) := by
  have hg := good_wrap (kind := 5) (n := 0) ha (by omega) (by omega) (fun h => rfl) hl
  have hr := wrap_root a 5 0
  unfold E
  rw [rootT, tree_align hg.ok (by rw [wrapD_length]; omega) (by rw [hr]), hr]
  simp only [er]
  rw [wrap_sub ha]
theorem E_group {a : List S42} (ha : Good a) (hl : a.length + 1 ≤ 65536) : E (wrapD 6 0 a) = .group 0 (E a) := by
  have hg := good_wrap (kind := 6) (n := 0) ha (by omega) (by omega) (fun h => rfl) hl
  have hr := wrap_root a 6 0
  unfold E
  rw [rootT, tree_group hg.ok (by rw [wrapD_length]; omega) (by rw [hr]), hr]
  simp only [er]
  rw [wrap_sub ha]
theorem E_text (s : ByteArray) : E (textD s) = .text s := rfl
theorem text_ok {s : ByteArray} (h : Lib.indexByte s.data.toList 10 < 0) : Good (textD s) :=
  good_leaf ⟨⟨by simp only; omega, by simp only; omega⟩, fun h => by simp at h, fun h => by simp at h, fun _ => rfl, fun _ => rfl, ⟨by simp only; omega, by simp only; omega⟩, fun _ => rfl, h, fun h => absurd (Or.inl rfl) h⟩
section
variable {P : List S42 → Prop} (hleaf : ∀ k : Int, 0 ≤ k → k ≤ 255 → P (leafD k)) (htext : P (textD ⟨#[]⟩))
  (hseq : ∀ a b, Good a → Good b → a.length + b.length + 1 ≤ 65536 → P a → P b → P (seqD a b))
  (hwrap : ∀ (kind n : Int) a, Good a → a.length + 1 ≤ 65536 → (kind = 4 ∧ 0 ≤ n ∧ n ≤ 4 ∨ (kind = 5 ∨ kind = 6) ∧ n = 0) → P a → P (wrapD kind n a))
include hleaf hseq hwrap
theorem madeStep_ind {k : Int} (hk : 0 ≤ k ∧ k ≤ 255) {sz : Nat} {D : List (List S42)} (hg : ∀ d ∈ D, Good d ∧ P d) (hz : stOk D sz) (hs : sz ≤ 2000) : ∀ d ∈ (madeStep k sz D).2, P d := by
  unfold stOk at hz
  unfold madeStep
  by_cases c1 : k % 10 < 4 ∨ D.length = 0 ∨ (D.length = 1 ∧ 8 ≤ k % 10)
  · rw [if_pos c1]
    intro d hd
    rcases List.mem_append.1 hd with h | h
    · exact (hg d h).2
    · rw [List.mem_singleton.1 h]; exact hleaf k hk.1 hk.2
  rw [if_neg c1]
  by_cases c2 : 8 ≤ k % 10
  · rw [if_pos c2]
    intro d hd
    rcases List.mem_append.1 hd with h | h
    · exact (hg d (List.mem_of_mem_take h)).2
    · rw [List.mem_singleton.1 h]
      obtain ⟨m, hm⟩ : ∃ m, D.length = m + 2 := ⟨D.length - 2, by omega⟩
      have hsp := sum_split D m hm
      rw [hm, show m + 2 - 2 = m from by omega, show m + 2 - 1 = m + 1 from by omega]
      have g1 := hg _ (getD_memD (D := D) (j := m) (by omega))
      have g2 := hg _ (getD_memD (D := D) (j := m + 1) (by omega))
      exact hseq _ _ g1.1 g2.1 (by omega) g1.2 g2.2
  · rw [if_neg c2]
    intro d hd
    have hx := getD_memD (D := D) (j := D.length - 1) (by omega)
    have hl := len_le_sum D _ hx
    rcases List.mem_or_eq_of_mem_set hd with h | h
    · exact (hg d h).2
    · rw [h]
      have g := hg _ hx
      split
      · exact hwrap _ _ _ g.1 (by omega) (.inl ⟨rfl, by omega, by omega⟩) g.2
      · split
        · exact hwrap _ _ _ g.1 (by omega) (.inr ⟨.inl rfl, rfl⟩) g.2
        · exact hwrap _ _ _ g.1 (by omega) (.inr ⟨.inr rfl, rfl⟩) g.2
theorem madeGo_ind {most : Int} (hm : most ≤ 1000) : ∀ (l : List Int) (sz : Nat) (D : List (List S42)), (∀ x ∈ l, 0 ≤ x ∧ x ≤ 255) → (∀ d ∈ D, Good d ∧ P d) → stOk D sz ∧ sz ≤ 2000 ∧ D.length ≤ 2000 →
    (∀ d ∈ madeGo most l sz D, P d)
  | [], sz, D, _, hg, hz => fun d hd => (hg d hd).2
  | k :: t, sz, D, hb, hg, hz => by
    unfold madeGo
    by_cases hs : (sz : Int) + 2 < most
    · rw [if_pos hs]
      have hk := hb k (by simp)
      refine madeGo_ind hm t _ _ (fun x hx => hb x (by simp [hx])) (fun d hd => ⟨madeStep_good hk (fun d hd => (hg d hd).1) hz.1 hz.2.1 d hd, madeStep_ind hleaf hseq hwrap hk hg hz.1 hz.2.1 d hd⟩) (made_ok hs hm hk rfl hz)
    · rw [if_neg hs]
      exact fun d hd => (hg d hd).2
omit hleaf hwrap in
theorem fold_ind : ∀ (t : List (List S42)) (a : List S42), Good a → P a → (∀ d ∈ t, Good d ∧ P d) → a.length + (t.map List.length).sum + t.length ≤ 65536 → P (t.foldl seqD a)
  | [], a, _, ha, _, _ => ha
  | b :: t, a, ga, ha, hg, hl => by
    simp only [List.map_cons, List.sum_cons, List.length_cons] at hl
    have hs := seqD_length a b
    have g := hg b (by simp)
    exact fold_ind t (seqD a b) (good_seq ga g.1 (by omega)) (hseq a b ga g.1 (by omega) ha g.2) (fun d hd => hg d (by simp [hd])) (by omega)
include htext in
theorem made_ind {l : List Int} {most : Int} (hb : ∀ x ∈ l, 0 ≤ x ∧ x ≤ 255) (hm : most ≤ 1000) : P (madeDoc l most) := by
  obtain ⟨h1, sz, h2, h3⟩ := madeGo_good hm l 0 [] hb (by simp) ⟨by simp [stOk], by omega, by simp⟩
  have h4 := madeGo_ind hleaf hseq hwrap hm l 0 [] hb (by simp) ⟨by simp [stOk], by omega, by simp⟩
  unfold madeDoc
  cases hD : madeGo most l 0 [] with
  | nil => exact htext
  | cons a t =>
    rw [hD] at h1 h2 h4
    unfold stOk at h2
    simp only [List.map_cons, List.sum_cons, List.length_cons] at h2
    exact fold_ind hseq t a (h1 a (by simp)) (h4 a (by simp)) (fun d hd => ⟨h1 d (by simp [hd]), h4 d (by simp [hd])⟩) (by omega)
end
/-- Small texts; line breaks are spaces when flat; no text has a line feed. -/
def TxOk : Doc → Prop
  | .text s => s.data.toList.length ≤ 4 ∧ (∀ c ∈ s.data.toList, c ≠ 10)
  | .line s => s.data.toList.length ≤ 4 ∧ (∀ c ∈ s.data.toList, c = 32)
  | .hard => True
  | .seq a b => TxOk a ∧ TxOk b
  | .nest n a => 0 ≤ n ∧ n ≤ 4 ∧ TxOk a
  | .align a | .group _ a => TxOk a
def txOkB : Doc → Bool
  | .text s => decide (s.data.toList.length ≤ 4) && s.data.toList.all (· != 10)
  | .line s => decide (s.data.toList.length ≤ 4) && s.data.toList.all (· == 32)
  | .hard => true
  | _ => false
theorem txOk_of : ∀ t, txOkB t = true → TxOk t ∧ lv t ≤ 1 ∧ wt t ≤ 4
  | .text s, h => by
    simp only [txOkB, Bool.and_eq_true, decide_eq_true_iff, List.all_eq_true, bne_iff_ne] at h
    exact ⟨h, Nat.le_refl _, h.1⟩
  | .line s, h => by
    simp only [txOkB, Bool.and_eq_true, decide_eq_true_iff, List.all_eq_true, beq_iff_eq] at h
    exact ⟨h, Nat.le_refl _, h.1⟩
  | .hard, _ => ⟨trivial, Nat.le_refl _, by decide⟩
  | .seq _ _, h | .nest _ _, h | .align _, h | .group _ _, h => by cases h
def MadeP (l : List S42) : Prop := TxOk (E l) ∧ lv (E l) ≤ l.length ∧ wt (E l) ≤ 4 * l.length
theorem made_shape {l : List Int} {most : Int} (hb : ∀ x ∈ l, 0 ≤ x ∧ x ≤ 255) (hm : most ≤ 1000) : MadeP (madeDoc l most) := by
  refine made_ind (P := MadeP) (fun k h0 h1 => ?_) ⟨⟨by decide, by decide⟩, by decide, by decide⟩ (fun a b ga gb hl ha hb => ?_) (fun kind n a ga hl hk ha => ?_) hb hm
  · have h : ∀ i : Fin 256, (decide ((leafD (i.val : Int)).length = 1) && txOkB (E (leafD (i.val : Int)))) = true := by decide +kernel
    have := h ⟨k.toNat, by omega⟩
    simp only [Int.toNat_of_nonneg h0, Bool.and_eq_true, decide_eq_true_iff] at this
    obtain ⟨t1, t2, t3⟩ := txOk_of _ this.2
    exact ⟨t1, by omega, by omega⟩
  · unfold MadeP
    rw [E_seq ga gb hl, seqD_length]
    exact ⟨⟨ha.1, hb.1⟩, by have := ha.2; have := hb.2; simp only [lv]; omega, by have := ha.2; have := hb.2; simp only [wt]; omega⟩
  · unfold MadeP
    rw [wrapD_length]
    rcases hk with ⟨rfl, h1, h2⟩ | ⟨rfl | rfl, rfl⟩
    · rw [E_nest ga ⟨h1, by omega⟩ hl]
      exact ⟨⟨h1, h2, ha.1⟩, by have := ha.2; simp only [lv]; omega, by have := ha.2; simp only [wt]; omega⟩
    · rw [E_align ga hl]
      exact ⟨ha.1, by have := ha.2; simp only [lv]; omega, by have := ha.2; simp only [wt]; omega⟩
    · rw [E_group ga hl]
      exact ⟨ha.1, by have := ha.2; simp only [lv]; omega, by have := ha.2; simp only [wt]; omega⟩
/-- The flags are a possible choice: no group that is flat, and nothing flat, has a hard line break. -/
theorem wrP_wrong : ∀ (t : Doc) (ind : Int) (flat : Bool) (fl : List Bool) (st : St), (flat = true → hardT t = false) → (wrP t ind flat (chz (gh t) fl) st).wrong = st.wrong
  | .text s, ind, flat, fl, st, h => by simp only [wrP, addT]; split <;> (try split) <;> rfl
  | .line s, ind, flat, fl, st, h => by
    simp only [wrP, addT, feedT]; split
    · split <;> (try split) <;> rfl
    · rfl
  | .hard, ind, flat, fl, st, h => by
    have : flat = false := by cases flat with
      | false => rfl
      | true => exact absurd (h rfl) (by decide)
    subst this
    simp [wrP, feedT]
  | .seq a b, ind, flat, fl, st, h => by
    have h2 : flat = true → hardT a = false ∧ hardT b = false := fun hf => by
      have := h hf
      simpa [hardT] using this
    simp only [wrP, gh]
    rw [chz_append]
    have el : (chz (gh a) fl).length = ng a := by rw [chz_length, gh_length]
    rw [List.drop_left' el, List.take_left' el, wrP_wrong b _ _ _ _ (fun hf => (h2 hf).2), wrP_wrong a _ _ _ _ (fun hf => (h2 hf).1)]
  | .nest n a, ind, flat, fl, st, h => by simp only [wrP, gh]; exact wrP_wrong a _ _ _ _ h
  | .align a, ind, flat, fl, st, h => by simp only [wrP, gh]; exact wrP_wrong a _ _ _ _ h
  | .group i a, ind, flat, fl, st, h => by
    simp only [wrP, gh, chz, List.headD_cons, List.tail_cons]
    refine wrP_wrong a _ _ _ _ (fun hf => ?_)
    cases flat with
    | true => exact h rfl
    | false =>
      simp only [Bool.false_or, Bool.and_eq_true, Bool.not_eq_true'] at hf
      exact hf.2
/-- Small enough to be written. -/
def Fits (t : Doc) : Prop := wt t ≤ 1000000000000 ∧ lv t * (wt t + 1) ≤ 140737488355328
theorem render_any {l : List S42} (hg : Good l) (hf : Fits (E l)) (fl : List Bool) (hl : fl.length = ng (E l)) :
    document_Render.f l fl = some (if (wrP (E l) 0 false fl st0).wrong = true then (⟨#[]⟩, 1) else (⟨(wrP (E l) 0 false fl st0).out.toArray⟩, 0)) := by
  have h0 := (check_zero_iff l).2 hg
  have hp := hg.pos
  have hgl : (groupsI (rootT l)).length = ng (E l) := by rw [ng_eq]; exact (er_ng _).symm
  have hnd : (groupsI (rootT l)).Nodup := groups_nodup hg.ok (check_once h0) (l.length - 1) (by omega)
  unfold document_Render.f
  rw [if_neg (by rw [h0]; decide), if_neg (by omega)]
  unfold renderO
  have hw := wrO_eq (chOf ((groupsI (rootT l)).zip fl)) (rootT l) 0 0 false st0 (nn_tree hg.ok _ (by omega)) ⟨by decide, by decide, by decide, by decide⟩ ⟨by decide, by decide⟩
    (by have := hf.1; unfold E at this; rw [er_wt] at this; omega) (by
      have := hf.2; unfold E at this; rw [er_wt, er_lv] at this
      rw [Nat.zero_add]
      show 0 + _ ≤ _
      omega)
  rw [hw.1, Option.bind_some, chOf_zip _ _ hnd (by omega)]
  unfold E
  rw [er_wrP]
/-- The text of a tree under the flags, but for those that are not possible. -/
def rnd (t : Doc) (fl : List Bool) : List UInt8 := (wrP t 0 false (chz (gh t) fl) st0).out
theorem choiceL_eq {l : List S42} (hg : Good l) (fl : List Bool) : choiceL l fl = chz (gh (E l)) fl := by
  have hp := hg.pos
  unfold choiceL E
  rw [choiceGo_chz, List.drop_zero, gh_tree hg.ok _ (by omega), er_gh]
  rfl
theorem render_choice {l : List S42} (hg : Good l) (hf : Fits (E l)) (fl : List Bool) : document_Render.f l (choiceL l fl) = some (⟨(rnd (E l) fl).toArray⟩, 0) := by
  rw [choiceL_eq hg, render_any hg hf _ (by rw [chz_length, gh_length]), wrP_wrong _ _ _ _ _ (fun h => by cases h)]
  rfl
theorem made_fits {l : List Int} {most : Int} (hb : ∀ x ∈ l, 0 ≤ x ∧ x ≤ 255) (hm : most ≤ 1000) : Fits (E (madeDoc l most)) := by
  obtain ⟨h1, h2, h3⟩ := made_shape hb hm
  obtain ⟨g1, g2⟩ := made_good hb hm
  refine ⟨by omega, ?_⟩
  have := Nat.mul_le_mul (show lv (E (madeDoc l most)) ≤ 2000 by omega) (show wt (E (madeDoc l most)) + 1 ≤ 8001 by omega)
  omega
end Go.Proofs.Ythmmdmnbcecooaa.A
end

section
namespace Go.Proofs.Ythmmdmnbcecooaa.A
open Go.RowKit Go.Proofs.YthmmdmnbcecooaaW.PrintWords Go.Proofs.YthmmdmnbcecooaaW.PrintLast Go.Proofs.YthmmdmnbcecooaaW.PrintMore
attribute [local go_sem] max2_int max_two
set_option linter.unusedVariables false
set_option linter.unusedSimpArgs false
theorem cutl_miss (s : ByteArray) (w : World) (h : Lib.indexByte s.data.toList 10 = -1) :
    Calls Try.prog 71 #[.string s, .string ⟨#[10]⟩] w fun e w' => e = .returned (.tuple #[.string s, .string ⟨#[]⟩, .bool false]) ∧ ∃ n, w' = w.drewN n := by
  have H := Aside0.mk h
  clear h
  go_enter Try.func71, Try.ntmps71
  go_wp2_with (go_at_call 79; refine (Try.stringslite_Index_one _ _ _).mono ?_; rintro e w' ⟨rfl, rfl⟩; rw [H.out])
  go_ret3
  exact ⟨rfl, 0, rfl⟩
theorem cutl_hit (s : ByteArray) (i : Nat) (w : World) (hs : s.size ≤ 9223372036854775807) (hi : i + 1 ≤ s.size) (h : Lib.indexByte s.data.toList 10 = i) :
    Calls Try.prog 71 #[.string s, .string ⟨#[10]⟩] w fun e w' => e = .returned (.tuple #[.string (s.extract 0 i), .string (s.extract (i + 1) s.size), .bool true]) ∧ ∃ n, w' = w.drewN n := by
  have H := Aside0.mk h
  clear h
  have c1 : (0 : Int) ≤ ↑i := by omega
  have c2 : (↑i : Int) ≤ ↑s.size := by omega
  have c3 : (0 : Int) ≤ ↑i + 1 := by omega
  have c4 : (↑i + 1 : Int) ≤ ↑s.size := by omega
  go_enter Try.func71, Try.ntmps71
  go_wp2_with (go_at_call 79; refine (Try.stringslite_Index_one _ _ _).mono ?_; rintro e w' ⟨rfl, rfl⟩; rw [H.out])
  go_region
  go_wp2
  go_ret3
  exact ⟨rfl, 1, rfl⟩
theorem cut_miss (s : ByteArray) (w : World) (h : Lib.indexByte s.data.toList 10 = -1) :
    Calls Try.prog 56 #[.string s, .string ⟨#[10]⟩] w fun e w' => e = .returned (.tuple #[.string s, .string ⟨#[]⟩, .bool false]) ∧ ∃ n, w' = w.drewN n := by
  have H := Aside0.mk h
  clear h
  go_enter Try.func56, Try.ntmps56
  go_wp2_with (go_at_call 71; refine (cutl_miss _ _ H.out).mono ?_; rintro e w' ⟨rfl, n, rfl⟩)
  go_ret3
  exact ⟨rfl, n, rfl⟩
theorem cut_hit (s : ByteArray) (i : Nat) (w : World) (hs : s.size ≤ 9223372036854775807) (hi : i + 1 ≤ s.size) (h : Lib.indexByte s.data.toList 10 = i) :
    Calls Try.prog 56 #[.string s, .string ⟨#[10]⟩] w fun e w' => e = .returned (.tuple #[.string (s.extract 0 i), .string (s.extract (i + 1) s.size), .bool true]) ∧ ∃ n, w' = w.drewN n := by
  have H := Aside0.mk h
  clear h
  go_enter Try.func56, Try.ntmps56
  go_wp2_with (go_at_call 71; refine (cutl_hit _ i _ hs hi H.out).mono ?_; rintro e w' ⟨rfl, n, rfl⟩)
  go_ret3
  exact ⟨rfl, n, rfl⟩
/-- The cost of a text, n bytes of whose line came before: (Beyond, Lines). -/
def costGo (w : Int) : List UInt8 → Int → Int × Int
  | [], n => (mx 0 (n - w), 0)
  | c :: t, n => if c = 10 then (mx 0 (n - w) + (costGo w t 0).1, (costGo w t 0).2 + 1) else costGo w t (n + 1)
theorem costGo_miss (w : Int) : ∀ (l : List UInt8) (n : Int), Lib.indexByte l 10 = -1 → costGo w l n = (mx 0 (n + l.length - w), 0)
  | [], n, _ => by simp [costGo]
  | c :: t, n, h => by
    simp only [Lib.indexByte] at h
    split at h
    · cases h
    · rename_i hc
      have hc' : c ≠ 10 := by simpa using hc
      have ht : Lib.indexByte t 10 = -1 := by
        split at h
        · rename_i h2; simpa using h2
        · have := Lib.indexByte_ge t 10
          omega
      simp only [costGo, if_neg hc']
      rw [costGo_miss w t (n + 1) ht, List.length_cons]
      rw [show n + 1 + (t.length : Int) - w = n + ((t.length + 1 : Nat) : Int) - w by omega]
theorem costGo_hit (w : Int) : ∀ (l : List UInt8) (n : Int) (i : Nat), Lib.indexByte l 10 = i → costGo w l n = (mx 0 (n + i - w) + (costGo w (l.drop (i + 1)) 0).1, (costGo w (l.drop (i + 1)) 0).2 + 1)
  | [], n, i, h => by simp only [Lib.indexByte] at h; omega
  | c :: t, n, i, h => by
    simp only [Lib.indexByte] at h
    split at h
    · rename_i hc
      have hc' : c = 10 := by simpa using hc
      obtain rfl : i = 0 := by omega
      simp only [costGo, if_pos hc']
      simp
    · rename_i hc
      have hc' : c ≠ 10 := by simpa using hc
      split at h
      · omega
      · obtain ⟨j, rfl⟩ : ∃ j, i = j + 1 := ⟨i - 1, by have := Lib.indexByte_ge t 10; rename_i h2; simp at h2; omega⟩
        have ht : Lib.indexByte t 10 = j := by omega
        simp only [costGo, if_neg hc']
        rw [costGo_hit w t (n + 1) j ht]
        simp only [List.drop_succ_cons]
        rw [show n + 1 + (j : Int) - w = n + ((j + 1 : Nat) : Int) - w by omega]
theorem costGo_bounds (w : Int) (hw : 0 ≤ w) : ∀ (l : List UInt8) (n : Int), 0 ≤ n → 0 ≤ (costGo w l n).1 ∧ (costGo w l n).1 ≤ n + l.length ∧ 0 ≤ (costGo w l n).2 ∧ (costGo w l n).2 ≤ l.length
  | [], n, h => by simp only [costGo]; unfold mx; simp; split <;> omega
  | c :: t, n, h => by
    simp only [costGo]
    split
    · have := costGo_bounds w hw t 0 (by omega)
      simp only [List.length_cons]
      unfold mx
      split <;> omega
    · have := costGo_bounds w hw t (n + 1) (by omega)
      simp only [List.length_cons]
      omega
end Go.Proofs.Ythmmdmnbcecooaa.A
end

section
namespace Go.Proofs.Ythmmdmnbcecooaa.A
open Go.RowKit Go.Proofs.YthmmdmnbcecooaaW.PrintWords Go.Proofs.YthmmdmnbcecooaaW.PrintLast Go.Proofs.YthmmdmnbcecooaaW.PrintMore
set_option linter.unusedVariables false
set_option linter.unusedSimpArgs false
/-- The normal choices of a tree, in order (true: flat). -/
def norm : Doc → List (List Bool)
  | .text _ | .line _ | .hard => [[]]
  | .seq a b => (norm a).flatMap fun x => (norm b).map fun y => x ++ y
  | .nest _ a | .align a => norm a
  | .group _ a => (if hardT a then [] else [List.replicate (ng a + 1) true]) ++ (norm a).map fun x => false :: x
def chB (x : List Bool) : List UInt8 := x.map fun b => if b then 0 else 1
theorem chB_append (x y : List Bool) : chB (x ++ y) = chB x ++ chB y := List.map_append
theorem norm_len : ∀ (t : Doc), ∀ x ∈ norm t, x.length = ng t
  | .text _, x, h | .line _, x, h | .hard, x, h => by
    simp only [norm, List.mem_singleton] at h
    rw [h]; rfl
  | .seq a b, x, h => by
    simp only [norm, List.mem_flatMap, List.mem_map] at h
    obtain ⟨y, h1, z, h2, rfl⟩ := h
    simp only [List.length_append, ng, norm_len a y h1, norm_len b z h2]
  | .nest _ a, x, h | .align a, x, h => norm_len a x h
  | .group _ a, x, h => by
    simp only [norm, List.mem_append, List.mem_map] at h
    rcases h with h | ⟨y, h1, rfl⟩
    · split at h
      · cases h
      · rw [List.mem_singleton.1 h]; simp [ng]
    · simp only [List.length_cons, ng, norm_len a y h1]
/-- No text has a line feed. -/
def noLf : Doc → Prop
  | .text s | .line s => ∀ c ∈ s.data.toList, c ≠ 10
  | .hard => True
  | .seq a b => noLf a ∧ noLf b
  | .nest _ a | .align a | .group _ a => noLf a
/-- The length of the last line. -/
def lastN : List UInt8 → Int → Int
  | [], n => n
  | c :: t, n => if c = 10 then lastN t 0 else lastN t (n + 1)
theorem lastN_app : ∀ (s t : List UInt8) (n : Int), lastN (s ++ t) n = lastN t (lastN s n)
  | [], t, n => rfl
  | c :: s, t, n => by
    simp only [List.cons_append, lastN]
    split
    · exact lastN_app s t 0
    · exact lastN_app s t (n + 1)
theorem lastN_no : ∀ (s : List UInt8) (n : Int), (∀ c ∈ s, c ≠ 10) → lastN s n = n + s.length
  | [], n, _ => by simp [lastN]
  | c :: s, n, h => by
    simp only [lastN, if_neg (h c (by simp)), lastN_no s (n + 1) (fun x hx => h x (by simp [hx])), List.length_cons]
    omega
theorem cost_app (w : Int) : ∀ (s t : List UInt8) (n : Int), costGo w (s ++ t) n = ((costGo w s n).1 - mx 0 (lastN s n - w) + (costGo w t (lastN s n)).1, (costGo w s n).2 + (costGo w t (lastN s n)).2)
  | [], t, n => by
    simp only [List.nil_append, costGo, lastN]
    rw [Int.sub_self, Int.zero_add, Int.zero_add]
  | c :: s, t, n => by
    simp only [List.cons_append, costGo, lastN]
    split
    · rw [cost_app w s t 0]
      simp only [Prod.mk.injEq]
      omega
    · exact cost_app w s t (n + 1)
theorem cost_no (w : Int) : ∀ (s : List UInt8) (n : Int), (∀ c ∈ s, c ≠ 10) → costGo w s n = (mx 0 (n + s.length - w), 0)
  | [], n, _ => by simp [costGo]
  | c :: s, n, h => by
    simp only [costGo, if_neg (h c (by simp))]
    rw [cost_no w s (n + 1) (fun x hx => h x (by simp [hx])), List.length_cons]
    rw [show n + 1 + (s.length : Int) - w = n + ((s.length + 1 : Nat) : Int) - w by omega]
/-- The place of a writer. -/
def plOf (st : St) : Pl := if st.col = 0 then ⟨st.pend, false⟩ else ⟨st.col, true⟩
def cB (wd : Int) (st : St) : Int := (costGo wd st.out 0).1
def cL (wd : Int) (st : St) : Int := (costGo wd st.out 0).2
structure InvS (st : St) : Prop where
  col : lastN st.out 0 = st.col
  c0 : 0 ≤ st.col
  p0 : 0 ≤ st.pend
theorem addT_sim (wd : Int) {st : St} (h : InvS st) (s : List UInt8) (hs : ∀ c ∈ s, c ≠ 10) :
    InvS (addT st s) ∧ plOf (addT st s) = wpl (plOf st) s ∧ cB wd (addT st s) - cB wd st = cst wd (wpl (plOf st) s) - cst wd (plOf st) ∧ cL wd (addT st s) = cL wd st := by
  have hcs : cst wd (plOf st) = mx 0 (st.col - wd) := by
    unfold cst plOf
    split
    · rename_i h0; simp [h0]
    · rfl
  unfold addT wpl
  by_cases h0 : s = []
  · rw [if_pos h0, if_pos h0]
    exact ⟨h, rfl, by omega, rfl⟩
  rw [if_neg h0, if_neg h0]
  have hl : 0 < s.length := List.length_pos_iff.2 h0
  have hp := h.p0
  have hc := h.c0
  by_cases hc0 : st.col = 0
  · rw [if_pos hc0]
    have hno : ∀ c ∈ List.replicate st.pend.toNat (32 : UInt8) ++ s, c ≠ 10 := fun c hm => by
      rcases List.mem_append.1 hm with hm | hm
      · rw [List.eq_of_mem_replicate hm]; decide
      · exact hs c hm
    have hpl : plOf st = ⟨st.pend, false⟩ := by unfold plOf; rw [if_pos hc0]
    have hln : ((List.replicate st.pend.toNat (32 : UInt8) ++ s).length : Int) = st.pend + s.length := by
      rw [List.length_append, List.length_replicate]; omega
    refine ⟨⟨?_, ?_, hp⟩, ?_, ?_, ?_⟩
    · show lastN (st.out ++ _) 0 = _
      rw [lastN_app, h.col, lastN_no _ _ hno, hln, hc0, Int.zero_add]
    · show (0 : Int) ≤ st.pend + s.length
      omega
    · rw [hpl]
      unfold plOf
      rw [if_neg (show ¬ (st.pend + (s.length : Int) = 0) by omega)]
    · rw [hcs]
      unfold cB
      show (costGo wd (st.out ++ _) 0).1 - _ = _
      rw [cost_app, h.col, cost_no wd _ _ hno, hln, hpl]
      show (costGo wd st.out 0).1 - mx 0 (st.col - wd) + mx 0 (st.col + (st.pend + s.length) - wd) - (costGo wd st.out 0).1 = mx 0 ((if true = true then st.pend + (s.length : Int) else 0) - wd) - mx 0 (st.col - wd)
      rw [if_pos rfl, hc0, Int.zero_add (st.pend + (s.length : Int))]
      omega
    · unfold cL
      show (costGo wd (st.out ++ _) 0).2 = _
      rw [cost_app, h.col, cost_no wd _ _ hno]
      show _ + (0 : Int) = _
      rw [Int.add_zero]
  · rw [if_neg hc0]
    have hpl : plOf st = ⟨st.col, true⟩ := by unfold plOf; rw [if_neg hc0]
    refine ⟨⟨?_, ?_, hp⟩, ?_, ?_, ?_⟩
    · show lastN (st.out ++ _) 0 = _
      rw [lastN_app, h.col, lastN_no _ _ hs]
    · show (0 : Int) ≤ st.col + s.length
      omega
    · rw [hpl]
      unfold plOf
      rw [if_neg (show ¬ (st.col + (s.length : Int) = 0) by omega)]
    · rw [hcs]
      unfold cB
      show (costGo wd (st.out ++ _) 0).1 - _ = _
      rw [cost_app, h.col, cost_no wd _ _ hs, hpl]
      show (costGo wd st.out 0).1 - mx 0 (st.col - wd) + mx 0 (st.col + s.length - wd) - (costGo wd st.out 0).1 = mx 0 ((if true = true then st.col + (s.length : Int) else 0) - wd) - mx 0 (st.col - wd)
      rw [if_pos rfl]
      omega
    · unfold cL
      show (costGo wd (st.out ++ _) 0).2 = _
      rw [cost_app, h.col, cost_no wd _ _ hs]
      show _ + (0 : Int) = _
      rw [Int.add_zero]
theorem feedT_sim {wd : Int} (hw : 0 ≤ wd) {st : St} (h : InvS st) {ind : Int} (hi : 0 ≤ ind) :
    InvS (feedT st ind) ∧ plOf (feedT st ind) = ⟨ind, false⟩ ∧ cB wd (feedT st ind) - cB wd st = 0 ∧ cL wd (feedT st ind) - cL wd st = 1 := by
  have e : costGo wd (st.out ++ [10]) 0 = ((costGo wd st.out 0).1, (costGo wd st.out 0).2 + 1) := by
    rw [cost_app, h.col]
    simp only [costGo, if_true, Prod.mk.injEq]
    have : mx 0 (0 - wd) = 0 := by unfold mx; split <;> omega
    omega
  refine ⟨⟨?_, Int.le_refl _, hi⟩, ?_, ?_, ?_⟩
  · show lastN (st.out ++ [10]) 0 = 0
    rw [lastN_app]; rfl
  · unfold plOf feedT; rw [if_pos rfl]
  · unfold cB feedT; rw [e]; exact Int.sub_self _
  · unfold cL feedT; rw [e]; simp only; omega
/-- A flat tree. -/
theorem flat_sim {wd : Int} (hw : 0 ≤ wd) : ∀ (t : Doc) (ind : Int) (fl : List Bool) (st : St), hardT t = false → noLf t → InvS st →
    InvS (wrP t ind true fl st) ∧ plOf (wrP t ind true fl st) = fpl t (plOf st) ∧ cB wd (wrP t ind true fl st) - cB wd st = cst wd (fpl t (plOf st)) - cst wd (plOf st) ∧ cL wd (wrP t ind true fl st) = cL wd st
  | .text s, ind, fl, st, hh, hn, hi => addT_sim wd hi _ hn
  | .line s, ind, fl, st, hh, hn, hi => by
    simp only [wrP, if_true]
    exact addT_sim wd hi _ hn
  | .hard, ind, fl, st, hh, hn, hi => by cases hh
  | .seq a b, ind, fl, st, hh, hn, hi => by
    simp only [hardT, Bool.or_eq_false_iff] at hh
    obtain ⟨a1, a2, a3, a4⟩ := flat_sim hw a ind (fl.take (ng a)) st hh.1 hn.1 hi
    obtain ⟨b1, b2, b3, b4⟩ := flat_sim hw b ind (fl.drop (ng a)) _ hh.2 hn.2 a1
    simp only [wrP, fpl]
    rw [a2] at b2 b3
    exact ⟨b1, b2, by omega, by rw [b4, a4]⟩
  | .nest n a, ind, fl, st, hh, hn, hi => flat_sim hw a _ fl st hh hn hi
  | .align a, ind, fl, st, hh, hn, hi => flat_sim hw a _ fl st hh hn hi
  | .group _ a, ind, fl, st, hh, hn, hi => by
    simp only [wrP, Bool.true_or]
    exact flat_sim hw a ind fl.tail st hh hn hi
theorem flatMap_cong {α β : Type} (f g : α → List β) : ∀ (l : List α), (∀ x ∈ l, f x = g x) → l.flatMap f = l.flatMap g
  | [], _ => rfl
  | a :: l, h => by rw [List.flatMap_cons, List.flatMap_cons, h a (by simp), flatMap_cong f g l (fun x hx => h x (by simp [hx]))]
/-- The outcomes of a tree are those of its rendering under the normal choices. -/
def outS (wd : Int) (t : Doc) (ind : Int) (st : St) (fl : List Bool) : Pl × Res :=
  (plOf (wrP t ind false fl st), ⟨cB wd (wrP t ind false fl st) - cB wd st, cL wd (wrP t ind false fl st) - cL wd st, chB fl⟩)
theorem ach_sim {wd : Int} (hw : 0 ≤ wd) : ∀ (t : Doc) (ind : Int) (st : St), nn t → noLf t → 0 ≤ ind → InvS st →
    ach wd t ind (plOf st) = (norm t).map (outS wd t ind st) ∧ ∀ fl ∈ norm t, InvS (wrP t ind false fl st)
  | .text s, ind, st, hn, hx, hi, h => by
    obtain ⟨a1, a2, a3, a4⟩ := addT_sim wd h s.data.toList hx
    refine ⟨?_, fun fl _ => a1⟩
    simp only [ach, norm, List.map_cons, List.map_nil, outS, wrP]
    rw [a2, a3, a4, Int.sub_self]
    rfl
  | .line s, ind, st, hn, hx, hi, h => by
    obtain ⟨a1, a2, a3, a4⟩ := feedT_sim hw h hi
    refine ⟨?_, fun fl _ => by simp only [wrP, Bool.false_eq_true, if_false]; exact a1⟩
    simp only [ach, norm, List.map_cons, List.map_nil, outS, wrP, Bool.false_eq_true, if_false]
    rw [a2, a3, a4]
    rfl
  | .hard, ind, st, hn, hx, hi, h => by
    have h' : InvS { st with wrong := st.wrong || false } := ⟨h.col, h.c0, h.p0⟩
    obtain ⟨a1, a2, a3, a4⟩ := feedT_sim hw h' hi
    refine ⟨?_, fun fl _ => a1⟩
    simp only [ach, norm, List.map_cons, List.map_nil, outS, wrP]
    have e1 : cB wd { st with wrong := st.wrong || false } = cB wd st := rfl
    have e2 : cL wd { st with wrong := st.wrong || false } = cL wd st := rfl
    rw [e1] at a3
    rw [e2] at a4
    rw [a2, a3, a4]
    rfl
  | .seq a b, ind, st, hn, hx, hi, h => by
    obtain ⟨a1, a2⟩ := ach_sim hw a ind st hn.1 hx.1 hi h
    have key : ∀ x ∈ norm a, ∀ y, wrP (.seq a b) ind false (x ++ y) st = wrP b ind false y (wrP a ind false x st) := fun x hm y => by
      simp only [wrP]
      rw [← norm_len a x hm, List.take_left, List.drop_left]
    refine ⟨?_, fun fl hm => ?_⟩
    · simp only [ach, norm]
      rw [a1, List.flatMap_map, List.map_flatMap]
      refine flatMap_cong _ _ _ ?_
      intro x hxm
      obtain ⟨b1, b2⟩ := ach_sim hw b ind (wrP a ind false x st) hn.2 hx.2 hi (a2 x hxm)
      simp only [outS]
      rw [b1, List.map_map, List.map_map]
      apply List.map_congr_left
      intro y hym
      simp only [Function.comp, outS, key x hxm y, Res.cat, chB_append]
      congr 2
      · omega
      · omega
    · simp only [norm, List.mem_flatMap, List.mem_map] at hm
      obtain ⟨x, hxm, y, hym, rfl⟩ := hm
      rw [key x hxm y]
      exact (ach_sim hw b ind _ hn.2 hx.2 hi (a2 x hxm)).2 y hym
  | .nest n a, ind, st, hn, hx, hi, h => by
    have h1 : 0 ≤ n := hn.1
    exact ach_sim hw a (ind + n) st hn.2 hx (by omega) h
  | .align a, ind, st, hn, hx, hi, h => by
    have e : (plOf st).col = if st.col = 0 then st.pend else st.col := by unfold plOf; split <;> rfl
    have := ach_sim hw a (if st.col = 0 then st.pend else st.col) st hn hx (by split; exact h.p0; exact h.c0) h
    refine ⟨?_, this.2⟩
    simp only [ach]
    rw [e]
    exact this.1
  | .group i a, ind, st, hn, hx, hi, h => by
    obtain ⟨a1, a2⟩ := ach_sim hw a ind st hn hx hi h
    have key : ∀ x, wrP (.group i a) ind false (false :: x) st = wrP a ind false x st := fun x => by simp [wrP]
    have key2 : wrP (.group i a) ind false (List.replicate (ng a + 1) true) st = wrP a ind true (List.replicate (ng a) true) st := by simp [wrP, List.replicate_succ]
    constructor
    · simp only [ach, norm]
      rw [List.map_append]
      congr 1
      · cases hh : hardT a with
        | true => rfl
        | false =>
          obtain ⟨f1, f2, f3, f4⟩ := flat_sim hw a ind (List.replicate (ng a) true) st hh hx h
          simp only [Bool.false_eq_true, if_false, List.map_cons, List.map_nil, outS, key2]
          rw [f2, f3, f4, Int.sub_self]
          simp [chB]
      · rw [a1, List.map_map, List.map_map]
        apply List.map_congr_left
        intro x hxm
        simp only [Function.comp, outS, key, Res.grp]
        rfl
    · intro fl hm
      simp only [norm, List.mem_append, List.mem_map] at hm
      rcases hm with hm | ⟨x, hxm, rfl⟩
      · cases hh : hardT a with
        | true => rw [hh] at hm; cases hm
        | false =>
          rw [hh] at hm
          simp only [Bool.false_eq_true, if_false, List.mem_singleton] at hm
          rw [hm, key2]
          exact (flat_sim hw a ind _ st hh hx h).1
      · rw [key]; exact a2 x hxm
theorem norm_ne : ∀ t, norm t ≠ []
  | .text _ | .line _ | .hard => by simp [norm]
  | .seq a b => by
    have ha := norm_ne a
    have hb := norm_ne b
    obtain ⟨x, xs, e⟩ := List.exists_cons_of_ne_nil ha
    simp only [norm, e, List.flatMap_cons]
    intro h
    rw [List.append_eq_nil_iff, List.map_eq_nil_iff] at h
    exact hb h.1
  | .nest _ a | .align a => norm_ne a
  | .group _ a => by
    have ha := norm_ne a
    simp only [norm]
    intro h
    rw [List.append_eq_nil_iff, List.map_eq_nil_iff] at h
    exact ha h.2
end Go.Proofs.Ythmmdmnbcecooaa.A
end

section
namespace Go.Proofs.Ythmmdmnbcecooaa.A
open Go.RowKit Go.Proofs.YthmmdmnbcecooaaW.PrintWords Go.Proofs.YthmmdmnbcecooaaW.PrintLast Go.Proofs.YthmmdmnbcecooaaW.PrintMore
set_option linter.unusedVariables false
set_option linter.unusedSimpArgs false
def minR : List Res → Res
  | [] => ⟨0, 0, []⟩
  | x :: t => t.foldl (fun m y => if lessR y m then y else m) x
theorem minR_fold : ∀ (t : List Res) (x : Res), (t.foldl (fun m y => if lessR y m then y else m) x = x ∨ t.foldl (fun m y => if lessR y m then y else m) x ∈ t) ∧ lessR x (t.foldl (fun m y => if lessR y m then y else m) x) = false ∧ ∀ y ∈ t, lessR y (t.foldl (fun m y => if lessR y m then y else m) x) = false
  | [], x => ⟨.inl rfl, lessR_irrefl x, fun y h => by cases h⟩
  | z :: t, x => by
    simp only [List.foldl_cons]
    obtain ⟨h1, h2, h3⟩ := minR_fold t (if lessR z x then z else x)
    by_cases hz : lessR z x = true
    · rw [if_pos hz] at h1 h2 h3 ⊢
      refine ⟨?_, le_trans' h2 (lessR_asymm hz), fun y hy => ?_⟩
      · rcases h1 with h1 | h1
        · exact .inr (by rw [h1]; simp)
        · exact .inr (by simp [h1])
      · rcases List.mem_cons.1 hy with rfl | hy
        · exact h2
        · exact h3 y hy
    · have hz' : lessR z x = false := by simpa using hz
      rw [if_neg hz] at h1 h2 h3 ⊢
      refine ⟨?_, h2, fun y hy => ?_⟩
      · rcases h1 with h1 | h1
        · exact .inl h1
        · exact .inr (by simp [h1])
      · rcases List.mem_cons.1 hy with rfl | hy
        · exact le_trans' h2 hz'
        · exact h3 y hy
theorem minR_spec {L : List Res} (h : L ≠ []) : minR L ∈ L ∧ ∀ y ∈ L, lessR y (minR L) = false := by
  obtain ⟨x, t, rfl⟩ := List.exists_cons_of_ne_nil h
  obtain ⟨h1, h2, h3⟩ := minR_fold t x
  refine ⟨?_, fun y hy => ?_⟩
  · rcases h1 with h1 | h1
    · show t.foldl _ x ∈ _
      rw [h1]; simp
    · exact List.mem_cons_of_mem _ h1
  · rcases List.mem_cons.1 hy with rfl | hy
    · exact h2
    · exact h3 y hy
theorem minR_eq {L : List Res} {m : Res} (h : m ∈ L) (h2 : ∀ y ∈ L, lessR y m = false) : minR L = m := by
  have h3 := minR_spec (L := L) (by intro e; rw [e] at h; cases h)
  exact lessR_tri (h2 _ h3.1) (h3.2 _ h)
def pl0 : Pl := ⟨0, false⟩
/-- The best result of a tree, its flags and its text. -/
def bestR (wd : Int) (t : Doc) : Res := minR ((ach wd t 0 pl0).map (·.2))
def flagsOf (ch : List UInt8) : List Bool := ch.map fun b => b == 0
def bestF (wd : Int) (t : Doc) : List Bool := flagsOf (bestR wd t).ch
def txt (t : Doc) (fl : List Bool) : List UInt8 := (wrP t 0 false fl st0).out
def bestT (wd : Int) (t : Doc) : List UInt8 := txt t (bestF wd t)
theorem flagsOf_chB (x : List Bool) : flagsOf (chB x) = x := by
  unfold flagsOf chB
  rw [List.map_map]
  conv => rhs; rw [← List.map_id x]
  apply List.map_congr_left
  intro b _
  cases b <;> rfl
theorem chB_len (x : List Bool) : (chB x).length = x.length := List.length_map _
/-- What the laws ask of a tree. -/
structure TOk (t : Doc) : Prop where
  nn : nn t
  lf : noLf t
theorem invS0 : InvS st0 := ⟨rfl, Int.le_refl _, Int.le_refl _⟩
theorem plOf0 : plOf st0 = pl0 := rfl
theorem cB0 {wd : Int} (hw : 0 ≤ wd) : cB wd st0 = 0 := by
  show mx 0 (0 - wd) = 0
  unfold mx; split <;> omega
theorem cL0 (wd : Int) : cL wd st0 = 0 := rfl
/-- The result of a normal choice. -/
def resOf (wd : Int) (t : Doc) (fl : List Bool) : Res := ⟨(costGo wd (txt t fl) 0).1, (costGo wd (txt t fl) 0).2, chB fl⟩
theorem best_list {wd : Int} (hw : 0 ≤ wd) {t : Doc} (h : TOk t) : (ach wd t 0 pl0).map (·.2) = (norm t).map (resOf wd t) := by
  have h1 := (ach_sim hw t 0 st0 h.nn h.lf (Int.le_refl _) invS0).1
  rw [plOf0] at h1
  rw [h1, List.map_map]
  apply List.map_congr_left
  intro fl _
  simp only [Function.comp, outS, cB0 hw, cL0, Int.sub_zero]
  rfl
theorem best_of {wd : Int} (hw : 0 ≤ wd) {t : Doc} (h : TOk t) : bestF wd t ∈ norm t ∧ bestR wd t = resOf wd t (bestF wd t) ∧ ∀ fl ∈ norm t, lessR (resOf wd t fl) (bestR wd t) = false := by
  have hl := best_list hw h
  have hs := minR_spec (L := (ach wd t 0 pl0).map (·.2)) (by rw [hl]; intro e; exact norm_ne t (List.map_eq_nil_iff.1 e))
  rw [hl] at hs
  obtain ⟨h1, h2⟩ := hs
  obtain ⟨fl, hf, he⟩ := List.mem_map.1 h1
  have hb : bestR wd t = resOf wd t fl := by unfold bestR; rw [hl]; exact he.symm
  have hff : bestF wd t = fl := by unfold bestF; rw [hb]; exact flagsOf_chB fl
  rw [hff]
  refine ⟨hf, hb, fun gl hg => ?_⟩
  have := h2 (resOf wd t gl) (List.mem_map.2 ⟨gl, hg, rfl⟩)
  unfold bestR
  rw [hl]; exact this
theorem best_cost {wd : Int} (hw : 0 ≤ wd) {t : Doc} (h : TOk t) : costGo wd (bestT wd t) 0 = ((bestR wd t).b, (bestR wd t).l) := by
  rw [(best_of hw h).2.1]; rfl
/-- A normal choice is possible. -/
theorem flat_wrong : ∀ (t : Doc) (ind : Int) (fl : List Bool) (st : St), hardT t = false → (wrP t ind true fl st).wrong = st.wrong
  | .text s, ind, fl, st, hh => by simp only [wrP]; unfold addT; split; rfl; split <;> rfl
  | .line s, ind, fl, st, hh => by simp only [wrP, if_true]; unfold addT; split; rfl; split <;> rfl
  | .hard, ind, fl, st, hh => by cases hh
  | .seq a b, ind, fl, st, hh => by
    simp only [hardT, Bool.or_eq_false_iff] at hh
    simp only [wrP]
    rw [flat_wrong b _ _ _ hh.2, flat_wrong a _ _ _ hh.1]
  | .nest n a, ind, fl, st, hh => flat_wrong a _ fl st hh
  | .align a, ind, fl, st, hh => flat_wrong a _ fl st hh
  | .group _ a, ind, fl, st, hh => by
    simp only [wrP, Bool.true_or]
    exact flat_wrong a ind fl.tail st hh
theorem norm_wrong : ∀ (t : Doc) (ind : Int) (st : St), ∀ fl ∈ norm t, (wrP t ind false fl st).wrong = st.wrong
  | .text s, ind, st, fl, _ => by simp only [wrP]; unfold addT; split; rfl; split <;> rfl
  | .line s, ind, st, fl, _ => by simp only [wrP, Bool.false_eq_true, if_false]; rfl
  | .hard, ind, st, fl, _ => by simp only [wrP, Bool.or_false]; rfl
  | .seq a b, ind, st, fl, h => by
    simp only [norm, List.mem_flatMap, List.mem_map] at h
    obtain ⟨x, hx, y, hy, rfl⟩ := h
    simp only [wrP]
    rw [← norm_len a x hx, List.take_left, List.drop_left, norm_wrong b _ _ y hy, norm_wrong a _ _ x hx]
  | .nest n a, ind, st, fl, h => norm_wrong a _ st fl h
  | .align a, ind, st, fl, h => norm_wrong a _ st fl h
  | .group _ a, ind, st, fl, h => by
    simp only [norm, List.mem_append, List.mem_map] at h
    rcases h with h | ⟨x, hx, rfl⟩
    · cases hh : hardT a with
      | true => rw [hh] at h; cases h
      | false =>
        rw [hh] at h
        simp only [Bool.false_eq_true, if_false, List.mem_singleton] at h
        rw [h, List.replicate_succ]
        simp only [wrP, List.headD_cons, Bool.or_true]
        exact flat_wrong a _ _ _ hh
    · simp only [wrP, List.headD_cons, Bool.or_false]
      exact norm_wrong a _ _ _ hx
/-- Every possible choice has the text of a normal one. -/
theorem flat_any : ∀ (t : Doc) (ind : Int) (fl gl : List Bool) (st : St), hardT t = false → wrP t ind true fl st = wrP t ind true gl st
  | .text s, ind, fl, gl, st, hh => rfl
  | .line s, ind, fl, gl, st, hh => rfl
  | .hard, ind, fl, gl, st, hh => rfl
  | .seq a b, ind, fl, gl, st, hh => by
    simp only [hardT, Bool.or_eq_false_iff] at hh
    simp only [wrP]
    rw [flat_any a ind (fl.take (ng a)) (gl.take (ng a)) st hh.1, flat_any b ind (fl.drop (ng a)) (gl.drop (ng a)) _ hh.2]
  | .nest n a, ind, fl, gl, st, hh => flat_any a _ fl gl st hh
  | .align a, ind, fl, gl, st, hh => flat_any a _ fl gl st hh
  | .group _ a, ind, fl, gl, st, hh => by
    simp only [wrP, Bool.true_or]
    exact flat_any a ind fl.tail gl.tail st hh
theorem norm_any : ∀ (t : Doc) (fl : List Bool), ∃ x ∈ norm t, ∀ ind st, wrP t ind false (chz (gh t) fl) st = wrP t ind false x st
  | .text s, fl => ⟨[], by simp [norm], fun ind st => rfl⟩
  | .line s, fl => ⟨[], by simp [norm], fun ind st => rfl⟩
  | .hard, fl => ⟨[], by simp [norm], fun ind st => rfl⟩
  | .seq a b, fl => by
    obtain ⟨x, hx, h1⟩ := norm_any a fl
    obtain ⟨y, hy, h2⟩ := norm_any b (fl.drop (gh a).length)
    refine ⟨x ++ y, by simp only [norm, List.mem_flatMap, List.mem_map]; exact ⟨x, hx, y, hy, rfl⟩, fun ind st => ?_⟩
    simp only [wrP, gh]
    rw [chz_append]
    have e : ng a = (chz (gh a) fl).length := by rw [chz_length, gh_length]
    have e2 : ng a = x.length := (norm_len a x hx).symm
    rw [show (chz (gh a) fl ++ chz (gh b) (fl.drop (gh a).length)).take (ng a) = chz (gh a) fl by rw [e, List.take_left],
      show (chz (gh a) fl ++ chz (gh b) (fl.drop (gh a).length)).drop (ng a) = chz (gh b) (fl.drop (gh a).length) by rw [e, List.drop_left],
      show (x ++ y).take (ng a) = x by rw [e2, List.take_left], show (x ++ y).drop (ng a) = y by rw [e2, List.drop_left], h1, h2]
  | .nest n a, fl => by
    obtain ⟨x, hx, h1⟩ := norm_any a fl
    exact ⟨x, hx, fun ind st => h1 _ st⟩
  | .align a, fl => by
    obtain ⟨x, hx, h1⟩ := norm_any a fl
    exact ⟨x, hx, fun ind st => h1 _ st⟩
  | .group _ a, fl => by
    simp only [gh, chz]
    cases hh : hardT a with
    | true =>
      obtain ⟨x, hx, h1⟩ := norm_any a fl.tail
      refine ⟨false :: x, by simp only [norm, List.mem_append, List.mem_map]; exact .inr ⟨x, hx, rfl⟩, fun ind st => ?_⟩
      simp only [wrP, Bool.not_true, Bool.and_false, List.headD_cons, Bool.or_false, List.tail_cons]
      exact h1 ind st
    | false =>
      cases hf : fl.headD false with
      | true =>
        refine ⟨List.replicate (ng a + 1) true, by simp [norm, hh], fun ind st => ?_⟩
        simp only [wrP, Bool.not_false, Bool.and_true, List.headD_cons, Bool.or_true, List.tail_cons, List.replicate_succ]
        exact flat_any a ind _ _ st hh
      | false =>
        obtain ⟨x, hx, h1⟩ := norm_any a fl.tail
        refine ⟨false :: x, by simp only [norm, List.mem_append, List.mem_map]; exact .inr ⟨x, hx, rfl⟩, fun ind st => ?_⟩
        simp only [wrP, Bool.not_false, Bool.and_true, List.headD_cons, Bool.or_false, List.tail_cons]
        exact h1 ind st
theorem er_norm : ∀ t, norm (er t) = norm t
  | .text _ | .line _ | .hard => rfl
  | .seq a b => by simp only [er, norm, er_norm a, er_norm b]
  | .nest _ a | .align a => by simp only [er, norm, er_norm a]
  | .group _ a => by simp only [er, norm, er_norm a, er_hard, er_ng]
theorem er_fpl : ∀ t p, fpl (er t) p = fpl t p
  | .text _, p | .line _, p | .hard, p => rfl
  | .seq a b, p => by simp only [er, fpl, er_fpl a, er_fpl b]
  | .nest _ a, p | .align a, p | .group _ a, p => by simp only [er, fpl, er_fpl a]
theorem er_ach (wd : Int) : ∀ t ind p, ach wd (er t) ind p = ach wd t ind p
  | .text _, ind, p | .line _, ind, p | .hard, ind, p => rfl
  | .seq a b, ind, p => by
    simp only [er, ach, er_ach wd a]
    refine flatMap_cong _ _ _ ?_
    intro x _
    rw [er_ach wd b]
  | .nest _ a, ind, p | .align a, ind, p => by simp only [er, ach, er_ach wd a]
  | .group _ a, ind, p => by simp only [er, ach, er_ach wd a, er_hard, er_ng, er_fpl]
theorem er_nn : ∀ t, nn (er t) ↔ nn t
  | .text _ | .line _ | .hard => Iff.rfl
  | .seq a b => by simp only [er, nn, er_nn a, er_nn b]
  | .nest _ a | .align a | .group _ a => by simp only [er, nn, er_nn a]
theorem er_noLf : ∀ t, noLf (er t) ↔ noLf t
  | .text _ | .line _ | .hard => Iff.rfl
  | .seq a b => by simp only [er, noLf, er_noLf a, er_noLf b]
  | .nest _ a | .align a | .group _ a => by simp only [er, noLf, er_noLf a]
theorem idx_no : ∀ (s : List UInt8), Lib.indexByte s 10 < 0 → ∀ c ∈ s, c ≠ 10
  | [], _, c, h => by cases h
  | x :: s, h, c, hc => by
    simp only [Lib.indexByte] at h
    split at h
    · omega
    · rename_i hx
      rcases List.mem_cons.1 hc with rfl | hc
      · simpa using hx
      · refine idx_no s ?_ c hc
        split at h
        · rename_i h2
          have h3 : Lib.indexByte s 10 = -1 := by simpa using h2
          omega
        · have := Lib.indexByte_ge s 10
          omega
theorem tree_noLf {l : List S42} (hv : nodesOk l) : ∀ i, i < l.length → noLf (tree l i) := by
  intro i
  induction i using Nat.strongRecOn with
  | _ i ih =>
    intro hi
    have hk := hv i hi
    have hkd := hk.kind
    have ha := hk.a
    have hb := hk.b
    rcases (show (l.getD i z42).f0 = 0 ∨ (l.getD i z42).f0 = 1 ∨ (l.getD i z42).f0 = 2 ∨ (l.getD i z42).f0 = 3 ∨ (l.getD i z42).f0 = 4 ∨ (l.getD i z42).f0 = 5 ∨ (l.getD i z42).f0 = 6 by omega) with h4 | h4 | h4 | h4 | h4 | h4 | h4
    · rw [tree_text h4]; exact idx_no _ hk.nl
    · rw [tree_line h4]; exact idx_no _ hk.nl
    · rw [tree_hard h4]; trivial
    · have := ha (by omega); have := hb h4
      rw [tree_seq hv hi h4]; exact ⟨ih _ (by omega) (by omega), ih _ (by omega) (by omega)⟩
    · have := ha (by omega)
      rw [tree_nest hv hi h4]; exact ih _ (by omega) (by omega)
    · have := ha (by omega)
      rw [tree_align hv hi h4]; exact ih _ (by omega) (by omega)
    · have := ha (by omega)
      rw [tree_group hv hi h4]; exact ih _ (by omega) (by omega)
theorem good_tok {l : List S42} (h : Good l) : TOk (E l) := by
  have hp := h.pos
  exact ⟨(er_nn _).2 (nn_tree h.ok _ (by omega)), (er_noLf _).2 (tree_noLf h.ok _ (by omega))⟩
end Go.Proofs.Ythmmdmnbcecooaa.A
end

section
namespace Go.Proofs.Ythmmdmnbcecooaa.A
open Go.RowKit Go.Proofs.YthmmdmnbcecooaaW.PrintWords Go.Proofs.YthmmdmnbcecooaaW.PrintLast Go.Proofs.YthmmdmnbcecooaaW.PrintMore
set_option linter.unusedVariables false
set_option linter.unusedSimpArgs false
theorem rnd_norm (t : Doc) (fl : List Bool) : ∃ x ∈ norm t, rnd t fl = txt t x := by
  obtain ⟨x, hx, h⟩ := norm_any t fl
  exact ⟨x, hx, by unfold rnd txt; rw [h]⟩
theorem not_less {x y : Res} (h : lessR x y = false) : ¬ (x.b < y.b) ∧ ¬ (x.b = y.b ∧ x.l < y.l) := by
  constructor
  · intro e
    have := (lessR_iff x y).2 (.inl e)
    rw [h] at this; cases this
  · intro e
    have := (lessR_iff x y).2 (.inr ⟨e.1, .inl e.2⟩)
    rw [h] at this; cases this
theorem best_least {wd : Int} (hw : 0 ≤ wd) {t : Doc} (h : TOk t) (fl : List Bool) :
    ¬ ((costGo wd (rnd t fl) 0).1 < (bestR wd t).b) ∧ ¬ ((costGo wd (rnd t fl) 0).1 = (bestR wd t).b ∧ (costGo wd (rnd t fl) 0).2 < (bestR wd t).l) := by
  obtain ⟨x, hx, e⟩ := rnd_norm t fl
  rw [e]
  exact not_less ((best_of hw h).2.2 x hx)
theorem mx_mono {a b : Int} (h : a ≤ b) : mx 0 a ≤ mx 0 b := by unfold mx; split <;> split <;> omega
theorem cost_wider {v w : Int} (hvw : v ≤ w) : ∀ (s : List UInt8) (n : Int), (costGo w s n).1 ≤ (costGo v s n).1 ∧ (costGo w s n).2 = (costGo v s n).2
  | [], n => ⟨mx_mono (by omega), rfl⟩
  | c :: s, n => by
    simp only [costGo]
    split
    · obtain ⟨h1, h2⟩ := cost_wider hvw s 0
      have := mx_mono (show n - w ≤ n - v by omega)
      simp only
      omega
    · exact cost_wider hvw s (n + 1)
theorem best_wider {v w : Int} (hv : 0 ≤ v) (hvw : v ≤ w) {t : Doc} (h : TOk t) :
    (bestR w t).b ≤ (bestR v t).b ∧ ((bestR v t).b = 0 → (bestR w t).l ≤ (bestR v t).l) := by
  obtain ⟨h1, h2, h3⟩ := best_of hv h
  obtain ⟨g1, g2, g3⟩ := best_of (show 0 ≤ w by omega) h
  have k := not_less (g3 _ h1)
  obtain ⟨c1, c2⟩ := cost_wider hvw (txt t (bestF v t)) 0
  have hb : (bestR v t).b = (costGo v (txt t (bestF v t)) 0).1 := by rw [h2]; rfl
  have hl : (bestR v t).l = (costGo v (txt t (bestF v t)) 0).2 := by rw [h2]; rfl
  have e1 : (resOf w t (bestF v t)).b = (costGo w (txt t (bestF v t)) 0).1 := rfl
  have e2 : (resOf w t (bestF v t)).l = (costGo w (txt t (bestF v t)) 0).2 := rfl
  have p1 := (costGo_bounds w (by omega) (txt t (bestF w t)) 0 (by omega)).1
  have gb : (bestR w t).b = (costGo w (txt t (bestF w t)) 0).1 := by rw [g2]; rfl
  rw [e1, e2] at k
  constructor
  · omega
  · intro hz
    omega
theorem wrong_mono : ∀ (t : Doc) (ind : Int) (flat : Bool) (fl : List Bool) (st : St), st.wrong = true → (wrP t ind flat fl st).wrong = true
  | .text s, ind, flat, fl, st, h => by simp only [wrP]; unfold addT; split; exact h; split <;> exact h
  | .line s, ind, flat, fl, st, h => by
    simp only [wrP]
    split
    · unfold addT; split; exact h; split <;> exact h
    · exact h
  | .hard, ind, flat, fl, st, h => by simp only [wrP, feedT, h, Bool.true_or]
  | .seq a b, ind, flat, fl, st, h => wrong_mono b _ _ _ _ (wrong_mono a _ _ _ _ h)
  | .nest n a, ind, flat, fl, st, h => wrong_mono a _ _ _ _ h
  | .align a, ind, flat, fl, st, h => wrong_mono a _ _ _ _ h
  | .group _ a, ind, flat, fl, st, h => wrong_mono a _ _ _ _ h
theorem flat_hardw : ∀ (t : Doc) (ind : Int) (fl : List Bool) (st : St), hardT t = true → (wrP t ind true fl st).wrong = true
  | .text s, ind, fl, st, h => by cases h
  | .line s, ind, fl, st, h => by cases h
  | .hard, ind, fl, st, h => by simp only [wrP, feedT, Bool.or_true]
  | .seq a b, ind, fl, st, h => by
    simp only [hardT, Bool.or_eq_true] at h
    rcases h with h | h
    · exact wrong_mono b _ _ _ _ (flat_hardw a _ _ _ h)
    · exact flat_hardw b _ _ _ h
  | .nest n a, ind, fl, st, h => flat_hardw a _ _ _ h
  | .align a, ind, fl, st, h => flat_hardw a _ _ _ h
  | .group _ a, ind, fl, st, h => by
    simp only [wrP, Bool.true_or]
    exact flat_hardw a _ _ _ h
theorem all_norm : ∀ (t : Doc) (ind : Int) (st : St), (wrP t ind false (List.replicate (ng t) true) st).wrong = false → List.replicate (ng t) true ∈ norm t
  | .text s, ind, st, h => by simp [norm, ng]
  | .line s, ind, st, h => by simp [norm, ng]
  | .hard, ind, st, h => by simp [norm, ng]
  | .seq a b, ind, st, h => by
    simp only [wrP, ng] at h
    have e : List.replicate (ng a + ng b) true = List.replicate (ng a) true ++ List.replicate (ng b) true := by simp
    have l1 : (List.replicate (ng a) true).length = ng a := by simp
    rw [e, show (List.replicate (ng a) true ++ List.replicate (ng b) true).take (ng a) = List.replicate (ng a) true by rw [List.take_left' l1],
      show (List.replicate (ng a) true ++ List.replicate (ng b) true).drop (ng a) = List.replicate (ng b) true by rw [List.drop_left' l1]] at h
    have hb := all_norm b _ _ h
    have ha := all_norm a ind st (by
      rw [Bool.eq_false_iff]
      intro hc
      rw [wrong_mono b _ _ _ _ hc] at h
      cases h)
    simp only [norm, ng, List.mem_flatMap, List.mem_map]
    exact ⟨_, ha, _, hb, e.symm⟩
  | .nest n a, ind, st, h => all_norm a _ _ h
  | .align a, ind, st, h => all_norm a _ _ h
  | .group _ a, ind, st, h => by
    simp only [wrP, ng, List.replicate_succ, List.headD_cons, Bool.or_true] at h
    cases hh : hardT a with
    | true => rw [flat_hardw a _ _ _ hh] at h; cases h
    | false => simp [norm, ng, hh]
theorem bl_zero : ∀ (x : List UInt8) (n : Nat), n ≤ x.length → Op.bytesLess x (List.replicate n 0) = false
  | [], n, h => by simp at h; subst h; rfl
  | c :: x, 0, h => rfl
  | c :: x, n + 1, h => by
    simp only [List.replicate_succ, Op.bytesLess, bl_zero x n (by simpa using h), Bool.and_false, Bool.or_false]
    rw [decide_eq_false_iff_not]
    exact UInt8.not_lt_zero
theorem best_flat {wd : Int} (hw : 0 ≤ wd) {t : Doc} (h : TOk t) (hr : (wrP t 0 false (List.replicate (ng t) true) st0).wrong = false)
    (hl : (costGo 1000 (txt t (List.replicate (ng t) true)) 0).2 = 0) (hlen : ((txt t (List.replicate (ng t) true)).length : Int) ≤ wd) :
    bestF wd t = List.replicate (ng t) true ∧ (bestR wd t).b = 0 ∧ (bestR wd t).l = 0 := by
  have hn := all_norm t 0 st0 hr
  have key : ∀ (s : List UInt8) (n : Int), 0 ≤ n → (costGo 1000 s n).2 = 0 → ∀ c ∈ s, c ≠ 10 := by
    intro s
    induction s with
    | nil => intro n _ _ c hc; cases hc
    | cons x s ih =>
      intro n hn0 he c hc
      simp only [costGo] at he
      split at he
      · have := (costGo_bounds 1000 (by decide) s 0 (by omega)).2.2.1
        simp only at he
        omega
      · rename_i hx
        rcases List.mem_cons.1 hc with rfl | hc
        · exact hx
        · exact ih (n + 1) (by omega) he c hc
  have hno := key _ 0 (by omega) hl
  have hc := cost_no wd _ 0 hno
  have hres : resOf wd t (List.replicate (ng t) true) = ⟨0, 0, chB (List.replicate (ng t) true)⟩ := by
    unfold resOf
    rw [hc]
    have : mx 0 (0 + ((txt t (List.replicate (ng t) true)).length : Int) - wd) = 0 := by unfold mx; split <;> omega
    rw [this]
  have hb : bestR wd t = ⟨0, 0, chB (List.replicate (ng t) true)⟩ := by
    unfold bestR
    rw [best_list hw h]
    refine minR_eq (List.mem_map.2 ⟨_, hn, hres⟩) ?_
    intro y hy
    obtain ⟨fl, hf, rfl⟩ := List.mem_map.1 hy
    rw [Bool.eq_false_iff]
    intro hc
    rw [lessR_iff] at hc
    obtain ⟨c1, _, c3, _⟩ := costGo_bounds wd hw (txt t fl) 0 (by omega)
    simp only [resOf] at hc
    rcases hc with hc | ⟨_, hc | ⟨_, hc⟩⟩
    · omega
    · omega
    · have : chB (List.replicate (ng t) true) = List.replicate (ng t) 0 := by simp [chB]
      rw [this, bl_zero _ _ (by rw [chB_len, norm_len t fl hf]; exact Nat.le_refl _)] at hc
      cases hc
  refine ⟨?_, by rw [hb], by rw [hb]⟩
  unfold bestF
  rw [hb]
  exact flagsOf_chB _
theorem Res.cat_assoc (x y z : Res) : (x.cat y).cat z = x.cat (y.cat z) := by
  simp only [Res.cat, List.append_assoc]
  congr 1 <;> omega
theorem Res.cat_zero (x : Res) : x.cat ⟨0, 0, []⟩ = x := by
  simp only [Res.cat, List.append_nil, Int.add_zero]
theorem Res.zero_cat (x : Res) : (⟨0, 0, []⟩ : Res).cat x = x := by
  simp only [Res.cat, List.nil_append, Int.zero_add]
theorem ach_assoc (wd : Int) (a b c : Doc) (ind : Int) (p : Pl) : ach wd (.seq (.seq a b) c) ind p = ach wd (.seq a (.seq b c)) ind p := by
  simp only [ach, List.flatMap_assoc, List.flatMap_map, List.map_flatMap, List.map_map]
  refine flatMap_cong _ _ _ ?_
  intro x _
  refine flatMap_cong _ _ _ ?_
  intro y _
  apply List.map_congr_left
  intro z _
  simp only [Function.comp, Res.cat_assoc]
theorem ach_text0 (wd : Int) (ind : Int) (p : Pl) : ach wd (.text ⟨#[]⟩) ind p = [(p, ⟨0, 0, []⟩)] := by
  simp only [ach, wpl, if_true, Int.sub_self]
theorem ach_pad (wd : Int) (s : Doc) (ind : Int) (p : Pl) : ach wd (.seq (.text ⟨#[]⟩) (.nest 0 (.seq s (.text ⟨#[]⟩)))) ind p = ach wd s ind p := by
  simp only [ach, wpl, if_true, Int.sub_self, Int.add_zero, List.flatMap_cons, List.flatMap_nil, List.append_nil, Res.cat_zero, Res.zero_cat, List.map_cons, List.map_nil]
  rw [List.map_flatMap]
  simp only [List.map_cons, List.map_nil]
  induction ach wd s ind p with
  | nil => rfl
  | cons x t ih => rw [List.flatMap_cons, ih]; rfl
theorem wr_assoc (a b c : Doc) (ind : Int) (flat : Bool) (fl : List Bool) (st : St) : wrP (.seq (.seq a b) c) ind flat fl st = wrP (.seq a (.seq b c)) ind flat fl st := by
  simp only [wrP, ng]
  rw [List.take_take, Nat.min_eq_left (Nat.le_add_right _ _), List.drop_take, Nat.add_sub_cancel_left, List.drop_drop]
theorem wr_pad (s : Doc) (ind : Int) (flat : Bool) (fl : List Bool) (st : St) (h : fl.length = ng s) : wrP (.seq (.text ⟨#[]⟩) (.nest 0 (.seq s (.text ⟨#[]⟩)))) ind flat fl st = wrP s ind flat fl st := by
  have e : ∀ st : St, addT st (⟨#[]⟩ : ByteArray).data.toList = st := fun st => rfl
  simp only [wrP, ng, List.drop_zero, e, Int.add_zero]
  rw [List.take_of_length_le (by omega)]
theorem best_assoc (wd : Int) (a b c : Doc) : bestR wd (.seq (.seq a b) c) = bestR wd (.seq a (.seq b c)) ∧ bestT wd (.seq (.seq a b) c) = bestT wd (.seq a (.seq b c)) := by
  have h : bestR wd (.seq (.seq a b) c) = bestR wd (.seq a (.seq b c)) := by unfold bestR; rw [ach_assoc]
  refine ⟨h, ?_⟩
  unfold bestT bestF txt
  rw [h, wr_assoc]
theorem best_pad {wd : Int} (hw : 0 ≤ wd) {s : Doc} (hs : TOk s) : bestR wd (.seq (.text ⟨#[]⟩) (.nest 0 (.seq s (.text ⟨#[]⟩)))) = bestR wd s ∧ bestT wd (.seq (.text ⟨#[]⟩) (.nest 0 (.seq s (.text ⟨#[]⟩)))) = bestT wd s := by
  have h : bestR wd (.seq (.text ⟨#[]⟩) (.nest 0 (.seq s (.text ⟨#[]⟩)))) = bestR wd s := by unfold bestR; rw [ach_pad]
  refine ⟨h, ?_⟩
  have hf : bestF wd (.seq (.text ⟨#[]⟩) (.nest 0 (.seq s (.text ⟨#[]⟩)))) = bestF wd s := by unfold bestF; rw [h]
  unfold bestT txt
  rw [hf, wr_pad _ _ _ _ _ (norm_len s _ (best_of hw hs).1)]
theorem wr_out : ∀ (t : Doc) (ind : Int) (flat : Bool) (fl : List Bool) (st : St) (o : List UInt8), wrP t ind flat fl ⟨o ++ st.out, st.col, st.pend, st.wrong⟩ = ⟨o ++ (wrP t ind flat fl st).out, (wrP t ind flat fl st).col, (wrP t ind flat fl st).pend, (wrP t ind flat fl st).wrong⟩ := by
  have hadd : ∀ (s : List UInt8) (st : St) (o : List UInt8), addT ⟨o ++ st.out, st.col, st.pend, st.wrong⟩ s = ⟨o ++ (addT st s).out, (addT st s).col, (addT st s).pend, (addT st s).wrong⟩ := by
    intro s st o
    unfold addT
    by_cases h0 : s = []
    · simp [h0]
    · rw [if_neg h0, if_neg h0]
      by_cases h1 : st.col = 0
      · simp [h1]
      · simp [h1]
  intro t
  induction t with
  | text s => intro ind flat fl st o; exact hadd _ st o
  | line s =>
    intro ind flat fl st o
    cases flat with
    | true => exact hadd _ st o
    | false => simp [wrP, feedT]
  | hard => intro ind flat fl st o; simp [wrP, feedT]
  | seq a b iha ihb =>
    intro ind flat fl st o
    simp only [wrP]
    rw [iha, ihb]
  | nest n a ih => intro ind flat fl st o; simp only [wrP]; exact ih _ _ _ _ _
  | align a ih => intro ind flat fl st o; simp only [wrP]; exact ih _ _ _ _ _
  | group i a ih => intro ind flat fl st o; simp only [wrP]; exact ih _ _ _ _ _
theorem best_lines {wd : Int} (hw : 0 ≤ wd) {a b : Doc} (ha : TOk a) (hb : TOk b) :
    bestT wd (.seq a (.seq .hard b)) = bestT wd a ++ 10 :: bestT wd b ∧ (bestR wd (.seq a (.seq .hard b))).b = (bestR wd a).b + (bestR wd b).b ∧ (bestR wd (.seq a (.seq .hard b))).l = (bestR wd a).l + (bestR wd b).l + 1 := by
  obtain ⟨a1, a2, a3⟩ := best_of hw ha
  obtain ⟨b1, b2, b3⟩ := best_of hw hb
  have hA := best_list hw ha
  have hB := best_list hw hb
  have hlist : (ach wd (.seq a (.seq .hard b)) 0 pl0).map (·.2) = ((ach wd a 0 pl0).map (·.2)).flatMap fun x => ((ach wd b 0 pl0).map (·.2)).map fun y => x.cat ((⟨0, 1, []⟩ : Res).cat y) := by
    simp only [ach, List.flatMap_cons, List.flatMap_nil, List.append_nil, List.map_flatMap, List.flatMap_map, List.map_map]
    rfl
  have hbest : bestR wd (.seq a (.seq .hard b)) = (bestR wd a).cat ((⟨0, 1, []⟩ : Res).cat (bestR wd b)) := by
    unfold bestR
    rw [hlist]
    have sa := minR_spec (L := (ach wd a 0 pl0).map (·.2)) (by rw [hA]; intro e; exact norm_ne a (List.map_eq_nil_iff.1 e))
    have sb := minR_spec (L := (ach wd b 0 pl0).map (·.2)) (by rw [hB]; intro e; exact norm_ne b (List.map_eq_nil_iff.1 e))
    have len : ∀ x ∈ (ach wd a 0 pl0).map (·.2), x.ch.length = ng a := fun x hx => by
      obtain ⟨⟨q, r⟩, hq, rfl⟩ := List.mem_map.1 hx
      exact ach_ch wd a 0 pl0 q r hq
    refine minR_eq (List.mem_flatMap.2 ⟨_, sa.1, List.mem_map.2 ⟨_, sb.1, rfl⟩⟩) ?_
    intro y hy
    obtain ⟨x, hx, hy⟩ := List.mem_flatMap.1 hy
    obtain ⟨z, hz, rfl⟩ := List.mem_map.1 hy
    exact cat_mono (by rw [len _ sa.1, len _ hx]) (sa.2 x hx) (cat_mono rfl (lessR_irrefl _) (sb.2 z hz))
  have hF : bestF wd (.seq a (.seq .hard b)) = bestF wd a ++ bestF wd b := by
    unfold bestF
    rw [hbest]
    simp only [Res.cat, List.nil_append, flagsOf, List.map_append]
  refine ⟨?_, ?_, ?_⟩
  · unfold bestT txt
    rw [hF]
    have l1 := norm_len a _ a1
    simp only [wrP, ng]
    rw [List.take_left' l1, List.drop_left' l1, List.drop_zero]
    have hwr : (wrP a 0 false (bestF wd a) st0).wrong = false := norm_wrong a 0 st0 _ a1
    have e : feedT { (wrP a 0 false (bestF wd a) st0) with wrong := (wrP a 0 false (bestF wd a) st0).wrong || false } 0 = ⟨((wrP a 0 false (bestF wd a) st0).out ++ [10]) ++ st0.out, st0.col, st0.pend, st0.wrong⟩ := by
      unfold feedT
      simp only [hwr]
      simp [st0]
    rw [e, wr_out b 0 false (bestF wd b) st0]
    simp
  · rw [hbest]; simp only [Res.cat]; omega
  · rw [hbest]; simp only [Res.cat]; omega
structure FillI (wd : Int) (t : Doc) (lines col : Int) : Prop where
  wit : ∃ r, (⟨col, true⟩, r) ∈ ach wd t 0 pl0 ∧ r.b = 0 ∧ r.l = lines
  all : ∀ q r, (q, r) ∈ ach wd t 0 pl0 → q.wr = true ∧ 0 ≤ q.col ∧ cst wd q ≤ r.b ∧ (r.b = 0 → lines < r.l ∨ lines = r.l ∧ col ≤ q.col)
def gapT (sp : ByteArray) : Doc := .group 0 (.line sp)
theorem cst_tt {wd c : Int} : cst wd ⟨c, true⟩ = mx 0 (c - wd) := rfl
theorem fill_step {wd : Int} (hw : 9 ≤ wd) {t : Doc} {lines col : Int} (h : FillI wd t lines col) (hcol : 0 ≤ col) (sp s : ByteArray) (hsp : sp.data.toList.length = 1) {n : Nat} (hs : s.data.toList.length = n) (hn : 1 ≤ n ∧ n ≤ 9) :
    FillI wd (.seq (.seq t (gapT sp)) (.text s)) (if col + 1 + n ≤ wd then lines else lines + 1) (if col + 1 + n ≤ wd then col + 1 + n else n) := by
  have hs0 : ¬ s.data.toList = [] := by intro e; rw [e] at hs; simp at hs; omega
  have hsp0 : ¬ sp.data.toList = [] := by intro e; rw [e] at hsp; simp at hsp
  have hach : ∀ q r, (q, r) ∈ ach wd (.seq (.seq t (gapT sp)) (.text s)) 0 pl0 ↔ ∃ q0 r0, (q0, r0) ∈ ach wd t 0 pl0 ∧
      ((q = ⟨q0.col + 1 + n, true⟩ ∧ r = ⟨r0.b + (cst wd ⟨q0.col + 1, true⟩ - cst wd q0) + (cst wd ⟨q0.col + 1 + n, true⟩ - cst wd ⟨q0.col + 1, true⟩), r0.l + 0 + 0, r0.ch ++ [0] ++ []⟩) ∨
       (q = ⟨0 + n, true⟩ ∧ r = ⟨r0.b + 0 + (cst wd ⟨0 + n, true⟩ - cst wd ⟨0, false⟩), r0.l + 1 + 0, r0.ch ++ [1] ++ []⟩)) := by
    intro q r
    simp only [gapT, ach, fpl, wpl, hardT, if_neg hs0, if_neg hsp0, hs, hsp, Bool.false_eq_true, if_false, List.mem_flatMap, List.mem_map, List.map_cons, List.map_nil, List.cons_append, List.nil_append, List.mem_cons, List.not_mem_nil, or_false, Prod.exists, Res.cat, Res.grp, Prod.mk.injEq, ng]
    constructor
    · rintro ⟨q1, r1, ⟨q0, r0, h0, h2⟩, rfl, rfl⟩
      rcases h2 with ⟨rfl, rfl⟩ | ⟨rfl, rfl⟩
      · exact ⟨q0, r0, h0, .inl ⟨rfl, rfl⟩⟩
      · exact ⟨q0, r0, h0, .inr ⟨rfl, rfl⟩⟩
    · rintro ⟨q0, r0, h0, ⟨rfl, rfl⟩ | ⟨rfl, rfl⟩⟩
      · exact ⟨_, _, ⟨q0, r0, h0, .inl ⟨rfl, rfl⟩⟩, rfl, rfl⟩
      · exact ⟨_, _, ⟨q0, r0, h0, .inr ⟨rfl, rfl⟩⟩, rfl, rfl⟩
  have c9 : cst wd ⟨0 + (n : Int), true⟩ = 0 := by rw [cst_tt]; unfold mx; split <;> omega
  have c0 : cst wd ⟨0, false⟩ = 0 := by unfold cst mx; simp only [Bool.false_eq_true, if_false]; split <;> omega
  obtain ⟨⟨r0, w1, w2, w3⟩, hall⟩ := h
  constructor
  · by_cases hf : col + 1 + n ≤ wd
    · rw [if_pos hf, if_pos hf]
      refine ⟨_, (hach _ _).2 ⟨_, _, w1, .inl ⟨rfl, rfl⟩⟩, ?_, ?_⟩
      · have := (hall _ _ w1).2.2.1
        have e1 : cst wd ⟨col, true⟩ = 0 := by rw [cst_tt]; unfold mx; split <;> omega
        have e2 : cst wd ⟨col + 1 + n, true⟩ = 0 := by rw [cst_tt]; unfold mx; split <;> omega
        simp only [e1, e2]
        omega
      · simp only; omega
    · rw [if_neg hf, if_neg hf]
      refine ⟨⟨r0.b + 0 + (cst wd ⟨0 + n, true⟩ - cst wd ⟨0, false⟩), r0.l + 1 + 0, r0.ch ++ [1] ++ []⟩, (hach _ _).2 ⟨_, r0, w1, .inr ⟨by rw [Int.zero_add], rfl⟩⟩, ?_, ?_⟩
      · simp only [c9, c0]; omega
      · simp only; omega
  · intro q r hm
    obtain ⟨q0, r1, hm0, hm1⟩ := (hach q r).1 hm
    obtain ⟨p1, p2, p3, p4⟩ := hall q0 r1 hm0
    have e0 : cst wd q0 = mx 0 (q0.col - wd) := by unfold cst; rw [p1]; rfl
    have m1 := mx_mono (show q0.col - wd ≤ q0.col + 1 + n - wd by omega)
    have z0 : (0 : Int) ≤ mx 0 (q0.col - wd) := by unfold mx; split <;> omega
    rcases hm1 with ⟨rfl, rfl⟩ | ⟨rfl, rfl⟩
    · refine ⟨rfl, by simp only; omega, by simp only; omega, fun hb => ?_⟩
      simp only [cst_tt] at hb ⊢
      rw [e0] at hb p3
      have q1 : mx 0 (q0.col + 1 + n - wd) = 0 := by omega
      have q2 : q0.col + 1 + n ≤ wd := by
        unfold mx at q1
        split at q1 <;> omega
      have q3 : r1.b = 0 := by omega
      have := p4 q3
      split <;> omega
    · refine ⟨rfl, by simp only; omega, by simp only [c9, c0]; omega, fun hb => ?_⟩
      simp only [c9, c0] at hb ⊢
      have := p4 (by omega)
      split <;> omega
theorem fill_first {wd : Int} (hw : 9 ≤ wd) (s : ByteArray) {n : Nat} (hs : s.data.toList.length = n) (hn : 1 ≤ n ∧ n ≤ 9) : FillI wd (.seq (.text ⟨#[]⟩) (.text s)) 0 n := by
  have hs0 : ¬ s.data.toList = [] := by intro e; rw [e] at hs; simp at hs; omega
  have c9 : cst wd ⟨0 + (n : Int), true⟩ = 0 := by rw [cst_tt]; unfold mx; split <;> omega
  have c0 : cst wd ⟨0, false⟩ = 0 := by unfold cst mx; simp only [Bool.false_eq_true, if_false]; split <;> omega
  have e : ach wd (.seq (.text ⟨#[]⟩) (.text s)) 0 pl0 = [(⟨n, true⟩, ⟨0, 0, []⟩)] := by
    simp only [ach, wpl, if_true, Int.sub_self, if_neg hs0, hs, List.flatMap_cons, List.flatMap_nil, List.append_nil, Res.cat_zero, Res.zero_cat, List.map_cons, List.map_nil, pl0]
    rw [c9, c0, Int.zero_add]; rfl
  constructor
  · rw [e]; exact ⟨⟨0, 0, []⟩, by simp, rfl, rfl⟩
  · rw [e]
    intro q r hm
    simp only [List.mem_singleton, Prod.mk.injEq] at hm
    obtain ⟨rfl, rfl⟩ := hm
    rw [Int.zero_add] at c9
    exact ⟨rfl, by simp only; omega, by simp only [c9]; omega, fun _ => .inr ⟨rfl, Int.le_refl _⟩⟩
theorem fill_best {wd : Int} {t : Doc} {lines col : Int} (h : FillI wd t lines col) : (bestR wd t).b = 0 ∧ (bestR wd t).l = lines := by
  obtain ⟨⟨r0, w1, w2, w3⟩, hall⟩ := h
  have hs := minR_spec (L := (ach wd t 0 pl0).map (·.2)) (by intro e; rw [List.map_eq_nil_iff] at e; rw [e] at w1; cases w1)
  obtain ⟨⟨q, r⟩, hm, he⟩ := List.mem_map.1 hs.1
  have hb : bestR wd t = r := he.symm
  rw [hb]
  have k := not_less (hs.2 r0 (List.mem_map.2 ⟨_, w1, rfl⟩))
  rw [← he] at k
  simp only at k
  obtain ⟨p1, p2, p3, p4⟩ := hall q r hm
  have e0 : cst wd q = mx 0 (q.col - wd) := by unfold cst; rw [p1]; rfl
  have z0 : (0 : Int) ≤ mx 0 (q.col - wd) := by unfold mx; split <;> omega
  have hz : r.b = 0 := by omega
  have := p4 hz
  exact ⟨hz, by omega⟩
end Go.Proofs.Ythmmdmnbcecooaa.A
end

section
namespace Go.Proofs.Ythmmdmnbcecooaa.A
open Go.RowKit Go.Proofs.YthmmdmnbcecooaaW.PrintWords Go.Proofs.YthmmdmnbcecooaaW.PrintLast Go.Proofs.YthmmdmnbcecooaaW.PrintMore
attribute [local go_sem] max2_int max_two
set_option linter.unusedVariables false
set_option linter.unusedSimpArgs false
def CostPost (s : ByteArray) (wd : Int) (w : World) (e : Ending) (w' : World) : Prop :=
  e = .returned (.agg #[.int .i64 (costGo wd s.data.toList 0).1, .int .i64 (costGo wd s.data.toList 0).2]) ∧ Below w.heap.size w w'
theorem cut_step {t : ByteArray} {i : Nat} (h : Lib.indexByte t.data.toList 10 = i) (wd : Int) :
    i + 1 ≤ t.size ∧ costGo wd t.data.toList 0 = (mx 0 (i - wd) + (costGo wd (t.extract (i + 1) t.size).data.toList 0).1, (costGo wd (t.extract (i + 1) t.size).data.toList 0).2 + 1) ∧ (t.extract (i + 1) t.size).size + (i + 1) = t.size ∧ (t.extract 0 i).size = i := by
  have hi : i + 1 ≤ t.size := by
    have h1 := (Lib.indexByte_some h).1
    have := (List.getElem?_eq_some_iff.1 h1).1
    rw [data_length] at this
    omega
  refine ⟨hi, ?_, ?_, ?_⟩
  · rw [costGo_hit wd _ 0 i h, Int.zero_add]
    have hd : (t.extract (i + 1) t.size).data.toList = t.data.toList.drop (i + 1) := by
      rw [ByteArray.data_extract]
      simp
      apply List.take_of_length_le
      rw [List.length_drop, data_length]
      exact Nat.le_refl _
    rw [hd]
  · simp; omega
  · simp; omega
theorem cost_next {w wr : World} {b l : Int} (hr : wr.heap[w.heap.size]? = some (.cells #[.int .i64 0, .int .i64 0] 36 (0, 0))) (hc : wr.heap[w.heap.size + 1]? = some (.cells #[.int .i64 b, .int .i64 l] 36 (0, 0))) (hB : Below w.heap.size w wr) (n : Nat) (x l' : Int) :
    (((wr.drewN n).setCell ⟨w.heap.size + 1, 0, none⟩ (.int .i64 x)).setCell ⟨w.heap.size + 1, 1, none⟩ (.int .i64 l')).heap[w.heap.size]? = some (.cells #[.int .i64 0, .int .i64 0] 36 (0, 0)) ∧
    (((wr.drewN n).setCell ⟨w.heap.size + 1, 0, none⟩ (.int .i64 x)).setCell ⟨w.heap.size + 1, 1, none⟩ (.int .i64 l')).heap[w.heap.size + 1]? = some (.cells #[.int .i64 x, .int .i64 l'] 36 (0, 0)) ∧
    Below w.heap.size w (((wr.drewN n).setCell ⟨w.heap.size + 1, 0, none⟩ (.int .i64 x)).setCell ⟨w.heap.size + 1, 1, none⟩ (.int .i64 l')) := by
  refine ⟨blk_far (blk_far (blk_drewN hr n) (p := ⟨w.heap.size + 1, 0, none⟩) (by simp) _) (p := ⟨w.heap.size + 1, 1, none⟩) (by simp) _, blk_put (cs := #[.int .i64 x, .int .i64 l]) (blk_put (cs := #[.int .i64 b, .int .i64 l]) (blk_drewN hc n) 0 _ rfl) 1 _ rfl, ?_⟩
  exact ((pw_below_drewN hB n).setCell (p := ⟨w.heap.size + 1, 0, none⟩) (by simp) _).setCell (p := ⟨w.heap.size + 1, 1, none⟩) (by simp) _
theorem ret_agg2 {a b c d : Int} (h : a = c) (k : b = d) : Ending.returned (.agg #[.int .i64 a, .int .i64 b]) = .returned (.agg #[.int .i64 c, .int .i64 d]) := by rw [h, k]
theorem cost_end {w wr : World} {b l : Int} (hr : wr.heap[w.heap.size]? = some (.cells #[.int .i64 0, .int .i64 0] 36 (0, 0))) (hc : wr.heap[w.heap.size + 1]? = some (.cells #[.int .i64 b, .int .i64 l] 36 (0, 0))) (hB : Below w.heap.size w wr) (n : Nat) (x l' : Int) :
    ((((wr.drewN n).setCell ⟨w.heap.size + 1, 0, none⟩ (.int .i64 x)).setCell ⟨w.heap.size, 0, none⟩ (.int .i64 x)).setCell ⟨w.heap.size, 1, none⟩ (.int .i64 l')).heap[w.heap.size]? = some (.cells #[.int .i64 x, .int .i64 l'] 36 (0, 0)) ∧
    Below w.heap.size w ((((wr.drewN n).setCell ⟨w.heap.size + 1, 0, none⟩ (.int .i64 x)).setCell ⟨w.heap.size, 0, none⟩ (.int .i64 x)).setCell ⟨w.heap.size, 1, none⟩ (.int .i64 l')) := by
  refine ⟨blk_put (cs := #[.int .i64 x, .int .i64 0]) (blk_put (cs := #[.int .i64 0, .int .i64 0]) (blk_far (blk_drewN hr n) (p := ⟨w.heap.size + 1, 0, none⟩) (by simp) _) 0 _ rfl) 1 _ rfl, ?_⟩
  exact (((pw_below_drewN hB n).setCell (p := ⟨w.heap.size + 1, 0, none⟩) (by simp) _).setCell (p := ⟨w.heap.size, 0, none⟩) (Nat.le_refl _) _).setCell (p := ⟨w.heap.size, 1, none⟩) (Nat.le_refl _) _
set_option maxRecDepth 100000 in
theorem cost_nn (a0 : ByteArray) (a1 : Int) (w : World) (hs : a0.size ≤ 140737488355328) (h1 : a1 ≤ 9223372036854775807) (hn : 0 ≤ a1) :
    Calls Try.prog 27 #[.string a0, .int .i64 a1] w (CostPost a0 a1 w) := by
  have hu36 := Try.underlying36
  obtain ⟨B, L, hBL⟩ : ∃ B L, costGo a1 a0.data.toList 0 = (B, L) := ⟨_, _, rfl⟩
  have HBL := Aside0.mk hBL
  have hlen := data_length a0
  have hbd := costGo_bounds a1 (by omega) a0.data.toList 0 (by omega)
  rw [hBL, hlen] at hbd
  obtain ⟨hb1, hb2, hb3, hb4⟩ := hbd
  simp only at hb1 hb2 hb3 hb4
  clear hBL hlen
  go_enter Try.func27, Try.ntmps27
  go_wp2_with fail
  go_loopg [0] a0.size (fun d v0 W => ∃ (t : ByteArray) (b l : Int), v0 = .string t ∧ Aside0 (t.size = d) ∧ Aside0 (t.size ≤ a0.size) ∧ Aside0 (0 ≤ b ∧ 0 ≤ l ∧ b + (costGo a1 t.data.toList 0).1 = B ∧ l + (costGo a1 t.data.toList 0).2 = L) ∧
    Aside0 (W.heap[w.heap.size]? = some (.cells #[.int .i64 0, .int .i64 0] 36 (0, 0))) ∧ Aside0 (W.heap[w.heap.size + 1]? = some (.cells #[.int .i64 b, .int .i64 l] 36 (0, 0))) ∧ Aside0 (Below w.heap.size w W))
  case atStart => exact ⟨a0, 0, 0, rfl, ⟨rfl⟩, ⟨Nat.le_refl _⟩, ⟨by rw [HBL.out]; simp⟩, ⟨blk_alloc (heap_alloc_new w _) _⟩, ⟨by simpa using heap_alloc_new (w.alloc (Obj.cells #[Value.int IntKind.i64 0, Value.int IntKind.i64 0] 36)) (Obj.cells #[Value.int IntKind.i64 0, Value.int IntKind.i64 0] 36)⟩, ⟨((Below.refl _ _).alloc (Nat.le_refl _) _).alloc (by simp) _⟩⟩
  case round =>
    obtain ⟨t, b, l, rfl, HT, HTS, HS, HR, HC, HB⟩ := hrel
    have hb := costGo_bounds a1 (by omega) t.data.toList 0 (by omega)
    have htl := data_length t
    obtain ⟨s1, s2, s3, s4⟩ := HS.out
    have hts := HTS.out
    have hc0 : wr.cell? ⟨w.heap.size + 1, 0, none⟩ = some (.int .i64 b) := (blk_cell HC.out 0).trans rfl
    have hc1 : wr.cell? ⟨w.heap.size + 1, 1, none⟩ = some (.int .i64 l) := (blk_cell HC.out 1).trans rfl
    have hf0 : wr.frozen? ⟨w.heap.size + 1, 0, none⟩ = false := blk_frozen HC.out 0
    have hf1 : wr.frozen? ⟨w.heap.size + 1, 1, none⟩ = false := blk_frozen HC.out 1
    have hr0 : wr.cell? ⟨w.heap.size, 0, none⟩ = some (.int .i64 0) := (blk_cell HR.out 0).trans rfl
    have hr1 : wr.cell? ⟨w.heap.size, 1, none⟩ = some (.int .i64 0) := (blk_cell HR.out 1).trans rfl
    have hg0 : wr.frozen? ⟨w.heap.size, 0, none⟩ = false := blk_frozen HR.out 0
    have hg1 : wr.frozen? ⟨w.heap.size, 1, none⟩ = false := blk_frozen HR.out 1
    by_cases hm : Lib.indexByte t.data.toList 10 = -1
    · have hc := costGo_miss a1 t.data.toList 0 hm
      rw [htl, Int.zero_add] at hc
      rw [hc] at s3 s4 hb
      simp only at s3 s4 hb
      have HM := Aside0.mk hm
      have HS3 := Aside0.mk (And.intro s3 s4)
      have hbl : b ≤ B := by omega
      have hmx : 0 ≤ mx 0 ((t.size : Int) - a1) ∧ mx 0 ((t.size : Int) - a1) ≤ t.size := by unfold mx; split <;> omega
      clear hm hc htl s3 s4
      by_cases hgt : 0 < (t.size : Int) - a1
      · have HV := Aside0.mk (show mx 0 ((t.size : Int) - a1) = (t.size : Int) - a1 by unfold mx; rw [if_pos hgt])
        go_wp2_with (go_at_call 56; refine (cut_miss _ _ HM.out).mono ?_; rintro e w' ⟨rfl, n, rfl⟩)
        refine bodyPost_ret (results_cell_row rfl _ _ w.heap.size 36 #[.int .i64 (b + (↑t.size - a1)), .int .i64 l] (0, 0) _ rfl (cost_end HR.out HC.out HB.out n _ l).1 Try.underlying36 rfl (by kernel_rfl)) rfl ⟨?_, (cost_end HR.out HC.out HB.out n _ l).2⟩
        rw [HBL.out]
        exact ret_agg2 (by have := HS3.out.1; rw [HV.out] at this; omega) (by have := HS3.out.2; omega)
      · have HV := Aside0.mk (show mx 0 ((t.size : Int) - a1) = 0 by unfold mx; rw [if_neg hgt])
        go_wp2_with (go_at_call 56; refine (cut_miss _ _ HM.out).mono ?_; rintro e w' ⟨rfl, n, rfl⟩)
        refine bodyPost_ret (results_cell_row rfl _ _ w.heap.size 36 #[.int .i64 (b), .int .i64 l] (0, 0) _ rfl (cost_end HR.out HC.out HB.out n _ l).1 Try.underlying36 rfl (by kernel_rfl)) rfl ⟨?_, (cost_end HR.out HC.out HB.out n _ l).2⟩
        rw [HBL.out]
        exact ret_agg2 (by have := HS3.out.1; rw [HV.out] at this; omega) (by have := HS3.out.2; omega)
    · obtain ⟨i, hi⟩ : ∃ i : Nat, Lib.indexByte t.data.toList 10 = i := ⟨(Lib.indexByte t.data.toList 10).toNat, by have := Lib.indexByte_ge t.data.toList 10; omega⟩
      obtain ⟨q1, q2, q3, q4⟩ := cut_step hi a1
      have hb' := costGo_bounds a1 (by omega) (t.extract (i + 1) t.size).data.toList 0 (by omega)
      rw [q2] at s3 s4
      simp only at s3 s4
      have hmx : 0 ≤ mx 0 ((i : Int) - a1) ∧ mx 0 ((i : Int) - a1) ≤ i := by unfold mx; split <;> omega
      have hbl : b + mx 0 ((i : Int) - a1) ≤ B := by omega
      have hbl2 : l + 1 ≤ L := by omega
      have HI := Aside0.mk hi
      have HS3 := Aside0.mk (And.intro s3 s4)
      have HQ := Aside0.mk (And.intro q3 q4)
      have hmin : min i t.size = i := by omega
      clear hm hi q2 q3 q4 s3 s4 htl
      by_cases hgt : 0 < (i : Int) - a1
      · have hv : mx 0 ((i : Int) - a1) = (i : Int) - a1 := by unfold mx; rw [if_pos hgt]
        rw [hv] at hbl
        have HV := Aside0.mk hv
        clear hv
        go_wp2_with (go_at_call 56; refine (cut_hit _ i _ (by omega) q1 HI.out).mono ?_; rintro e w' ⟨rfl, n, rfl⟩)
        go_roundg (t.extract (i + 1) t.size).size
        case measure => have := HQ.out.1; have := HT.out; omega
        case rel => exact ⟨t.extract (i + 1) t.size, b + ((i : Int) - a1), l + 1, rfl, ⟨rfl⟩, ⟨by have := HQ.out.1; omega⟩, ⟨by omega, by omega, by have := HS3.out.1; rw [HV.out] at this; omega, by have := HS3.out.2; omega⟩, ⟨(cost_next HR.out HC.out HB.out n _ _).1⟩, ⟨(cost_next HR.out HC.out HB.out n _ _).2.1⟩, ⟨(cost_next HR.out HC.out HB.out n _ _).2.2⟩⟩
      · have hv : mx 0 ((i : Int) - a1) = 0 := by unfold mx; rw [if_neg hgt]
        rw [hv] at hbl
        have HV := Aside0.mk hv
        clear hv
        go_wp2_with (go_at_call 56; refine (cut_hit _ i _ (by omega) q1 HI.out).mono ?_; rintro e w' ⟨rfl, n, rfl⟩)
        go_roundg (t.extract (i + 1) t.size).size
        case measure => have := HQ.out.1; have := HT.out; omega
        case rel => exact ⟨t.extract (i + 1) t.size, b, l + 1, rfl, ⟨rfl⟩, ⟨by have := HQ.out.1; omega⟩, ⟨by omega, by omega, by have := HS3.out.1; rw [HV.out] at this; omega, by have := HS3.out.2; omega⟩, ⟨(cost_next HR.out HC.out HB.out n _ _).1⟩, ⟨(cost_next HR.out HC.out HB.out n _ _).2.1⟩, ⟨(cost_next HR.out HC.out HB.out n _ _).2.2⟩⟩
set_option maxRecDepth 100000 in
theorem cost_neg (a0 : ByteArray) (a1 : Int) (w : World) (hs : a0.size ≤ 140737488355328) (h1 : a1 ≤ 9223372036854775807) (hn : a1 < 0) :
    Calls Try.prog 27 #[.string a0, .int .i64 a1] w (CostPost a0 0 w) := by
  have hu36 := Try.underlying36
  obtain ⟨B, L, hBL⟩ : ∃ B L, costGo 0 a0.data.toList 0 = (B, L) := ⟨_, _, rfl⟩
  have HBL := Aside0.mk hBL
  have hlen := data_length a0
  have hbd := costGo_bounds 0 (by omega) a0.data.toList 0 (by omega)
  rw [hBL, hlen] at hbd
  obtain ⟨hb1, hb2, hb3, hb4⟩ := hbd
  simp only at hb1 hb2 hb3 hb4
  clear hBL hlen
  go_enter Try.func27, Try.ntmps27
  go_wp2_with fail
  go_loopg [0] a0.size (fun d v0 W => ∃ (t : ByteArray) (b l : Int), v0 = .string t ∧ Aside0 (t.size = d) ∧ Aside0 (t.size ≤ a0.size) ∧ Aside0 (0 ≤ b ∧ 0 ≤ l ∧ b + (costGo 0 t.data.toList 0).1 = B ∧ l + (costGo 0 t.data.toList 0).2 = L) ∧
    Aside0 (W.heap[w.heap.size]? = some (.cells #[.int .i64 0, .int .i64 0] 36 (0, 0))) ∧ Aside0 (W.heap[w.heap.size + 1]? = some (.cells #[.int .i64 b, .int .i64 l] 36 (0, 0))) ∧ Aside0 (Below w.heap.size w W))
  case atStart => exact ⟨a0, 0, 0, rfl, ⟨rfl⟩, ⟨Nat.le_refl _⟩, ⟨by rw [HBL.out]; simp⟩, ⟨blk_alloc (heap_alloc_new w _) _⟩, ⟨by simpa using heap_alloc_new (w.alloc (Obj.cells #[Value.int IntKind.i64 0, Value.int IntKind.i64 0] 36)) (Obj.cells #[Value.int IntKind.i64 0, Value.int IntKind.i64 0] 36)⟩, ⟨((Below.refl _ _).alloc (Nat.le_refl _) _).alloc (by simp) _⟩⟩
  case round =>
    obtain ⟨t, b, l, rfl, HT, HTS, HS, HR, HC, HB⟩ := hrel
    have hb := costGo_bounds 0 (by omega) t.data.toList 0 (by omega)
    have htl := data_length t
    obtain ⟨s1, s2, s3, s4⟩ := HS.out
    have hts := HTS.out
    have hc0 : wr.cell? ⟨w.heap.size + 1, 0, none⟩ = some (.int .i64 b) := (blk_cell HC.out 0).trans rfl
    have hc1 : wr.cell? ⟨w.heap.size + 1, 1, none⟩ = some (.int .i64 l) := (blk_cell HC.out 1).trans rfl
    have hf0 : wr.frozen? ⟨w.heap.size + 1, 0, none⟩ = false := blk_frozen HC.out 0
    have hf1 : wr.frozen? ⟨w.heap.size + 1, 1, none⟩ = false := blk_frozen HC.out 1
    have hr0 : wr.cell? ⟨w.heap.size, 0, none⟩ = some (.int .i64 0) := (blk_cell HR.out 0).trans rfl
    have hr1 : wr.cell? ⟨w.heap.size, 1, none⟩ = some (.int .i64 0) := (blk_cell HR.out 1).trans rfl
    have hg0 : wr.frozen? ⟨w.heap.size, 0, none⟩ = false := blk_frozen HR.out 0
    have hg1 : wr.frozen? ⟨w.heap.size, 1, none⟩ = false := blk_frozen HR.out 1
    by_cases hm : Lib.indexByte t.data.toList 10 = -1
    · have hc := costGo_miss 0 t.data.toList 0 hm
      rw [htl, Int.zero_add] at hc
      rw [hc] at s3 s4 hb
      simp only at s3 s4 hb
      have HM := Aside0.mk hm
      have HS3 := Aside0.mk (And.intro s3 s4)
      have hbl : b ≤ B := by omega
      have hmx : 0 ≤ mx 0 ((t.size : Int) - 0) ∧ mx 0 ((t.size : Int) - 0) ≤ t.size := by unfold mx; split <;> omega
      clear hm hc htl s3 s4
      by_cases hgt : 0 < (t.size : Int) - 0
      · have HV := Aside0.mk (show mx 0 ((t.size : Int) - 0) = (t.size : Int) - 0 by unfold mx; rw [if_pos hgt])
        go_wp2_with (go_at_call 56; refine (cut_miss _ _ HM.out).mono ?_; rintro e w' ⟨rfl, n, rfl⟩)
        refine bodyPost_ret (results_cell_row rfl _ _ w.heap.size 36 #[.int .i64 (b + ↑t.size), .int .i64 l] (0, 0) _ rfl (cost_end HR.out HC.out HB.out n _ l).1 Try.underlying36 rfl (by kernel_rfl)) rfl ⟨?_, (cost_end HR.out HC.out HB.out n _ l).2⟩
        rw [HBL.out]
        exact ret_agg2 (by have := HS3.out.1; rw [HV.out] at this; omega) (by have := HS3.out.2; omega)
      · have HV := Aside0.mk (show mx 0 ((t.size : Int) - 0) = 0 by unfold mx; rw [if_neg hgt])
        go_wp2_with (go_at_call 56; refine (cut_miss _ _ HM.out).mono ?_; rintro e w' ⟨rfl, n, rfl⟩)
        refine bodyPost_ret (results_cell_row rfl _ _ w.heap.size 36 #[.int .i64 (b), .int .i64 l] (0, 0) _ rfl (cost_end HR.out HC.out HB.out n _ l).1 Try.underlying36 rfl (by kernel_rfl)) rfl ⟨?_, (cost_end HR.out HC.out HB.out n _ l).2⟩
        rw [HBL.out]
        exact ret_agg2 (by have := HS3.out.1; rw [HV.out] at this; omega) (by have := HS3.out.2; omega)
    · obtain ⟨i, hi⟩ : ∃ i : Nat, Lib.indexByte t.data.toList 10 = i := ⟨(Lib.indexByte t.data.toList 10).toNat, by have := Lib.indexByte_ge t.data.toList 10; omega⟩
      obtain ⟨q1, q2, q3, q4⟩ := cut_step hi 0
      have hb' := costGo_bounds 0 (by omega) (t.extract (i + 1) t.size).data.toList 0 (by omega)
      rw [q2] at s3 s4
      simp only at s3 s4
      have hmx : 0 ≤ mx 0 ((i : Int) - 0) ∧ mx 0 ((i : Int) - 0) ≤ i := by unfold mx; split <;> omega
      have hbl : b + mx 0 ((i : Int) - 0) ≤ B := by omega
      have hbl2 : l + 1 ≤ L := by omega
      have HI := Aside0.mk hi
      have HS3 := Aside0.mk (And.intro s3 s4)
      have HQ := Aside0.mk (And.intro q3 q4)
      have hmin : min i t.size = i := by omega
      clear hm hi q2 q3 q4 s3 s4 htl
      by_cases hgt : 0 < (i : Int) - 0
      · have hv : mx 0 ((i : Int) - 0) = (i : Int) - 0 := by unfold mx; rw [if_pos hgt]
        rw [hv] at hbl
        have HV := Aside0.mk hv
        clear hv
        go_wp2_with (go_at_call 56; refine (cut_hit _ i _ (by omega) q1 HI.out).mono ?_; rintro e w' ⟨rfl, n, rfl⟩)
        go_roundg (t.extract (i + 1) t.size).size
        case measure => have := HQ.out.1; have := HT.out; omega
        case rel => exact ⟨t.extract (i + 1) t.size, b + (i : Int), l + 1, rfl, ⟨rfl⟩, ⟨by have := HQ.out.1; omega⟩, ⟨by omega, by omega, by have := HS3.out.1; rw [HV.out] at this; omega, by have := HS3.out.2; omega⟩, ⟨(cost_next HR.out HC.out HB.out n _ _).1⟩, ⟨(cost_next HR.out HC.out HB.out n _ _).2.1⟩, ⟨(cost_next HR.out HC.out HB.out n _ _).2.2⟩⟩
      · have hv : mx 0 ((i : Int) - 0) = 0 := by unfold mx; rw [if_neg hgt]
        rw [hv] at hbl
        have HV := Aside0.mk hv
        clear hv
        go_wp2_with (go_at_call 56; refine (cut_hit _ i _ (by omega) q1 HI.out).mono ?_; rintro e w' ⟨rfl, n, rfl⟩)
        go_roundg (t.extract (i + 1) t.size).size
        case measure => have := HQ.out.1; have := HT.out; omega
        case rel => exact ⟨t.extract (i + 1) t.size, b, l + 1, rfl, ⟨rfl⟩, ⟨by have := HQ.out.1; omega⟩, ⟨by omega, by omega, by have := HS3.out.1; rw [HV.out] at this; omega, by have := HS3.out.2; omega⟩, ⟨(cost_next HR.out HC.out HB.out n _ _).1⟩, ⟨(cost_next HR.out HC.out HB.out n _ _).2.1⟩, ⟨(cost_next HR.out HC.out HB.out n _ _).2.2⟩⟩
def document_Cost.f (a0 : ByteArray) (a1 : Int) : Option (Int × Int) :=
  if a0.size ≤ 140737488355328 ∧ a1 ≤ 9223372036854775807 then some (costGo (mx a1 0) a0.data.toList 0) else none
theorem document_Cost.calls (a0 : ByteArray) (a1 : Int) (r1 : Int) (r2 : Int) (w : World) (h : document_Cost.f a0 a1 = some (r1, r2)) :
    Calls Try.prog 27 #[.string a0, .int .i64 a1] w fun e w' => e = .returned (.agg #[.int .i64 r1, .int .i64 r2]) ∧ Below w.heap.size w w' := by
  unfold document_Cost.f at h
  split at h
  case isFalse => cases h
  case isTrue hs =>
    have h' := Option.some.inj h
    by_cases hn : a1 < 0
    · refine (cost_neg a0 a1 w hs.1 hs.2 hn).mono ?_
      intro e w' hw
      unfold CostPost at hw
      rw [show mx a1 0 = 0 by unfold mx; rw [if_pos hn]] at h'
      rw [h'] at hw
      exact hw
    · refine (cost_nn a0 a1 w hs.1 hs.2 (by omega)).mono ?_
      intro e w' hw
      unfold CostPost at hw
      rw [show mx a1 0 = a1 by unfold mx; rw [if_neg hn]] at h'
      rw [h'] at hw
      exact hw
end Go.Proofs.Ythmmdmnbcecooaa.A
end

section
namespace Go.Proofs.Ythmmdmnbcecooaa.A
open Go.RowKit Go.Proofs.YthmmdmnbcecooaaW.PrintWords Go.Proofs.YthmmdmnbcecooaaW.PrintLast Go.Proofs.YthmmdmnbcecooaaW.PrintMore
set_option linter.unusedVariables false
set_option linter.unusedSimpArgs false
/-- No node's text is longer than T. -/
def Tb (T : Nat) (l : List S42) : Prop := ∀ x ∈ l, x.f1.size ≤ T
theorem Tb.at_ {T : Nat} {l : List S42} (h : Tb T l) (i : Nat) (hi : i < l.length) : (l.getD i z42).f1.size ≤ T := by
  refine h _ ?_
  simp [List.getD, hi]
theorem Tb.seq {T : Nat} {a b : List S42} (ha : Tb T a) (hb : Tb T b) : Tb T (seqD a b) := by
  intro x hx
  unfold seqD joinD at hx
  rcases List.mem_append.1 hx with hx | hx
  · rcases List.mem_append.1 hx with hx | hx
    · exact ha x hx
    · obtain ⟨y, hy, rfl⟩ := List.mem_map.1 hx
      rw [(shiftN_kind _ y).2.1]
      exact hb y hy
  · rw [List.mem_singleton.1 hx]; exact Nat.zero_le _
theorem Tb.wrap {T : Nat} {a : List S42} (ha : Tb T a) (kind n : Int) : Tb T (wrapD kind n a) := by
  intro x hx
  unfold wrapD at hx
  rcases List.mem_append.1 hx with hx | hx
  · exact ha x hx
  · rw [List.mem_singleton.1 hx]; exact Nat.zero_le _
theorem Tb.text {T : Nat} {s : ByteArray} (h : s.size ≤ T) : Tb T (textD s) := by
  intro x hx
  rw [List.mem_singleton.1 hx]; exact h
theorem made_tb {l : List Int} {most : Int} (hb : ∀ x ∈ l, 0 ≤ x ∧ x ≤ 255) (hm : most ≤ 1000) : Tb 20 (madeDoc l most) := by
  refine made_ind (P := Tb 20) (fun k h0 h1 => ?_) (Tb.text (by decide)) (fun a b _ _ _ ha hb => ha.seq hb) (fun kind n a _ _ _ ha => ha.wrap kind n) hb hm
  have h : ∀ i : Fin 256, ((leafD (i.val : Int)).all fun x => decide (x.f1.size ≤ 20)) = true := by decide +kernel
  have := h ⟨k.toNat, by omega⟩
  simp only [Int.toNat_of_nonneg h0] at this
  intro x hx
  simpa using List.all_eq_true.1 this x hx
theorem made_f {l : List Int} {most : Int} (hb : ∀ x ∈ l, 0 ≤ x ∧ x ≤ 255) (hm : 0 ≤ most ∧ most ≤ 1000) (hl : l.length ≤ 281474976710656) : koineref25_Made.f l most = some (madeDoc l most) := by
  unfold koineref25_Made.f
  have : (l.all (fun x => decide (0 ≤ x) && decide (x ≤ 255))) = true := by
    rw [List.all_eq_true]
    intro x hx
    simpa using hb x hx
  rw [if_pos ⟨this, hm, hl⟩]
/-- A document that the laws make: in order, with short texts, small enough. -/
structure Doc20 (l : List S42) : Prop where
  good : Good l
  tb : Tb 20 l
  fits : Fits (E l)
theorem made_doc {l : List Int} {most : Int} (hb : ∀ x ∈ l, 0 ≤ x ∧ x ≤ 255) (hm : most ≤ 1000) : Doc20 (madeDoc l most) :=
  ⟨(made_good hb hm).1, made_tb hb hm, made_fits hb hm⟩
theorem choice_f {l : List S42} (h : Doc20 l) (fl : List Bool) {k : Nat} (hk : 1000000 ≤ k) : koineref25_Choice.f k l fl = some (choiceL l fl) :=
  Choice_eq h.good 20 h.tb.at_ (by decide) fl k (by omega)
theorem bytes_of {l : List Int} (h : ∀ x ∈ l, (Lit.int .u8 x).wf = true) : ∀ x ∈ l, 0 ≤ x ∧ x ≤ 255 := by
  intro x hx
  have := h x hx
  simp only [Lit.wf, Bool.and_eq_true, decide_eq_true_iff, show IntKind.u8.min = 0 from rfl, show IntKind.u8.max = 255 from rfl] at this
  exact this
end Go.Proofs.Ythmmdmnbcecooaa.A
end

section
namespace Go.Proofs.Ythmmdmnbcecooaa.A
open Go.RowKit Go.Proofs.YthmmdmnbcecooaaW.PrintWords Go.Proofs.YthmmdmnbcecooaaW.PrintLast Go.Proofs.YthmmdmnbcecooaaW.PrintMore
set_option linter.unusedVariables false
set_option linter.unusedSimpArgs false
theorem refs_perm {l : List S42} (hg : Good l) : (refs l).Perm (List.range (l.length - 1)) := by
  rw [List.perm_iff_count]
  intro a
  by_cases h : a < l.length - 1
  · rw [hg.once a h]
    have h1 := List.nodup_iff_count.1 (List.nodup_range (n := l.length - 1)) a
    have h2 := List.count_pos_iff.2 (List.mem_range.2 h)
    omega
  · rw [List.count_eq_zero_of_not_mem (fun hm => h (refs_lt hg.ok hm)), List.count_eq_zero_of_not_mem (fun hm => h (List.mem_range.1 hm))]
theorem weigh {l : List S42} (W : Nat → Nat) (f : S42 → Nat) (hW : ∀ i, i < l.length → W i = f (l.getD i z42) + ((opsAt (l.getD i z42)).map W).sum) :
    ∀ m, m ≤ l.length → ((List.range m).map W).sum = ((l.take m).map f).sum + ((refs (l.take m)).map W).sum
  | 0, _ => by simp [refs]
  | m + 1, hm => by
    have ih := weigh W f hW m (by omega)
    rw [List.range_succ, List.map_append, List.sum_append, ih, refs_take (by omega), List.map_append, List.sum_append, List.take_succ_eq_append_getElem (by omega), List.map_append, List.sum_append]
    have e : l[m]'(by omega) = l.getD m z42 := by simp [List.getD, show m < l.length by omega]
    simp only [List.map_cons, List.map_nil, List.sum_cons, List.sum_nil]
    rw [hW m (by omega), e]
    omega
theorem weigh_root {l : List S42} (hg : Good l) (W : Nat → Nat) (f : S42 → Nat) (hW : ∀ i, i < l.length → W i = f (l.getD i z42) + ((opsAt (l.getD i z42)).map W).sum) :
    W (l.length - 1) = (l.map f).sum := by
  have hp := hg.pos
  have h := weigh W f hW l.length (Nat.le_refl _)
  rw [List.take_of_length_le (Nat.le_refl _), ((refs_perm hg).map W).sum_nat] at h
  obtain ⟨n, hn⟩ : ∃ n, l.length = n + 1 := ⟨l.length - 1, by omega⟩
  rw [hn, List.range_succ, List.map_append, List.sum_append, Nat.add_sub_cancel] at h
  simp only [List.map_cons, List.map_nil, List.sum_cons, List.sum_nil] at h
  rw [hn, Nat.add_sub_cancel]
  omega
theorem sum_le (f : S42 → Nat) (B : Nat) : ∀ (l : List S42), (∀ x ∈ l, f x ≤ B) → (l.map f).sum ≤ l.length * B
  | [], _ => by simp
  | x :: t, h => by
    have h1 := h x (by simp)
    have h2 := sum_le f B t (fun y hy => h y (by simp [hy]))
    simp only [List.map_cons, List.sum_cons, List.length_cons, Nat.add_mul, Nat.one_mul]
    omega
def fLv (x : S42) : Nat := if x.f0 < 3 then 1 else 0
def fWt (x : S42) : Nat := if x.f0 = 0 ∨ x.f0 = 1 then x.f1.data.toList.length else if x.f0 = 4 then x.f2.toNat else 0
theorem weights {l : List S42} (hg : Good l) : lv (E l) = (l.map fLv).sum ∧ wt (E l) = (l.map fWt).sum := by
  have hv := hg.ok
  unfold E rootT
  rw [er_lv, er_wt]
  refine ⟨weigh_root hg (fun i => lv (tree l i)) fLv (fun i hi => ?_), weigh_root hg (fun i => wt (tree l i)) fWt (fun i hi => ?_)⟩
  all_goals
    have h := hv i hi
    have hkd := h.kind
    rcases (show (l.getD i z42).f0 = 0 ∨ (l.getD i z42).f0 = 1 ∨ (l.getD i z42).f0 = 2 ∨ (l.getD i z42).f0 = 3 ∨ (l.getD i z42).f0 = 4 ∨ (l.getD i z42).f0 = 5 ∨ (l.getD i z42).f0 = 6 by omega) with h4 | h4 | h4 | h4 | h4 | h4 | h4
  · rw [tree_text h4, ops0 (by omega)]; unfold fLv; rw [if_pos (by omega)]; simp [lv]
  · rw [tree_line h4, ops0 (by omega)]; unfold fLv; rw [if_pos (by omega)]; simp [lv]
  · rw [tree_hard h4, ops0 (by omega)]; unfold fLv; rw [if_pos (by omega)]; simp [lv]
  · rw [tree_seq hv hi h4, ops3 h4]; unfold fLv; rw [if_neg (by omega)]; simp [lv]
  · rw [tree_nest hv hi h4, ops1 (by omega)]; unfold fLv; rw [if_neg (by omega)]; simp [lv]
  · rw [tree_align hv hi h4, ops1 (by omega)]; unfold fLv; rw [if_neg (by omega)]; simp [lv]
  · rw [tree_group hv hi h4, ops1 (by omega)]; unfold fLv; rw [if_neg (by omega)]; simp [lv]
  · rw [tree_text h4, ops0 (by omega)]; unfold fWt; rw [if_pos (by omega)]; simp [wt]
  · rw [tree_line h4, ops0 (by omega)]; unfold fWt; rw [if_pos (by omega)]; simp [wt]
  · rw [tree_hard h4, ops0 (by omega)]; unfold fWt; rw [if_neg (by omega), if_neg (by omega)]; simp [wt]
  · rw [tree_seq hv hi h4, ops3 h4]; unfold fWt; rw [if_neg (by omega), if_neg (by omega)]; simp [wt]
  · rw [tree_nest hv hi h4, ops1 (by omega)]; unfold fWt; rw [if_neg (by omega), if_pos h4]; simp [wt]
  · rw [tree_align hv hi h4, ops1 (by omega)]; unfold fWt; rw [if_neg (by omega), if_neg (by omega)]; simp [wt]
  · rw [tree_group hv hi h4, ops1 (by omega)]; unfold fWt; rw [if_neg (by omega), if_neg (by omega)]; simp [wt]
end Go.Proofs.Ythmmdmnbcecooaa.A
end
