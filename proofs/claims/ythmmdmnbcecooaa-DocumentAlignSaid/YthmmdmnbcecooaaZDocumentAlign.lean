/- K2, PureDocumentAlign, LawDocumentAlign: texts of this seat, one behind the other. No condition of its own. -/
import Derived.Test.YthmmdmnbcecooaaZB
import Derived.Test.YthmmdmnbcecooaaZD
import Derived.Test.YthmmdmnbcecooaaRows
import Derived.Test.YthmmdmnbcecooaaWSized
import Derived.WalkKit
import Derived.ProofKit
import Derived.OpenShut
import Derived.ShutString
import Derived.ChangeOld
import Derived.ChangeSlices
import Derived.Below
import Derived.SizedLaws
/-! K2 -/
namespace Go.Proofs.Ythmmdmnbcecooaa.A
open Go.RowKit Go.Proofs.YthmmdmnbcecooaaW.PrintWords Go.Proofs.YthmmdmnbcecooaaW.PrintLast Go.Proofs.YthmmdmnbcecooaaW.PrintMore
set_option linter.unusedVariables false
set_option linter.unusedSimpArgs false

def Docs (w0 W : World) (L : List (Option Addr × List S42)) : Prop := Below w0.heap.size w0 W ∧ ∀ p ∈ L, Kd.C k42 W p.1 p.2.length p.2
section
variable {w0 W W' : World} {L : List (Option Addr × List S42)}
theorem Docs.nil (w0 : World) : Docs w0 w0 [] := ⟨Below.refl _ _, fun p hp => by cases hp⟩
theorem Docs.step (h : Docs w0 W L) (hb : Below W.heap.size W W') : Docs w0 W' L := ⟨below_then h.1 h.1.size hb, fun p hp => Kd.C_below (h.2 p hp) hb⟩
theorem Docs.add (h : Docs w0 W L) {A : Option Addr} {D : List S42} (hC : Kd.C k42 W A D.length D) : Docs w0 W ((A, D) :: L) :=
  ⟨h.1, fun p hp => by
    rcases List.mem_cons.1 hp with rfl | hp
    · exact hC
    · exact h.2 p hp⟩
theorem Docs.alloc (h : Docs w0 W L) (o : Obj) : Docs w0 (W.alloc o) L := h.step (below_alloc (Below.refl _ _) o)
theorem Docs.drewN (h : Docs w0 W L) (n : Nat) : Docs w0 (W.drewN n) L := h.step (pw_below_drewN (Below.refl _ _) n)
theorem Docs.drawn (h : Docs w0 W L) (hd : Drawn0 W W') : Docs w0 W' L := by
  obtain ⟨n, rfl⟩ := hd.out
  exact h.drewN n
theorem Docs.get (h : Docs w0 W L) {A : Option Addr} {D : List S42} (hm : (A, D) ∈ L) : Kd.C k42 W A D.length D := h.2 _ hm
theorem Docs.bools (h : Docs w0 W L) {A : Option Addr} {l : List Bool} (hC : Kd.C Kd.bool w0 A l.length l) : Kd.C Kd.bool W A l.length l := Kd.C_below hC h.1
end

theorem made_step (D : List S42) (A0 : Option Addr) (c0 : Nat) (l0 : List Int) (a1 : Int) (w : World) (hr0 : Kd.C (Kd.int .u8) w A0 l0.length l0) (hc0 : l0.length ≤ c0) (h : koineref25_Made.f l0 a1 = some D) :
    Calls Try.prog 21 #[.slice A0 l0.length c0, .int .i64 a1] w (DocPost D w) :=
  (koineref25_Made.calls A0 c0 l0 a1 D w hr0 hc0 h).mono fun _ _ h => .of h

end Go.Proofs.Ythmmdmnbcecooaa.A

/-! PureDocumentAlign -/
namespace Go.Proofs.Ythmmdmnbcecooaa.A
open Go.RowKit Go.Proofs.YthmmdmnbcecooaaW.PrintWords Go.Proofs.YthmmdmnbcecooaaW.PrintLast Go.Proofs.YthmmdmnbcecooaaW.PrintMore
attribute [local go_sem] max2_int min2_int max_two min_two max_three min_three max_four min_four
set_option linter.unusedVariables false
set_option linter.unusedSimpArgs false

def alphaS : ByteArray := ⟨#[97, 98, 99, 100, 101, 102, 103, 104, 105, 106, 107, 108, 109, 110, 111, 112, 113, 114, 115, 116]⟩
def headS (a : Int) : ByteArray := alphaS.extract 0 (1 + a % 20).toNat

/-- What the walk needs: the documents that the law makes. -/
structure AlignOk (D : List S42) (S : ByteArray) (fl : List Bool) (k : Nat) (R : ByteArray) : Prop where
  len : D.length ≤ 10000
  r1 : koinelaw25_render.f k (seqD (textD S) (wrapD 5 0 D)) fl = some R
  r2 : koinelaw25_render.f k (seqD (textD S) (wrapD 4 S.size D)) fl = some R

set_option maxHeartbeats 1000000 in
set_option maxRecDepth 100000 in
theorem align_has (w : World) (A0 : Option Addr) (c0 : Nat) (l0 : List Int) (A1 : Option Addr) (c1 n1 : Nat) (a2 : Int) (hr0 : Kd.C (Kd.int .u8) w A0 l0.length l0) (hc0 : l0.length ≤ c0)
    (D : List S42) (k : Nat) (hM : koineref25_Made.f l0 40 = some D) (hH : koineref25_Has.f k D 5 = some true) :
    Calls Try.prog 12 #[.slice A0 l0.length c0, .slice A1 n1 c1, .int .u8 a2] w fun e w' => e = .returned (.bool true) ∧ Below w.heap.size w w' := by
  have HR0 := Aside0.mk hr0
  have HM := Aside0.mk hM
  have HH := Aside0.mk hH
  clear hr0 hM hH
  go_enter Try.func12, Try.ntmps12
  go_wp2_with fail
  refine (koinelaw25_sanity.calls true _ rfl).mono ?_
  rintro e w1 ⟨rfl, hb⟩
  have HB := Aside0.mk hb
  clear hb
  go_wp2_with fail
  refine (made_step D A0 c0 l0 40 _ (Kd.C_below HR0.out HB.out) hc0 HM.out).mono ?_
  rintro e w2 ⟨A, c, rfl, hc, hC, hb⟩
  have HD := Aside0.mk (((Docs.nil w).step HB.out).step hb |>.add hC)
  clear hC hb
  go_wp2_with fail
  refine (koineref25_Has.calls k A c D 5 true _ (HD.out.get (by simp)) hc HH.out).mono ?_
  rintro e w3 ⟨rfl, hb⟩
  have HD3 := Aside0.mk (HD.out.drawn hb)
  clear hb
  go_wp2_with fail
  go_ret
  exact ⟨rfl, HD3.out.1⟩

set_option maxHeartbeats 1000000 in
set_option maxRecDepth 100000 in
theorem align_calls (w : World) (A0 : Option Addr) (c0 : Nat) (l0 : List Int) (A1 : Option Addr) (c1 : Nat) (l1 : List Bool) (a2 : Int) (hr0 : Kd.C (Kd.int .u8) w A0 l0.length l0) (hc0 : l0.length ≤ c0) (hr1 : Kd.C Kd.bool w A1 l1.length l1) (hc1 : l1.length ≤ c1)
    (D : List S42) (k : Nat) (R : ByteArray) (hM : koineref25_Made.f l0 40 = some D) (hH : koineref25_Has.f k D 5 = some false) (h1 : 0 ≤ a2) (h2 : a2 ≤ 255) (ho : AlignOk D (headS a2) l1 k R) :
    Calls Try.prog 12 #[.slice A0 l0.length c0, .slice A1 l1.length c1, .int .u8 a2] w fun e w' => e = .returned (.bool true) ∧ Below w.heap.size w w' := by
  have HR0 := Aside0.mk hr0
  have HR1 := Aside0.mk hr1
  have HM := Aside0.mk hM
  have HH := Aside0.mk hH
  have HO := Aside0.mk ho
  clear hr0 hr1 hM hH ho
  go_enter Try.func12, Try.ntmps12
  go_wp2_with fail
  refine (koinelaw25_sanity.calls true _ rfl).mono ?_
  rintro e w1 ⟨rfl, hb⟩
  have HB := Aside0.mk hb
  clear hb
  go_wp2_with fail
  refine (made_step D A0 c0 l0 40 _ (Kd.C_below HR0.out HB.out) hc0 HM.out).mono ?_
  rintro e w2 ⟨A, c, rfl, hc, hC, hb⟩
  have HD := Aside0.mk (((Docs.nil w).step HB.out).step hb |>.add hC)
  clear hC hb
  go_wp2_with fail
  refine (koineref25_Has.calls k A c D 5 false _ (HD.out.get (by simp)) hc HH.out).mono ?_
  rintro e w3 ⟨rfl, hb⟩
  have HD3 := Aside0.mk (HD.out.drawn hb)
  clear hb
  go_wp2_with fail
  generalize hS : ByteArray.extract _ 0 (1 + a2 % 20).toNat = S
  have HS := Aside0.mk (show headS a2 = S from hS)
  clear hS
  refine (text_step (textD S) S _ rfl).mono ?_
  rintro e w4 ⟨A4, c4, rfl, hc4, hC, hb⟩
  have HD4 := Aside0.mk ((HD3.out.step hb).add hC)
  clear hC hb
  go_wp2_with fail
  refine (wrap_step (wrapD 5 0 D) D 5 0 A c _ rfl (by have := HO.out.len; omega) (HD4.out.get (by simp)) hc).mono ?_
  rintro e w5 ⟨A5, c5, rfl, hc5, hC, hb⟩
  have HD5 := Aside0.mk ((HD4.out.step hb).add hC)
  clear hC hb
  go_wp2_with fail
  refine (seq_step (seqD (textD S) (wrapD 5 0 D)) (textD S) (wrapD 5 0 D) A4 c4 A5 c5 _ rfl (by have := HO.out.len; rw [wrapD_length]; show 1 + _ ≤ _; omega) (HD5.out.get (by simp)) hc4 (HD5.out.get (by simp)) hc5).mono ?_
  rintro e w6 ⟨A6, c6, rfl, hc6, hC, hb⟩
  have HD6 := Aside0.mk ((HD5.out.step hb).add hC)
  clear hC hb
  go_wp2_with fail
  refine (koinelaw25_render.calls k A6 c6 _ A1 c1 l1 R _ (HD6.out.get (by simp)) hc6 (HD6.out.bools HR1.out) hc1 (by rw [← HS.out]; exact HO.out.r1)).mono ?_
  rintro e w7 ⟨rfl, hb⟩
  have HD7 := Aside0.mk (HD6.out.step hb)
  clear hb
  go_wp2_with fail
  refine (text_step (textD S) S _ rfl).mono ?_
  rintro e w8 ⟨A8, c8, rfl, hc8, hC, hb⟩
  have HD8 := Aside0.mk ((HD7.out.step hb).add hC)
  clear hC hb
  go_wp2_with fail
  refine (wrap_step (wrapD 4 S.size D) D 4 S.size A c _ rfl (by have := HO.out.len; omega) (HD8.out.get (by simp)) hc).mono ?_
  rintro e w9 ⟨A9, c9, rfl, hc9, hC, hb⟩
  have HD9 := Aside0.mk ((HD8.out.step hb).add hC)
  clear hC hb
  go_wp2_with fail
  refine (seq_step (seqD (textD S) (wrapD 4 S.size D)) (textD S) (wrapD 4 S.size D) A8 c8 A9 c9 _ rfl (by have := HO.out.len; rw [wrapD_length]; show 1 + _ ≤ _; omega) (HD9.out.get (by simp)) hc8 (HD9.out.get (by simp)) hc9).mono ?_
  rintro e w10 ⟨A10, c10, rfl, hc10, hC, hb⟩
  have HD10 := Aside0.mk ((HD9.out.step hb).add hC)
  clear hC hb
  go_wp2_with fail
  refine (koinelaw25_render.calls k A10 c10 _ A1 c1 l1 R _ (HD10.out.get (by simp)) hc10 (HD10.out.bools HR1.out) hc1 (by rw [← HS.out]; exact HO.out.r2)).mono ?_
  rintro e w11 ⟨rfl, hb⟩
  have HD11 := Aside0.mk (HD10.out.step hb)
  clear hb
  go_wp2_with fail
  go_ret
  exact ⟨rfl, HD11.out.1⟩

/-! ### The plain law -/
theorem has_loop (l : List S42) (q : Int) (hl : l.length ≤ 1000000) : ∀ (d j k : Nat), j + d = l.length → d < k → koineref25_Has.l0 k l q j = some ((l.drop j).any fun x => decide (x.f0 = q))
  | 0, j, k, hj, hk => by
    obtain ⟨k, rfl⟩ : ∃ m, k = m + 1 := ⟨k - 1, by omega⟩
    rw [koineref25_Has.l0, if_neg (by omega), List.drop_eq_nil_of_le (by omega)]
    rfl
  | d + 1, j, k, hj, hk => by
    obtain ⟨k, rfl⟩ : ∃ m, k = m + 1 := ⟨k - 1, by omega⟩
    have hlt : j < l.length := by omega
    rw [koineref25_Has.l0, if_pos (by omega), if_pos (by omega), rd42_nat, List.drop_eq_getElem_cons hlt, wrap64_small (by omega) (by omega), show (j : Int) + 1 = ((j + 1 : Nat) : Int) by omega, show l.getD j z42 = l[j] from by simp [List.getD, hlt]]
    simp only [List.any_cons]
    by_cases e : (l[j]).f0 = q
    · rw [if_pos e, decide_eq_true e]; rfl
    · rw [if_neg e, decide_eq_false e, has_loop l q hl d (j + 1) k (by omega) (by omega)]; rfl
theorem has_f (l : List S42) (q : Int) (hl : l.length ≤ 1000000) {k : Nat} (hk : l.length < k) : koineref25_Has.f k l q = some (l.any fun x => decide (x.f0 = q)) := by
  have := has_loop l q hl l.length 0 k (by omega) hk
  unfold koineref25_Has.f
  simpa using this

theorem fits_of {t : Doc} {a b : Nat} (h1 : wt t ≤ a) (h2 : lv t ≤ b) (ha : a ≤ 1000000) (hb : b ≤ 1000000) : Fits t := by
  refine ⟨by omega, ?_⟩
  have := Nat.mul_le_mul h2 (show wt t + 1 ≤ a + 1 by omega)
  have := Nat.mul_le_mul hb (show a + 1 ≤ 1000001 by omega)
  omega

theorem wrP_align (t : Doc) (ind : Int) (flat : Bool) (fl : List Bool) (st : St) (h : st.col ≠ 0) : wrP (.align t) ind flat fl st = wrP t st.col flat fl st := by
  show wrP t (if st.col = 0 then st.pend else st.col) flat fl st = _
  rw [if_neg h]
theorem rnd_align (S : ByteArray) (hS : S.data.toList ≠ []) (t : Doc) (fl : List Bool) : rnd (.seq (.text S) (.align t)) fl = rnd (.seq (.text S) (.nest S.size t)) fl := by
  have hl := data_length S
  have hp : 0 < S.data.toList.length := List.length_pos_iff.2 hS
  have e1 : (addT st0 S.data.toList).col = (S.size : Int) := by
    unfold addT
    rw [if_neg hS, if_pos (show st0.col = 0 from rfl)]
    simp [st0, hl]
  show (wrP (.align t) 0 false _ (addT st0 S.data.toList)).out = (wrP t (0 + (S.size : Int)) false _ (addT st0 S.data.toList)).out
  rw [wrP_align _ _ _ _ _ (by omega), e1, Int.zero_add]
  rfl

theorem head_facts {a : Int} (h1 : 0 ≤ a) (h2 : a ≤ 255) : (headS a).data.toList ≠ [] ∧ (headS a).size ≤ 20 ∧ Lib.indexByte (headS a).data.toList 10 < 0 := by
  have h : ∀ i : Fin 256, (decide ((headS (i.val : Int)).data.toList ≠ []) && decide ((headS (i.val : Int)).size ≤ 20) && decide (Lib.indexByte (headS (i.val : Int)).data.toList 10 < 0)) = true := by decide +kernel
  have := h ⟨a.toNat, by omega⟩
  simp only [Int.toNat_of_nonneg h1, Bool.and_eq_true, decide_eq_true_iff] at this
  exact ⟨this.1.1, this.1.2, this.2⟩

theorem align_ok {l0 : List Int} (hb : ∀ x ∈ l0, 0 ≤ x ∧ x ≤ 255) (fl : List Bool) {a : Int} (h1 : 0 ≤ a) (h2 : a ≤ 255) : ∃ R, AlignOk (madeDoc l0 40) (headS a) fl 2000000 R := by
  have hd : Doc20 (madeDoc l0 40) := made_doc hb (by decide)
  have hs : MadeP (madeDoc l0 40) := made_shape hb (by decide)
  have hn := (made_good (most := 40) hb (by decide)).2
  obtain ⟨f1, f2, f3⟩ := head_facts h1 h2
  have hx := data_length (headS a)
  have gt := text_ok f3
  have hl1 : (textD (headS a)).length = 1 := rfl
  have hw : ∀ kind n : Int, (kind = 5 ∧ n = 0 ∨ kind = 4 ∧ n = (headS a).size) → Good (wrapD kind n (madeDoc l0 40)) := fun kind n h => good_wrap hd.good (by omega) (by omega) (by omega) (by omega)
  have hwl : ∀ kind n : Int, (wrapD kind n (madeDoc l0 40)).length = (madeDoc l0 40).length + 1 := fun kind n => wrapD_length _ _ _
  have e1 : E (seqD (textD (headS a)) (wrapD 5 0 (madeDoc l0 40))) = .seq (.text (headS a)) (.align (E (madeDoc l0 40))) := by
    rw [E_seq gt (hw 5 0 (.inl ⟨rfl, rfl⟩)) (by rw [hwl, hl1]; omega), E_align hd.good (by omega)]; rfl
  have e2 : E (seqD (textD (headS a)) (wrapD 4 (headS a).size (madeDoc l0 40))) = .seq (.text (headS a)) (.nest (headS a).size (E (madeDoc l0 40))) := by
    rw [E_seq gt (hw 4 _ (.inr ⟨rfl, rfl⟩)) (by rw [hwl, hl1]; omega), E_nest hd.good (by omega) (by omega)]; rfl
  have d1 : Doc20 (seqD (textD (headS a)) (wrapD 5 0 (madeDoc l0 40))) := ⟨good_seq gt (hw 5 0 (.inl ⟨rfl, rfl⟩)) (by rw [hwl, hl1]; omega), (Tb.text f2).seq (hd.tb.wrap _ _), by
    rw [e1]
    have := hs.2
    exact fits_of (a := 10000) (b := 10000) (by simp only [wt]; omega) (by simp only [lv]; omega) (by omega) (by omega)⟩
  have d2 : Doc20 (seqD (textD (headS a)) (wrapD 4 (headS a).size (madeDoc l0 40))) := ⟨good_seq gt (hw 4 _ (.inr ⟨rfl, rfl⟩)) (by rw [hwl, hl1]; omega), (Tb.text f2).seq (hd.tb.wrap _ _), by
    rw [e2]
    have := hs.2
    exact fits_of (a := 10000) (b := 10000) (by simp only [wt]; omega) (by simp only [lv]; omega) (by omega) (by omega)⟩
  refine ⟨_, by omega, lawrender_f d1 fl (by omega), ?_⟩
  rw [lawrender_f d2 fl (by omega), e1, e2, rnd_align _ f1]

theorem documentAlign_walk (w : World) (A0 : Option Addr) (c0 : Nat) (l0 : List Int) (hr0 : Kd.C (Kd.int .u8) w A0 l0.length l0) (hc0 : l0.length ≤ c0) (hw0 : ∀ x ∈ l0, (Lit.int .u8 x).wf = true) (y0 : l0.length * 1 ≤ 140737488351232)
    (A1 : Option Addr) (c1 : Nat) (l1 : List Bool) (hr1 : Kd.C Kd.bool w A1 l1.length l1) (hc1 : l1.length ≤ c1) (hm1 : l1.length ≤ maxLen) (a2 : Int) (w2 : (Lit.int .u8 a2).wf = true) :
    Calls Try.prog 12 #[.slice A0 l0.length c0, .slice A1 l1.length c1, .int .u8 a2] w fun e w' => e = .returned (.bool true) ∧ Below w.heap.size w w' := by
  have hb := bytes_of hw0
  have ha := bytes_of (l := [a2]) (fun x hx => by rw [List.mem_singleton.1 hx]; exact w2) a2 (by simp)
  have hn := (made_good (most := 40) hb (by decide)).2
  have hM := made_f (most := 40) hb (by decide) (by omega : l0.length ≤ 281474976710656)
  have hH := has_f (madeDoc l0 40) 5 (by omega) (k := 2000000) (by omega)
  cases h : (madeDoc l0 40).any (fun x => decide (x.f0 = 5)) with
  | true =>
    rw [h] at hH
    exact align_has w A0 c0 l0 A1 c1 l1.length a2 hr0 hc0 _ _ hM hH
  | false =>
    rw [h] at hH
    obtain ⟨R, ho⟩ := align_ok hb l1 ha.1 ha.2
    exact align_calls w A0 c0 l0 A1 c1 l1 a2 hr0 hc0 hr1 hc1 _ _ R hM hH ha.1 ha.2 ho

end Go.Proofs.Ythmmdmnbcecooaa.A

/-! LawDocumentAlign -/
namespace Go.Proofs.Ythmmdmnbcecooaa.documentAlign
open Go.ChangeShapes Go.WideShapes Go.ChangeAt Go.RowKit
open Go.ChangeMaps (open_string shut_string)
open Go.Proofs.YthmmdmnbcecooaaW.PrintWords
set_option linter.unusedVariables false
theorem own : ownKnob Try.prog.godebug = none := by kernel_rfl
theorem laidOut : laidOutB Try.prog = true := by kernel_rfl
def IsRow (k : IntKind) (w : World) (a : Option Addr) (len cap : Nat) (zs : List Int) : Prop :=
  (a = none ∧ len = 0 ∧ cap = 0 ∧ zs = []) ∨
  ∃ x, a = some x ∧ len ≤ cap ∧ cap ≤ maxLen ∧ zs.length = cap ∧ (∀ i, i < zs.length → w.cell? (x.add i) = some (.int k (zs.getD i 0))) ∧ ∀ n ∈ zs, (Lit.int k n).wf = true
set_option maxRecDepth 100000 in
theorem lifted (os : Os) (started : os.Started) (H : Type) (enc : TypeId × Value → H) :
    ReturnsInHanded {} Try.checked os 12 .any (Rows.documentAlignSpec.pre6 enc Try.prog Try.f12 Rows.documentAlignRow.domain false) (Rows.documentAlignSpec.post enc Try.prog Try.f12 false true false false) := by
  refine returnsInHanded_of_change_sized (C := Try.checked) own started (by kernel_rfl) Try.func12
    (ChangeSpec.witness6 (enc := enc) (C := Try.checked) false ⟨#[], #[.slice none 0 0, .slice none 0 0, .int .u8 0], []⟩ 8 (by kernel_rfl) (by kernel_rfl) (by kernel_rfl) (by kernel_rfl)) ?_
  intro W base args ds gs before hval0 hW hcnd hsz0 _
  have hsz : (DataW.weightsEach Try.prog (Try.f12.params.toList ++ Rows.documentAlignSpec.plain.varTypes Try.prog) (ds ++ gs)).all (· ≤ reachBytes) = true := hsz0
  have hval : ∀ (j : Nat) t v, Try.f12.params[j]? = some t → args[j]? = some v → Value.okWide Try.prog W .any base t v := hval0
  have hW' := hW
  obtain ⟨p, q, hA0, hV, rfl, hfz, hnd⟩ := hW
  have hA : DataW.TrodAll enc Try.prog W 0 (fun _ => true) true Try.f12.params.toList args.toList ds p := hA0
  rw [Try.params12] at hA hval hsz
  obtain ⟨v0, vs0, d0, ds0, p0, q0, hargs, rfl, rfl, h0, r0⟩ := trodAll_cons hA
  obtain ⟨v1, vs1, d1, ds1, p1, q1, rfl, rfl, rfl, h1, r1⟩ := trodAll_cons r0
  obtain ⟨v2, vs2, d2, ds2, p2, q2, rfl, rfl, rfl, h2, r2⟩ := trodAll_cons r1
  obtain ⟨rfl, rfl, rfl⟩ := trodAll_nil r2
  obtain rfl : args = #[v0, v1, v2] := by cases args; simp_all
  obtain ⟨rfl, rfl⟩ := trodVars_none hV
  obtain ⟨a0, len0, cap0, rfl⟩ := okWide_slice Try.underlying22 (hval 0 22 v0 rfl rfl)
  have k0 := h0
  have lt0 : ∀ x ∈ p0, x.block < W.heap.size := by obtain ⟨m, hm⟩ := k0; exact DataW.trod_lt m _ _ _ hm
  obtain ⟨z0, w0⟩ : ∃ zs, IsRow .u8 W a0 len0 cap0 zs := by
    obtain ⟨fuel, hf⟩ := h0
    rcases open_ints Try.underlying22 Try.underlying5 (by kernel_rfl) hf with ⟨hcs, _⟩ | ⟨x, l, c, zs, hcs, _, hl, hm, hz, _, hcell, hwz⟩
    · simp [Value.cells] at hcs
      obtain ⟨rfl, rfl, rfl⟩ := hcs
      exact ⟨[], .inl ⟨rfl, rfl, rfl, rfl⟩⟩
    · simp [Value.cells] at hcs
      obtain ⟨rfl, rfl, rfl⟩ := hcs
      exact ⟨zs, .inr ⟨_, rfl, hl, hm, by simpa using hz, hcell, hwz⟩⟩
  have y0 : len0 * 1 ≤ 140737488351232 := sized_ints hsz (j := 0) (t := 22) rfl rfl Try.underlying22 Try.underlying5 (by kernel_rfl) (by kernel_rfl) h0
  obtain ⟨l0, rfl, hr0, hm0, hw0, hc0⟩ := ReadsInt.ofRowC w0
  obtain ⟨a1, len1, cap1, rfl⟩ := okWide_slice Try.underlying23 (hval 1 23 v1 rfl rfl)
  have k1 := h1
  have lt1 : ∀ x ∈ p1, x.block < W.heap.size := by obtain ⟨m, hm⟩ := k1; exact DataW.trod_lt m _ _ _ hm
  obtain ⟨l1, rfl, hr1, hm1, hc1⟩ := A.bools_arg Try.underlying23 Try.underlying4 (by kernel_rfl) h1
  obtain ⟨a2, rfl, rfl, rfl, w2⟩ := open_int Try.underlying5 (hval 2 5 v2 rfl rfl) h2
  clear hA0 hval0 hsz0 hsz
  refine (A.documentAlign_walk W a0 cap0 l0 (Kd.C_of_reads (d := (0 : Int)) (h1 := fun _ => rfl) hr0) hc0 hw0 y0 a1 cap1 l1 hr1 hc1 hm1 a2 w2).mono fun e W' ⟨he, bel⟩ => ?_
  subst he
  exact ⟨_, rfl, _, _, _, [], _, [], hW', trodAll_mk1 (shut_bool Try.underlying4 _), (trodAll_cons_mk (Below.trod laidOut (by kernel_rfl) (of_decide_eq_true (by kernel_rfl)) k0 bel lt0) (trodAll_cons_mk (Below.trod laidOut (by kernel_rfl) (of_decide_eq_true (by kernel_rfl)) k1 bel lt1) (trodAll_cons_mk (shut_int Try.underlying5 w2) trodAll_mk0))), rfl, bel.frame _, fun h => by cases h⟩
theorem over : Rows.documentAlignRow.holds Try.pinned (OpenSpec.ofChange Rows.documentAlignSpec) :=
  OpenClaim.holds_of_wide 12 Try.f12 rfl rfl rfl rfl rfl rfl rfl ⟨rfl, rfl, rfl, rfl, rfl⟩ rfl rfl rfl rfl rfl (by kernel_rfl) Try.func12 (by kernel_rfl)
    (of_decide_eq_true (by kernel_rfl)) (by unfold Func.isWrapper; first | (rw [if_pos (by decide +kernel)]; kernel_rfl) | (rw [if_neg (by decide +kernel)]; exact ⟨rfl, rfl⟩))
    (fun os started H enc _ => lifted os started H enc)
theorem proved : Rows.DocumentAlignSaid := over
end Go.Proofs.Ythmmdmnbcecooaa.documentAlign
namespace Go.Proofs.Ythmmdmnbcecooaa
/-- The row, under a short name, for the claim. -/
theorem documentAlign_holds : Rows.DocumentAlignSaid := documentAlign.proved
#print axioms documentAlign_holds
end Go.Proofs.Ythmmdmnbcecooaa
