/- K2, PureDocumentAlign, A26S, Q13, PureDocumentIndentation, LawDocumentIndentation: texts of this seat, one behind the other. No condition of its own. -/
import Derived.Test.YthmmdmnbcecooaaZB
import Derived.Test.YthmmdmnbcecooaaZD
import Derived.Test.YthmmdmnbcecooaaZA
import Derived.Test.YthmmdmnbcecooaaRows
import Derived.Test.YthmmdmnbcecooaaWSized
import Derived.WalkKit
import Derived.ProofKit
import Derived.OpenShut
import Derived.ShutString
import Derived.ChangeOld
import Derived.ChangeSlices
import Derived.Below
import Derived.SizedLaws
/-! K2 -/
namespace Go.Proofs.Ythmmdmnbcecooaa.A
open Go.RowKit Go.Proofs.YthmmdmnbcecooaaW.PrintWords Go.Proofs.YthmmdmnbcecooaaW.PrintLast Go.Proofs.YthmmdmnbcecooaaW.PrintMore
set_option linter.unusedVariables false
set_option linter.unusedSimpArgs false

def Docs (w0 W : World) (L : List (Option Addr × List S42)) : Prop := Below w0.heap.size w0 W ∧ ∀ p ∈ L, Kd.C k42 W p.1 p.2.length p.2
section
variable {w0 W W' : World} {L : List (Option Addr × List S42)}
theorem Docs.nil (w0 : World) : Docs w0 w0 [] := ⟨Below.refl _ _, fun p hp => by cases hp⟩
theorem Docs.step (h : Docs w0 W L) (hb : Below W.heap.size W W') : Docs w0 W' L := ⟨below_then h.1 h.1.size hb, fun p hp => Kd.C_below (h.2 p hp) hb⟩
theorem Docs.add (h : Docs w0 W L) {A : Option Addr} {D : List S42} (hC : Kd.C k42 W A D.length D) : Docs w0 W ((A, D) :: L) :=
  ⟨h.1, fun p hp => by
    rcases List.mem_cons.1 hp with rfl | hp
    · exact hC
    · exact h.2 p hp⟩
theorem Docs.alloc (h : Docs w0 W L) (o : Obj) : Docs w0 (W.alloc o) L := h.step (below_alloc (Below.refl _ _) o)
theorem Docs.drewN (h : Docs w0 W L) (n : Nat) : Docs w0 (W.drewN n) L := h.step (pw_below_drewN (Below.refl _ _) n)
theorem Docs.drawn (h : Docs w0 W L) (hd : Drawn0 W W') : Docs w0 W' L := by
  obtain ⟨n, rfl⟩ := hd.out
  exact h.drewN n
theorem Docs.get (h : Docs w0 W L) {A : Option Addr} {D : List S42} (hm : (A, D) ∈ L) : Kd.C k42 W A D.length D := h.2 _ hm
theorem Docs.bools (h : Docs w0 W L) {A : Option Addr} {l : List Bool} (hC : Kd.C Kd.bool w0 A l.length l) : Kd.C Kd.bool W A l.length l := Kd.C_below hC h.1
end

theorem made_step (D : List S42) (A0 : Option Addr) (c0 : Nat) (l0 : List Int) (a1 : Int) (w : World) (hr0 : Kd.C (Kd.int .u8) w A0 l0.length l0) (hc0 : l0.length ≤ c0) (h : koineref25_Made.f l0 a1 = some D) :
    Calls Try.prog 21 #[.slice A0 l0.length c0, .int .i64 a1] w (DocPost D w) :=
  (koineref25_Made.calls A0 c0 l0 a1 D w hr0 hc0 h).mono fun _ _ h => .of h

end Go.Proofs.Ythmmdmnbcecooaa.A

/-! PureDocumentAlign -/
namespace Go.Proofs.Ythmmdmnbcecooaa.A
open Go.RowKit Go.Proofs.YthmmdmnbcecooaaW.PrintWords Go.Proofs.YthmmdmnbcecooaaW.PrintLast Go.Proofs.YthmmdmnbcecooaaW.PrintMore
attribute [local go_sem] max2_int min2_int max_two min_two max_three min_three max_four min_four
set_option linter.unusedVariables false
set_option linter.unusedSimpArgs false

def alphaS : ByteArray := ⟨#[97, 98, 99, 100, 101, 102, 103, 104, 105, 106, 107, 108, 109, 110, 111, 112, 113, 114, 115, 116]⟩
def headS (a : Int) : ByteArray := alphaS.extract 0 (1 + a % 20).toNat

/-- What the walk needs: the documents that the law makes. -/
structure AlignOk (D : List S42) (S : ByteArray) (fl : List Bool) (k : Nat) (R : ByteArray) : Prop where
  len : D.length ≤ 10000
  r1 : koinelaw25_render.f k (seqD (textD S) (wrapD 5 0 D)) fl = some R
  r2 : koinelaw25_render.f k (seqD (textD S) (wrapD 4 S.size D)) fl = some R

set_option maxHeartbeats 1000000 in
set_option maxRecDepth 100000 in
theorem align_has (w : World) (A0 : Option Addr) (c0 : Nat) (l0 : List Int) (A1 : Option Addr) (c1 n1 : Nat) (a2 : Int) (hr0 : Kd.C (Kd.int .u8) w A0 l0.length l0) (hc0 : l0.length ≤ c0)
    (D : List S42) (k : Nat) (hM : koineref25_Made.f l0 40 = some D) (hH : koineref25_Has.f k D 5 = some true) :
    Calls Try.prog 12 #[.slice A0 l0.length c0, .slice A1 n1 c1, .int .u8 a2] w fun e w' => e = .returned (.bool true) ∧ Below w.heap.size w w' := by
  have HR0 := Aside0.mk hr0
  have HM := Aside0.mk hM
  have HH := Aside0.mk hH
  clear hr0 hM hH
  go_enter Try.func12, Try.ntmps12
  go_wp2_with fail
  refine (koinelaw25_sanity.calls true _ rfl).mono ?_
  rintro e w1 ⟨rfl, hb⟩
  have HB := Aside0.mk hb
  clear hb
  go_wp2_with fail
  refine (made_step D A0 c0 l0 40 _ (Kd.C_below HR0.out HB.out) hc0 HM.out).mono ?_
  rintro e w2 ⟨A, c, rfl, hc, hC, hb⟩
  have HD := Aside0.mk (((Docs.nil w).step HB.out).step hb |>.add hC)
  clear hC hb
  go_wp2_with fail
  refine (koineref25_Has.calls k A c D 5 true _ (HD.out.get (by simp)) hc HH.out).mono ?_
  rintro e w3 ⟨rfl, hb⟩
  have HD3 := Aside0.mk (HD.out.drawn hb)
  clear hb
  go_wp2_with fail
  go_ret
  exact ⟨rfl, HD3.out.1⟩

set_option maxHeartbeats 1000000 in
set_option maxRecDepth 100000 in
theorem align_calls (w : World) (A0 : Option Addr) (c0 : Nat) (l0 : List Int) (A1 : Option Addr) (c1 : Nat) (l1 : List Bool) (a2 : Int) (hr0 : Kd.C (Kd.int .u8) w A0 l0.length l0) (hc0 : l0.length ≤ c0) (hr1 : Kd.C Kd.bool w A1 l1.length l1) (hc1 : l1.length ≤ c1)
    (D : List S42) (k : Nat) (R : ByteArray) (hM : koineref25_Made.f l0 40 = some D) (hH : koineref25_Has.f k D 5 = some false) (h1 : 0 ≤ a2) (h2 : a2 ≤ 255) (ho : AlignOk D (headS a2) l1 k R) :
    Calls Try.prog 12 #[.slice A0 l0.length c0, .slice A1 l1.length c1, .int .u8 a2] w fun e w' => e = .returned (.bool true) ∧ Below w.heap.size w w' := by
  have HR0 := Aside0.mk hr0
  have HR1 := Aside0.mk hr1
  have HM := Aside0.mk hM
  have HH := Aside0.mk hH
  have HO := Aside0.mk ho
  clear hr0 hr1 hM hH ho
  go_enter Try.func12, Try.ntmps12
  go_wp2_with fail
  refine (koinelaw25_sanity.calls true _ rfl).mono ?_
  rintro e w1 ⟨rfl, hb⟩
  have HB := Aside0.mk hb
  clear hb
  go_wp2_with fail
  refine (made_step D A0 c0 l0 40 _ (Kd.C_below HR0.out HB.out) hc0 HM.out).mono ?_
  rintro e w2 ⟨A, c, rfl, hc, hC, hb⟩
  have HD := Aside0.mk (((Docs.nil w).step HB.out).step hb |>.add hC)
  clear hC hb
  go_wp2_with fail
  refine (koineref25_Has.calls k A c D 5 false _ (HD.out.get (by simp)) hc HH.out).mono ?_
  rintro e w3 ⟨rfl, hb⟩
  have HD3 := Aside0.mk (HD.out.drawn hb)
  clear hb
  go_wp2_with fail
  generalize hS : ByteArray.extract _ 0 (1 + a2 % 20).toNat = S
  have HS := Aside0.mk (show headS a2 = S from hS)
  clear hS
  refine (text_step (textD S) S _ rfl).mono ?_
  rintro e w4 ⟨A4, c4, rfl, hc4, hC, hb⟩
  have HD4 := Aside0.mk ((HD3.out.step hb).add hC)
  clear hC hb
  go_wp2_with fail
  refine (wrap_step (wrapD 5 0 D) D 5 0 A c _ rfl (by have := HO.out.len; omega) (HD4.out.get (by simp)) hc).mono ?_
  rintro e w5 ⟨A5, c5, rfl, hc5, hC, hb⟩
  have HD5 := Aside0.mk ((HD4.out.step hb).add hC)
  clear hC hb
  go_wp2_with fail
  refine (seq_step (seqD (textD S) (wrapD 5 0 D)) (textD S) (wrapD 5 0 D) A4 c4 A5 c5 _ rfl (by have := HO.out.len; rw [wrapD_length]; show 1 + _ ≤ _; omega) (HD5.out.get (by simp)) hc4 (HD5.out.get (by simp)) hc5).mono ?_
  rintro e w6 ⟨A6, c6, rfl, hc6, hC, hb⟩
  have HD6 := Aside0.mk ((HD5.out.step hb).add hC)
  clear hC hb
  go_wp2_with fail
  refine (koinelaw25_render.calls k A6 c6 _ A1 c1 l1 R _ (HD6.out.get (by simp)) hc6 (HD6.out.bools HR1.out) hc1 (by rw [← HS.out]; exact HO.out.r1)).mono ?_
  rintro e w7 ⟨rfl, hb⟩
  have HD7 := Aside0.mk (HD6.out.step hb)
  clear hb
  go_wp2_with fail
  refine (text_step (textD S) S _ rfl).mono ?_
  rintro e w8 ⟨A8, c8, rfl, hc8, hC, hb⟩
  have HD8 := Aside0.mk ((HD7.out.step hb).add hC)
  clear hC hb
  go_wp2_with fail
  refine (wrap_step (wrapD 4 S.size D) D 4 S.size A c _ rfl (by have := HO.out.len; omega) (HD8.out.get (by simp)) hc).mono ?_
  rintro e w9 ⟨A9, c9, rfl, hc9, hC, hb⟩
  have HD9 := Aside0.mk ((HD8.out.step hb).add hC)
  clear hC hb
  go_wp2_with fail
  refine (seq_step (seqD (textD S) (wrapD 4 S.size D)) (textD S) (wrapD 4 S.size D) A8 c8 A9 c9 _ rfl (by have := HO.out.len; rw [wrapD_length]; show 1 + _ ≤ _; omega) (HD9.out.get (by simp)) hc8 (HD9.out.get (by simp)) hc9).mono ?_
  rintro e w10 ⟨A10, c10, rfl, hc10, hC, hb⟩
  have HD10 := Aside0.mk ((HD9.out.step hb).add hC)
  clear hC hb
  go_wp2_with fail
  refine (koinelaw25_render.calls k A10 c10 _ A1 c1 l1 R _ (HD10.out.get (by simp)) hc10 (HD10.out.bools HR1.out) hc1 (by rw [← HS.out]; exact HO.out.r2)).mono ?_
  rintro e w11 ⟨rfl, hb⟩
  have HD11 := Aside0.mk (HD10.out.step hb)
  clear hb
  go_wp2_with fail
  go_ret
  exact ⟨rfl, HD11.out.1⟩

/-! ### The plain law -/
theorem has_loop (l : List S42) (q : Int) (hl : l.length ≤ 1000000) : ∀ (d j k : Nat), j + d = l.length → d < k → koineref25_Has.l0 k l q j = some ((l.drop j).any fun x => decide (x.f0 = q))
  | 0, j, k, hj, hk => by
    obtain ⟨k, rfl⟩ : ∃ m, k = m + 1 := ⟨k - 1, by omega⟩
    rw [koineref25_Has.l0, if_neg (by omega), List.drop_eq_nil_of_le (by omega)]
    rfl
  | d + 1, j, k, hj, hk => by
    obtain ⟨k, rfl⟩ : ∃ m, k = m + 1 := ⟨k - 1, by omega⟩
    have hlt : j < l.length := by omega
    rw [koineref25_Has.l0, if_pos (by omega), if_pos (by omega), rd42_nat, List.drop_eq_getElem_cons hlt, wrap64_small (by omega) (by omega), show (j : Int) + 1 = ((j + 1 : Nat) : Int) by omega, show l.getD j z42 = l[j] from by simp [List.getD, hlt]]
    simp only [List.any_cons]
    by_cases e : (l[j]).f0 = q
    · rw [if_pos e, decide_eq_true e]; rfl
    · rw [if_neg e, decide_eq_false e, has_loop l q hl d (j + 1) k (by omega) (by omega)]; rfl
theorem has_f (l : List S42) (q : Int) (hl : l.length ≤ 1000000) {k : Nat} (hk : l.length < k) : koineref25_Has.f k l q = some (l.any fun x => decide (x.f0 = q)) := by
  have := has_loop l q hl l.length 0 k (by omega) hk
  unfold koineref25_Has.f
  simpa using this

theorem fits_of {t : Doc} {a b : Nat} (h1 : wt t ≤ a) (h2 : lv t ≤ b) (ha : a ≤ 1000000) (hb : b ≤ 1000000) : Fits t := by
  refine ⟨by omega, ?_⟩
  have := Nat.mul_le_mul h2 (show wt t + 1 ≤ a + 1 by omega)
  have := Nat.mul_le_mul hb (show a + 1 ≤ 1000001 by omega)
  omega

theorem wrP_align (t : Doc) (ind : Int) (flat : Bool) (fl : List Bool) (st : St) (h : st.col ≠ 0) : wrP (.align t) ind flat fl st = wrP t st.col flat fl st := by
  show wrP t (if st.col = 0 then st.pend else st.col) flat fl st = _
  rw [if_neg h]
theorem rnd_align (S : ByteArray) (hS : S.data.toList ≠ []) (t : Doc) (fl : List Bool) : rnd (.seq (.text S) (.align t)) fl = rnd (.seq (.text S) (.nest S.size t)) fl := by
  have hl := data_length S
  have hp : 0 < S.data.toList.length := List.length_pos_iff.2 hS
  have e1 : (addT st0 S.data.toList).col = (S.size : Int) := by
    unfold addT
    rw [if_neg hS, if_pos (show st0.col = 0 from rfl)]
    simp [st0, hl]
  show (wrP (.align t) 0 false _ (addT st0 S.data.toList)).out = (wrP t (0 + (S.size : Int)) false _ (addT st0 S.data.toList)).out
  rw [wrP_align _ _ _ _ _ (by omega), e1, Int.zero_add]
  rfl

theorem head_facts {a : Int} (h1 : 0 ≤ a) (h2 : a ≤ 255) : (headS a).data.toList ≠ [] ∧ (headS a).size ≤ 20 ∧ Lib.indexByte (headS a).data.toList 10 < 0 := by
  have h : ∀ i : Fin 256, (decide ((headS (i.val : Int)).data.toList ≠ []) && decide ((headS (i.val : Int)).size ≤ 20) && decide (Lib.indexByte (headS (i.val : Int)).data.toList 10 < 0)) = true := by decide +kernel
  have := h ⟨a.toNat, by omega⟩
  simp only [Int.toNat_of_nonneg h1, Bool.and_eq_true, decide_eq_true_iff] at this
  exact ⟨this.1.1, this.1.2, this.2⟩

theorem align_ok {l0 : List Int} (hb : ∀ x ∈ l0, 0 ≤ x ∧ x ≤ 255) (fl : List Bool) {a : Int} (h1 : 0 ≤ a) (h2 : a ≤ 255) : ∃ R, AlignOk (madeDoc l0 40) (headS a) fl 2000000 R := by
  have hd : Doc20 (madeDoc l0 40) := made_doc hb (by decide)
  have hs : MadeP (madeDoc l0 40) := made_shape hb (by decide)
  have hn := (made_good (most := 40) hb (by decide)).2
  obtain ⟨f1, f2, f3⟩ := head_facts h1 h2
  have hx := data_length (headS a)
  have gt := text_ok f3
  have hl1 : (textD (headS a)).length = 1 := rfl
  have hw : ∀ kind n : Int, (kind = 5 ∧ n = 0 ∨ kind = 4 ∧ n = (headS a).size) → Good (wrapD kind n (madeDoc l0 40)) := fun kind n h => good_wrap hd.good (by omega) (by omega) (by omega) (by omega)
  have hwl : ∀ kind n : Int, (wrapD kind n (madeDoc l0 40)).length = (madeDoc l0 40).length + 1 := fun kind n => wrapD_length _ _ _
  have e1 : E (seqD (textD (headS a)) (wrapD 5 0 (madeDoc l0 40))) = .seq (.text (headS a)) (.align (E (madeDoc l0 40))) := by
    rw [E_seq gt (hw 5 0 (.inl ⟨rfl, rfl⟩)) (by rw [hwl, hl1]; omega), E_align hd.good (by omega)]; rfl
  have e2 : E (seqD (textD (headS a)) (wrapD 4 (headS a).size (madeDoc l0 40))) = .seq (.text (headS a)) (.nest (headS a).size (E (madeDoc l0 40))) := by
    rw [E_seq gt (hw 4 _ (.inr ⟨rfl, rfl⟩)) (by rw [hwl, hl1]; omega), E_nest hd.good (by omega) (by omega)]; rfl
  have d1 : Doc20 (seqD (textD (headS a)) (wrapD 5 0 (madeDoc l0 40))) := ⟨good_seq gt (hw 5 0 (.inl ⟨rfl, rfl⟩)) (by rw [hwl, hl1]; omega), (Tb.text f2).seq (hd.tb.wrap _ _), by
    rw [e1]
    have := hs.2
    exact fits_of (a := 10000) (b := 10000) (by simp only [wt]; omega) (by simp only [lv]; omega) (by omega) (by omega)⟩
  have d2 : Doc20 (seqD (textD (headS a)) (wrapD 4 (headS a).size (madeDoc l0 40))) := ⟨good_seq gt (hw 4 _ (.inr ⟨rfl, rfl⟩)) (by rw [hwl, hl1]; omega), (Tb.text f2).seq (hd.tb.wrap _ _), by
    rw [e2]
    have := hs.2
    exact fits_of (a := 10000) (b := 10000) (by simp only [wt]; omega) (by simp only [lv]; omega) (by omega) (by omega)⟩
  refine ⟨_, by omega, lawrender_f d1 fl (by omega), ?_⟩
  rw [lawrender_f d2 fl (by omega), e1, e2, rnd_align _ f1]

theorem documentAlign_walk (w : World) (A0 : Option Addr) (c0 : Nat) (l0 : List Int) (hr0 : Kd.C (Kd.int .u8) w A0 l0.length l0) (hc0 : l0.length ≤ c0) (hw0 : ∀ x ∈ l0, (Lit.int .u8 x).wf = true) (y0 : l0.length * 1 ≤ 140737488351232)
    (A1 : Option Addr) (c1 : Nat) (l1 : List Bool) (hr1 : Kd.C Kd.bool w A1 l1.length l1) (hc1 : l1.length ≤ c1) (hm1 : l1.length ≤ maxLen) (a2 : Int) (w2 : (Lit.int .u8 a2).wf = true) :
    Calls Try.prog 12 #[.slice A0 l0.length c0, .slice A1 l1.length c1, .int .u8 a2] w fun e w' => e = .returned (.bool true) ∧ Below w.heap.size w w' := by
  have hb := bytes_of hw0
  have ha := bytes_of (l := [a2]) (fun x hx => by rw [List.mem_singleton.1 hx]; exact w2) a2 (by simp)
  have hn := (made_good (most := 40) hb (by decide)).2
  have hM := made_f (most := 40) hb (by decide) (by omega : l0.length ≤ 281474976710656)
  have hH := has_f (madeDoc l0 40) 5 (by omega) (k := 2000000) (by omega)
  cases h : (madeDoc l0 40).any (fun x => decide (x.f0 = 5)) with
  | true =>
    rw [h] at hH
    exact align_has w A0 c0 l0 A1 c1 l1.length a2 hr0 hc0 _ _ hM hH
  | false =>
    rw [h] at hH
    obtain ⟨R, ho⟩ := align_ok hb l1 ha.1 ha.2
    exact align_calls w A0 c0 l0 A1 c1 l1 a2 hr0 hc0 hr1 hc1 _ _ R hM hH ha.1 ha.2 ho

end Go.Proofs.Ythmmdmnbcecooaa.A

/-! A26S -/
namespace Go.Proofs.Ythmmdmnbcecooaa.A
open Go.RowKit Go.Proofs.YthmmdmnbcecooaaW.PrintWords Go.Proofs.YthmmdmnbcecooaaW.PrintLast Go.Proofs.YthmmdmnbcecooaaW.PrintMore
attribute [local go_sem] max2_int min2_int max_two min_two max_three min_three max_four min_four   -- for this text's walks alone
set_option linter.unusedVariables false
set_option linter.unusedSimpArgs false

-- LAW
/-! ### koinelaw25_DocumentIndentation: function 11 -/
def koinelaw25_DocumentIndentation.l0 : Nat → Bool → ByteArray → ByteArray → ByteArray → List Int → Bool → Int → Option (Bool)
  | 0, _, _, _, _, _, _, _ => none
  | k + 1, x7, x10, x11, x12, x13, x14, x15 => if x15 < (x10.size : Int) then (if x14 = true then (if 0 ≤ x15 then (if x13.length < 140737488355328 then (koinelaw25_DocumentIndentation.l0 k x7 x10 x11 x12 (x13 ++ [bt x10 x15]) ((bt x10 x15) != 10) (wrap64 (x15 + 1))) else (none)) else (none)) else (if 0 ≤ x15 then (if (bt x10 x15) = 10 then (if x13.length < 140737488355328 then (koinelaw25_DocumentIndentation.l0 k x7 x10 x11 x12 (x13 ++ [bt x10 x15]) false (wrap64 (x15 + 1))) else (none)) else (if 0 ≤ (wrap64 (x15 - 1)) then (if (wrap64 (x15 - 1)) < (x10.size : Int) then (if (bt x10 (wrap64 (x15 - 1))) = 10 then (if x13.length + x12.size < 140737488355328 then ((some (x13 ++ bytesOf x12 : List Int)).bind fun y443 => (if y443.length < 140737488355328 then (koinelaw25_DocumentIndentation.l0 k x7 x10 x11 x12 (y443 ++ [bt x10 x15]) false (wrap64 (x15 + 1))) else (none))) else (none)) else (if x13.length < 140737488355328 then (koinelaw25_DocumentIndentation.l0 k x7 x10 x11 x12 (x13 ++ [bt x10 x15]) false (wrap64 (x15 + 1))) else (none))) else (none)) else (none))) else (none))) else (if (strOfNums x13).toList = x11.toList then (some x7) else (some false))
def koinelaw25_DocumentIndentation.f (k : Nat) (l0 : List Int) (l1 : List Bool) (a2 : Int) : Option (Bool) := (koinelaw25_sanity.f).bind fun t424 => ((koineref25_Made.f l0 50).bind fun t425 => ((koineref25_Has.f k t425 5).bind fun t428 => (if t428 = true then (some t424) else ((koinelaw25_render.f k t425 l1).bind fun t429 => ((koineref25_Wrap.f 4 (Int.tmod (wrap64 (a2)) 20) t425).bind fun t430 => ((koinelaw25_render.f k t430 l1).bind fun t433 => (if 0 ≤ (Int.tmod (wrap64 (a2)) 20) then (if (Int.tmod (wrap64 (a2)) 20) ≤ 20 then (koinelaw25_DocumentIndentation.l0 k t424 t429 t433 ((⟨#[32, 32, 32, 32, 32, 32, 32, 32, 32, 32, 32, 32, 32, 32, 32, 32, 32, 32, 32, 32]⟩ : ByteArray).extract 0 ((Int.tmod (wrap64 (a2)) 20) : Int).toNat) (([] : List Int)) true 0) else (none)) else (none))))))))
theorem koinelaw25_DocumentIndentation.mono_l : ∀ k, (∀ y0 y1 y2 y3 y4 y5 y6, LeO (koinelaw25_DocumentIndentation.l0 k y0 y1 y2 y3 y4 y5 y6) (koinelaw25_DocumentIndentation.l0 (k + 1) y0 y1 y2 y3 y4 y5 y6))
  | 0 => fun _ _ _ _ _ _ _ r h => by simp [koinelaw25_DocumentIndentation.l0] at h
  | k + 1 => by
    have ih0 := koinelaw25_DocumentIndentation.mono_l k
    · intro y0 y1 y2 y3 y4 y5 y6
      unfold koinelaw25_DocumentIndentation.l0
      repeat' first
      | (with_reducible exact ih0 _ _ _ _ _ _ _)
      | (with_reducible exact koinelaw25_render.mono _ _ _)
      | (with_reducible exact koineref25_Has.mono _ _ _)
      | (with_reducible exact LeO.refl _)
      | (with_reducible exact LeO.none _)
      | (with_reducible refine LeO.ite ?_ ?_)
      | (with_reducible refine LeO.bind ?_ (fun _ => ?_))
      | exact ih0 _ _ _ _ _ _ _
      | exact koinelaw25_render.mono _ _ _
      | exact koineref25_Has.mono _ _ _
      | exact LeO.none _
      | refine LeO.ite ?_ ?_
      | refine LeO.bind ?_ (fun _ => ?_)
theorem koinelaw25_DocumentIndentation.mono : ∀ a0 a1 a2 k, LeO (koinelaw25_DocumentIndentation.f k a0 a1 a2) (koinelaw25_DocumentIndentation.f (k + 1) a0 a1 a2) := by
  intro a0 a1 a2 k
  have ih0 := koinelaw25_DocumentIndentation.mono_l k
  unfold koinelaw25_DocumentIndentation.f
  repeat' first
      | (with_reducible exact ih0 _ _ _ _ _ _ _)
      | (with_reducible exact koinelaw25_render.mono _ _ _)
      | (with_reducible exact koineref25_Has.mono _ _ _)
      | (with_reducible exact LeO.refl _)
      | (with_reducible exact LeO.none _)
      | (with_reducible refine LeO.ite ?_ ?_)
      | (with_reducible refine LeO.bind ?_ (fun _ => ?_))
      | exact ih0 _ _ _ _ _ _ _
      | exact koinelaw25_render.mono _ _ _
      | exact koineref25_Has.mono _ _ _
      | exact LeO.none _
      | refine LeO.ite ?_ ?_
      | refine LeO.bind ?_ (fun _ => ?_)
set_option maxHeartbeats 8000000 in
set_option maxRecDepth 100000 in
theorem koinelaw25_DocumentIndentation.calls (k : Nat) (A0 : Option Addr) (c0 : Nat) (l0 : List Int) (A1 : Option Addr) (c1 : Nat) (l1 : List Bool) (a2 : Int) (r : Bool) (hr : Aside0 (r = true)) (w : World) (hr0 : Kd.C (Kd.int .u8) w A0 l0.length l0) (hc0 : l0.length ≤ c0) (hr1 : Kd.C Kd.bool w A1 l1.length l1) (hc1 : l1.length ≤ c1) (h : koinelaw25_DocumentIndentation.f k l0 l1 a2 = some r) :
    Calls Try.prog 11 #[.slice A0 l0.length c0, .slice A1 l1.length c1, .int .u8 a2] w fun e w' => e = .returned (.bool r) ∧ Below w.heap.size w w' := by
  have HR0 := Aside0.mk hr0
  have HC0 := Aside0.mk hc0
  clear hr0 hc0
  have HR1 := Aside0.mk hr1
  have HC1 := Aside0.mk hc1
  clear hr1 hc1
  have HB := Aside0.mk (Below.refl w.heap.size w)
  have H : ((koinelaw25_sanity.f).bind fun t424 => ((koineref25_Made.f l0 50).bind fun t425 => ((koineref25_Has.f k t425 5).bind fun t428 => (if t428 = true then (some t424) else ((koinelaw25_render.f k t425 l1).bind fun t429 => ((koineref25_Wrap.f 4 (Int.tmod (wrap64 (a2)) 20) t425).bind fun t430 => ((koinelaw25_render.f k t430 l1).bind fun t433 => (if 0 ≤ (Int.tmod (wrap64 (a2)) 20) then (if (Int.tmod (wrap64 (a2)) 20) ≤ 20 then (koinelaw25_DocumentIndentation.l0 k t424 t429 t433 ((⟨#[32, 32, 32, 32, 32, 32, 32, 32, 32, 32, 32, 32, 32, 32, 32, 32, 32, 32, 32, 32]⟩ : ByteArray).extract 0 ((Int.tmod (wrap64 (a2)) 20) : Int).toNat) (([] : List Int)) true 0) else (none)) else (none))))))))) = some r := h
  clear h
  replace H := Option.bind_eq_some_iff.mp H
  obtain ⟨t424, A40, H⟩ := H
  replace H : ((koineref25_Made.f l0 50).bind fun t425 => ((koineref25_Has.f k t425 5).bind fun t428 => (if t428 = true then (some t424) else ((koinelaw25_render.f k t425 l1).bind fun t429 => ((koineref25_Wrap.f 4 (Int.tmod (wrap64 (a2)) 20) t425).bind fun t430 => ((koinelaw25_render.f k t430 l1).bind fun t433 => (if 0 ≤ (Int.tmod (wrap64 (a2)) 20) then (if (Int.tmod (wrap64 (a2)) 20) ≤ 20 then (koinelaw25_DocumentIndentation.l0 k t424 t429 t433 ((⟨#[32, 32, 32, 32, 32, 32, 32, 32, 32, 32, 32, 32, 32, 32, 32, 32, 32, 32, 32, 32]⟩ : ByteArray).extract 0 ((Int.tmod (wrap64 (a2)) 20) : Int).toNat) (([] : List Int)) true 0) else (none)) else (none)))))))) = some r := H
  have A4 := Aside0.mk A40
  clear A40
  replace H := Option.bind_eq_some_iff.mp H
  obtain ⟨t425, A50, H⟩ := H
  replace H : ((koineref25_Has.f k t425 5).bind fun t428 => (if t428 = true then (some t424) else ((koinelaw25_render.f k t425 l1).bind fun t429 => ((koineref25_Wrap.f 4 (Int.tmod (wrap64 (a2)) 20) t425).bind fun t430 => ((koinelaw25_render.f k t430 l1).bind fun t433 => (if 0 ≤ (Int.tmod (wrap64 (a2)) 20) then (if (Int.tmod (wrap64 (a2)) 20) ≤ 20 then (koinelaw25_DocumentIndentation.l0 k t424 t429 t433 ((⟨#[32, 32, 32, 32, 32, 32, 32, 32, 32, 32, 32, 32, 32, 32, 32, 32, 32, 32, 32, 32]⟩ : ByteArray).extract 0 ((Int.tmod (wrap64 (a2)) 20) : Int).toNat) (([] : List Int)) true 0) else (none)) else (none))))))) = some r := H
  have A5 := Aside0.mk A50
  clear A50
  replace H := Option.bind_eq_some_iff.mp H
  obtain ⟨t428, A60, H⟩ := H
  replace H : (if t428 = true then (some t424) else ((koinelaw25_render.f k t425 l1).bind fun t429 => ((koineref25_Wrap.f 4 (Int.tmod (wrap64 (a2)) 20) t425).bind fun t430 => ((koinelaw25_render.f k t430 l1).bind fun t433 => (if 0 ≤ (Int.tmod (wrap64 (a2)) 20) then (if (Int.tmod (wrap64 (a2)) 20) ≤ 20 then (koinelaw25_DocumentIndentation.l0 k t424 t429 t433 ((⟨#[32, 32, 32, 32, 32, 32, 32, 32, 32, 32, 32, 32, 32, 32, 32, 32, 32, 32, 32, 32]⟩ : ByteArray).extract 0 ((Int.tmod (wrap64 (a2)) 20) : Int).toNat) (([] : List Int)) true 0) else (none)) else (none)))))) = some r := H
  have A6 := Aside0.mk A60
  clear A60
  by_cases c7 : t428 = true
  · subst c7
    have H1 : (some t424) = some r := by rw [if_pos rfl] at H; exact H
    clear H
    have H := H1
    clear H1
    obtain rfl := Option.some.inj H
    go_enter Try.func11, Try.ntmps11
    go_wp2_with (first | ((with_reducible refine gate_callee (f := 20) rfl ?_); refine goesL_ (some 16) rfl rfl Try.func20 (by kernel_rfl) rfl #[] rfl (by (try simp only [List.map_toArray, List.map_cons, List.map_nil]); first | done | rfl | (simp only [List.length_drop, List.length_take]; rfl)) ?_; (with_reducible refine (koinelaw25_sanity.calls  t424 _ A4.out).mono ?_); rintro e w8 ⟨rfl, hb⟩; refine ⟨_, rfl, ?_⟩; have n0_ := Aside0.mk (below_step (by repeat (first | (with_reducible first | exact HB.out | apply below_alloc | apply pw_below_drewN | apply below_drew1) | exact HB.out)) hb); clear HB; have HB := n0_; clear n0_; (try clear hb); (try clear hb2); (try clear hk); (try clear hi)) | ((with_reducible refine gate_callee (f := 21) rfl ?_); refine goesL_ (some 18) rfl rfl Try.func21 (by kernel_rfl) rfl #[.slice A0 l0.length c0, .int .i64 50] rfl (by (try simp only [List.map_toArray, List.map_cons, List.map_nil]); first | done | rfl | (simp only [List.length_drop, List.length_take]; rfl)) ?_; (with_reducible refine (koineref25_Made.calls _ _ l0 50 t425 _ ?side1 ?side2 A5.out).mono ?_); (case side1 => repeat (first | exact (Kd.C_below HR0.out HB.out) | (with_reducible refine Kd.C_alloc ?_ _) | (with_reducible refine Kd.C_drewN ?_ _) | (with_reducible refine Kd.C_drew ?_))); (case side2 => exact HC0.out); rintro e w9 ⟨v426, rfl, ho0, hb⟩; refine ⟨_, rfl, ?_⟩; have n0_ := Aside0.mk (Kd.R_lower ho0 (below_size (by repeat (first | (with_reducible first | exact HB.out | apply below_alloc | apply pw_below_drewN | apply below_drew1) | exact HB.out)))); have n1_ := Aside0.mk (below_step (by repeat (first | (with_reducible first | exact HB.out | apply below_alloc | apply pw_below_drewN | apply below_drew1) | exact HB.out)) hb); clear HB; have HO427 := n0_; have HB := n1_; clear n0_ n1_; (try clear hb); (try clear hb2); (try clear hk); (try clear hi); (try clear ho0); obtain ⟨Ao10, co10, eo10⟩ := Kd.R_slice HO427.out; subst eo10) | ((with_reducible refine gate_callee (f := 37) rfl ?_); refine goesL_ (some 20) rfl rfl Try.func37 (by kernel_rfl) rfl #[.slice Ao10 t425.length co10, .int .i64 5] rfl (by (try simp only [List.map_toArray, List.map_cons, List.map_nil]); first | done | rfl | (simp only [List.length_drop, List.length_take]; rfl)) ?_; (with_reducible refine (koineref25_Has.calls k _ _ t425 5 true _ ?side1 ?side2 A6.out).mono ?_); (case side1 => repeat (first | exact (Kd.R_reads' HO427.out).2.2 | (with_reducible refine Kd.C_alloc ?_ _) | (with_reducible refine Kd.C_drewN ?_ _) | (with_reducible refine Kd.C_drew ?_))); (case side2 => exact (Kd.R_reads' HO427.out).2.1); rintro e w' ⟨rfl, ⟨nd, rfl⟩⟩; refine ⟨_, rfl, ?_⟩))
    go_ret
    exact ⟨by first | rfl | (simp [errW_none, errW_some] <;> rfl) | (simp [*, errW_none, errW_some] <;> rfl), by repeat (first | (with_reducible first | exact HB.out | apply below_alloc | apply pw_below_drewN | apply below_drew1) | exact HB.out)⟩
  · replace c7 := Bool.eq_false_iff.mpr c7
    subst c7
    have H1 : ((koinelaw25_render.f k t425 l1).bind fun t429 => ((koineref25_Wrap.f 4 (Int.tmod (wrap64 (a2)) 20) t425).bind fun t430 => ((koinelaw25_render.f k t430 l1).bind fun t433 => (if 0 ≤ (Int.tmod (wrap64 (a2)) 20) then (if (Int.tmod (wrap64 (a2)) 20) ≤ 20 then (koinelaw25_DocumentIndentation.l0 k t424 t429 t433 ((⟨#[32, 32, 32, 32, 32, 32, 32, 32, 32, 32, 32, 32, 32, 32, 32, 32, 32, 32, 32, 32]⟩ : ByteArray).extract 0 ((Int.tmod (wrap64 (a2)) 20) : Int).toNat) (([] : List Int)) true 0) else (none)) else (none))))) = some r := by rw [if_neg (show ¬ (false = true) by decide)] at H; exact H
    clear H
    have H := H1
    clear H1
    replace H := Option.bind_eq_some_iff.mp H
    obtain ⟨t429, A110, H⟩ := H
    replace H : ((koineref25_Wrap.f 4 (Int.tmod (wrap64 (a2)) 20) t425).bind fun t430 => ((koinelaw25_render.f k t430 l1).bind fun t433 => (if 0 ≤ (Int.tmod (wrap64 (a2)) 20) then (if (Int.tmod (wrap64 (a2)) 20) ≤ 20 then (koinelaw25_DocumentIndentation.l0 k t424 t429 t433 ((⟨#[32, 32, 32, 32, 32, 32, 32, 32, 32, 32, 32, 32, 32, 32, 32, 32, 32, 32, 32, 32]⟩ : ByteArray).extract 0 ((Int.tmod (wrap64 (a2)) 20) : Int).toNat) (([] : List Int)) true 0) else (none)) else (none)))) = some r := H
    have A11 := Aside0.mk A110
    clear A110
    replace H := Option.bind_eq_some_iff.mp H
    obtain ⟨t430, A120, H⟩ := H
    replace H : ((koinelaw25_render.f k t430 l1).bind fun t433 => (if 0 ≤ (Int.tmod (wrap64 (a2)) 20) then (if (Int.tmod (wrap64 (a2)) 20) ≤ 20 then (koinelaw25_DocumentIndentation.l0 k t424 t429 t433 ((⟨#[32, 32, 32, 32, 32, 32, 32, 32, 32, 32, 32, 32, 32, 32, 32, 32, 32, 32, 32, 32]⟩ : ByteArray).extract 0 ((Int.tmod (wrap64 (a2)) 20) : Int).toNat) (([] : List Int)) true 0) else (none)) else (none))) = some r := H
    have A12 := Aside0.mk A120
    clear A120
    replace H := Option.bind_eq_some_iff.mp H
    obtain ⟨t433, A130, H⟩ := H
    replace H : (if 0 ≤ (Int.tmod (wrap64 (a2)) 20) then (if (Int.tmod (wrap64 (a2)) 20) ≤ 20 then (koinelaw25_DocumentIndentation.l0 k t424 t429 t433 ((⟨#[32, 32, 32, 32, 32, 32, 32, 32, 32, 32, 32, 32, 32, 32, 32, 32, 32, 32, 32, 32]⟩ : ByteArray).extract 0 ((Int.tmod (wrap64 (a2)) 20) : Int).toNat) (([] : List Int)) true 0) else (none)) else (none)) = some r := H
    have A13 := Aside0.mk A130
    clear A130
    obtain ⟨ji14, hji14⟩ : ∃ j_ : Int, (Int.tmod (wrap64 (a2)) 20) = j_ := ⟨_, rfl⟩
    replace H : (if 0 ≤ (ji14) then (if (ji14) ≤ 20 then (koinelaw25_DocumentIndentation.l0 k t424 t429 t433 ((⟨#[32, 32, 32, 32, 32, 32, 32, 32, 32, 32, 32, 32, 32, 32, 32, 32, 32, 32, 32, 32]⟩ : ByteArray).extract 0 ((ji14) : Int).toNat) (([] : List Int)) true 0) else (none)) else (none)) = some r := by first | (rw [hji14] at H; exact H) | (simp only [hji14] at H ⊢; exact H)
    (try rw [hji14] at A4)
    (try rw [hji14] at A5)
    (try rw [hji14] at A6)
    (try rw [hji14] at A11)
    (try rw [hji14] at A12)
    (try rw [hji14] at A13)
    by_cases c15 : 0 ≤ (ji14)
    · rw [if_pos c15] at H
      have c15b0 := eq_true c15
      have c15b1 : decide (0 ≤ (ji14)) = true := decide_eq_true c15
      clear c15
      by_cases c16 : (ji14) ≤ 20
      · rw [if_pos c16] at H
        have c16b0 := eq_true c16
        have c16b1 : decide ((ji14) ≤ 20) = true := decide_eq_true c16
        clear c16
        obtain ⟨y434, hy434⟩ : ∃ y_ : List Int, y_ = (([] : List Int)) := ⟨_, rfl⟩
        replace H : (koinelaw25_DocumentIndentation.l0 k t424 t429 t433 ((⟨#[32, 32, 32, 32, 32, 32, 32, 32, 32, 32, 32, 32, 32, 32, 32, 32, 32, 32, 32, 32]⟩ : ByteArray).extract 0 ((ji14) : Int).toNat) y434 true 0) = some r := by first | (rw [hy434]; with_reducible exact H) | (have H2_ := (Option.bind_some _ _).symm.trans H; rw [hy434]; with_reducible exact H2_) | (have H2_ := (Option.bind_some _ _).symm.trans H; with_reducible exact H2_) | with_reducible exact H | (rw [hy434]; exact H) | exact H
        have Ny434 := Aside0.mk hy434
        clear hy434
        have H' := Aside0.mk H
        clear H
        go_enter Try.func11, Try.ntmps11
        go_wp2_with (first | ((with_reducible refine gate_callee (f := 20) rfl ?_); refine goesL_ (some 16) rfl rfl Try.func20 (by kernel_rfl) rfl #[] rfl (by (try simp only [List.map_toArray, List.map_cons, List.map_nil]); first | done | rfl | (simp only [List.length_drop, List.length_take]; rfl)) ?_; (with_reducible refine (koinelaw25_sanity.calls  t424 _ A4.out).mono ?_); rintro e w17 ⟨rfl, hb⟩; refine ⟨_, rfl, ?_⟩; have n0_ := Aside0.mk (below_step (by repeat (first | (with_reducible first | exact HB.out | apply below_alloc | apply pw_below_drewN | apply below_drew1) | exact HB.out)) hb); clear HB; have HB := n0_; clear n0_; (try clear hb); (try clear hb2); (try clear hk); (try clear hi)) | ((with_reducible refine gate_callee (f := 21) rfl ?_); refine goesL_ (some 18) rfl rfl Try.func21 (by kernel_rfl) rfl #[.slice A0 l0.length c0, .int .i64 50] rfl (by (try simp only [List.map_toArray, List.map_cons, List.map_nil]); first | done | rfl | (simp only [List.length_drop, List.length_take]; rfl)) ?_; (with_reducible refine (koineref25_Made.calls _ _ l0 50 t425 _ ?side1 ?side2 A5.out).mono ?_); (case side1 => repeat (first | exact (Kd.C_below HR0.out HB.out) | (with_reducible refine Kd.C_alloc ?_ _) | (with_reducible refine Kd.C_drewN ?_ _) | (with_reducible refine Kd.C_drew ?_))); (case side2 => exact HC0.out); rintro e w18 ⟨v426, rfl, ho0, hb⟩; refine ⟨_, rfl, ?_⟩; have n0_ := Aside0.mk (Kd.R_lower ho0 (below_size (by repeat (first | (with_reducible first | exact HB.out | apply below_alloc | apply pw_below_drewN | apply below_drew1) | exact HB.out)))); have n1_ := Aside0.mk (below_step (by repeat (first | (with_reducible first | exact HB.out | apply below_alloc | apply pw_below_drewN | apply below_drew1) | exact HB.out)) hb); clear HB; have HO427 := n0_; have HB := n1_; clear n0_ n1_; (try clear hb); (try clear hb2); (try clear hk); (try clear hi); (try clear ho0); obtain ⟨Ao19, co19, eo19⟩ := Kd.R_slice HO427.out; subst eo19) | ((with_reducible refine gate_callee (f := 37) rfl ?_); refine goesL_ (some 20) rfl rfl Try.func37 (by kernel_rfl) rfl #[.slice Ao19 t425.length co19, .int .i64 5] rfl (by (try simp only [List.map_toArray, List.map_cons, List.map_nil]); first | done | rfl | (simp only [List.length_drop, List.length_take]; rfl)) ?_; (with_reducible refine (koineref25_Has.calls k _ _ t425 5 false _ ?side1 ?side2 A6.out).mono ?_); (case side1 => repeat (first | exact (Kd.R_reads' HO427.out).2.2 | (with_reducible refine Kd.C_alloc ?_ _) | (with_reducible refine Kd.C_drewN ?_ _) | (with_reducible refine Kd.C_drew ?_))); (case side2 => exact (Kd.R_reads' HO427.out).2.1); rintro e w' ⟨rfl, ⟨nd, rfl⟩⟩; refine ⟨_, rfl, ?_⟩) | ((with_reducible refine gate_callee (f := 40) rfl ?_); refine goesL_ (some 27) rfl rfl Try.func40 (by kernel_rfl) rfl #[.slice Ao19 t425.length co19, .slice A1 l1.length c1] rfl (by (try simp only [List.map_toArray, List.map_cons, List.map_nil]); first | done | rfl | (simp only [List.length_drop, List.length_take]; rfl)) ?_; (with_reducible refine (koinelaw25_render.calls k _ _ t425 _ _ l1 t429 _ ?side1 ?side2 ?side3 ?side4 A11.out).mono ?_); (case side1 => repeat (first | exact (Kd.R_reads' HO427.out).2.2 | (with_reducible refine Kd.C_alloc ?_ _) | (with_reducible refine Kd.C_drewN ?_ _) | (with_reducible refine Kd.C_drew ?_))); (case side2 => exact (Kd.R_reads' HO427.out).2.1); (case side3 => repeat (first | exact (Kd.C_below HR1.out (by repeat (first | (with_reducible first | exact HB.out | apply below_alloc | apply pw_below_drewN | apply below_drew1) | exact HB.out))) | (with_reducible refine Kd.C_alloc ?_ _) | (with_reducible refine Kd.C_drewN ?_ _) | (with_reducible refine Kd.C_drew ?_))); (case side4 => exact HC1.out); rintro e w20 ⟨rfl, hb⟩; refine ⟨_, rfl, ?_⟩; have n0_ := Aside0.mk (Kd.R_below (by (with_reducible repeat (first | apply Kd.R_alloc | apply Kd.R_drewN | apply Kd.R_drew)); exact HO427.out) hb); have n1_ := Aside0.mk (below_step (by repeat (first | (with_reducible first | exact HB.out | apply below_alloc | apply pw_below_drewN | apply below_drew1) | exact HB.out)) hb); clear HO427; clear HB; have HO427 := n0_; have HB := n1_; clear n0_ n1_; (try clear hb); (try clear hb2); (try clear hk); (try clear hi)) | ((with_reducible refine gate_callee (f := 36) rfl ?_); refine goesL_ (some 30) rfl rfl Try.func36 (by kernel_rfl) rfl #[.int .i64 4, .int .i64 ji14, .slice Ao19 t425.length co19] rfl (by (try simp only [List.map_toArray, List.map_cons, List.map_nil]); first | done | (simp only [hji14]; rfl) | rfl | (simp only [List.length_drop, List.length_take]; rfl)) ?_; (with_reducible refine (koineref25_Wrap.calls 4 ji14 _ _ t425 t430 _ ?side1 ?side2 A12.out).mono ?_); (case side1 => repeat (first | exact (Kd.R_reads' HO427.out).2.2 | (with_reducible refine Kd.C_alloc ?_ _) | (with_reducible refine Kd.C_drewN ?_ _) | (with_reducible refine Kd.C_drew ?_))); (case side2 => exact (Kd.R_reads' HO427.out).2.1); rintro e w21 ⟨v431, rfl, ho0, hb⟩; refine ⟨_, rfl, ?_⟩; have n0_ := Aside0.mk (Kd.R_elder' (by (with_reducible repeat (first | apply Kd.R_alloc | apply Kd.R_drewN | apply Kd.R_drew)); exact HO427.out) (Kd.R_base ho0) hb); have n1_ := Aside0.mk (Kd.R_lower (Kd.R_new' ho0 (Kd.R_lt (by (with_reducible repeat (first | apply Kd.R_alloc | apply Kd.R_drewN | apply Kd.R_drew)); exact HO427.out))) (below_size (by repeat (first | (with_reducible first | exact HB.out | apply below_alloc | apply pw_below_drewN | apply below_drew1) | exact HB.out)))); have n2_ := Aside0.mk (below_step (by repeat (first | (with_reducible first | exact HB.out | apply below_alloc | apply pw_below_drewN | apply below_drew1) | exact HB.out)) hb); clear HO427; clear HB; have HO427 := n0_; have HO432 := n1_; have HB := n2_; clear n0_ n1_ n2_; (try clear hb); (try clear hb2); (try clear hk); (try clear hi); (try clear ho0); obtain ⟨Ao22, co22, eo22⟩ := Kd.R_slice HO432.out; subst eo22) | ((with_reducible refine gate_callee (f := 40) rfl ?_); refine goesL_ (some 32) rfl rfl Try.func40 (by kernel_rfl) rfl #[.slice Ao22 t430.length co22, .slice A1 l1.length c1] rfl (by (try simp only [List.map_toArray, List.map_cons, List.map_nil]); first | done | rfl | (simp only [List.length_drop, List.length_take]; rfl)) ?_; (with_reducible refine (koinelaw25_render.calls k _ _ t430 _ _ l1 t433 _ ?side1 ?side2 ?side3 ?side4 A13.out).mono ?_); (case side1 => repeat (first | exact (Kd.R_reads' HO432.out).2.2 | (with_reducible refine Kd.C_alloc ?_ _) | (with_reducible refine Kd.C_drewN ?_ _) | (with_reducible refine Kd.C_drew ?_))); (case side2 => exact (Kd.R_reads' HO432.out).2.1); (case side3 => repeat (first | exact (Kd.C_below HR1.out HB.out) | (with_reducible refine Kd.C_alloc ?_ _) | (with_reducible refine Kd.C_drewN ?_ _) | (with_reducible refine Kd.C_drew ?_))); (case side4 => exact HC1.out); rintro e w23 ⟨rfl, hb⟩; refine ⟨_, rfl, ?_⟩; have n0_ := Aside0.mk (Kd.R_below (by (with_reducible repeat (first | apply Kd.R_alloc | apply Kd.R_drewN | apply Kd.R_drew)); exact HO427.out) hb); have n1_ := Aside0.mk (Kd.R_below (by (with_reducible repeat (first | apply Kd.R_alloc | apply Kd.R_drewN | apply Kd.R_drew)); exact HO432.out) hb); have n2_ := Aside0.mk (below_step (by repeat (first | (with_reducible first | exact HB.out | apply below_alloc | apply pw_below_drewN | apply below_drew1) | exact HB.out)) hb); clear HO427; clear HO432; clear HB; have HO427 := n0_; have HO432 := n1_; have HB := n2_; clear n0_ n1_ n2_; (try clear hb); (try clear hb2); (try clear hk); (try clear hi)) | ((with_reducible refine gate_dst (N := 35) rfl ?_); refine Kd.R_lit (Kd.int .u8) _ 5 ?hg (N := 35) ?hd (xs := ([] : List Int)) (inner := []) (ok := fun _ => True) (okp := fun _ => True) ?hr ?hp (fun _ hk => hk) trivial (Below.refl _ _) (Nat.le_refl _) (by simp) ?_; (case hd => rfl); (case hg => rfl); (case hr => first | (go_simp; done) | (go_simp; rfl)); (case hp => exact (Reps.none _ _)); intro v435 w24 ho25 hb hg_ hnew_; clear hg_ hnew_; (first | rw [← Ny434.out] at ho25 | (simp only [Int.reduceToNat] at ho25; rw [← Ny434.out] at ho25)); have n0_ := Aside0.mk (Kd.R_below (by (with_reducible repeat (first | apply Kd.R_alloc | apply Kd.R_drewN | apply Kd.R_drew)); exact HO427.out) hb); have n1_ := Aside0.mk (Kd.R_below (by (with_reducible repeat (first | apply Kd.R_alloc | apply Kd.R_drewN | apply Kd.R_drew)); exact HO432.out) hb); have n2_ := Aside0.mk (Kd.R_lower ho25 (below_size (by repeat (first | (with_reducible first | exact HB.out | apply below_alloc | apply pw_below_drewN | apply below_drew1) | exact HB.out)))); have n3_ := Aside0.mk (below_step (by repeat (first | (with_reducible first | exact HB.out | apply below_alloc | apply pw_below_drewN | apply below_drew1) | exact HB.out)) hb); clear HO427; clear HO432; clear HB; have HO427 := n0_; have HO432 := n1_; have HO436 := n2_; have HB := n3_; clear n0_ n1_ n2_ n3_; clear hb ho25))
        go_loopg [13, 14, 15] k (fun kq v13 v14 v15 w' => ∃ (x13_1 : List Int) (x14_1 : Bool) (x15_1 : Int), v14 = .bool x14_1 ∧ v15 = .int .i64 x15_1 ∧ Aside0 (koinelaw25_DocumentIndentation.l0 kq t424 t429 t433 ((⟨#[32, 32, 32, 32, 32, 32, 32, 32, 32, 32, 32, 32, 32, 32, 32, 32, 32, 32, 32, 32]⟩ : ByteArray).extract 0 ((ji14) : Int).toNat) x13_1 x14_1 x15_1 = some r) ∧ Aside0 (kq ≤ k) ∧ Aside0 (Kd.R (Kd.int .u8) 5 w' w.heap.size (fun _ => True) v13 x13_1) ∧ Aside0 (Below w.heap.size w w'))
        case atStart => exact ⟨(y434), (true), (0), (by first | rfl | (simp; done) | (simp [*]; done)), (by first | rfl | (simp; done) | (simp [*]; done)), H', ⟨Nat.le_refl _⟩, ⟨by (with_reducible repeat (first | apply Kd.R_alloc | apply Kd.R_drewN | apply Kd.R_drew)); exact HO436.out⟩, ⟨by repeat (first | (with_reducible first | exact HB.out | apply below_alloc | apply pw_below_drewN | apply below_drew1) | exact HB.out)⟩⟩
        case round =>
          clear H'
          try clear c1
          try clear c2
          try clear p2
          try clear c3
          try clear c4
          try clear p6
          try clear c7
          try clear c11
          try clear c15
          try clear c15b0
          try clear c15b1
          try clear c16
          try clear c16b0
          try clear c16b1
          try clear c20
          try clear c21
          obtain ⟨x13_1, x14_1, x15_1, rfl, rfl, HA, HK1, HO_13, HB⟩ := hrel
          cases gk with
          | zero => exact absurd HA.out (by simp [koinelaw25_DocumentIndentation.l0])
          | succ k1 =>
            have H := HA.out
            clear HA
            simp only [koinelaw25_DocumentIndentation.l0] at H
            by_cases c26 : x15_1 < (t429.size : Int)
            · rw [if_pos c26] at H
              have c26b0 : decide (x15_1 < (t429.size : Int)) = true := decide_eq_true c26
              clear c26
              by_cases c27 : x14_1 = true
              · subst c27
                have H1 : (if 0 ≤ x15_1 then (if x13_1.length < 140737488355328 then (koinelaw25_DocumentIndentation.l0 k1 t424 t429 t433 ((⟨#[32, 32, 32, 32, 32, 32, 32, 32, 32, 32, 32, 32, 32, 32, 32, 32, 32, 32, 32, 32]⟩ : ByteArray).extract 0 ((ji14) : Int).toNat) (x13_1 ++ [bt t429 x15_1]) ((bt t429 x15_1) != 10) (wrap64 (x15_1 + 1))) else (none)) else (none)) = some r := by rw [if_pos rfl] at H; exact H
                clear H
                have H := H1
                clear H1
                by_cases c28 : 0 ≤ x15_1
                · rw [if_pos c28] at H
                  have c28b0 : decide (0 ≤ x15_1) = true := decide_eq_true c28
                  clear c28
                  by_cases c31 : x13_1.length < 140737488355328
                  · rw [if_pos c31] at H
                    have LMc31 := Aside0.mk c31
                    clear c31
                    obtain ⟨y437, hy437⟩ : ∃ y_ : List Int, y_ = (x13_1 ++ [bt t429 x15_1]) := ⟨_, rfl⟩
                    replace H : (koinelaw25_DocumentIndentation.l0 k1 t424 t429 t433 ((⟨#[32, 32, 32, 32, 32, 32, 32, 32, 32, 32, 32, 32, 32, 32, 32, 32, 32, 32, 32, 32]⟩ : ByteArray).extract 0 ((ji14) : Int).toNat) y437 ((bt t429 x15_1) != 10) (wrap64 (x15_1 + 1))) = some r := by first | (rw [hy437]; with_reducible exact H) | (have H2_ := (Option.bind_some _ _).symm.trans H; rw [hy437]; with_reducible exact H2_) | (have H2_ := (Option.bind_some _ _).symm.trans H; with_reducible exact H2_) | with_reducible exact H | (rw [hy437]; exact H) | exact H
                    have Ny437 := Aside0.mk hy437
                    clear hy437
                    have H' := Aside0.mk H
                    clear H
                    have p29 : 0 ≤ (x15_1 : Int) := of_decide_eq_true (by first | (with_reducible assumption) | assumption)
                    have q29 : x15_1 < (t429.size : Int) := of_decide_eq_true (by first | (with_reducible assumption) | assumption)
                    have hx29 := bt_at t429 x15_1
                    replace p29 := eq_true p29
                    replace q29 := eq_true q29
                    have p30 : 0 ≤ (x15_1 : Int) := of_decide_eq_true (by first | (with_reducible assumption) | assumption)
                    have q30 : x15_1 < (t429.size : Int) := of_decide_eq_true (by first | (with_reducible assumption) | assumption)
                    have hx30 := bt_at t429 x15_1
                    replace p30 := eq_true p30
                    replace q30 := eq_true q30
                    go_wp2_with (first | ((with_reducible refine gate_builtin (b := .append) (xs := #[.tmp 67, .tmp 71]) rfl ?_); at_builtin; refine Kd.R_append (Kd.int .u8) (w0 := w) w.heap.size rfl (.tmp 67) (.tmp 71) 22 5 (.int .u8 0) 1 rfl Try.underlying22 info5 rfl (by decide) (by omega) u13 x13_1 (bt t429 x15_1) [.int .u8 (bt t429 x15_1)] (fun _ => True) (fun _ => False) rfl rfl ?aP (fun _ hk => hk.elim) ?aF ?aO ?aB ?aS ?aL ?_; (case aP => exact rfl); (case aB => exact (by repeat (first | (with_reducible first | exact HB.out | apply below_alloc | apply pw_below_drewN | apply below_drew1) | exact HB.out))); (case aF => exact (fun _ _ => trivial)); (case aO => exact (by (with_reducible repeat (first | apply Kd.R_alloc | apply Kd.R_drewN | apply Kd.R_drew)); exact HO_13.out)); (case aS => exact (below_size (by repeat (first | (with_reducible first | exact HB.out | apply below_alloc | apply pw_below_drewN | apply below_drew1) | exact HB.out)))); (case aL => have := LMc31.out; omega); intro v438 w32 ho hb hg hat; rw [← Ny437.out] at ho; have n0_ := Aside0.mk (hb); have n1_ := Aside0.mk (ho); clear HB; clear HO_13; have HB := n0_; have HO439 := n1_; clear n0_ n1_; clear ho hb hg hat))
                    go_roundg k1
                    case measure => have := HK1.out; omega
                    case rel => exact ⟨(y437), (((bt t429 x15_1) != 10)), (wrap64 (x15_1 + 1)), (by first | rfl | (simp; done) | (simp [*]; done)), (by first | rfl | (simp; done) | (simp [*]; done)), H', ⟨by have := HK1.out; omega⟩, ⟨by (with_reducible repeat (first | apply Kd.R_alloc | apply Kd.R_drewN | apply Kd.R_drew)); exact HO439.out⟩, ⟨by repeat (first | (with_reducible first | exact HB.out | apply below_alloc | apply pw_below_drewN | apply below_drew1) | exact HB.out)⟩⟩
                  · rw [if_neg c31] at H
                    exact absurd H (by simp)
                · rw [if_neg c28] at H
                  exact absurd H (by simp)
              · replace c27 := Bool.eq_false_iff.mpr c27
                subst c27
                have H1 : (if 0 ≤ x15_1 then (if (bt t429 x15_1) = 10 then (if x13_1.length < 140737488355328 then (koinelaw25_DocumentIndentation.l0 k1 t424 t429 t433 ((⟨#[32, 32, 32, 32, 32, 32, 32, 32, 32, 32, 32, 32, 32, 32, 32, 32, 32, 32, 32, 32]⟩ : ByteArray).extract 0 ((ji14) : Int).toNat) (x13_1 ++ [bt t429 x15_1]) false (wrap64 (x15_1 + 1))) else (none)) else (if 0 ≤ (wrap64 (x15_1 - 1)) then (if (wrap64 (x15_1 - 1)) < (t429.size : Int) then (if (bt t429 (wrap64 (x15_1 - 1))) = 10 then (if x13_1.length + ((⟨#[32, 32, 32, 32, 32, 32, 32, 32, 32, 32, 32, 32, 32, 32, 32, 32, 32, 32, 32, 32]⟩ : ByteArray).extract 0 ((ji14) : Int).toNat).size < 140737488355328 then ((some (x13_1 ++ bytesOf ((⟨#[32, 32, 32, 32, 32, 32, 32, 32, 32, 32, 32, 32, 32, 32, 32, 32, 32, 32, 32, 32]⟩ : ByteArray).extract 0 ((ji14) : Int).toNat) : List Int)).bind fun y443 => (if y443.length < 140737488355328 then (koinelaw25_DocumentIndentation.l0 k1 t424 t429 t433 ((⟨#[32, 32, 32, 32, 32, 32, 32, 32, 32, 32, 32, 32, 32, 32, 32, 32, 32, 32, 32, 32]⟩ : ByteArray).extract 0 ((ji14) : Int).toNat) (y443 ++ [bt t429 x15_1]) false (wrap64 (x15_1 + 1))) else (none))) else (none)) else (if x13_1.length < 140737488355328 then (koinelaw25_DocumentIndentation.l0 k1 t424 t429 t433 ((⟨#[32, 32, 32, 32, 32, 32, 32, 32, 32, 32, 32, 32, 32, 32, 32, 32, 32, 32, 32, 32]⟩ : ByteArray).extract 0 ((ji14) : Int).toNat) (x13_1 ++ [bt t429 x15_1]) false (wrap64 (x15_1 + 1))) else (none))) else (none)) else (none))) else (none)) = some r := by rw [if_neg (show ¬ (false = true) by decide)] at H; exact H
                clear H
                have H := H1
                clear H1
                by_cases c33 : 0 ≤ x15_1
                · rw [if_pos c33] at H
                  have c33b0 : decide (0 ≤ x15_1) = true := decide_eq_true c33
                  clear c33
                  by_cases c35 : (bt t429 x15_1) = 10
                  · rw [if_pos c35] at H
                    have c35b0 : ((bt t429 x15_1) == 10) = true := beq_iff_eq.mpr c35
                    have c35b1 : ((bt t429 x15_1) != 10) = false := bne_eq_false_iff_eq.mpr c35
                    clear c35
                    by_cases c37 : x13_1.length < 140737488355328
                    · rw [if_pos c37] at H
                      have LMc37 := Aside0.mk c37
                      clear c37
                      obtain ⟨y440, hy440⟩ : ∃ y_ : List Int, y_ = (x13_1 ++ [bt t429 x15_1]) := ⟨_, rfl⟩
                      replace H : (koinelaw25_DocumentIndentation.l0 k1 t424 t429 t433 ((⟨#[32, 32, 32, 32, 32, 32, 32, 32, 32, 32, 32, 32, 32, 32, 32, 32, 32, 32, 32, 32]⟩ : ByteArray).extract 0 ((ji14) : Int).toNat) y440 false (wrap64 (x15_1 + 1))) = some r := by first | (rw [hy440]; with_reducible exact H) | (have H2_ := (Option.bind_some _ _).symm.trans H; rw [hy440]; with_reducible exact H2_) | (have H2_ := (Option.bind_some _ _).symm.trans H; with_reducible exact H2_) | with_reducible exact H | (rw [hy440]; exact H) | exact H
                      have Ny440 := Aside0.mk hy440
                      clear hy440
                      have H' := Aside0.mk H
                      clear H
                      have p34 : 0 ≤ (x15_1 : Int) := of_decide_eq_true (by first | (with_reducible assumption) | assumption)
                      have q34 : x15_1 < (t429.size : Int) := of_decide_eq_true (by first | (with_reducible assumption) | assumption)
                      have hx34 := bt_at t429 x15_1
                      replace p34 := eq_true p34
                      replace q34 := eq_true q34
                      have p36 : 0 ≤ (x15_1 : Int) := of_decide_eq_true (by first | (with_reducible assumption) | assumption)
                      have q36 : x15_1 < (t429.size : Int) := of_decide_eq_true (by first | (with_reducible assumption) | assumption)
                      have hx36 := bt_at t429 x15_1
                      replace p36 := eq_true p36
                      replace q36 := eq_true q36
                      go_wp2_with (first | ((with_reducible refine gate_builtin (b := .append) (xs := #[.tmp 67, .tmp 71]) rfl ?_); at_builtin; refine Kd.R_append (Kd.int .u8) (w0 := w) w.heap.size rfl (.tmp 67) (.tmp 71) 22 5 (.int .u8 0) 1 rfl Try.underlying22 info5 rfl (by decide) (by omega) u13 x13_1 (bt t429 x15_1) [.int .u8 (bt t429 x15_1)] (fun _ => True) (fun _ => False) rfl rfl ?aP (fun _ hk => hk.elim) ?aF ?aO ?aB ?aS ?aL ?_; (case aP => exact rfl); (case aB => exact (by repeat (first | (with_reducible first | exact HB.out | apply below_alloc | apply pw_below_drewN | apply below_drew1) | exact HB.out))); (case aF => exact (fun _ _ => trivial)); (case aO => exact (by (with_reducible repeat (first | apply Kd.R_alloc | apply Kd.R_drewN | apply Kd.R_drew)); exact HO_13.out)); (case aS => exact (below_size (by repeat (first | (with_reducible first | exact HB.out | apply below_alloc | apply pw_below_drewN | apply below_drew1) | exact HB.out)))); (case aL => have := LMc37.out; omega); intro v441 w38 ho hb hg hat; rw [← Ny440.out] at ho; have n0_ := Aside0.mk (hb); have n1_ := Aside0.mk (ho); clear HB; clear HO_13; have HB := n0_; have HO442 := n1_; clear n0_ n1_; clear ho hb hg hat))
                      go_roundg k1
                      case measure => have := HK1.out; omega
                      case rel => exact ⟨(y440), (false), (wrap64 (x15_1 + 1)), (by first | rfl | (simp; done) | (simp [*]; done)), (by first | rfl | (simp; done) | (simp [*]; done)), H', ⟨by have := HK1.out; omega⟩, ⟨by (with_reducible repeat (first | apply Kd.R_alloc | apply Kd.R_drewN | apply Kd.R_drew)); exact HO442.out⟩, ⟨by repeat (first | (with_reducible first | exact HB.out | apply below_alloc | apply pw_below_drewN | apply below_drew1) | exact HB.out)⟩⟩
                    · rw [if_neg c37] at H
                      exact absurd H (by simp)
                  · rw [if_neg c35] at H
                    have c35b0 : ((bt t429 x15_1) == 10) = false := beq_eq_false_iff_ne.mpr c35
                    have c35b1 : ((bt t429 x15_1) != 10) = true := bne_iff_ne.mpr c35
                    obtain ⟨ji39, hji39⟩ : ∃ j_ : Int, (wrap64 (x15_1 - 1)) = j_ := ⟨_, rfl⟩
                    replace H : (if 0 ≤ (ji39) then (if (ji39) < (t429.size : Int) then (if (bt t429 (ji39)) = 10 then (if x13_1.length + ((⟨#[32, 32, 32, 32, 32, 32, 32, 32, 32, 32, 32, 32, 32, 32, 32, 32, 32, 32, 32, 32]⟩ : ByteArray).extract 0 ((ji14) : Int).toNat).size < 140737488355328 then ((some (x13_1 ++ bytesOf ((⟨#[32, 32, 32, 32, 32, 32, 32, 32, 32, 32, 32, 32, 32, 32, 32, 32, 32, 32, 32, 32]⟩ : ByteArray).extract 0 ((ji14) : Int).toNat) : List Int)).bind fun y443 => (if y443.length < 140737488355328 then (koinelaw25_DocumentIndentation.l0 k1 t424 t429 t433 ((⟨#[32, 32, 32, 32, 32, 32, 32, 32, 32, 32, 32, 32, 32, 32, 32, 32, 32, 32, 32, 32]⟩ : ByteArray).extract 0 ((ji14) : Int).toNat) (y443 ++ [bt t429 x15_1]) false (wrap64 (x15_1 + 1))) else (none))) else (none)) else (if x13_1.length < 140737488355328 then (koinelaw25_DocumentIndentation.l0 k1 t424 t429 t433 ((⟨#[32, 32, 32, 32, 32, 32, 32, 32, 32, 32, 32, 32, 32, 32, 32, 32, 32, 32, 32, 32]⟩ : ByteArray).extract 0 ((ji14) : Int).toNat) (x13_1 ++ [bt t429 x15_1]) false (wrap64 (x15_1 + 1))) else (none))) else (none)) else (none)) = some r := by first | (rw [hji39] at H; exact H) | (simp only [hji39] at H ⊢; exact H)
                    have hji39w : (IntKind.i64.wrap (x15_1 - 1)) = ji39 := (i64_w _).trans hji39
                    by_cases c40 : 0 ≤ (ji39)
                    · rw [if_pos c40] at H
                      have c40b0 : decide (0 ≤ (ji39)) = true := decide_eq_true c40
                      clear c40
                      by_cases c41 : (ji39) < (t429.size : Int)
                      · rw [if_pos c41] at H
                        have c41b0 : decide ((ji39) < (t429.size : Int)) = true := decide_eq_true c41
                        clear c41
                        by_cases c43 : (bt t429 (ji39)) = 10
                        · rw [if_pos c43] at H
                          have c43b0 : ((bt t429 (ji39)) == 10) = true := beq_iff_eq.mpr c43
                          have c43b1 : ((bt t429 (ji39)) != 10) = false := bne_eq_false_iff_eq.mpr c43
                          clear c43
                          by_cases c44 : x13_1.length + ((⟨#[32, 32, 32, 32, 32, 32, 32, 32, 32, 32, 32, 32, 32, 32, 32, 32, 32, 32, 32, 32]⟩ : ByteArray).extract 0 ((ji14) : Int).toNat).size < 140737488355328
                          · rw [if_pos c44] at H
                            have LMc44 := Aside0.mk c44
                            clear c44
                            obtain ⟨y443, hy443⟩ : ∃ y_ : List Int, y_ = (x13_1 ++ bytesOf ((⟨#[32, 32, 32, 32, 32, 32, 32, 32, 32, 32, 32, 32, 32, 32, 32, 32, 32, 32, 32, 32]⟩ : ByteArray).extract 0 ((ji14) : Int).toNat)) := ⟨_, rfl⟩
                            replace H : (if y443.length < 140737488355328 then (koinelaw25_DocumentIndentation.l0 k1 t424 t429 t433 ((⟨#[32, 32, 32, 32, 32, 32, 32, 32, 32, 32, 32, 32, 32, 32, 32, 32, 32, 32, 32, 32]⟩ : ByteArray).extract 0 ((ji14) : Int).toNat) (y443 ++ [bt t429 x15_1]) false (wrap64 (x15_1 + 1))) else (none)) = some r := by first | (rw [hy443]; with_reducible exact H) | (have H2_ := (Option.bind_some _ _).symm.trans H; rw [hy443]; with_reducible exact H2_) | (have H2_ := (Option.bind_some _ _).symm.trans H; with_reducible exact H2_) | with_reducible exact H | (rw [hy443]; exact H) | exact H
                            have Ny443 := Aside0.mk hy443
                            clear hy443
                            by_cases c46 : y443.length < 140737488355328
                            · rw [if_pos c46] at H
                              have LMc46 := Aside0.mk c46
                              clear c46
                              obtain ⟨y446, hy446⟩ : ∃ y_ : List Int, y_ = (y443 ++ [bt t429 x15_1]) := ⟨_, rfl⟩
                              replace H : (koinelaw25_DocumentIndentation.l0 k1 t424 t429 t433 ((⟨#[32, 32, 32, 32, 32, 32, 32, 32, 32, 32, 32, 32, 32, 32, 32, 32, 32, 32, 32, 32]⟩ : ByteArray).extract 0 ((ji14) : Int).toNat) y446 false (wrap64 (x15_1 + 1))) = some r := by first | (rw [hy446]; with_reducible exact H) | (have H2_ := (Option.bind_some _ _).symm.trans H; rw [hy446]; with_reducible exact H2_) | (have H2_ := (Option.bind_some _ _).symm.trans H; with_reducible exact H2_) | with_reducible exact H | (rw [hy446]; exact H) | exact H
                              have Ny446 := Aside0.mk hy446
                              clear hy446
                              have H' := Aside0.mk H
                              clear H
                              have p34 : 0 ≤ (x15_1 : Int) := of_decide_eq_true (by first | (with_reducible assumption) | assumption)
                              have q34 : x15_1 < (t429.size : Int) := of_decide_eq_true (by first | (with_reducible assumption) | assumption)
                              have hx34 := bt_at t429 x15_1
                              replace p34 := eq_true p34
                              replace q34 := eq_true q34
                              have p42 : 0 ≤ ((ji39) : Int) := of_decide_eq_true (by first | (with_reducible assumption) | assumption)
                              have q42 : (ji39) < (t429.size : Int) := of_decide_eq_true (by first | (with_reducible assumption) | assumption)
                              have hx42 := bt_at t429 (ji39)
                              replace p42 := eq_true p42
                              replace q42 := eq_true q42
                              go_wp2_with (first | (at_builtin; refine print_append_str (w0 := w) w.heap.size rfl (.tmp 57) _ 22 9 5 rfl Try.underlying22 Try.underlying9 info5 u13 x13_1 ((⟨#[32, 32, 32, 32, 32, 32, 32, 32, 32, 32, 32, 32, 32, 32, 32, 32, 32, 32, 32, 32]⟩ : ByteArray).extract 0 ((ji14) : Int).toNat) rfl rfl ?aO ?aB ?aS ?aL ?_; (case aB => exact (by repeat (first | (with_reducible first | exact HB.out | apply below_alloc | apply pw_below_drewN | apply below_drew1) | exact HB.out))); (case aO => exact (Kd.own_of_R (by (with_reducible repeat (first | apply Kd.R_alloc | apply Kd.R_drewN | apply Kd.R_drew)); exact HO_13.out))); (case aS => exact (below_size (by repeat (first | (with_reducible first | exact HB.out | apply below_alloc | apply pw_below_drewN | apply below_drew1) | exact HB.out)))); (case aL => have := LMc44.out; omega); intro v444 w47 ho0 hb hg; have ho := Kd.R_of_own (h1 := fun _ => rfl) (ok := fun _ => True) ho0 (fun _ _ => trivial); clear ho0; have hat := True.intro; rw [← Ny443.out] at ho; change Kd.R (Kd.int .u8) 5 w47 w.heap.size (fun _ => True) v444 y443 at ho; have n0_ := Aside0.mk (hb); have n1_ := Aside0.mk (ho); clear HB; clear HO_13; have HB := n0_; have HO445 := n1_; clear n0_ n1_; clear ho hb hg hat; have p45 : 0 ≤ (x15_1 : Int) := of_decide_eq_true (by first | (with_reducible assumption) | assumption); have q45 : x15_1 < (t429.size : Int) := of_decide_eq_true (by first | (with_reducible assumption) | assumption); have hx45 := bt_at t429 x15_1; replace p45 := eq_true p45; replace q45 := eq_true q45) | ((with_reducible refine gate_builtin (b := .append) (xs := #[.tmp 67, .tmp 71]) rfl ?_); at_builtin; refine Kd.R_append (Kd.int .u8) (w0 := w) w.heap.size rfl (.tmp 67) (.tmp 71) 22 5 (.int .u8 0) 1 rfl Try.underlying22 info5 rfl (by decide) (by omega) v444 y443 (bt t429 x15_1) [.int .u8 (bt t429 x15_1)] (fun _ => True) (fun _ => False) rfl rfl ?aP (fun _ hk => hk.elim) ?aF ?aO ?aB ?aS ?aL ?_; (case aP => exact rfl); (case aB => exact (by repeat (first | (with_reducible first | exact HB.out | apply below_alloc | apply pw_below_drewN | apply below_drew1) | exact HB.out))); (case aF => exact (fun _ _ => trivial)); (case aO => exact (by (with_reducible repeat (first | apply Kd.R_alloc | apply Kd.R_drewN | apply Kd.R_drew)); exact HO445.out)); (case aS => exact (below_size (by repeat (first | (with_reducible first | exact HB.out | apply below_alloc | apply pw_below_drewN | apply below_drew1) | exact HB.out)))); (case aL => have := LMc46.out; omega); intro v447 w48 ho hb hg hat; rw [← Ny446.out] at ho; have n0_ := Aside0.mk (hb); have n1_ := Aside0.mk (ho); clear HB; clear HO445; have HB := n0_; have HO448 := n1_; clear n0_ n1_; clear ho hb hg hat))
                              go_roundg k1
                              case measure => have := HK1.out; omega
                              case rel => exact ⟨(y446), (false), (wrap64 (x15_1 + 1)), (by first | rfl | (simp; done) | (simp [*]; done)), (by first | rfl | (simp; done) | (simp [*]; done)), H', ⟨by have := HK1.out; omega⟩, ⟨by (with_reducible repeat (first | apply Kd.R_alloc | apply Kd.R_drewN | apply Kd.R_drew)); exact HO448.out⟩, ⟨by repeat (first | (with_reducible first | exact HB.out | apply below_alloc | apply pw_below_drewN | apply below_drew1) | exact HB.out)⟩⟩
                            · rw [if_neg c46] at H
                              exact absurd H (by simp)
                          · rw [if_neg c44] at H
                            exact absurd H (by simp)
                        · rw [if_neg c43] at H
                          have c43b0 : ((bt t429 (ji39)) == 10) = false := beq_eq_false_iff_ne.mpr c43
                          have c43b1 : ((bt t429 (ji39)) != 10) = true := bne_iff_ne.mpr c43
                          by_cases c50 : x13_1.length < 140737488355328
                          · rw [if_pos c50] at H
                            have LMc50 := Aside0.mk c50
                            clear c50
                            obtain ⟨y449, hy449⟩ : ∃ y_ : List Int, y_ = (x13_1 ++ [bt t429 x15_1]) := ⟨_, rfl⟩
                            replace H : (koinelaw25_DocumentIndentation.l0 k1 t424 t429 t433 ((⟨#[32, 32, 32, 32, 32, 32, 32, 32, 32, 32, 32, 32, 32, 32, 32, 32, 32, 32, 32, 32]⟩ : ByteArray).extract 0 ((ji14) : Int).toNat) y449 false (wrap64 (x15_1 + 1))) = some r := by first | (rw [hy449]; with_reducible exact H) | (have H2_ := (Option.bind_some _ _).symm.trans H; rw [hy449]; with_reducible exact H2_) | (have H2_ := (Option.bind_some _ _).symm.trans H; with_reducible exact H2_) | with_reducible exact H | (rw [hy449]; exact H) | exact H
                            have Ny449 := Aside0.mk hy449
                            clear hy449
                            have H' := Aside0.mk H
                            clear H
                            have p34 : 0 ≤ (x15_1 : Int) := of_decide_eq_true (by first | (with_reducible assumption) | assumption)
                            have q34 : x15_1 < (t429.size : Int) := of_decide_eq_true (by first | (with_reducible assumption) | assumption)
                            have hx34 := bt_at t429 x15_1
                            replace p34 := eq_true p34
                            replace q34 := eq_true q34
                            have p42 : 0 ≤ ((ji39) : Int) := of_decide_eq_true (by first | (with_reducible assumption) | assumption)
                            have q42 : (ji39) < (t429.size : Int) := of_decide_eq_true (by first | (with_reducible assumption) | assumption)
                            have hx42 := bt_at t429 (ji39)
                            replace p42 := eq_true p42
                            replace q42 := eq_true q42
                            have p49 : 0 ≤ (x15_1 : Int) := of_decide_eq_true (by first | (with_reducible assumption) | assumption)
                            have q49 : x15_1 < (t429.size : Int) := of_decide_eq_true (by first | (with_reducible assumption) | assumption)
                            have hx49 := bt_at t429 x15_1
                            replace p49 := eq_true p49
                            replace q49 := eq_true q49
                            go_wp2_with (first | ((with_reducible refine gate_builtin (b := .append) (xs := #[.tmp 67, .tmp 71]) rfl ?_); at_builtin; refine Kd.R_append (Kd.int .u8) (w0 := w) w.heap.size rfl (.tmp 67) (.tmp 71) 22 5 (.int .u8 0) 1 rfl Try.underlying22 info5 rfl (by decide) (by omega) u13 x13_1 (bt t429 x15_1) [.int .u8 (bt t429 x15_1)] (fun _ => True) (fun _ => False) rfl rfl ?aP (fun _ hk => hk.elim) ?aF ?aO ?aB ?aS ?aL ?_; (case aP => exact rfl); (case aB => exact (by repeat (first | (with_reducible first | exact HB.out | apply below_alloc | apply pw_below_drewN | apply below_drew1) | exact HB.out))); (case aF => exact (fun _ _ => trivial)); (case aO => exact (by (with_reducible repeat (first | apply Kd.R_alloc | apply Kd.R_drewN | apply Kd.R_drew)); exact HO_13.out)); (case aS => exact (below_size (by repeat (first | (with_reducible first | exact HB.out | apply below_alloc | apply pw_below_drewN | apply below_drew1) | exact HB.out)))); (case aL => have := LMc50.out; omega); intro v450 w51 ho hb hg hat; rw [← Ny449.out] at ho; have n0_ := Aside0.mk (hb); have n1_ := Aside0.mk (ho); clear HB; clear HO_13; have HB := n0_; have HO451 := n1_; clear n0_ n1_; clear ho hb hg hat))
                            go_roundg k1
                            case measure => have := HK1.out; omega
                            case rel => exact ⟨(y449), (false), (wrap64 (x15_1 + 1)), (by first | rfl | (simp; done) | (simp [*]; done)), (by first | rfl | (simp; done) | (simp [*]; done)), H', ⟨by have := HK1.out; omega⟩, ⟨by (with_reducible repeat (first | apply Kd.R_alloc | apply Kd.R_drewN | apply Kd.R_drew)); exact HO451.out⟩, ⟨by repeat (first | (with_reducible first | exact HB.out | apply below_alloc | apply pw_below_drewN | apply below_drew1) | exact HB.out)⟩⟩
                          · rw [if_neg c50] at H
                            exact absurd H (by simp)
                      · rw [if_neg c41] at H
                        exact absurd H (by simp)
                    · rw [if_neg c40] at H
                      exact absurd H (by simp)
                · rw [if_neg c33] at H
                  exact absurd H (by simp)
            · rw [if_neg c26] at H
              have c26b0 : decide (x15_1 < (t429.size : Int)) = false := decide_eq_false c26
              clear c26
              by_cases c52 : (strOfNums x13_1).toList = t433.toList
              · rw [if_pos c52] at H
                have c52b0 : ((strOfNums x13_1).toList == t433.toList) = true := beq_iff_eq.mpr c52
                have c52b1 : ((strOfNums x13_1).toList != t433.toList) = false := bne_eq_false_iff_eq.mpr c52
                clear c52
                obtain rfl := Option.some.inj H
                have hcv53 := own_string (P := Try.prog) Try.underlying22 Try.underlying5 Try.underlying9 (Kd.own_of_R HO_13.out)
                go_wp2
                go_ret
                exact ⟨by first | rfl | (simp [errW_none, errW_some] <;> rfl) | (simp only [← hji14]; first | rfl | (simp [errW_none, errW_some] <;> rfl)) | (simp [*, errW_none, errW_some] <;> rfl), by repeat (first | (with_reducible first | exact HB.out | apply below_alloc | apply pw_below_drewN | apply below_drew1) | exact HB.out)⟩
              · rw [if_neg c52] at H
                have c52b0 : ((strOfNums x13_1).toList == t433.toList) = false := beq_eq_false_iff_ne.mpr c52
                have c52b1 : ((strOfNums x13_1).toList != t433.toList) = true := bne_iff_ne.mpr c52
                obtain rfl := Option.some.inj H
                have hcv54 := own_string (P := Try.prog) Try.underlying22 Try.underlying5 Try.underlying9 (Kd.own_of_R HO_13.out)
                go_wp2
                go_ret
                exact ⟨by first | rfl | (simp [errW_none, errW_some] <;> rfl) | (simp only [← hji14]; first | rfl | (simp [errW_none, errW_some] <;> rfl)) | (simp [*, errW_none, errW_some] <;> rfl), by repeat (first | (with_reducible first | exact HB.out | apply below_alloc | apply pw_below_drewN | apply below_drew1) | exact HB.out)⟩
      · rw [if_neg c16] at H
        exact absurd H (by simp)
    · rw [if_neg c15] at H
      exact absurd H (by simp)

end Go.Proofs.Ythmmdmnbcecooaa.A

/-! Q13 -/
namespace Go.Proofs.Ythmmdmnbcecooaa.A
open Go.RowKit Go.Proofs.YthmmdmnbcecooaaW.PrintWords Go.Proofs.YthmmdmnbcecooaaW.PrintLast Go.Proofs.YthmmdmnbcecooaaW.PrintMore
set_option linter.unusedVariables false
set_option linter.unusedSimpArgs false

theorem u8_ten_x (c : UInt8) : (c.toNat : Int) = 10 ↔ c = 10 := by
  constructor
  · intro e
    apply UInt8.toNat_inj.1
    have : c.toNat = 10 := by omega
    rw [this]; rfl
  · rintro rfl; rfl

theorem cost_f_x (s : ByteArray) (w : Int) (hs : s.size ≤ 1000000000000) (hw : w ≤ 9223372036854775807) : document_Cost.f s w = some (costGo (mx w 0) s.data.toList 0) := by
  unfold document_Cost.f
  rw [if_pos ⟨by omega, hw⟩]

theorem out_size_x {l : List S42} (h : Doc20 l) (fl : List Bool) : (rnd (E l) fl).length ≤ 140737488355328 ∧ (wt (E l) ≤ 8000 → lv (E l) ≤ 2000 → (rnd (E l) fl).length ≤ 1000000000) := by
  have hg := h.good
  have h0 := (check_zero_iff l).2 hg
  have hp := hg.pos
  have key : ∀ fl : List Bool, fl.length = ng (E l) → (wrP (E l) 0 false fl st0).out.length ≤ lv (E l) * (wt (E l) + 1) := by
    intro fl hl
    have hgl : (groupsI (rootT l)).length = ng (E l) := by rw [ng_eq]; exact (er_ng _).symm
    have hnd : (groupsI (rootT l)).Nodup := groups_nodup hg.ok (check_once h0) (l.length - 1) (by omega)
    have hf := h.fits
    have hw := wrO_eq (chOf ((groupsI (rootT l)).zip fl)) (rootT l) 0 0 false st0 (nn_tree hg.ok _ (by omega)) ⟨by decide, by decide, by decide, by decide⟩ ⟨by decide, by decide⟩
      (by have := hf.1; unfold E at this; rw [er_wt] at this; omega) (by
        have := hf.2; unfold E at this; rw [er_wt, er_lv] at this
        rw [Nat.zero_add]
        show 0 + _ ≤ _
        omega)
    have := hw.2.2
    rw [chOf_zip _ _ hnd (by omega), Nat.zero_add] at this
    unfold E
    rw [er_wrP, er_wt, er_lv]
    have z : st0.out.length = 0 := rfl
    omega
  have hk := key (chz (gh (E l)) fl) (by rw [chz_length, gh_length])
  refine ⟨?_, fun hw hl => ?_⟩
  · have := h.fits.2
    unfold rnd
    omega
  · have := Nat.mul_le_mul hl (show wt (E l) + 1 ≤ 8001 by omega)
    unfold rnd
    omega

end Go.Proofs.Ythmmdmnbcecooaa.A

/-! PureDocumentIndentation -/
namespace Go.Proofs.Ythmmdmnbcecooaa.A
open Go.RowKit Go.Proofs.YthmmdmnbcecooaaW.PrintWords Go.Proofs.YthmmdmnbcecooaaW.PrintLast Go.Proofs.YthmmdmnbcecooaaW.PrintMore
set_option linter.unusedVariables false
set_option linter.unusedSimpArgs false

/-- Spaces before each line with text but the first. -/
def insG (k : Nat) : Bool → UInt8 → List UInt8 → List UInt8
  | _, _, [] => []
  | f, p, c :: t => (if f = false ∧ c ≠ 10 ∧ p = 10 then List.replicate k 32 ++ [c] else [c]) ++ insG k (f && c != 10) c t

theorem insG_append (k : Nat) (m : List UInt8) : ∀ (l : List UInt8) (f : Bool) (p : UInt8), insG k f p (l ++ m) = insG k f p l ++ insG k (f && l.all (· != 10)) (l.getLastD p) m
  | [], f, p => by simp [insG]
  | c :: t, f, p => by
    simp only [List.cons_append, insG, List.append_assoc]
    rw [insG_append k m t (f && c != 10) c]
    congr 2
    congr 1
    · simp [Bool.and_assoc]
    · cases t <;> simp [List.getLastD]
theorem insG_first (k : Nat) : ∀ (m : List UInt8) (p : UInt8), (∀ c ∈ m, c ≠ 10) → insG k true p m = m
  | [], _, _ => rfl
  | c :: t, p, h => by
    have hc := h c (by simp)
    simp only [insG]
    rw [if_neg (by simp), show (true && c != 10) = true from by simpa using hc, insG_first k t c (fun x hx => h x (by simp [hx]))]
    rfl
theorem insG_in (k : Nat) : ∀ (m : List UInt8) (p : UInt8), p ≠ 10 → (∀ c ∈ m, c ≠ 10) → insG k false p m = m
  | [], _, _, _ => rfl
  | c :: t, p, hp, h => by
    have hc := h c (by simp)
    simp only [insG]
    rw [if_neg (by simp [hp]), Bool.false_and, insG_in k t c hc (fun x hx => h x (by simp [hx]))]
    rfl
theorem insG_line (k : Nat) (m : List UInt8) (hm : m ≠ []) (h : ∀ c ∈ m, c ≠ 10) : insG k false 10 m = List.replicate k 32 ++ m := by
  cases m with
  | nil => exact absurd rfl hm
  | cons c t =>
    have hc := h c (by simp)
    simp only [insG]
    rw [if_pos (by simp [hc]), Bool.false_and, insG_in k t c hc (fun x hx => h x (by simp [hx]))]
    simp

def hasNl (l : List UInt8) : Bool := !(l.all (· != 10))
/-- The two writers side by side: without, and within the indentation k. -/
structure Sim (k : Nat) (st st' : St) : Prop where
  out : st'.out = insG k true 0 st.out
  pend : st'.pend = st.pend + cond (hasNl st.out) (k : Int) 0
  pos : 0 ≤ st.pend
  col : st.col = 0 ↔ st'.col = 0
  zero : st.col = 0 → (st.out = [] ∧ st.pend = 0) ∨ ∃ o, st.out = o ++ [10]
  some : st.col ≠ 0 → ∃ o c, st.out = o ++ [c] ∧ c ≠ 10
  ge : 0 ≤ st.col
  ge' : 0 ≤ st'.col

theorem all_ne {s : List UInt8} (h : ∀ c ∈ s, c ≠ 10) : s.all (· != 10) = true := by
  rw [List.all_eq_true]
  intro c hc
  simpa using h c hc
theorem snoc_of {s : List UInt8} (hs : s ≠ []) : ∃ o c, s = o ++ [c] ∧ c ∈ s := ⟨s.dropLast, s.getLast hs, (List.dropLast_concat_getLast hs).symm, List.getLast_mem hs⟩

theorem sim_feed {k : Nat} {st st' : St} (h : Sim k st st') {ind : Int} (hi : 0 ≤ ind) : Sim k (feedT st ind) (feedT st' (ind + k)) := by
  refine ⟨?_, ?_, hi, by simp [feedT], fun _ => .inr ⟨st.out, rfl⟩, fun hc => absurd rfl hc, by simp [feedT], by simp [feedT]⟩
  · simp only [feedT]
    rw [insG_append, h.out]
    congr 1
    simp [insG]
  · simp only [feedT]
    have : hasNl (st.out ++ [10]) = true := by simp [hasNl]
    rw [this]
    rfl

theorem sim_add {k : Nat} {st st' : St} (h : Sim k st st') {s : List UInt8} (hs : ∀ c ∈ s, c ≠ 10) : Sim k (addT st s) (addT st' s) := by
  by_cases h0 : s = []
  · unfold addT; rw [if_pos h0, if_pos h0]; exact h
  obtain ⟨o1, c1, e1, m1⟩ := snoc_of h0
  have hpos : 0 < s.length := List.length_pos_iff.2 h0
  have hp := h.pos
  unfold addT
  rw [if_neg h0, if_neg h0]
  by_cases hc : st.col = 0
  · have hc' := h.col.1 hc
    rw [if_pos hc, if_pos hc']
    have hsp : ∀ c ∈ List.replicate st.pend.toNat (32 : UInt8) ++ s, c ≠ 10 := fun c hm => by
      rcases List.mem_append.1 hm with hm | hm
      · rw [List.eq_of_mem_replicate hm]; decide
      · exact hs c hm
    have hne : List.replicate st.pend.toNat (32 : UInt8) ++ s ≠ [] := by simp [h0]
    rcases h.zero hc with ⟨he, hpz⟩ | ⟨o, he⟩
    · have hnl : hasNl st.out = false := by rw [he]; rfl
      have hpe := h.pend
      rw [hnl] at hpe
      simp only [cond_false, Int.add_zero] at hpe
      refine ⟨?_, ?_, hp, by simp only; omega, fun hz => by simp only at hz; omega, fun _ => ⟨st.out ++ (List.replicate st.pend.toNat 32 ++ o1), c1, by simp only; rw [e1]; simp, hs c1 m1⟩, by simp only; omega, by simp only; omega⟩
      · simp only
        rw [insG_append, h.out, hpe]
        congr 1
        rw [show (true && st.out.all (· != 10)) = true from by rw [he]; rfl, insG_first k _ _ hsp]
      · simp only
        have : hasNl (st.out ++ (List.replicate st.pend.toNat 32 ++ s)) = false := by rw [he, List.nil_append]; unfold hasNl; rw [all_ne hsp]; rfl
        rw [this, hpe]; simp only [cond_false, Int.add_zero]
    · have hnl : hasNl st.out = true := by rw [he]; simp [hasNl]
      have hpe := h.pend
      rw [hnl, cond_true] at hpe
      refine ⟨?_, ?_, hp, by simp only; omega, fun hz => by simp only at hz; omega, fun _ => ⟨st.out ++ (List.replicate st.pend.toNat 32 ++ o1), c1, by simp only; rw [e1]; simp, hs c1 m1⟩, by simp only; omega, by simp only; omega⟩
      · simp only
        rw [insG_append, h.out]
        congr 1
        have e2 : (true && st.out.all (· != 10)) = false := by
          unfold hasNl at hnl
          simpa using hnl
        have e3 : st.out.getLastD 0 = 10 := by rw [he]; simp
        rw [e2, e3, insG_line k _ hne hsp, ← List.append_assoc, hpe]
        congr 1
        rw [show (st.pend + (k : Int)).toNat = k + st.pend.toNat by omega, List.replicate_append_replicate]
      · simp only
        have : hasNl (st.out ++ (List.replicate st.pend.toNat 32 ++ s)) = true := by
          unfold hasNl at hnl ⊢
          rw [List.all_append]
          simp only [Bool.not_eq_true'] at hnl ⊢
          rw [hnl, Bool.false_and]
        rw [this, cond_true, hpe]
  · have hc' : ¬ st'.col = 0 := fun e => hc (h.col.2 e)
    have g1 := h.ge
    have g2 := h.ge'
    rw [if_neg hc, if_neg hc']
    obtain ⟨o, c, he, hcn⟩ := h.some hc
    have e3 : st.out.getLastD 0 = c := by rw [he]; simp
    refine ⟨?_, ?_, hp, by simp only; omega, fun hz => by simp only at hz; omega, fun _ => ⟨st.out ++ o1, c1, by simp only; rw [e1]; simp, hs c1 m1⟩, by simp only; omega, by simp only; omega⟩
    · simp only
      rw [insG_append, h.out, e3]
      congr 1
      cases hf : (true && st.out.all (· != 10)) with
      | true => rw [insG_first k _ _ hs]
      | false => rw [insG_in k _ _ hcn hs]
    · simp only
      have : hasNl (st.out ++ s) = hasNl st.out := by unfold hasNl; rw [List.all_append, all_ne hs, Bool.and_true]
      rw [this, h.pend]

/-- No alignment. -/
def na : Doc → Prop
  | .text _ | .line _ | .hard => True
  | .seq a b => na a ∧ na b
  | .nest _ a | .group _ a => na a
  | .align _ => False

theorem sim_wrong (k : Nat) (st st' : St) (h : Sim k st st') (b : Bool) : Sim k { st with wrong := b } { st' with wrong := b } := ⟨h.out, h.pend, h.pos, h.col, h.zero, h.some, h.ge, h.ge'⟩
theorem sim_wr (k : Nat) : ∀ (t : Doc) (ind : Int) (flat : Bool) (fl : List Bool) (st st' : St), TxOk t → na t → 0 ≤ ind → Sim k st st' → Sim k (wrP t ind flat fl st) (wrP t (ind + k) flat fl st')
  | .text s, ind, flat, fl, st, st', ht, hn, hi, h => sim_add h ht.2
  | .line s, ind, flat, fl, st, st', ht, hn, hi, h => by
    simp only [wrP]
    cases flat with
    | true => exact sim_add h (fun c hc => by rw [ht.2 c hc]; decide)
    | false => exact sim_feed h hi
  | .hard, ind, flat, fl, st, st', ht, hn, hi, h => by
    simp only [wrP]
    have : ∀ b b', Sim k (feedT { st with wrong := b } ind) (feedT { st' with wrong := b' } (ind + k)) := fun b b' => by
      have := sim_feed h hi
      exact ⟨this.out, this.pend, this.pos, this.col, this.zero, this.some, this.ge, this.ge'⟩
    exact this _ _
  | .seq a b, ind, flat, fl, st, st', ht, hn, hi, h => sim_wr k b ind flat _ _ _ ht.2 hn.2 hi (sim_wr k a ind flat _ _ _ ht.1 hn.1 hi h)
  | .nest n a, ind, flat, fl, st, st', ht, hn, hi, h => by
    have := sim_wr k a (ind + n) flat fl st st' ht.2.2 hn (by have := ht.1; omega) h
    rw [show ind + n + k = ind + k + n by omega] at this
    exact this
  | .align a, ind, flat, fl, st, st', ht, hn, hi, h => hn.elim
  | .group i a, ind, flat, fl, st, st', ht, hn, hi, h => sim_wr k a ind _ _ _ _ ht hn hi h

theorem rnd_nest (k : Nat) (t : Doc) (fl : List Bool) (ht : TxOk t) (hn : na t) : rnd (.nest k t) fl = insG k true 0 (rnd t fl) := by
  have h0 : Sim k st0 st0 := ⟨rfl, by simp [st0, hasNl], by decide, Iff.rfl, fun _ => .inl ⟨rfl, rfl⟩, fun h => absurd rfl h, by decide, by decide⟩
  have := (sim_wr k t 0 false (chz (gh t) fl) st0 st0 ht hn (by decide) h0).out
  exact this

theorem na_tree {l : List S42} (hv : nodesOk l) (h5 : ∀ i, i < l.length → (l.getD i z42).f0 ≠ 5) : ∀ i, i < l.length → na (tree l i) := by
  intro i
  induction i using Nat.strongRecOn with
  | _ i ih =>
    intro hi
    have h := hv i hi
    have hkd := h.kind
    have h5i := h5 i hi
    rcases (show (l.getD i z42).f0 = 0 ∨ (l.getD i z42).f0 = 1 ∨ (l.getD i z42).f0 = 2 ∨ (l.getD i z42).f0 = 3 ∨ (l.getD i z42).f0 = 4 ∨ (l.getD i z42).f0 = 6 by omega) with h4 | h4 | h4 | h4 | h4 | h4
    · rw [tree_text h4]; trivial
    · rw [tree_line h4]; trivial
    · rw [tree_hard h4]; trivial
    · have ha := h.a (by omega)
      have hb := h.b h4
      rw [tree_seq hv hi h4]
      exact ⟨ih _ (by omega) (by omega), ih _ (by omega) (by omega)⟩
    · have ha := h.a (by omega)
      rw [tree_nest hv hi h4]
      exact ih _ (by omega) (by omega)
    · have ha := h.a (by omega)
      rw [tree_group hv hi h4]
      exact ih _ (by omega) (by omega)
theorem na_er : ∀ t, na t → na (er t)
  | .text _, _ | .line _, _ | .hard, _ => trivial
  | .seq a b, h => ⟨na_er a h.1, na_er b h.2⟩
  | .nest _ a, h | .group _ a, h => na_er a h
  | .align _, h => h.elim

theorem strOf_nums (L : List UInt8) : strOfNums (L.map fun c => (c.toNat : Int)) = ⟨L.toArray⟩ := by
  unfold strOfNums
  rw [List.map_map]
  congr 2
  rw [show ((fun n : Int => UInt8.ofNat n.toNat) ∘ fun c : UInt8 => (c.toNat : Int)) = id from by funext c; simp]
  simp

theorem indent_loop (K : Nat) (hK : K ≤ 20) (L : List UInt8) (hL : L.length ≤ 1000000000) (SP : ByteArray) (hSP : SP.data.toList = List.replicate K 32) : ∀ (d j k : Nat) (f : Bool) (p : UInt8) (P : List UInt8), j + d = L.length → d < k →
    P ++ insG K f p (L.drop j) = insG K true 0 L → (f = false → 1 ≤ j ∧ ∃ h : j - 1 < L.length, p = L[j - 1]) → P.length ≤ 100 * j →
    koinelaw25_DocumentIndentation.l0 k true ⟨L.toArray⟩ ⟨(insG K true 0 L).toArray⟩ SP (P.map fun c => (c.toNat : Int)) f j = some true
  | 0, j, k, f, p, P, hj, hk, hP, hf, hlen => by
    obtain ⟨k, rfl⟩ : ∃ m, k = m + 1 := ⟨k - 1, by omega⟩
    have hsz : (⟨L.toArray⟩ : ByteArray).size = L.length := by simp [ByteArray.size]
    rw [List.drop_eq_nil_of_le (by omega)] at hP
    simp only [insG, List.append_nil] at hP
    rw [koinelaw25_DocumentIndentation.l0, if_neg (by omega), strOf_nums, hP, if_pos rfl]
  | d + 1, j, k, f, p, P, hj, hk, hP, hf, hlen => by
    obtain ⟨k, rfl⟩ : ∃ m, k = m + 1 := ⟨k - 1, by omega⟩
    have hsz : (⟨L.toArray⟩ : ByteArray).size = L.length := by simp [ByteArray.size]
    have hlt : j < L.length := by omega
    have hlt' : j < (⟨L.toArray⟩ : ByteArray).data.toList.length := hlt
    have hwj : wrap64 ((j : Int) + 1) = ((j + 1 : Nat) : Int) := by rw [wrap64_small (by omega) (by omega)]; omega
    have hbt : bt ⟨L.toArray⟩ (j : Int) = ((L[j]).toNat : Int) := bt_get _ j hlt'
    have hmap : ∀ Q : List UInt8, (P.map fun c => (c.toNat : Int)) ++ (Q.map fun c => (c.toNat : Int)) = (P ++ Q).map fun c => (c.toNat : Int) := fun Q => by rw [List.map_append]
    have hone : ([((L[j]).toNat : Int)] : List Int) = [L[j]].map fun c => (c.toNat : Int) := rfl
    have hPl : (P.map fun c => (c.toNat : Int)).length = P.length := by simp
    rw [List.drop_eq_getElem_cons hlt, insG, ← List.append_assoc] at hP
    rw [koinelaw25_DocumentIndentation.l0, if_pos (by omega), hbt, hwj]
    by_cases hft : f = true
    · subst hft
      rw [if_pos rfl, if_pos (by omega), if_pos (by omega), hone, hmap]
      rw [if_neg (by simp)] at hP
      have hne : (((L[j]).toNat : Int) != 10) = (true && L[j] != 10) := by
        rw [Bool.true_and, Bool.eq_iff_iff, bne_iff_ne, bne_iff_ne, ne_eq, ne_eq, u8_ten_x]
      rw [hne]
      exact indent_loop K hK L hL SP hSP d (j + 1) k _ L[j] _ (by omega) (by omega) hP (fun _ => ⟨by omega, by simpa using hlt, by simp⟩) (by simp; omega)
    · have hff : f = false := by simpa using hft
      subst hff
      obtain ⟨hj1, hjl, hp⟩ := hf rfl
      have hw1 : wrap64 ((j : Int) - 1) = ((j - 1 : Nat) : Int) := by rw [wrap64_small (by omega) (by omega)]; omega
      have hbp : bt ⟨L.toArray⟩ ((j - 1 : Nat) : Int) = ((L[j - 1]).toNat : Int) := bt_get _ (j - 1) (show j - 1 < L.length by omega)
      rw [if_neg (by simp), if_pos (by omega), hw1, hbp]
      rw [Bool.false_and] at hP
      by_cases hc : L[j] = 10
      · rw [if_pos ((u8_ten_x _).2 hc), if_pos (by omega), hone, hmap]
        rw [if_neg (by simp [hc])] at hP
        exact indent_loop K hK L hL SP hSP d (j + 1) k _ L[j] _ (by omega) (by omega) hP (fun _ => ⟨by omega, by simpa using hlt, by simp⟩) (by simp; omega)
      · rw [if_neg (fun e => hc ((u8_ten_x _).1 e)), if_pos (by omega), if_pos (by omega)]
        by_cases hpp : L[j - 1] = 10
        · have hss : SP.size = K := by rw [← data_length, hSP, List.length_replicate]
          rw [if_pos ((u8_ten_x _).2 hpp), if_pos (by omega), Option.bind_some, if_pos (by simp [bytesOf, hSP]; omega), hone]
          have hbs : bytesOf SP = (List.replicate K (32 : UInt8)).map fun c => (c.toNat : Int) := by unfold bytesOf; rw [hSP]
          rw [hbs, hmap, ← List.map_append]
          rw [if_pos ⟨rfl, hc, by rw [hp]; exact hpp⟩, ← List.append_assoc] at hP
          exact indent_loop K hK L hL SP hSP d (j + 1) k _ L[j] _ (by omega) (by omega) hP (fun _ => ⟨by omega, by simpa using hlt, by simp⟩) (by simp; omega)
        · rw [if_neg (fun e => hpp ((u8_ten_x _).1 e)), if_pos (by omega), hone, hmap]
          rw [if_neg (by rw [hp]; simp [hpp])] at hP
          exact indent_loop K hK L hL SP hSP d (j + 1) k _ L[j] _ (by omega) (by omega) hP (fun _ => ⟨by omega, by simpa using hlt, by simp⟩) (by simp; omega)

def blankS : ByteArray := ⟨#[32, 32, 32, 32, 32, 32, 32, 32, 32, 32, 32, 32, 32, 32, 32, 32, 32, 32, 32, 32]⟩
theorem blanks {K : Nat} (h : K ≤ 20) : (blankS.extract 0 K).data.toList = List.replicate K 32 := by
  have : ∀ i : Fin 21, (blankS.extract 0 i.val).data.toList = List.replicate i.val 32 := by decide +kernel
  exact this ⟨K, by omega⟩

theorem indent_f {l0 : List Int} (hb : ∀ x ∈ l0, 0 ≤ x ∧ x ≤ 255) (hl : l0.length ≤ 281474976710656) (fl : List Bool) {a : Int} (h1 : 0 ≤ a) (h2 : a ≤ 255) : koinelaw25_DocumentIndentation.f 2000000000 l0 fl a = some true := by
  have hd : Doc20 (madeDoc l0 50) := made_doc hb (by decide)
  have hs : MadeP (madeDoc l0 50) := made_shape hb (by decide)
  have hn := (made_good (most := 50) hb (by decide)).2
  have hof := (out_size_x hd fl).2 (by have := hs.2.2; omega) (by have := hs.2.1; omega)
  have hm : Int.tmod (wrap64 a) 20 = ((a.toNat % 20 : Nat) : Int) := by rw [wrap64_small (by omega) (by omega), Int.tmod_eq_emod_of_nonneg h1]; omega
  unfold koinelaw25_DocumentIndentation.f
  rw [show koinelaw25_sanity.f = some true from rfl, Option.bind_some, made_f hb (by decide) hl, Option.bind_some, has_f _ 5 (by omega) (by omega), Option.bind_some]
  cases h : (madeDoc l0 50).any (fun x => decide (x.f0 = 5)) with
  | true => rw [if_pos rfl]
  | false =>
    have h5 : ∀ i, i < (madeDoc l0 50).length → ((madeDoc l0 50).getD i z42).f0 ≠ 5 := fun i hi e => by
      have := List.any_eq_false.1 h ((madeDoc l0 50).getD i z42) (by simp [List.getD, hi])
      simp at this
      exact this (by simpa using e)
    have hna : na (E (madeDoc l0 50)) := na_er _ (na_tree hd.good.ok h5 _ (by have := hd.good.pos; omega))
    have eN : E (wrapD 4 ((a.toNat % 20 : Nat) : Int) (madeDoc l0 50)) = .nest ((a.toNat % 20 : Nat) : Int) (E (madeDoc l0 50)) := E_nest hd.good (by omega) (by omega)
    have dN : Doc20 (wrapD 4 ((a.toNat % 20 : Nat) : Int) (madeDoc l0 50)) := ⟨good_wrap hd.good (by omega) (by omega) (fun h => absurd rfl h) (by omega), hd.tb.wrap _ _, by
      rw [eN]
      have := hs.2
      exact fits_of (a := 10000) (b := 10000) (by simp only [wt]; omega) (by simp only [lv]; omega) (by omega) (by omega)⟩
    rw [if_neg (by decide), lawrender_f hd fl (by decide), Option.bind_some, hm, Wrap_eq _ _ _ (by omega), Option.bind_some, lawrender_f dN fl (by decide), Option.bind_some, if_pos (by omega), if_pos (by omega), Int.toNat_natCast, eN, rnd_nest _ _ _ hs.1 hna]
    have hsz : (⟨(rnd (E (madeDoc l0 50)) fl).toArray⟩ : ByteArray).size = (rnd (E (madeDoc l0 50)) fl).length := by simp [ByteArray.size]
    exact indent_loop (a.toNat % 20) (by omega) (rnd (E (madeDoc l0 50)) fl) hof _ (blanks (by omega)) (rnd (E (madeDoc l0 50)) fl).length 0 2000000000 true 0 [] (by omega) (by omega) rfl (fun h => by cases h) (by simp)

theorem documentIndentation_walk (w : World) (A0 : Option Addr) (c0 : Nat) (l0 : List Int) (hr0 : Kd.C (Kd.int .u8) w A0 l0.length l0) (hc0 : l0.length ≤ c0) (hw0 : ∀ x ∈ l0, (Lit.int .u8 x).wf = true) (y0 : l0.length * 1 ≤ 140737488351232)
    (A1 : Option Addr) (c1 : Nat) (l1 : List Bool) (hr1 : Kd.C Kd.bool w A1 l1.length l1) (hc1 : l1.length ≤ c1) (hm1 : l1.length ≤ maxLen) (a2 : Int) (w2 : (Lit.int .u8 a2).wf = true) :
    Calls Try.prog 11 #[.slice A0 l0.length c0, .slice A1 l1.length c1, .int .u8 a2] w fun e w' => e = .returned (.bool true) ∧ Below w.heap.size w w' := by
  have ha := bytes_of (l := [a2]) (fun x hx => by rw [List.mem_singleton.1 hx]; exact w2) a2 (by simp)
  exact koinelaw25_DocumentIndentation.calls 2000000000 A0 c0 l0 A1 c1 l1 a2 true ⟨rfl⟩ w hr0 hc0 hr1 hc1 (indent_f (bytes_of hw0) (by omega) l1 ha.1 ha.2)

end Go.Proofs.Ythmmdmnbcecooaa.A

/-! LawDocumentIndentation -/
namespace Go.Proofs.Ythmmdmnbcecooaa.documentIndentation
open Go.ChangeShapes Go.WideShapes Go.ChangeAt Go.RowKit
open Go.ChangeMaps (open_string shut_string)
open Go.Proofs.YthmmdmnbcecooaaW.PrintWords
set_option linter.unusedVariables false
theorem own : ownKnob Try.prog.godebug = none := by kernel_rfl
theorem laidOut : laidOutB Try.prog = true := by kernel_rfl
def IsRow (k : IntKind) (w : World) (a : Option Addr) (len cap : Nat) (zs : List Int) : Prop :=
  (a = none ∧ len = 0 ∧ cap = 0 ∧ zs = []) ∨
  ∃ x, a = some x ∧ len ≤ cap ∧ cap ≤ maxLen ∧ zs.length = cap ∧ (∀ i, i < zs.length → w.cell? (x.add i) = some (.int k (zs.getD i 0))) ∧ ∀ n ∈ zs, (Lit.int k n).wf = true
set_option maxRecDepth 100000 in
theorem lifted (os : Os) (started : os.Started) (H : Type) (enc : TypeId × Value → H) :
    ReturnsInHanded {} Try.checked os 11 .any (Rows.documentIndentationSpec.pre6 enc Try.prog Try.f11 Rows.documentIndentationRow.domain false) (Rows.documentIndentationSpec.post enc Try.prog Try.f11 false true false false) := by
  refine returnsInHanded_of_change_sized (C := Try.checked) own started (by kernel_rfl) Try.func11
    (ChangeSpec.witness6 (enc := enc) (C := Try.checked) false ⟨#[], #[.slice none 0 0, .slice none 0 0, .int .u8 0], []⟩ 8 (by kernel_rfl) (by kernel_rfl) (by kernel_rfl) (by kernel_rfl)) ?_
  intro W base args ds gs before hval0 hW hcnd hsz0 _
  have hsz : (DataW.weightsEach Try.prog (Try.f11.params.toList ++ Rows.documentIndentationSpec.plain.varTypes Try.prog) (ds ++ gs)).all (· ≤ reachBytes) = true := hsz0
  have hval : ∀ (j : Nat) t v, Try.f11.params[j]? = some t → args[j]? = some v → Value.okWide Try.prog W .any base t v := hval0
  have hW' := hW
  obtain ⟨p, q, hA0, hV, rfl, hfz, hnd⟩ := hW
  have hA : DataW.TrodAll enc Try.prog W 0 (fun _ => true) true Try.f11.params.toList args.toList ds p := hA0
  rw [Try.params11] at hA hval hsz
  obtain ⟨v0, vs0, d0, ds0, p0, q0, hargs, rfl, rfl, h0, r0⟩ := trodAll_cons hA
  obtain ⟨v1, vs1, d1, ds1, p1, q1, rfl, rfl, rfl, h1, r1⟩ := trodAll_cons r0
  obtain ⟨v2, vs2, d2, ds2, p2, q2, rfl, rfl, rfl, h2, r2⟩ := trodAll_cons r1
  obtain ⟨rfl, rfl, rfl⟩ := trodAll_nil r2
  obtain rfl : args = #[v0, v1, v2] := by cases args; simp_all
  obtain ⟨rfl, rfl⟩ := trodVars_none hV
  obtain ⟨a0, len0, cap0, rfl⟩ := okWide_slice Try.underlying22 (hval 0 22 v0 rfl rfl)
  have k0 := h0
  have lt0 : ∀ x ∈ p0, x.block < W.heap.size := by obtain ⟨m, hm⟩ := k0; exact DataW.trod_lt m _ _ _ hm
  obtain ⟨z0, w0⟩ : ∃ zs, IsRow .u8 W a0 len0 cap0 zs := by
    obtain ⟨fuel, hf⟩ := h0
    rcases open_ints Try.underlying22 Try.underlying5 (by kernel_rfl) hf with ⟨hcs, _⟩ | ⟨x, l, c, zs, hcs, _, hl, hm, hz, _, hcell, hwz⟩
    · simp [Value.cells] at hcs
      obtain ⟨rfl, rfl, rfl⟩ := hcs
      exact ⟨[], .inl ⟨rfl, rfl, rfl, rfl⟩⟩
    · simp [Value.cells] at hcs
      obtain ⟨rfl, rfl, rfl⟩ := hcs
      exact ⟨zs, .inr ⟨_, rfl, hl, hm, by simpa using hz, hcell, hwz⟩⟩
  have y0 : len0 * 1 ≤ 140737488351232 := sized_ints hsz (j := 0) (t := 22) rfl rfl Try.underlying22 Try.underlying5 (by kernel_rfl) (by kernel_rfl) h0
  obtain ⟨l0, rfl, hr0, hm0, hw0, hc0⟩ := ReadsInt.ofRowC w0
  obtain ⟨a1, len1, cap1, rfl⟩ := okWide_slice Try.underlying23 (hval 1 23 v1 rfl rfl)
  have k1 := h1
  have lt1 : ∀ x ∈ p1, x.block < W.heap.size := by obtain ⟨m, hm⟩ := k1; exact DataW.trod_lt m _ _ _ hm
  obtain ⟨l1, rfl, hr1, hm1, hc1⟩ := A.bools_arg Try.underlying23 Try.underlying4 (by kernel_rfl) h1
  obtain ⟨a2, rfl, rfl, rfl, w2⟩ := open_int Try.underlying5 (hval 2 5 v2 rfl rfl) h2
  clear hA0 hval0 hsz0 hsz
  refine (A.documentIndentation_walk W a0 cap0 l0 (Kd.C_of_reads (d := (0 : Int)) (h1 := fun _ => rfl) hr0) hc0 hw0 y0 a1 cap1 l1 hr1 hc1 hm1 a2 w2).mono fun e W' ⟨he, bel⟩ => ?_
  subst he
  exact ⟨_, rfl, _, _, _, [], _, [], hW', trodAll_mk1 (shut_bool Try.underlying4 _), (trodAll_cons_mk (Below.trod laidOut (by kernel_rfl) (of_decide_eq_true (by kernel_rfl)) k0 bel lt0) (trodAll_cons_mk (Below.trod laidOut (by kernel_rfl) (of_decide_eq_true (by kernel_rfl)) k1 bel lt1) (trodAll_cons_mk (shut_int Try.underlying5 w2) trodAll_mk0))), rfl, bel.frame _, fun h => by cases h⟩
theorem over : Rows.documentIndentationRow.holds Try.pinned (OpenSpec.ofChange Rows.documentIndentationSpec) :=
  OpenClaim.holds_of_wide 11 Try.f11 rfl rfl rfl rfl rfl rfl rfl ⟨rfl, rfl, rfl, rfl, rfl⟩ rfl rfl rfl rfl rfl (by kernel_rfl) Try.func11 (by kernel_rfl)
    (of_decide_eq_true (by kernel_rfl)) (by unfold Func.isWrapper; first | (rw [if_pos (by decide +kernel)]; kernel_rfl) | (rw [if_neg (by decide +kernel)]; exact ⟨rfl, rfl⟩))
    (fun os started H enc _ => lifted os started H enc)
theorem proved : Rows.DocumentIndentationSaid := over
end Go.Proofs.Ythmmdmnbcecooaa.documentIndentation
namespace Go.Proofs.Ythmmdmnbcecooaa
/-- The row, under a short name, for the claim. -/
theorem documentIndentation_holds : Rows.DocumentIndentationSaid := documentIndentation.proved
#print axioms documentIndentation_holds
end Go.Proofs.Ythmmdmnbcecooaa
