/- K2, PureDocumentAlign, A24H, Q13, PureDocumentFlat, LawDocumentFlat: texts of this seat, one behind the other. No condition of its own. -/
import Derived.Test.YthmmdmnbcecooaaZB
import Derived.Test.YthmmdmnbcecooaaZD
import Derived.Test.YthmmdmnbcecooaaZA
import Derived.Test.YthmmdmnbcecooaaRows
import Derived.Test.YthmmdmnbcecooaaWSized
import Derived.WalkKit
import Derived.ProofKit
import Derived.OpenShut
import Derived.ShutString
import Derived.ChangeOld
import Derived.ChangeSlices
import Derived.Below
import Derived.SizedLaws
/-! K2 -/
namespace Go.Proofs.Ythmmdmnbcecooaa.A
open Go.RowKit Go.Proofs.YthmmdmnbcecooaaW.PrintWords Go.Proofs.YthmmdmnbcecooaaW.PrintLast Go.Proofs.YthmmdmnbcecooaaW.PrintMore
set_option linter.unusedVariables false
set_option linter.unusedSimpArgs false

def Docs (w0 W : World) (L : List (Option Addr × List S42)) : Prop := Below w0.heap.size w0 W ∧ ∀ p ∈ L, Kd.C k42 W p.1 p.2.length p.2
section
variable {w0 W W' : World} {L : List (Option Addr × List S42)}
theorem Docs.nil (w0 : World) : Docs w0 w0 [] := ⟨Below.refl _ _, fun p hp => by cases hp⟩
theorem Docs.step (h : Docs w0 W L) (hb : Below W.heap.size W W') : Docs w0 W' L := ⟨below_then h.1 h.1.size hb, fun p hp => Kd.C_below (h.2 p hp) hb⟩
theorem Docs.add (h : Docs w0 W L) {A : Option Addr} {D : List S42} (hC : Kd.C k42 W A D.length D) : Docs w0 W ((A, D) :: L) :=
  ⟨h.1, fun p hp => by
    rcases List.mem_cons.1 hp with rfl | hp
    · exact hC
    · exact h.2 p hp⟩
theorem Docs.alloc (h : Docs w0 W L) (o : Obj) : Docs w0 (W.alloc o) L := h.step (below_alloc (Below.refl _ _) o)
theorem Docs.drewN (h : Docs w0 W L) (n : Nat) : Docs w0 (W.drewN n) L := h.step (pw_below_drewN (Below.refl _ _) n)
theorem Docs.drawn (h : Docs w0 W L) (hd : Drawn0 W W') : Docs w0 W' L := by
  obtain ⟨n, rfl⟩ := hd.out
  exact h.drewN n
theorem Docs.get (h : Docs w0 W L) {A : Option Addr} {D : List S42} (hm : (A, D) ∈ L) : Kd.C k42 W A D.length D := h.2 _ hm
theorem Docs.bools (h : Docs w0 W L) {A : Option Addr} {l : List Bool} (hC : Kd.C Kd.bool w0 A l.length l) : Kd.C Kd.bool W A l.length l := Kd.C_below hC h.1
end

theorem made_step (D : List S42) (A0 : Option Addr) (c0 : Nat) (l0 : List Int) (a1 : Int) (w : World) (hr0 : Kd.C (Kd.int .u8) w A0 l0.length l0) (hc0 : l0.length ≤ c0) (h : koineref25_Made.f l0 a1 = some D) :
    Calls Try.prog 21 #[.slice A0 l0.length c0, .int .i64 a1] w (DocPost D w) :=
  (koineref25_Made.calls A0 c0 l0 a1 D w hr0 hc0 h).mono fun _ _ h => .of h

end Go.Proofs.Ythmmdmnbcecooaa.A

/-! PureDocumentAlign -/
namespace Go.Proofs.Ythmmdmnbcecooaa.A
open Go.RowKit Go.Proofs.YthmmdmnbcecooaaW.PrintWords Go.Proofs.YthmmdmnbcecooaaW.PrintLast Go.Proofs.YthmmdmnbcecooaaW.PrintMore
attribute [local go_sem] max2_int min2_int max_two min_two max_three min_three max_four min_four
set_option linter.unusedVariables false
set_option linter.unusedSimpArgs false

def alphaS : ByteArray := ⟨#[97, 98, 99, 100, 101, 102, 103, 104, 105, 106, 107, 108, 109, 110, 111, 112, 113, 114, 115, 116]⟩
def headS (a : Int) : ByteArray := alphaS.extract 0 (1 + a % 20).toNat

/-- What the walk needs: the documents that the law makes. -/
structure AlignOk (D : List S42) (S : ByteArray) (fl : List Bool) (k : Nat) (R : ByteArray) : Prop where
  len : D.length ≤ 10000
  r1 : koinelaw25_render.f k (seqD (textD S) (wrapD 5 0 D)) fl = some R
  r2 : koinelaw25_render.f k (seqD (textD S) (wrapD 4 S.size D)) fl = some R

set_option maxHeartbeats 1000000 in
set_option maxRecDepth 100000 in
theorem align_has (w : World) (A0 : Option Addr) (c0 : Nat) (l0 : List Int) (A1 : Option Addr) (c1 n1 : Nat) (a2 : Int) (hr0 : Kd.C (Kd.int .u8) w A0 l0.length l0) (hc0 : l0.length ≤ c0)
    (D : List S42) (k : Nat) (hM : koineref25_Made.f l0 40 = some D) (hH : koineref25_Has.f k D 5 = some true) :
    Calls Try.prog 12 #[.slice A0 l0.length c0, .slice A1 n1 c1, .int .u8 a2] w fun e w' => e = .returned (.bool true) ∧ Below w.heap.size w w' := by
  have HR0 := Aside0.mk hr0
  have HM := Aside0.mk hM
  have HH := Aside0.mk hH
  clear hr0 hM hH
  go_enter Try.func12, Try.ntmps12
  go_wp2_with fail
  refine (koinelaw25_sanity.calls true _ rfl).mono ?_
  rintro e w1 ⟨rfl, hb⟩
  have HB := Aside0.mk hb
  clear hb
  go_wp2_with fail
  refine (made_step D A0 c0 l0 40 _ (Kd.C_below HR0.out HB.out) hc0 HM.out).mono ?_
  rintro e w2 ⟨A, c, rfl, hc, hC, hb⟩
  have HD := Aside0.mk (((Docs.nil w).step HB.out).step hb |>.add hC)
  clear hC hb
  go_wp2_with fail
  refine (koineref25_Has.calls k A c D 5 true _ (HD.out.get (by simp)) hc HH.out).mono ?_
  rintro e w3 ⟨rfl, hb⟩
  have HD3 := Aside0.mk (HD.out.drawn hb)
  clear hb
  go_wp2_with fail
  go_ret
  exact ⟨rfl, HD3.out.1⟩

set_option maxHeartbeats 1000000 in
set_option maxRecDepth 100000 in
theorem align_calls (w : World) (A0 : Option Addr) (c0 : Nat) (l0 : List Int) (A1 : Option Addr) (c1 : Nat) (l1 : List Bool) (a2 : Int) (hr0 : Kd.C (Kd.int .u8) w A0 l0.length l0) (hc0 : l0.length ≤ c0) (hr1 : Kd.C Kd.bool w A1 l1.length l1) (hc1 : l1.length ≤ c1)
    (D : List S42) (k : Nat) (R : ByteArray) (hM : koineref25_Made.f l0 40 = some D) (hH : koineref25_Has.f k D 5 = some false) (h1 : 0 ≤ a2) (h2 : a2 ≤ 255) (ho : AlignOk D (headS a2) l1 k R) :
    Calls Try.prog 12 #[.slice A0 l0.length c0, .slice A1 l1.length c1, .int .u8 a2] w fun e w' => e = .returned (.bool true) ∧ Below w.heap.size w w' := by
  have HR0 := Aside0.mk hr0
  have HR1 := Aside0.mk hr1
  have HM := Aside0.mk hM
  have HH := Aside0.mk hH
  have HO := Aside0.mk ho
  clear hr0 hr1 hM hH ho
  go_enter Try.func12, Try.ntmps12
  go_wp2_with fail
  refine (koinelaw25_sanity.calls true _ rfl).mono ?_
  rintro e w1 ⟨rfl, hb⟩
  have HB := Aside0.mk hb
  clear hb
  go_wp2_with fail
  refine (made_step D A0 c0 l0 40 _ (Kd.C_below HR0.out HB.out) hc0 HM.out).mono ?_
  rintro e w2 ⟨A, c, rfl, hc, hC, hb⟩
  have HD := Aside0.mk (((Docs.nil w).step HB.out).step hb |>.add hC)
  clear hC hb
  go_wp2_with fail
  refine (koineref25_Has.calls k A c D 5 false _ (HD.out.get (by simp)) hc HH.out).mono ?_
  rintro e w3 ⟨rfl, hb⟩
  have HD3 := Aside0.mk (HD.out.drawn hb)
  clear hb
  go_wp2_with fail
  generalize hS : ByteArray.extract _ 0 (1 + a2 % 20).toNat = S
  have HS := Aside0.mk (show headS a2 = S from hS)
  clear hS
  refine (text_step (textD S) S _ rfl).mono ?_
  rintro e w4 ⟨A4, c4, rfl, hc4, hC, hb⟩
  have HD4 := Aside0.mk ((HD3.out.step hb).add hC)
  clear hC hb
  go_wp2_with fail
  refine (wrap_step (wrapD 5 0 D) D 5 0 A c _ rfl (by have := HO.out.len; omega) (HD4.out.get (by simp)) hc).mono ?_
  rintro e w5 ⟨A5, c5, rfl, hc5, hC, hb⟩
  have HD5 := Aside0.mk ((HD4.out.step hb).add hC)
  clear hC hb
  go_wp2_with fail
  refine (seq_step (seqD (textD S) (wrapD 5 0 D)) (textD S) (wrapD 5 0 D) A4 c4 A5 c5 _ rfl (by have := HO.out.len; rw [wrapD_length]; show 1 + _ ≤ _; omega) (HD5.out.get (by simp)) hc4 (HD5.out.get (by simp)) hc5).mono ?_
  rintro e w6 ⟨A6, c6, rfl, hc6, hC, hb⟩
  have HD6 := Aside0.mk ((HD5.out.step hb).add hC)
  clear hC hb
  go_wp2_with fail
  refine (koinelaw25_render.calls k A6 c6 _ A1 c1 l1 R _ (HD6.out.get (by simp)) hc6 (HD6.out.bools HR1.out) hc1 (by rw [← HS.out]; exact HO.out.r1)).mono ?_
  rintro e w7 ⟨rfl, hb⟩
  have HD7 := Aside0.mk (HD6.out.step hb)
  clear hb
  go_wp2_with fail
  refine (text_step (textD S) S _ rfl).mono ?_
  rintro e w8 ⟨A8, c8, rfl, hc8, hC, hb⟩
  have HD8 := Aside0.mk ((HD7.out.step hb).add hC)
  clear hC hb
  go_wp2_with fail
  refine (wrap_step (wrapD 4 S.size D) D 4 S.size A c _ rfl (by have := HO.out.len; omega) (HD8.out.get (by simp)) hc).mono ?_
  rintro e w9 ⟨A9, c9, rfl, hc9, hC, hb⟩
  have HD9 := Aside0.mk ((HD8.out.step hb).add hC)
  clear hC hb
  go_wp2_with fail
  refine (seq_step (seqD (textD S) (wrapD 4 S.size D)) (textD S) (wrapD 4 S.size D) A8 c8 A9 c9 _ rfl (by have := HO.out.len; rw [wrapD_length]; show 1 + _ ≤ _; omega) (HD9.out.get (by simp)) hc8 (HD9.out.get (by simp)) hc9).mono ?_
  rintro e w10 ⟨A10, c10, rfl, hc10, hC, hb⟩
  have HD10 := Aside0.mk ((HD9.out.step hb).add hC)
  clear hC hb
  go_wp2_with fail
  refine (koinelaw25_render.calls k A10 c10 _ A1 c1 l1 R _ (HD10.out.get (by simp)) hc10 (HD10.out.bools HR1.out) hc1 (by rw [← HS.out]; exact HO.out.r2)).mono ?_
  rintro e w11 ⟨rfl, hb⟩
  have HD11 := Aside0.mk (HD10.out.step hb)
  clear hb
  go_wp2_with fail
  go_ret
  exact ⟨rfl, HD11.out.1⟩

/-! ### The plain law -/
theorem has_loop (l : List S42) (q : Int) (hl : l.length ≤ 1000000) : ∀ (d j k : Nat), j + d = l.length → d < k → koineref25_Has.l0 k l q j = some ((l.drop j).any fun x => decide (x.f0 = q))
  | 0, j, k, hj, hk => by
    obtain ⟨k, rfl⟩ : ∃ m, k = m + 1 := ⟨k - 1, by omega⟩
    rw [koineref25_Has.l0, if_neg (by omega), List.drop_eq_nil_of_le (by omega)]
    rfl
  | d + 1, j, k, hj, hk => by
    obtain ⟨k, rfl⟩ : ∃ m, k = m + 1 := ⟨k - 1, by omega⟩
    have hlt : j < l.length := by omega
    rw [koineref25_Has.l0, if_pos (by omega), if_pos (by omega), rd42_nat, List.drop_eq_getElem_cons hlt, wrap64_small (by omega) (by omega), show (j : Int) + 1 = ((j + 1 : Nat) : Int) by omega, show l.getD j z42 = l[j] from by simp [List.getD, hlt]]
    simp only [List.any_cons]
    by_cases e : (l[j]).f0 = q
    · rw [if_pos e, decide_eq_true e]; rfl
    · rw [if_neg e, decide_eq_false e, has_loop l q hl d (j + 1) k (by omega) (by omega)]; rfl
theorem has_f (l : List S42) (q : Int) (hl : l.length ≤ 1000000) {k : Nat} (hk : l.length < k) : koineref25_Has.f k l q = some (l.any fun x => decide (x.f0 = q)) := by
  have := has_loop l q hl l.length 0 k (by omega) hk
  unfold koineref25_Has.f
  simpa using this

theorem fits_of {t : Doc} {a b : Nat} (h1 : wt t ≤ a) (h2 : lv t ≤ b) (ha : a ≤ 1000000) (hb : b ≤ 1000000) : Fits t := by
  refine ⟨by omega, ?_⟩
  have := Nat.mul_le_mul h2 (show wt t + 1 ≤ a + 1 by omega)
  have := Nat.mul_le_mul hb (show a + 1 ≤ 1000001 by omega)
  omega

theorem wrP_align (t : Doc) (ind : Int) (flat : Bool) (fl : List Bool) (st : St) (h : st.col ≠ 0) : wrP (.align t) ind flat fl st = wrP t st.col flat fl st := by
  show wrP t (if st.col = 0 then st.pend else st.col) flat fl st = _
  rw [if_neg h]
theorem rnd_align (S : ByteArray) (hS : S.data.toList ≠ []) (t : Doc) (fl : List Bool) : rnd (.seq (.text S) (.align t)) fl = rnd (.seq (.text S) (.nest S.size t)) fl := by
  have hl := data_length S
  have hp : 0 < S.data.toList.length := List.length_pos_iff.2 hS
  have e1 : (addT st0 S.data.toList).col = (S.size : Int) := by
    unfold addT
    rw [if_neg hS, if_pos (show st0.col = 0 from rfl)]
    simp [st0, hl]
  show (wrP (.align t) 0 false _ (addT st0 S.data.toList)).out = (wrP t (0 + (S.size : Int)) false _ (addT st0 S.data.toList)).out
  rw [wrP_align _ _ _ _ _ (by omega), e1, Int.zero_add]
  rfl

theorem head_facts {a : Int} (h1 : 0 ≤ a) (h2 : a ≤ 255) : (headS a).data.toList ≠ [] ∧ (headS a).size ≤ 20 ∧ Lib.indexByte (headS a).data.toList 10 < 0 := by
  have h : ∀ i : Fin 256, (decide ((headS (i.val : Int)).data.toList ≠ []) && decide ((headS (i.val : Int)).size ≤ 20) && decide (Lib.indexByte (headS (i.val : Int)).data.toList 10 < 0)) = true := by decide +kernel
  have := h ⟨a.toNat, by omega⟩
  simp only [Int.toNat_of_nonneg h1, Bool.and_eq_true, decide_eq_true_iff] at this
  exact ⟨this.1.1, this.1.2, this.2⟩

theorem align_ok {l0 : List Int} (hb : ∀ x ∈ l0, 0 ≤ x ∧ x ≤ 255) (fl : List Bool) {a : Int} (h1 : 0 ≤ a) (h2 : a ≤ 255) : ∃ R, AlignOk (madeDoc l0 40) (headS a) fl 2000000 R := by
  have hd : Doc20 (madeDoc l0 40) := made_doc hb (by decide)
  have hs : MadeP (madeDoc l0 40) := made_shape hb (by decide)
  have hn := (made_good (most := 40) hb (by decide)).2
  obtain ⟨f1, f2, f3⟩ := head_facts h1 h2
  have hx := data_length (headS a)
  have gt := text_ok f3
  have hl1 : (textD (headS a)).length = 1 := rfl
  have hw : ∀ kind n : Int, (kind = 5 ∧ n = 0 ∨ kind = 4 ∧ n = (headS a).size) → Good (wrapD kind n (madeDoc l0 40)) := fun kind n h => good_wrap hd.good (by omega) (by omega) (by omega) (by omega)
  have hwl : ∀ kind n : Int, (wrapD kind n (madeDoc l0 40)).length = (madeDoc l0 40).length + 1 := fun kind n => wrapD_length _ _ _
  have e1 : E (seqD (textD (headS a)) (wrapD 5 0 (madeDoc l0 40))) = .seq (.text (headS a)) (.align (E (madeDoc l0 40))) := by
    rw [E_seq gt (hw 5 0 (.inl ⟨rfl, rfl⟩)) (by rw [hwl, hl1]; omega), E_align hd.good (by omega)]; rfl
  have e2 : E (seqD (textD (headS a)) (wrapD 4 (headS a).size (madeDoc l0 40))) = .seq (.text (headS a)) (.nest (headS a).size (E (madeDoc l0 40))) := by
    rw [E_seq gt (hw 4 _ (.inr ⟨rfl, rfl⟩)) (by rw [hwl, hl1]; omega), E_nest hd.good (by omega) (by omega)]; rfl
  have d1 : Doc20 (seqD (textD (headS a)) (wrapD 5 0 (madeDoc l0 40))) := ⟨good_seq gt (hw 5 0 (.inl ⟨rfl, rfl⟩)) (by rw [hwl, hl1]; omega), (Tb.text f2).seq (hd.tb.wrap _ _), by
    rw [e1]
    have := hs.2
    exact fits_of (a := 10000) (b := 10000) (by simp only [wt]; omega) (by simp only [lv]; omega) (by omega) (by omega)⟩
  have d2 : Doc20 (seqD (textD (headS a)) (wrapD 4 (headS a).size (madeDoc l0 40))) := ⟨good_seq gt (hw 4 _ (.inr ⟨rfl, rfl⟩)) (by rw [hwl, hl1]; omega), (Tb.text f2).seq (hd.tb.wrap _ _), by
    rw [e2]
    have := hs.2
    exact fits_of (a := 10000) (b := 10000) (by simp only [wt]; omega) (by simp only [lv]; omega) (by omega) (by omega)⟩
  refine ⟨_, by omega, lawrender_f d1 fl (by omega), ?_⟩
  rw [lawrender_f d2 fl (by omega), e1, e2, rnd_align _ f1]

theorem documentAlign_walk (w : World) (A0 : Option Addr) (c0 : Nat) (l0 : List Int) (hr0 : Kd.C (Kd.int .u8) w A0 l0.length l0) (hc0 : l0.length ≤ c0) (hw0 : ∀ x ∈ l0, (Lit.int .u8 x).wf = true) (y0 : l0.length * 1 ≤ 140737488351232)
    (A1 : Option Addr) (c1 : Nat) (l1 : List Bool) (hr1 : Kd.C Kd.bool w A1 l1.length l1) (hc1 : l1.length ≤ c1) (hm1 : l1.length ≤ maxLen) (a2 : Int) (w2 : (Lit.int .u8 a2).wf = true) :
    Calls Try.prog 12 #[.slice A0 l0.length c0, .slice A1 l1.length c1, .int .u8 a2] w fun e w' => e = .returned (.bool true) ∧ Below w.heap.size w w' := by
  have hb := bytes_of hw0
  have ha := bytes_of (l := [a2]) (fun x hx => by rw [List.mem_singleton.1 hx]; exact w2) a2 (by simp)
  have hn := (made_good (most := 40) hb (by decide)).2
  have hM := made_f (most := 40) hb (by decide) (by omega : l0.length ≤ 281474976710656)
  have hH := has_f (madeDoc l0 40) 5 (by omega) (k := 2000000) (by omega)
  cases h : (madeDoc l0 40).any (fun x => decide (x.f0 = 5)) with
  | true =>
    rw [h] at hH
    exact align_has w A0 c0 l0 A1 c1 l1.length a2 hr0 hc0 _ _ hM hH
  | false =>
    rw [h] at hH
    obtain ⟨R, ho⟩ := align_ok hb l1 ha.1 ha.2
    exact align_calls w A0 c0 l0 A1 c1 l1 a2 hr0 hc0 hr1 hc1 _ _ R hM hH ha.1 ha.2 ho

end Go.Proofs.Ythmmdmnbcecooaa.A

/-! A24H -/
namespace Go.Proofs.Ythmmdmnbcecooaa.A
open Go.RowKit Go.Proofs.YthmmdmnbcecooaaW.PrintWords Go.Proofs.YthmmdmnbcecooaaW.PrintLast Go.Proofs.YthmmdmnbcecooaaW.PrintMore
attribute [local go_sem] max2_int min2_int max_two min_two max_three min_three max_four min_four   -- for this text's walks alone
set_option linter.unusedVariables false
set_option linter.unusedSimpArgs false

-- LAW
theorem run_field36 (x y : Int) (W : World) : Sem.run Try.prog (Instr.field 36 (.agg #[.int .i64 x, .int .i64 y]) 1) W = .ok (.int .i64 y) W := by
  have hu := Try.underlying36
  unfold Instr.field
  simp [go_sem, hu, asAgg]
/-! ### koinelaw25_DocumentFlat: function 8 -/
mutual
def koinelaw25_DocumentFlat.l0 : Nat → List Bool → List Bool → Bool → List (S42) → List Int → Int → List Bool → List Bool → Int → Option (Bool)
  | 0, _, _, _, _, _, _, _, _, _ => none
  | k + 1, x1, x2, x7, x8, x9, x10, x11, x12, x13 => if x13 < (x9.length : Int) then (if x13 = 0 then (if 0 ≤ x13 then (if x13 < (x11.length : Int) then (if x13 < (x12.length : Int) then (koinelaw25_DocumentFlat.l0 k x1 x2 x7 x8 x9 x10 (x11.set (x13 : Int).toNat true) (x12.set (x13 : Int).toNat true) (wrap64 (x13 + 1))) else (none)) else (none)) else (none)) else (if x13 < (x1.length : Int) then (if 0 ≤ x13 then (if x13 < (x11.length : Int) then ((some (x11.set (x13 : Int).toNat (rdOf false x1 x13) : List Bool)).bind fun y370 => (if x13 < (x2.length : Int) then (if x13 < (x12.length : Int) then (koinelaw25_DocumentFlat.l0 k x1 x2 x7 x8 x9 x10 y370 (x12.set (x13 : Int).toNat (rdOf false x2 x13)) (wrap64 (x13 + 1))) else (none)) else (if x13 < (x12.length : Int) then (koinelaw25_DocumentFlat.l0 k x1 x2 x7 x8 x9 x10 y370 (x12.set (x13 : Int).toNat false) (wrap64 (x13 + 1))) else (none)))) else (none)) else (none)) else (if 0 ≤ x13 then (if x13 < (x11.length : Int) then ((some (x11.set (x13 : Int).toNat false : List Bool)).bind fun y374 => (if x13 < (x2.length : Int) then (if x13 < (x12.length : Int) then (koinelaw25_DocumentFlat.l0 k x1 x2 x7 x8 x9 x10 y374 (x12.set (x13 : Int).toNat (rdOf false x2 x13)) (wrap64 (x13 + 1))) else (none)) else (if x13 < (x12.length : Int) then (koinelaw25_DocumentFlat.l0 k x1 x2 x7 x8 x9 x10 y374 (x12.set (x13 : Int).toNat false) (wrap64 (x13 + 1))) else (none)))) else (none)) else (none)))) else ((document_Render.f x8 x11).bind fun bt378 => ((document_Render.f x8 x12).bind fun bt380 => (if x10 = 0 then (koinelaw25_DocumentFlat.j1 k x7 x8 bt378.1 bt378.2 bt380.1 bt380.2 ((x9.length : Int) == 0)) else (koinelaw25_DocumentFlat.j1 k x7 x8 bt378.1 bt378.2 bt380.1 bt380.2 true))))
def koinelaw25_DocumentFlat.j1 : Nat → Bool → List (S42) → ByteArray → Int → ByteArray → Int → Bool → Option (Bool)
  | 0, _, _, _, _, _, _, _ => none
  | k + 1, x7, x8, x14, x15, x16, x17, x91 => if x91 = true then (some false) else ((koineref25_Has.f k x8 2).bind fun t382 => (if t382 = true then (if x15 = 1 then (if x17 = 1 then (some x7) else (some false)) else (some false)) else (if x15 = 0 then (if x17 = 0 then (if x14.toList = x16.toList then ((document_Cost.f x14 0).bind fun bt383 => (if bt383.2 = 0 then (some x7) else (some false))) else (some false)) else (some false)) else (some false))))
end
def koinelaw25_DocumentFlat.f (k : Nat) (l0 : List Int) (l1 : List Bool) (l2 : List Bool) : Option (Bool) := (koinelaw25_sanity.f).bind fun t350 => ((koineref25_Made.f l0 50).bind fun t351 => ((koineref25_Wrap.f 6 0 t351).bind fun t354 => ((document_Groups.f t354).bind fun bt357 => (if 0 ≤ (bt357.1.length : Int) then (if ((bt357.1.length : Int) : Int).toNat ≤ 281474976710656 then (koinelaw25_DocumentFlat.l0 k l1 l2 t350 t354 bt357.1 bt357.2 (List.replicate ((bt357.1.length : Int) : Int).toNat false) (List.replicate ((bt357.1.length : Int) : Int).toNat false) 0) else (none)) else (none)))))
theorem koinelaw25_DocumentFlat.mono_l : ∀ k, (∀ y0 y1 y2 y3 y4 y5 y6 y7 y8, LeO (koinelaw25_DocumentFlat.l0 k y0 y1 y2 y3 y4 y5 y6 y7 y8) (koinelaw25_DocumentFlat.l0 (k + 1) y0 y1 y2 y3 y4 y5 y6 y7 y8)) ∧ (∀ y0 y1 y2 y3 y4 y5 y6, LeO (koinelaw25_DocumentFlat.j1 k y0 y1 y2 y3 y4 y5 y6) (koinelaw25_DocumentFlat.j1 (k + 1) y0 y1 y2 y3 y4 y5 y6))
  | 0 => ⟨fun _ _ _ _ _ _ _ _ _ r h => by simp [koinelaw25_DocumentFlat.l0] at h, fun _ _ _ _ _ _ _ r h => by simp [koinelaw25_DocumentFlat.j1] at h⟩
  | k + 1 => by
    obtain ⟨ih0, ih1⟩ := koinelaw25_DocumentFlat.mono_l k
    refine ⟨?_, ?_⟩
    · intro y0 y1 y2 y3 y4 y5 y6 y7 y8
      unfold koinelaw25_DocumentFlat.l0
      repeat' first
      | (with_reducible exact ih0 _ _ _ _ _ _ _ _ _)
      | (with_reducible exact ih1 _ _ _ _ _ _ _)
      | (with_reducible exact koineref25_Has.mono _ _ _)
      | (with_reducible exact LeO.refl _)
      | (with_reducible exact LeO.none _)
      | (with_reducible refine LeO.ite ?_ ?_)
      | (with_reducible refine LeO.bind ?_ (fun _ => ?_))
      | exact ih0 _ _ _ _ _ _ _ _ _
      | exact ih1 _ _ _ _ _ _ _
      | exact koineref25_Has.mono _ _ _
      | exact LeO.none _
      | refine LeO.ite ?_ ?_
      | refine LeO.bind ?_ (fun _ => ?_)
    · intro y0 y1 y2 y3 y4 y5 y6
      unfold koinelaw25_DocumentFlat.j1
      repeat' first
      | (with_reducible exact ih0 _ _ _ _ _ _ _ _ _)
      | (with_reducible exact ih1 _ _ _ _ _ _ _)
      | (with_reducible exact koineref25_Has.mono _ _ _)
      | (with_reducible exact LeO.refl _)
      | (with_reducible exact LeO.none _)
      | (with_reducible refine LeO.ite ?_ ?_)
      | (with_reducible refine LeO.bind ?_ (fun _ => ?_))
      | exact ih0 _ _ _ _ _ _ _ _ _
      | exact ih1 _ _ _ _ _ _ _
      | exact koineref25_Has.mono _ _ _
      | exact LeO.none _
      | refine LeO.ite ?_ ?_
      | refine LeO.bind ?_ (fun _ => ?_)
theorem koinelaw25_DocumentFlat.mono : ∀ a0 a1 a2 k, LeO (koinelaw25_DocumentFlat.f k a0 a1 a2) (koinelaw25_DocumentFlat.f (k + 1) a0 a1 a2) := by
  intro a0 a1 a2 k
  obtain ⟨ih0, ih1⟩ := koinelaw25_DocumentFlat.mono_l k
  unfold koinelaw25_DocumentFlat.f
  repeat' first
      | (with_reducible exact ih0 _ _ _ _ _ _ _ _ _)
      | (with_reducible exact ih1 _ _ _ _ _ _ _)
      | (with_reducible exact koineref25_Has.mono _ _ _)
      | (with_reducible exact LeO.refl _)
      | (with_reducible exact LeO.none _)
      | (with_reducible refine LeO.ite ?_ ?_)
      | (with_reducible refine LeO.bind ?_ (fun _ => ?_))
      | exact ih0 _ _ _ _ _ _ _ _ _
      | exact ih1 _ _ _ _ _ _ _
      | exact koineref25_Has.mono _ _ _
      | exact LeO.none _
      | refine LeO.ite ?_ ?_
      | refine LeO.bind ?_ (fun _ => ?_)
set_option maxHeartbeats 8000000 in
set_option maxRecDepth 100000 in
theorem koinelaw25_DocumentFlat.calls (k : Nat) (A0 : Option Addr) (c0 : Nat) (l0 : List Int) (A1 : Option Addr) (c1 : Nat) (l1 : List Bool) (A2 : Option Addr) (c2 : Nat) (l2 : List Bool) (r : Bool) (hr : Aside0 (r = true)) (w : World) (hr0 : Kd.C (Kd.int .u8) w A0 l0.length l0) (hc0 : l0.length ≤ c0) (hr1 : Kd.C Kd.bool w A1 l1.length l1) (hc1 : l1.length ≤ c1) (hr2 : Kd.C Kd.bool w A2 l2.length l2) (hc2 : l2.length ≤ c2) (h : koinelaw25_DocumentFlat.f k l0 l1 l2 = some r) :
    Calls Try.prog 8 #[.slice A0 l0.length c0, .slice A1 l1.length c1, .slice A2 l2.length c2] w fun e w' => e = .returned (.bool r) ∧ Below w.heap.size w w' := by
  have HR0 := Aside0.mk hr0
  have HC0 := Aside0.mk hc0
  clear hr0 hc0
  have HR1 := Aside0.mk hr1
  have HC1 := Aside0.mk hc1
  clear hr1 hc1
  have HR2 := Aside0.mk hr2
  have HC2 := Aside0.mk hc2
  clear hr2 hc2
  have HB := Aside0.mk (Below.refl w.heap.size w)
  have H : ((koinelaw25_sanity.f).bind fun t350 => ((koineref25_Made.f l0 50).bind fun t351 => ((koineref25_Wrap.f 6 0 t351).bind fun t354 => ((document_Groups.f t354).bind fun bt357 => (if 0 ≤ (bt357.1.length : Int) then (if ((bt357.1.length : Int) : Int).toNat ≤ 281474976710656 then (koinelaw25_DocumentFlat.l0 k l1 l2 t350 t354 bt357.1 bt357.2 (List.replicate ((bt357.1.length : Int) : Int).toNat false) (List.replicate ((bt357.1.length : Int) : Int).toNat false) 0) else (none)) else (none)))))) = some r := h
  clear h
  replace H := Option.bind_eq_some_iff.mp H
  obtain ⟨t350, A40, H⟩ := H
  replace H : ((koineref25_Made.f l0 50).bind fun t351 => ((koineref25_Wrap.f 6 0 t351).bind fun t354 => ((document_Groups.f t354).bind fun bt357 => (if 0 ≤ (bt357.1.length : Int) then (if ((bt357.1.length : Int) : Int).toNat ≤ 281474976710656 then (koinelaw25_DocumentFlat.l0 k l1 l2 t350 t354 bt357.1 bt357.2 (List.replicate ((bt357.1.length : Int) : Int).toNat false) (List.replicate ((bt357.1.length : Int) : Int).toNat false) 0) else (none)) else (none))))) = some r := H
  have A4 := Aside0.mk A40
  clear A40
  replace H := Option.bind_eq_some_iff.mp H
  obtain ⟨t351, A50, H⟩ := H
  replace H : ((koineref25_Wrap.f 6 0 t351).bind fun t354 => ((document_Groups.f t354).bind fun bt357 => (if 0 ≤ (bt357.1.length : Int) then (if ((bt357.1.length : Int) : Int).toNat ≤ 281474976710656 then (koinelaw25_DocumentFlat.l0 k l1 l2 t350 t354 bt357.1 bt357.2 (List.replicate ((bt357.1.length : Int) : Int).toNat false) (List.replicate ((bt357.1.length : Int) : Int).toNat false) 0) else (none)) else (none)))) = some r := H
  have A5 := Aside0.mk A50
  clear A50
  replace H := Option.bind_eq_some_iff.mp H
  obtain ⟨t354, A60, H⟩ := H
  replace H : ((document_Groups.f t354).bind fun bt357 => (if 0 ≤ (bt357.1.length : Int) then (if ((bt357.1.length : Int) : Int).toNat ≤ 281474976710656 then (koinelaw25_DocumentFlat.l0 k l1 l2 t350 t354 bt357.1 bt357.2 (List.replicate ((bt357.1.length : Int) : Int).toNat false) (List.replicate ((bt357.1.length : Int) : Int).toNat false) 0) else (none)) else (none))) = some r := H
  have A6 := Aside0.mk A60
  clear A60
  replace H := Option.bind_eq_some_iff.mp H
  obtain ⟨⟨t357, t358⟩, A70, H⟩ := H
  replace H : (if 0 ≤ (t357.length : Int) then (if ((t357.length : Int) : Int).toNat ≤ 281474976710656 then (koinelaw25_DocumentFlat.l0 k l1 l2 t350 t354 t357 t358 (List.replicate ((t357.length : Int) : Int).toNat false) (List.replicate ((t357.length : Int) : Int).toNat false) 0) else (none)) else (none)) = some r := H
  have A7 := Aside0.mk A70
  clear A70
  by_cases c8 : 0 ≤ (t357.length : Int)
  · rw [if_pos c8] at H
    have c8b0 := eq_true c8
    have c8b1 : decide (0 ≤ (t357.length : Int)) = true := decide_eq_true c8
    clear c8
    by_cases c9 : ((t357.length : Int) : Int).toNat ≤ 281474976710656
    · rw [if_pos c9] at H
      have c9b0 := eq_true c9
      have c9b1 : decide (((t357.length : Int) : Int).toNat ≤ 281474976710656) = true := decide_eq_true c9
      clear c9
      obtain ⟨y361, hy361⟩ : ∃ y_ : List Bool, y_ = (List.replicate ((t357.length : Int) : Int).toNat false) := ⟨_, rfl⟩
      replace H : (koinelaw25_DocumentFlat.l0 k l1 l2 t350 t354 t357 t358 y361 (List.replicate ((t357.length : Int) : Int).toNat false) 0) = some r := by first | (rw [hy361]; with_reducible exact H) | (have H2_ := (Option.bind_some _ _).symm.trans H; rw [hy361]; with_reducible exact H2_) | (have H2_ := (Option.bind_some _ _).symm.trans H; with_reducible exact H2_) | with_reducible exact H | (rw [hy361]; exact H) | exact H
      have Ny361 := Aside0.mk hy361
      clear hy361
      obtain ⟨y364, hy364⟩ : ∃ y_ : List Bool, y_ = (List.replicate ((t357.length : Int) : Int).toNat false) := ⟨_, rfl⟩
      replace H : (koinelaw25_DocumentFlat.l0 k l1 l2 t350 t354 t357 t358 y361 y364 0) = some r := by first | (rw [hy364]; with_reducible exact H) | (have H2_ := (Option.bind_some _ _).symm.trans H; rw [hy364]; with_reducible exact H2_) | (have H2_ := (Option.bind_some _ _).symm.trans H; with_reducible exact H2_) | with_reducible exact H | (rw [hy364]; exact H) | exact H
      have Ny364 := Aside0.mk hy364
      clear hy364
      have H' := Aside0.mk H
      clear H
      go_enter Try.func8, Try.ntmps8
      go_wp2_with (first | ((with_reducible refine gate_callee (f := 20) rfl ?_); refine goesL_ (some 18) rfl rfl Try.func20 (by kernel_rfl) rfl #[] rfl (by (try simp only [List.map_toArray, List.map_cons, List.map_nil]); first | done | rfl | (simp only [List.length_drop, List.length_take]; rfl)) ?_; (with_reducible refine (koinelaw25_sanity.calls  t350 _ A4.out).mono ?_); rintro e w10 ⟨rfl, hb⟩; refine ⟨_, rfl, ?_⟩; have n0_ := Aside0.mk (below_step (by repeat (first | (with_reducible first | exact HB.out | apply below_alloc | apply pw_below_drewN | apply below_drew1) | exact HB.out)) hb); clear HB; have HB := n0_; clear n0_; (try clear hb); (try clear hb2); (try clear hk); (try clear hi)) | ((with_reducible refine gate_callee (f := 21) rfl ?_); refine goesL_ (some 20) rfl rfl Try.func21 (by kernel_rfl) rfl #[.slice A0 l0.length c0, .int .i64 50] rfl (by (try simp only [List.map_toArray, List.map_cons, List.map_nil]); first | done | rfl | (simp only [List.length_drop, List.length_take]; rfl)) ?_; (with_reducible refine (koineref25_Made.calls _ _ l0 50 t351 _ ?side1 ?side2 A5.out).mono ?_); (case side1 => repeat (first | exact (Kd.C_below HR0.out HB.out) | (with_reducible refine Kd.C_alloc ?_ _) | (with_reducible refine Kd.C_drewN ?_ _) | (with_reducible refine Kd.C_drew ?_))); (case side2 => exact HC0.out); rintro e w11 ⟨v352, rfl, ho0, hb⟩; refine ⟨_, rfl, ?_⟩; have n0_ := Aside0.mk (Kd.R_lower ho0 (below_size (by repeat (first | (with_reducible first | exact HB.out | apply below_alloc | apply pw_below_drewN | apply below_drew1) | exact HB.out)))); have n1_ := Aside0.mk (below_step (by repeat (first | (with_reducible first | exact HB.out | apply below_alloc | apply pw_below_drewN | apply below_drew1) | exact HB.out)) hb); clear HB; have HO353 := n0_; have HB := n1_; clear n0_ n1_; (try clear hb); (try clear hb2); (try clear hk); (try clear hi); (try clear ho0); obtain ⟨Ao12, co12, eo12⟩ := Kd.R_slice HO353.out; subst eo12) | ((with_reducible refine gate_callee (f := 36) rfl ?_); refine goesL_ (some 21) rfl rfl Try.func36 (by kernel_rfl) rfl #[.int .i64 6, .int .i64 0, .slice Ao12 t351.length co12] rfl (by (try simp only [List.map_toArray, List.map_cons, List.map_nil]); first | done | rfl | (simp only [List.length_drop, List.length_take]; rfl)) ?_; (with_reducible refine (koineref25_Wrap.calls 6 0 _ _ t351 t354 _ ?side1 ?side2 A6.out).mono ?_); (case side1 => repeat (first | exact (Kd.R_reads' HO353.out).2.2 | (with_reducible refine Kd.C_alloc ?_ _) | (with_reducible refine Kd.C_drewN ?_ _) | (with_reducible refine Kd.C_drew ?_))); (case side2 => exact (Kd.R_reads' HO353.out).2.1); rintro e w13 ⟨v355, rfl, ho0, hb⟩; refine ⟨_, rfl, ?_⟩; have n0_ := Aside0.mk (Kd.R_elder' (by (with_reducible repeat (first | apply Kd.R_alloc | apply Kd.R_drewN | apply Kd.R_drew)); exact HO353.out) (Kd.R_base ho0) hb); have n1_ := Aside0.mk (Kd.R_lower (Kd.R_new' ho0 (Kd.R_lt (by (with_reducible repeat (first | apply Kd.R_alloc | apply Kd.R_drewN | apply Kd.R_drew)); exact HO353.out))) (below_size (by repeat (first | (with_reducible first | exact HB.out | apply below_alloc | apply pw_below_drewN | apply below_drew1) | exact HB.out)))); have n2_ := Aside0.mk (below_step (by repeat (first | (with_reducible first | exact HB.out | apply below_alloc | apply pw_below_drewN | apply below_drew1) | exact HB.out)) hb); clear HO353; clear HB; have HO353 := n0_; have HO356 := n1_; have HB := n2_; clear n0_ n1_ n2_; (try clear hb); (try clear hb2); (try clear hk); (try clear hi); (try clear ho0); obtain ⟨Ao14, co14, eo14⟩ := Kd.R_slice HO356.out; subst eo14) | ((with_reducible refine gate_callee (f := 22) rfl ?_); refine goesL_ (some 24) rfl rfl Try.func22 (by kernel_rfl) rfl #[.slice Ao14 t354.length co14] rfl (by (try simp only [List.map_toArray, List.map_cons, List.map_nil]); first | done | rfl | (simp only [List.length_drop, List.length_take]; rfl)) ?_; (with_reducible refine (document_Groups.calls _ _ t354 t357 t358 _ ?side1 ?side2 A7.out).mono ?_); (case side1 => repeat (first | exact (Kd.R_reads' HO356.out).2.2 | (with_reducible refine Kd.C_alloc ?_ _) | (with_reducible refine Kd.C_drewN ?_ _) | (with_reducible refine Kd.C_drew ?_))); (case side2 => exact (Kd.R_reads' HO356.out).2.1); rintro e w15 ⟨v359, rfl, ho0, hb⟩; refine ⟨_, rfl, ?_⟩; have n0_ := Aside0.mk (Kd.R_below (by (with_reducible repeat (first | apply Kd.R_alloc | apply Kd.R_drewN | apply Kd.R_drew)); exact HO353.out) hb); have n1_ := Aside0.mk (Kd.R_below (by (with_reducible repeat (first | apply Kd.R_alloc | apply Kd.R_drewN | apply Kd.R_drew)); exact HO356.out) hb); have n2_ := Aside0.mk (Kd.R_lower ho0 (below_size (by repeat (first | (with_reducible first | exact HB.out | apply below_alloc | apply pw_below_drewN | apply below_drew1) | exact HB.out)))); have n3_ := Aside0.mk (below_step (by repeat (first | (with_reducible first | exact HB.out | apply below_alloc | apply pw_below_drewN | apply below_drew1) | exact HB.out)) hb); clear HO353; clear HO356; clear HB; have HO353 := n0_; have HO356 := n1_; have HO360 := n2_; have HB := n3_; clear n0_ n1_ n2_ n3_; (try clear hb); (try clear hb2); (try clear hk); (try clear hi); (try clear ho0); obtain ⟨Ao16, co16, eo16⟩ := Kd.R_slice HO360.out; subst eo16) | ((with_reducible refine gate_dst (N := 29) rfl ?_); (try (refine gate_guard (by rfl) ?_; dsimp only)); refine Kd.R_make Kd.bool _ 4 rfl (N := 29) rfl 23 _ _ rfl (t357.length : Int) rfl rfl Try.underlying23 (.bool false) 1 info4 rfl (by decide) (by omega) false (ok := fun _ => True) (okp := fun _ => True) rfl (fun _ hk => hk) trivial (of_decide_eq_true (by first | (with_reducible assumption) | assumption)) (Nat.le_trans (Nat.mul_le_mul_right _ (of_decide_eq_true (by first | (with_reducible assumption) | assumption) : (t357.length : Int).toNat ≤ 281474976710656)) (by omega)) (Below.refl _ _) (Nat.le_refl _) ?_; intro v362 w17 ho18 hb hg_ hnew_; clear hg_ hnew_; (first | rw [← Ny361.out] at ho18 | (simp only [Int.reduceToNat] at ho18; rw [← Ny361.out] at ho18)); have n0_ := Aside0.mk (Kd.R_below (by (with_reducible repeat (first | apply Kd.R_alloc | apply Kd.R_drewN | apply Kd.R_drew)); exact HO353.out) hb); have n1_ := Aside0.mk (Kd.R_below (by (with_reducible repeat (first | apply Kd.R_alloc | apply Kd.R_drewN | apply Kd.R_drew)); exact HO356.out) hb); have n2_ := Aside0.mk (Kd.R_below (by (with_reducible repeat (first | apply Kd.R_alloc | apply Kd.R_drewN | apply Kd.R_drew)); exact HO360.out) hb); have n3_ := Aside0.mk (Kd.R_lower ho18 (below_size (by repeat (first | (with_reducible first | exact HB.out | apply below_alloc | apply pw_below_drewN | apply below_drew1) | exact HB.out)))); have n4_ := Aside0.mk (below_step (by repeat (first | (with_reducible first | exact HB.out | apply below_alloc | apply pw_below_drewN | apply below_drew1) | exact HB.out)) hb); clear HO353; clear HO356; clear HO360; clear HB; have HO353 := n0_; have HO356 := n1_; have HO360 := n2_; have HO363 := n3_; have HB := n4_; clear n0_ n1_ n2_ n3_ n4_; clear hb ho18) | ((with_reducible refine gate_dst (N := 32) rfl ?_); (try (refine gate_guard (by rfl) ?_; dsimp only)); refine Kd.R_make Kd.bool _ 4 rfl (N := 32) rfl 23 _ _ rfl (t357.length : Int) rfl rfl Try.underlying23 (.bool false) 1 info4 rfl (by decide) (by omega) false (ok := fun _ => True) (okp := fun _ => True) rfl (fun _ hk => hk) trivial (of_decide_eq_true (by first | (with_reducible assumption) | assumption)) (Nat.le_trans (Nat.mul_le_mul_right _ (of_decide_eq_true (by first | (with_reducible assumption) | assumption) : (t357.length : Int).toNat ≤ 281474976710656)) (by omega)) (Below.refl _ _) (Nat.le_refl _) ?_; intro v365 w19 ho20 hb hg_ hnew_; clear hg_ hnew_; (first | rw [← Ny364.out] at ho20 | (simp only [Int.reduceToNat] at ho20; rw [← Ny364.out] at ho20)); have n0_ := Aside0.mk (Kd.R_below (by (with_reducible repeat (first | apply Kd.R_alloc | apply Kd.R_drewN | apply Kd.R_drew)); exact HO353.out) hb); have n1_ := Aside0.mk (Kd.R_below (by (with_reducible repeat (first | apply Kd.R_alloc | apply Kd.R_drewN | apply Kd.R_drew)); exact HO356.out) hb); have n2_ := Aside0.mk (Kd.R_below (by (with_reducible repeat (first | apply Kd.R_alloc | apply Kd.R_drewN | apply Kd.R_drew)); exact HO360.out) hb); have n3_ := Aside0.mk (Kd.R_elder' (by (with_reducible repeat (first | apply Kd.R_alloc | apply Kd.R_drewN | apply Kd.R_drew)); exact HO363.out) (Kd.R_base ho20) hb); have n4_ := Aside0.mk (Kd.R_lower (Kd.R_new' ho20 (Kd.R_lt (by (with_reducible repeat (first | apply Kd.R_alloc | apply Kd.R_drewN | apply Kd.R_drew)); exact HO363.out))) (below_size (by repeat (first | (with_reducible first | exact HB.out | apply below_alloc | apply pw_below_drewN | apply below_drew1) | exact HB.out)))); have n5_ := Aside0.mk (below_step (by repeat (first | (with_reducible first | exact HB.out | apply below_alloc | apply pw_below_drewN | apply below_drew1) | exact HB.out)) hb); clear HO353; clear HO356; clear HO360; clear HO363; clear HB; have HO353 := n0_; have HO356 := n1_; have HO360 := n2_; have HO363 := n3_; have HO366 := n4_; have HB := n5_; clear n0_ n1_ n2_ n3_ n4_ n5_; clear hb ho20))
      go_loopg [13] k (fun kq v13 w' => ∃ (x11_1 : List Bool) (x12_1 : List Bool) (x13_1 : Int), v13 = .int .i64 x13_1 ∧ Aside0 (koinelaw25_DocumentFlat.l0 kq l1 l2 t350 t354 t357 t358 x11_1 x12_1 x13_1 = some r) ∧ Aside0 (kq ≤ k) ∧ Aside0 (Kd.R k42 42 w' w.heap.size (fun _ => True) (.slice Ao14 t354.length co14) t354) ∧ Aside0 (Kd.R (Kd.int .i64) 3 w' w.heap.size (fun _ => True) (.slice Ao16 t357.length co16) t357) ∧ Aside0 (Kd.R Kd.bool 4 w' w.heap.size (fun k_ => some k_ ≠ (v365 : Value).ownBlock) v362 x11_1) ∧ Aside0 (Kd.R Kd.bool 4 w' w.heap.size (fun k_ => some k_ ≠ (v362 : Value).ownBlock) v365 x12_1) ∧ Aside0 (Below w.heap.size w w'))
      case atStart => exact ⟨(y361), (y364), (0), (by first | rfl | (simp; done) | (simp [*]; done)), H', ⟨Nat.le_refl _⟩, ⟨by (with_reducible repeat (first | apply Kd.R_alloc | apply Kd.R_drewN | apply Kd.R_drew)); exact Kd.R_mono HO356.out (fun _ hk => trivial)⟩, ⟨by (with_reducible repeat (first | apply Kd.R_alloc | apply Kd.R_drewN | apply Kd.R_drew)); exact HO360.out⟩, ⟨by (with_reducible repeat (first | apply Kd.R_alloc | apply Kd.R_drewN | apply Kd.R_drew)); exact Kd.R_mono HO363.out (fun _ hk => hk.2)⟩, ⟨by (with_reducible repeat (first | apply Kd.R_alloc | apply Kd.R_drewN | apply Kd.R_drew)); exact Kd.R_mono HO366.out (fun _ hk => hk.2)⟩, ⟨by repeat (first | (with_reducible first | exact HB.out | apply below_alloc | apply pw_below_drewN | apply below_drew1) | exact HB.out)⟩⟩
      case round =>
        clear H'
        try clear c1
        try clear c2
        try clear p2
        try clear c3
        try clear c8
        try clear c8b0
        try clear c8b1
        try clear c9
        try clear c9b0
        try clear c9b1
        try clear c20
        obtain ⟨x11_1, x12_1, x13_1, rfl, HA, HK1, HO_8, HO_9, HO_11, HO_12, HB⟩ := hrel
        cases gk with
        | zero => exact absurd HA.out (by simp [koinelaw25_DocumentFlat.l0])
        | succ k1 =>
          have H := HA.out
          clear HA
          simp only [koinelaw25_DocumentFlat.l0] at H
          by_cases c21 : x13_1 < (t357.length : Int)
          · rw [if_pos c21] at H
            have c21b0 : decide (x13_1 < (t357.length : Int)) = true := decide_eq_true c21
            clear c21
            by_cases c22 : x13_1 = 0
            · rw [if_pos c22] at H
              have c22b0 : (x13_1 == 0) = true := beq_iff_eq.mpr c22
              have c22b1 : (x13_1 != 0) = false := bne_eq_false_iff_eq.mpr c22
              clear c22
              by_cases c23 : 0 ≤ x13_1
              · rw [if_pos c23] at H
                have c23b0 : decide (0 ≤ x13_1) = true := decide_eq_true c23
                clear c23
                by_cases c24 : x13_1 < (x11_1.length : Int)
                · rw [if_pos c24] at H
                  have c24b0 : decide (x13_1 < (x11_1.length : Int)) = true := decide_eq_true c24
                  clear c24
                  obtain ⟨y367, hy367⟩ : ∃ y_ : List Bool, y_ = (x11_1.set (x13_1 : Int).toNat true) := ⟨_, rfl⟩
                  replace H : (if x13_1 < (x12_1.length : Int) then (koinelaw25_DocumentFlat.l0 k1 l1 l2 t350 t354 t357 t358 y367 (x12_1.set (x13_1 : Int).toNat true) (wrap64 (x13_1 + 1))) else (none)) = some r := by first | (rw [hy367]; with_reducible exact H) | (have H2_ := (Option.bind_some _ _).symm.trans H; rw [hy367]; with_reducible exact H2_) | (have H2_ := (Option.bind_some _ _).symm.trans H; with_reducible exact H2_) | with_reducible exact H | (rw [hy367]; exact H) | exact H
                  have Ny367 := Aside0.mk hy367
                  clear hy367
                  by_cases c26 : x13_1 < (x12_1.length : Int)
                  · rw [if_pos c26] at H
                    have c26b0 : decide (x13_1 < (x12_1.length : Int)) = true := decide_eq_true c26
                    clear c26
                    obtain ⟨y368, hy368⟩ : ∃ y_ : List Bool, y_ = (x12_1.set (x13_1 : Int).toNat true) := ⟨_, rfl⟩
                    replace H : (koinelaw25_DocumentFlat.l0 k1 l1 l2 t350 t354 t357 t358 y367 y368 (wrap64 (x13_1 + 1))) = some r := by first | (rw [hy368]; with_reducible exact H) | (have H2_ := (Option.bind_some _ _).symm.trans H; rw [hy368]; with_reducible exact H2_) | (have H2_ := (Option.bind_some _ _).symm.trans H; with_reducible exact H2_) | with_reducible exact H | (rw [hy368]; exact H) | exact H
                    have Ny368 := Aside0.mk hy368
                    clear hy368
                    have H' := Aside0.mk H
                    clear H
                    have p25 : 0 ≤ (x13_1 : Int) := of_decide_eq_true (by first | (with_reducible assumption) | assumption)
                    have q25 : (x13_1 : Int) < ((x11_1.length : Int) : Int) := of_decide_eq_true (by first | (with_reducible assumption) | assumption)
                    obtain ⟨go25, co25, eo25, gb25, gl25, cl25, HG25⟩ := Kd.R_form HO_11.out (by omega)
                    (first | cases eo25 | (injection eo25 with ea_ en_ ec_; (first | subst ea_ | (injection ea_ with ea_; subst ea_)); subst ec_; clear en_))
                    have GB25 := Aside0.mk gb25
                    have GG25 := Aside0.mk HG25
                    clear gb25 gl25 HG25
                    obtain ⟨hx25_0, hf25_0⟩ := Kd.R_celln false HO_11.out (x13_1 : Int) p25 q25
                    replace p25 := eq_true p25
                    replace q25 := eq_true q25
                    have HP28 := Kd.R_putg HO_11.out (x13_1 : Int) true
                    go_wp2_with (first | ((with_reducible refine gate_store (t := 4) (p := 55) rfl ?_); refine store_event (t := 4) (p := 55) (v := ?vo_w29) (w1 := (wr.setCell ⟨go25, (x13_1 : Int).toNat, none⟩ (.bool true))) ?hg ?ho ?hn ?hr ?_; (case ho => rfl); (case hg => rfl); (case hn => rfl); (case hr => first | (go_simp; done) | (go_simp; rfl)); intro w29 hw; have hg : wr.grownBy w29 (some go25) := (by rw [hw]; exact HP28.2); have hp_ : Kd.R Kd.bool 4 w29 w.heap.size (fun k_ => some k_ ≠ (v365 : Value).ownBlock) (.slice (some ⟨go25, 0, none⟩) x11_1.length co25) y367 := (by rw [hw, Ny367.out]; exact HP28.1); clear HP28; have n0_ := Aside0.mk (Kd.R_over' (v := (.slice (some ⟨go25, 0, none⟩) x11_1.length co25)) (by (with_reducible repeat (first | apply Kd.R_alloc | apply Kd.R_drewN | apply Kd.R_drew)); exact HO_8.out) (Kd.R_typed HO_11.out) (by decide) hg); have n1_ := Aside0.mk (Kd.R_over' (v := (.slice (some ⟨go25, 0, none⟩) x11_1.length co25)) (by (with_reducible repeat (first | apply Kd.R_alloc | apply Kd.R_drewN | apply Kd.R_drew)); exact HO_9.out) (Kd.R_typed HO_11.out) (by decide) hg); have n2_ := Aside0.mk (hp_); have n3_ := Aside0.mk (Kd.R_after (v := (.slice (some ⟨go25, 0, none⟩) x11_1.length co25)) (v1 := (.slice (some ⟨go25, 0, none⟩) x11_1.length co25)) (ok := (fun _ => True)) (by (with_reducible repeat (first | apply Kd.R_alloc | apply Kd.R_drewN | apply Kd.R_drew)); exact Kd.R_mono HO_12.out (fun _ hk => ⟨trivial, hk⟩)) hg (.inl rfl)); have n4_ := Aside0.mk ((by rw [hw]; exact below_set (HB.out) GB25.out : Below w.heap.size w w29)); clear HO_8; clear HO_9; clear HO_11; clear HO_12; clear HB; have HO_8 := n0_; have HO_9 := n1_; have HO_11 := n2_; have HO_12 := n3_; have HB := n4_; clear n0_ n1_ n2_ n3_ n4_; clear hg hw hp_; have p27 : 0 ≤ (x13_1 : Int) := of_decide_eq_true (by first | (with_reducible assumption) | assumption); have q27 : (x13_1 : Int) < ((x12_1.length : Int) : Int) := of_decide_eq_true (by first | (with_reducible assumption) | assumption); obtain ⟨go27, co27, eo27, gb27, gl27, cl27, HG27⟩ := Kd.R_form HO_12.out (by omega); (first | cases eo27 | (injection eo27 with ea_ en_ ec_; (first | subst ea_ | (injection ea_ with ea_; subst ea_)); subst ec_; clear en_)); have GB27 := Aside0.mk gb27; have GG27 := Aside0.mk HG27; clear gb27 gl27 HG27; obtain ⟨hx27_0, hf27_0⟩ := Kd.R_celln false HO_12.out (x13_1 : Int) p27 q27; replace p27 := eq_true p27; replace q27 := eq_true q27; have n_ := Aside0.mk (Kd.R_mono (ok' := (fun k_ => some k_ ≠ (.slice (some ⟨go25, 0, none⟩) x11_1.length co25 : Value).ownBlock)) HO_12.out (fun k_ hk => hk.2)); clear HO_12; have HO_12 := n_; clear n_; obtain ⟨hy30_, hz30_⟩ := Kd.R_celln false HO_12.out (x13_1 : Int) (of_decide_eq_true (by first | (with_reducible assumption) | assumption)) (of_decide_eq_true (by first | (with_reducible assumption) | assumption)); have HP30 := Kd.R_putg HO_12.out (x13_1 : Int) true) | ((with_reducible refine gate_store (t := 4) (p := 72) rfl ?_); refine store_event (t := 4) (p := 72) (v := ?vo_w31) (w1 := (w29.setCell ⟨go27, (x13_1 : Int).toNat, none⟩ (.bool true))) ?hg ?ho ?hn ?hr ?_; (case ho => rfl); (case hg => rfl); (case hn => rfl); (case hr => first | (go_simp; done) | (go_simp; rfl)); intro w31 hw; have hg : w29.grownBy w31 (some go27) := (by rw [hw]; exact HP30.2); have hp_ : Kd.R Kd.bool 4 w31 w.heap.size (fun k_ => some k_ ≠ (.slice (some ⟨go25, 0, none⟩) x11_1.length co25 : Value).ownBlock) (.slice (some ⟨go27, 0, none⟩) x12_1.length co27) y368 := (by rw [hw, Ny368.out]; exact HP30.1); clear HP30; have n0_ := Aside0.mk (Kd.R_over' (v := (.slice (some ⟨go27, 0, none⟩) x12_1.length co27)) (by (with_reducible repeat (first | apply Kd.R_alloc | apply Kd.R_drewN | apply Kd.R_drew)); exact HO_8.out) (Kd.R_typed HO_12.out) (by decide) hg); have n1_ := Aside0.mk (Kd.R_over' (v := (.slice (some ⟨go27, 0, none⟩) x12_1.length co27)) (by (with_reducible repeat (first | apply Kd.R_alloc | apply Kd.R_drewN | apply Kd.R_drew)); exact HO_9.out) (Kd.R_typed HO_12.out) (by decide) hg); have n2_ := Aside0.mk (Kd.R_after (v := (.slice (some ⟨go27, 0, none⟩) x12_1.length co27)) (v1 := (.slice (some ⟨go27, 0, none⟩) x12_1.length co27)) (ok := (fun _ => True)) (by (with_reducible repeat (first | apply Kd.R_alloc | apply Kd.R_drewN | apply Kd.R_drew)); exact Kd.R_mono HO_11.out (fun _ hk => ⟨trivial, hk⟩)) hg (.inl rfl)); have n3_ := Aside0.mk (hp_); have n4_ := Aside0.mk ((by rw [hw]; exact below_set (HB.out) GB27.out : Below w.heap.size w w31)); clear HO_8; clear HO_9; clear HO_11; clear HO_12; clear HB; have HO_8 := n0_; have HO_9 := n1_; have HO_11 := n2_; have HO_12 := n3_; have HB := n4_; clear n0_ n1_ n2_ n3_ n4_; clear hg hw hp_))
                    go_roundg k1
                    case measure => have := HK1.out; omega
                    case rel => exact ⟨(y367), (y368), (wrap64 (x13_1 + 1)), (by first | rfl | (simp; done) | (simp [*]; done)), H', ⟨by have := HK1.out; omega⟩, ⟨by (with_reducible repeat (first | apply Kd.R_alloc | apply Kd.R_drewN | apply Kd.R_drew)); exact HO_8.out⟩, ⟨by (with_reducible repeat (first | apply Kd.R_alloc | apply Kd.R_drewN | apply Kd.R_drew)); exact HO_9.out⟩, ⟨by (with_reducible repeat (first | apply Kd.R_alloc | apply Kd.R_drewN | apply Kd.R_drew)); exact Kd.R_mono HO_11.out (fun _ hk => hk.2)⟩, ⟨by (with_reducible repeat (first | apply Kd.R_alloc | apply Kd.R_drewN | apply Kd.R_drew)); exact HO_12.out⟩, ⟨by repeat (first | (with_reducible first | exact HB.out | apply below_alloc | apply pw_below_drewN | apply below_drew1) | exact HB.out)⟩⟩
                  · rw [if_neg c26] at H
                    exact absurd H (by simp)
                · rw [if_neg c24] at H
                  exact absurd H (by simp)
              · rw [if_neg c23] at H
                exact absurd H (by simp)
            · rw [if_neg c22] at H
              have c22b0 : (x13_1 == 0) = false := beq_eq_false_iff_ne.mpr c22
              have c22b1 : (x13_1 != 0) = true := bne_iff_ne.mpr c22
              by_cases c32 : x13_1 < (l1.length : Int)
              · rw [if_pos c32] at H
                have c32b0 : decide (x13_1 < (l1.length : Int)) = true := decide_eq_true c32
                clear c32
                by_cases c33 : 0 ≤ x13_1
                · rw [if_pos c33] at H
                  have c33b0 : decide (0 ≤ x13_1) = true := decide_eq_true c33
                  clear c33
                  by_cases c34 : x13_1 < (x11_1.length : Int)
                  · rw [if_pos c34] at H
                    have c34b0 : decide (x13_1 < (x11_1.length : Int)) = true := decide_eq_true c34
                    clear c34
                    obtain ⟨y370, hy370⟩ : ∃ y_ : List Bool, y_ = (x11_1.set (x13_1 : Int).toNat (rdOf false l1 x13_1)) := ⟨_, rfl⟩
                    replace H : (if x13_1 < (l2.length : Int) then (if x13_1 < (x12_1.length : Int) then (koinelaw25_DocumentFlat.l0 k1 l1 l2 t350 t354 t357 t358 y370 (x12_1.set (x13_1 : Int).toNat (rdOf false l2 x13_1)) (wrap64 (x13_1 + 1))) else (none)) else (if x13_1 < (x12_1.length : Int) then (koinelaw25_DocumentFlat.l0 k1 l1 l2 t350 t354 t357 t358 y370 (x12_1.set (x13_1 : Int).toNat false) (wrap64 (x13_1 + 1))) else (none))) = some r := by first | (rw [hy370]; with_reducible exact H) | (have H2_ := (Option.bind_some _ _).symm.trans H; rw [hy370]; with_reducible exact H2_) | (have H2_ := (Option.bind_some _ _).symm.trans H; with_reducible exact H2_) | with_reducible exact H | (rw [hy370]; exact H) | exact H
                    have Ny370 := Aside0.mk hy370
                    clear hy370
                    by_cases c36 : x13_1 < (l2.length : Int)
                    · rw [if_pos c36] at H
                      have c36b0 : decide (x13_1 < (l2.length : Int)) = true := decide_eq_true c36
                      clear c36
                      by_cases c37 : x13_1 < (x12_1.length : Int)
                      · rw [if_pos c37] at H
                        have c37b0 : decide (x13_1 < (x12_1.length : Int)) = true := decide_eq_true c37
                        clear c37
                        obtain ⟨y372, hy372⟩ : ∃ y_ : List Bool, y_ = (x12_1.set (x13_1 : Int).toNat (rdOf false l2 x13_1)) := ⟨_, rfl⟩
                        replace H : (koinelaw25_DocumentFlat.l0 k1 l1 l2 t350 t354 t357 t358 y370 y372 (wrap64 (x13_1 + 1))) = some r := by first | (rw [hy372]; with_reducible exact H) | (have H2_ := (Option.bind_some _ _).symm.trans H; rw [hy372]; with_reducible exact H2_) | (have H2_ := (Option.bind_some _ _).symm.trans H; with_reducible exact H2_) | with_reducible exact H | (rw [hy372]; exact H) | exact H
                        have Ny372 := Aside0.mk hy372
                        clear hy372
                        have H' := Aside0.mk H
                        clear H
                        have p369 : 0 ≤ (x13_1 : Int) := of_decide_eq_true (by first | (with_reducible assumption) | assumption)
                        have q369 : x13_1 < (l1.length : Int) := of_decide_eq_true (by first | (with_reducible assumption) | assumption)
                        obtain ⟨ad369, e369, hx369_0⟩ := Kd.at_bool HR1.out x13_1 p369 q369
                        cases e369
                        replace hx369_0 := (HB.out.cell (World.block_lt_of_cell? w _ hx369_0)).trans hx369_0
                        replace p369 := eq_true p369
                        replace q369 := eq_true q369
                        have p35 : 0 ≤ (x13_1 : Int) := of_decide_eq_true (by first | (with_reducible assumption) | assumption)
                        have q35 : (x13_1 : Int) < ((x11_1.length : Int) : Int) := of_decide_eq_true (by first | (with_reducible assumption) | assumption)
                        obtain ⟨go35, co35, eo35, gb35, gl35, cl35, HG35⟩ := Kd.R_form HO_11.out (by omega)
                        (first | cases eo35 | (injection eo35 with ea_ en_ ec_; (first | subst ea_ | (injection ea_ with ea_; subst ea_)); subst ec_; clear en_))
                        have GB35 := Aside0.mk gb35
                        have GG35 := Aside0.mk HG35
                        clear gb35 gl35 HG35
                        obtain ⟨hx35_0, hf35_0⟩ := Kd.R_celln false HO_11.out (x13_1 : Int) p35 q35
                        replace p35 := eq_true p35
                        replace q35 := eq_true q35
                        have HP39 := Kd.R_putg HO_11.out (x13_1 : Int) (rdOf false l1 x13_1)
                        go_wp2_with (first | ((with_reducible refine gate_store (t := 4) (p := 55) rfl ?_); refine store_event (t := 4) (p := 55) (v := ?vo_w40) (w1 := (wr.setCell ⟨go35, (x13_1 : Int).toNat, none⟩ (.bool (rdOf false l1 x13_1)))) ?hg ?ho ?hn ?hr ?_; (case ho => rfl); (case hg => rfl); (case hn => rfl); (case hr => first | (go_simp; done) | (go_simp; rfl)); intro w40 hw; have hg : wr.grownBy w40 (some go35) := (by rw [hw]; exact HP39.2); have hp_ : Kd.R Kd.bool 4 w40 w.heap.size (fun k_ => some k_ ≠ (v365 : Value).ownBlock) (.slice (some ⟨go35, 0, none⟩) x11_1.length co35) y370 := (by rw [hw, Ny370.out]; exact HP39.1); clear HP39; have n0_ := Aside0.mk (Kd.R_over' (v := (.slice (some ⟨go35, 0, none⟩) x11_1.length co35)) (by (with_reducible repeat (first | apply Kd.R_alloc | apply Kd.R_drewN | apply Kd.R_drew)); exact HO_8.out) (Kd.R_typed HO_11.out) (by decide) hg); have n1_ := Aside0.mk (Kd.R_over' (v := (.slice (some ⟨go35, 0, none⟩) x11_1.length co35)) (by (with_reducible repeat (first | apply Kd.R_alloc | apply Kd.R_drewN | apply Kd.R_drew)); exact HO_9.out) (Kd.R_typed HO_11.out) (by decide) hg); have n2_ := Aside0.mk (hp_); have n3_ := Aside0.mk (Kd.R_after (v := (.slice (some ⟨go35, 0, none⟩) x11_1.length co35)) (v1 := (.slice (some ⟨go35, 0, none⟩) x11_1.length co35)) (ok := (fun _ => True)) (by (with_reducible repeat (first | apply Kd.R_alloc | apply Kd.R_drewN | apply Kd.R_drew)); exact Kd.R_mono HO_12.out (fun _ hk => ⟨trivial, hk⟩)) hg (.inl rfl)); have n4_ := Aside0.mk ((by rw [hw]; exact below_set (HB.out) GB35.out : Below w.heap.size w w40)); clear HO_8; clear HO_9; clear HO_11; clear HO_12; clear HB; have HO_8 := n0_; have HO_9 := n1_; have HO_11 := n2_; have HO_12 := n3_; have HB := n4_; clear n0_ n1_ n2_ n3_ n4_; clear hg hw hp_; have p371 : 0 ≤ (x13_1 : Int) := of_decide_eq_true (by first | (with_reducible assumption) | assumption); have q371 : x13_1 < (l2.length : Int) := of_decide_eq_true (by first | (with_reducible assumption) | assumption); obtain ⟨ad371, e371, hx371_0⟩ := Kd.at_bool HR2.out x13_1 p371 q371; cases e371; replace hx371_0 := (HB.out.cell (World.block_lt_of_cell? w _ hx371_0)).trans hx371_0; replace p371 := eq_true p371; replace q371 := eq_true q371; have p38 : 0 ≤ (x13_1 : Int) := of_decide_eq_true (by first | (with_reducible assumption) | assumption); have q38 : (x13_1 : Int) < ((x12_1.length : Int) : Int) := of_decide_eq_true (by first | (with_reducible assumption) | assumption); obtain ⟨go38, co38, eo38, gb38, gl38, cl38, HG38⟩ := Kd.R_form HO_12.out (by omega); (first | cases eo38 | (injection eo38 with ea_ en_ ec_; (first | subst ea_ | (injection ea_ with ea_; subst ea_)); subst ec_; clear en_)); have GB38 := Aside0.mk gb38; have GG38 := Aside0.mk HG38; clear gb38 gl38 HG38; obtain ⟨hx38_0, hf38_0⟩ := Kd.R_celln false HO_12.out (x13_1 : Int) p38 q38; replace p38 := eq_true p38; replace q38 := eq_true q38; have n_ := Aside0.mk (Kd.R_mono (ok' := (fun k_ => some k_ ≠ (.slice (some ⟨go35, 0, none⟩) x11_1.length co35 : Value).ownBlock)) HO_12.out (fun k_ hk => hk.2)); clear HO_12; have HO_12 := n_; clear n_; obtain ⟨hy41_, hz41_⟩ := Kd.R_celln false HO_12.out (x13_1 : Int) (of_decide_eq_true (by first | (with_reducible assumption) | assumption)) (of_decide_eq_true (by first | (with_reducible assumption) | assumption)); have HP41 := Kd.R_putg HO_12.out (x13_1 : Int) (rdOf false l2 x13_1)) | ((with_reducible refine gate_store (t := 4) (p := 72) rfl ?_); refine store_event (t := 4) (p := 72) (v := ?vo_w42) (w1 := (w40.setCell ⟨go38, (x13_1 : Int).toNat, none⟩ (.bool (rdOf false l2 x13_1)))) ?hg ?ho ?hn ?hr ?_; (case ho => rfl); (case hg => rfl); (case hn => rfl); (case hr => first | (go_simp; done) | (go_simp; rfl)); intro w42 hw; have hg : w40.grownBy w42 (some go38) := (by rw [hw]; exact HP41.2); have hp_ : Kd.R Kd.bool 4 w42 w.heap.size (fun k_ => some k_ ≠ (.slice (some ⟨go35, 0, none⟩) x11_1.length co35 : Value).ownBlock) (.slice (some ⟨go38, 0, none⟩) x12_1.length co38) y372 := (by rw [hw, Ny372.out]; exact HP41.1); clear HP41; have n0_ := Aside0.mk (Kd.R_over' (v := (.slice (some ⟨go38, 0, none⟩) x12_1.length co38)) (by (with_reducible repeat (first | apply Kd.R_alloc | apply Kd.R_drewN | apply Kd.R_drew)); exact HO_8.out) (Kd.R_typed HO_12.out) (by decide) hg); have n1_ := Aside0.mk (Kd.R_over' (v := (.slice (some ⟨go38, 0, none⟩) x12_1.length co38)) (by (with_reducible repeat (first | apply Kd.R_alloc | apply Kd.R_drewN | apply Kd.R_drew)); exact HO_9.out) (Kd.R_typed HO_12.out) (by decide) hg); have n2_ := Aside0.mk (Kd.R_after (v := (.slice (some ⟨go38, 0, none⟩) x12_1.length co38)) (v1 := (.slice (some ⟨go38, 0, none⟩) x12_1.length co38)) (ok := (fun _ => True)) (by (with_reducible repeat (first | apply Kd.R_alloc | apply Kd.R_drewN | apply Kd.R_drew)); exact Kd.R_mono HO_11.out (fun _ hk => ⟨trivial, hk⟩)) hg (.inl rfl)); have n3_ := Aside0.mk (hp_); have n4_ := Aside0.mk ((by rw [hw]; exact below_set (HB.out) GB38.out : Below w.heap.size w w42)); clear HO_8; clear HO_9; clear HO_11; clear HO_12; clear HB; have HO_8 := n0_; have HO_9 := n1_; have HO_11 := n2_; have HO_12 := n3_; have HB := n4_; clear n0_ n1_ n2_ n3_ n4_; clear hg hw hp_))
                        go_roundg k1
                        case measure => have := HK1.out; omega
                        case rel => exact ⟨(y370), (y372), (wrap64 (x13_1 + 1)), (by first | rfl | (simp; done) | (simp [*]; done)), H', ⟨by have := HK1.out; omega⟩, ⟨by (with_reducible repeat (first | apply Kd.R_alloc | apply Kd.R_drewN | apply Kd.R_drew)); exact HO_8.out⟩, ⟨by (with_reducible repeat (first | apply Kd.R_alloc | apply Kd.R_drewN | apply Kd.R_drew)); exact HO_9.out⟩, ⟨by (with_reducible repeat (first | apply Kd.R_alloc | apply Kd.R_drewN | apply Kd.R_drew)); exact Kd.R_mono HO_11.out (fun _ hk => hk.2)⟩, ⟨by (with_reducible repeat (first | apply Kd.R_alloc | apply Kd.R_drewN | apply Kd.R_drew)); exact HO_12.out⟩, ⟨by repeat (first | (with_reducible first | exact HB.out | apply below_alloc | apply pw_below_drewN | apply below_drew1) | exact HB.out)⟩⟩
                      · rw [if_neg c37] at H
                        exact absurd H (by simp)
                    · rw [if_neg c36] at H
                      have c36b0 : decide (x13_1 < (l2.length : Int)) = false := decide_eq_false c36
                      clear c36
                      by_cases c43 : x13_1 < (x12_1.length : Int)
                      · rw [if_pos c43] at H
                        have c43b0 : decide (x13_1 < (x12_1.length : Int)) = true := decide_eq_true c43
                        clear c43
                        obtain ⟨y373, hy373⟩ : ∃ y_ : List Bool, y_ = (x12_1.set (x13_1 : Int).toNat false) := ⟨_, rfl⟩
                        replace H : (koinelaw25_DocumentFlat.l0 k1 l1 l2 t350 t354 t357 t358 y370 y373 (wrap64 (x13_1 + 1))) = some r := by first | (rw [hy373]; with_reducible exact H) | (have H2_ := (Option.bind_some _ _).symm.trans H; rw [hy373]; with_reducible exact H2_) | (have H2_ := (Option.bind_some _ _).symm.trans H; with_reducible exact H2_) | with_reducible exact H | (rw [hy373]; exact H) | exact H
                        have Ny373 := Aside0.mk hy373
                        clear hy373
                        have H' := Aside0.mk H
                        clear H
                        have p369 : 0 ≤ (x13_1 : Int) := of_decide_eq_true (by first | (with_reducible assumption) | assumption)
                        have q369 : x13_1 < (l1.length : Int) := of_decide_eq_true (by first | (with_reducible assumption) | assumption)
                        obtain ⟨ad369, e369, hx369_0⟩ := Kd.at_bool HR1.out x13_1 p369 q369
                        cases e369
                        replace hx369_0 := (HB.out.cell (World.block_lt_of_cell? w _ hx369_0)).trans hx369_0
                        replace p369 := eq_true p369
                        replace q369 := eq_true q369
                        have p35 : 0 ≤ (x13_1 : Int) := of_decide_eq_true (by first | (with_reducible assumption) | assumption)
                        have q35 : (x13_1 : Int) < ((x11_1.length : Int) : Int) := of_decide_eq_true (by first | (with_reducible assumption) | assumption)
                        obtain ⟨go35, co35, eo35, gb35, gl35, cl35, HG35⟩ := Kd.R_form HO_11.out (by omega)
                        (first | cases eo35 | (injection eo35 with ea_ en_ ec_; (first | subst ea_ | (injection ea_ with ea_; subst ea_)); subst ec_; clear en_))
                        have GB35 := Aside0.mk gb35
                        have GG35 := Aside0.mk HG35
                        clear gb35 gl35 HG35
                        obtain ⟨hx35_0, hf35_0⟩ := Kd.R_celln false HO_11.out (x13_1 : Int) p35 q35
                        replace p35 := eq_true p35
                        replace q35 := eq_true q35
                        have HP45 := Kd.R_putg HO_11.out (x13_1 : Int) (rdOf false l1 x13_1)
                        go_wp2_with (first | ((with_reducible refine gate_store (t := 4) (p := 55) rfl ?_); refine store_event (t := 4) (p := 55) (v := ?vo_w46) (w1 := (wr.setCell ⟨go35, (x13_1 : Int).toNat, none⟩ (.bool (rdOf false l1 x13_1)))) ?hg ?ho ?hn ?hr ?_; (case ho => rfl); (case hg => rfl); (case hn => rfl); (case hr => first | (go_simp; done) | (go_simp; rfl)); intro w46 hw; have hg : wr.grownBy w46 (some go35) := (by rw [hw]; exact HP45.2); have hp_ : Kd.R Kd.bool 4 w46 w.heap.size (fun k_ => some k_ ≠ (v365 : Value).ownBlock) (.slice (some ⟨go35, 0, none⟩) x11_1.length co35) y370 := (by rw [hw, Ny370.out]; exact HP45.1); clear HP45; have n0_ := Aside0.mk (Kd.R_over' (v := (.slice (some ⟨go35, 0, none⟩) x11_1.length co35)) (by (with_reducible repeat (first | apply Kd.R_alloc | apply Kd.R_drewN | apply Kd.R_drew)); exact HO_8.out) (Kd.R_typed HO_11.out) (by decide) hg); have n1_ := Aside0.mk (Kd.R_over' (v := (.slice (some ⟨go35, 0, none⟩) x11_1.length co35)) (by (with_reducible repeat (first | apply Kd.R_alloc | apply Kd.R_drewN | apply Kd.R_drew)); exact HO_9.out) (Kd.R_typed HO_11.out) (by decide) hg); have n2_ := Aside0.mk (hp_); have n3_ := Aside0.mk (Kd.R_after (v := (.slice (some ⟨go35, 0, none⟩) x11_1.length co35)) (v1 := (.slice (some ⟨go35, 0, none⟩) x11_1.length co35)) (ok := (fun _ => True)) (by (with_reducible repeat (first | apply Kd.R_alloc | apply Kd.R_drewN | apply Kd.R_drew)); exact Kd.R_mono HO_12.out (fun _ hk => ⟨trivial, hk⟩)) hg (.inl rfl)); have n4_ := Aside0.mk ((by rw [hw]; exact below_set (HB.out) GB35.out : Below w.heap.size w w46)); clear HO_8; clear HO_9; clear HO_11; clear HO_12; clear HB; have HO_8 := n0_; have HO_9 := n1_; have HO_11 := n2_; have HO_12 := n3_; have HB := n4_; clear n0_ n1_ n2_ n3_ n4_; clear hg hw hp_; have p44 : 0 ≤ (x13_1 : Int) := of_decide_eq_true (by first | (with_reducible assumption) | assumption); have q44 : (x13_1 : Int) < ((x12_1.length : Int) : Int) := of_decide_eq_true (by first | (with_reducible assumption) | assumption); obtain ⟨go44, co44, eo44, gb44, gl44, cl44, HG44⟩ := Kd.R_form HO_12.out (by omega); (first | cases eo44 | (injection eo44 with ea_ en_ ec_; (first | subst ea_ | (injection ea_ with ea_; subst ea_)); subst ec_; clear en_)); have GB44 := Aside0.mk gb44; have GG44 := Aside0.mk HG44; clear gb44 gl44 HG44; obtain ⟨hx44_0, hf44_0⟩ := Kd.R_celln false HO_12.out (x13_1 : Int) p44 q44; replace p44 := eq_true p44; replace q44 := eq_true q44; have n_ := Aside0.mk (Kd.R_mono (ok' := (fun k_ => some k_ ≠ (.slice (some ⟨go35, 0, none⟩) x11_1.length co35 : Value).ownBlock)) HO_12.out (fun k_ hk => hk.2)); clear HO_12; have HO_12 := n_; clear n_; obtain ⟨hy47_, hz47_⟩ := Kd.R_celln false HO_12.out (x13_1 : Int) (of_decide_eq_true (by first | (with_reducible assumption) | assumption)) (of_decide_eq_true (by first | (with_reducible assumption) | assumption)); have HP47 := Kd.R_putg HO_12.out (x13_1 : Int) false) | ((with_reducible refine gate_store (t := 4) (p := 72) rfl ?_); refine store_event (t := 4) (p := 72) (v := ?vo_w48) (w1 := (w46.setCell ⟨go44, (x13_1 : Int).toNat, none⟩ (.bool false))) ?hg ?ho ?hn ?hr ?_; (case ho => rfl); (case hg => rfl); (case hn => rfl); (case hr => first | (go_simp; done) | (go_simp; rfl)); intro w48 hw; have hg : w46.grownBy w48 (some go44) := (by rw [hw]; exact HP47.2); have hp_ : Kd.R Kd.bool 4 w48 w.heap.size (fun k_ => some k_ ≠ (.slice (some ⟨go35, 0, none⟩) x11_1.length co35 : Value).ownBlock) (.slice (some ⟨go44, 0, none⟩) x12_1.length co44) y373 := (by rw [hw, Ny373.out]; exact HP47.1); clear HP47; have n0_ := Aside0.mk (Kd.R_over' (v := (.slice (some ⟨go44, 0, none⟩) x12_1.length co44)) (by (with_reducible repeat (first | apply Kd.R_alloc | apply Kd.R_drewN | apply Kd.R_drew)); exact HO_8.out) (Kd.R_typed HO_12.out) (by decide) hg); have n1_ := Aside0.mk (Kd.R_over' (v := (.slice (some ⟨go44, 0, none⟩) x12_1.length co44)) (by (with_reducible repeat (first | apply Kd.R_alloc | apply Kd.R_drewN | apply Kd.R_drew)); exact HO_9.out) (Kd.R_typed HO_12.out) (by decide) hg); have n2_ := Aside0.mk (Kd.R_after (v := (.slice (some ⟨go44, 0, none⟩) x12_1.length co44)) (v1 := (.slice (some ⟨go44, 0, none⟩) x12_1.length co44)) (ok := (fun _ => True)) (by (with_reducible repeat (first | apply Kd.R_alloc | apply Kd.R_drewN | apply Kd.R_drew)); exact Kd.R_mono HO_11.out (fun _ hk => ⟨trivial, hk⟩)) hg (.inl rfl)); have n3_ := Aside0.mk (hp_); have n4_ := Aside0.mk ((by rw [hw]; exact below_set (HB.out) GB44.out : Below w.heap.size w w48)); clear HO_8; clear HO_9; clear HO_11; clear HO_12; clear HB; have HO_8 := n0_; have HO_9 := n1_; have HO_11 := n2_; have HO_12 := n3_; have HB := n4_; clear n0_ n1_ n2_ n3_ n4_; clear hg hw hp_))
                        go_roundg k1
                        case measure => have := HK1.out; omega
                        case rel => exact ⟨(y370), (y373), (wrap64 (x13_1 + 1)), (by first | rfl | (simp; done) | (simp [*]; done)), H', ⟨by have := HK1.out; omega⟩, ⟨by (with_reducible repeat (first | apply Kd.R_alloc | apply Kd.R_drewN | apply Kd.R_drew)); exact HO_8.out⟩, ⟨by (with_reducible repeat (first | apply Kd.R_alloc | apply Kd.R_drewN | apply Kd.R_drew)); exact HO_9.out⟩, ⟨by (with_reducible repeat (first | apply Kd.R_alloc | apply Kd.R_drewN | apply Kd.R_drew)); exact Kd.R_mono HO_11.out (fun _ hk => hk.2)⟩, ⟨by (with_reducible repeat (first | apply Kd.R_alloc | apply Kd.R_drewN | apply Kd.R_drew)); exact HO_12.out⟩, ⟨by repeat (first | (with_reducible first | exact HB.out | apply below_alloc | apply pw_below_drewN | apply below_drew1) | exact HB.out)⟩⟩
                      · rw [if_neg c43] at H
                        exact absurd H (by simp)
                  · rw [if_neg c34] at H
                    exact absurd H (by simp)
                · rw [if_neg c33] at H
                  exact absurd H (by simp)
              · rw [if_neg c32] at H
                have c32b0 : decide (x13_1 < (l1.length : Int)) = false := decide_eq_false c32
                clear c32
                by_cases c49 : 0 ≤ x13_1
                · rw [if_pos c49] at H
                  have c49b0 : decide (0 ≤ x13_1) = true := decide_eq_true c49
                  clear c49
                  by_cases c50 : x13_1 < (x11_1.length : Int)
                  · rw [if_pos c50] at H
                    have c50b0 : decide (x13_1 < (x11_1.length : Int)) = true := decide_eq_true c50
                    clear c50
                    obtain ⟨y374, hy374⟩ : ∃ y_ : List Bool, y_ = (x11_1.set (x13_1 : Int).toNat false) := ⟨_, rfl⟩
                    replace H : (if x13_1 < (l2.length : Int) then (if x13_1 < (x12_1.length : Int) then (koinelaw25_DocumentFlat.l0 k1 l1 l2 t350 t354 t357 t358 y374 (x12_1.set (x13_1 : Int).toNat (rdOf false l2 x13_1)) (wrap64 (x13_1 + 1))) else (none)) else (if x13_1 < (x12_1.length : Int) then (koinelaw25_DocumentFlat.l0 k1 l1 l2 t350 t354 t357 t358 y374 (x12_1.set (x13_1 : Int).toNat false) (wrap64 (x13_1 + 1))) else (none))) = some r := by first | (rw [hy374]; with_reducible exact H) | (have H2_ := (Option.bind_some _ _).symm.trans H; rw [hy374]; with_reducible exact H2_) | (have H2_ := (Option.bind_some _ _).symm.trans H; with_reducible exact H2_) | with_reducible exact H | (rw [hy374]; exact H) | exact H
                    have Ny374 := Aside0.mk hy374
                    clear hy374
                    by_cases c52 : x13_1 < (l2.length : Int)
                    · rw [if_pos c52] at H
                      have c52b0 : decide (x13_1 < (l2.length : Int)) = true := decide_eq_true c52
                      clear c52
                      by_cases c53 : x13_1 < (x12_1.length : Int)
                      · rw [if_pos c53] at H
                        have c53b0 : decide (x13_1 < (x12_1.length : Int)) = true := decide_eq_true c53
                        clear c53
                        obtain ⟨y376, hy376⟩ : ∃ y_ : List Bool, y_ = (x12_1.set (x13_1 : Int).toNat (rdOf false l2 x13_1)) := ⟨_, rfl⟩
                        replace H : (koinelaw25_DocumentFlat.l0 k1 l1 l2 t350 t354 t357 t358 y374 y376 (wrap64 (x13_1 + 1))) = some r := by first | (rw [hy376]; with_reducible exact H) | (have H2_ := (Option.bind_some _ _).symm.trans H; rw [hy376]; with_reducible exact H2_) | (have H2_ := (Option.bind_some _ _).symm.trans H; with_reducible exact H2_) | with_reducible exact H | (rw [hy376]; exact H) | exact H
                        have Ny376 := Aside0.mk hy376
                        clear hy376
                        have H' := Aside0.mk H
                        clear H
                        have p51 : 0 ≤ (x13_1 : Int) := of_decide_eq_true (by first | (with_reducible assumption) | assumption)
                        have q51 : (x13_1 : Int) < ((x11_1.length : Int) : Int) := of_decide_eq_true (by first | (with_reducible assumption) | assumption)
                        obtain ⟨go51, co51, eo51, gb51, gl51, cl51, HG51⟩ := Kd.R_form HO_11.out (by omega)
                        (first | cases eo51 | (injection eo51 with ea_ en_ ec_; (first | subst ea_ | (injection ea_ with ea_; subst ea_)); subst ec_; clear en_))
                        have GB51 := Aside0.mk gb51
                        have GG51 := Aside0.mk HG51
                        clear gb51 gl51 HG51
                        obtain ⟨hx51_0, hf51_0⟩ := Kd.R_celln false HO_11.out (x13_1 : Int) p51 q51
                        replace p51 := eq_true p51
                        replace q51 := eq_true q51
                        have HP55 := Kd.R_putg HO_11.out (x13_1 : Int) false
                        go_wp2_with (first | ((with_reducible refine gate_store (t := 4) (p := 55) rfl ?_); refine store_event (t := 4) (p := 55) (v := ?vo_w56) (w1 := (wr.setCell ⟨go51, (x13_1 : Int).toNat, none⟩ (.bool false))) ?hg ?ho ?hn ?hr ?_; (case ho => rfl); (case hg => rfl); (case hn => rfl); (case hr => first | (go_simp; done) | (go_simp; rfl)); intro w56 hw; have hg : wr.grownBy w56 (some go51) := (by rw [hw]; exact HP55.2); have hp_ : Kd.R Kd.bool 4 w56 w.heap.size (fun k_ => some k_ ≠ (v365 : Value).ownBlock) (.slice (some ⟨go51, 0, none⟩) x11_1.length co51) y374 := (by rw [hw, Ny374.out]; exact HP55.1); clear HP55; have n0_ := Aside0.mk (Kd.R_over' (v := (.slice (some ⟨go51, 0, none⟩) x11_1.length co51)) (by (with_reducible repeat (first | apply Kd.R_alloc | apply Kd.R_drewN | apply Kd.R_drew)); exact HO_8.out) (Kd.R_typed HO_11.out) (by decide) hg); have n1_ := Aside0.mk (Kd.R_over' (v := (.slice (some ⟨go51, 0, none⟩) x11_1.length co51)) (by (with_reducible repeat (first | apply Kd.R_alloc | apply Kd.R_drewN | apply Kd.R_drew)); exact HO_9.out) (Kd.R_typed HO_11.out) (by decide) hg); have n2_ := Aside0.mk (hp_); have n3_ := Aside0.mk (Kd.R_after (v := (.slice (some ⟨go51, 0, none⟩) x11_1.length co51)) (v1 := (.slice (some ⟨go51, 0, none⟩) x11_1.length co51)) (ok := (fun _ => True)) (by (with_reducible repeat (first | apply Kd.R_alloc | apply Kd.R_drewN | apply Kd.R_drew)); exact Kd.R_mono HO_12.out (fun _ hk => ⟨trivial, hk⟩)) hg (.inl rfl)); have n4_ := Aside0.mk ((by rw [hw]; exact below_set (HB.out) GB51.out : Below w.heap.size w w56)); clear HO_8; clear HO_9; clear HO_11; clear HO_12; clear HB; have HO_8 := n0_; have HO_9 := n1_; have HO_11 := n2_; have HO_12 := n3_; have HB := n4_; clear n0_ n1_ n2_ n3_ n4_; clear hg hw hp_; have p375 : 0 ≤ (x13_1 : Int) := of_decide_eq_true (by first | (with_reducible assumption) | assumption); have q375 : x13_1 < (l2.length : Int) := of_decide_eq_true (by first | (with_reducible assumption) | assumption); obtain ⟨ad375, e375, hx375_0⟩ := Kd.at_bool HR2.out x13_1 p375 q375; cases e375; replace hx375_0 := (HB.out.cell (World.block_lt_of_cell? w _ hx375_0)).trans hx375_0; replace p375 := eq_true p375; replace q375 := eq_true q375; have p54 : 0 ≤ (x13_1 : Int) := of_decide_eq_true (by first | (with_reducible assumption) | assumption); have q54 : (x13_1 : Int) < ((x12_1.length : Int) : Int) := of_decide_eq_true (by first | (with_reducible assumption) | assumption); obtain ⟨go54, co54, eo54, gb54, gl54, cl54, HG54⟩ := Kd.R_form HO_12.out (by omega); (first | cases eo54 | (injection eo54 with ea_ en_ ec_; (first | subst ea_ | (injection ea_ with ea_; subst ea_)); subst ec_; clear en_)); have GB54 := Aside0.mk gb54; have GG54 := Aside0.mk HG54; clear gb54 gl54 HG54; obtain ⟨hx54_0, hf54_0⟩ := Kd.R_celln false HO_12.out (x13_1 : Int) p54 q54; replace p54 := eq_true p54; replace q54 := eq_true q54; have n_ := Aside0.mk (Kd.R_mono (ok' := (fun k_ => some k_ ≠ (.slice (some ⟨go51, 0, none⟩) x11_1.length co51 : Value).ownBlock)) HO_12.out (fun k_ hk => hk.2)); clear HO_12; have HO_12 := n_; clear n_; obtain ⟨hy57_, hz57_⟩ := Kd.R_celln false HO_12.out (x13_1 : Int) (of_decide_eq_true (by first | (with_reducible assumption) | assumption)) (of_decide_eq_true (by first | (with_reducible assumption) | assumption)); have HP57 := Kd.R_putg HO_12.out (x13_1 : Int) (rdOf false l2 x13_1)) | ((with_reducible refine gate_store (t := 4) (p := 72) rfl ?_); refine store_event (t := 4) (p := 72) (v := ?vo_w58) (w1 := (w56.setCell ⟨go54, (x13_1 : Int).toNat, none⟩ (.bool (rdOf false l2 x13_1)))) ?hg ?ho ?hn ?hr ?_; (case ho => rfl); (case hg => rfl); (case hn => rfl); (case hr => first | (go_simp; done) | (go_simp; rfl)); intro w58 hw; have hg : w56.grownBy w58 (some go54) := (by rw [hw]; exact HP57.2); have hp_ : Kd.R Kd.bool 4 w58 w.heap.size (fun k_ => some k_ ≠ (.slice (some ⟨go51, 0, none⟩) x11_1.length co51 : Value).ownBlock) (.slice (some ⟨go54, 0, none⟩) x12_1.length co54) y376 := (by rw [hw, Ny376.out]; exact HP57.1); clear HP57; have n0_ := Aside0.mk (Kd.R_over' (v := (.slice (some ⟨go54, 0, none⟩) x12_1.length co54)) (by (with_reducible repeat (first | apply Kd.R_alloc | apply Kd.R_drewN | apply Kd.R_drew)); exact HO_8.out) (Kd.R_typed HO_12.out) (by decide) hg); have n1_ := Aside0.mk (Kd.R_over' (v := (.slice (some ⟨go54, 0, none⟩) x12_1.length co54)) (by (with_reducible repeat (first | apply Kd.R_alloc | apply Kd.R_drewN | apply Kd.R_drew)); exact HO_9.out) (Kd.R_typed HO_12.out) (by decide) hg); have n2_ := Aside0.mk (Kd.R_after (v := (.slice (some ⟨go54, 0, none⟩) x12_1.length co54)) (v1 := (.slice (some ⟨go54, 0, none⟩) x12_1.length co54)) (ok := (fun _ => True)) (by (with_reducible repeat (first | apply Kd.R_alloc | apply Kd.R_drewN | apply Kd.R_drew)); exact Kd.R_mono HO_11.out (fun _ hk => ⟨trivial, hk⟩)) hg (.inl rfl)); have n3_ := Aside0.mk (hp_); have n4_ := Aside0.mk ((by rw [hw]; exact below_set (HB.out) GB54.out : Below w.heap.size w w58)); clear HO_8; clear HO_9; clear HO_11; clear HO_12; clear HB; have HO_8 := n0_; have HO_9 := n1_; have HO_11 := n2_; have HO_12 := n3_; have HB := n4_; clear n0_ n1_ n2_ n3_ n4_; clear hg hw hp_))
                        go_roundg k1
                        case measure => have := HK1.out; omega
                        case rel => exact ⟨(y374), (y376), (wrap64 (x13_1 + 1)), (by first | rfl | (simp; done) | (simp [*]; done)), H', ⟨by have := HK1.out; omega⟩, ⟨by (with_reducible repeat (first | apply Kd.R_alloc | apply Kd.R_drewN | apply Kd.R_drew)); exact HO_8.out⟩, ⟨by (with_reducible repeat (first | apply Kd.R_alloc | apply Kd.R_drewN | apply Kd.R_drew)); exact HO_9.out⟩, ⟨by (with_reducible repeat (first | apply Kd.R_alloc | apply Kd.R_drewN | apply Kd.R_drew)); exact Kd.R_mono HO_11.out (fun _ hk => hk.2)⟩, ⟨by (with_reducible repeat (first | apply Kd.R_alloc | apply Kd.R_drewN | apply Kd.R_drew)); exact HO_12.out⟩, ⟨by repeat (first | (with_reducible first | exact HB.out | apply below_alloc | apply pw_below_drewN | apply below_drew1) | exact HB.out)⟩⟩
                      · rw [if_neg c53] at H
                        exact absurd H (by simp)
                    · rw [if_neg c52] at H
                      have c52b0 : decide (x13_1 < (l2.length : Int)) = false := decide_eq_false c52
                      clear c52
                      by_cases c59 : x13_1 < (x12_1.length : Int)
                      · rw [if_pos c59] at H
                        have c59b0 : decide (x13_1 < (x12_1.length : Int)) = true := decide_eq_true c59
                        clear c59
                        obtain ⟨y377, hy377⟩ : ∃ y_ : List Bool, y_ = (x12_1.set (x13_1 : Int).toNat false) := ⟨_, rfl⟩
                        replace H : (koinelaw25_DocumentFlat.l0 k1 l1 l2 t350 t354 t357 t358 y374 y377 (wrap64 (x13_1 + 1))) = some r := by first | (rw [hy377]; with_reducible exact H) | (have H2_ := (Option.bind_some _ _).symm.trans H; rw [hy377]; with_reducible exact H2_) | (have H2_ := (Option.bind_some _ _).symm.trans H; with_reducible exact H2_) | with_reducible exact H | (rw [hy377]; exact H) | exact H
                        have Ny377 := Aside0.mk hy377
                        clear hy377
                        have H' := Aside0.mk H
                        clear H
                        have p51 : 0 ≤ (x13_1 : Int) := of_decide_eq_true (by first | (with_reducible assumption) | assumption)
                        have q51 : (x13_1 : Int) < ((x11_1.length : Int) : Int) := of_decide_eq_true (by first | (with_reducible assumption) | assumption)
                        obtain ⟨go51, co51, eo51, gb51, gl51, cl51, HG51⟩ := Kd.R_form HO_11.out (by omega)
                        (first | cases eo51 | (injection eo51 with ea_ en_ ec_; (first | subst ea_ | (injection ea_ with ea_; subst ea_)); subst ec_; clear en_))
                        have GB51 := Aside0.mk gb51
                        have GG51 := Aside0.mk HG51
                        clear gb51 gl51 HG51
                        obtain ⟨hx51_0, hf51_0⟩ := Kd.R_celln false HO_11.out (x13_1 : Int) p51 q51
                        replace p51 := eq_true p51
                        replace q51 := eq_true q51
                        have HP61 := Kd.R_putg HO_11.out (x13_1 : Int) false
                        go_wp2_with (first | ((with_reducible refine gate_store (t := 4) (p := 55) rfl ?_); refine store_event (t := 4) (p := 55) (v := ?vo_w62) (w1 := (wr.setCell ⟨go51, (x13_1 : Int).toNat, none⟩ (.bool false))) ?hg ?ho ?hn ?hr ?_; (case ho => rfl); (case hg => rfl); (case hn => rfl); (case hr => first | (go_simp; done) | (go_simp; rfl)); intro w62 hw; have hg : wr.grownBy w62 (some go51) := (by rw [hw]; exact HP61.2); have hp_ : Kd.R Kd.bool 4 w62 w.heap.size (fun k_ => some k_ ≠ (v365 : Value).ownBlock) (.slice (some ⟨go51, 0, none⟩) x11_1.length co51) y374 := (by rw [hw, Ny374.out]; exact HP61.1); clear HP61; have n0_ := Aside0.mk (Kd.R_over' (v := (.slice (some ⟨go51, 0, none⟩) x11_1.length co51)) (by (with_reducible repeat (first | apply Kd.R_alloc | apply Kd.R_drewN | apply Kd.R_drew)); exact HO_8.out) (Kd.R_typed HO_11.out) (by decide) hg); have n1_ := Aside0.mk (Kd.R_over' (v := (.slice (some ⟨go51, 0, none⟩) x11_1.length co51)) (by (with_reducible repeat (first | apply Kd.R_alloc | apply Kd.R_drewN | apply Kd.R_drew)); exact HO_9.out) (Kd.R_typed HO_11.out) (by decide) hg); have n2_ := Aside0.mk (hp_); have n3_ := Aside0.mk (Kd.R_after (v := (.slice (some ⟨go51, 0, none⟩) x11_1.length co51)) (v1 := (.slice (some ⟨go51, 0, none⟩) x11_1.length co51)) (ok := (fun _ => True)) (by (with_reducible repeat (first | apply Kd.R_alloc | apply Kd.R_drewN | apply Kd.R_drew)); exact Kd.R_mono HO_12.out (fun _ hk => ⟨trivial, hk⟩)) hg (.inl rfl)); have n4_ := Aside0.mk ((by rw [hw]; exact below_set (HB.out) GB51.out : Below w.heap.size w w62)); clear HO_8; clear HO_9; clear HO_11; clear HO_12; clear HB; have HO_8 := n0_; have HO_9 := n1_; have HO_11 := n2_; have HO_12 := n3_; have HB := n4_; clear n0_ n1_ n2_ n3_ n4_; clear hg hw hp_; have p60 : 0 ≤ (x13_1 : Int) := of_decide_eq_true (by first | (with_reducible assumption) | assumption); have q60 : (x13_1 : Int) < ((x12_1.length : Int) : Int) := of_decide_eq_true (by first | (with_reducible assumption) | assumption); obtain ⟨go60, co60, eo60, gb60, gl60, cl60, HG60⟩ := Kd.R_form HO_12.out (by omega); (first | cases eo60 | (injection eo60 with ea_ en_ ec_; (first | subst ea_ | (injection ea_ with ea_; subst ea_)); subst ec_; clear en_)); have GB60 := Aside0.mk gb60; have GG60 := Aside0.mk HG60; clear gb60 gl60 HG60; obtain ⟨hx60_0, hf60_0⟩ := Kd.R_celln false HO_12.out (x13_1 : Int) p60 q60; replace p60 := eq_true p60; replace q60 := eq_true q60; have n_ := Aside0.mk (Kd.R_mono (ok' := (fun k_ => some k_ ≠ (.slice (some ⟨go51, 0, none⟩) x11_1.length co51 : Value).ownBlock)) HO_12.out (fun k_ hk => hk.2)); clear HO_12; have HO_12 := n_; clear n_; obtain ⟨hy63_, hz63_⟩ := Kd.R_celln false HO_12.out (x13_1 : Int) (of_decide_eq_true (by first | (with_reducible assumption) | assumption)) (of_decide_eq_true (by first | (with_reducible assumption) | assumption)); have HP63 := Kd.R_putg HO_12.out (x13_1 : Int) false) | ((with_reducible refine gate_store (t := 4) (p := 72) rfl ?_); refine store_event (t := 4) (p := 72) (v := ?vo_w64) (w1 := (w62.setCell ⟨go60, (x13_1 : Int).toNat, none⟩ (.bool false))) ?hg ?ho ?hn ?hr ?_; (case ho => rfl); (case hg => rfl); (case hn => rfl); (case hr => first | (go_simp; done) | (go_simp; rfl)); intro w64 hw; have hg : w62.grownBy w64 (some go60) := (by rw [hw]; exact HP63.2); have hp_ : Kd.R Kd.bool 4 w64 w.heap.size (fun k_ => some k_ ≠ (.slice (some ⟨go51, 0, none⟩) x11_1.length co51 : Value).ownBlock) (.slice (some ⟨go60, 0, none⟩) x12_1.length co60) y377 := (by rw [hw, Ny377.out]; exact HP63.1); clear HP63; have n0_ := Aside0.mk (Kd.R_over' (v := (.slice (some ⟨go60, 0, none⟩) x12_1.length co60)) (by (with_reducible repeat (first | apply Kd.R_alloc | apply Kd.R_drewN | apply Kd.R_drew)); exact HO_8.out) (Kd.R_typed HO_12.out) (by decide) hg); have n1_ := Aside0.mk (Kd.R_over' (v := (.slice (some ⟨go60, 0, none⟩) x12_1.length co60)) (by (with_reducible repeat (first | apply Kd.R_alloc | apply Kd.R_drewN | apply Kd.R_drew)); exact HO_9.out) (Kd.R_typed HO_12.out) (by decide) hg); have n2_ := Aside0.mk (Kd.R_after (v := (.slice (some ⟨go60, 0, none⟩) x12_1.length co60)) (v1 := (.slice (some ⟨go60, 0, none⟩) x12_1.length co60)) (ok := (fun _ => True)) (by (with_reducible repeat (first | apply Kd.R_alloc | apply Kd.R_drewN | apply Kd.R_drew)); exact Kd.R_mono HO_11.out (fun _ hk => ⟨trivial, hk⟩)) hg (.inl rfl)); have n3_ := Aside0.mk (hp_); have n4_ := Aside0.mk ((by rw [hw]; exact below_set (HB.out) GB60.out : Below w.heap.size w w64)); clear HO_8; clear HO_9; clear HO_11; clear HO_12; clear HB; have HO_8 := n0_; have HO_9 := n1_; have HO_11 := n2_; have HO_12 := n3_; have HB := n4_; clear n0_ n1_ n2_ n3_ n4_; clear hg hw hp_))
                        go_roundg k1
                        case measure => have := HK1.out; omega
                        case rel => exact ⟨(y374), (y377), (wrap64 (x13_1 + 1)), (by first | rfl | (simp; done) | (simp [*]; done)), H', ⟨by have := HK1.out; omega⟩, ⟨by (with_reducible repeat (first | apply Kd.R_alloc | apply Kd.R_drewN | apply Kd.R_drew)); exact HO_8.out⟩, ⟨by (with_reducible repeat (first | apply Kd.R_alloc | apply Kd.R_drewN | apply Kd.R_drew)); exact HO_9.out⟩, ⟨by (with_reducible repeat (first | apply Kd.R_alloc | apply Kd.R_drewN | apply Kd.R_drew)); exact Kd.R_mono HO_11.out (fun _ hk => hk.2)⟩, ⟨by (with_reducible repeat (first | apply Kd.R_alloc | apply Kd.R_drewN | apply Kd.R_drew)); exact HO_12.out⟩, ⟨by repeat (first | (with_reducible first | exact HB.out | apply below_alloc | apply pw_below_drewN | apply below_drew1) | exact HB.out)⟩⟩
                      · rw [if_neg c59] at H
                        exact absurd H (by simp)
                  · rw [if_neg c50] at H
                    exact absurd H (by simp)
                · rw [if_neg c49] at H
                  exact absurd H (by simp)
          · rw [if_neg c21] at H
            have c21b0 : decide (x13_1 < (t357.length : Int)) = false := decide_eq_false c21
            clear c21
            replace H := Option.bind_eq_some_iff.mp H
            obtain ⟨⟨t378, t379⟩, A650, H⟩ := H
            replace H : ((document_Render.f t354 x12_1).bind fun bt380 => (if t358 = 0 then (koinelaw25_DocumentFlat.j1 k1 t350 t354 t378 t379 bt380.1 bt380.2 ((t357.length : Int) == 0)) else (koinelaw25_DocumentFlat.j1 k1 t350 t354 t378 t379 bt380.1 bt380.2 true))) = some r := H
            have A65 := Aside0.mk A650
            clear A650
            replace H := Option.bind_eq_some_iff.mp H
            obtain ⟨⟨t380, t381⟩, A660, H⟩ := H
            replace H : (if t358 = 0 then (koinelaw25_DocumentFlat.j1 k1 t350 t354 t378 t379 t380 t381 ((t357.length : Int) == 0)) else (koinelaw25_DocumentFlat.j1 k1 t350 t354 t378 t379 t380 t381 true)) = some r := H
            have A66 := Aside0.mk A660
            clear A660
            have HC67 := Aside0.mk H
            clear H
            obtain ⟨Ao68, co68, eo68⟩ := Kd.R_slice HO_11.out
            subst eo68
            go_upto_region 13 with (first | ((with_reducible refine gate_callee (f := 24) rfl ?_); refine goesL_ (some 76) rfl rfl Try.func24 (by kernel_rfl) rfl #[.slice Ao14 t354.length co14, .slice Ao68 x11_1.length co68] rfl (by (try simp only [List.map_toArray, List.map_cons, List.map_nil]); first | done | rfl | (simp only [List.length_drop, List.length_take]; rfl)) ?_; (with_reducible refine (document_Render.calls _ _ t354 _ _ x11_1 t378 t379 _ ?side1 ?side2 ?side3 ?side4 A65.out).mono ?_); (case side1 => repeat (first | exact (Kd.R_reads' HO_8.out).2.2 | (with_reducible refine Kd.C_alloc ?_ _) | (with_reducible refine Kd.C_drewN ?_ _) | (with_reducible refine Kd.C_drew ?_))); (case side2 => exact (Kd.R_reads' HO_8.out).2.1); (case side3 => repeat (first | exact (Kd.R_reads' HO_11.out).2.2 | (with_reducible refine Kd.C_alloc ?_ _) | (with_reducible refine Kd.C_drewN ?_ _) | (with_reducible refine Kd.C_drew ?_))); (case side4 => exact (Kd.R_reads' HO_11.out).2.1); rintro e w69 ⟨rfl, hb⟩; refine ⟨_, rfl, ?_⟩; have n0_ := Aside0.mk (Kd.R_below (by (with_reducible repeat (first | apply Kd.R_alloc | apply Kd.R_drewN | apply Kd.R_drew)); exact HO_8.out) hb); have n1_ := Aside0.mk (Kd.R_below (by (with_reducible repeat (first | apply Kd.R_alloc | apply Kd.R_drewN | apply Kd.R_drew)); exact HO_9.out) hb); have n2_ := Aside0.mk (Kd.R_below (by (with_reducible repeat (first | apply Kd.R_alloc | apply Kd.R_drewN | apply Kd.R_drew)); exact HO_11.out) hb); have n3_ := Aside0.mk (Kd.R_below (by (with_reducible repeat (first | apply Kd.R_alloc | apply Kd.R_drewN | apply Kd.R_drew)); exact HO_12.out) hb); have n4_ := Aside0.mk (below_step (by repeat (first | (with_reducible first | exact HB.out | apply below_alloc | apply pw_below_drewN | apply below_drew1) | exact HB.out)) hb); clear HO_8; clear HO_9; clear HO_11; clear HO_12; clear HB; have HO_8 := n0_; have HO_9 := n1_; have HO_11 := n2_; have HO_12 := n3_; have HB := n4_; clear n0_ n1_ n2_ n3_ n4_; (try clear hb); (try clear hb2); (try clear hk); (try clear hi); obtain ⟨Ao70, co70, eo70⟩ := Kd.R_slice HO_12.out; subst eo70) | ((with_reducible refine gate_callee (f := 24) rfl ?_); refine goesL_ (some 82) rfl rfl Try.func24 (by kernel_rfl) rfl #[.slice Ao14 t354.length co14, .slice Ao70 x12_1.length co70] rfl (by (try simp only [List.map_toArray, List.map_cons, List.map_nil]); first | done | rfl | (simp only [List.length_drop, List.length_take]; rfl)) ?_; (with_reducible refine (document_Render.calls _ _ t354 _ _ x12_1 t380 t381 _ ?side1 ?side2 ?side3 ?side4 A66.out).mono ?_); (case side1 => repeat (first | exact (Kd.R_reads' HO_8.out).2.2 | (with_reducible refine Kd.C_alloc ?_ _) | (with_reducible refine Kd.C_drewN ?_ _) | (with_reducible refine Kd.C_drew ?_))); (case side2 => exact (Kd.R_reads' HO_8.out).2.1); (case side3 => repeat (first | exact (Kd.R_reads' HO_12.out).2.2 | (with_reducible refine Kd.C_alloc ?_ _) | (with_reducible refine Kd.C_drewN ?_ _) | (with_reducible refine Kd.C_drew ?_))); (case side4 => exact (Kd.R_reads' HO_12.out).2.1); rintro e w71 ⟨rfl, hb⟩; refine ⟨_, rfl, ?_⟩; have n0_ := Aside0.mk (Kd.R_below (by (with_reducible repeat (first | apply Kd.R_alloc | apply Kd.R_drewN | apply Kd.R_drew)); exact HO_8.out) hb); have n1_ := Aside0.mk (Kd.R_below (by (with_reducible repeat (first | apply Kd.R_alloc | apply Kd.R_drewN | apply Kd.R_drew)); exact HO_9.out) hb); have n2_ := Aside0.mk (Kd.R_below (by (with_reducible repeat (first | apply Kd.R_alloc | apply Kd.R_drewN | apply Kd.R_drew)); exact HO_11.out) hb); have n3_ := Aside0.mk (Kd.R_below (by (with_reducible repeat (first | apply Kd.R_alloc | apply Kd.R_drewN | apply Kd.R_drew)); exact HO_12.out) hb); have n4_ := Aside0.mk (below_step (by repeat (first | (with_reducible first | exact HB.out | apply below_alloc | apply pw_below_drewN | apply below_drew1) | exact HB.out)) hb); clear HO_8; clear HO_9; clear HO_11; clear HO_12; clear HB; have HO_8 := n0_; have HO_9 := n1_; have HO_11 := n2_; have HO_12 := n3_; have HB := n4_; clear n0_ n1_ n2_ n3_ n4_; (try clear hb); (try clear hb2); (try clear hk); (try clear hi)))
            (try simp only [Act.put, List.setIfInBounds_toArray, List.set_cons_zero, List.set_cons_succ])
            go_cut [91] (fun v91 wc => ∃ (kq : Nat) (x91_66 : Bool), v91 = .bool x91_66 ∧ Aside0 (koinelaw25_DocumentFlat.j1 kq t350 t354 t378 t379 t380 t381 x91_66 = some r) ∧ Aside0 (kq ≤ k1) ∧ Aside0 (Kd.R k42 42 wc w.heap.size (fun _ => True) (.slice Ao14 t354.length co14) t354) ∧ Aside0 (Below w.heap.size w wc))
            case first =>
              have H := HC67.out
              clear HC67
              by_cases c72 : t358 = 0
              · rw [if_pos c72] at H
                have c72b0 : (t358 == 0) = true := beq_iff_eq.mpr c72
                have c72b1 : (t358 != 0) = false := bne_eq_false_iff_eq.mpr c72
                clear c72
                (first | rw [c72b0] | (simp only [i64_w, i32_w]; rw [c72b0]) | skip)
                have H' := Aside0.mk H
                clear H
                go_wp2
                go_meet
                case rel => exact ⟨_, (((t357.length : Int) == 0)), (by first | rfl | (simp; done) | (simp [*]; done)), H', ⟨by have := HK1.out; first | omega | exact Nat.le_refl _⟩, ⟨by (with_reducible repeat (first | apply Kd.R_alloc | apply Kd.R_drewN | apply Kd.R_drew)); exact HO_8.out⟩, ⟨by repeat (first | (with_reducible first | exact HB.out | apply below_alloc | apply pw_below_drewN | apply below_drew1) | exact HB.out)⟩⟩
              · rw [if_neg c72] at H
                have c72b0 : (t358 == 0) = false := beq_eq_false_iff_ne.mpr c72
                have c72b1 : (t358 != 0) = true := bne_iff_ne.mpr c72
                (first | rw [c72b0] | (simp only [i64_w, i32_w]; rw [c72b0]) | skip)
                have H' := Aside0.mk H
                clear H
                go_wp2
                go_meet
                case rel => exact ⟨_, (true), (by first | rfl | (simp; done) | (simp [*]; done)), H', ⟨by have := HK1.out; first | omega | exact Nat.le_refl _⟩, ⟨by (with_reducible repeat (first | apply Kd.R_alloc | apply Kd.R_drewN | apply Kd.R_drew)); exact HO_8.out⟩, ⟨by repeat (first | (with_reducible first | exact HB.out | apply below_alloc | apply pw_below_drewN | apply below_drew1) | exact HB.out)⟩⟩
            case rest =>
              clear HC67
              try clear c1
              try clear c2
              try clear p2
              try clear q2
              try clear hx2
              try clear c3
              try clear p3
              try clear q3
              try clear hx3
              try clear hf3
              try clear c4
              try clear p4
              try clear q4
              try clear hx4
              try clear hf4
              try clear c5
              try clear p5
              try clear q5
              try clear hx5
              try clear hf5
              try clear p6
              try clear q6
              try clear hx6
              try clear hf6
              try clear c7
              try clear c8
              try clear c8b0
              try clear c8b1
              try clear c9
              try clear c9b0
              try clear c9b1
              try clear c20
              try clear c21
              try clear c21b0
              try clear c22
              try clear c22b0
              try clear c22b1
              try clear c23
              try clear c23b0
              try clear c24
              try clear c24b0
              try clear p25
              try clear q25
              try clear hx25
              try clear hf25
              try clear c26
              try clear c26b0
              try clear p27
              try clear q27
              try clear hx27
              try clear hf27
              try clear c32
              try clear c32b0
              try clear c33
              try clear c33b0
              try clear c34
              try clear c34b0
              try clear p35
              try clear q35
              try clear hx35
              try clear hf35
              try clear c36
              try clear c36b0
              try clear p36
              try clear q36
              try clear hx36
              try clear c37
              try clear c37b0
              try clear p37
              try clear q37
              try clear hx37
              try clear p38
              try clear q38
              try clear hx38
              try clear hf38
              try clear c43
              try clear c43b0
              try clear p44
              try clear q44
              try clear hx44
              try clear hf44
              try clear c49
              try clear c49b0
              try clear c50
              try clear c50b0
              try clear p51
              try clear q51
              try clear hx51
              try clear hf51
              try clear c52
              try clear c52b0
              try clear c53
              try clear c53b0
              try clear p54
              try clear q54
              try clear hx54
              try clear hf54
              try clear c59
              try clear c59b0
              try clear p60
              try clear q60
              try clear hx60
              try clear hf60
              try clear p64
              try clear c72
              try clear c72b0
              try clear c72b1
              try clear hx25_0
              try clear hx27_0
              try clear hx35_0
              try clear hx369_0
              try clear hx371_0
              try clear hx375_0
              try clear hx38_0
              try clear hx44_0
              try clear hx51_0
              try clear hx54_0
              try clear hx60_0
              try clear p2
              try clear p25
              try clear p27
              try clear p35
              try clear p369
              try clear p371
              try clear p375
              try clear p38
              try clear p44
              try clear p51
              try clear p54
              try clear p60
              try clear q25
              try clear q27
              try clear q35
              try clear q369
              try clear q371
              try clear q375
              try clear q38
              try clear q44
              try clear q51
              try clear q54
              try clear q60
              obtain ⟨kq, x91_66, rfl, HA, HJ66, HO_8, HB⟩ := hcut
              cases kq with
              | zero => exact absurd HA.out (by simp [koinelaw25_DocumentFlat.j1])
              | succ kj66 =>
                have H := HA.out
                clear HA
                simp only [koinelaw25_DocumentFlat.j1] at H
                by_cases c73 : x91_66 = true
                · subst c73
                  have H1 : (some false) = some r := by rw [if_pos rfl] at H; exact H
                  exact absurd ((Option.some.inj H1).trans hr.out) (by decide)
                · replace c73 := Bool.eq_false_iff.mpr c73
                  subst c73
                  have H1 : ((koineref25_Has.f kj66 t354 2).bind fun t382 => (if t382 = true then (if t379 = 1 then (if t381 = 1 then (some t350) else (some false)) else (some false)) else (if t379 = 0 then (if t381 = 0 then (if t378.toList = t380.toList then ((document_Cost.f t378 0).bind fun bt383 => (if bt383.2 = 0 then (some t350) else (some false))) else (some false)) else (some false)) else (some false)))) = some r := by rw [if_neg (show ¬ (false = true) by decide)] at H; exact H
                  clear H
                  have H := H1
                  clear H1
                  replace H := Option.bind_eq_some_iff.mp H
                  obtain ⟨t382, A740, H⟩ := H
                  replace H : (if t382 = true then (if t379 = 1 then (if t381 = 1 then (some t350) else (some false)) else (some false)) else (if t379 = 0 then (if t381 = 0 then (if t378.toList = t380.toList then ((document_Cost.f t378 0).bind fun bt383 => (if bt383.2 = 0 then (some t350) else (some false))) else (some false)) else (some false)) else (some false))) = some r := H
                  have A74 := Aside0.mk A740
                  clear A740
                  by_cases c75 : t382 = true
                  · subst c75
                    have H1 : (if t379 = 1 then (if t381 = 1 then (some t350) else (some false)) else (some false)) = some r := by rw [if_pos rfl] at H; exact H
                    clear H
                    have H := H1
                    clear H1
                    by_cases c76 : t379 = 1
                    · rw [if_pos c76] at H
                      have c76b0 : (t379 == 1) = true := beq_iff_eq.mpr c76
                      have c76b1 : (t379 != 1) = false := bne_eq_false_iff_eq.mpr c76
                      clear c76
                      by_cases c77 : t381 = 1
                      · rw [if_pos c77] at H
                        have c77b0 : (t381 == 1) = true := beq_iff_eq.mpr c77
                        have c77b1 : (t381 != 1) = false := bne_eq_false_iff_eq.mpr c77
                        clear c77
                        obtain rfl := Option.some.inj H
                        go_wp2_with (first | ((with_reducible refine gate_callee (f := 37) rfl ?_); refine goesL_ (some 93) rfl rfl Try.func37 (by kernel_rfl) rfl #[.slice Ao14 t354.length co14, .int .i64 2] rfl (by (try simp only [List.map_toArray, List.map_cons, List.map_nil]); first | done | rfl | (simp only [List.length_drop, List.length_take]; rfl)) ?_; (with_reducible refine (koineref25_Has.calls kj66 _ _ t354 2 true _ ?side1 ?side2 A74.out).mono ?_); (case side1 => repeat (first | exact (Kd.R_reads' HO_8.out).2.2 | (with_reducible refine Kd.C_alloc ?_ _) | (with_reducible refine Kd.C_drewN ?_ _) | (with_reducible refine Kd.C_drew ?_))); (case side2 => exact (Kd.R_reads' HO_8.out).2.1); rintro e w' ⟨rfl, ⟨nd, rfl⟩⟩; refine ⟨_, rfl, ?_⟩))
                        go_ret
                        exact ⟨by first | rfl | (simp [errW_none, errW_some] <;> rfl) | (simp [*, errW_none, errW_some] <;> rfl), by repeat (first | (with_reducible first | exact HB.out | apply below_alloc | apply pw_below_drewN | apply below_drew1) | exact HB.out)⟩
                      · rw [if_neg c77] at H
                        exact absurd ((Option.some.inj H).trans hr.out) (by decide)
                    · rw [if_neg c76] at H
                      exact absurd ((Option.some.inj H).trans hr.out) (by decide)
                  · replace c75 := Bool.eq_false_iff.mpr c75
                    subst c75
                    have H1 : (if t379 = 0 then (if t381 = 0 then (if t378.toList = t380.toList then ((document_Cost.f t378 0).bind fun bt383 => (if bt383.2 = 0 then (some t350) else (some false))) else (some false)) else (some false)) else (some false)) = some r := by rw [if_neg (show ¬ (false = true) by decide)] at H; exact H
                    clear H
                    have H := H1
                    clear H1
                    by_cases c78 : t379 = 0
                    · rw [if_pos c78] at H
                      have c78b0 : (t379 == 0) = true := beq_iff_eq.mpr c78
                      have c78b1 : (t379 != 0) = false := bne_eq_false_iff_eq.mpr c78
                      clear c78
                      by_cases c79 : t381 = 0
                      · rw [if_pos c79] at H
                        have c79b0 : (t381 == 0) = true := beq_iff_eq.mpr c79
                        have c79b1 : (t381 != 0) = false := bne_eq_false_iff_eq.mpr c79
                        clear c79
                        by_cases c80 : t378.toList = t380.toList
                        · rw [if_pos c80] at H
                          have c80b0 : (t378.toList == t380.toList) = true := beq_iff_eq.mpr c80
                          have c80b1 : (t378.toList != t380.toList) = false := bne_eq_false_iff_eq.mpr c80
                          clear c80
                          replace H := Option.bind_eq_some_iff.mp H
                          obtain ⟨⟨t383, t384⟩, A810, H⟩ := H
                          replace H : (if t384 = 0 then (some t350) else (some false)) = some r := H
                          have A81 := Aside0.mk A810
                          clear A810
                          by_cases c82 : t384 = 0
                          · rw [if_pos c82] at H
                            have c82b0 : (t384 == 0) = true := beq_iff_eq.mpr c82
                            have c82b1 : (t384 != 0) = false := bne_eq_false_iff_eq.mpr c82
                            clear c82
                            obtain rfl := Option.some.inj H
                            have hrf : ∀ W : World, Sem.run Try.prog (Instr.field 36 (.agg #[.int .i64 t383, .int .i64 t384]) 1) W = .ok (.int .i64 t384) W := run_field36 t383 t384
                            go_wp2_with fail
                            refine (koineref25_Has.calls kj66 Ao14 co14 t354 2 false _ (Kd.R_reads' HO_8.out).2.2 (Kd.R_reads' HO_8.out).2.1 A74.out).mono ?_
                            rintro e wh ⟨rfl, hd⟩
                            obtain ⟨nd, rfl⟩ := hd.out
                            go_wp2_with fail
                            refine (document_Cost.calls t378 0 t383 t384 _ A81.out).mono ?_
                            rintro e w83 ⟨rfl, hb⟩
                            have HB2 := Aside0.mk (below_step (pw_below_drewN HB.out nd) hb)
                            clear hb
                            go_wp2_with fail
                            go_ret
                            exact ⟨rfl, HB2.out⟩
                          · rw [if_neg c82] at H
                            exact absurd ((Option.some.inj H).trans hr.out) (by decide)
                        · rw [if_neg c80] at H
                          exact absurd ((Option.some.inj H).trans hr.out) (by decide)
                      · rw [if_neg c79] at H
                        exact absurd ((Option.some.inj H).trans hr.out) (by decide)
                    · rw [if_neg c78] at H
                      exact absurd ((Option.some.inj H).trans hr.out) (by decide)
    · rw [if_neg c9] at H
      exact absurd H (by simp)
  · rw [if_neg c8] at H
    exact absurd H (by simp)

end Go.Proofs.Ythmmdmnbcecooaa.A

/-! Q13 -/
namespace Go.Proofs.Ythmmdmnbcecooaa.A
open Go.RowKit Go.Proofs.YthmmdmnbcecooaaW.PrintWords Go.Proofs.YthmmdmnbcecooaaW.PrintLast Go.Proofs.YthmmdmnbcecooaaW.PrintMore
set_option linter.unusedVariables false
set_option linter.unusedSimpArgs false

theorem u8_ten_x (c : UInt8) : (c.toNat : Int) = 10 ↔ c = 10 := by
  constructor
  · intro e
    apply UInt8.toNat_inj.1
    have : c.toNat = 10 := by omega
    rw [this]; rfl
  · rintro rfl; rfl

theorem cost_f_x (s : ByteArray) (w : Int) (hs : s.size ≤ 1000000000000) (hw : w ≤ 9223372036854775807) : document_Cost.f s w = some (costGo (mx w 0) s.data.toList 0) := by
  unfold document_Cost.f
  rw [if_pos ⟨by omega, hw⟩]

theorem out_size_x {l : List S42} (h : Doc20 l) (fl : List Bool) : (rnd (E l) fl).length ≤ 140737488355328 ∧ (wt (E l) ≤ 8000 → lv (E l) ≤ 2000 → (rnd (E l) fl).length ≤ 1000000000) := by
  have hg := h.good
  have h0 := (check_zero_iff l).2 hg
  have hp := hg.pos
  have key : ∀ fl : List Bool, fl.length = ng (E l) → (wrP (E l) 0 false fl st0).out.length ≤ lv (E l) * (wt (E l) + 1) := by
    intro fl hl
    have hgl : (groupsI (rootT l)).length = ng (E l) := by rw [ng_eq]; exact (er_ng _).symm
    have hnd : (groupsI (rootT l)).Nodup := groups_nodup hg.ok (check_once h0) (l.length - 1) (by omega)
    have hf := h.fits
    have hw := wrO_eq (chOf ((groupsI (rootT l)).zip fl)) (rootT l) 0 0 false st0 (nn_tree hg.ok _ (by omega)) ⟨by decide, by decide, by decide, by decide⟩ ⟨by decide, by decide⟩
      (by have := hf.1; unfold E at this; rw [er_wt] at this; omega) (by
        have := hf.2; unfold E at this; rw [er_wt, er_lv] at this
        rw [Nat.zero_add]
        show 0 + _ ≤ _
        omega)
    have := hw.2.2
    rw [chOf_zip _ _ hnd (by omega), Nat.zero_add] at this
    unfold E
    rw [er_wrP, er_wt, er_lv]
    have z : st0.out.length = 0 := rfl
    omega
  have hk := key (chz (gh (E l)) fl) (by rw [chz_length, gh_length])
  refine ⟨?_, fun hw hl => ?_⟩
  · have := h.fits.2
    unfold rnd
    omega
  · have := Nat.mul_le_mul hl (show wt (E l) + 1 ≤ 8001 by omega)
    unfold rnd
    omega

end Go.Proofs.Ythmmdmnbcecooaa.A

/-! PureDocumentFlat -/
namespace Go.Proofs.Ythmmdmnbcecooaa.A
open Go.RowKit Go.Proofs.YthmmdmnbcecooaaW.PrintWords Go.Proofs.YthmmdmnbcecooaaW.PrintLast Go.Proofs.YthmmdmnbcecooaaW.PrintMore
set_option linter.unusedVariables false
set_option linter.unusedSimpArgs false

theorem wrong_stays : ∀ (t : Doc) (ind : Int) (flat : Bool) (fl : List Bool) (st : St), st.wrong = true → (wrP t ind flat fl st).wrong = true
  | .text s, ind, flat, fl, st, h => by
    simp only [wrP, addT]
    split
    · exact h
    · split <;> exact h
  | .line s, ind, flat, fl, st, h => by
    simp only [wrP, addT, feedT]
    split
    · split
      · exact h
      · split <;> exact h
    · exact h
  | .hard, ind, flat, fl, st, h => by simp only [wrP, feedT]; rw [h]; rfl
  | .seq a b, ind, flat, fl, st, h => wrong_stays b _ _ _ _ (wrong_stays a _ _ _ _ h)
  | .nest n a, ind, flat, fl, st, h => wrong_stays a _ _ _ _ h
  | .align a, ind, flat, fl, st, h => wrong_stays a _ _ _ _ h
  | .group _ a, ind, flat, fl, st, h => wrong_stays a _ _ _ _ h

theorem flat_hard : ∀ (t : Doc) (ind : Int) (fl : List Bool) (st : St), hardT t = true → (wrP t ind true fl st).wrong = true
  | .text s, ind, fl, st, h => by cases h
  | .line s, ind, fl, st, h => by cases h
  | .hard, ind, fl, st, h => by simp [wrP, feedT]
  | .seq a b, ind, fl, st, h => by
    simp only [hardT, Bool.or_eq_true] at h
    rcases h with h | h
    · exact wrong_stays b _ _ _ _ (flat_hard a _ _ _ h)
    · exact flat_hard b _ _ _ h
  | .nest n a, ind, fl, st, h => flat_hard a _ _ _ h
  | .align a, ind, fl, st, h => flat_hard a _ _ _ h
  | .group _ a, ind, fl, st, h => flat_hard a _ _ _ h

theorem flat_same : ∀ (t : Doc) (ind : Int) (fl gl : List Bool) (st : St), hardT t = false → wrP t ind true fl st = wrP t ind true gl st
  | .text s, ind, fl, gl, st, h => rfl
  | .line s, ind, fl, gl, st, h => rfl
  | .hard, ind, fl, gl, st, h => by cases h
  | .seq a b, ind, fl, gl, st, h => by
    simp only [hardT, Bool.or_eq_false_iff] at h
    simp only [wrP]
    rw [flat_same a ind (fl.take (ng a)) (gl.take (ng a)) st h.1, flat_same b ind (fl.drop (ng a)) (gl.drop (ng a)) _ h.2]
  | .nest n a, ind, fl, gl, st, h => flat_same a _ _ _ _ h
  | .align a, ind, fl, gl, st, h => flat_same a _ _ _ _ h
  | .group _ a, ind, fl, gl, st, h => flat_same a _ _ _ _ h

theorem flat_ok : ∀ (t : Doc) (ind : Int) (fl : List Bool) (st : St), hardT t = false → TxOk t → (∀ c ∈ st.out, c ≠ 10) → (wrP t ind true fl st).wrong = st.wrong ∧ ∀ c ∈ (wrP t ind true fl st).out, c ≠ 10
  | .text s, ind, fl, st, h, ht, hs => flat_add st _ ht.2 hs
  | .line s, ind, fl, st, h, ht, hs => flat_add st _ (fun c hc => by rw [ht.2 c hc]; decide) hs
  | .hard, ind, fl, st, h, ht, hs => by cases h
  | .seq a b, ind, fl, st, h, ht, hs => by
    simp only [hardT, Bool.or_eq_false_iff] at h
    have h1 := flat_ok a ind (fl.take (ng a)) st h.1 ht.1 hs
    have h2 := flat_ok b ind (fl.drop (ng a)) _ h.2 ht.2 h1.2
    exact ⟨h2.1.trans h1.1, h2.2⟩
  | .nest n a, ind, fl, st, h, ht, hs => flat_ok a _ _ _ h ht.2.2 hs
  | .align a, ind, fl, st, h, ht, hs => flat_ok a _ _ _ h ht hs
  | .group _ a, ind, fl, st, h, ht, hs => flat_ok a _ _ _ h ht hs
where
  flat_add (st : St) (s : List UInt8) (h : ∀ c ∈ s, c ≠ 10) (hs : ∀ c ∈ st.out, c ≠ 10) : (addT st s).wrong = st.wrong ∧ ∀ c ∈ (addT st s).out, c ≠ 10 := by
    unfold addT
    split
    · exact ⟨rfl, hs⟩
    split
    · refine ⟨rfl, fun c hc => ?_⟩
      simp only [List.mem_append] at hc
      rcases hc with hc | hc | hc
      · exact hs c hc
      · rw [List.eq_of_mem_replicate hc]; decide
      · exact h c hc
    · refine ⟨rfl, fun c hc => ?_⟩
      simp only [List.mem_append] at hc
      rcases hc with hc | hc
      · exact hs c hc
      · exact h c hc

theorem cost_lines (w : Int) : ∀ (s : List UInt8) (n : Int), (∀ c ∈ s, c ≠ 10) → (costGo w s n).2 = 0
  | [], _, _ => rfl
  | c :: t, n, h => by
    simp only [costGo]
    rw [if_neg (h c (by simp))]
    exact cost_lines w t (n + 1) (fun x hx => h x (by simp [hx]))

/-- A hard line break among the nodes is one in the tree. -/
def HasP (q : Int) (l : List S42) : Bool := l.any fun x => decide (x.f0 = q)
theorem has_seq (q : Int) (hq : q ≠ 3) (a b : List S42) : HasP q (seqD a b) = (HasP q a || HasP q b) := by
  unfold HasP seqD joinD
  rw [List.any_append, List.any_append, List.any_map]
  have e : (fun x : S42 => decide (x.f0 = q)) ∘ shiftN a.length = fun x => decide (x.f0 = q) := by
    funext x
    simp only [Function.comp, (shiftN_kind _ x).1]
  rw [e]
  simp only [List.any_cons, List.any_nil, Bool.or_false]
  rw [decide_eq_false (fun e => hq e.symm), Bool.or_false]
theorem has_wrap (q : Int) (a : List S42) (kind n : Int) (hk : kind ≠ q) : HasP q (wrapD kind n a) = HasP q a := by
  unfold HasP wrapD
  rw [List.any_append]
  simp [hk]
theorem has_hard {l : List Int} {most : Int} (hb : ∀ x ∈ l, 0 ≤ x ∧ x ≤ 255) (hm : most ≤ 1000) : HasP 2 (madeDoc l most) = hardT (E (madeDoc l most)) := by
  refine made_ind (P := fun l => HasP 2 l = hardT (E l)) (fun k h0 h1 => ?_) (by decide) (fun a b ga gb hl ha hb => ?_) (fun kind n a ga hl hk ha => ?_) hb hm
  · have h : ∀ i : Fin 256, HasP 2 (leafD (i.val : Int)) = hardT (E (leafD (i.val : Int))) := by decide +kernel
    have := h ⟨k.toNat, by omega⟩
    simp only [Int.toNat_of_nonneg h0] at this
    exact this
  · rw [has_seq 2 (by decide), E_seq ga gb hl, ha, hb]; rfl
  · rw [has_wrap 2 a kind n (by omega), ha]
    rcases hk with ⟨rfl, h1, h2⟩ | ⟨rfl | rfl, rfl⟩
    · rw [E_nest ga ⟨h1, by omega⟩ hl]; rfl
    · rw [E_align ga hl]; rfl
    · rw [E_group ga hl]; rfl

structure FlatD (D : List S42) (t : Doc) : Prop where
  doc : Doc20 D
  shape : E D = .group 0 t
  tx : TxOk t
  has : HasP 2 D = hardT t
  len : D.length ≤ 10000
  w1 : wt t ≤ 8000
  w2 : lv t ≤ 2000

theorem groupsL_len (l : List S42) : (groupsL l).length = ng (E l) := by
  unfold groupsL E
  rw [List.length_map, er_ng, ← ng_eq]
  rfl

theorem flat_end {D : List S42} {t : Doc} (h : FlatD D t) (x y : List Bool) (hx : x.length = ng t + 1) (hy : y.length = ng t + 1) (hx0 : x.headD false = true) (hy0 : y.headD false = true) (f g : List Bool) {k : Nat} (hk : 2000000000 ≤ k) :
    koinelaw25_DocumentFlat.l0 (k + 2) f g true D (groupsL D) 0 x y ((ng t + 1 : Nat) : Int) = some true := by
  have hgl : (groupsL D).length = ng t + 1 := by rw [groupsL_len, h.shape]; rfl
  have hng : ng (E D) = ng t + 1 := by rw [h.shape]; rfl
  have hwr : ∀ fl : List Bool, fl.headD false = true → wrP (E D) 0 false fl st0 = wrP t 0 true fl.tail st0 := fun fl hf => by
    rw [h.shape]
    simp only [wrP]
    rw [hf]
    rfl
  rw [show k + 2 = (k + 1) + 1 by omega, koinelaw25_DocumentFlat.l0, if_neg (by omega), render_any h.doc.good h.doc.fits x (by omega), Option.bind_some, render_any h.doc.good h.doc.fits y (by omega), Option.bind_some, if_pos rfl]
  have hb : (((groupsL D).length : Int) == 0) = false := beq_eq_false_iff_ne.2 (by omega)
  rw [hb, koinelaw25_DocumentFlat.j1, if_neg (by decide), has_f D 2 (by have := h.len; omega) (by have := h.len; omega), Option.bind_some, show (D.any fun x => decide (x.f0 = 2)) = hardT t from h.has, hwr x hx0, hwr y hy0]
  cases hh : hardT t with
  | true =>
    rw [if_pos (flat_hard t 0 x.tail st0 hh), if_pos (flat_hard t 0 y.tail st0 hh), if_pos rfl, if_pos rfl, if_pos rfl]
  | false =>
    have fo := flat_ok t 0 x.tail st0 hh h.tx (by intro c hc; cases hc)
    rw [flat_same t 0 y.tail x.tail st0 hh]
    have hw : ¬ (wrP t 0 true x.tail st0).wrong = true := by rw [fo.1]; decide
    rw [if_neg hw, if_neg (by decide), if_pos rfl, if_pos rfl, if_pos rfl]
    have hsz : (⟨(wrP t 0 true x.tail st0).out.toArray⟩ : ByteArray).size = (wrP t 0 true x.tail st0).out.length := by simp [ByteArray.size]
    have hlen : (wrP t 0 true x.tail st0).out.length ≤ 1000000000 := by
      have e1 := h.doc.fits
      have hd := h.doc
      have hg := hd.good
      have h0 := (check_zero_iff D).2 hg
      have hp := hg.pos
      have hgl2 : (groupsI (rootT D)).length = ng (E D) := by rw [ng_eq]; exact (er_ng _).symm
      have hnd : (groupsI (rootT D)).Nodup := groups_nodup hg.ok (check_once h0) (D.length - 1) (by omega)
      have hww := wrO_eq (chOf ((groupsI (rootT D)).zip x)) (rootT D) 0 0 false st0 (nn_tree hg.ok _ (by omega)) ⟨by decide, by decide, by decide, by decide⟩ ⟨by decide, by decide⟩
        (by have := e1.1; unfold E at this; rw [er_wt] at this; omega) (by
          have := e1.2; unfold E at this; rw [er_wt, er_lv] at this
          rw [Nat.zero_add]
          show 0 + _ ≤ _
          omega)
      have hz := hww.2.2
      rw [chOf_zip _ _ hnd (by omega), Nat.zero_add] at hz
      have e2 : wrP (rootT D) 0 false x st0 = wrP t 0 true x.tail st0 := by
        have := hwr x hx0
        unfold E at this
        rwa [er_wrP] at this
      rw [e2] at hz
      have e3 : lv (rootT D) = lv t := by have := h.shape; unfold E at this; have := congrArg lv this; rw [er_lv] at this; exact this
      have e4 : wt (rootT D) = wt t := by have := h.shape; unfold E at this; have := congrArg wt this; rw [er_wt] at this; exact this
      rw [e3, e4] at hz
      have := Nat.mul_le_mul h.w2 (show wt t + 1 ≤ 8001 by have := h.w1; omega)
      have z : st0.out.length = 0 := rfl
      omega
    simp only
    rw [cost_f_x _ _ (by omega) (by decide), Option.bind_some, if_pos]
    exact cost_lines _ _ _ fo.2

theorem flat_loop {D : List S42} {t : Doc} (h : FlatD D t) (hn : ng t ≤ 65536) (f g : List Bool) : ∀ (d j k : Nat) (x y : List Bool), j + d = ng t + 1 → x.length = ng t + 1 → y.length = ng t + 1 → (0 < j → x.headD false = true ∧ y.headD false = true) → 2000000000 ≤ k →
    koinelaw25_DocumentFlat.l0 (k + d + 2) f g true D (groupsL D) 0 x y j = some true
  | 0, j, k, x, y, hj, hx, hy, h0, hk => by
    obtain rfl : j = ng t + 1 := by omega
    exact flat_end h x y hx hy (h0 (by omega)).1 (h0 (by omega)).2 f g hk
  | d + 1, j, k, x, y, hj, hx, hy, h0, hk => by
    have hgl : (groupsL D).length = ng t + 1 := by rw [groupsL_len, h.shape]; rfl
    have hwj : wrap64 ((j : Int) + 1) = ((j + 1 : Nat) : Int) := by rw [wrap64_small (by omega) (by omega)]; omega
    have hset : ∀ (z : List Bool) (v : Bool), z.headD false = true → 0 < j → (z.set j v).headD false = true := fun z v hz hj0 => by
      cases z with
      | nil => exact hz
      | cons a z =>
        obtain ⟨m, rfl⟩ : ∃ m, j = m + 1 := ⟨j - 1, by omega⟩
        exact hz
    rw [show k + (d + 1) + 2 = (k + d + 2) + 1 by omega, koinelaw25_DocumentFlat.l0, if_pos (by omega), hwj]
    by_cases hj0 : j = 0
    · subst hj0
      rw [if_pos (by rfl), if_pos (by omega), if_pos (by omega), if_pos (by omega)]
      refine flat_loop h hn f g d 1 k _ _ (by omega) (by simp; omega) (by simp; omega) (fun _ => ?_) hk
      cases x with
      | nil => simp at hx
      | cons a x => cases y with
        | nil => simp at hy
        | cons b y => exact ⟨rfl, rfl⟩
    · have h1 := h0 (by omega)
      rw [if_neg (by omega)]
      have go : ∀ u v : Bool, koinelaw25_DocumentFlat.l0 (k + d + 2) f g true D (groupsL D) 0 (x.set (j : Int).toNat u) (y.set (j : Int).toNat v) ((j + 1 : Nat) : Int) = some true := fun u v =>
        flat_loop h hn f g d (j + 1) k _ _ (by omega) (by simp; omega) (by simp; omega) (fun _ => by rw [Int.toNat_natCast]; exact ⟨hset x u h1.1 (by omega), hset y v h1.2 (by omega)⟩) hk
      split
      · rw [if_pos (by omega), if_pos (by omega), Option.bind_some]
        split
        · rw [if_pos (by omega)]; exact go _ _
        · rw [if_pos (by omega)]; exact go _ _
      · rw [if_pos (by omega), if_pos (by omega), Option.bind_some]
        split
        · rw [if_pos (by omega)]; exact go _ _
        · rw [if_pos (by omega)]; exact go _ _

theorem flat_f {l0 : List Int} (hb : ∀ x ∈ l0, 0 ≤ x ∧ x ≤ 255) (hl : l0.length ≤ 281474976710656) (f g : List Bool) : ∃ k, koinelaw25_DocumentFlat.f k l0 f g = some true := by
  have hd : Doc20 (madeDoc l0 50) := made_doc hb (by decide)
  have hs : MadeP (madeDoc l0 50) := made_shape hb (by decide)
  have hn := (made_good (most := 50) hb (by decide)).2
  have hs2 := hs.2
  have hE : E (wrapD 6 0 (madeDoc l0 50)) = .group 0 (E (madeDoc l0 50)) := E_group hd.good (by omega)
  have hD : FlatD (wrapD 6 0 (madeDoc l0 50)) (E (madeDoc l0 50)) := by
    refine ⟨⟨good_wrap hd.good (by omega) (by omega) (fun _ => rfl) (by omega), hd.tb.wrap _ _, ?_⟩, hE, hs.1, ?_, ?_, by omega, by omega⟩
    · rw [hE]
      exact fits_of (a := 10000) (b := 10000) (by simp only [wt]; omega) (by simp only [lv]; omega) (by omega) (by omega)
    · rw [has_wrap 2 _ 6 0 (by decide)]
      exact has_hard hb (by decide)
    · rw [wrapD_length]; omega
  have hng : ng (E (madeDoc l0 50)) ≤ 65536 := by
    rw [← groupsL_len]
    have := groups_le ((check_zero_iff _).2 hd.good)
    simpa [groupsL, rootT] using this
  have hgl : (groupsL (wrapD 6 0 (madeDoc l0 50))).length = ng (E (madeDoc l0 50)) + 1 := by rw [groupsL_len, hE]; rfl
  refine ⟨2000000000 + (ng (E (madeDoc l0 50)) + 1) + 2, ?_⟩
  unfold koinelaw25_DocumentFlat.f
  have hgf : document_Groups.f (wrapD 6 0 (madeDoc l0 50)) = some (groupsL (wrapD 6 0 (madeDoc l0 50)), 0) := by
    unfold document_Groups.f
    rw [if_pos ((check_zero_iff _).2 hD.doc.good)]
  rw [show koinelaw25_sanity.f = some true from rfl, Option.bind_some, made_f hb (by decide) hl, Option.bind_some, Wrap_eq _ _ _ (by omega), Option.bind_some, hgf, Option.bind_some]
  simp only
  rw [if_pos (by omega), if_pos (by omega), Int.toNat_natCast]
  exact flat_loop hD hng f g _ 0 _ _ _ (by omega) (by simp; omega) (by simp; omega) (fun h => by omega) (Nat.le_refl _)

theorem documentFlat_walk (w : World) (A0 : Option Addr) (c0 : Nat) (l0 : List Int) (hr0 : Kd.C (Kd.int .u8) w A0 l0.length l0) (hc0 : l0.length ≤ c0) (hw0 : ∀ x ∈ l0, (Lit.int .u8 x).wf = true) (y0 : l0.length * 1 ≤ 140737488351232)
    (A1 : Option Addr) (c1 : Nat) (l1 : List Bool) (hr1 : Kd.C Kd.bool w A1 l1.length l1) (hc1 : l1.length ≤ c1) (hm1 : l1.length ≤ maxLen)
    (A2 : Option Addr) (c2 : Nat) (l2 : List Bool) (hr2 : Kd.C Kd.bool w A2 l2.length l2) (hc2 : l2.length ≤ c2) (hm2 : l2.length ≤ maxLen) :
    Calls Try.prog 8 #[.slice A0 l0.length c0, .slice A1 l1.length c1, .slice A2 l2.length c2] w fun e w' => e = .returned (.bool true) ∧ Below w.heap.size w w' := by
  obtain ⟨k, h⟩ := flat_f (bytes_of hw0) (by omega) l1 l2
  exact koinelaw25_DocumentFlat.calls k A0 c0 l0 A1 c1 l1 A2 c2 l2 true ⟨rfl⟩ w hr0 hc0 hr1 hc1 hr2 hc2 h

end Go.Proofs.Ythmmdmnbcecooaa.A

/-! LawDocumentFlat -/
namespace Go.Proofs.Ythmmdmnbcecooaa.documentFlat
open Go.ChangeShapes Go.WideShapes Go.ChangeAt Go.RowKit
open Go.ChangeMaps (open_string shut_string)
open Go.Proofs.YthmmdmnbcecooaaW.PrintWords
set_option linter.unusedVariables false
theorem own : ownKnob Try.prog.godebug = none := by kernel_rfl
theorem laidOut : laidOutB Try.prog = true := by kernel_rfl
def IsRow (k : IntKind) (w : World) (a : Option Addr) (len cap : Nat) (zs : List Int) : Prop :=
  (a = none ∧ len = 0 ∧ cap = 0 ∧ zs = []) ∨
  ∃ x, a = some x ∧ len ≤ cap ∧ cap ≤ maxLen ∧ zs.length = cap ∧ (∀ i, i < zs.length → w.cell? (x.add i) = some (.int k (zs.getD i 0))) ∧ ∀ n ∈ zs, (Lit.int k n).wf = true
set_option maxRecDepth 100000 in
theorem lifted (os : Os) (started : os.Started) (H : Type) (enc : TypeId × Value → H) :
    ReturnsInHanded {} Try.checked os 8 .any (Rows.documentFlatSpec.pre6 enc Try.prog Try.f8 Rows.documentFlatRow.domain false) (Rows.documentFlatSpec.post enc Try.prog Try.f8 false true false false) := by
  refine returnsInHanded_of_change_sized (C := Try.checked) own started (by kernel_rfl) Try.func8
    (ChangeSpec.witness6 (enc := enc) (C := Try.checked) false ⟨#[], #[.slice none 0 0, .slice none 0 0, .slice none 0 0], []⟩ 8 (by kernel_rfl) (by kernel_rfl) (by kernel_rfl) (by kernel_rfl)) ?_
  intro W base args ds gs before hval0 hW hcnd hsz0 _
  have hsz : (DataW.weightsEach Try.prog (Try.f8.params.toList ++ Rows.documentFlatSpec.plain.varTypes Try.prog) (ds ++ gs)).all (· ≤ reachBytes) = true := hsz0
  have hval : ∀ (j : Nat) t v, Try.f8.params[j]? = some t → args[j]? = some v → Value.okWide Try.prog W .any base t v := hval0
  have hW' := hW
  obtain ⟨p, q, hA0, hV, rfl, hfz, hnd⟩ := hW
  have hA : DataW.TrodAll enc Try.prog W 0 (fun _ => true) true Try.f8.params.toList args.toList ds p := hA0
  rw [Try.params8] at hA hval hsz
  obtain ⟨v0, vs0, d0, ds0, p0, q0, hargs, rfl, rfl, h0, r0⟩ := trodAll_cons hA
  obtain ⟨v1, vs1, d1, ds1, p1, q1, rfl, rfl, rfl, h1, r1⟩ := trodAll_cons r0
  obtain ⟨v2, vs2, d2, ds2, p2, q2, rfl, rfl, rfl, h2, r2⟩ := trodAll_cons r1
  obtain ⟨rfl, rfl, rfl⟩ := trodAll_nil r2
  obtain rfl : args = #[v0, v1, v2] := by cases args; simp_all
  obtain ⟨rfl, rfl⟩ := trodVars_none hV
  obtain ⟨a0, len0, cap0, rfl⟩ := okWide_slice Try.underlying22 (hval 0 22 v0 rfl rfl)
  have k0 := h0
  have lt0 : ∀ x ∈ p0, x.block < W.heap.size := by obtain ⟨m, hm⟩ := k0; exact DataW.trod_lt m _ _ _ hm
  obtain ⟨z0, w0⟩ : ∃ zs, IsRow .u8 W a0 len0 cap0 zs := by
    obtain ⟨fuel, hf⟩ := h0
    rcases open_ints Try.underlying22 Try.underlying5 (by kernel_rfl) hf with ⟨hcs, _⟩ | ⟨x, l, c, zs, hcs, _, hl, hm, hz, _, hcell, hwz⟩
    · simp [Value.cells] at hcs
      obtain ⟨rfl, rfl, rfl⟩ := hcs
      exact ⟨[], .inl ⟨rfl, rfl, rfl, rfl⟩⟩
    · simp [Value.cells] at hcs
      obtain ⟨rfl, rfl, rfl⟩ := hcs
      exact ⟨zs, .inr ⟨_, rfl, hl, hm, by simpa using hz, hcell, hwz⟩⟩
  have y0 : len0 * 1 ≤ 140737488351232 := sized_ints hsz (j := 0) (t := 22) rfl rfl Try.underlying22 Try.underlying5 (by kernel_rfl) (by kernel_rfl) h0
  obtain ⟨l0, rfl, hr0, hm0, hw0, hc0⟩ := ReadsInt.ofRowC w0
  obtain ⟨a1, len1, cap1, rfl⟩ := okWide_slice Try.underlying23 (hval 1 23 v1 rfl rfl)
  have k1 := h1
  have lt1 : ∀ x ∈ p1, x.block < W.heap.size := by obtain ⟨m, hm⟩ := k1; exact DataW.trod_lt m _ _ _ hm
  obtain ⟨l1, rfl, hr1, hm1, hc1⟩ := A.bools_arg Try.underlying23 Try.underlying4 (by kernel_rfl) h1
  obtain ⟨a2, len2, cap2, rfl⟩ := okWide_slice Try.underlying23 (hval 2 23 v2 rfl rfl)
  have k2 := h2
  have lt2 : ∀ x ∈ p2, x.block < W.heap.size := by obtain ⟨m, hm⟩ := k2; exact DataW.trod_lt m _ _ _ hm
  obtain ⟨l2, rfl, hr2, hm2, hc2⟩ := A.bools_arg Try.underlying23 Try.underlying4 (by kernel_rfl) h2
  clear hA0 hval0 hsz0 hsz
  refine (A.documentFlat_walk W a0 cap0 l0 (Kd.C_of_reads (d := (0 : Int)) (h1 := fun _ => rfl) hr0) hc0 hw0 y0 a1 cap1 l1 hr1 hc1 hm1 a2 cap2 l2 hr2 hc2 hm2).mono fun e W' ⟨he, bel⟩ => ?_
  subst he
  exact ⟨_, rfl, _, _, _, [], _, [], hW', trodAll_mk1 (shut_bool Try.underlying4 _), (trodAll_cons_mk (Below.trod laidOut (by kernel_rfl) (of_decide_eq_true (by kernel_rfl)) k0 bel lt0) (trodAll_cons_mk (Below.trod laidOut (by kernel_rfl) (of_decide_eq_true (by kernel_rfl)) k1 bel lt1) (trodAll_cons_mk (Below.trod laidOut (by kernel_rfl) (of_decide_eq_true (by kernel_rfl)) k2 bel lt2) trodAll_mk0))), rfl, bel.frame _, fun h => by cases h⟩
theorem over : Rows.documentFlatRow.holds Try.pinned (OpenSpec.ofChange Rows.documentFlatSpec) :=
  OpenClaim.holds_of_wide 8 Try.f8 rfl rfl rfl rfl rfl rfl rfl ⟨rfl, rfl, rfl, rfl, rfl⟩ rfl rfl rfl rfl rfl (by kernel_rfl) Try.func8 (by kernel_rfl)
    (of_decide_eq_true (by kernel_rfl)) (by unfold Func.isWrapper; first | (rw [if_pos (by decide +kernel)]; kernel_rfl) | (rw [if_neg (by decide +kernel)]; exact ⟨rfl, rfl⟩))
    (fun os started H enc _ => lifted os started H enc)
theorem proved : Rows.DocumentFlatSaid := over
end Go.Proofs.Ythmmdmnbcecooaa.documentFlat
namespace Go.Proofs.Ythmmdmnbcecooaa
/-- The row, under a short name, for the claim. -/
theorem documentFlat_holds : Rows.DocumentFlatSaid := documentFlat.proved
#print axioms documentFlat_holds
end Go.Proofs.Ythmmdmnbcecooaa
