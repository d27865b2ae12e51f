/- X1, X3, Shelf, G1, G2, G3, T1, G4, B1, B2, B3, B4, B5, R1, T2, G5, R2, L0, L1, L2, L3, Q1, G0, A5: what the claims rest on of these texts, one behind the other. No condition of its own. -/
import Derived.Test.YthmmdmnbcecooaaZY8
import Derived.Deep.Grids
import Derived.OpenShut
import Derived.ChangeSlices
import Derived.SizedLaws
import Derived.WideShapes
import Derived.Shelf.Strings.Builder1
import Derived.Shelf.Strings.Builder2
import Derived.Shelf.Strings.BuilderF
import Derived.Shelf.Strings.BuilderK
import Derived.Shelf.Strings.Search1
import Derived.Shelf.Strings.Search2
import Derived.Shelf.Strings.Search3
import Derived.Shelf.Strings.Cut
import Derived.Shelf.LaysM
import Derived.Shelf.Strings.Shaped
import Derived.Shelf.Strings.Prefix
import Derived.Shelf.Bits.Mul64
import Derived.Shelf.Strings.Repeat
import Derived.Outline
import Derived.RegionTactic
import Derived.Deep.RegionWith
import Derived.MapKept
import Derived.Carry
import Derived.Laws.EntriesVeiled
import Derived.Maps.RangeRun
section
namespace Go.Proofs.Ythmmdmnbcecooaa.A
open Go.RowKit Go.Proofs.YthmmdmnbcecooaaW.PrintWords Go.Proofs.YthmmdmnbcecooaaW.PrintLast Go.Proofs.YthmmdmnbcecooaaW.PrintMore
open Go.ChangeShapes Go.WideShapes
set_option linter.unusedVariables false
theorem bools_arg {H : Type} {enc : TypeId × Value → H} {P : Program} {W : World} {base : Nat} {held : Bool} {t e : TypeId} {a : Option Addr} {len cap : Nat} {d : DataW H} {ps : List MemPlace}
    (hu : P.underlying t = some (.slice e)) (he : P.underlying e = some .bool) (hc : P.cellsOf e = 1)
    (h : DataW.Trod enc P W base (fun _ => true) held t (.slice a len cap) d ps) : ∃ l : List Bool, len = l.length ∧ Kd.C Kd.bool W a l.length l ∧ l.length ≤ maxLen ∧ l.length ≤ cap := by
  obtain ⟨fuel, hf⟩ := h
  rcases Go.Deep.open_bools hu he hc hf with ⟨hcs, _⟩ | ⟨x, l, c, B, hcs, _, hl, hm, _, hcell⟩
  · simp [Value.cells] at hcs
    obtain ⟨rfl, rfl, rfl⟩ := hcs
    exact ⟨[], rfl, Kd.C_of_reads (d := false) (h1 := fun _ => rfl) ⟨rfl, Nat.zero_le _, fun h => absurd h (Nat.lt_irrefl 0)⟩, Nat.zero_le _, Nat.zero_le _⟩
  · simp [Value.cells] at hcs
    obtain ⟨rfl, rfl, rfl⟩ := hcs
    have hlen : ((List.range len).map B).length = len := by simp
    refine ⟨(List.range len).map B, hlen.symm, Kd.C_of_reads (d := false) (h1 := fun _ => rfl) ⟨rfl, ?_, fun _ => ⟨x, rfl, fun j hj => ?_⟩⟩, ?_, ?_⟩
    · rw [hlen]; have := Nat.le_trans hl hm; simpa [maxLen] using this
    · rw [hlen] at hj
      rw [hcell j (by omega)]
      simp [List.getD, hj]
    · rw [hlen]; exact Nat.le_trans hl hm
    · rw [hlen]; exact hl
end Go.Proofs.Ythmmdmnbcecooaa.A
end

section
namespace Go.Proofs.Ythmmdmnbcecooaa.A
open Go.RowKit Go.Proofs.YthmmdmnbcecooaaW.PrintWords Go.Proofs.YthmmdmnbcecooaaW.PrintLast Go.Proofs.YthmmdmnbcecooaaW.PrintMore
open Go.ChangeShapes Go.WideShapes
set_option linter.unusedVariables false
set_option maxRecDepth 100000
def U8s (W : World) (A : Option Addr) (c : Nat) (l : List Int) : Prop := Kd.C (Kd.int .u8) W A l.length l ∧ l.length ≤ c ∧ (∀ x ∈ l, (Lit.int .u8 x).wf = true) ∧ l.length ≤ 140737488351232
theorem cellsU8s : Try.prog.cellsOf 22 = 1 := by kernel_rfl
theorem cellsU8 : Try.prog.cellsOf 5 = 1 := by kernel_rfl
theorem cellsA3 : Try.prog.cellsOf 57 = 3 := by kernel_rfl
theorem cellsA2 : Try.prog.cellsOf 47 = 2 := by kernel_rfl
theorem bytesU8 : Try.prog.bytesOf 5 = 1 := by kernel_rfl
section
variable {H : Type} {enc : TypeId × Value → H} {W : World} {base : Nat} {held : Bool}
theorem u8s_cell {n : Nat} {v : Value} {y : DataW H × List MemPlace} (h : DataW.trod enc Try.prog W base (fun _ => true) held n 22 [v] = some y) (hz : ∀ m ∈ y.1.weights Try.prog 22, m ≤ reachBytes) : ∃ A c l, v = .slice A l.length c ∧ U8s W A c l := by
  rcases open_ints Try.underlying22 Try.underlying5 cellsU8 h with ⟨hcs, _⟩ | ⟨x, l, c, zs, hcs, _, hl, hm, hz', hy, hcell, hwz⟩
  · simp at hcs
    exact ⟨none, 0, [], hcs, Kd.C_of_reads (d := (0 : Int)) (h1 := fun _ => rfl) ⟨rfl, Nat.zero_le _, fun h => absurd h (Nat.lt_irrefl 0)⟩, Nat.zero_le _, (fun x hx => by cases hx), Nat.zero_le _⟩
  · simp at hcs
    subst hcs
    have hlen : zs.length = c := by simpa using hz'
    obtain ⟨L, e1, h1, h2, h3, h4⟩ := ReadsInt.ofRowC (k := .u8) (w := W) (a := some x) (len := l) (cap := c) (zs := zs) (.inr ⟨x, rfl, hl, hm, hlen, hcell, hwz⟩)
    subst e1
    refine ⟨some x, c, L, rfl, Kd.C_of_reads (d := (0 : Int)) (h1 := fun _ => rfl) h1, h4, h3, ?_⟩
    obtain ⟨hx, _⟩ := Prod.mk.inj hy
    rw [hx] at hz
    simp only [DataW.weights, Try.underlying22] at hz
    have := hz _ (List.mem_cons_self)
    rw [bytesU8] at this
    have h5 : (lits (H := H) IntKind.u8 (zs.take L.length)).length + (lits (H := H) IntKind.u8 (zs.drop L.length)).length = zs.length := by
      simp [lits]
      omega
    rw [h5, hlen] at this
    have hr : reachBytes = 140737488351232 := rfl
    omega
theorem mem_weightsAll {P : Program} {e : TypeId} : ∀ {l : List (DataW H)} {i : Nat} {d : DataW H}, l[i]? = some d → ∀ m ∈ d.weights P e, m ∈ DataW.weightsAll P e l
  | x :: t, 0, d, h, m, hm => by
    simp at h
    subst h
    simp only [DataW.weightsAll, List.mem_append]
    exact .inl hm
  | x :: t, i + 1, d, h, m, hm => by
    simp only [List.getElem?_cons_succ] at h
    simp only [DataW.weightsAll, List.mem_append]
    exact .inr (mem_weightsAll h m hm)
  | [], i, d, h, m, hm => by simp at h
/-- The elements of an array of slices. -/
theorem arr_slices {t n fuel : Nat} (hu : Try.prog.underlying t = some (.array n 22)) {cs : List Value} {d : DataW H} {ps : List MemPlace} (h : DataW.trod enc Try.prog W base (fun _ => true) held fuel t cs = some (d, ps)) (hz : ∀ m ∈ d.weights Try.prog t, m ≤ reachBytes) :
    cs.length = Try.prog.cellsOf t ∧ ∀ i, i < n → ∀ v, cs[i]? = some v → ∃ A c l, v = .slice A l.length c ∧ U8s W A c l := by
  obtain ⟨xs, m, _, hx, hl, hxl, hi⟩ := DataW.trod_array hu h
  obtain ⟨rfl, _⟩ := Prod.mk.inj hx
  simp only [DataW.weights, hu] at hz
  refine ⟨hl, fun i hin v hv => ?_⟩
  have hg := hi i hin
  rw [cellsU8s, Nat.mul_one] at hg
  obtain ⟨hlt, hv'⟩ := List.getElem?_eq_some_iff.1 hv
  rw [List.drop_eq_getElem_cons hlt, hv'] at hg
  have hys : xs[i]? = some (xs[i]'(by omega)) := List.getElem?_eq_getElem (by omega)
  rw [hys] at hg
  refine u8s_cell hg (fun m hm => hz m (mem_weightsAll (i := i) (d := (xs[i]'(by omega)).1) ?_ m hm))
  rw [List.getElem?_map, hys]
  rfl
theorem two_cells {cs : List Value} (h : cs.length = 2) : ∃ a b, cs = [a, b] := by
  match cs, h with
  | [a, b], _ => exact ⟨a, b, rfl⟩
theorem three_cells {cs : List Value} (h : cs.length = 3) : ∃ a b c, cs = [a, b, c] := by
  match cs, h with
  | [a, b, c], _ => exact ⟨a, b, c, rfl⟩
theorem arr3_arg {v : Value} {d : DataW H} {ps : List MemPlace} {b : Nat} (hw : Value.okWide Try.prog W .any b 57 v) (h : DataW.Trod enc Try.prog W base (fun _ => true) held 57 v d ps) (hz : ∀ m ∈ d.weights Try.prog 57, m ≤ reachBytes) :
    ∃ A0 c0 l0 A1 c1 l1 A2 c2 l2, v = .agg #[.slice A0 l0.length c0, .slice A1 l1.length c1, .slice A2 l2.length c2] ∧ U8s W A0 c0 l0 ∧ U8s W A1 c1 l1 ∧ U8s W A2 c2 l2 := by
  simp only [Value.okWide, Try.underlying57] at hw
  obtain ⟨cs, rfl, hsz, _⟩ := hw
  obtain ⟨fuel, hf⟩ := h
  obtain ⟨hl, hi⟩ := arr_slices Try.underlying57 hf hz
  obtain ⟨L⟩ := cs
  rw [cellsA3] at hsz
  obtain ⟨v0, v1, v2, rfl⟩ := three_cells (cs := L) (by simpa using hsz)
  obtain ⟨A0, c0, l0, rfl, h0⟩ := hi 0 (by omega) v0 rfl
  obtain ⟨A1, c1, l1, rfl, h1⟩ := hi 1 (by omega) v1 rfl
  obtain ⟨A2, c2, l2, rfl, h2⟩ := hi 2 (by omega) v2 rfl
  exact ⟨A0, c0, l0, A1, c1, l1, A2, c2, l2, rfl, h0, h1, h2⟩
theorem arr2_arg {v : Value} {d : DataW H} {ps : List MemPlace} {b : Nat} (hw : Value.okWide Try.prog W .any b 47 v) (h : DataW.Trod enc Try.prog W base (fun _ => true) held 47 v d ps) (hz : ∀ m ∈ d.weights Try.prog 47, m ≤ reachBytes) :
    ∃ A0 c0 l0 A1 c1 l1, v = .agg #[.slice A0 l0.length c0, .slice A1 l1.length c1] ∧ U8s W A0 c0 l0 ∧ U8s W A1 c1 l1 := by
  simp only [Value.okWide, Try.underlying47] at hw
  obtain ⟨cs, rfl, hsz, _⟩ := hw
  obtain ⟨fuel, hf⟩ := h
  obtain ⟨hl, hi⟩ := arr_slices Try.underlying47 hf hz
  obtain ⟨L⟩ := cs
  rw [cellsA2] at hsz
  obtain ⟨v0, v1, rfl⟩ := two_cells (cs := L) (by simpa using hsz)
  obtain ⟨A0, c0, l0, rfl, h0⟩ := hi 0 (by omega) v0 rfl
  obtain ⟨A1, c1, l1, rfl, h1⟩ := hi 1 (by omega) v1 rfl
  exact ⟨A0, c0, l0, A1, c1, l1, rfl, h0, h1⟩
end
end Go.Proofs.Ythmmdmnbcecooaa.A
end

section
namespace Go.Proofs
open Go.Shelf
def Try.lays219_ren : Go.Shelf.Ren := ⟨fun | 219 => 79 | 217 => 85 | 225 => 86 | 224 => 87 | 267 => 88 | 266 => 94 | 314 => 95 | n => n, fun | 9 => 9 | 3 => 3 | 4 => 4 | 5 => 5 | 46 => 146 | 146 => 155 | 51 => 154 | n => n, fun | 1 => 0 | n => n⟩
theorem Try.lays219 : Go.Proofs.Lays.n219 Try.prog Try.lays219_ren := {
  mixed := by kernel_rfl
  f217 := Try.func85.trans (congrArg some (by kernel_rfl))
  f219 := Try.func79.trans (congrArg some (by kernel_rfl))
  f224 := Try.func87.trans (congrArg some (by kernel_rfl))
  f225 := Try.func86.trans (congrArg some (by kernel_rfl))
  f266 := Try.func94.trans (congrArg some (by kernel_rfl))
  f267 := Try.func88.trans (congrArg some (by kernel_rfl))
  f314 := Try.func95.trans (congrArg some (by kernel_rfl))
  t3 := Try.underlying3
  a3 := Try.isAgg3
  z3 := Try.sizeOf3
  v3 := Try.zeroValue3
  t4 := Try.underlying4
  a4 := Try.isAgg4
  z4 := Try.sizeOf4
  v4 := Try.zeroValue4
  t5 := Try.underlying5
  a5 := Try.isAgg5
  z5 := Try.sizeOf5
  v5 := Try.zeroValue5
  t9 := Try.underlying9
  a9 := Try.isAgg9
  z9 := Try.sizeOf9
  v9 := Try.zeroValue9
  t46 := Try.underlying146
  a46 := Try.isAgg146
  z46 := Try.sizeOf146
  v46 := Try.zeroValue146
  t51 := Try.underlying154
  a51 := Try.isAgg154
  z51 := Try.sizeOf154
  v51 := Try.zeroValue154
  t146 := Try.underlying155
  a146 := Try.isAgg155
  z146 := Try.sizeOf155
  v146 := Try.zeroValue155
  g1 := by kernel_rfl }
open Go.RowKit Go.Lib in
/-- internal/stringslite.Index (what strings.Index calls) AT A substr OF ONE BYTE c: IT RETURNS 'Lib.indexByte s c'; the world is as it was. (LAID: no walk: one application.) -/
theorem Try.stringslite_Index_one (s : ByteArray) (c : UInt8) (w : World) :
    Calls Try.prog 79 #[.string s, .string ⟨#[c]⟩] w fun e w' => e = .returned (.int .i64 (Lib.indexByte s.data.toList c)) ∧ w' = w := Any.stringslite_Index_one Try.lays219 s c w
def Try.lays144_ren : Go.Shelf.Ren := ⟨fun | 144 => 72 | 143 => 80 | 219 => 79 | 217 => 85 | 225 => 86 | 224 => 87 | 267 => 88 | 266 => 94 | 314 => 95 | n => n, fun | 9 => 9 | 4 => 4 | 3 => 3 | 5 => 5 | 46 => 146 | 146 => 155 | 51 => 154 | n => n, fun | 1 => 0 | n => n⟩
theorem Try.lays144 : Go.Proofs.Lays.n144 Try.prog Try.lays144_ren := {
  mixed := by kernel_rfl
  f143 := Try.func80.trans (congrArg some (by kernel_rfl))
  f144 := Try.func72.trans (congrArg some (by kernel_rfl))
  f217 := Try.func85.trans (congrArg some (by kernel_rfl))
  f219 := Try.func79.trans (congrArg some (by kernel_rfl))
  f224 := Try.func87.trans (congrArg some (by kernel_rfl))
  f225 := Try.func86.trans (congrArg some (by kernel_rfl))
  f266 := Try.func94.trans (congrArg some (by kernel_rfl))
  f267 := Try.func88.trans (congrArg some (by kernel_rfl))
  f314 := Try.func95.trans (congrArg some (by kernel_rfl))
  t3 := Try.underlying3
  a3 := Try.isAgg3
  z3 := Try.sizeOf3
  v3 := Try.zeroValue3
  t4 := Try.underlying4
  a4 := Try.isAgg4
  z4 := Try.sizeOf4
  v4 := Try.zeroValue4
  t5 := Try.underlying5
  a5 := Try.isAgg5
  z5 := Try.sizeOf5
  v5 := Try.zeroValue5
  t9 := Try.underlying9
  a9 := Try.isAgg9
  z9 := Try.sizeOf9
  v9 := Try.zeroValue9
  t46 := Try.underlying146
  a46 := Try.isAgg146
  z46 := Try.sizeOf146
  v46 := Try.zeroValue146
  t51 := Try.underlying154
  a51 := Try.isAgg154
  z51 := Try.sizeOf154
  v51 := Try.zeroValue154
  t146 := Try.underlying155
  a146 := Try.isAgg155
  z146 := Try.sizeOf155
  v146 := Try.zeroValue155
  g1 := by kernel_rfl }
open Go.RowKit Go.Lib in
/-- strings.Contains: "Contains reports whether substr is within s.": AT A substr OF ONE BYTE c: IT RETURNS 'decide (0 ≤ Lib.indexByte s c)'; the world is as it was. (LAID: no walk: one application.) -/
theorem Try.strings_Contains_one (s : ByteArray) (c : UInt8) (w : World) :
    Calls Try.prog 72 #[.string s, .string ⟨#[c]⟩] w fun e w' => e = .returned (.bool (decide (0 ≤ Lib.indexByte s.data.toList c))) ∧ w' = w := Any.strings_Contains_one Try.lays144 s c w
def Try.lays105_ren : Go.Shelf.Ren := ⟨fun | 105 => 84 | 212 => 89 | 99 => 90 | 165 => 91 | 166 => 92 | 170 => 93 | 169 => 53 | 263 => 96 | 264 => 97 | 206 => 98 | 240 => 99 | 241 => 100 | 276 => 101 | 277 => 102 | n => n, fun | 9 => 9 | 3 => 3 | 4 => 4 | 20 => 20 | 0 => 0 | 46 => 146 | 109 => 147 | 5 => 5 | 72 => 81 | 76 => 151 | 51 => 154 | 146 => 155 | 53 => 158 | 148 => 159 | 70 => 79 | 37 => 22 | 75 => 150 | 127 => 116 | 164 => 161 | 80 => 90 | n => n, fun | n => n⟩
theorem Try.lays105 : Go.Proofs.Lays.n105 Try.prog Try.lays105_ren := {
  mixed := by kernel_rfl
  f99 := Try.func90.trans (congrArg some (by kernel_rfl))
  f105 := Try.func84.trans (congrArg some (by kernel_rfl))
  f165 := Try.func91.trans (congrArg some (by kernel_rfl))
  f166 := Try.func92.trans (congrArg some (by kernel_rfl))
  f169 := Try.func53.trans (congrArg some (by kernel_rfl))
  f170 := Try.func93.trans (congrArg some (by kernel_rfl))
  f206 := Try.func98.trans (congrArg some (by kernel_rfl))
  f212 := Try.func89.trans (congrArg some (by kernel_rfl))
  f240 := Try.func99.trans (congrArg some (by kernel_rfl))
  f241 := Try.func100.trans (congrArg some (by kernel_rfl))
  f263 := Try.func96.trans (congrArg some (by kernel_rfl))
  f264 := Try.func97.trans (congrArg some (by kernel_rfl))
  f276 := Try.func101.trans (congrArg some (by kernel_rfl))
  f277 := Try.func102.trans (congrArg some (by kernel_rfl))
  t0 := Try.underlying0
  a0 := Try.isAgg0
  z0 := Try.sizeOf0
  v0 := Try.zeroValue0
  t3 := Try.underlying3
  a3 := Try.isAgg3
  z3 := Try.sizeOf3
  v3 := Try.zeroValue3
  t4 := Try.underlying4
  a4 := Try.isAgg4
  z4 := Try.sizeOf4
  v4 := Try.zeroValue4
  t5 := Try.underlying5
  a5 := Try.isAgg5
  z5 := Try.sizeOf5
  v5 := Try.zeroValue5
  t9 := Try.underlying9
  a9 := Try.isAgg9
  z9 := Try.sizeOf9
  v9 := Try.zeroValue9
  t20 := Try.underlying20
  a20 := Try.isAgg20
  z20 := Try.sizeOf20
  v20 := Try.zeroValue20
  t37 := Try.underlying22
  a37 := Try.isAgg22
  z37 := Try.sizeOf22
  v37 := Try.zeroValue22
  t46 := Try.underlying146
  a46 := Try.isAgg146
  z46 := Try.sizeOf146
  v46 := Try.zeroValue146
  t51 := Try.underlying154
  a51 := Try.isAgg154
  z51 := Try.sizeOf154
  v51 := Try.zeroValue154
  t53 := Try.underlying158
  a53 := Try.isAgg158
  z53 := Try.sizeOf158
  v53 := Try.zeroValue158
  t70 := Try.underlying79
  a70 := Try.isAgg79
  z70 := Try.sizeOf79
  v70 := Try.zeroValue79
  t72 := Try.underlying81
  a72 := Try.isAgg81
  z72 := Try.sizeOf81
  v72 := Try.zeroValue81
  t75 := Try.underlying150
  a75 := Try.isAgg150
  z75 := Try.sizeOf150
  v75 := Try.zeroValue150
  t76 := Try.underlying151
  a76 := Try.isAgg151
  z76 := Try.sizeOf151
  v76 := Try.zeroValue151
  t109 := Try.underlying147
  a109 := Try.isAgg147
  z109 := Try.sizeOf147
  v109 := Try.zeroValue147
  t127 := Try.underlying116
  a127 := Try.isAgg116
  z127 := Try.sizeOf116
  v127 := Try.zeroValue116
  t146 := Try.underlying155
  a146 := Try.isAgg155
  z146 := Try.sizeOf155
  v146 := Try.zeroValue155
  t148 := Try.underlying159
  a148 := Try.isAgg159
  z148 := Try.sizeOf159
  v148 := Try.zeroValue159
  t164 := Try.underlying161
  a164 := Try.isAgg161
  z164 := Try.sizeOf161
  v164 := Try.zeroValue161 }
theorem Try.Builder_Extra_105 : Builder.Extra Try.prog Try.lays105_ren := {
  sizeBuilder := by kernel_rfl
  liesBuilder := by kernel_rfl
  t5 := Try.underlying5
  a5 := Try.isAgg5
  z5 := Try.sizeOf5
  v5 := Try.zeroValue5
  infoByte := by kernel_rfl
  cellsByte := by kernel_rfl
  sizeByte := by kernel_rfl
  neB5 := by decide }
open Go.RowKit Go.Lib in
/-- **strings.Repeat: count ≥ 0, the result within one allocation: count copies of s.** (LAID: no walk: one application.) -/
theorem Try.strings_Repeat (s : ByteArray) (c : Nat) (w : World) (hc : c ≤ 9223372036854775807) (hlen : s.size * c ≤ 140737488355328) :
    Calls Try.prog 84 #[.string s, .int .i64 c] w fun e w' => e = .returned (.string ⟨(Lib.repeatL s.data.toList c).toArray⟩) ∧ Below w.heap.size w w' := Any.strings_Repeat Try.lays105 Try.Builder_Extra_105 s c w hc hlen
end Go.Proofs
end

section
namespace Go.Proofs.Ythmmdmnbcecooaa.A
open Go.RowKit Go.Proofs.YthmmdmnbcecooaaW.PrintWords Go.Proofs.YthmmdmnbcecooaaW.PrintLast Go.Proofs.YthmmdmnbcecooaaW.PrintMore
set_option linter.unusedVariables false
set_option linter.unusedSimpArgs false
def arityI (k : Int) : Int := if k = 0 ∨ k = 1 ∨ k = 2 then 0 else if k = 4 ∨ k = 5 ∨ k = 6 then 1 else if k = 3 then 2 else -1
theorem arity_calls (k : Int) (w : World) :
    Calls Try.prog 50 #[.int .i64 k] w fun e w' => e = .returned (.int .i64 (arityI k)) ∧ w = w' := by
  by_cases h0 : k = 0
  · subst h0
    go_enter Try.func50, Try.ntmps50
    go_wp2
    go_ret
    exact ⟨rfl, rfl⟩
  by_cases h1 : k = 1
  · subst h1
    go_enter Try.func50, Try.ntmps50
    go_wp2
    go_ret
    exact ⟨rfl, rfl⟩
  by_cases h2 : k = 2
  · subst h2
    go_enter Try.func50, Try.ntmps50
    go_wp2
    go_ret
    exact ⟨rfl, rfl⟩
  by_cases h3 : k = 3
  · subst h3
    go_enter Try.func50, Try.ntmps50
    go_wp2
    go_ret
    exact ⟨rfl, rfl⟩
  by_cases h4 : k = 4
  · subst h4
    go_enter Try.func50, Try.ntmps50
    go_wp2
    go_ret
    exact ⟨rfl, rfl⟩
  by_cases h5 : k = 5
  · subst h5
    go_enter Try.func50, Try.ntmps50
    go_wp2
    go_ret
    exact ⟨rfl, rfl⟩
  by_cases h6 : k = 6
  · subst h6
    go_enter Try.func50, Try.ntmps50
    go_wp2
    go_ret
    exact ⟨rfl, rfl⟩
  have b0 : (k == 0) = false := beq_eq_false_iff_ne.2 h0
  have b1 : (k == 1) = false := beq_eq_false_iff_ne.2 h1
  have b2 : (k == 2) = false := beq_eq_false_iff_ne.2 h2
  have b3 : (k == 3) = false := beq_eq_false_iff_ne.2 h3
  have b4 : (k == 4) = false := beq_eq_false_iff_ne.2 h4
  have b5 : (k == 5) = false := beq_eq_false_iff_ne.2 h5
  have b6 : (k == 6) = false := beq_eq_false_iff_ne.2 h6
  have hv : arityI k = -1 := by unfold arityI; simp [h0, h1, h2, h3, h4, h5, h6]
  have HV := Aside0.mk hv
  clear hv h0 h1 h2 h3 h4 h5 h6
  go_enter Try.func50, Try.ntmps50
  go_wp2
  go_ret
  exact ⟨by rw [HV.out]; rfl, rfl⟩
def fieldsB (x : S42) : Bool :=
  !((!x.f1.data.toList.isEmpty && !(x.f0 == 0 || x.f0 == 1)) || decide (0 ≤ Lib.indexByte x.f1.data.toList 10) || ((x.f2 != 0) && (x.f0 != 4)) || decide (x.f2 < 0) || decide (x.f2 > 1000))
theorem fields_calls (k : Int) (s : ByteArray) (n a b : Int) (w : World) :
    Calls Try.prog 58 #[.agg #[.int .i64 k, .string s, .int .i64 n, .int .i64 a, .int .i64 b]] w fun e w' => e = .returned (.bool (fieldsB ⟨k, s, n, a, b⟩)) ∧ w' = w.alloc (.cells #[.int .i64 k, .string s, .int .i64 n, .int .i64 a, .int .i64 b] 42) := by
  go_enter Try.func58, Try.ntmps58
  go_wp2_with (go_at_call 72; refine (Try.strings_Contains_one _ _ _).mono ?_; rintro e w' ⟨rfl, rfl⟩)
  all_goals
    go_ret
    refine ⟨?_, by first | rfl | simp [*]⟩
    try (simp_all [fieldsB, ByteArray.toList_eq]; done)
  all_goals trace_state
end Go.Proofs.Ythmmdmnbcecooaa.A
end

section
namespace Go.Proofs.Ythmmdmnbcecooaa.A
open Go.RowKit Go.Proofs.YthmmdmnbcecooaaW.PrintWords Go.Proofs.YthmmdmnbcecooaaW.PrintLast Go.Proofs.YthmmdmnbcecooaaW.PrintMore
set_option linter.unusedVariables false
set_option linter.unusedSimpArgs false
def useF (us : List Bool) (needed : Bool) (i at_ : Int) : Bool :=
  if needed then decide (0 ≤ i) && decide (i < at_) && !(us.getD i.toNat false) else decide (i = 0)
def useL (us : List Bool) (needed : Bool) (i at_ : Int) : List Bool :=
  if needed && useF us needed i at_ then us.set i.toNat true else us
theorem useL_length (us : List Bool) (needed : Bool) (i at_ : Int) : (useL us needed i at_).length = us.length := by
  unfold useL; split <;> simp
/-- The variable 'used' at block gu, its row at block gb. -/
structure UseSt (B gu gb : Nat) (us : List Bool) (W : World) : Prop where
  hu : W.heap[gu]? = some (.cells #[.slice (some ⟨gb, 0, none⟩) us.length us.length] 23 (0, 0))
  hb : W.heap[gb]? = some (.cells (bools us).toArray 4 (0, 0))
  ne : gu ≠ gb
  lu : B ≤ gu
  lb : B ≤ gb
theorem UseSt.lt_u {B gu gb : Nat} {us : List Bool} {W : World} (h : UseSt B gu gb us W) : gu < W.heap.size := blk_lt h.hu
theorem UseSt.alloc {B gu gb : Nat} {us : List Bool} {W : World} (h : UseSt B gu gb us W) (o : Obj) : UseSt B gu gb us (W.alloc o) :=
  ⟨blk_alloc h.hu o, blk_alloc h.hb o, h.ne, h.lu, h.lb⟩
theorem UseSt.set {B gu gb : Nat} {us : List Bool} {W : World} (h : UseSt B gu gb us W) (i : Nat) : UseSt B gu gb (us.set i true) (W.setCell ⟨gb, i, none⟩ (.bool true)) := by
  refine ⟨?_, ?_, h.ne, h.lu, h.lb⟩
  · have := blk_far h.hu (p := ⟨gb, i, none⟩) h.ne (.bool true)
    simpa using this
  · have := blk_set h.hb i (.bool true)
    rw [this]
    simp [bools, List.map_set]
theorem use_calls (B gu gb : Nat) (us : List Bool) (needed : Bool) (i at_ : Int) (w : World) (h : UseSt B gu gb us w) (hat : at_ ≤ us.length) :
    Calls Try.prog 57 #[.bool needed, .int .i64 i, .int .i64 at_, .pointer (some ⟨gu, 0, none⟩)] w fun e w' =>
      e = .returned (.bool (useF us needed i at_)) ∧ UseSt B gu gb (useL us needed i at_) w' ∧ Below B w w' ∧ w'.heap.size = w.heap.size ∧ ∀ b, b ≠ gb → w'.heap[b]? = w.heap[b]? := by
  have hcu : w.cell? ⟨gu, 0, none⟩ = some (.slice (some ⟨gb, 0, none⟩) us.length us.length) := (blk_cell h.hu 0).trans rfl
  have HS := Aside0.mk h
  have HR := Aside0.mk (Below.refl B w)
  clear h
  cases needed with
  | false =>
    go_enter Try.func57, Try.ntmps57
    go_wp2
    go_ret
    exact ⟨by simp [useF]; rfl, by simpa [useL] using HS.out, HR.out, rfl, fun _ _ => rfl⟩
  | true =>
    by_cases h0 : i < 0
    · have HV := Aside0.mk (show useF us true i at_ = false by unfold useF; simp; intro; omega)
      go_enter Try.func57, Try.ntmps57
      go_wp2
      go_ret
      exact ⟨by rw [HV.out]; rfl, by simpa [useL, HV.out] using HS.out, HR.out, rfl, fun _ _ => rfl⟩
    by_cases h1 : at_ ≤ i
    · have HV := Aside0.mk (show useF us true i at_ = false by unfold useF; simp; intro; omega)
      go_enter Try.func57, Try.ntmps57
      go_wp2
      go_ret
      exact ⟨by rw [HV.out]; rfl, by simpa [useL, HV.out] using HS.out, HR.out, rfl, fun _ _ => rfl⟩
    obtain ⟨j, rfl⟩ : ∃ j : Nat, i = j := ⟨i.toNat, by omega⟩
    have hj : j < us.length := by omega
    have hcb : w.cell? ⟨gb, j, none⟩ = some (.bool (us.getD j false)) := by
      rw [blk_cell HS.out.hb]
      simp [bools, hj]
    have hfz : w.frozen? ⟨gb, j, none⟩ = false := blk_frozen HS.out.hb j
    cases hv : us.getD j false with
    | true =>
      rw [hv] at hcb
      have HV := Aside0.mk (show useF us true (j : Int) at_ = false by unfold useF; simp at hv ⊢; intro; simp [hv])
      clear hv
      go_enter Try.func57, Try.ntmps57
      go_wp2
      go_ret
      exact ⟨by rw [HV.out]; rfl, by simpa [useL, HV.out] using HS.out, HR.out, rfl, fun _ _ => rfl⟩
    | false =>
      rw [hv] at hcb
      have HV := Aside0.mk (show useF us true (j : Int) at_ = true by unfold useF; simp at hv ⊢; simp [hv]; omega)
      clear hv
      go_enter Try.func57, Try.ntmps57
      go_wp2
      go_ret
      exact ⟨by rw [HV.out]; rfl, by simpa [useL, HV.out] using HS.out.set j, HR.out.setCell (p := ⟨gb, j, none⟩) HS.out.lb _, by simp [World.setCell], fun b hb => Below.heap_setCell w ⟨gb, j, none⟩ _ b hb⟩
end Go.Proofs.Ythmmdmnbcecooaa.A
end

section
namespace Go.Proofs.Ythmmdmnbcecooaa.A
open Go.RowKit Go.Proofs.YthmmdmnbcecooaaW.PrintWords Go.Proofs.YthmmdmnbcecooaaW.PrintLast Go.Proofs.YthmmdmnbcecooaaW.PrintMore
set_option linter.unusedVariables false
set_option linter.unusedSimpArgs false
/-- One node of document.Check: the new flags, or none. -/
def nodeStep (x : S42) (at_ : Int) (us : List Bool) : Option (List Bool) :=
  if arityI x.f0 < 0 then none else if fieldsB x = false then none
  else if useF us (decide (0 < arityI x.f0)) x.f3 at_ = false then none
  else if useF (useL us (decide (0 < arityI x.f0)) x.f3 at_) (decide (1 < arityI x.f0)) x.f4 at_ = false then none
  else some (useL (useL us (decide (0 < arityI x.f0)) x.f3 at_) (decide (1 < arityI x.f0)) x.f4 at_)
def scanFrom (l : List S42) : Nat → Nat → List Bool → Option (List Bool)
  | 0, _, us => some us
  | d + 1, i, us => (nodeStep (l.getD i z42) i us).bind (scanFrom l d (i + 1))
def checkI (l : List S42) : Int :=
  if l.length > 65536 then 2 else
  match scanFrom l l.length 0 (List.replicate l.length false) with
  | none => 250
  | some us => if (us.take (l.length - 1)).all id then (if l.length = 0 then 250 else 0) else 250
def document_Check.f (l0 : List S42) : Option Int := some (checkI l0)
theorem use_start (w : World) (n : Nat) : UseSt w.heap.size (w.heap.size + 1) w.heap.size (List.replicate n false) ((w.alloc (Obj.cells (madeCells #[Value.bool false] n) 4)).alloc (Obj.cells #[Value.slice (some { block := w.heap.size, off := 0 }) n n] 23)) := by
  have hl : (madeCells #[Value.bool false] n) = (bools (List.replicate n false)).toArray := by
    apply Array.ext
    · simp [madeCells, bools]
    · intro i h1 h2
      simp [madeCells, bools, Nat.mod_one]
  refine ⟨?_, ?_, by omega, by omega, by omega⟩
  · have := heap_alloc_new (w.alloc (Obj.cells (madeCells #[Value.bool false] n) 4)) (Obj.cells #[Value.slice (some { block := w.heap.size, off := 0 }) n n] 23)
    simpa using this
  · refine blk_alloc ?_ _
    rw [hl]
    exact heap_alloc_new w _
theorem check_bad {l : List S42} (h : l.length ≤ 65536) (hn : scanFrom l l.length 0 (List.replicate l.length false) = none) : checkI l = 250 := by
  unfold checkI
  rw [if_neg (by omega), hn]
theorem check_unused {l : List S42} (h : l.length ≤ 65536) {us : List Bool} (hn : scanFrom l l.length 0 (List.replicate l.length false) = some us) (hu : (us.take (l.length - 1)).all id = false) : checkI l = 250 := by
  unfold checkI
  rw [if_neg (by omega), hn]
  simp [hu]
theorem check_good {l : List S42} (h : l.length ≤ 65536) (hp : 0 < l.length) {us : List Bool} (hn : scanFrom l l.length 0 (List.replicate l.length false) = some us) (hu : (us.take (l.length - 1)).all id = true) : checkI l = 0 := by
  unfold checkI
  rw [if_neg (by omega), hn]
  simp only [hu, if_true]
  rw [if_neg (by omega)]
theorem nodeStep_some {k : Int} {s : ByteArray} {n a b at_ : Int} {us : List Bool} (h1 : ¬ arityI k < 0) (h2 : fieldsB ⟨k, s, n, a, b⟩ = true) (h3 : useF us (decide (0 < arityI k)) a at_ = true) (h4 : useF (useL us (decide (0 < arityI k)) a at_) (decide (1 < arityI k)) b at_ = true) :
    nodeStep ⟨k, s, n, a, b⟩ at_ us = some (useL (useL us (decide (0 < arityI k)) a at_) (decide (1 < arityI k)) b at_) := by
  unfold nodeStep
  rw [if_neg h1, if_neg (by rw [h2]; decide), if_neg (by rw [h3]; decide), if_neg (by rw [h4]; decide)]
theorem checkI_big {l : List S42} (h : 65536 < l.length) : checkI l = 2 := if_pos h
theorem cells42 {w : World} {ad : Addr} {n : Nat} {xs : List S42} (h : Kd.C k42 w (some ad) n xs) {k n' a b : Int} {s : ByteArray} {i : Nat} (h1 : i < n) (hx : xs.getD i z42 = ⟨k, s, n', a, b⟩) {W : World} (hb : Below w.heap.size w W) :
    W.cell? (ad.add (i * 5)) = some (.int .i64 k) ∧ W.cell? ⟨(ad.add (i * 5)).block, (ad.add (i * 5)).off + 1, none⟩ = some (.string s) ∧ W.cell? ⟨(ad.add (i * 5)).block, (ad.add (i * 5)).off + 2, none⟩ = some (.int .i64 n') ∧
    W.cell? ⟨(ad.add (i * 5)).block, (ad.add (i * 5)).off + 3, none⟩ = some (.int .i64 a) ∧ W.cell? ⟨(ad.add (i * 5)).block, (ad.add (i * 5)).off + 4, none⟩ = some (.int .i64 b) := by
  obtain ⟨ad', eA, k0, k1, k2, k3, k4⟩ := at_T42 h i (by omega) (by omega)
  obtain rfl := Option.some.inj eA
  have hr : rd_T42 xs i = ⟨k, s, n', a, b⟩ := hx
  rw [hr] at k0 k1 k2 k3 k4
  exact ⟨pw_cell_below hb k0, pw_cell_below hb k1, pw_cell_below hb k2, pw_cell_below hb k3, pw_cell_below hb k4⟩
set_option maxRecDepth 100000 in
theorem check_calls_pos (ad : Addr) (c0 : Nat) (l0 : List S42) (w : World) (hpos : 0 < l0.length) (hlen : l0.length ≤ 65536) (hr0 : Kd.C k42 w (some ad) l0.length l0) (hc0 : l0.length ≤ c0) :
    Calls Try.prog 30 #[.slice (some ad) l0.length c0] w fun e w' => e = .returned (.int .i64 (checkI l0)) ∧ Below w.heap.size w w' := by
  have hu42 := Try.underlying42
  have HR0 := Aside0.mk hr0
  clear hr0
  have hd : decide (65536 < l0.length) = false := decide_eq_false (by omega)
  obtain ⟨R, hR⟩ : ∃ R, scanFrom l0 l0.length 0 (List.replicate l0.length false) = R := ⟨_, rfl⟩
  have HRR := Aside0.mk hR
  clear hR
  have hmk := print_make_of (P := Try.prog) 23 4 (.bool false) 1 Try.underlying23 info4 rfl (by decide) l0.length (by omega)
  go_enter Try.func30, Try.ntmps30
  go_wp2_with fail
  go_loopg [18] l0.length (fun d v18 W => ∃ (i : Nat) (us : List Bool), v18 = .int .i64 i ∧ Aside0 (i + d = l0.length) ∧ Aside0 (us.length = l0.length) ∧ Aside0 (scanFrom l0 d i us = R) ∧ Aside0 (UseSt w.heap.size (w.heap.size + 1) w.heap.size us W) ∧ Aside0 (Below w.heap.size w W))
  case atStart =>
    exact ⟨0, List.replicate l0.length false, rfl, ⟨by simp⟩, ⟨by simp⟩, HRR, ⟨use_start w l0.length⟩, ⟨((Below.refl _ _).alloc (Nat.le_refl _) _).alloc (by simp) _⟩⟩
  case round =>
    obtain ⟨i, us, rfl, HI, HL, HS, HU, HB⟩ := hrel
    by_cases hlt : i < l0.length
    · obtain ⟨k, s, n, a, b, hx⟩ : ∃ k s n a b, l0.getD i z42 = ⟨k, s, n, a, b⟩ := ⟨_, _, _, _, _, rfl⟩
      obtain ⟨k0, k1, k2, k3, k4⟩ := cells42 HR0.out hlt hx HB.out
      have HX := Aside0.mk hx
      clear hx
      have hstep : ∃ d', gk = d' + 1 ∧ (nodeStep ⟨k, s, n, a, b⟩ (i : Int) us).bind (scanFrom l0 d' (i + 1)) = R := by
        have h1 := HI.out
        obtain ⟨d', rfl⟩ : ∃ d', gk = d' + 1 := ⟨gk - 1, by omega⟩
        refine ⟨d', rfl, ?_⟩
        have h2 := HS.out
        simp only [scanFrom, HX.out] at h2
        exact h2
      obtain ⟨d', hgk, hstep⟩ := hstep
      have HD := Aside0.mk hgk
      have HST := Aside0.mk hstep
      clear hgk hstep HS
      by_cases p1 : arityI k < 0
      · have HF := Aside0.mk (check_bad (l := l0) hlen (by rw [HRR.out, ← HST.out]; simp [nodeStep, p1]))
        go_wp2_with (first | (go_at_call 50; refine (arity_calls _ _).mono ?_; rintro e w' ⟨rfl, rfl⟩) | (go_at_call 58; refine (fields_calls _ _ _ _ _ _).mono ?_; rintro e w' ⟨rfl, rfl⟩))
        go_ret
        exact ⟨by rw [HF.out]; rfl, by exact HB.out.alloc (by have := HB.out.size; omega) _⟩
      have p1' : 0 ≤ arityI k := by omega
      cases p2 : fieldsB ⟨k, s, n, a, b⟩ with
      | false =>
        have HF := Aside0.mk (check_bad (l := l0) hlen (by rw [HRR.out, ← HST.out]; simp [nodeStep, p1, p2]))
        go_wp2_with (first | (go_at_call 50; refine (arity_calls _ _).mono ?_; rintro e w' ⟨rfl, rfl⟩) | (go_at_call 58; refine (fields_calls _ _ _ _ _ _).mono ?_; rintro e w' ⟨rfl, rfl⟩))
        go_ret
        exact ⟨by rw [HF.out]; rfl, by exact (HB.out.alloc (by have := HB.out.size; omega) _).alloc (by have := HB.out.size; simp; omega) _⟩
      | true =>
        go_wp2_with (first | (go_at_call 50; refine (arity_calls _ _).mono ?_; rintro e w' ⟨rfl, rfl⟩) | (go_at_call 58; refine (fields_calls _ _ _ _ _ _).mono ?_; rintro e w' ⟨rfl, rfl⟩))
        have hsz := HB.out.size
        refine (use_calls w.heap.size (w.heap.size + 1) w.heap.size us _ _ _ _ ((HU.out.alloc _).alloc _) (by have := HL.out; omega)).mono ?_
        rintro e w1 ⟨rfl, hU1, hB1, hs1, hk1⟩
        have HB1 := Aside0.mk (((HB.out.alloc (by omega) _).alloc (by simp; omega) _).trans hB1)
        have HU1 := Aside0.mk hU1
        have hblk : w1.heap[wr.heap.size]? = some (.cells #[.int .i64 k, .string s, .int .i64 n, .int .i64 a, .int .i64 b] 42 (0, 0)) := by
          rw [hk1 _ (by have := HU.out.lt_u; omega)]
          exact blk_alloc (heap_alloc_new wr _) _
        have m4 : w1.cell? ⟨wr.heap.size, 4, none⟩ = some (.int .i64 b) := (blk_cell hblk 4).trans rfl
        have hs1' : w.heap.size ≤ w1.heap.size := by rw [hs1]; simp; omega
        clear hU1 hB1 hs1 hk1 hblk
        cases p3 : useF us (decide (0 < arityI k)) a i with
        | false =>
          have HF := Aside0.mk (check_bad (l := l0) hlen (by rw [HRR.out, ← HST.out]; simp [nodeStep, p1, p2, p3]))
          go_wp2_with fail
          go_ret
          exact ⟨by rw [HF.out]; rfl, HB1.out⟩
        | true =>
          have HP := Aside0.mk (And.intro p1 (And.intro p2 p3))
          clear p1 p2
          go_wp2_with fail
          refine (use_calls w.heap.size (w.heap.size + 1) w.heap.size _ _ _ _ _ HU1.out (by rw [useL_length]; have := HL.out; omega)).mono ?_
          rintro e w2 ⟨rfl, hU2, hB2, hs2, hk2⟩
          have HB2 := Aside0.mk (HB1.out.trans hB2)
          have HU2 := Aside0.mk hU2
          clear hU2 hB2 hs2 hk2
          cases p4 : useF (useL us (decide (0 < arityI k)) a i) (decide (1 < arityI k)) b i with
          | false =>
            have HF := Aside0.mk (check_bad (l := l0) hlen (by rw [HRR.out, ← HST.out]; simp [nodeStep, HP.out.1, HP.out.2.1, HP.out.2.2, p4]))
            go_wp2_with fail
            go_ret
            exact ⟨by rw [HF.out]; rfl, HB2.out⟩
          | true =>
            go_wp2_with fail
            go_roundg d'
            case measure => have := HD.out; omega
            case rel =>
              refine ⟨i + 1, useL (useL us (decide (0 < arityI k)) a i) (decide (1 < arityI k)) b i, by go_num, ⟨by have := HI.out; have := HD.out; omega⟩, ⟨by rw [useL_length, useL_length]; exact HL.out⟩, ⟨?_⟩, HU2, HB2⟩
              rw [← HST.out, nodeStep_some (by have := HP.out.1; omega) HP.out.2.1 HP.out.2.2 p4]; rfl
    · have hi : i = l0.length ∧ gk = 0 := by have := HI.out; omega
      obtain ⟨hi1, hi2⟩ := hi
      have HR1 := Aside0.mk (show some us = R by have h2 := HS.out; rw [hi2] at h2; exact h2)
      clear hi1 hi2 HS
      go_wp2_with fail
      go_loopg [57] (l0.length - 1) (fun d v57 W => ∃ (j : Nat), v57 = .int .i64 j ∧ Aside0 (j + d = l0.length - 1) ∧ Aside0 ((us.take j).all id = true) ∧ Aside0 (UseSt w.heap.size (w.heap.size + 1) w.heap.size us W) ∧ Aside0 (Below w.heap.size w W))
      case atStart => exact ⟨0, rfl, ⟨by simp⟩, ⟨rfl⟩, HU, HB⟩
      case round =>
        clear HU HB
        obtain ⟨j, rfl, HJ, HA, HU, HB⟩ := hrel
        have hcu := (blk_cell HU.out.hu 0).trans rfl
        by_cases hj : (j : Int) < l0.length - 1
        · have hj' : j < us.length := by have := HL.out; omega
          have hcb : wr.cell? ⟨w.heap.size, j, none⟩ = some (.bool (us.getD j false)) := by
            rw [blk_cell HU.out.hb]
            simp [bools, hj']
          have HL' := HL.out
          cases hv : us.getD j false with
          | false =>
            have HF := Aside0.mk (show checkI l0 = 250 by
              refine check_unused hlen (us := us) (by rw [HRR.out, HR1.out]) ?_
              have hm : us.getD j false ∈ us.take (l0.length - 1) := by
                have := HJ.out
                rw [List.getD_eq_getElem?_getD, List.getElem?_eq_getElem hj']
                exact List.mem_take_iff_getElem.2 ⟨j, by omega, rfl⟩
              rw [hv] at hm
              rw [List.all_eq_false]
              exact ⟨false, hm, by simp⟩)
            rw [hv] at hcb
            clear hv hj'
            go_wp2_with fail
            go_ret
            exact ⟨by rw [HF.out]; rfl, HB.out⟩
          | true =>
            rw [hv] at hcb
            have HA2 := Aside0.mk (show (us.take (j + 1)).all id = true by
              rw [List.take_succ_eq_append_getElem hj', List.all_append, HA.out]
              rw [List.getD_eq_getElem?_getD, List.getElem?_eq_getElem hj'] at hv
              simpa using hv)
            clear hv
            go_wp2_with fail
            go_roundg (l0.length - 1 - (j + 1))
            case measure => have := HJ.out; omega
            case rel => exact ⟨j + 1, by go_num, ⟨by have := HJ.out; omega⟩, HA2, HU, HB⟩
        · have HF := Aside0.mk (show checkI l0 = 0 by
            refine check_good hlen hpos (us := us) (by rw [HRR.out, HR1.out]) ?_
            have h1 := HJ.out
            rw [show l0.length - 1 = j by omega]
            exact HA.out)
          have hz : ((l0.length : Int) == 0) = false := beq_eq_false_iff_ne.2 (by omega)
          go_wp2_with fail
          go_ret
          exact ⟨by rw [HF.out]; rfl, HB.out⟩
set_option maxRecDepth 100000 in
theorem check_calls_zero (A0 : Option Addr) (c0 : Nat) (w : World) :
    Calls Try.prog 30 #[.slice A0 0 c0] w fun e w' => e = .returned (.int .i64 250) ∧ Below w.heap.size w w' := by
  have hmk := print_make_of (P := Try.prog) 23 4 (.bool false) 1 Try.underlying23 info4 rfl (by decide) 0 (by omega)
  simp only [show ((0 : Nat) : Int) = 0 from rfl] at hmk
  go_enter Try.func30, Try.ntmps30
  go_wp2_with fail
  refine wp_loop_rounds 1 ?_
  rw [rounds_succ]
  go_wp2_with fail
  refine wp_loop_rounds 1 ?_
  rw [rounds_succ]
  go_wp2_with fail
  go_ret
  exact ⟨rfl, ((Below.refl _ _).alloc (Nat.le_refl _) _).alloc (by simp) _⟩
set_option maxRecDepth 100000 in
theorem check_calls_big (A0 : Option Addr) (c0 : Nat) (l0 : List S42) (w : World) (hbig : 65536 < l0.length) :
    Calls Try.prog 30 #[.slice A0 l0.length c0] w fun e w' => e = .returned (.int .i64 2) ∧ Below w.heap.size w w' := by
  have hd : decide (65536 < l0.length) = true := decide_eq_true hbig
  have HB := Aside0.mk (Below.refl w.heap.size w)
  go_enter Try.func30, Try.ntmps30
  go_wp2
  go_ret
  exact ⟨rfl, HB.out⟩
theorem document_Check.calls (A0 : Option Addr) (c0 : Nat) (l0 : List (S42)) (r : Int) (w : World) (hr0 : Kd.C k42 w A0 l0.length l0) (hc0 : l0.length ≤ c0) (h : document_Check.f l0 = some r) :
    Calls Try.prog 30 #[.slice A0 l0.length c0] w fun e w' => e = .returned (.int .i64 r) ∧ Below w.heap.size w w' := by
  obtain rfl := Option.some.inj h
  by_cases hbig : 65536 < l0.length
  · rw [checkI_big hbig]
    exact check_calls_big A0 c0 l0 w hbig
  rcases Nat.eq_zero_or_pos l0.length with h0 | hpos
  · obtain rfl := List.eq_nil_of_length_eq_zero h0
    exact check_calls_zero A0 c0 w
  · obtain ⟨ad, rfl, _⟩ := at_T42 hr0 0 (by omega) (by omega)
    exact check_calls_pos ad c0 l0 w hpos (by omega) hr0 hc0
end Go.Proofs.Ythmmdmnbcecooaa.A
end

section
namespace Go.Proofs.Ythmmdmnbcecooaa.A
open Go.RowKit Go.Proofs.YthmmdmnbcecooaaW.PrintWords Go.Proofs.YthmmdmnbcecooaaW.PrintLast Go.Proofs.YthmmdmnbcecooaaW.PrintMore
set_option linter.unusedVariables false
set_option linter.unusedSimpArgs false
/-- A document as a tree; a group bears its node's index. -/
inductive Doc where
  | text (s : ByteArray)
  | line (s : ByteArray)
  | hard
  | seq (a b : Doc)
  | nest (n : Int) (a : Doc)
  | align (a : Doc)
  | group (i : Nat) (a : Doc)
def docOf (l : List S42) : Nat → Nat → Doc
  | 0, _ => .hard
  | k + 1, i =>
    if (l.getD i z42).f0 = 0 then .text (l.getD i z42).f1
    else if (l.getD i z42).f0 = 1 then .line (l.getD i z42).f1
    else if (l.getD i z42).f0 = 2 then .hard
    else if (l.getD i z42).f0 = 3 then .seq (docOf l k (l.getD i z42).f3.toNat) (docOf l k (l.getD i z42).f4.toNat)
    else if (l.getD i z42).f0 = 4 then .nest (l.getD i z42).f2 (docOf l k (l.getD i z42).f3.toNat)
    else if (l.getD i z42).f0 = 5 then .align (docOf l k (l.getD i z42).f3.toNat)
    else .group i (docOf l k (l.getD i z42).f3.toNat)
/-- What a valid node at index i says. -/
structure NodeOk (i : Nat) (x : S42) : Prop where
  kind : 0 ≤ x.f0 ∧ x.f0 ≤ 6
  a : 3 ≤ x.f0 → 0 ≤ x.f3 ∧ x.f3 < i
  b : x.f0 = 3 → 0 ≤ x.f4 ∧ x.f4 < i
  a0 : x.f0 < 3 → x.f3 = 0
  b0 : x.f0 ≠ 3 → x.f4 = 0
  n : 0 ≤ x.f2 ∧ x.f2 ≤ 1000
  n0 : x.f0 ≠ 4 → x.f2 = 0
  nl : Lib.indexByte x.f1.data.toList 10 < 0
  t0 : ¬ (x.f0 = 0 ∨ x.f0 = 1) → x.f1.data.toList.isEmpty = true
/-- The tree below node i. -/
def tree (l : List S42) (i : Nat) : Doc := docOf l (i + 1) i
theorem docOf_more {l : List S42} (hv : ∀ i, i < l.length → NodeOk i (l.getD i z42)) : ∀ (k i : Nat), i < k → i < l.length → docOf l k i = tree l i := by
  intro k
  induction k using Nat.strongRecOn with
  | _ k ih =>
    intro i hk hi
    obtain ⟨k, rfl⟩ : ∃ m, k = m + 1 := ⟨k - 1, by omega⟩
    have h := hv i hi
    unfold tree
    simp only [docOf]
    have key : 3 ≤ (l.getD i z42).f0 → docOf l k (l.getD i z42).f3.toNat = docOf l i (l.getD i z42).f3.toNat := fun h3 => by
      have := h.a h3
      rw [ih k (by omega) _ (by omega) (by omega)]
      by_cases hki : i = k
      · subst hki; rw [ih i (by omega) _ (by omega) (by omega)]
      · rw [ih i (by omega) _ (by omega) (by omega)]
    have key2 : (l.getD i z42).f0 = 3 → docOf l k (l.getD i z42).f4.toNat = docOf l i (l.getD i z42).f4.toNat := fun h3 => by
      have := h.b h3
      rw [ih k (by omega) _ (by omega) (by omega)]
      by_cases hki : i = k
      · subst hki; rw [ih i (by omega) _ (by omega) (by omega)]
      · rw [ih i (by omega) _ (by omega) (by omega)]
    by_cases h0 : (l.getD i z42).f0 = 0
    · rw [if_pos h0, if_pos h0]
    by_cases h1 : (l.getD i z42).f0 = 1
    · rw [if_neg h0, if_neg h0, if_pos h1, if_pos h1]
    by_cases h2 : (l.getD i z42).f0 = 2
    · rw [if_neg h0, if_neg h0, if_neg h1, if_neg h1, if_pos h2, if_pos h2]
    have hk3 : 3 ≤ (l.getD i z42).f0 := by have := h.kind; omega
    rw [if_neg h0, if_neg h0, if_neg h1, if_neg h1, if_neg h2, if_neg h2, key hk3]
    by_cases h3 : (l.getD i z42).f0 = 3
    · rw [if_pos h3, if_pos h3, key2 h3]
    · rw [if_neg h3, if_neg h3]
/-- The groups of a tree in preorder, by index. -/
def groupsI : Doc → List Nat
  | .text _ | .line _ | .hard => []
  | .seq a b => groupsI a ++ groupsI b
  | .nest _ a | .align a => groupsI a
  | .group i a => i :: groupsI a
theorem tree_text {l : List S42} {i : Nat} (h : (l.getD i z42).f0 = 0) : tree l i = .text (l.getD i z42).f1 := by
  unfold tree; simp only [docOf]; rw [if_pos h]
theorem tree_line {l : List S42} {i : Nat} (h : (l.getD i z42).f0 = 1) : tree l i = .line (l.getD i z42).f1 := by
  unfold tree; simp only [docOf]; rw [if_neg (by omega), if_pos h]
theorem tree_hard {l : List S42} {i : Nat} (h : (l.getD i z42).f0 = 2) : tree l i = .hard := by
  unfold tree; simp only [docOf]; rw [if_neg (by omega), if_neg (by omega), if_pos h]
section
variable {l : List S42} (hv : ∀ i, i < l.length → NodeOk i (l.getD i z42)) {i : Nat} (hi : i < l.length)
include hv hi
theorem tree_seq (h : (l.getD i z42).f0 = 3) : tree l i = .seq (tree l (l.getD i z42).f3.toNat) (tree l (l.getD i z42).f4.toNat) := by
  have h1 := (hv i hi).a (by omega)
  have h2 := (hv i hi).b h
  unfold tree; rw [docOf]; rw [if_neg (by omega), if_neg (by omega), if_neg (by omega), if_pos h]
  rw [docOf_more hv i _ (by omega) (by omega), docOf_more hv i _ (by omega) (by omega)]; rfl
theorem tree_nest (h : (l.getD i z42).f0 = 4) : tree l i = .nest (l.getD i z42).f2 (tree l (l.getD i z42).f3.toNat) := by
  have h1 := (hv i hi).a (by omega)
  unfold tree; rw [docOf]; rw [if_neg (by omega), if_neg (by omega), if_neg (by omega), if_neg (by omega), if_pos h]
  rw [docOf_more hv i _ (by omega) (by omega)]; rfl
theorem tree_align (h : (l.getD i z42).f0 = 5) : tree l i = .align (tree l (l.getD i z42).f3.toNat) := by
  have h1 := (hv i hi).a (by omega)
  unfold tree; rw [docOf]; rw [if_neg (by omega), if_neg (by omega), if_neg (by omega), if_neg (by omega), if_neg (by omega), if_pos h]
  rw [docOf_more hv i _ (by omega) (by omega)]; rfl
theorem tree_group (h : (l.getD i z42).f0 = 6) : tree l i = .group i (tree l (l.getD i z42).f3.toNat) := by
  have h1 := (hv i hi).a (by omega)
  unfold tree; rw [docOf]; rw [if_neg (by omega), if_neg (by omega), if_neg (by omega), if_neg (by omega), if_neg (by omega), if_neg (by omega)]
  rw [docOf_more hv i _ (by omega) (by omega)]; rfl
end
theorem nodeStep_ok {x : S42} {i : Nat} {us us' : List Bool} (h : nodeStep x i us = some us') : NodeOk i x := by
  unfold nodeStep at h
  split at h
  · cases h
  split at h
  · cases h
  split at h
  · cases h
  split at h
  · cases h
  rename_i h1 h2 h3 h4
  have hf : fieldsB x = true := by simpa using h2
  have hA : useF us (decide (0 < arityI x.f0)) x.f3 i = true := by simpa using h3
  have hB : useF (useL us (decide (0 < arityI x.f0)) x.f3 i) (decide (1 < arityI x.f0)) x.f4 i = true := by simpa using h4
  unfold fieldsB at hf
  simp only [Bool.not_eq_true', Bool.or_eq_false_iff, Bool.and_eq_false_iff, Bool.not_eq_false', decide_eq_false_iff_not, bne_eq_false_iff_eq] at hf
  obtain ⟨⟨⟨⟨f1, f2⟩, f3⟩, f4⟩, f5⟩ := hf
  have hk : 0 ≤ x.f0 ∧ x.f0 ≤ 6 := by
    unfold arityI at h1
    split at h1
    · omega
    split at h1
    · omega
    split at h1
    · omega
    · omega
  have har : (x.f0 < 3 → arityI x.f0 = 0) ∧ (x.f0 = 3 → arityI x.f0 = 2) ∧ (3 < x.f0 → arityI x.f0 = 1) := by
    unfold arityI
    refine ⟨fun h => by rw [if_pos (by omega)], fun h => by rw [if_neg (by omega), if_neg (by omega), if_pos h], fun h => by rw [if_neg (by omega), if_pos (by omega)]⟩
  refine ⟨hk, fun h => ?_, fun h => ?_, fun h => ?_, fun h => ?_, ⟨by omega, by omega⟩, fun h => ?_, by omega, fun h => ?_⟩
  · have : 0 < arityI x.f0 := by
      by_cases h' : x.f0 = 3
      · have := har.2.1 h'; omega
      · have := har.2.2 (by omega); omega
    rw [decide_eq_true this] at hA
    simp [useF] at hA
    omega
  · have : 1 < arityI x.f0 := by have := har.2.1 h; omega
    rw [decide_eq_true this] at hB
    simp [useF] at hB
    omega
  · have : ¬ 0 < arityI x.f0 := by have := har.1 h; omega
    rw [decide_eq_false this] at hA
    simpa [useF] using hA
  · have : ¬ 1 < arityI x.f0 := by
      by_cases h' : x.f0 < 3
      · have := har.1 h'; omega
      · have := har.2.2 (by omega); omega
    rw [decide_eq_false this] at hB
    simpa [useF] using hB
  · rcases f3 with f3 | f3
    · exact f3
    · exact absurd f3 h
  · rcases f1 with f1 | f1
    · exact f1
    · simp only [Bool.or_eq_true, beq_iff_eq] at f1
      exact absurd f1 h
theorem scanFrom_ok {l : List S42} : ∀ (d i : Nat) (us us' : List Bool), scanFrom l d i us = some us' → ∀ j, i ≤ j → j < i + d → NodeOk j (l.getD j z42) := by
  intro d
  induction d with
  | zero => intro i us us' _ j h1 h2; omega
  | succ d ih =>
    intro i us us' h j h1 h2
    simp only [scanFrom] at h
    obtain ⟨u, hu, h⟩ := Option.bind_eq_some_iff.1 h
    by_cases hj : j = i
    · subst hj
      exact nodeStep_ok hu
    · exact ih (i + 1) u us' h j (by omega) (by omega)
/-- What checkI = 0 says of the nodes. -/
theorem check_valid {l : List S42} (h : checkI l = 0) : 0 < l.length ∧ l.length ≤ 65536 ∧ (∀ i, i < l.length → NodeOk i (l.getD i z42)) ∧ ∃ us, scanFrom l l.length 0 (List.replicate l.length false) = some us ∧ (us.take (l.length - 1)).all id = true := by
  by_cases hb : 65536 < l.length
  · rw [checkI_big hb] at h; cases h
  have hlen : l.length ≤ 65536 := by omega
  cases hs : scanFrom l l.length 0 (List.replicate l.length false) with
  | none => rw [check_bad hlen hs] at h; cases h
  | some us =>
    cases hu : (us.take (l.length - 1)).all id with
    | false => rw [check_unused hlen hs hu] at h; cases h
    | true =>
      have hp : 0 < l.length := by
        rcases Nat.eq_zero_or_pos l.length with h0 | h0
        · exfalso
          obtain rfl := List.eq_nil_of_length_eq_zero h0
          revert h
          decide
        · exact h0
      exact ⟨hp, hlen, fun i hi => scanFrom_ok _ _ _ _ hs i (by omega) (by omega), us, rfl, hu⟩
end Go.Proofs.Ythmmdmnbcecooaa.A
end

section
namespace Go.Proofs.Ythmmdmnbcecooaa.A
open Go.RowKit Go.Proofs.YthmmdmnbcecooaaW.PrintWords Go.Proofs.YthmmdmnbcecooaaW.PrintLast Go.Proofs.YthmmdmnbcecooaaW.PrintMore
set_option linter.unusedVariables false
set_option linter.unusedSimpArgs false
/-- Blocks of cells of types outside of bad stay. -/
structure KeepNot (bad : List Nat) (W W' : World) : Prop where
  keep : ∀ (b : Nat) (cs : Array Value) (t : TypeId) (fr : Nat × Nat), t ∉ bad → W.heap[b]? = some (Obj.cells cs t fr) → W'.heap[b]? = some (Obj.cells cs t fr)
namespace KeepNot
variable {bad : List Nat} {W W1 W2 : World}
theorem refl (bad : List Nat) (W : World) : KeepNot bad W W := ⟨fun _ _ _ _ _ h => h⟩
theorem trans (h : KeepNot bad W W1) (k : KeepNot bad W1 W2) : KeepNot bad W W2 := ⟨fun b cs t fr ht hb => k.keep b cs t fr ht (h.keep b cs t fr ht hb)⟩
theorem below (h : Below W.heap.size W W1) : KeepNot bad W W1 := ⟨fun b cs t fr _ hb => (h.block b (blk_lt hb)).trans hb⟩
theorem alloc (o : Obj) : KeepNot bad W (W.alloc o) := ⟨fun b cs t fr _ hb => blk_alloc hb o⟩
theorem drewN (n : Nat) : KeepNot bad W (W.drewN n) := ⟨fun b cs t fr _ hb => blk_drewN hb n⟩
theorem setCell {p : Addr} {cs : Array Value} {t : TypeId} {fr : Nat × Nat} (hp : W.heap[p.block]? = some (.cells cs t fr)) (ht : t ∈ bad) (v : Value) : KeepNot bad W (W.setCell p v) :=
  ⟨fun b cs' t' fr' ht' hb => (Below.heap_setCell W p v b (by
    rintro rfl
    rw [hb] at hp
    injection hp with hp
    injection hp with _ h2
    exact ht' (h2 ▸ ht))).trans hb⟩
theorem grown {row : Option Nat} (hg : W.grownBy W1 row) (hr : ∀ k, row = some k → ∃ cs t, t ∈ bad ∧ W.heap[k]? = some (.cells cs t (0, 0))) : KeepNot bad W W1 :=
  ⟨fun b cs t fr ht hb => (hg.block b (blk_lt hb) (by
    intro e
    obtain ⟨cs', t', ht', hb'⟩ := hr b e.symm
    rw [hb] at hb'
    injection hb' with hb'
    injection hb' with _ h2
    exact ht (h2 ▸ ht'))).trans hb⟩
end KeepNot
/-- The captured variables of document.Groups: d at gd, out at go_, walk at gw. -/
structure GrSt (w0 : World) (gd go_ gw : Nat) (ad : Addr) (n c : Nat) (out : List Int) (W : World) : Prop where
  hd : W.heap[gd]? = some (.cells #[.slice (some ad) n c] 26 (0, 0))
  hw : W.heap[gw]? = some (.cells #[.func (.func 49) #[] #[.pointer (some ⟨gd, 0, none⟩), .pointer (some ⟨go_, 0, none⟩), .pointer (some ⟨gw, 0, none⟩)]] 74 (0, 0))
  ho : ∃ v, W.heap[go_]? = some (.cells #[v] 28 (0, 0)) ∧ Kd.R (Kd.int .i64) 3 W w0.heap.size (fun _ => True) v out
  lo : w0.heap.size ≤ go_
  bel : Below w0.heap.size w0 W
theorem GrSt.alloc {w0 : World} {gd go_ gw : Nat} {ad : Addr} {n c : Nat} {out : List Int} {W : World} (h : GrSt w0 gd go_ gw ad n c out W) (o : Obj) : GrSt w0 gd go_ gw ad n c out (W.alloc o) := by
  obtain ⟨v, h1, h2⟩ := h.ho
  exact ⟨blk_alloc h.hd o, blk_alloc h.hw o, ⟨v, blk_alloc h1 o, Kd.R_alloc h2 o⟩, h.lo, h.bel.alloc h.bel.size o⟩
set_option maxRecDepth 100000 in
theorem walk_leaf (w0 W : World) (gd go_ gw : Nat) (ad : Addr) (c : Nat) (l : List S42) (out : List Int) (i : Nat) (hi : i < l.length) (hr0 : Kd.C k42 w0 (some ad) l.length l) (hc : l.length ≤ c) (hn : l.length ≤ 65536)
    (h : GrSt w0 gd go_ gw ad l.length c out W) (hk : (l.getD i z42).f0 = 0 ∨ (l.getD i z42).f0 = 1 ∨ (l.getD i z42).f0 = 2) :
    Calls Try.prog 49 #[.int .i64 i, .pointer (some ⟨gd, 0, none⟩), .pointer (some ⟨go_, 0, none⟩), .pointer (some ⟨gw, 0, none⟩)] W fun e W' =>
      e = .returned (.tuple #[]) ∧ GrSt w0 gd go_ gw ad l.length c out W' ∧ KeepNot [28, 3] W W' := by
  have hu42 := Try.underlying42
  have hcd := (blk_cell h.hd 0).trans rfl
  obtain ⟨k, s, n, a, b, hx⟩ : ∃ k s n a b, l.getD i z42 = ⟨k, s, n, a, b⟩ := ⟨_, _, _, _, _, rfl⟩
  obtain ⟨k0, k1, k2, k3, k4⟩ := cells42 hr0 hi hx h.bel
  rw [hx] at hk
  have HS := Aside0.mk h
  clear h hx hr0
  simp only at hk
  rcases hk with rfl | rfl | rfl
  all_goals
    have ha : arityI 0 = 0 := rfl
    have ha1 : arityI 1 = 0 := rfl
    have ha2 : arityI 2 = 0 := rfl
    go_enter Try.func49, Try.ntmps49
    go_wp2_with (go_at_call 50; refine (arity_calls _ _).mono ?_; rintro e w' ⟨rfl, rfl⟩)
    go_end0
    exact ⟨rfl, HS.out.alloc _, KeepNot.alloc _⟩
def WalkPost (w0 : World) (gd go_ gw : Nat) (ad : Addr) (n c : Nat) (out : List Int) (W : World) (e : Ending) (W' : World) : Prop :=
  e = .returned (.tuple #[]) ∧ GrSt w0 gd go_ gw ad n c out W' ∧ KeepNot [28, 3] W W'
def WalkAt (w0 : World) (gd go_ gw : Nat) (ad : Addr) (c : Nat) (l : List S42) (i : Nat) : Prop :=
  ∀ (out : List Int) (W : World), GrSt w0 gd go_ gw ad l.length c out W → out.length + (groupsI (tree l i)).length ≤ 65536 * 65536 →
    Calls Try.prog 49 #[.int .i64 i, .pointer (some ⟨gd, 0, none⟩), .pointer (some ⟨go_, 0, none⟩), .pointer (some ⟨gw, 0, none⟩)] W
      (WalkPost w0 gd go_ gw ad l.length c (out ++ (groupsI (tree l i)).map Int.ofNat) W)
set_option maxRecDepth 100000 in
theorem walk_un (w0 W : World) (gd go_ gw : Nat) (ad : Addr) (c : Nat) (l : List S42) (out : List Int) (i a' : Nat) (hi : i < l.length) (hr0 : Kd.C k42 w0 (some ad) l.length l) (hc : l.length ≤ c) (hn : l.length ≤ 65536)
    (h : GrSt w0 gd go_ gw ad l.length c out W) (hk : (l.getD i z42).f0 = 4 ∨ (l.getD i z42).f0 = 5) (ha' : (l.getD i z42).f3 = (a' : Int)) (ih : WalkAt w0 gd go_ gw ad c l a') (hb : out.length + (groupsI (tree l a')).length ≤ 65536 * 65536) :
    Calls Try.prog 49 #[.int .i64 i, .pointer (some ⟨gd, 0, none⟩), .pointer (some ⟨go_, 0, none⟩), .pointer (some ⟨gw, 0, none⟩)] W
      (WalkPost w0 gd go_ gw ad l.length c (out ++ (groupsI (tree l a')).map Int.ofNat) W) := by
  have hu42 := Try.underlying42
  have hcd := (blk_cell h.hd 0).trans rfl
  have hlw : gw < W.heap.size := blk_lt h.hw
  have hcw : W.cell? ⟨gw, 0, none⟩ = some (.func (.func 49) #[] #[.pointer (some ⟨gd, 0, none⟩), .pointer (some ⟨go_, 0, none⟩), .pointer (some ⟨gw, 0, none⟩)]) := (blk_cell h.hw 0).trans rfl
  obtain ⟨k, s, n, a, b, hx⟩ : ∃ k s n a b, l.getD i z42 = ⟨k, s, n, a, b⟩ := ⟨_, _, _, _, _, rfl⟩
  obtain ⟨k0, k1, k2, k3, k4⟩ := cells42 hr0 hi hx h.bel
  rw [hx] at hk ha'
  have HS := Aside0.mk h
  have HIH := Aside0.mk ih
  have HBD := Aside0.mk hb
  clear h hx hr0 ih hb
  simp only at hk ha'
  subst ha'
  rcases hk with rfl | rfl
  all_goals
    have ha4 : arityI 4 = 1 := rfl
    have ha5 : arityI 5 = 1 := rfl
    go_enter Try.func49, Try.ntmps49
    go_wp2_with (go_at_call 50; refine (arity_calls _ _).mono ?_; rintro e w' ⟨rfl, rfl⟩)
    refine (HIH.out out _ (HS.out.alloc _) HBD.out).mono ?_
    rintro e W1 ⟨rfl, hS1, hK1⟩
    have HS1 := Aside0.mk hS1
    have HK1 := Aside0.mk hK1
    have hblk := hK1.keep W.heap.size _ 42 (0, 0) (by decide) (heap_alloc_new W _)
    have m0 := (blk_cell hblk 0).trans rfl
    clear hS1 hK1 hblk
    go_wp2_with (go_at_call 50; refine (arity_calls _ _).mono ?_; rintro e w' ⟨rfl, rfl⟩)
    go_end0
    exact ⟨rfl, HS1.out, (KeepNot.alloc _).trans HK1.out⟩
set_option maxRecDepth 100000 in
theorem walk_seq (w0 W : World) (gd go_ gw : Nat) (ad : Addr) (c : Nat) (l : List S42) (out : List Int) (i a' b' : Nat) (hi : i < l.length) (hr0 : Kd.C k42 w0 (some ad) l.length l) (hc : l.length ≤ c) (hn : l.length ≤ 65536)
    (h : GrSt w0 gd go_ gw ad l.length c out W) (hk : (l.getD i z42).f0 = 3) (ha' : (l.getD i z42).f3 = (a' : Int)) (hb' : (l.getD i z42).f4 = (b' : Int)) (ih : WalkAt w0 gd go_ gw ad c l a') (ih2 : WalkAt w0 gd go_ gw ad c l b')
    (hb : out.length + ((groupsI (tree l a')).length + (groupsI (tree l b')).length) ≤ 65536 * 65536) :
    Calls Try.prog 49 #[.int .i64 i, .pointer (some ⟨gd, 0, none⟩), .pointer (some ⟨go_, 0, none⟩), .pointer (some ⟨gw, 0, none⟩)] W
      (WalkPost w0 gd go_ gw ad l.length c (out ++ (groupsI (tree l a') ++ groupsI (tree l b')).map Int.ofNat) W) := by
  have hu42 := Try.underlying42
  have hcd := (blk_cell h.hd 0).trans rfl
  have hlw : gw < W.heap.size := blk_lt h.hw
  have hcw : W.cell? ⟨gw, 0, none⟩ = some (.func (.func 49) #[] #[.pointer (some ⟨gd, 0, none⟩), .pointer (some ⟨go_, 0, none⟩), .pointer (some ⟨gw, 0, none⟩)]) := (blk_cell h.hw 0).trans rfl
  obtain ⟨k, s, n, a, b, hx⟩ : ∃ k s n a b, l.getD i z42 = ⟨k, s, n, a, b⟩ := ⟨_, _, _, _, _, rfl⟩
  obtain ⟨k0, k1, k2, k3, k4⟩ := cells42 hr0 hi hx h.bel
  rw [hx] at hk ha' hb'
  have HS := Aside0.mk h
  have HIH := Aside0.mk ih
  have HIH2 := Aside0.mk ih2
  have HBD := Aside0.mk hb
  clear h hx hr0 ih hb ih2
  simp only at hk ha' hb'
  subst ha' hb' hk
  have ha3 : arityI 3 = 2 := rfl
  go_enter Try.func49, Try.ntmps49
  go_wp2_with (go_at_call 50; refine (arity_calls _ _).mono ?_; rintro e w' ⟨rfl, rfl⟩)
  refine (HIH.out out _ (HS.out.alloc _) (by have := HBD.out; omega)).mono ?_
  rintro e W1 ⟨rfl, hS1, hK1⟩
  have HS1 := Aside0.mk hS1
  have HK1 := Aside0.mk hK1
  have hblk := hK1.keep W.heap.size _ 42 (0, 0) (by decide) (heap_alloc_new W _)
  have m0 := (blk_cell hblk 0).trans rfl
  have m4 := (blk_cell hblk 4).trans rfl
  have hcw1 : W1.cell? ⟨gw, 0, none⟩ = some (.func (.func 49) #[] #[.pointer (some ⟨gd, 0, none⟩), .pointer (some ⟨go_, 0, none⟩), .pointer (some ⟨gw, 0, none⟩)]) := (blk_cell hS1.hw 0).trans rfl
  clear hS1 hK1 hblk
  go_wp2_with (go_at_call 50; refine (arity_calls _ _).mono ?_; rintro e w' ⟨rfl, rfl⟩)
  refine (HIH2.out _ _ HS1.out (by have := HBD.out; simp; omega)).mono ?_
  rintro e W2 ⟨rfl, hS2, hK2⟩
  have HS2 := Aside0.mk hS2
  have HK2 := Aside0.mk (((KeepNot.alloc _).trans HK1.out).trans hK2)
  clear hS2 hK2
  go_wp2_with fail
  go_end0
  exact ⟨rfl, by have := HS2.out; rwa [List.append_assoc, ← List.map_append] at this, HK2.out⟩
theorem GrSt.appended {w0 W W1 : World} {gd go_ gw : Nat} {ad : Addr} {n c : Nat} {out : List Int} {v v1 : Value} {p : Int} (h : GrSt w0 gd go_ gw ad n c out W) (hgo : W.heap[go_]? = some (.cells #[v] 28 (0, 0))) (hR : Kd.R (Kd.int .i64) 3 W w0.heap.size (fun _ => True) v out)
    (hR1 : Kd.R (Kd.int .i64) 3 W1 w0.heap.size (fun _ => True) v1 (out ++ [p])) (hB1 : Below w0.heap.size w0 W1) (hg : W.grownBy W1 v.ownBlock) :
    W1.heap[go_]? = some (.cells #[v] 28 (0, 0)) ∧ GrSt w0 gd go_ gw ad n c (out ++ [p]) (W1.setCell ⟨go_, 0, none⟩ v1) ∧ KeepNot [28, 3] W (W1.setCell ⟨go_, 0, none⟩ v1) ∧ W1.cell? ⟨gw, 0, none⟩ = some (.func (.func 49) #[] #[.pointer (some ⟨gd, 0, none⟩), .pointer (some ⟨go_, 0, none⟩), .pointer (some ⟨gw, 0, none⟩)]) := by
  have hne : some go_ ≠ v.ownBlock := Kd.R_ne hR hgo (by decide)
  have hgo1 := blk_grown hgo hg hne
  have hrow : ∀ k, v.ownBlock = some k → ∃ cs, W.heap[k]? = some (.cells cs 3 (0, 0)) := fun k hk => by
    obtain ⟨inner, ho⟩ := Kd.R_own hR
    exact own_typed ho k hk
  have hnt : ∀ {b : Nat} {cs : Array Value} {t : TypeId}, W.heap[b]? = some (.cells cs t (0, 0)) → t ≠ 3 → some b ≠ v.ownBlock := fun {b cs t} hb ht e => by
    obtain ⟨cs', h'⟩ := hrow b e.symm
    rw [hb] at h'
    injection h' with h'
    injection h' with _ h2
    exact ht h2
  have hd1 := blk_grown h.hd hg (hnt h.hd (by decide))
  have hw1 := blk_grown h.hw hg (hnt h.hw (by decide))
  refine ⟨hgo1, ⟨blk_far hd1 (p := ⟨go_, 0, none⟩) (blk_ne hd1 hgo1 (by decide)) v1, blk_far hw1 (p := ⟨go_, 0, none⟩) (blk_ne hw1 hgo1 (by decide)) v1, ⟨v1, ?_, ?_⟩, h.lo, ?_⟩, ?_, (blk_cell hw1 0).trans rfl⟩
  · simpa using blk_set hgo1 0 v1
  · exact Kd.R_set hR1 hgo1 (by intro q hq; simp [Kd.int, Kd.scalar] at hq; omega) 0 v1
  · exact hB1.setCell (p := ⟨go_, 0, none⟩) h.lo _
  · refine (KeepNot.grown hg fun k hk => ?_).trans (KeepNot.setCell (p := ⟨go_, 0, none⟩) hgo1 (by decide) v1)
    obtain ⟨cs, hb⟩ := hrow k hk
    exact ⟨cs, 3, by decide, hb⟩
theorem R_slice1 {α : Type} {d : Kd α} {e base : Nat} {ok : Nat → Prop} {w : World} {v : Value} {xs : List α} {p : α} (h : d.R e w base ok v (xs ++ [p])) : ∃ A c, v = .slice A (xs.length + 1) c := by
  obtain ⟨A, c, he⟩ := Kd.R_slice h
  exact ⟨A, c, by rw [he, List.length_append]; rfl⟩
theorem R_lt {α : Type} {d : Kd α} {e base : Nat} {ok : Nat → Prop} {w : World} {v : Value} {xs : List α} (h : d.R e w base ok v xs) (k : Nat) (hk : v.ownBlock = some k) : k < w.heap.size := by
  obtain ⟨inner, ho⟩ := Kd.R_own h
  exact own_lt ho k hk
theorem R_new_ne {α : Type} {d : Kd α} {e base : Nat} {ok : Nat → Prop} {w : World} {v : Value} {xs : List α} (h : d.R e w base ok v xs) : some w.heap.size ≠ v.ownBlock := fun e => Nat.lt_irrefl _ (R_lt h _ e.symm)
set_option maxRecDepth 100000 in
theorem walk_group (w0 W : World) (gd go_ gw : Nat) (ad : Addr) (c : Nat) (l : List S42) (out : List Int) (i a' : Nat) (hi : i < l.length) (hr0 : Kd.C k42 w0 (some ad) l.length l) (hc : l.length ≤ c) (hn : l.length ≤ 65536)
    (h : GrSt w0 gd go_ gw ad l.length c out W) (hk : (l.getD i z42).f0 = 6) (ha' : (l.getD i z42).f3 = (a' : Int)) (ih : WalkAt w0 gd go_ gw ad c l a') (hb : out.length + ((groupsI (tree l a')).length + 1) ≤ 65536 * 65536) :
    Calls Try.prog 49 #[.int .i64 i, .pointer (some ⟨gd, 0, none⟩), .pointer (some ⟨go_, 0, none⟩), .pointer (some ⟨gw, 0, none⟩)] W
      (WalkPost w0 gd go_ gw ad l.length c (out ++ (i :: groupsI (tree l a')).map Int.ofNat) W) := by
  have hu42 := Try.underlying42
  have hcd := (blk_cell h.hd 0).trans rfl
  obtain ⟨v, hgo, hR⟩ := h.ho
  have hco : W.cell? ⟨go_, 0, none⟩ = some v := (blk_cell hgo 0).trans rfl
  have hlo : go_ < W.heap.size := blk_lt hgo
  obtain ⟨k, s, n, a, b, hx⟩ : ∃ k s n a b, l.getD i z42 = ⟨k, s, n, a, b⟩ := ⟨_, _, _, _, _, rfl⟩
  obtain ⟨k0, k1, k2, k3, k4⟩ := cells42 hr0 hi hx h.bel
  rw [hx] at hk ha'
  have HS := Aside0.mk h
  have HGO := Aside0.mk hgo
  have HR := Aside0.mk hR
  have HIH := Aside0.mk ih
  have HBD := Aside0.mk hb
  have hne1 : go_ ≠ W.heap.size := by omega
  have hne2 : W.heap.size ≠ go_ := by omega
  have hne3 : gw ≠ go_ := blk_ne h.hw hgo (by decide)
  have hne4 : go_ ≠ gw := fun e => hne3 e.symm
  clear h hx hr0 ih hb hgo hR
  simp only at hk ha'
  subst ha' hk
  have ha6 : arityI 6 = 1 := rfl
  go_enter Try.func49, Try.ntmps49
  go_wp2_with (at_builtin; refine Kd.R_append (Kd.int .i64) (w0 := w0) w0.heap.size rfl (.tmp 13) (.tmp 15) 28 3 (.int .i64 0) 8 rfl Try.underlying28 info3 rfl (by decide) (by omega) v out (i : Int) [.int .i64 i] (fun _ => True) (fun _ => False) rfl ?aX ?aP (fun _ hk => hk.elim) ?aF ?aO ?aB ?aS ?aL ?_; (case aX => simp [Act.eval]); (case aP => exact rfl); (case aF => exact (fun _ _ => trivial)); (case aO => exact Kd.R_alloc HR.out _); (case aB => exact (HS.out.alloc _).bel); (case aS => exact (HS.out.alloc _).bel.size); (case aL => have := HBD.out; omega); intro v1 w1 hR1 hB1 hg1 hat1; obtain ⟨A1, c1, rfl⟩ := R_slice1 hR1; have HX := Aside0.mk ((HS.out.alloc _).appended (blk_alloc HGO.out _) (Kd.R_alloc HR.out _) hR1 hB1 hg1); have hfz : w1.frozen? ⟨go_, 0, none⟩ = false := blk_frozen HX.out.1 0; have hcc : w1.cell? ⟨go_, 0, none⟩ = some v := (blk_cell HX.out.1 0).trans rfl; have HT := Aside0.mk (blk_grown (heap_alloc_new W _) hg1 (R_new_ne HR.out)); have m0 : w1.cell? ⟨W.heap.size, 0, none⟩ = some (.int .i64 6) := (blk_cell HT.out 0).trans rfl; have m3 : w1.cell? ⟨W.heap.size, 3, none⟩ = some (.int .i64 a') := (blk_cell HT.out 3).trans rfl; have mw := HX.out.2.2.2; clear hR1 hB1 hg1 hat1)
  go_wp2_with (go_at_call 50; refine (arity_calls _ _).mono ?_; rintro e w' ⟨rfl, rfl⟩)
  refine (HIH.out _ _ HX.out.2.1 (by have := HBD.out; simp; omega)).mono ?_
  rintro e W2 ⟨rfl, hS2, hK2⟩
  have HS2 := Aside0.mk hS2
  have HK2 := Aside0.mk (((KeepNot.alloc _).trans HX.out.2.2.1).trans hK2)
  have hblk := hK2.keep W.heap.size _ 42 (0, 0) (by decide) (blk_far HT.out (p := ⟨go_, 0, none⟩) hne2 _)
  have m00 := (blk_cell hblk 0).trans rfl
  clear hS2 hK2 hblk
  go_wp2_with (go_at_call 50; refine (arity_calls _ _).mono ?_; rintro e w' ⟨rfl, rfl⟩)
  go_end0
  exact ⟨rfl, by have := HS2.out; rw [List.append_assoc] at this; exact this, HK2.out⟩
/-- The inner function of document.Groups at every node of a valid document. -/
theorem walk_any (w0 : World) (gd go_ gw : Nat) (ad : Addr) (c : Nat) (l : List S42) (hv : ∀ i, i < l.length → NodeOk i (l.getD i z42)) (hr0 : Kd.C k42 w0 (some ad) l.length l) (hc : l.length ≤ c) (hn : l.length ≤ 65536) :
    ∀ i, i < l.length → WalkAt w0 gd go_ gw ad c l i := by
  intro i
  induction i using Nat.strongRecOn with
  | _ i ih =>
    intro hi out W h hb
    have ho := hv i hi
    by_cases h3 : (l.getD i z42).f0 < 3
    · have hk : (l.getD i z42).f0 = 0 ∨ (l.getD i z42).f0 = 1 ∨ (l.getD i z42).f0 = 2 := by have := ho.kind; omega
      have hg : groupsI (tree l i) = [] := by
        rcases hk with hk | hk | hk
        · rw [tree_text hk]; rfl
        · rw [tree_line hk]; rfl
        · rw [tree_hard hk]; rfl
      rw [hg, List.map_nil, List.append_nil]
      exact walk_leaf w0 W gd go_ gw ad c l out i hi hr0 hc hn h hk
    · obtain ⟨ha0, ha1⟩ := ho.a (by omega)
      obtain ⟨a', ha'⟩ := Int.eq_ofNat_of_zero_le ha0
      have iha := ih a' (by omega) (by omega)
      have e1 : (l.getD i z42).f3.toNat = a' := by omega
      by_cases hk3 : (l.getD i z42).f0 = 3
      · obtain ⟨hb0, hb1⟩ := ho.b hk3
        obtain ⟨b', hb'⟩ := Int.eq_ofNat_of_zero_le hb0
        have ihb := ih b' (by omega) (by omega)
        have e2 : (l.getD i z42).f4.toNat = b' := by omega
        rw [tree_seq hv hi hk3, e1, e2] at hb ⊢
        simp only [groupsI, List.length_append] at hb ⊢
        exact walk_seq w0 W gd go_ gw ad c l out i a' b' hi hr0 hc hn h hk3 ha' hb' iha ihb (by omega)
      by_cases hk6 : (l.getD i z42).f0 = 6
      · rw [tree_group hv hi hk6, e1] at hb ⊢
        simp only [groupsI, List.length_cons] at hb ⊢
        exact walk_group w0 W gd go_ gw ad c l out i a' hi hr0 hc hn h hk6 ha' iha (by omega)
      · have hk : (l.getD i z42).f0 = 4 ∨ (l.getD i z42).f0 = 5 := by have := ho.kind; omega
        have hg : groupsI (tree l i) = groupsI (tree l a') := by
          rcases hk with hk | hk
          · rw [tree_nest hv hi hk, e1]; rfl
          · rw [tree_align hv hi hk, e1]; rfl
        rw [hg] at hb ⊢
        exact walk_un w0 W gd go_ gw ad c l out i a' hi hr0 hc hn h hk ha' iha hb
end Go.Proofs.Ythmmdmnbcecooaa.A
end

section
namespace Go.Proofs.Ythmmdmnbcecooaa.A
open Go.RowKit Go.Proofs.YthmmdmnbcecooaaW.PrintWords Go.Proofs.YthmmdmnbcecooaaW.PrintLast Go.Proofs.YthmmdmnbcecooaaW.PrintMore
set_option linter.unusedVariables false
set_option linter.unusedSimpArgs false
def bsI (l : List UInt8) : List Int := l.map fun b => (b.toNat : Int)
theorem bsI_length (l : List UInt8) : (bsI l).length = l.length := by simp [bsI]
theorem bsI_append (l m : List UInt8) : bsI (l ++ m) = bsI l ++ bsI m := by simp [bsI]
/-- document's writer at block g: what it has written, its column, its pending indentation, whether it is wrong. -/
structure WrSt (w0 : World) (g : Nat) (out : List UInt8) (col pend : Int) (wrong : Bool) (W : World) : Prop where
  hb : ∃ (p v : Value), W.heap[g]? = some (.cells #[p, v, .int .i64 col, .int .i64 pend, .bool wrong] 83 (0, 0)) ∧ (p = .pointer none ∨ p = .pointer (some ⟨g, 0, none⟩)) ∧ W.ownsRow w0.heap.size 5 1 v (bsI out).length (nums .u8 (bsI out))
  lo : w0.heap.size ≤ g
  bel : Below w0.heap.size w0 W
theorem WrSt.lt {w0 W : World} {g : Nat} {out : List UInt8} {col pend : Int} {wrong : Bool} (h : WrSt w0 g out col pend wrong W) : g < W.heap.size := by
  obtain ⟨p, v, hb, _⟩ := h.hb
  exact blk_lt hb
theorem WrSt.below {w0 W W1 : World} {g : Nat} {out : List UInt8} {col pend : Int} {wrong : Bool} (h : WrSt w0 g out col pend wrong W) (hb : Below W.heap.size W W1) : WrSt w0 g out col pend wrong W1 := by
  obtain ⟨p, v, h1, h2, h3⟩ := h.hb
  exact ⟨⟨p, v, (hb.block g (blk_lt h1)).trans h1, h2, pw_own_below h3 hb⟩, h.lo, below_then h.bel h.bel.size hb⟩
theorem WrSt.alloc {w0 W : World} {g : Nat} {out : List UInt8} {col pend : Int} {wrong : Bool} (h : WrSt w0 g out col pend wrong W) (o : Obj) : WrSt w0 g out col pend wrong (W.alloc o) := h.below ((Below.refl _ _).alloc (Nat.le_refl _) o)
theorem WrSt.drewN {w0 W : World} {g : Nat} {out : List UInt8} {col pend : Int} {wrong : Bool} (h : WrSt w0 g out col pend wrong W) (n : Nat) : WrSt w0 g out col pend wrong (W.drewN n) := h.below (pw_below_drewN (Below.refl _ _) n)
theorem size81 : (Try.prog.info? 81).map (·.size) = some 2 := by kernel_rfl
theorem lies81 : liesAt Try.prog Try.prog.depth 83 (5 / Try.prog.cellsOf 83) 0 81 1 = true := by kernel_rfl
set_option maxRecDepth 100000 in
theorem copyCheck_used (b : Nat) (w : World) (h0 : w.cell? ⟨b, 0, none⟩ = some (.pointer (some ⟨b, 0, none⟩))) :
    Calls Try.prog 99 #[.pointer (some ⟨b, 0, none⟩)] w fun e w' => e = .returned (.tuple #[]) ∧ w = w' := by
  obtain ⟨j, hj, _⟩ := Option.map_eq_some_iff.1 size81
  go_enter Try.func99, Try.ntmps99
  go_wp2
  rw [Lib.run_neq_ptr_same w _ Try.underlying79 hj]
  go_wp2
  go_end0
  exact ⟨rfl, rfl⟩
set_option maxRecDepth 100000 in
theorem copyCheck_fresh (b : Nat) (w : World) (h0 : w.cell? ⟨b, 0, none⟩ = some (.pointer none)) (hsh : w.shape? b = some (83, 5)) (hfz : w.frozen? ⟨b, 0, none⟩ = false) :
    Calls Try.prog 99 #[.pointer (some ⟨b, 0, none⟩)] w fun e w' => e = .returned (.tuple #[]) ∧ w.setCell ⟨b, 0, none⟩ (.pointer (some ⟨b, 0, none⟩)) = w' := by
  obtain ⟨j, hj, hjs⟩ := Option.map_eq_some_iff.1 size81
  go_enter Try.func99, Try.ntmps99
  go_wp2
  rw [Lib.run_to_unsafe w ⟨b, 0, none⟩ Try.underlying79 Try.underlying161 hj (by rw [hjs]; decide) hsh (Nat.zero_lt_succ 4)]
  simp only [Result.andThen]
  rw [Oper.upon_value]
  go_wp2
  rw [run_callFunc_extern Try.func101 (by kernel_rfl) (by kernel_rfl) (by kernel_rfl) (e := Extern.AbiNoEscape.same) (by kernel_rfl)]
  rw [Lib.run_noEscape]
  simp only [Result.andThen]
  rw [Oper.upon_value]
  go_wp2
  rw [Lib.run_from_unsafe w ⟨b, 0, none⟩ Try.underlying161 Try.underlying79 hj hsh lies81]
  simp only [Result.andThen]
  rw [Oper.upon_value]
  go_wp2
  go_end0
  exact ⟨rfl, rfl⟩
/-- The writer, its builder used; its buffer is v. -/
structure WrAt (w0 : World) (g : Nat) (v : Value) (out : List UInt8) (col pend : Int) (wrong : Bool) (W : World) : Prop where
  hb : W.heap[g]? = some (.cells #[.pointer (some ⟨g, 0, none⟩), v, .int .i64 col, .int .i64 pend, .bool wrong] 83 (0, 0))
  ho : W.ownsRow w0.heap.size 5 1 v (bsI out).length (nums .u8 (bsI out))
  lo : w0.heap.size ≤ g
  bel : Below w0.heap.size w0 W
theorem WrAt.st {w0 W : World} {g : Nat} {v : Value} {out : List UInt8} {col pend : Int} {wrong : Bool} (h : WrAt w0 g v out col pend wrong W) : WrSt w0 g out col pend wrong W :=
  ⟨⟨_, v, h.hb, .inr rfl, h.ho⟩, h.lo, h.bel⟩
def CopyPost (w0 : World) (g : Nat) (out : List UInt8) (col pend : Int) (wrong : Bool) (W : World) (e : Ending) (W' : World) : Prop :=
  e = .returned (.tuple #[]) ∧ (∃ v, WrAt w0 g v out col pend wrong W') ∧ KeepNot [83, 5] W W'
theorem copyCheck_any (w0 W : World) (g : Nat) (out : List UInt8) (col pend : Int) (wrong : Bool) (h : WrSt w0 g out col pend wrong W) :
    Calls Try.prog 99 #[.pointer (some ⟨g, 0, none⟩)] W (CopyPost w0 g out col pend wrong W) := by
  obtain ⟨p, v, hb, hp, ho⟩ := h.hb
  rcases hp with rfl | rfl
  · refine (copyCheck_fresh g W ((blk_cell hb 0).trans rfl) (by simp [World.shape?, hb]) (blk_frozen hb 0)).mono ?_
    rintro e W' ⟨rfl, rfl⟩
    refine ⟨rfl, ⟨v, blk_put (cs := #[.pointer none, v, .int .i64 col, .int .i64 pend, .bool wrong]) hb 0 _ rfl, ?_, h.lo, h.bel.setCell (p := ⟨g, 0, none⟩) h.lo _⟩, KeepNot.setCell (p := ⟨g, 0, none⟩) hb (by decide) _⟩
    exact own_setCell ho (p := ⟨g, 0, none⟩) (own_ne ho hb (by decide)) _
  · refine (copyCheck_used g W ((blk_cell hb 0).trans rfl)).mono ?_
    rintro e W' ⟨rfl, rfl⟩
    exact ⟨rfl, ⟨v, hb, ho, h.lo, h.bel⟩, KeepNot.refl _ _⟩
/-- What a longer buffer leaves of the writer. -/
theorem WrAt.grown {w0 W W1 : World} {g : Nat} {v v1 : Value} {out out1 : List UInt8} {col pend : Int} {wrong : Bool} (h : WrAt w0 g v out col pend wrong W) (ho1 : W1.ownsRow w0.heap.size 5 1 v1 (bsI out1).length (nums .u8 (bsI out1))) (hB1 : Below w0.heap.size w0 W1) (hg : W.grownBy W1 v.ownBlock) :
    W1.heap[g]? = some (.cells #[.pointer (some ⟨g, 0, none⟩), v, .int .i64 col, .int .i64 pend, .bool wrong] 83 (0, 0)) ∧ WrAt w0 g v1 out1 col pend wrong (W1.setCell ⟨g, 1, none⟩ v1) ∧ KeepNot [83, 5] W (W1.setCell ⟨g, 1, none⟩ v1) := by
  have hne : some g ≠ v.ownBlock := own_ne h.ho h.hb (by decide)
  have hb1 := blk_grown h.hb hg hne
  refine ⟨hb1, ⟨blk_put (cs := #[.pointer (some ⟨g, 0, none⟩), v, .int .i64 col, .int .i64 pend, .bool wrong]) hb1 1 _ rfl, ?_, h.lo, hB1.setCell (p := ⟨g, 1, none⟩) h.lo _⟩, ?_⟩
  · exact own_setCell ho1 (p := ⟨g, 1, none⟩) (own_ne ho1 hb1 (by decide)) _
  · refine (KeepNot.grown hg fun k hk => ?_).trans (KeepNot.setCell (p := ⟨g, 1, none⟩) hb1 (by decide) _)
    obtain ⟨cs, hb⟩ := own_typed h.ho k hk
    exact ⟨cs, 5, by decide, hb⟩
def WritePost (w0 : World) (g : Nat) (out : List UInt8) (col pend : Int) (wrong : Bool) (r : Value) (W : World) (e : Ending) (W' : World) : Prop :=
  e = .returned r ∧ WrSt w0 g out col pend wrong W' ∧ KeepNot [83, 5] W W'
set_option maxRecDepth 100000 in
theorem writeString_calls (w0 W : World) (g : Nat) (out : List UInt8) (col pend : Int) (wrong : Bool) (s : ByteArray) (h : WrSt w0 g out col pend wrong W) (hlen : out.length + s.size ≤ 140737488355328) :
    Calls Try.prog 92 #[.pointer (some ⟨g, 0, none⟩), .string s] W (WritePost w0 g (out ++ s.data.toList) col pend wrong (.tuple #[.int .i64 s.size, .nilIface]) W) := by
  have HS := Aside0.mk h
  have HL := Aside0.mk hlen
  clear h hlen
  go_enter Try.func92, Try.ntmps92
  go_wp2_with fail
  refine (copyCheck_any w0 W g out col pend wrong HS.out).mono ?_
  rintro e W1 ⟨rfl, ⟨v, h1⟩, hk1⟩
  have H1 := Aside0.mk h1
  have HK := Aside0.mk hk1
  have c1 : W1.cell? ⟨g, 1, none⟩ = some v := (blk_cell h1.hb 1).trans rfl
  clear h1 hk1
  go_wp2_with (at_builtin; refine print_append_str (w0 := w0) w0.heap.size rfl (.tmp 12) (.tmp 13) 22 9 5 rfl Try.underlying22 Try.underlying9 info5 v (bsI out) s rfl rfl ?aO ?aB ?aS ?aL ?_; (case aO => exact H1.out.ho); (case aB => exact H1.out.bel); (case aS => exact H1.out.bel.size); (case aL => have := HL.out; rw [bsI_length]; exact this); intro v1 w2 ho2 hB2 hg2; obtain ⟨A1, c1', hv1⟩ := own_slice ho2; subst hv1; have HX := Aside0.mk (H1.out.grown (out1 := out ++ s.data.toList) (by rw [bsI_append]; exact ho2) hB2 hg2); have hc : w2.cell? ⟨g, 1, none⟩ = some v := (blk_cell HX.out.1 1).trans rfl; have hfz : w2.frozen? ⟨g, 1, none⟩ = false := blk_frozen HX.out.1 1; clear ho2 hB2 hg2)
  go_ret2
  have hx := HX.out.2
  rw [List.length_append] at hx
  exact ⟨rfl, hx.1.st, HK.out.trans hx.2⟩
set_option maxRecDepth 100000 in
theorem writeByte_calls (w0 W : World) (g : Nat) (out : List UInt8) (col pend : Int) (wrong : Bool) (h : WrSt w0 g out col pend wrong W) (hlen : out.length + 1 ≤ 140737488355328) :
    Calls Try.prog 123 #[.pointer (some ⟨g, 0, none⟩), .int .u8 10] W (WritePost w0 g (out ++ [10]) col pend wrong .nilIface W) := by
  have HS := Aside0.mk h
  have HL := Aside0.mk hlen
  clear h hlen
  go_enter Try.func123, Try.ntmps123
  go_wp2_with fail
  refine (copyCheck_any w0 W g out col pend wrong HS.out).mono ?_
  rintro e W1 ⟨rfl, ⟨v, h1⟩, hk1⟩
  have H1 := Aside0.mk h1
  have HK := Aside0.mk hk1
  have c1 : W1.cell? ⟨g, 1, none⟩ = some v := (blk_cell h1.hb 1).trans rfl
  clear h1 hk1
  go_wp2_with (at_builtin; refine print_append_num (w0 := w0) w0.heap.size rfl (.tmp 11) (.tmp 13) 22 5 .u8 1 rfl Try.underlying22 info5 (by omega) v (bsI out) 10 rfl rfl ?aO ?aB ?aS ?aL ?_; (case aO => exact H1.out.ho); (case aB => exact H1.out.bel); (case aS => exact H1.out.bel.size); (case aL => have := HL.out; rw [bsI_length]; omega); intro v1 w2 ho2 hB2 hg2 hat2; obtain ⟨A1, c1', hv1⟩ := own_slice ho2; subst hv1; have HX := Aside0.mk (H1.out.grown (out1 := out ++ [10]) (by rw [bsI_append]; exact ho2) hB2 hg2); have hc : w2.cell? ⟨g, 1, none⟩ = some v := (blk_cell HX.out.1 1).trans rfl; have hfz : w2.frozen? ⟨g, 1, none⟩ = false := blk_frozen HX.out.1 1; clear ho2 hB2 hg2 hat2)
  go_ret
  have hx := HX.out.2
  rw [List.length_append] at hx
  exact ⟨rfl, hx.1.st, HK.out.trans hx.2⟩
end Go.Proofs.Ythmmdmnbcecooaa.A
end

section
namespace Go.Proofs.Ythmmdmnbcecooaa.A
open Go.RowKit Go.Proofs.YthmmdmnbcecooaaW.PrintWords Go.Proofs.YthmmdmnbcecooaaW.PrintLast Go.Proofs.YthmmdmnbcecooaaW.PrintMore
set_option linter.unusedVariables false
set_option linter.unusedSimpArgs false
theorem cells5 : Try.prog.cellsOf 5 = 1 := by kernel_rfl
theorem unsafeString_none (W : World) (q : Option Addr) : (Builtin.unsafeString_ #[116, 3] 9 #[.pointer q, .int .i64 0]).run Try.prog W = .ok (.string .empty) W := Lib.run_unsafeString_none W _ _ _ q
theorem nums_bsI (l : List UInt8) : nums .u8 (bsI l) = Lib.byteCells l := by simp [nums, bsI, Lib.byteCells]
section
variable (W : World) (g : Nat) (p : Value) (col pend : Int) (wrong : Bool)
set_option maxRecDepth 100000 in
theorem string_some (B g' cap : Nat) (l : List UInt8) (h0 : l ≠ []) (hbk : W.heap[g]? = some (.cells #[p, .slice (some ⟨g', 0, none⟩) l.length cap, .int .i64 col, .int .i64 pend, .bool wrong] 83 (0, 0)))
    (hown : W.ownsRow B 5 1 (.slice (some ⟨g', 0, none⟩) l.length cap) l.length (Lib.byteCells l)) :
    Calls Try.prog 53 #[.pointer (some ⟨g, 0, none⟩)] W fun e w' => e = .returned (.string ⟨l.toArray⟩) ∧ Below B W w' := by
  have hl0 : l.length ≠ 0 := by simpa using h0
  obtain ⟨cur, hbg, hg, hnc, hcm, hcs⟩ : ∃ cur, B ≤ g' ∧ W.heap[g']? = some (.cells cur 5 (0, 0)) ∧ l.length ≤ cap ∧ cap ≤ maxLen ∧ cur.size = cap * 1 := by
    rcases hown.2 with ⟨hv, hz⟩ | ⟨g'', cap', cur, hv, r1, r2, r3, r4, r5, _⟩
    · exact absurd hz hl0
    · injection hv with e1 e2 e3
      injection e1 with e1
      injection e1 with e1
      subst e1 e3
      exact ⟨cur, r1, r2, r3, r4, r5⟩
  have c1 : W.drew.cell? ⟨g, 1, none⟩ = some (.slice (some ⟨g', 0, none⟩) l.length cap) := by
    have : W.drew.heap[g]? = some (.cells #[p, .slice (some ⟨g', 0, none⟩) l.length cap, .int .i64 col, .int .i64 pend, .bool wrong] 83 (0, 0)) := hbk
    rw [Lib.cell_of_heap this]; rfl
  have hSD : (Builtin.unsafeSliceData_ #[22] 116 #[.slice (some ⟨g', 0, none⟩) l.length cap]).run Try.prog W.drew = .ok (.pointer (some ⟨g', 0, none⟩)) W.drew :=
    Lib.run_unsafeSliceData_row _ _ _ _ _ _ (by omega)
  have hUS : (Builtin.unsafeString_ #[116, 3] 9 #[.pointer (some ⟨g', 0, none⟩), .int .i64 l.length]).run Try.prog W.drew = .ok (.string ⟨l.toArray⟩) (W.drew.freeze ⟨g', 0, none⟩ l.length) := by
    refine Lib.run_unsafeString_row W.drew 116 3 9 5 Try.underlying116 cells5 g' cur.size (by have hg' : W.drew.heap[g']? = some (.cells cur 5 (0, 0)) := hg; simp [World.shape?, hg']) l h0 (by omega) (by unfold maxLen at hcm; omega) ?_
    intro j x hx
    have := hown.cells (g := g') rfl j (.int .u8 x.toNat) (by simp [Lib.byteCells, hx])
    exact this
  go_enter Try.func53, Try.ntmps53
  go_wp2
  go_region
  all_goals (go_wp2; go_ret; exact ⟨rfl, Lib.below_freeze (Below.drew (Below.refl B W)) (p := ⟨g', 0, none⟩) hbg _⟩)
set_option maxRecDepth 100000 in
theorem string_nil (B : Nat) (hbk : W.heap[g]? = some (.cells #[p, .slice none 0 0, .int .i64 col, .int .i64 pend, .bool wrong] 83 (0, 0))) :
    Calls Try.prog 53 #[.pointer (some ⟨g, 0, none⟩)] W fun e w' => e = .returned (.string ⟨#[]⟩) ∧ Below B W w' := by
  have hUS := unsafeString_none
  have c1 : W.drew.cell? ⟨g, 1, none⟩ = some (.slice none 0 0) := by
    have : W.drew.heap[g]? = some (.cells #[p, .slice none 0 0, .int .i64 col, .int .i64 pend, .bool wrong] 83 (0, 0)) := hbk
    rw [Lib.cell_of_heap this]; rfl
  have hSD : (Builtin.unsafeSliceData_ #[22] 116 #[.slice none 0 0]).run Try.prog W.drew = .ok (.pointer none) W.drew := rfl
  go_enter Try.func53, Try.ntmps53
  go_wp2
  go_region
  all_goals (go_wp2; go_ret; exact ⟨rfl, Below.drew (Below.refl B W)⟩)
set_option maxRecDepth 100000 in
theorem string_noroom (B g' : Nat) (cur : Array Value) (hBw : B ≤ W.heap.size) (hbk : W.heap[g]? = some (.cells #[p, .slice (some ⟨g', 0, none⟩) 0 0, .int .i64 col, .int .i64 pend, .bool wrong] 83 (0, 0))) (hg : W.heap[g']? = some (.cells cur 5 (0, 0))) :
    Calls Try.prog 53 #[.pointer (some ⟨g, 0, none⟩)] W fun e w' => e = .returned (.string ⟨#[]⟩) ∧ Below B W w' := by
  have hUS := unsafeString_none
  have hlt : g < W.heap.size := blk_lt hbk
  have c1 : W.drew.cell? ⟨g, 1, none⟩ = some (.slice (some ⟨g', 0, none⟩) 0 0) := by
    have : W.drew.heap[g]? = some (.cells #[p, .slice (some ⟨g', 0, none⟩) 0 0, .int .i64 col, .int .i64 pend, .bool wrong] 83 (0, 0)) := hbk
    rw [Lib.cell_of_heap this]; rfl
  have hSD : (Builtin.unsafeSliceData_ #[22] 116 #[.slice (some ⟨g', 0, none⟩) 0 0]).run Try.prog W.drew = .ok (.pointer (some ⟨W.drew.heap.size, 0, none⟩)) (W.drew.alloc (.view ⟨g', 0, none⟩ 5)) :=
    Lib.run_unsafeSliceData_zero W.drew _ _ 5 Try.underlying116 ⟨g', 0, none⟩ 0 (5, cur.size) (by have hg' : W.drew.heap[g']? = some (.cells cur 5 (0, 0)) := hg; simp [World.shape?, hg'])
  have c2 : (W.drew.alloc (.view ⟨g', 0, none⟩ 5)).cell? ⟨g, 1, none⟩ = some (.slice (some ⟨g', 0, none⟩) 0 0) := by
    have : (W.drew.alloc (.view ⟨g', 0, none⟩ 5)).heap[g]? = _ := (Lib.alloc_old W.drew _ g hlt).trans hbk
    rw [Lib.cell_of_heap this]; rfl
  have c3 : (W.alloc (.view ⟨g', 0, none⟩ 5)).drew.cell? ⟨g, 1, none⟩ = some (.slice (some ⟨g', 0, none⟩) 0 0) := c2
  have c0 : W.cell? ⟨g, 1, none⟩ = some (.slice (some ⟨g', 0, none⟩) 0 0) := c1
  go_enter Try.func53, Try.ntmps53
  go_wp2
  go_region
  all_goals (go_wp2; go_ret; exact ⟨rfl, (Below.drew (Below.refl B W)).alloc hBw _⟩)
set_option maxRecDepth 100000 in
theorem string_room (B g' cap : Nat) (hc0 : cap ≠ 0) (hbk : W.heap[g]? = some (.cells #[p, .slice (some ⟨g', 0, none⟩) 0 cap, .int .i64 col, .int .i64 pend, .bool wrong] 83 (0, 0))) :
    Calls Try.prog 53 #[.pointer (some ⟨g, 0, none⟩)] W fun e w' => e = .returned (.string ⟨#[]⟩) ∧ Below B W w' := by
  have hUS := unsafeString_none
  have c1 : W.drew.cell? ⟨g, 1, none⟩ = some (.slice (some ⟨g', 0, none⟩) 0 cap) := by
    have : W.drew.heap[g]? = some (.cells #[p, .slice (some ⟨g', 0, none⟩) 0 cap, .int .i64 col, .int .i64 pend, .bool wrong] 83 (0, 0)) := hbk
    rw [Lib.cell_of_heap this]; rfl
  have hSD : (Builtin.unsafeSliceData_ #[22] 116 #[.slice (some ⟨g', 0, none⟩) 0 cap]).run Try.prog W.drew = .ok (.pointer (some ⟨g', 0, none⟩)) W.drew :=
    Lib.run_unsafeSliceData_row _ _ _ _ _ _ hc0
  clear hc0
  go_enter Try.func53, Try.ntmps53
  go_wp2
  go_region
  all_goals (go_wp2; go_ret; exact ⟨rfl, Below.drew (Below.refl B W)⟩)
end
/-- (*strings.Builder).String of the writer's builder. -/
theorem string_calls (w0 W : World) (g : Nat) (out : List UInt8) (col pend : Int) (wrong : Bool) (h : WrSt w0 g out col pend wrong W) :
    Calls Try.prog 53 #[.pointer (some ⟨g, 0, none⟩)] W fun e w' => e = .returned (.string ⟨out.toArray⟩) ∧ Below w0.heap.size w0 w' := by
  obtain ⟨p, v, hb, hp, ho⟩ := h.hb
  rw [nums_bsI, bsI_length] at ho
  have key : Calls Try.prog 53 #[.pointer (some ⟨g, 0, none⟩)] W fun e w' => e = .returned (.string ⟨out.toArray⟩) ∧ Below w0.heap.size W w' := by
    cases out with
    | nil =>
      rcases ho.2 with ⟨rfl, _⟩ | ⟨g', cap, cur, rfl, hbg, hg, _, _, _, _⟩
      · exact string_nil W g p col pend wrong _ hb
      · by_cases hc0 : cap = 0
        · subst hc0
          exact string_noroom W g p col pend wrong _ g' cur h.bel.size hb hg
        · exact string_room W g p col pend wrong _ g' cap hc0 hb
    | cons x r =>
      obtain ⟨g', cap, rfl, _, _⟩ := ho.form (by simp)
      exact string_some W g p col pend wrong _ g' cap (x :: r) (by simp) hb ho
  exact key.mono fun e w' ⟨he, hb'⟩ => ⟨he, h.bel.trans hb'⟩
end Go.Proofs.Ythmmdmnbcecooaa.A
end

section
namespace Go.Proofs.Ythmmdmnbcecooaa.A
open Go.RowKit Go.Proofs.YthmmdmnbcecooaaW.PrintWords Go.Proofs.YthmmdmnbcecooaaW.PrintLast Go.Proofs.YthmmdmnbcecooaaW.PrintMore
set_option linter.unusedVariables false
set_option linter.unusedSimpArgs false
/-- What a writer holds. -/
structure St where
  out : List UInt8
  col : Int
  pend : Int
  wrong : Bool
def addO (st : St) (s : List UInt8) : Option St :=
  if s = [] then some st
  else if st.col = 0 then
    if 0 ≤ st.pend ∧ st.out.length + st.pend.toNat + s.length ≤ 140737488355328 then some ⟨st.out ++ (List.replicate st.pend.toNat 32 ++ s), st.pend + s.length, st.pend, st.wrong⟩ else none
  else if 0 ≤ st.col ∧ st.col ≤ 140737488355328 ∧ st.out.length + s.length ≤ 140737488355328 then some ⟨st.out ++ s, st.col + s.length, st.pend, st.wrong⟩ else none
def feedO (st : St) (indent : Int) : Option St :=
  if st.out.length + 1 ≤ 140737488355328 then some ⟨st.out ++ [10], 0, indent, st.wrong⟩ else none
def WrS (w0 : World) (g : Nat) (st : St) (W : World) : Prop := WrSt w0 g st.out st.col st.pend st.wrong W
def WrPost (w0 : World) (g : Nat) (st : St) (W : World) (e : Ending) (W' : World) : Prop :=
  e = .returned (.tuple #[]) ∧ WrS w0 g st W' ∧ KeepNot [83, 5] W W'
section
variable {w0 W : World} {g : Nat} {out : List UInt8} {col pend : Int} {wrong : Bool} (h : WrSt w0 g out col pend wrong W)
include h
theorem WrSt.cell2 : W.cell? ⟨g, 2, none⟩ = some (.int .i64 col) := by
  obtain ⟨p, v, hb, _⟩ := h.hb
  exact (blk_cell hb 2).trans rfl
theorem WrSt.cell3 : W.cell? ⟨g, 3, none⟩ = some (.int .i64 pend) := by
  obtain ⟨p, v, hb, _⟩ := h.hb
  exact (blk_cell hb 3).trans rfl
theorem WrSt.cell4 : W.cell? ⟨g, 4, none⟩ = some (.bool wrong) := by
  obtain ⟨p, v, hb, _⟩ := h.hb
  exact (blk_cell hb 4).trans rfl
theorem WrSt.free (i : Nat) : W.frozen? ⟨g, i, none⟩ = false := by
  obtain ⟨p, v, hb, _⟩ := h.hb
  exact blk_frozen hb i
theorem WrSt.set2 (c : Int) : WrSt w0 g out c pend wrong (W.setCell ⟨g, 2, none⟩ (.int .i64 c)) := by
  obtain ⟨p, v, hb, hp, ho⟩ := h.hb
  exact ⟨⟨p, v, blk_put (cs := #[p, v, .int .i64 col, .int .i64 pend, .bool wrong]) hb 2 _ rfl, hp, own_setCell ho (p := ⟨g, 2, none⟩) (own_ne ho hb (by decide)) _⟩, h.lo, h.bel.setCell (p := ⟨g, 2, none⟩) h.lo _⟩
theorem WrSt.set3 (c : Int) : WrSt w0 g out col c wrong (W.setCell ⟨g, 3, none⟩ (.int .i64 c)) := by
  obtain ⟨p, v, hb, hp, ho⟩ := h.hb
  exact ⟨⟨p, v, blk_put (cs := #[p, v, .int .i64 col, .int .i64 pend, .bool wrong]) hb 3 _ rfl, hp, own_setCell ho (p := ⟨g, 3, none⟩) (own_ne ho hb (by decide)) _⟩, h.lo, h.bel.setCell (p := ⟨g, 3, none⟩) h.lo _⟩
theorem WrSt.set4 (c : Bool) : WrSt w0 g out col pend c (W.setCell ⟨g, 4, none⟩ (.bool c)) := by
  obtain ⟨p, v, hb, hp, ho⟩ := h.hb
  exact ⟨⟨p, v, blk_put (cs := #[p, v, .int .i64 col, .int .i64 pend, .bool wrong]) hb 4 _ rfl, hp, own_setCell ho (p := ⟨g, 4, none⟩) (own_ne ho hb (by decide)) _⟩, h.lo, h.bel.setCell (p := ⟨g, 4, none⟩) h.lo _⟩
theorem WrSt.keep (i : Nat) (v : Value) : KeepNot [83, 5] W (W.setCell ⟨g, i, none⟩ v) := by
  obtain ⟨p, v', hb, _⟩ := h.hb
  exact KeepNot.setCell (p := ⟨g, i, none⟩) hb (by decide) v
end
set_option maxRecDepth 100000 in
theorem feed_calls (w0 W : World) (g : Nat) (st st' : St) (indent : Int) (h : WrS w0 g st W) (hf : feedO st indent = some st') :
    Calls Try.prog 122 #[.pointer (some ⟨g, 0, none⟩), .int .i64 indent] W (WrPost w0 g st' W) := by
  unfold feedO at hf
  split at hf
  case isFalse => cases hf
  case isTrue hl =>
    obtain rfl := Option.some.inj hf
    obtain ⟨out, col, pend, wrong⟩ := st
    have HS := Aside0.mk h
    have HL := Aside0.mk hl
    clear h hl hf
    go_enter Try.func122, Try.ntmps122
    go_wp2_with fail
    refine (writeByte_calls w0 W g out col pend wrong HS.out HL.out).mono ?_
    rintro e W1 ⟨rfl, h1, hk1⟩
    have c2 := h1.cell2
    have c3 := h1.cell3
    have f2 := h1.free 2
    have f3 := h1.free 3
    have H1 := Aside0.mk h1
    have HK := Aside0.mk hk1
    clear h1 hk1
    go_wp2_with fail
    go_end0
    exact ⟨rfl, (H1.out.set2 0).set3 indent, (HK.out.trans (H1.out.keep 2 _)).trans ((H1.out.set2 0).keep 3 _)⟩
theorem repeat_spaces (c : Nat) : Lib.repeatL [32] c = List.replicate c 32 := by
  induction c with
  | zero => rfl
  | succ c ih => simp only [Lib.repeatL, ih]; rfl
theorem spaces_data (c : Nat) : ((⟨(Lib.repeatL (⟨#[32]⟩ : ByteArray).data.toList c).toArray⟩ : ByteArray)).data.toList = List.replicate c 32 := by
  rw [← repeat_spaces]
theorem spaces_size (c : Nat) : ((⟨(Lib.repeatL (⟨#[32]⟩ : ByteArray).data.toList c).toArray⟩ : ByteArray)).size = c := by
  rw [← data_length, spaces_data, List.length_replicate]
set_option maxRecDepth 100000 in
theorem add_calls (w0 W : World) (g : Nat) (st st' : St) (s : ByteArray) (h : WrS w0 g st W) (hf : addO st s.data.toList = some st') :
    Calls Try.prog 120 #[.pointer (some ⟨g, 0, none⟩), .string s] W (WrPost w0 g st' W) := by
  obtain ⟨out, col, pend, wrong⟩ := st
  by_cases hs : s.data.toList = []
  · have he : s.toList = [] := by rw [ByteArray.toList_eq]; exact hs
    unfold addO at hf
    rw [if_pos hs] at hf
    obtain rfl := Option.some.inj hf
    have HS := Aside0.mk h
    clear h hf hs
    go_enter Try.func120, Try.ntmps120
    go_wp2_with fail
    go_end0
    exact ⟨rfl, HS.out, KeepNot.refl _ _⟩
  · have he : ¬ (s.toList = []) := by rw [ByteArray.toList_eq]; exact hs
    have hsz := data_length s
    have he2 : s.toList.isEmpty = false := by rw [List.isEmpty_eq_false_iff]; exact he
    unfold addO at hf
    rw [if_neg hs] at hf
    simp only at hf
    have c2 := WrSt.cell2 h
    have c3 := WrSt.cell3 h
    by_cases hc : col = 0
    · subst hc
      rw [if_pos rfl] at hf
      split at hf
      case isFalse => cases hf
      case isTrue hl =>
        obtain rfl := Option.some.inj hf
        obtain ⟨hl1, hl2⟩ := hl
        obtain ⟨c, rfl⟩ := Int.eq_ofNat_of_zero_le hl1
        rw [Int.toNat_natCast] at hl2 ⊢
        have HS := Aside0.mk h
        have HL := Aside0.mk hl2
        have hsz2 : s.size ≤ 140737488355328 := by omega
        have hcap : c ≤ 140737488355328 := by omega
        clear h hf hs hl2
        go_enter Try.func120, Try.ntmps120
        go_wp2_with fail
        have h1 := (HS.out : WrSt w0 g out 0 c wrong W).drewN 1
        have hd : WrSt w0 g out 0 c wrong W.drew := h1
        have HD := Aside0.mk hd
        have c3' : W.drew.cell? ⟨g, 3, none⟩ = some (.int .i64 c) := hd.cell3
        clear h1 hd
        go_region_with (first | (go_at_call 84; refine (Try.strings_Repeat ⟨#[32]⟩ c _ (by omega) (by rw [show (⟨#[32]⟩ : ByteArray).size = 1 from rfl]; omega)).mono ?_; rintro e w1 ⟨rfl, hb1⟩; have HB1 := Aside0.mk (HD.out.below hb1); have HK1 := Aside0.mk (KeepNot.below (bad := [83, 5]) hb1); clear hb1) | (go_at_call 92; refine (writeString_calls w0 _ g out 0 c wrong _ HB1.out (by rw [spaces_size]; have := HL.out; omega)).mono ?_; rintro e w2 ⟨rfl, h2, hk2⟩; have H2 := Aside0.mk h2; have HK2 := Aside0.mk hk2; clear h2 hk2))
        have h2 := H2.out
        rw [repeat_spaces] at h2
        have H3 := Aside0.mk h2
        have d3 := h2.cell3
        have f2 := h2.free 2
        have d2 := h2.cell2
        clear h2 H2 c2 c3 c3'
        go_wp2_with fail
        refine (writeString_calls w0 _ g _ c c wrong s (H3.out.set2 c) (by have := HL.out; rw [List.length_append, List.length_replicate]; omega)).mono ?_
        rintro e w3 ⟨rfl, h4, hk4⟩
        have H4 := Aside0.mk h4
        have HK4 := Aside0.mk hk4
        have d2 := h4.cell2
        have f2 := h4.free 2
        clear h4 hk4
        go_wp2_with fail
        go_end0
        refine ⟨rfl, ?_, ?_⟩
        · have := H4.out.set2 ((c : Int) + s.size)
          rw [List.append_assoc] at this
          show WrSt w0 g _ _ _ _ _
          rw [hsz]
          exact this
        · exact ((((KeepNot.drewN 1).trans HK1.out).trans HK2.out).trans ((H3.out.keep 2 _).trans HK4.out)).trans (H4.out.keep 2 _)
    · rw [if_neg hc] at hf
      split at hf
      case isFalse => cases hf
      case isTrue hl =>
        obtain rfl := Option.some.inj hf
        obtain ⟨hl0, hl1, hl2⟩ := hl
        have hcb : (col == 0) = false := beq_eq_false_iff_ne.2 hc
        have HS := Aside0.mk h
        have HL := Aside0.mk (show out.length + s.data.toList.length ≤ 140737488355328 from hl2)
        have hsz2 : s.size ≤ 140737488355328 := by omega
        clear h hf hs hl2 hc
        go_enter Try.func120, Try.ntmps120
        go_wp2_with fail
        refine (writeString_calls w0 _ g out col pend wrong s HS.out (by have := HL.out; omega)).mono ?_
        rintro e w3 ⟨rfl, h4, hk4⟩
        have H4 := Aside0.mk h4
        have HK4 := Aside0.mk hk4
        have d2 := h4.cell2
        have f2 := h4.free 2
        clear h4 hk4
        go_wp2_with fail
        go_end0
        refine ⟨rfl, ?_, HK4.out.trans (H4.out.keep 2 _)⟩
        have := H4.out.set2 (col + s.size)
        show WrSt w0 g _ _ _ _ _
        rw [hsz]
        exact this
end Go.Proofs.Ythmmdmnbcecooaa.A
end

section
namespace Go.Proofs.Ythmmdmnbcecooaa.A
open Go.RowKit Go.Proofs.YthmmdmnbcecooaaW.PrintWords Go.Proofs.YthmmdmnbcecooaaW.PrintLast Go.Proofs.YthmmdmnbcecooaaW.PrintMore
set_option linter.unusedVariables false
set_option linter.unusedSimpArgs false
/-- A tree as document's parts: the values in memory. -/
def partV (ch : Nat → Bool) : Doc → Value
  | .text s => .iface 104 (.string s)
  | .line s => .iface 105 (.string s)
  | .hard => .iface 107 (.agg #[])
  | .seq a b => .iface 109 (.agg #[partV ch a, partV ch b])
  | .nest n a => .iface 111 (.agg #[.int .i64 n, partV ch a])
  | .align a => .iface 113 (.agg #[partV ch a])
  | .group i a => .iface 115 (.agg #[partV ch a, .bool (ch i)])
def partF : Doc → Nat
  | .text _ => 119
  | .line _ => 121
  | .hard => 124
  | .seq _ _ => 125
  | .nest _ _ => 126
  | .align _ => 127
  | .group _ _ => 128
def partT : Doc → Nat
  | .text _ => 104
  | .line _ => 105
  | .hard => 107
  | .seq _ _ => 109
  | .nest _ _ => 111
  | .align _ => 113
  | .group _ _ => 115
def partP (ch : Nat → Bool) : Doc → Value
  | .text s => .string s
  | .line s => .string s
  | .hard => .agg #[]
  | .seq a b => .agg #[partV ch a, partV ch b]
  | .nest n a => .agg #[.int .i64 n, partV ch a]
  | .align a => .agg #[partV ch a]
  | .group i a => .agg #[partV ch a, .bool (ch i)]
theorem partV_eq (ch : Nat → Bool) (t : Doc) : partV ch t = .iface (partT t) (partP ch t) := by cases t <;> rfl
/-- What writing a tree comes to; none: beyond a bound. -/
def wrO (ch : Nat → Bool) : Doc → Int → Bool → St → Option St
  | .text s, _, _, st => addO st s.data.toList
  | .line s, ind, flat, st => if flat then addO st s.data.toList else feedO st ind
  | .hard, ind, flat, st => feedO { st with wrong := st.wrong || flat } ind
  | .seq a b, ind, flat, st => (wrO ch a ind flat st).bind (wrO ch b ind flat)
  | .nest n a, ind, flat, st => if 0 ≤ ind + n ∧ ind + n ≤ 4611686018427387904 then wrO ch a (ind + n) flat st else none
  | .align a, _, flat, st => wrO ch a (if st.col = 0 then st.pend else st.col) flat st
  | .group i a, ind, flat, st => wrO ch a ind (flat || ch i) st
def WriteOk (ch : Nat → Bool) (t : Doc) : Prop :=
  ∀ (w0 W : World) (g : Nat) (ind : Int) (flat : Bool) (st st' : St), WrS w0 g st W → wrO ch t ind flat st = some st' →
    Calls Try.prog (partF t) #[partP ch t, .pointer (some ⟨g, 0, none⟩), .agg #[.int .i64 ind, .bool flat]] W (WrPost w0 g st' W)
theorem WrS.alloc {w0 W : World} {g : Nat} {st : St} (h : WrS w0 g st W) (o : Obj) : WrS w0 g st (W.alloc o) := WrSt.alloc h o
set_option maxRecDepth 100000 in
theorem write_text (ch : Nat → Bool) (s : ByteArray) : WriteOk ch (.text s) := by
  intro w0 W g ind flat st st' h hw
  have HS := Aside0.mk h
  have HW := Aside0.mk (show addO st s.data.toList = some st' from hw)
  clear h hw
  show Calls Try.prog 119 #[.string s, .pointer (some ⟨g, 0, none⟩), .agg #[.int .i64 ind, .bool flat]] W (WrPost w0 g st' W)
  go_enter Try.func119, Try.ntmps119
  go_wp2_with fail
  refine (add_calls w0 _ g st st' s (HS.out.alloc _) HW.out).mono ?_
  rintro e W1 ⟨rfl, h1, hk1⟩
  have H1 := Aside0.mk h1
  have HK := Aside0.mk ((KeepNot.alloc _).trans hk1)
  clear h1 hk1
  go_wp2_with fail
  go_end0
  exact ⟨rfl, H1.out, HK.out⟩
set_option maxRecDepth 100000 in
theorem write_line (ch : Nat → Bool) (s : ByteArray) : WriteOk ch (.line s) := by
  intro w0 W g ind flat st st' h hw
  show Calls Try.prog 121 #[.string s, .pointer (some ⟨g, 0, none⟩), .agg #[.int .i64 ind, .bool flat]] W (WrPost w0 g st' W)
  have HS := Aside0.mk h
  clear h
  cases flat with
  | true =>
    have HW := Aside0.mk (show addO st s.data.toList = some st' from hw)
    clear hw
    go_enter Try.func121, Try.ntmps121
    go_wp2_with fail
    refine (add_calls w0 _ g st st' s (HS.out.alloc _) HW.out).mono ?_
    rintro e W1 ⟨rfl, h1, hk1⟩
    have H1 := Aside0.mk h1
    have HK := Aside0.mk ((KeepNot.alloc _).trans hk1)
    clear h1 hk1
    go_wp2_with fail
    go_end0
    exact ⟨rfl, H1.out, HK.out⟩
  | false =>
    have HW := Aside0.mk (show feedO st ind = some st' from hw)
    clear hw
    go_enter Try.func121, Try.ntmps121
    go_wp2_with fail
    refine (feed_calls w0 _ g st st' ind (HS.out.alloc _) HW.out).mono ?_
    rintro e W1 ⟨rfl, h1, hk1⟩
    have H1 := Aside0.mk h1
    have HK := Aside0.mk ((KeepNot.alloc _).trans hk1)
    clear h1 hk1
    go_wp2_with fail
    go_end0
    exact ⟨rfl, H1.out, HK.out⟩
set_option maxRecDepth 100000 in
theorem write_hard (ch : Nat → Bool) : WriteOk ch .hard := by
  intro w0 W g ind flat st st' h hw
  show Calls Try.prog 124 #[.agg #[], .pointer (some ⟨g, 0, none⟩), .agg #[.int .i64 ind, .bool flat]] W (WrPost w0 g st' W)
  obtain ⟨out, col, pend, wrong⟩ := st
  have h' : WrSt w0 g out col pend wrong W := h
  have hlt := h'.lt
  have c4 := h'.cell4
  have f4 := h'.free 4
  have HS := Aside0.mk h'
  have HW := Aside0.mk (show feedO ⟨out, col, pend, wrong || flat⟩ ind = some st' from hw)
  clear h hw h'
  cases wrong with
  | true =>
    go_enter Try.func124, Try.ntmps124
    go_wp2_with fail
    refine (feed_calls w0 _ g ⟨out, col, pend, true⟩ st' ind (((HS.out.set4 true).alloc _).alloc _) HW.out).mono ?_
    rintro e W1 ⟨rfl, h1, hk1⟩
    have H1 := Aside0.mk h1
    have HK := Aside0.mk ((((HS.out.keep 4 _).trans (KeepNot.alloc _)).trans (KeepNot.alloc _)).trans hk1)
    clear h1 hk1
    go_wp2_with fail
    go_end0
    exact ⟨rfl, H1.out, HK.out⟩
  | false =>
    go_enter Try.func124, Try.ntmps124
    go_wp2_with fail
    refine (feed_calls w0 _ g ⟨out, col, pend, flat⟩ st' ind (((HS.out.set4 flat).alloc _).alloc _) HW.out).mono ?_
    rintro e W1 ⟨rfl, h1, hk1⟩
    have H1 := Aside0.mk h1
    have HK := Aside0.mk ((((HS.out.keep 4 _).trans (KeepNot.alloc _)).trans (KeepNot.alloc _)).trans hk1)
    clear h1 hk1
    go_wp2_with fail
    go_end0
    exact ⟨rfl, H1.out, HK.out⟩
theorem part_method (ch : Nat → Bool) (t : Doc) (w : World) : (method 277 (partT t) (partP ch t) "koine/document.write").run Try.prog w = .ok (partF t, partP ch t) w := by
  cases t <;> kernel_rfl
theorem part_enters (t : Doc) (args : Array Value) (w : World) : (callFunc (partF t) args).run Try.prog w = .ok (.enter (partF t) args) w := by
  cases t
  · exact enters_of Try.func119 (by kernel_rfl) rfl args w
  · exact enters_of Try.func121 (by kernel_rfl) rfl args w
  · exact enters_of Try.func124 (by kernel_rfl) rfl args w
  · exact enters_of Try.func125 (by kernel_rfl) rfl args w
  · exact enters_of Try.func126 (by kernel_rfl) rfl args w
  · exact enters_of Try.func127 (by kernel_rfl) rfl args w
  · exact enters_of Try.func128 (by kernel_rfl) rfl args w
set_option maxRecDepth 100000 in
theorem write_seq (ch : Nat → Bool) (a b : Doc) (iha : WriteOk ch a) (ihb : WriteOk ch b) : WriteOk ch (.seq a b) := by
  intro w0 W g ind flat st st' h hw
  show Calls Try.prog 125 #[.agg #[partV ch a, partV ch b], .pointer (some ⟨g, 0, none⟩), .agg #[.int .i64 ind, .bool flat]] W (WrPost w0 g st' W)
  obtain ⟨st1, hw1, hw2⟩ := Option.bind_eq_some_iff.1 (show (wrO ch a ind flat st).bind (wrO ch b ind flat) = some st' from hw)
  have HS := Aside0.mk h
  have HW1 := Aside0.mk hw1
  have HW2 := Aside0.mk hw2
  have IA := Aside0.mk iha
  have IB := Aside0.mk ihb
  clear h hw hw1 hw2 iha ihb
  rw [partV_eq ch a, partV_eq ch b]
  have hma := part_method ch a
  have hmb := part_method ch b
  have hea := part_enters a
  have heb := part_enters b
  go_enter Try.func125, Try.ntmps125
  go_wp2_with fail
  refine (IA.out w0 _ g ind flat st st1 ((HS.out.alloc _).alloc _) HW1.out).mono ?_
  rintro e W1 ⟨rfl, h1, hk1⟩
  have k3 := hk1.keep W.heap.size _ 109 (0, 0) (by decide) (blk_alloc (heap_alloc_new W _) _)
  have k5 := hk1.keep (W.heap.size + 1) #[.int .i64 ind, .bool flat] 89 (0, 0) (by decide) (by simpa using heap_alloc_new (W.alloc _) _)
  have m31 : W1.cell? ⟨W.heap.size, 1, none⟩ = some (.iface (partT b) (partP ch b)) := (blk_cell k3 1).trans rfl
  have m50 : W1.cell? ⟨W.heap.size + 1, 0, none⟩ = some (.int .i64 ind) := (blk_cell k5 0).trans rfl
  have m51 : W1.cell? ⟨W.heap.size + 1, 1, none⟩ = some (.bool flat) := (blk_cell k5 1).trans rfl
  have H1 := Aside0.mk h1
  have HK := Aside0.mk (((KeepNot.alloc _).trans (KeepNot.alloc _)).trans hk1)
  clear h1 hk1 k3 k5
  go_wp2_with fail
  refine (IB.out w0 _ g ind flat st1 st' H1.out HW2.out).mono ?_
  rintro e W2 ⟨rfl, h2, hk2⟩
  have H2 := Aside0.mk h2
  have HK2 := Aside0.mk (HK.out.trans hk2)
  clear h2 hk2
  go_wp2_with fail
  go_end0
  exact ⟨rfl, H2.out, HK2.out⟩
set_option maxRecDepth 100000 in
theorem write_nest (ch : Nat → Bool) (n : Int) (a : Doc) (iha : WriteOk ch a) : WriteOk ch (.nest n a) := by
  intro w0 W g ind flat st st' h hw
  show Calls Try.prog 126 #[.agg #[.int .i64 n, partV ch a], .pointer (some ⟨g, 0, none⟩), .agg #[.int .i64 ind, .bool flat]] W (WrPost w0 g st' W)
  simp only [wrO] at hw
  split at hw
  case isFalse => cases hw
  case isTrue hr =>
  obtain ⟨hr0, hr1⟩ := hr
  have HS := Aside0.mk h
  have HW1 := Aside0.mk hw
  have IA := Aside0.mk iha
  clear h hw iha
  rw [partV_eq ch a]
  have hma := part_method ch a
  have hea := part_enters a
  go_enter Try.func126, Try.ntmps126
  go_wp2_with fail
  refine (IA.out w0 _ g (ind + n) flat st st' ((HS.out.alloc _).alloc _) HW1.out).mono ?_
  rintro e W1 ⟨rfl, h1, hk1⟩
  have H1 := Aside0.mk h1
  have HK := Aside0.mk (((KeepNot.alloc _).trans (KeepNot.alloc _)).trans hk1)
  clear h1 hk1
  go_wp2_with fail
  go_end0
  exact ⟨rfl, H1.out, HK.out⟩
set_option maxRecDepth 100000 in
theorem write_align (ch : Nat → Bool) (a : Doc) (iha : WriteOk ch a) : WriteOk ch (.align a) := by
  intro w0 W g ind flat st st' h hw
  show Calls Try.prog 127 #[.agg #[partV ch a], .pointer (some ⟨g, 0, none⟩), .agg #[.int .i64 ind, .bool flat]] W (WrPost w0 g st' W)
  simp only [wrO] at hw
  have hlt := WrSt.lt h
  have c2 := WrSt.cell2 h
  have c3 := WrSt.cell3 h
  have HS := Aside0.mk h
  have IA := Aside0.mk iha
  clear h iha
  rw [partV_eq ch a]
  have hma := part_method ch a
  have hea := part_enters a
  by_cases hc : st.col = 0
  · rw [if_pos hc] at hw
    rw [hc] at c2
    have HW1 := Aside0.mk hw
    clear hw hc
    go_enter Try.func127, Try.ntmps127
    go_wp2_with fail
    refine (IA.out w0 _ g st.pend flat st st' ((HS.out.alloc _).alloc _) HW1.out).mono ?_
    rintro e W1 ⟨rfl, h1, hk1⟩
    have H1 := Aside0.mk h1
    have HK := Aside0.mk (((KeepNot.alloc _).trans (KeepNot.alloc _)).trans hk1)
    clear h1 hk1
    go_wp2_with fail
    go_end0
    exact ⟨rfl, H1.out, HK.out⟩
  · rw [if_neg hc] at hw
    have hcb : (st.col == 0) = false := beq_eq_false_iff_ne.2 hc
    have HW1 := Aside0.mk hw
    clear hw hc
    go_enter Try.func127, Try.ntmps127
    go_wp2_with fail
    refine (IA.out w0 _ g st.col flat st st' ((HS.out.alloc _).alloc _) HW1.out).mono ?_
    rintro e W1 ⟨rfl, h1, hk1⟩
    have H1 := Aside0.mk h1
    have HK := Aside0.mk (((KeepNot.alloc _).trans (KeepNot.alloc _)).trans hk1)
    clear h1 hk1
    go_wp2_with fail
    go_end0
    exact ⟨rfl, H1.out, HK.out⟩
set_option maxRecDepth 100000 in
theorem write_group (ch : Nat → Bool) (i : Nat) (a : Doc) (iha : WriteOk ch a) : WriteOk ch (.group i a) := by
  intro w0 W g ind flat st st' h hw
  show Calls Try.prog 128 #[.agg #[partV ch a, .bool (ch i)], .pointer (some ⟨g, 0, none⟩), .agg #[.int .i64 ind, .bool flat]] W (WrPost w0 g st' W)
  simp only [wrO] at hw
  have HS := Aside0.mk h
  have IA := Aside0.mk iha
  generalize ch i = b at hw ⊢
  have HW1 := Aside0.mk hw
  clear h iha hw
  rw [partV_eq ch a]
  have hma := part_method ch a
  have hea := part_enters a
  cases flat with
  | true =>
    go_enter Try.func128, Try.ntmps128
    go_wp2_with fail
    refine (IA.out w0 _ g ind true st st' ((HS.out.alloc _).alloc _) (by have := HW1.out; simpa using this)).mono ?_
    rintro e W1 ⟨rfl, h1, hk1⟩
    have H1 := Aside0.mk h1
    have HK := Aside0.mk (((KeepNot.alloc _).trans (KeepNot.alloc _)).trans hk1)
    clear h1 hk1
    go_wp2_with fail
    go_end0
    exact ⟨rfl, H1.out, HK.out⟩
  | false =>
    go_enter Try.func128, Try.ntmps128
    go_wp2_with fail
    refine (IA.out w0 _ g ind b st st' ((HS.out.alloc _).alloc _) (by have := HW1.out; simpa using this)).mono ?_
    rintro e W1 ⟨rfl, h1, hk1⟩
    have H1 := Aside0.mk h1
    have HK := Aside0.mk (((KeepNot.alloc _).trans (KeepNot.alloc _)).trans hk1)
    clear h1 hk1
    go_wp2_with fail
    go_end0
    exact ⟨rfl, H1.out, HK.out⟩
theorem write_any (ch : Nat → Bool) (t : Doc) : WriteOk ch t := by
  induction t with
  | text s => exact write_text ch s
  | line s => exact write_line ch s
  | hard => exact write_hard ch
  | seq a b iha ihb => exact write_seq ch a b iha ihb
  | nest n a iha => exact write_nest ch n a iha
  | align a iha => exact write_align ch a iha
  | group i a iha => exact write_group ch i a iha
end Go.Proofs.Ythmmdmnbcecooaa.A
end

section
namespace Go.Proofs.Ythmmdmnbcecooaa.A
open Go.RowKit Go.Proofs.YthmmdmnbcecooaaW.PrintWords Go.Proofs.YthmmdmnbcecooaaW.PrintLast Go.Proofs.YthmmdmnbcecooaaW.PrintMore
set_option linter.unusedVariables false
set_option linter.unusedSimpArgs false
theorem info85 : (Try.prog.info? 85).map (fun i => (i.zero, i.size, i.bytes)) = some (some .nilIface, 1, 16) := by kernel_rfl
def partsL (ch : Nat → Bool) (l : List S42) (n i : Nat) : List Value := (List.range n).map fun j => if j < i then partV ch (tree l j) else .nilIface
theorem partsL_get (ch : Nat → Bool) (l : List S42) (n i j : Nat) (hj : j < i) (hi : i ≤ n) : (partsL ch l n i)[j]? = some (partV ch (tree l j)) := by
  simp [partsL, hj, show j < n by omega]
theorem partsL_set (ch : Nat → Bool) (l : List S42) (n i : Nat) (hi : i < n) : (partsL ch l n i).set i (partV ch (tree l i)) = partsL ch l n (i + 1) := by
  apply List.ext_getElem
  · simp [partsL]
  · intro j h1 h2
    simp only [partsL, List.getElem_set, List.getElem_map, List.getElem_range]
    by_cases h : i = j
    · subst h; simp
    · rw [if_neg h]
      by_cases h3 : j < i
      · rw [if_pos h3, if_pos (by omega)]
      · rw [if_neg h3, if_neg (by omega)]
theorem partsL_start (ch : Nat → Bool) (l : List S42) (n : Nat) : (madeCells #[Value.nilIface] n) = (partsL ch l n 0).toArray := by
  apply Array.ext
  · simp [madeCells, partsL]
  · intro i h1 h2
    simp [madeCells, partsL, Nat.mod_one]
theorem parts_put {W : World} {g : Nat} {ch : Nat → Bool} {l : List S42} {n i : Nat} {v : Value} (h : W.heap[g]? = some (.cells (partsL ch l n i).toArray 85 (0, 0))) (hi : i < n) (hv : v = partV ch (tree l i)) :
    (W.setCell ⟨g, i, none⟩ v).heap[g]? = some (.cells (partsL ch l n (i + 1)).toArray 85 (0, 0)) := by
  rw [blk_set h i v, hv]
  simp only [List.setIfInBounds_toArray, partsL_set ch l n i hi]
theorem blk_old_alloc {W : World} {g : Nat} (h : g < W.heap.size) (o : Obj) : (W.alloc o).heap[g]? = W.heap[g]? := ((Below.refl W.heap.size W).alloc (Nat.le_refl _) o).block g h
set_option maxHeartbeats 1000000 in
set_option maxRecDepth 100000 in
theorem parts_calls (ad : Addr) (c gm : Nat) (l : List S42) (ch : Nat → Bool) (w : World) (hn : l.length ≤ 65536) (hp : 0 < l.length) (hv : ∀ i, i < l.length → NodeOk i (l.getD i z42)) (hr0 : Kd.C k42 w (some ad) l.length l) (hc : l.length ≤ c) (hgm : gm < w.heap.size)
    (hm : ∀ W, W.heap[gm]? = w.heap[gm]? → ∀ i : Nat, i < l.length → (Instr.lookup 77 (.map (some gm)) (.int .i64 i) false).run Try.prog W = .ok (.bool (ch i)) W) :
    Calls Try.prog 52 #[.slice (some ad) l.length c, .map (some gm)] w fun e w' => e = .returned (partV ch (tree l (l.length - 1))) ∧ Below w.heap.size w w' := by
  have hu42 := Try.underlying42
  have HR := Aside0.mk hr0
  have HM := Aside0.mk hm
  have HV := Aside0.mk hv
  clear hr0 hm hv
  have hmk := print_make_of (P := Try.prog) 103 85 .nilIface 16 Try.underlying103 info85 rfl (by decide) l.length (by omega)
  go_enter Try.func52, Try.ntmps52
  go_wp2_with fail
  go_loopg [13] l.length (fun d v13 W => ∃ (i : Nat), v13 = .int .i64 i ∧ Aside0 (i + d = l.length) ∧ Aside0 (W.heap[w.heap.size]? = some (.cells (partsL ch l l.length i).toArray 85 (0, 0))) ∧ Aside0 (Below w.heap.size w W))
  case atStart => exact ⟨0, rfl, ⟨by simp⟩, ⟨by rw [partsL_start ch l]; exact heap_alloc_new w _⟩, ⟨(Below.refl _ _).alloc (Nat.le_refl _) _⟩⟩
  case round =>
    obtain ⟨i, rfl, HI, HA, HB⟩ := hrel
    by_cases hlt : i < l.length
    · obtain ⟨k, s, n, a, b, hx⟩ : ∃ k s n a b, l.getD i z42 = ⟨k, s, n, a, b⟩ := ⟨_, _, _, _, _, rfl⟩
      obtain ⟨k0, k1, k2, k3, k4⟩ := cells42 HR.out hlt hx HB.out
      have ho := HV.out i hlt
      rw [hx] at ho
      have hkind : k = 0 ∨ k = 1 ∨ k = 2 ∨ k = 3 ∨ k = 4 ∨ k = 5 ∨ k = 6 := by have := ho.kind; simp only at this; omega
      have hfz : wr.frozen? ⟨w.heap.size, i, none⟩ = false := blk_frozen HA.out i
      have hci : wr.cell? ⟨w.heap.size, i, none⟩ = some .nilIface := by
        rw [blk_cell HA.out i]
        simp [partsL, hlt]
      have hws : w.heap.size < wr.heap.size := blk_lt HA.out
      have HX := Aside0.mk hx
      have HO := Aside0.mk ho
      clear hx ho
      obtain ⟨d', hd'⟩ : ∃ d', gk = d' + 1 := ⟨gk - 1, by have := HI.out; omega⟩
      have HD := Aside0.mk hd'
      clear hd'
      rcases hkind with rfl | rfl | rfl | rfl | rfl | rfl | rfl
      · have HV2 := Aside0.mk (show Value.iface 104 (Value.string s) = partV ch (tree l i) by rw [tree_text (by rw [HX.out]), HX.out]; rfl)
        go_wp2_with fail
        go_roundg d'
        case measure => have := HD.out; omega
        case rel => exact ⟨i + 1, by go_num, ⟨by have := HI.out; have := HD.out; omega⟩, ⟨by (with_reducible repeat (first | refine blk_drewN ?_ _ | refine blk_drew ?_ | refine blk_alloc ?_ _)); exact parts_put HA.out hlt HV2.out⟩, ⟨by repeat (first | (with_reducible first | exact HB.out | apply below_alloc | apply pw_below_drewN | apply below_drew1 | refine below_set ?_ (Nat.le_refl _)) | exact HB.out)⟩⟩
      · have HV2 := Aside0.mk (show Value.iface 105 (Value.string s) = partV ch (tree l i) by rw [tree_line (by rw [HX.out]), HX.out]; rfl)
        go_wp2_with fail
        go_roundg d'
        case measure => have := HD.out; omega
        case rel => exact ⟨i + 1, by go_num, ⟨by have := HI.out; have := HD.out; omega⟩, ⟨by (with_reducible repeat (first | refine blk_drewN ?_ _ | refine blk_drew ?_ | refine blk_alloc ?_ _)); exact parts_put HA.out hlt HV2.out⟩, ⟨by repeat (first | (with_reducible first | exact HB.out | apply below_alloc | apply pw_below_drewN | apply below_drew1 | refine below_set ?_ (Nat.le_refl _)) | exact HB.out)⟩⟩
      · have HV2 := Aside0.mk (show Value.iface 107 (Value.agg #[]) = partV ch (tree l i) by rw [tree_hard (by rw [HX.out])]; rfl)
        go_wp2_with fail
        go_roundg d'
        case measure => have := HD.out; omega
        case rel => exact ⟨i + 1, by go_num, ⟨by have := HI.out; have := HD.out; omega⟩, ⟨by (with_reducible repeat (first | refine blk_drewN ?_ _ | refine blk_drew ?_ | refine blk_alloc ?_ _)); exact parts_put HA.out hlt HV2.out⟩, ⟨by repeat (first | (with_reducible first | exact HB.out | apply below_alloc | apply pw_below_drewN | apply below_drew1 | refine below_set ?_ (Nat.le_refl _)) | exact HB.out)⟩⟩
      · obtain ⟨ha0, ha1⟩ := HO.out.a (by simp)
        obtain ⟨hb0, hb1⟩ := HO.out.b rfl
        obtain ⟨a', rfl⟩ := Int.eq_ofNat_of_zero_le (show 0 ≤ a from ha0)
        obtain ⟨b', rfl⟩ := Int.eq_ofNat_of_zero_le (show 0 ≤ b from hb0)
        have ha1 : a' < i := by simp only at ha1; omega
        have hb1 : b' < i := by simp only at hb1; omega
        have hca : wr.cell? ⟨w.heap.size, a', none⟩ = some (.iface (partT (tree l a')) (partP ch (tree l a'))) := by
          rw [blk_cell HA.out a', ← partV_eq]
          simpa using partsL_get ch l l.length i a' ha1 (by omega)
        have ha2 : a' < l.length := by omega
        have hcb : wr.cell? ⟨w.heap.size, b', none⟩ = some (.iface (partT (tree l b')) (partP ch (tree l b'))) := by
          rw [blk_cell HA.out b', ← partV_eq]
          simpa using partsL_get ch l l.length i b' hb1 (by omega)
        have hb2 : b' < l.length := by omega
        have HV2 := Aside0.mk (show Value.iface 109 (.agg #[.iface (partT (tree l a')) (partP ch (tree l a')), .iface (partT (tree l b')) (partP ch (tree l b'))]) = partV ch (tree l i) by rw [tree_seq HV.out hlt (by rw [HX.out]), HX.out]; simp only [partV, partV_eq, Int.toNat_natCast])
        go_wp2_with fail
        go_region
        go_wp2_with fail
        go_roundg d'
        case measure => have := HD.out; omega
        case rel => exact ⟨i + 1, by go_num, ⟨by have := HI.out; have := HD.out; omega⟩, ⟨by (with_reducible repeat (first | refine blk_drewN ?_ _ | refine blk_drew ?_ | refine blk_alloc ?_ _)); exact parts_put HA.out hlt HV2.out⟩, ⟨by repeat (first | (with_reducible first | exact HB.out | apply below_alloc | apply pw_below_drewN | apply below_drew1 | refine below_set ?_ (Nat.le_refl _)) | exact HB.out)⟩⟩
      · obtain ⟨ha0, ha1⟩ := HO.out.a (by simp)
        obtain ⟨a', rfl⟩ := Int.eq_ofNat_of_zero_le (show 0 ≤ a from ha0)
        have ha1 : a' < i := by simp only at ha1; omega
        have hca : wr.cell? ⟨w.heap.size, a', none⟩ = some (.iface (partT (tree l a')) (partP ch (tree l a'))) := by
          rw [blk_cell HA.out a', ← partV_eq]
          simpa using partsL_get ch l l.length i a' ha1 (by omega)
        have ha2 : a' < l.length := by omega
        have HV2 := Aside0.mk (show Value.iface 111 (.agg #[.int .i64 n, .iface (partT (tree l a')) (partP ch (tree l a'))]) = partV ch (tree l i) by rw [tree_nest HV.out hlt (by rw [HX.out]), HX.out]; simp only [partV, partV_eq, Int.toNat_natCast])
        go_wp2_with fail
        go_region
        go_wp2_with fail
        go_roundg d'
        case measure => have := HD.out; omega
        case rel => exact ⟨i + 1, by go_num, ⟨by have := HI.out; have := HD.out; omega⟩, ⟨by (with_reducible repeat (first | refine blk_drewN ?_ _ | refine blk_drew ?_ | refine blk_alloc ?_ _)); exact parts_put HA.out hlt HV2.out⟩, ⟨by repeat (first | (with_reducible first | exact HB.out | apply below_alloc | apply pw_below_drewN | apply below_drew1 | refine below_set ?_ (Nat.le_refl _)) | exact HB.out)⟩⟩
      · obtain ⟨ha0, ha1⟩ := HO.out.a (by simp)
        obtain ⟨a', rfl⟩ := Int.eq_ofNat_of_zero_le (show 0 ≤ a from ha0)
        have ha1 : a' < i := by simp only at ha1; omega
        have hca : wr.cell? ⟨w.heap.size, a', none⟩ = some (.iface (partT (tree l a')) (partP ch (tree l a'))) := by
          rw [blk_cell HA.out a', ← partV_eq]
          simpa using partsL_get ch l l.length i a' ha1 (by omega)
        have ha2 : a' < l.length := by omega
        have HV2 := Aside0.mk (show Value.iface 113 (.agg #[.iface (partT (tree l a')) (partP ch (tree l a'))]) = partV ch (tree l i) by rw [tree_align HV.out hlt (by rw [HX.out]), HX.out]; simp only [partV, partV_eq, Int.toNat_natCast])
        go_wp2_with fail
        go_roundg d'
        case measure => have := HD.out; omega
        case rel => exact ⟨i + 1, by go_num, ⟨by have := HI.out; have := HD.out; omega⟩, ⟨by (with_reducible repeat (first | refine blk_drewN ?_ _ | refine blk_drew ?_ | refine blk_alloc ?_ _)); exact parts_put HA.out hlt HV2.out⟩, ⟨by repeat (first | (with_reducible first | exact HB.out | apply below_alloc | apply pw_below_drewN | apply below_drew1 | refine below_set ?_ (Nat.le_refl _)) | exact HB.out)⟩⟩
      · obtain ⟨ha0, ha1⟩ := HO.out.a (by simp)
        obtain ⟨a', rfl⟩ := Int.eq_ofNat_of_zero_le (show 0 ≤ a from ha0)
        have ha1 : a' < i := by simp only at ha1; omega
        have hca : wr.cell? ⟨w.heap.size, a', none⟩ = some (.iface (partT (tree l a')) (partP ch (tree l a'))) := by
          rw [blk_cell HA.out a', ← partV_eq]
          simpa using partsL_get ch l l.length i a' ha1 (by omega)
        have ha2 : a' < l.length := by omega
        have HV2 := Aside0.mk (show Value.iface 115 (.agg #[.iface (partT (tree l a')) (partP ch (tree l a')), .bool (ch i)]) = partV ch (tree l i) by rw [tree_group HV.out hlt (by rw [HX.out]), HX.out]; simp only [partV, partV_eq, Int.toNat_natCast])
        have hlk := HM.out ((wr.alloc (Obj.cells #[Value.int IntKind.i64 6, Value.string s, Value.int IntKind.i64 n, Value.int IntKind.i64 a', Value.int IntKind.i64 b] 42)).drew) ((blk_old_alloc (by omega) _).trans (HB.out.block gm hgm)) i hlt
        go_wp2_with fail
        go_region
        go_wp2_with fail
        go_roundg d'
        case measure => have := HD.out; omega
        case rel => exact ⟨i + 1, by go_num, ⟨by have := HI.out; have := HD.out; omega⟩, ⟨by (with_reducible repeat (first | refine blk_drewN ?_ _ | refine blk_drew ?_ | refine blk_alloc ?_ _)); exact parts_put HA.out hlt HV2.out⟩, ⟨by repeat (first | (with_reducible first | exact HB.out | apply below_alloc | apply pw_below_drewN | apply below_drew1 | refine below_set ?_ (Nat.le_refl _)) | exact HB.out)⟩⟩
    · have hi : i = l.length := by have := HI.out; omega
      have hcl : wr.cell? ⟨w.heap.size, l.length - 1, none⟩ = some (.iface (partT (tree l (l.length - 1))) (partP ch (tree l (l.length - 1)))) := by
        rw [blk_cell HA.out, ← partV_eq]
        simpa using partsL_get ch l l.length i (l.length - 1) (by omega) (by omega)
      clear hi
      go_wp2_with fail
      go_ret
      exact ⟨by rw [partV_eq]; rfl, HB.out⟩
end Go.Proofs.Ythmmdmnbcecooaa.A
end

section
namespace Go.Proofs.Ythmmdmnbcecooaa.A
open Go.RowKit Go.Proofs.YthmmdmnbcecooaaW.PrintWords Go.Proofs.YthmmdmnbcecooaaW.PrintLast Go.Proofs.YthmmdmnbcecooaaW.PrintMore
open Go.Instr
set_option linter.unusedVariables false
set_option linter.unusedSimpArgs false
def mkEs : List (Nat × Bool) → Nat → List MapEntry
  | [], _ => []
  | p :: t, j => { key := .int .i64 p.1, val := .bool p.2, born := j } :: mkEs t (j + 1)
/-- What the map says of a key. -/
def chOf : List (Nat × Bool) → Nat → Bool
  | [], _ => false
  | p :: t, i => if p.1 = i then p.2 else chOf t i
theorem mkEs_snoc : ∀ (ps : List (Nat × Bool)) (j : Nat) (p : Nat × Bool), mkEs (ps ++ [p]) j = mkEs ps j ++ [{ key := .int .i64 p.1, val := .bool p.2, born := j + ps.length }]
  | [], j, p => rfl
  | q :: t, j, p => by simp only [List.cons_append, mkEs, mkEs_snoc t (j + 1) p, List.length_cons]; rw [show j + 1 + t.length = j + (t.length + 1) by omega]
theorem findNow_miss (g : Nat) : ∀ (ps : List (Nat × Bool)) (j n : Nat), (∀ p ∈ ps, p.1 ≠ g) → findNow (.int .i64) (.int .i64 g) (mkEs ps j) n = some none
  | [], _, _, _ => rfl
  | p :: t, j, n, h => by
    have h1 : ((g : Int) == (p.1 : Int)) = false := by
      have := h p List.mem_cons_self
      rw [beq_eq_false_iff_ne]; omega
    simp only [mkEs, findNow, sameNow, if_true, h1]
    exact findNow_miss g t (j + 1) (n + 1) (fun q hq => h q (List.mem_cons_of_mem _ hq))
theorem findNow_any (g : Nat) : ∀ (ps : List (Nat × Bool)) (j n : Nat), (∃ m, findNow (.int .i64) (.int .i64 g) (mkEs ps j) n = some (some (m, .bool (chOf ps g)))) ∨ (findNow (.int .i64) (.int .i64 g) (mkEs ps j) n = some none ∧ chOf ps g = false)
  | [], _, _ => .inr ⟨rfl, rfl⟩
  | p :: t, j, n => by
    by_cases h : p.1 = g
    · have h1 : ((g : Int) == (p.1 : Int)) = true := by rw [beq_iff_eq]; omega
      refine .inl ⟨n, ?_⟩
      simp only [mkEs, findNow, sameNow, if_true, h1, chOf, if_pos h]
    · have h1 : ((g : Int) == (p.1 : Int)) = false := by rw [beq_eq_false_iff_ne]; omega
      have e : findNow (.int .i64) (.int .i64 g) (mkEs (p :: t) j) n = findNow (.int .i64) (.int .i64 g) (mkEs t (j + 1)) (n + 1) := by
        simp only [mkEs, findNow, sameNow, if_true, h1]
      rw [e]
      simp only [chOf, if_neg h]
      exact findNow_any g t (j + 1) (n + 1)
def MapSt (W : World) (gm : Nat) (ps : List (Nat × Bool)) : Prop := W.heap[gm]? = some (.map (mkEs ps 0).toArray ps.length)
theorem findKey3 {W : World} {g : Nat} {es : List MapEntry} {r : Option (Nat × Value)} (h : findNow (.int .i64) (.int .i64 g) es 0 = some r) : (findKey 3 (.int .i64 g) es).run Try.prog W = .ok r W := by
  simp [findKey, run_underlying Try.underlying3, h]
theorem checkKey3 (e : Bool) (n : Nat) (g : Int) (W : World) : (checkKey e (n + 1) 3 (.int .i64 g)).run Try.prog W = .ok () W := by
  simp [checkKey, run_underlying Try.underlying3]
theorem lookup_run {W : World} {gm : Nat} {ps : List (Nat × Bool)} (h : MapSt W gm ps) (i : Nat) : (lookup 77 (.map (some gm)) (.int .i64 i) false).run Try.prog W = .ok (.bool (chOf ps i)) W := by
  have hz : (zeroValue 4).run Try.prog W = .ok (.bool false) W := Try.zeroValue4 W
  rcases findNow_any i ps 0 0 with ⟨m, hf⟩ | ⟨hf, hc⟩
  · simp [lookup, run_underlying Try.underlying77, MapKept.run_getObj_map h, checkKey3, findKey3 hf]
  · simp [lookup, run_underlying Try.underlying77, MapKept.run_getObj_map h, checkKey3, findKey3 hf, hz, hc]
theorem update_run {W : World} {gm : Nat} {ps : List (Nat × Bool)} (h : MapSt W gm ps) (g : Nat) (b : Bool) (hg : ∀ p ∈ ps, p.1 ≠ g) :
    ∃ W', (mapUpdate 77 (.map (some gm)) (.int .i64 g) (.bool b)).run Try.prog W = .ok () W' ∧ MapSt W' gm (ps ++ [(g, b)]) ∧ Below gm W W' ∧ KeepNot [] W W' := by
  have hf := findNow_miss g ps 0 0 hg
  have hlt : gm < W.heap.size := (Array.getElem?_eq_some_iff.1 h).1
  refine ⟨{ W with heap := W.heap.setIfInBounds gm (.map ((mkEs ps 0).toArray.push { key := .int .i64 g, val := .bool b, born := ps.length }) (ps.length + 1)) }, ?_, ?_, ?_, ?_⟩
  · simp [mapUpdate, run_underlying Try.underlying77, MapKept.run_getObj_map h, checkKey3, findKey3 hf, MapKept.run_setObj_map _ h]
  · unfold MapSt
    rw [mkEs_snoc]
    simp [Array.getElem?_setIfInBounds, hlt]
  · exact ⟨rfl, rfl, rfl, by simp, fun i hi => by simp [Array.getElem?_setIfInBounds]; omega⟩
  · refine ⟨fun k cs t fr _ hb => ?_⟩
    have hne : gm ≠ k := by
      rintro rfl
      rw [show W.heap[gm]? = _ from h] at hb
      cases hb
    simp [Array.getElem?_setIfInBounds, hne, hb]
end Go.Proofs.Ythmmdmnbcecooaa.A
end

section
namespace Go.Proofs.Ythmmdmnbcecooaa.A
open Go.RowKit Go.Proofs.YthmmdmnbcecooaaW.PrintWords Go.Proofs.YthmmdmnbcecooaaW.PrintLast Go.Proofs.YthmmdmnbcecooaaW.PrintMore
set_option linter.unusedVariables false
set_option linter.unusedSimpArgs false
def opsAt (x : S42) : List Nat := if x.f0 = 3 then [x.f3.toNat, x.f4.toNat] else if 3 < x.f0 then [x.f3.toNat] else []
theorem getD_set_true (us : List Bool) (i j : Nat) : (us.set i true).getD j false = if i = j ∧ j < us.length then true else us.getD j false := by
  simp only [List.getD_eq_getElem?_getD, List.getElem?_set]
  by_cases h : i = j
  · subst h
    by_cases h2 : i < us.length
    · simp [h2]
    · simp [h2]
  · simp [h]
theorem useL_mono {us : List Bool} {nd : Bool} {i at_ : Int} {j : Nat} (h : us.getD j false = true) : (useL us nd i at_).getD j false = true := by
  unfold useL
  split
  · rw [getD_set_true]; split
    · rfl
    · exact h
  · exact h
theorem use_fresh {us : List Bool} {i at_ : Int} (h : useF us true i at_ = true) (hl : at_ ≤ us.length) : us.getD i.toNat false = false ∧ (useL us true i at_).getD i.toNat false = true := by
  have h0 := h
  simp [useF] at h
  refine ⟨?_, ?_⟩
  · simpa using h.2
  · unfold useL
    rw [h0]
    simp only [Bool.and_self, if_true]
    rw [getD_set_true, if_pos ⟨rfl, by omega⟩]
theorem arityI_small {k : Int} (h : k < 3) (h0 : 0 ≤ k) : arityI k = 0 := by unfold arityI; rw [if_pos (by omega)]
theorem arityI_big {k : Int} (h : 3 < k) (h0 : k ≤ 6) : arityI k = 1 := by unfold arityI; rw [if_neg (by omega), if_pos (by omega)]
theorem nodeStep_uses {x : S42} {i : Nat} {us us' : List Bool} (h : nodeStep x i us = some us') (hl : i ≤ us.length) :
    us'.length = us.length ∧ (∀ j ∈ opsAt x, us.getD j false = false ∧ us'.getD j false = true) ∧ (∀ j, us.getD j false = true → us'.getD j false = true) ∧ (x.f0 = 3 → x.f3.toNat ≠ x.f4.toNat) := by
  have hok := nodeStep_ok h
  unfold nodeStep at h
  split at h
  · cases h
  split at h
  · cases h
  split at h
  · cases h
  split at h
  · cases h
  rename_i h1 h2 h3 h4
  have hA : useF us (decide (0 < arityI x.f0)) x.f3 i = true := by simpa using h3
  have hB : useF (useL us (decide (0 < arityI x.f0)) x.f3 i) (decide (1 < arityI x.f0)) x.f4 i = true := by simpa using h4
  obtain rfl := Option.some.inj h
  refine ⟨by rw [useL_length, useL_length], ?_, fun j hj => useL_mono (useL_mono hj), ?_⟩
  · intro j hj
    unfold opsAt at hj
    split at hj
    · rename_i hk
      have ha : arityI x.f0 = 2 := by rw [hk]; rfl
      rw [ha] at hA hB ⊢
      simp only [show decide ((0 : Int) < 2) = true from rfl, show decide ((1 : Int) < 2) = true from rfl] at hA hB ⊢
      have f1 := use_fresh hA (by omega)
      have f2 := use_fresh hB (by rw [useL_length]; omega)
      simp only [List.mem_cons, List.not_mem_nil, or_false] at hj
      rcases hj with rfl | rfl
      · exact ⟨f1.1, useL_mono f1.2⟩
      · refine ⟨?_, f2.2⟩
        cases hc : us.getD x.f4.toNat false with
        | false => rfl
        | true =>
          have := useL_mono (nd := true) (i := x.f3) (at_ := i) hc
          rw [this] at f2
          exact absurd f2.1 (by decide)
    · split at hj
      · rename_i hk3 hk
        have ha : arityI x.f0 = 1 := arityI_big hk hok.kind.2
        rw [ha] at hA ⊢
        simp only [show decide ((0 : Int) < 1) = true from rfl] at hA ⊢
        have f1 := use_fresh hA (by omega)
        simp only [List.mem_cons, List.not_mem_nil, or_false] at hj
        subst hj
        exact ⟨f1.1, useL_mono f1.2⟩
      · cases hj
  · intro hk e
    have ha : arityI x.f0 = 2 := by rw [hk]; rfl
    rw [ha] at hA hB
    simp only [show decide ((0 : Int) < 2) = true from rfl, show decide ((1 : Int) < 2) = true from rfl] at hA hB
    have f1 := use_fresh hA (by omega)
    have f2 := use_fresh hB (by rw [useL_length]; omega)
    rw [← e, f1.2] at f2
    exact absurd f2.1 (by decide)
theorem scanFrom_uses {l : List S42} : ∀ (d i : Nat) (us us' : List Bool), scanFrom l d i us = some us' → i + d ≤ us.length →
    us'.length = us.length ∧ (∀ j, us.getD j false = true → us'.getD j false = true) ∧
    (∀ p, i ≤ p → p < i + d → ∀ j ∈ opsAt (l.getD p z42), us.getD j false = false ∧ us'.getD j false = true) ∧
    (∀ p q, i ≤ p → p < q → q < i + d → ∀ j, j ∈ opsAt (l.getD p z42) → j ∉ opsAt (l.getD q z42)) ∧
    (∀ p, i ≤ p → p < i + d → (l.getD p z42).f0 = 3 → (l.getD p z42).f3.toNat ≠ (l.getD p z42).f4.toNat) := by
  intro d
  induction d with
  | zero =>
    intro i us us' h _
    obtain rfl := Option.some.inj h
    exact ⟨rfl, fun _ h => h, fun p _ _ => by omega, fun p q _ _ _ => by omega, fun p _ _ => by omega⟩
  | succ d ih =>
    intro i us us' h hl
    simp only [scanFrom] at h
    obtain ⟨u, hu, h⟩ := Option.bind_eq_some_iff.1 h
    obtain ⟨n1, n2, n3, n4⟩ := nodeStep_uses hu (by omega)
    obtain ⟨s1, s2, s3, s4, s5⟩ := ih (i + 1) u us' h (by omega)
    refine ⟨by omega, fun j hj => s2 j (n3 j hj), ?_, ?_, ?_⟩
    · intro p h1 h2 j hj
      by_cases hp : p = i
      · subst hp
        exact ⟨(n2 j hj).1, s2 j (n2 j hj).2⟩
      · obtain ⟨a, b⟩ := s3 p (by omega) (by omega) j hj
        refine ⟨?_, b⟩
        cases hc : us.getD j false with
        | false => rfl
        | true => rw [n3 j hc] at a; cases a
    · intro p q h1 h2 h3 j hj hq
      by_cases hp : p = i
      · subst hp
        have a := (s3 q (by omega) (by omega) j hq).1
        rw [(n2 j hj).2] at a
        cases a
      · exact s4 p q (by omega) h2 (by omega) j hj hq
    · intro p h1 h2 h3
      by_cases hp : p = i
      · subst hp; exact n4 h3
      · exact s5 p (by omega) (by omega) h3
/-- Every node is the operand of one node alone, and of it once. -/
structure Once (l : List S42) : Prop where
  one : ∀ p q j, p < l.length → q < l.length → j ∈ opsAt (l.getD p z42) → j ∈ opsAt (l.getD q z42) → p = q
  two : ∀ p, p < l.length → (l.getD p z42).f0 = 3 → (l.getD p z42).f3.toNat ≠ (l.getD p z42).f4.toNat
theorem check_once {l : List S42} (h : checkI l = 0) : Once l := by
  obtain ⟨_, _, _, us, hs, _⟩ := check_valid h
  obtain ⟨_, _, _, s4, s5⟩ := scanFrom_uses _ _ _ _ hs (by simp)
  refine ⟨fun p q j hp hq h1 h2 => ?_, fun p hp h3 => s5 p (by omega) (by omega) h3⟩
  rcases Nat.lt_trichotomy p q with h | h | h
  · exact absurd h2 (s4 p q (by omega) h (by omega) j h1)
  · exact h
  · exact absurd h1 (s4 q p (by omega) h (by omega) j h2)
/-- From a node up to another. -/
inductive Up (l : List S42) : Nat → Nat → Prop
  | refl (a : Nat) : Up l a a
  | step {g p a : Nat} (hp : p < l.length) (h : g ∈ opsAt (l.getD p z42)) (k : Up l p a) : Up l g a
theorem Up.last {l : List S42} {g c i : Nat} (h : Up l g c) (hi : i < l.length) (hc : c ∈ opsAt (l.getD i z42)) : Up l g i := by
  induction h with
  | refl a => exact .step hi hc (.refl i)
  | step hp hm _ ih => exact .step hp hm (ih hc)
theorem Up.chain {l : List S42} (ho : Once l) {g a b : Nat} (h : Up l g a) (k : Up l g b) : Up l a b ∨ Up l b a := by
  induction h with
  | refl a => exact .inl k
  | step hp hm up ih =>
    cases k with
    | refl => exact .inr (.step hp hm up)
    | step hq hm2 k2 =>
      obtain rfl := ho.one _ _ _ hp hq hm hm2
      exact ih k2
section
variable {l : List S42} (hv : ∀ i, i < l.length → NodeOk i (l.getD i z42))
include hv
theorem ops_lt {p j : Nat} (hp : p < l.length) (h : j ∈ opsAt (l.getD p z42)) : j < p := by
  have ho := hv p hp
  unfold opsAt at h
  split at h
  · rename_i hk
    have h1 := ho.a (by omega)
    have h2 := ho.b hk
    simp only [List.mem_cons, List.not_mem_nil, or_false] at h
    rcases h with rfl | rfl <;> omega
  · split at h
    · have h1 := ho.a (by omega)
      simp only [List.mem_cons, List.not_mem_nil, or_false] at h
      omega
    · cases h
theorem Up.le {g a : Nat} (h : Up l g a) : g ≤ a := by
  induction h with
  | refl => exact Nat.le_refl _
  | step hp hm _ ih => have := ops_lt hv hp hm; omega
theorem not_both (ho : Once l) {i a b g : Nat} (hi : i < l.length) (ha : a ∈ opsAt (l.getD i z42)) (hb : b ∈ opsAt (l.getD i z42)) (hab : a ≠ b) (h1 : Up l g a) (h2 : Up l g b) : False := by
  have key : ∀ x y, x ∈ opsAt (l.getD i z42) → y ∈ opsAt (l.getD i z42) → x ≠ y → Up l x y → False := by
    intro x y hx hy hne h
    cases h with
    | refl => exact hne rfl
    | step hp hm k =>
      obtain rfl := ho.one _ _ _ hp hi hm hx
      have := Up.le hv k
      have := ops_lt hv hi hy
      omega
  rcases Up.chain ho h1 h2 with h | h
  · exact key a b ha hb hab h
  · exact key b a hb ha (fun e => hab e.symm) h
theorem groups_up : ∀ i, i < l.length → ∀ g ∈ groupsI (tree l i), Up l g i := by
  intro i
  induction i using Nat.strongRecOn with
  | _ i ih =>
    intro hi g hg
    have ho := hv i hi
    by_cases h3 : (l.getD i z42).f0 < 3
    · exfalso
      have hk : (l.getD i z42).f0 = 0 ∨ (l.getD i z42).f0 = 1 ∨ (l.getD i z42).f0 = 2 := by have := ho.kind; omega
      rcases hk with hk | hk | hk
      · rw [tree_text hk] at hg; cases hg
      · rw [tree_line hk] at hg; cases hg
      · rw [tree_hard hk] at hg; cases hg
    · have ha := ho.a (by omega)
      by_cases hk3 : (l.getD i z42).f0 = 3
      · have hb := ho.b hk3
        rw [tree_seq hv hi hk3] at hg
        simp only [groupsI, List.mem_append] at hg
        rcases hg with hg | hg
        · exact (ih _ (by omega) (by omega) g hg).last hi (by unfold opsAt; rw [if_pos hk3]; simp)
        · exact (ih _ (by omega) (by omega) g hg).last hi (by unfold opsAt; rw [if_pos hk3]; simp)
      have hm : (l.getD i z42).f3.toNat ∈ opsAt (l.getD i z42) := by unfold opsAt; rw [if_neg hk3, if_pos (by omega)]; simp
      by_cases hk6 : (l.getD i z42).f0 = 6
      · rw [tree_group hv hi hk6] at hg
        simp only [groupsI, List.mem_cons] at hg
        rcases hg with rfl | hg
        · exact .refl _
        · exact (ih _ (by omega) (by omega) g hg).last hi hm
      · have hk : (l.getD i z42).f0 = 4 ∨ (l.getD i z42).f0 = 5 := by have := ho.kind; omega
        rcases hk with hk | hk
        · rw [tree_nest hv hi hk] at hg
          exact (ih _ (by omega) (by omega) g hg).last hi hm
        · rw [tree_align hv hi hk] at hg
          exact (ih _ (by omega) (by omega) g hg).last hi hm
theorem groups_nodup (hone : Once l) : ∀ i, i < l.length → (groupsI (tree l i)).Nodup := by
  intro i
  induction i using Nat.strongRecOn with
  | _ i ih =>
    intro hi
    have ho := hv i hi
    by_cases h3 : (l.getD i z42).f0 < 3
    · have hk : (l.getD i z42).f0 = 0 ∨ (l.getD i z42).f0 = 1 ∨ (l.getD i z42).f0 = 2 := by have := ho.kind; omega
      rcases hk with hk | hk | hk
      · rw [tree_text hk]; exact List.nodup_nil
      · rw [tree_line hk]; exact List.nodup_nil
      · rw [tree_hard hk]; exact List.nodup_nil
    · have ha := ho.a (by omega)
      by_cases hk3 : (l.getD i z42).f0 = 3
      · have hb := ho.b hk3
        rw [tree_seq hv hi hk3]
        refine List.nodup_append.2 ⟨ih _ (by omega) (by omega), ih _ (by omega) (by omega), ?_⟩
        rintro g h1 _ h2 rfl
        exact not_both hv hone hi (by unfold opsAt; rw [if_pos hk3]; simp) (by unfold opsAt; rw [if_pos hk3]; simp) (hone.two i hi hk3) (groups_up hv _ (by omega) g h1) (groups_up hv _ (by omega) g h2)
      by_cases hk6 : (l.getD i z42).f0 = 6
      · rw [tree_group hv hi hk6]
        refine List.nodup_cons.2 ⟨fun h => ?_, ih _ (by omega) (by omega)⟩
        have := (groups_up hv _ (by omega) i h).le hv
        omega
      · have hk : (l.getD i z42).f0 = 4 ∨ (l.getD i z42).f0 = 5 := by have := ho.kind; omega
        rcases hk with hk | hk
        · rw [tree_nest hv hi hk]; exact ih _ (by omega) (by omega)
        · rw [tree_align hv hi hk]; exact ih _ (by omega) (by omega)
end
theorem nodup_bound : ∀ (n : Nat) (L : List Nat), L.Nodup → (∀ x ∈ L, x < n) → L.length ≤ n := by
  intro n
  induction n with
  | zero =>
    intro L _ h
    cases L with
    | nil => exact Nat.le_refl _
    | cons a t => exact absurd (h a List.mem_cons_self) (by omega)
  | succ n ih =>
    intro L hd h
    by_cases hm : n ∈ L
    · have h1 := ih (L.erase n) (hd.erase n) (fun x hx => by
        obtain ⟨h1, h2⟩ := (hd.mem_erase_iff).1 hx
        have := h x h2
        omega)
      have h2 := List.length_erase_of_mem hm
      omega
    · have := ih L hd (fun x hx => by
        have := h x hx
        have : x ≠ n := fun e => hm (e ▸ hx)
        omega)
      omega
theorem groups_le {l : List S42} (h : checkI l = 0) : (groupsI (tree l (l.length - 1))).length ≤ 65536 := by
  obtain ⟨hp, hn, hv, _⟩ := check_valid h
  have := nodup_bound l.length _ (groups_nodup hv (check_once h) (l.length - 1) (by omega)) (fun g hg => by
    have := (groups_up hv _ (by omega) g hg).le hv
    omega)
  omega
end Go.Proofs.Ythmmdmnbcecooaa.A
end

section
namespace Go.Proofs.Ythmmdmnbcecooaa.A
open Go.RowKit Go.Proofs.YthmmdmnbcecooaaW.PrintWords Go.Proofs.YthmmdmnbcecooaaW.PrintLast Go.Proofs.YthmmdmnbcecooaaW.PrintMore
set_option linter.unusedVariables false
set_option linter.unusedSimpArgs false
/-- The groups of a valid document, as numbers. -/
def groupsL (l : List S42) : List Int := (groupsI (tree l (l.length - 1))).map Int.ofNat
def document_Groups.f (l0 : List S42) : Option (List Int × Int) := some (if checkI l0 = 0 then (groupsL l0, 0) else ([], checkI l0))
def GroupsPost (l0 : List S42) (w : World) (e : Ending) (w' : World) : Prop :=
  ∃ v0_ : Value, e = .returned (.tuple #[v0_, .int .i64 (if checkI l0 = 0 then 0 else checkI l0)]) ∧ Kd.R (Kd.int .i64) 3 w' w.heap.size (fun _ => True) v0_ (if checkI l0 = 0 then groupsL l0 else []) ∧ Below w.heap.size w w'
set_option maxRecDepth 100000 in
theorem groups_bad (A0 : Option Addr) (c0 : Nat) (l0 : List S42) (w : World) (hr0 : Kd.C k42 w A0 l0.length l0) (hc0 : l0.length ≤ c0) (h : checkI l0 ≠ 0) :
    Calls Try.prog 22 #[.slice A0 l0.length c0] w (GroupsPost l0 w) := by
  have HR := Aside0.mk hr0
  have HP := Aside0.mk (show (if checkI l0 = 0 then (0 : Int) else checkI l0) = checkI l0 ∧ (if checkI l0 = 0 then groupsL l0 else []) = [] from ⟨if_neg h, if_neg h⟩)
  have hb : (checkI l0 != 0) = true := by simpa using h
  clear hr0 h
  go_enter Try.func22, Try.ntmps22
  go_wp2_with fail
  have hB0 : Below w.heap.size w (w.alloc (.cells #[.slice A0 l0.length c0] 26)) := (Below.refl _ _).alloc (Nat.le_refl _) _
  refine (document_Check.calls A0 c0 l0 (checkI l0) _ (Kd.C_below HR.out hB0) hc0 rfl).mono ?_
  rintro e w1 ⟨rfl, hb1⟩
  have HB := Aside0.mk (hB0.trans (hb1.mono (by simp)))
  clear hb1 hB0
  go_wp2_with fail
  go_ret2
  exact ⟨_, by rw [HP.out.1]; rfl, by rw [HP.out.2]; exact Kd.R_nil _ _ _ _ _, HB.out⟩
theorem gr_start {w w1 : World} {ad : Addr} {n c : Nat} (hlt : w.heap.size < w1.heap.size) (hd : w1.heap[w.heap.size]? = some (.cells #[.slice (some ad) n c] 26 (0, 0))) (hB : Below w.heap.size w w1) :
    GrSt w w.heap.size w1.heap.size (w1.heap.size + 1) ad n c [] ((w1.alloc (Obj.cells #[Value.slice none 0 0] 28)).alloc (Obj.cells #[Value.func (Fn.func 49) #[] #[Value.pointer (some { block := w.heap.size, off := 0 }), Value.pointer (some { block := w1.heap.size, off := 0 }), Value.pointer (some { block := w1.heap.size + 1, off := 0 })]] 74)) := by
  refine ⟨blk_alloc (blk_alloc hd _) _, ?_, ⟨.slice none 0 0, blk_alloc (heap_alloc_new w1 _) _, Kd.R_nil _ _ _ _ _⟩, by omega, (hB.alloc (by omega) _).alloc (by simp; omega) _⟩
  have := heap_alloc_new (w1.alloc (Obj.cells #[Value.slice none 0 0] 28)) (Obj.cells #[Value.func (Fn.func 49) #[] #[Value.pointer (some { block := w.heap.size, off := 0 }), Value.pointer (some { block := w1.heap.size, off := 0 }), Value.pointer (some { block := w1.heap.size + 1, off := 0 })]] 74)
  simpa using this
set_option maxRecDepth 100000 in
theorem groups_good (ad : Addr) (c0 : Nat) (l0 : List S42) (w : World) (hr0 : Kd.C k42 w (some ad) l0.length l0) (hc0 : l0.length ≤ c0) (h : checkI l0 = 0) :
    Calls Try.prog 22 #[.slice (some ad) l0.length c0] w (GroupsPost l0 w) := by
  obtain ⟨hp, hn, hv, _⟩ := check_valid h
  have HR := Aside0.mk hr0
  have HP := Aside0.mk (show (if checkI l0 = 0 then (0 : Int) else checkI l0) = 0 ∧ (if checkI l0 = 0 then groupsL l0 else []) = groupsL l0 from ⟨if_pos h, if_pos h⟩)
  have HG := Aside0.mk (groups_le h)
  have HV := Aside0.mk hv
  have HC := Aside0.mk h
  clear hr0 h hv
  go_enter Try.func22, Try.ntmps22
  go_wp2_with fail
  have hB0 : Below w.heap.size w (w.alloc (.cells #[.slice (some ad) l0.length c0] 26)) := (Below.refl _ _).alloc (Nat.le_refl _) _
  refine (document_Check.calls (some ad) c0 l0 0 _ (Kd.C_below HR.out hB0) hc0 (by show some _ = _; rw [HC.out])).mono ?_
  rintro e w1 ⟨rfl, hb1⟩
  have HB := Aside0.mk (hB0.trans (hb1.mono (by simp)))
  have hblk := (hb1.block w.heap.size (by simp)).trans (heap_alloc_new w _)
  have HD := Aside0.mk hblk
  have hlt : w.heap.size < w1.heap.size := blk_lt hblk
  have hcd : w1.cell? ⟨w.heap.size, 0, none⟩ = some (.slice (some ad) l0.length c0) := (blk_cell hblk 0).trans rfl
  clear hb1 hB0 hblk
  go_wp2_with fail
  rw [show ((l0.length : Int) - 1) = ((l0.length - 1 : Nat) : Int) from by omega]
  refine (walk_any w w.heap.size w1.heap.size (w1.heap.size + 1) ad c0 l0 HV.out HR.out hc0 hn (l0.length - 1) (by omega) [] _ (gr_start hlt HD.out HB.out) (by have := HG.out; simp; omega)).mono ?_
  rintro e w2 ⟨rfl, hS, hK⟩
  obtain ⟨v, hv0, hR2⟩ := hS.ho
  have hv1 : w2.cell? ⟨w1.heap.size, 0, none⟩ = some v := (blk_cell hv0 0).trans rfl
  have HR2 := Aside0.mk hR2
  have HB2 := Aside0.mk hS.bel
  clear hS hK hv0 hR2
  go_wp2_with fail
  go_ret2
  exact ⟨v, by rw [HP.out.1]; rfl, by rw [HP.out.2]; exact HR2.out, HB2.out⟩
theorem document_Groups.calls (A0 : Option Addr) (c0 : Nat) (l0 : List (S42)) (r1 : List Int) (r2 : Int) (w : World) (hr0 : Kd.C k42 w A0 l0.length l0) (hc0 : l0.length ≤ c0) (h : document_Groups.f l0 = some (r1, r2)) :
    Calls Try.prog 22 #[.slice A0 l0.length c0] w fun e w' => ∃ v0_ : Value, e = .returned (.tuple #[v0_, .int .i64 r2]) ∧ Kd.R (Kd.int .i64) 3 w' w.heap.size (fun _ => True) v0_ r1 ∧ Below w.heap.size w w' := by
  unfold document_Groups.f at h
  by_cases hc : checkI l0 = 0
  · rw [if_pos hc] at h
    simp only [Option.some.injEq, Prod.mk.injEq] at h
    obtain ⟨rfl, rfl⟩ := h
    obtain ⟨hp, _⟩ := check_valid hc
    obtain ⟨ad, rfl, _⟩ := at_T42 hr0 0 (by omega) (by omega)
    refine (groups_good ad c0 l0 w hr0 hc0 hc).mono ?_
    intro e w' hw
    unfold GroupsPost at hw
    rwa [if_pos hc, if_pos hc] at hw
  · rw [if_neg hc] at h
    simp only [Option.some.injEq, Prod.mk.injEq] at h
    obtain ⟨rfl, rfl⟩ := h
    refine (groups_bad A0 c0 l0 w hr0 hc0 hc).mono ?_
    intro e w' hw
    unfold GroupsPost at hw
    rwa [if_neg hc, if_neg hc] at hw
end Go.Proofs.Ythmmdmnbcecooaa.A
end

section
namespace Go.Proofs.Ythmmdmnbcecooaa.A
open Go.RowKit Go.Proofs.YthmmdmnbcecooaaW.PrintWords Go.Proofs.YthmmdmnbcecooaaW.PrintLast Go.Proofs.YthmmdmnbcecooaaW.PrintMore
set_option linter.unusedVariables false
set_option linter.unusedSimpArgs false
def st0 : St := ⟨[], 0, 0, false⟩
def rootT (l : List S42) : Doc := tree l (l.length - 1)
/-- What document.Render answers on a valid document with a choice of the right length. -/
def renderO (l : List S42) (flat : List Bool) : Option (ByteArray × Int) :=
  (wrO (chOf ((groupsI (rootT l)).zip flat)) (rootT l) 0 false st0).bind fun st => some (if st.wrong then (⟨#[]⟩, 1) else (⟨st.out.toArray⟩, 0))
def document_Render.f (l0 : List S42) (l1 : List Bool) : Option (ByteArray × Int) :=
  if checkI l0 ≠ 0 then some (⟨#[]⟩, checkI l0)
  else if l1.length ≠ (groupsI (rootT l0)).length then some (⟨#[]⟩, 1)
  else renderO l0 l1
def RenderPost (r1 : ByteArray) (r2 : Int) (w : World) (e : Ending) (w' : World) : Prop := e = .returned (.tuple #[.string r1, .int .i64 r2]) ∧ Below w.heap.size w w'
set_option maxRecDepth 100000 in
theorem render_bad (A0 : Option Addr) (c0 : Nat) (l0 : List S42) (A1 : Option Addr) (n1 c1 : Nat) (w : World) (hr0 : Kd.C k42 w A0 l0.length l0) (hc0 : l0.length ≤ c0) (h : checkI l0 ≠ 0) :
    Calls Try.prog 24 #[.slice A0 l0.length c0, .slice A1 n1 c1] w (RenderPost ⟨#[]⟩ (checkI l0) w) := by
  have HR := Aside0.mk hr0
  have hb : (checkI l0 != 0) = true := by simpa using h
  have HG := Aside0.mk (show document_Groups.f l0 = some ([], checkI l0) by unfold document_Groups.f; rw [if_neg h])
  clear hr0 h
  go_enter Try.func24, Try.ntmps24
  go_wp2_with fail
  refine (document_Groups.calls A0 c0 l0 [] (checkI l0) w HR.out hc0 HG.out).mono ?_
  rintro e w1 ⟨v0, rfl, _, hb1⟩
  have HB := Aside0.mk hb1
  clear hb1
  go_wp2_with fail
  go_ret2
  exact ⟨rfl, HB.out⟩
set_option maxRecDepth 100000 in
theorem render_len (A0 : Option Addr) (c0 : Nat) (l0 : List S42) (A1 : Option Addr) (n1 c1 : Nat) (w : World) (hr0 : Kd.C k42 w A0 l0.length l0) (hc0 : l0.length ≤ c0) (h : checkI l0 = 0) (hl : n1 ≠ (groupsI (rootT l0)).length) :
    Calls Try.prog 24 #[.slice A0 l0.length c0, .slice A1 n1 c1] w (RenderPost ⟨#[]⟩ 1 w) := by
  have HR := Aside0.mk hr0
  have hgl : (groupsL l0).length = (groupsI (rootT l0)).length := by simp [groupsL, rootT]
  have hne : ((n1 : Int) != ((groupsL l0).length : Int)) = true := by rw [bne_iff_ne]; omega
  have hne2 : (n1 != (groupsL l0).length) = true := by rw [bne_iff_ne]; omega
  have HG := Aside0.mk (show document_Groups.f l0 = some (groupsL l0, 0) by unfold document_Groups.f; rw [if_pos h])
  clear hr0 h hgl
  go_enter Try.func24, Try.ntmps24
  go_wp2_with fail
  refine (document_Groups.calls A0 c0 l0 (groupsL l0) 0 w HR.out hc0 HG.out).mono ?_
  rintro e w1 ⟨v0, rfl, hr1, hb1⟩
  obtain ⟨A, c, rfl, _, _⟩ := Kd.R_reads hr1
  have HB := Aside0.mk hb1
  clear hb1 hr1
  go_wp2_with fail
  go_ret2
  exact ⟨rfl, HB.out⟩
theorem KeepNot.cell {W W1 : World} (h : KeepNot [] W W1) {a : Addr} {v : Value} (hc : W.cell? a = some v) : W1.cell? a = some v := by
  unfold World.cell? at hc ⊢
  cases hb : W.heap[a.block]? with
  | none => rw [hb] at hc; cases hc
  | some o =>
    rw [hb] at hc
    cases o with
    | cells cs t fr => rw [h.keep _ _ _ _ (by simp) hb]; exact hc
    | _ => cases hc
theorem renderO_some {l : List S42} {flat : List Bool} {r1 : ByteArray} {r2 : Int} (h : renderO l flat = some (r1, r2)) :
    ∃ st, wrO (chOf ((groupsI (rootT l)).zip flat)) (tree l (l.length - 1)) 0 false st0 = some st ∧ (if st.wrong = true then r1 = ⟨#[]⟩ ∧ r2 = 1 else r1 = ⟨st.out.toArray⟩ ∧ r2 = 0) := by
  obtain ⟨st, h1, h2⟩ := Option.bind_eq_some_iff.1 h
  refine ⟨st, h1, ?_⟩
  split at h2
  · rename_i hw
    rw [if_pos hw]
    simp only [Option.some.injEq, Prod.mk.injEq] at h2
    exact ⟨h2.1.symm, h2.2.symm⟩
  · rename_i hw
    rw [if_neg hw]
    simp only [Option.some.injEq, Prod.mk.injEq] at h2
    exact ⟨h2.1.symm, h2.2.symm⟩
theorem rd_map {gs : List Nat} {k : Nat} (h : k < gs.length) : rd (gs.map Int.ofNat) k = (gs[k] : Int) := by simp [rd, h]
theorem zip_fresh {gs : List Nat} {fl : List Bool} (hnd : gs.Nodup) {k : Nat} (hk : k < gs.length) : ∀ p ∈ (gs.zip fl).take k, p.1 ≠ gs[k] := by
  rintro ⟨a, b⟩ hp e
  obtain ⟨j, hj, he⟩ := List.mem_take_iff_getElem.1 hp
  simp only [List.length_zip] at hj
  rw [List.getElem_zip] at he
  have h1 : gs[j]'(by omega) = gs[k] := by have := congrArg Prod.fst he; simp only at this e; rw [this]; exact e
  have := (List.getElem_inj hnd).1 h1
  omega
set_option maxHeartbeats 1000000 in
set_option maxRecDepth 100000 in
theorem render_pos (ad : Addr) (c0 : Nat) (l0 : List S42) (a1 : Addr) (c1 : Nat) (l1 : List Bool) (w : World) (hr0 : Kd.C k42 w (some ad) l0.length l0) (hc0 : l0.length ≤ c0) (hr1 : Kd.C Kd.bool w (some a1) l1.length l1)
    (h : checkI l0 = 0) (hl : l1.length = (groupsI (rootT l0)).length) (hpos : 0 < (groupsI (rootT l0)).length) (r1 : ByteArray) (r2 : Int) (hro : renderO l0 l1 = some (r1, r2)) :
    Calls Try.prog 24 #[.slice (some ad) l0.length c0, .slice (some a1) l1.length c1] w (RenderPost r1 r2 w) := by
  obtain ⟨hp, hn, hv, _⟩ := check_valid h
  have hnd := groups_nodup hv (check_once h) (l0.length - 1) (by omega)
  have hgl : (groupsL l0).length = (groupsI (rootT l0)).length := by simp [groupsL, rootT]
  have hgm : (groupsL l0).length ≤ 65536 := by rw [hgl]; exact groups_le h
  have hne : ((l1.length : Int) != ((groupsL l0).length : Int)) = false := by rw [bne_eq_false_iff_eq]; omega
  have hne2 : (l1.length != (groupsL l0).length) = false := by rw [bne_eq_false_iff_eq]; omega
  obtain ⟨st, hst, hres⟩ := renderO_some hro
  have HST := Aside0.mk hst
  have HRES := Aside0.mk hres
  have HR := Aside0.mk hr0
  have HR1 := Aside0.mk hr1
  have HL := Aside0.mk (show l1.length = (groupsL l0).length ∧ (groupsL l0).length = (groupsI (rootT l0)).length by omega)
  have HN := Aside0.mk (show (groupsI (rootT l0)).Nodup from hnd)
  have HV := Aside0.mk hv
  have HG := Aside0.mk (show document_Groups.f l0 = some (groupsL l0, 0) by unfold document_Groups.f; rw [if_pos h])
  have hmm := @run_makeMap Try.prog
  have hpos' : 0 < (groupsL l0).length := by omega
  clear hr0 h hgl hl hr1 hnd hv hro hst hres
  go_enter Try.func24, Try.ntmps24
  go_wp2_with fail
  refine (document_Groups.calls (some ad) c0 l0 (groupsL l0) 0 w HR.out hc0 HG.out).mono ?_
  rintro e w1 ⟨v0, rfl, hg1, hb1⟩
  obtain ⟨A, c, rfl, hcc, hcg⟩ := Kd.R_reads hg1
  have HB := Aside0.mk hb1
  have HCG := Aside0.mk hcg
  have hws := hb1.size
  clear hb1 hg1 hcg
  rcases A with _ | ag
  · obtain ⟨ad', he, _⟩ := Kd.at_int HCG.out 0 (by omega) (by omega)
    cases he
  · go_wp2_with fail
    go_loopg [28] (groupsL l0).length (fun d v28 W => ∃ (k : Nat), v28 = .int .i64 k ∧ Aside0 (k + d = (groupsL l0).length) ∧ Aside0 (MapSt W w1.heap.size (((groupsI (rootT l0)).zip l1).take k)) ∧ Aside0 (KeepNot [] w1 W) ∧ Aside0 (Below w.heap.size w W))
    case atStart => exact ⟨0, rfl, ⟨by omega⟩, ⟨by simpa [MapSt, mkEs] using heap_alloc_new w1 (Obj.map #[] 0)⟩, ⟨KeepNot.alloc _⟩, ⟨HB.out.alloc hws _⟩⟩
    case round =>
      obtain ⟨k, rfl, HI, HMS, HKN, HB2⟩ := hrel
      by_cases hlt : k < (groupsL l0).length
      · have hlt2 : k < l1.length := by have := HL.out; omega
        have hlt3 : k < (groupsI (rootT l0)).length := by have := HL.out; omega
        obtain ⟨ad', he, hcg⟩ := Kd.at_int HCG.out k (by omega) (by omega)
        obtain rfl := Option.some.inj he
        obtain ⟨ad', he, hcb⟩ := Kd.at_bool HR1.out k (by omega) (by omega)
        obtain rfl := Option.some.inj he
        have hrg : rd (groupsL l0) k = ((groupsI (rootT l0))[k] : Int) := rd_map hlt3
        have hrb : rdOf false l1 k = l1[k] := by simp [rdOf, hlt2]
        rw [hrg, Int.toNat_natCast] at hcg
        rw [hrb, Int.toNat_natCast] at hcb
        have g1 := HKN.out.cell hcg
        have g2 := pw_cell_below HB2.out hcb
        obtain ⟨W', hrun, hms, hbm, hkm⟩ := update_run HMS.out ((groupsI (rootT l0))[k]) (l1[k]) (zip_fresh HN.out hlt3)
        have HMS' := Aside0.mk (show MapSt W' w1.heap.size (((groupsI (rootT l0)).zip l1).take (k + 1)) by
          rw [List.take_succ_eq_append_getElem (by rw [List.length_zip]; omega), List.getElem_zip]; exact hms)
        have HKN' := Aside0.mk (HKN.out.trans hkm)
        have HB2' := Aside0.mk (HB2.out.trans (hbm.mono hws))
        have hlt4 : (k : Int) < l1.length := by omega
        clear hcg hcb hrg hrb hms hbm hkm he
        generalize (groupsI (rootT l0))[k] = gk_ at g1 hrun
        generalize l1[k] = bk_ at g2 hrun
        go_wp2_with fail
        go_roundg ((groupsL l0).length - (k + 1))
        case measure => have := HI.out; omega
        case rel => exact ⟨k + 1, by go_num, ⟨by omega⟩, HMS', HKN', HB2'⟩
      · have hk : ((groupsI (rootT l0)).zip l1).take k = (groupsI (rootT l0)).zip l1 := by
          apply List.take_of_length_le
          rw [List.length_zip]
          have := HL.out
          omega
        rw [hk] at HMS
        clear hk
        go_wp2_with fail
        have hsw : w.heap.size ≤ wr.heap.size := HB2.out.size
        have hB3 : Below w.heap.size w (wr.alloc (Obj.cells #[Value.pointer none, Value.slice none 0 0, Value.int IntKind.i64 0, Value.int IntKind.i64 0, Value.bool false] 83)) := HB2.out.alloc hsw _
        have hparts := parts_calls ad c0 w1.heap.size l0 (chOf ((groupsI (rootT l0)).zip l1)) _ hn hp HV.out (Kd.C_below HR.out hB3) hc0 (by have := blk_lt HMS.out; simp; omega) (fun W hW i hi => lookup_run (show MapSt W w1.heap.size ((groupsI (rootT l0)).zip l1) from (hW.trans (blk_old_alloc (blk_lt HMS.out) _)).trans HMS.out) i)
        rw [partV_eq] at hparts
        refine hparts.mono ?_
        rintro e W2 ⟨rfl, hb2⟩
        have hB4 := hB3.trans (hb2.mono (by simp; omega))
        have HWS := Aside0.mk (show WrS w wr.heap.size st0 W2 from ⟨⟨.pointer none, .slice none 0 0, (hb2.block wr.heap.size (by simp)).trans (heap_alloc_new wr _), .inl rfl, own_nil _ _ _ _⟩, hsw, hB4⟩)
        have hpm := part_method (chOf ((groupsI (rootT l0)).zip l1)) (tree l0 (l0.length - 1))
        have hpe := part_enters (tree l0 (l0.length - 1))
        clear hb2 hB4 hB3 hparts
        go_wp2_with fail
        refine (write_any _ _ w W2 wr.heap.size 0 false st0 st HWS.out HST.out).mono ?_
        rintro e W3 ⟨rfl, h3, hk3⟩
        have m4 := WrSt.cell4 h3
        have H3 := Aside0.mk h3
        have HB5 := Aside0.mk h3.bel
        clear h3 hk3
        cases hw : st.wrong with
        | true =>
          have HE := Aside0.mk (show r1 = ⟨#[]⟩ ∧ r2 = 1 by have := HRES.out; rw [hw] at this; exact this)
          rw [hw] at m4
          clear hw
          go_wp2_with fail
          go_ret2
          exact ⟨by rw [HE.out.1, HE.out.2]; rfl, HB5.out⟩
        | false =>
          have HE := Aside0.mk (show r1 = ⟨st.out.toArray⟩ ∧ r2 = 0 by have := HRES.out; rw [hw] at this; exact this)
          rw [hw] at m4
          clear hw
          go_wp2_with fail
          refine (string_calls w W3 wr.heap.size st.out _ _ _ H3.out).mono ?_
          rintro e W4 ⟨rfl, hb4⟩
          have HB6 := Aside0.mk hb4
          clear hb4
          go_wp2_with fail
          go_ret2
          exact ⟨by rw [HE.out.1, HE.out.2]; rfl, HB6.out⟩
set_option maxHeartbeats 1000000 in
set_option maxRecDepth 100000 in
theorem render_zero (ad : Addr) (c0 : Nat) (l0 : List S42) (A1 : Option Addr) (c1 : Nat) (w : World) (hr0 : Kd.C k42 w (some ad) l0.length l0) (hc0 : l0.length ≤ c0)
    (h : checkI l0 = 0) (hz : groupsI (rootT l0) = []) (r1 : ByteArray) (r2 : Int) (hro : renderO l0 [] = some (r1, r2)) :
    Calls Try.prog 24 #[.slice (some ad) l0.length c0, .slice A1 0 c1] w (RenderPost r1 r2 w) := by
  obtain ⟨hp, hn, hv, _⟩ := check_valid h
  obtain ⟨st, hst, hres⟩ := renderO_some hro
  rw [List.zip_nil_right] at hst
  have HST := Aside0.mk hst
  have HRES := Aside0.mk hres
  have HR := Aside0.mk hr0
  have HV := Aside0.mk hv
  have HG := Aside0.mk (show document_Groups.f l0 = some ([], 0) by unfold document_Groups.f groupsL; rw [if_pos h, show groupsI (tree l0 (l0.length - 1)) = [] from hz]; rfl)
  have hmm := @run_makeMap Try.prog
  clear hr0 h hz hv hro hst hres
  go_enter Try.func24, Try.ntmps24
  go_wp2_with fail
  refine (document_Groups.calls (some ad) c0 l0 [] 0 w HR.out hc0 HG.out).mono ?_
  rintro e w1 ⟨v0, rfl, hg1, hb1⟩
  obtain ⟨A, c, rfl, hcc, hcg⟩ := Kd.R_reads hg1
  have hws := hb1.size
  have hB2 := hb1.alloc hws (Obj.map #[] 0)
  have hms : MapSt (w1.alloc (Obj.map #[] 0)) w1.heap.size [] := by simpa [MapSt, mkEs] using heap_alloc_new w1 (Obj.map #[] 0)
  clear hb1 hg1 hcg
  go_wp2_with fail
  refine wp_loop_rounds 1 ?_
  rw [rounds_succ]
  obtain ⟨W0, hW0⟩ : ∃ W0, W0 = w1.alloc (Obj.map #[] 0) := ⟨_, rfl⟩
  rw [← hW0] at hB2 hms ⊢
  have HB2 := Aside0.mk hB2
  have HMS := Aside0.mk hms
  clear hW0 hB2 hms
  go_wp2_with fail
  have hsw : w.heap.size ≤ W0.heap.size := HB2.out.size
  have hB3 : Below w.heap.size w (W0.alloc (Obj.cells #[Value.pointer none, Value.slice none 0 0, Value.int IntKind.i64 0, Value.int IntKind.i64 0, Value.bool false] 83)) := HB2.out.alloc hsw _
  have hparts := parts_calls ad c0 w1.heap.size l0 (chOf []) _ hn hp HV.out (Kd.C_below HR.out hB3) hc0 (by have := blk_lt HMS.out; simp; omega) (fun W hW i hi => lookup_run (show MapSt W w1.heap.size [] from (hW.trans (blk_old_alloc (blk_lt HMS.out) _)).trans HMS.out) i)
  rw [partV_eq] at hparts
  refine hparts.mono ?_
  rintro e W2 ⟨rfl, hb2⟩
  have hB4 := hB3.trans (hb2.mono (by simp; omega))
  have HWS := Aside0.mk (show WrS w W0.heap.size st0 W2 from ⟨⟨.pointer none, .slice none 0 0, (hb2.block W0.heap.size (by simp)).trans (heap_alloc_new W0 _), .inl rfl, own_nil _ _ _ _⟩, hsw, hB4⟩)
  have hpm := part_method (chOf []) (tree l0 (l0.length - 1))
  have hpe := part_enters (tree l0 (l0.length - 1))
  clear hb2 hB4 hB3 hparts
  go_wp2_with fail
  refine (write_any _ _ w W2 W0.heap.size 0 false st0 st HWS.out HST.out).mono ?_
  rintro e W3 ⟨rfl, h3, hk3⟩
  have m4 := WrSt.cell4 h3
  have H3 := Aside0.mk h3
  have HB5 := Aside0.mk h3.bel
  clear h3 hk3
  cases hw : st.wrong with
  | true =>
    have HE := Aside0.mk (show r1 = ⟨#[]⟩ ∧ r2 = 1 by have := HRES.out; rw [hw] at this; exact this)
    rw [hw] at m4
    clear hw
    go_wp2_with fail
    go_ret2
    exact ⟨by rw [HE.out.1, HE.out.2]; rfl, HB5.out⟩
  | false =>
    have HE := Aside0.mk (show r1 = ⟨st.out.toArray⟩ ∧ r2 = 0 by have := HRES.out; rw [hw] at this; exact this)
    rw [hw] at m4
    clear hw
    go_wp2_with fail
    refine (string_calls w W3 W0.heap.size st.out _ _ _ H3.out).mono ?_
    rintro e W4 ⟨rfl, hb4⟩
    have HB6 := Aside0.mk hb4
    clear hb4
    go_wp2_with fail
    go_ret2
    exact ⟨by rw [HE.out.1, HE.out.2]; rfl, HB6.out⟩
theorem document_Render.calls (A0 : Option Addr) (c0 : Nat) (l0 : List (S42)) (A1 : Option Addr) (c1 : Nat) (l1 : List Bool) (r1 : ByteArray) (r2 : Int) (w : World) (hr0 : Kd.C k42 w A0 l0.length l0) (hc0 : l0.length ≤ c0) (hr1 : Kd.C Kd.bool w A1 l1.length l1) (hc1 : l1.length ≤ c1) (h : document_Render.f l0 l1 = some (r1, r2)) :
    Calls Try.prog 24 #[.slice A0 l0.length c0, .slice A1 l1.length c1] w fun e w' => e = .returned (.tuple #[.string r1, .int .i64 r2]) ∧ Below w.heap.size w w' := by
  unfold document_Render.f at h
  by_cases hc : checkI l0 = 0
  · rw [if_neg (by simpa using hc)] at h
    by_cases hl : l1.length = (groupsI (rootT l0)).length
    · rw [if_neg (by simpa using hl)] at h
      obtain ⟨hp, _⟩ := check_valid hc
      obtain ⟨ad, rfl, _⟩ := at_T42 hr0 0 (by omega) (by omega)
      rcases Nat.eq_zero_or_pos (groupsI (rootT l0)).length with h0 | hpos
      · obtain rfl := List.eq_nil_of_length_eq_zero (hl.trans h0)
        exact render_zero ad c0 l0 A1 c1 w hr0 hc0 hc (List.eq_nil_of_length_eq_zero h0) r1 r2 h
      · obtain ⟨a1, rfl, _⟩ := Kd.at_bool hr1 0 (by omega) (by omega)
        exact render_pos ad c0 l0 a1 c1 l1 w hr0 hc0 hr1 hc hl hpos r1 r2 h
    · rw [if_pos hl] at h
      simp only [Option.some.injEq, Prod.mk.injEq] at h
      obtain ⟨rfl, rfl⟩ := h
      exact render_len A0 c0 l0 A1 l1.length c1 w hr0 hc0 hc hl
  · rw [if_pos hc] at h
    simp only [Option.some.injEq, Prod.mk.injEq] at h
    obtain ⟨rfl, rfl⟩ := h
    exact render_bad A0 c0 l0 A1 l1.length c1 w hr0 hc0 hc
end Go.Proofs.Ythmmdmnbcecooaa.A
end

section
namespace Go.Proofs.Ythmmdmnbcecooaa.A
open Go.RowKit Go.Proofs.YthmmdmnbcecooaaW.PrintWords Go.Proofs.YthmmdmnbcecooaaW.PrintLast Go.Proofs.YthmmdmnbcecooaaW.PrintMore
open Go.Instr
set_option linter.unusedVariables false
set_option linter.unusedSimpArgs false
structure Pl where
  col : Int
  wr : Bool
deriving DecidableEq
structure Sta where
  node : Nat
  ind : Int
  pl : Pl
deriving DecidableEq
structure Res where
  b : Int
  l : Int
  ch : List UInt8
deriving DecidableEq
def plV (p : Pl) : Value := .agg #[.int .i64 p.col, .bool p.wr]
def stV (s : Sta) : Value := .agg #[.int .i64 s.node, .int .i64 s.ind, .int .i64 s.pl.col, .bool s.pl.wr]
def rsV (r : Res) : Value := .agg #[.int .i64 r.b, .int .i64 r.l, .string ⟨r.ch.toArray⟩]
set_option maxRecDepth 100000 in
theorem eqA128 (d : Nat) (w : World) (x0 y0 : Int) (x1 y1 : Bool) :
    (Op.equalIn (d + 2) 128 (.agg #[.int .i64 x0, .bool x1]) (.agg #[.int .i64 y0, .bool y1])).run Try.prog w = .ok (x0 == y0 && (x1 == y1)) w := by
  refine eqA_of Try.underlying128 (by kernel_rfl) ?_
  refine eqf_cons (by rfl) (by first | (go_simp; done) | (go_simp; rfl)) (by first | (go_simp; done) | (go_simp; rfl)) (by go_simp) ?_
  exact eqf_last (by rfl) (by first | (go_simp; done) | (go_simp; rfl)) (by first | (go_simp; done) | (go_simp; rfl)) (by go_simp)
set_option maxRecDepth 100000 in
theorem eqA130 (d : Nat) (w : World) (x0 y0 x1 y1 x2 y2 : Int) (x3 y3 : Bool) :
    (Op.equalIn (d + 3) 130 (.agg #[.int .i64 x0, .int .i64 x1, .int .i64 x2, .bool x3]) (.agg #[.int .i64 y0, .int .i64 y1, .int .i64 y2, .bool y3])).run Try.prog w = .ok (x0 == y0 && (x1 == y1 && (x2 == y2 && (x3 == y3)))) w := by
  refine eqA_of Try.underlying130 (by kernel_rfl) ?_
  refine eqf_cons (by rfl) (by first | (go_simp; done) | (go_simp; rfl)) (by first | (go_simp; done) | (go_simp; rfl)) (by go_simp) ?_
  refine eqf_cons (by rfl) (by first | (go_simp; done) | (go_simp; rfl)) (by first | (go_simp; done) | (go_simp; rfl)) (by go_simp) ?_
  exact eqf_last (by rfl) (by first | (go_simp; done) | (go_simp; rfl)) (by first | (go_simp; done) | (go_simp; rfl)) (eqA128 d w x2 y2 x3 y3)
set_option maxRecDepth 100000 in
theorem checkKey128 (e : Bool) (n : Nat) (x0 : Int) (x1 : Bool) (W : World) : (checkKey e (n + 2) 128 (.agg #[.int .i64 x0, .bool x1])).run Try.prog W = .ok () W := by
  have h3 := Try.underlying3
  have h4 := Try.underlying4
  simp [checkKey, run_underlying Try.underlying128, go_sem]
set_option maxRecDepth 100000 in
theorem checkKey130 (e : Bool) (n : Nat) (x0 x1 x2 : Int) (x3 : Bool) (W : World) : (checkKey e (n + 3) 130 (.agg #[.int .i64 x0, .int .i64 x1, .int .i64 x2, .bool x3])).run Try.prog W = .ok () W := by
  have h3 := Try.underlying3
  have h4 := Try.underlying4
  have hk := checkKey128 e n x2 x3
  rw [show n + 3 = (n + 2) + 1 from rfl, checkKey]
  simp [run_underlying Try.underlying130, go_sem, hk]
  simp [checkKey, go_sem]
theorem checkKey4 (e : Bool) (n : Nat) (b : Bool) (W : World) : (checkKey e (n + 1) 4 (.bool b)).run Try.prog W = .ok () W := by
  simp [checkKey, run_underlying Try.underlying4]
/-- What the map's laws ask of a key type. -/
structure KeyT {K : Type} [DecidableEq K] (t : TypeId) (ke : K → Value) : Prop where
  eq : ∀ a b W, (Op.equal t (ke a) (ke b)).run Try.prog W = .ok (decide (a = b)) W
  chk : ∀ e a W, (checkKey e 10000 t (ke a)).run Try.prog W = .ok () W
  bits : ∀ a, sameBits 10000 (ke a) (ke a) = true
  now : ∀ td, Try.prog.underlying t = some td → ∀ a b, sameNow td (ke a) (ke b) = none ∨ sameNow td (ke a) (ke b) = some (decide (a = b))
  und : ∃ td, Try.prog.underlying t = some td
set_option maxRecDepth 100000 in
theorem keyT128 : KeyT 128 plV where
  eq := fun a b W => by
    have := eqA128 9998 W a.col b.col a.wr b.wr
    refine Eq.trans this ?_
    congr 1
    rw [Bool.eq_iff_iff]
    cases a; cases b
    simp
  chk := fun e a W => checkKey128 e 9998 a.col a.wr W
  bits := fun a => by simp [plV, sameBits]
  now := fun td h a b => by rw [Try.underlying128] at h; obtain rfl := Option.some.inj h; exact .inl rfl
  und := ⟨_, Try.underlying128⟩
set_option maxRecDepth 100000 in
theorem keyT130 : KeyT 130 stV where
  eq := fun a b W => by
    have := eqA130 9997 W a.node b.node a.ind b.ind a.pl.col b.pl.col a.pl.wr b.pl.wr
    refine Eq.trans this ?_
    congr 1
    rw [Bool.eq_iff_iff]
    obtain ⟨an, ai, ac, aw⟩ := a
    obtain ⟨bn, bi, bc, bw⟩ := b
    simp
    omega
  chk := fun e a W => checkKey130 e 9997 a.node a.ind a.pl.col a.pl.wr W
  bits := fun a => by simp [stV, sameBits]
  now := fun td h a b => by rw [Try.underlying130] at h; obtain rfl := Option.some.inj h; exact .inl rfl
  und := ⟨_, Try.underlying130⟩
set_option maxRecDepth 100000 in
theorem keyT4 : KeyT 4 Value.bool where
  eq := fun a b W => by
    show (Op.equalIn 10000 4 (.bool a) (.bool b)).run Try.prog W = _
    rw [show (10000 : Nat) = 9999 + 1 from rfl, Op.equalIn]
    simp only [Sem.run_bind, run_underlying Try.underlying4, Result.andThen_ok]
    cases a <;> cases b <;> rfl
  chk := fun e a W => checkKey4 e 9999 a W
  bits := fun a => by simp [sameBits]
  now := fun td h a b => by
    rw [Try.underlying4] at h; obtain rfl := Option.some.inj h
    right
    simp only [sameNow]
    cases a <;> cases b <;> rfl
  und := ⟨_, Try.underlying4⟩
section
variable {K V : Type} [DecidableEq K] {t : TypeId} {ke : K → Value} {ve : V → Value} {mt vt : TypeId}
def findP (ps : List (K × V)) (k : K) : Option V := (ps.find? (fun p => decide (k = p.1))).map (·.2)
def putP : List (K × V) → K → V → List (K × V)
  | [], k, v => [(k, v)]
  | p :: t, k, v => if k = p.1 then (p.1, v) :: t else p :: putP t k v
/-- The entries read as the pairs. -/
def EntP (ke : K → Value) (ve : V → Value) : List MapEntry → List (K × V) → Prop
  | [], [] => True
  | e :: es, p :: ps => e.key = ke p.1 ∧ e.val = ve p.2 ∧ EntP ke ve es ps
  | _, _ => False
/-- Map block g holds the pairs ps, no key twice, every stamp below the clock, no stamp twice. -/
structure MapP (ke : K → Value) (ve : V → Value) (W : World) (g : Nat) (ps : List (K × V)) : Prop where
  ex : ∃ (es : Array MapEntry) (c : Nat), W.heap[g]? = some (.map es c) ∧ EntP ke ve es.toList ps ∧ (∀ e ∈ es.toList, e.born < c) ∧ (es.toList.map (·.born)).Nodup
  nd : (ps.map (·.1)).Nodup
end
section
variable {K V : Type} {t : TypeId} {ke : K → Value} {ve : V → Value}
end
section
variable {K V : Type} [DecidableEq K] {t : TypeId} {ke : K → Value} {ve : V → Value} {mt vt : TypeId}
/-- What finding a key comes to: the index and the value. -/
def idxP : List (K × V) → K → Nat → Option (Nat × V)
  | [], _, _ => none
  | p :: t, k, i => if k = p.1 then some (i, p.2) else idxP t k (i + 1)
theorem idxP_find : ∀ (ps : List (K × V)) (k : K) (i : Nat), (idxP ps k i).map (·.2) = findP ps k
  | [], _, _ => rfl
  | p :: t, k, i => by
    unfold findP
    simp only [idxP, List.find?_cons]
    by_cases h : k = p.1
    · simp [h]
    · have := idxP_find t k (i + 1)
      unfold findP at this
      simp [h, this]
theorem findAsking_run (hk : KeyT t ke) (k : K) (W : World) : ∀ (es : List MapEntry) (ps : List (K × V)) (i : Nat), EntP ke ve es ps → (findAsking t (ke k) es i).run Try.prog W = .ok ((idxP ps k i).map fun x => (x.1, ve x.2)) W
  | [], [], i, _ => rfl
  | e :: es, p :: ps, i, h => by
    obtain ⟨h1, h2, h3⟩ := h
    rw [findAsking]
    simp only [Sem.run_bind, h1, hk.eq, Result.andThen_ok, idxP]
    by_cases e : k = p.1
    · simp [e, h2]
    · simp only [decide_eq_false e, Bool.false_eq_true, if_false]
      rw [if_neg e]
      exact findAsking_run hk k W es ps (i + 1) h3
  | [], _ :: _, _, h => h.elim
  | _ :: _, [], _, h => h.elim
theorem findNow_of (hk : KeyT t ke) {td : TypeDesc} (hu : Try.prog.underlying t = some td) (k : K) : ∀ (es : List MapEntry) (ps : List (K × V)) (i : Nat), EntP ke ve es ps → findNow td (ke k) es i = none ∨ findNow td (ke k) es i = some ((idxP ps k i).map fun x => (x.1, ve x.2))
  | [], [], i, _ => .inr rfl
  | e :: es, p :: ps, i, h => by
    obtain ⟨h1, h2, h3⟩ := h
    rw [findNow, h1]
    rcases hk.now td hu k p.1 with hn | hn
    · rw [hn]; exact .inl rfl
    · rw [hn]
      by_cases e : k = p.1
      · simp [e, idxP, h2]
      · simp only [decide_eq_false e]
        simp only [idxP, if_neg e]
        exact findNow_of hk hu k es ps (i + 1) h3
  | [], _ :: _, _, h => h.elim
  | _ :: _, [], _, h => h.elim
theorem findKey_run (hk : KeyT t ke) (k : K) (W : World) (es : List MapEntry) (ps : List (K × V)) (h : EntP ke ve es ps) : (findKey t (ke k) es).run Try.prog W = .ok ((idxP ps k 0).map fun x => (x.1, ve x.2)) W := by
  obtain ⟨td, hu⟩ := hk.und
  simp only [findKey, Sem.run_bind, run_underlying hu, Result.andThen_ok]
  rcases findNow_of hk hu k es ps 0 h with hn | hn
  · rw [hn]; exact findAsking_run hk k W es ps 0 h
  · rw [hn]; rfl
/-- 'v, ok := m[k]'. -/
theorem lookupP_run (hk : KeyT t ke) (hm : Try.prog.underlying mt = some (.map t vt)) {z : Value} (hz : ∀ W, (zeroValue vt).run Try.prog W = .ok z W) {W : World} {g : Nat} {ps : List (K × V)} (h : MapP ke ve W g ps) (k : K) :
    (lookup mt (.map (some g)) (ke k) true).run Try.prog W = .ok (.tuple #[((findP ps k).map ve).getD z, .bool (findP ps k).isSome]) W := by
  obtain ⟨⟨es, c, hg, he, _, _⟩, _⟩ := h
  have hf := findKey_run hk k W es.toList ps he
  have hi := idxP_find ps k 0
  simp only [lookup, Sem.run_bind, run_underlying hm, Result.andThen_ok, MapKept.run_getObj_map hg, hk.chk, hf]
  cases hx : idxP ps k 0 with
  | none =>
    rw [hx] at hi hf
    rw [← hi]
    simp [hz, hf]
  | some x =>
    rw [hx] at hi hf
    rw [← hi]
    simp [hf]
/-- 'm[k]'. -/
theorem lookupP_run1 (hk : KeyT t ke) (hm : Try.prog.underlying mt = some (.map t vt)) {W : World} {g : Nat} {ps : List (K × V)} (h : MapP ke ve W g ps) (k : K) {v : V} (hv : findP ps k = some v) :
    (lookup mt (.map (some g)) (ke k) false).run Try.prog W = .ok (ve v) W := by
  obtain ⟨⟨es, c, hg, he, _, _⟩, _⟩ := h
  have hf := findKey_run hk k W es.toList ps he
  have hi := idxP_find ps k 0
  simp only [lookup, Sem.run_bind, run_underlying hm, Result.andThen_ok, MapKept.run_getObj_map hg, hk.chk, hf]
  cases hx : idxP ps k 0 with
  | none => rw [hx, hv] at hi; cases hi
  | some x =>
    rw [hx, hv] at hi
    rw [hx] at hf
    simp only [Option.map_some, Option.some.injEq] at hi
    simp [hi, hf]
theorem putP_keys : ∀ (ps : List (K × V)) (k : K) (v : V), (putP ps k v).map (·.1) = if k ∈ ps.map (·.1) then ps.map (·.1) else ps.map (·.1) ++ [k]
  | [], k, v => by simp [putP]
  | p :: t, k, v => by
    simp only [putP]
    by_cases h : k = p.1
    · rw [if_pos h]; simp [h]
    · rw [if_neg h]
      have := putP_keys t k v
      simp only [List.map_cons, this, List.mem_cons, h, false_or]
      split
      · rfl
      · rfl
theorem putP_nodup {ps : List (K × V)} (h : (ps.map (·.1)).Nodup) (k : K) (v : V) : ((putP ps k v).map (·.1)).Nodup := by
  rw [putP_keys]
  split
  · exact h
  · rename_i hk
    rw [List.nodup_append]
    exact ⟨h, by simp, fun a ha b hb e => hk (by rw [List.mem_singleton.1 hb] at e; rw [← e]; exact ha)⟩
theorem findP_putP : ∀ (ps : List (K × V)) (k : K) (v : V) (j : K), findP (putP ps k v) j = if j = k then some v else findP ps j
  | [], k, v, j => by
    unfold findP
    by_cases h : j = k <;> simp [putP, h]
  | p :: t, k, v, j => by
    have ih := findP_putP t k v j
    unfold findP at ih ⊢
    simp only [putP]
    by_cases h : k = p.1
    · rw [if_pos h]
      simp only [List.find?_cons]
      by_cases hj : j = p.1
      · simp [hj, h]
      · simp [hj, h]
    · rw [if_neg h]
      simp only [List.find?_cons]
      by_cases hj : j = p.1
      · subst hj
        have : ¬ p.1 = k := fun e => h e.symm
        simp [this]
      · simp only [decide_eq_false hj]
        exact ih
theorem idxP_none : ∀ (ps : List (K × V)) (k : K) (i : Nat) (v : V), idxP ps k i = none → putP ps k v = ps ++ [(k, v)]
  | [], _, _, _, _ => rfl
  | p :: t, k, i, v, h => by
    simp only [idxP] at h
    split at h
    · cases h
    · rename_i hk
      simp only [putP, if_neg hk, idxP_none t k (i + 1) v h]
      rfl
end
section
variable {K V : Type} {t : TypeId} {ke : K → Value} {ve : V → Value}
theorem entP_snoc : ∀ {es : List MapEntry} {ps : List (K × V)} {e : MapEntry} {p : K × V}, EntP ke ve es ps → e.key = ke p.1 → e.val = ve p.2 → EntP ke ve (es ++ [e]) (ps ++ [p])
  | [], [], e, p, _, h1, h2 => ⟨h1, h2, trivial⟩
  | x :: es, y :: ps, e, p, h, h1, h2 => ⟨h.1, h.2.1, entP_snoc h.2.2 h1 h2⟩
  | [], _ :: _, _, _, h, _, _ => h.elim
  | _ :: _, [], _, _, h, _, _ => h.elim
end
section
variable {K V : Type} [DecidableEq K] {t : TypeId} {ke : K → Value} {ve : V → Value} {mt vt : TypeId}
theorem entP_put : ∀ {es : List MapEntry} {ps : List (K × V)} {k : K} {i j : Nat} {u v : V}, EntP ke ve es ps → idxP ps k i = some (j, u) → i ≤ j ∧ j - i < es.length ∧ ((es[j - i]?).map (·.key)) = some (ke k) ∧ EntP ke ve (es.modify (j - i) fun e => { e with key := ke k, val := ve v }) (putP ps k v)
  | [], [], k, i, j, u, v, _, h => by cases h
  | e :: es, p :: ps, k, i, j, u, v, hE, h => by
    simp only [idxP] at h
    split at h
    · rename_i hk
      simp only [Option.some.injEq, Prod.mk.injEq] at h
      obtain ⟨rfl, _⟩ := h
      refine ⟨Nat.le_refl _, by simp, by simp [hE.1, hk], ?_⟩
      rw [Nat.sub_self]
      simp only [List.modify_zero_cons, putP, if_pos hk]
      exact ⟨by rw [hk], rfl, hE.2.2⟩
    · rename_i hk
      obtain ⟨g1, g2, g3, g4⟩ := entP_put (v := v) hE.2.2 h
      have e1 : j - i = (j - (i + 1)) + 1 := by omega
      refine ⟨by omega, by simp; omega, ?_, ?_⟩
      · rw [e1, List.getElem?_cons_succ]; exact g3
      · rw [e1]
        simp only [List.modify_succ_cons, putP, if_neg hk]
        exact ⟨hE.1, hE.2.1, g4⟩
  | [], _ :: _, _, _, _, _, _, h, _ => h.elim
  | _ :: _, [], _, _, _, _, _, h, _ => h.elim
theorem born_modify (es : List MapEntry) (i : Nat) (key val : Value) : (es.modify i fun e => { e with key := key, val := val }).map (·.born) = es.map (·.born) := by
  apply List.ext_getElem
  · simp
  · intro j h1 h2
    simp only [List.getElem_map, List.getElem_modify]
    split <;> rfl
/-- 'm[k] = v'. -/
theorem updateP_run (hk : KeyT t ke) (hm : Try.prog.underlying mt = some (.map t vt)) {W : World} {g : Nat} {ps : List (K × V)} (h : MapP ke ve W g ps) (k : K) (v : V) :
    ∃ o, (mapUpdate mt (.map (some g)) (ke k) (ve v)).run Try.prog W = .ok () { W with heap := W.heap.setIfInBounds g o } ∧ MapP ke ve { W with heap := W.heap.setIfInBounds g o } g (putP ps k v) := by
  obtain ⟨⟨es, c, hg, he, hb, hn⟩, hd⟩ := h
  have hlt : g < W.heap.size := (Array.getElem?_eq_some_iff.1 hg).1
  have hf := findKey_run hk k W es.toList ps he
  cases hx : idxP ps k 0 with
  | none =>
    rw [hx] at hf
    refine ⟨.map (es.push { key := ke k, val := ve v, born := c }) (c + 1), ?_, ⟨es.push { key := ke k, val := ve v, born := c }, c + 1, by simp [Array.getElem?_setIfInBounds, hlt], ?_, ?_, ?_⟩, putP_nodup hd k v⟩
    · simp only [mapUpdate, Sem.run_bind, run_underlying hm, Result.andThen_ok, MapKept.run_getObj_map hg, hk.chk, hf]
      simp [MapKept.run_setObj_map _ hg]
    · rw [idxP_none ps k 0 v hx, Array.toList_push]
      exact entP_snoc he rfl rfl
    · intro e hm
      rw [Array.toList_push] at hm
      rcases List.mem_append.1 hm with hm | hm
      · have := hb e hm; omega
      · rw [List.mem_singleton.1 hm]; exact Nat.lt_succ_self _
    · rw [Array.toList_push, List.map_append, List.nodup_append]
      refine ⟨hn, by simp, fun a ha b hb' e => ?_⟩
      obtain ⟨x, hx1, rfl⟩ := List.mem_map.1 ha
      simp at hb'
      have := hb x hx1
      omega
  | some x =>
    obtain ⟨j, u⟩ := x
    rw [hx] at hf
    obtain ⟨g1, g2, g3, g4⟩ := entP_put (v := v) he hx
    rw [Nat.sub_zero] at g2 g3 g4
    have hkey : ((es[j]?).map (·.key)).getD (ke k) = ke k := by
      have : (es[j]?).map (·.key) = some (ke k) := by rw [← g3]; simp
      rw [this]; rfl
    refine ⟨.map (es.modify j fun e => { e with key := ke k, val := ve v }) c, ?_, ⟨es.modify j fun e => { e with key := ke k, val := ve v }, c, by simp [Array.getElem?_setIfInBounds, hlt], ?_, ?_, ?_⟩, putP_nodup hd k v⟩
    · simp only [mapUpdate, Sem.run_bind, run_underlying hm, Result.andThen_ok, MapKept.run_getObj_map hg, hk.chk, hf, Option.map_some, hkey, keyThatStays, hk.bits, if_true]
      simp [MapKept.run_setObj_map _ hg]
    · rw [Array.toList_modify]; exact g4
    · intro e hm
      rw [Array.toList_modify] at hm
      have : e.born ∈ (es.toList.modify j fun e => { e with key := ke k, val := ve v }).map (·.born) := List.mem_map.2 ⟨e, hm, rfl⟩
      rw [born_modify] at this
      obtain ⟨x, hx1, hx2⟩ := List.mem_map.1 this
      rw [← hx2]; exact hb x hx1
    · rw [Array.toList_modify, born_modify]; exact hn
end
section
variable {K V : Type} {t : TypeId} {ke : K → Value} {ve : V → Value}
theorem MapP.new (W : World) : MapP ke ve (W.alloc (.map #[] 0)) W.heap.size ([] : List (K × V)) :=
  ⟨⟨#[], 0, heap_alloc_new W _, trivial, fun e he => by simp at he, by simp⟩, by simp⟩
theorem MapP.move {W W' : World} {g : Nat} {ps : List (K × V)} (h : MapP ke ve W g ps) (hg : W'.heap[g]? = W.heap[g]?) : MapP ke ve W' g ps := by
  obtain ⟨⟨es, c, h1, h2⟩, hd⟩ := h
  exact ⟨⟨es, c, hg.trans h1, h2⟩, hd⟩
theorem MapP.lt {W : World} {g : Nat} {ps : List (K × V)} (h : MapP ke ve W g ps) : g < W.heap.size := by
  obtain ⟨⟨es, c, h1, h2⟩, hd⟩ := h
  exact (Array.getElem?_eq_some_iff.1 h1).1
end
end Go.Proofs.Ythmmdmnbcecooaa.A
end

section
namespace Go.Proofs.Ythmmdmnbcecooaa.A
open Go.RowKit Go.Proofs.YthmmdmnbcecooaaW.PrintWords Go.Proofs.YthmmdmnbcecooaaW.PrintLast Go.Proofs.YthmmdmnbcecooaaW.PrintMore
set_option linter.unusedVariables false
set_option linter.unusedSimpArgs false
theorem bl_irrefl : ∀ a : List UInt8, Op.bytesLess a a = false
  | [] => rfl
  | x :: t => by simp [Op.bytesLess, bl_irrefl t]
theorem bl_trans : ∀ a b c : List UInt8, Op.bytesLess a b = true → Op.bytesLess b c = true → Op.bytesLess a c = true
  | [], [], _, h, _ => by cases h
  | [], _ :: _, [], _, h => by cases h
  | [], _ :: _, _ :: _, _, _ => rfl
  | _ :: _, [], _, h, _ => by cases h
  | _ :: _, _ :: _, [], _, h => by cases h
  | x :: a, y :: b, z :: c, h, k => by
    simp only [Op.bytesLess, Bool.or_eq_true, Bool.and_eq_true, decide_eq_true_iff, beq_iff_eq] at h k ⊢
    rcases h with h | ⟨rfl, h⟩
    · rcases k with k | ⟨rfl, k⟩
      · exact .inl (UInt8.lt_trans h k)
      · exact .inl h
    · rcases k with k | ⟨rfl, k⟩
      · exact .inl k
      · exact .inr ⟨rfl, bl_trans a b c h k⟩
theorem bl_tri : ∀ a b : List UInt8, Op.bytesLess a b = false → Op.bytesLess b a = false → a = b
  | [], [], _, _ => rfl
  | [], _ :: _, h, _ => by cases h
  | _ :: _, [], _, h => by cases h
  | x :: a, y :: b, h, k => by
    simp only [Op.bytesLess, Bool.or_eq_false_iff, Bool.and_eq_false_iff, decide_eq_false_iff_not, beq_eq_false_iff_ne] at h k
    have e : x = y := by
      have h1 := h.1
      have k1 := k.1
      rw [UInt8.not_lt] at h1 k1
      exact UInt8.le_antisymm k1 h1
    subst e
    rcases h.2 with h2 | h2
    · exact absurd rfl h2
    · rcases k.2 with k2 | k2
      · exact absurd rfl k2
      · rw [bl_tri a b h2 k2]
theorem bl_append_left (p : List UInt8) : ∀ a b : List UInt8, Op.bytesLess (p ++ a) (p ++ b) = Op.bytesLess a b := by
  induction p with
  | nil => intro a b; rfl
  | cons x p ih => intro a b; simp [Op.bytesLess, ih]
theorem bl_append : ∀ (a b c d : List UInt8), a.length = b.length → Op.bytesLess (a ++ c) (b ++ d) = (Op.bytesLess a b || (decide (a = b) && Op.bytesLess c d))
  | [], [], c, d, _ => by simp [Op.bytesLess]
  | [], _ :: _, _, _, h => by simp at h
  | _ :: _, [], _, _, h => by simp at h
  | x :: a, y :: b, c, d, h => by
    simp only [List.cons_append, Op.bytesLess]
    rw [bl_append a b c d (by simpa using h)]
    by_cases e : x = y
    · subst e
      simp
    · have e1 : (x == y) = false := beq_eq_false_iff_ne.2 e
      have e2 : decide (x :: a = y :: b) = false := decide_eq_false (fun hh => e (List.cons.inj hh).1)
      rw [e1, e2]
      simp
def lessR (x y : Res) : Bool := if x.b != y.b then decide (x.b < y.b) else if x.l != y.l then decide (x.l < y.l) else Op.bytesLess x.ch y.ch
theorem lessR_iff (x y : Res) : lessR x y = true ↔ x.b < y.b ∨ x.b = y.b ∧ (x.l < y.l ∨ x.l = y.l ∧ Op.bytesLess x.ch y.ch = true) := by
  unfold lessR
  by_cases h1 : x.b = y.b
  · rw [if_neg (by simpa using h1)]
    by_cases h2 : x.l = y.l
    · rw [if_neg (by simpa using h2)]
      simp [h1, h2]
    · rw [if_pos (by simpa using h2)]
      simp [h1, h2]
  · rw [if_pos (by simpa using h1)]
    simp [h1]
theorem lessR_irrefl (x : Res) : lessR x x = false := by
  rw [Bool.eq_false_iff]
  intro h
  rw [lessR_iff] at h
  rcases h with h | ⟨_, h | ⟨_, h⟩⟩
  · omega
  · omega
  · rw [bl_irrefl] at h; cases h
theorem lessR_trans {x y z : Res} (h : lessR x y = true) (k : lessR y z = true) : lessR x z = true := by
  rw [lessR_iff] at h k ⊢
  rcases h with h | ⟨h0, h | ⟨h1, h⟩⟩
  · left; rcases k with k | ⟨k0, k⟩ <;> omega
  · rcases k with k | ⟨k0, k | ⟨k1, k⟩⟩
    · left; omega
    · right; exact ⟨by omega, .inl (by omega)⟩
    · right; exact ⟨by omega, .inl (by omega)⟩
  · rcases k with k | ⟨k0, k | ⟨k1, k⟩⟩
    · left; omega
    · right; exact ⟨by omega, .inl (by omega)⟩
    · right; exact ⟨by omega, .inr ⟨by omega, bl_trans _ _ _ h k⟩⟩
theorem lessR_tri {x y : Res} (h : lessR x y = false) (k : lessR y x = false) : x = y := by
  have h' : ¬ (x.b < y.b ∨ x.b = y.b ∧ (x.l < y.l ∨ x.l = y.l ∧ Op.bytesLess x.ch y.ch = true)) := fun e => by rw [(lessR_iff x y).2 e] at h; cases h
  have k' : ¬ (y.b < x.b ∨ y.b = x.b ∧ (y.l < x.l ∨ y.l = x.l ∧ Op.bytesLess y.ch x.ch = true)) := fun e => by rw [(lessR_iff y x).2 e] at k; cases k
  have e1 : x.b = y.b := by omega
  have e2 : x.l = y.l := by omega
  have e3 : x.ch = y.ch := by
    refine bl_tri _ _ ?_ ?_
    · rw [Bool.eq_false_iff]; intro e; exact h' (.inr ⟨e1, .inr ⟨e2, e⟩⟩)
    · rw [Bool.eq_false_iff]; intro e; exact k' (.inr ⟨e1.symm, .inr ⟨e2.symm, e⟩⟩)
  cases x; cases y
  simp only at e1 e2 e3
  rw [e1, e2, e3]
theorem lessR_asymm {x y : Res} (h : lessR x y = true) : lessR y x = false := by
  rw [Bool.eq_false_iff]
  intro k
  have := lessR_trans h k
  rw [lessR_irrefl] at this
  cases this
section
variable {K : Type} [DecidableEq K]
def keepL (ps : List (K × Res)) (k : K) (v : Res) : List (K × Res) :=
  match findP ps k with
  | none => putP ps k v
  | some old => if lessR v old then putP ps k v else ps
/-- ps holds, for each key, the least of the candidates. -/
def MinOf (ps : List (K × Res)) (C : K → Res → Prop) : Prop := ∀ q r, findP ps q = some r ↔ (C q r ∧ ∀ r', C q r' → lessR r' r = false)
theorem MinOf.nil : MinOf ([] : List (K × Res)) (fun _ _ => False) := fun q r => by simp [findP]
theorem MinOf.congr {ps : List (K × Res)} {C D : K → Res → Prop} (h : MinOf ps C) (e : ∀ q r, C q r ↔ D q r) : MinOf ps D := fun q r => by
  rw [h q r]
  constructor
  · rintro ⟨h1, h2⟩; exact ⟨(e q r).1 h1, fun r' hr => h2 r' ((e q r').2 hr)⟩
  · rintro ⟨h1, h2⟩; exact ⟨(e q r).2 h1, fun r' hr => h2 r' ((e q r').1 hr)⟩
theorem MinOf.keep {ps : List (K × Res)} {C : K → Res → Prop} (h : MinOf ps C) (hne : ∀ q r, C q r → ∃ r0, findP ps q = some r0) (k : K) (v : Res) :
    MinOf (keepL ps k v) (fun q r => C q r ∨ (q = k ∧ r = v)) ∧ ∀ q r, (C q r ∨ (q = k ∧ r = v)) → ∃ r0, findP (keepL ps k v) q = some r0 := by
  have key : ∀ q, findP (keepL ps k v) q = if q = k then (match findP ps k with | none => some v | some old => if lessR v old then some v else some old) else findP ps q := by
    intro q
    unfold keepL
    cases hf : findP ps k with
    | none => simp only; rw [findP_putP]
    | some old =>
      simp only
      by_cases hl : lessR v old = true
      · rw [if_pos hl, if_pos hl, findP_putP]
      · rw [if_neg hl, if_neg hl]
        by_cases hq : q = k
        · rw [if_pos hq, hq, hf]
        · rw [if_neg hq]
  constructor
  · intro q r
    rw [key q]
    by_cases hq : q = k
    · subst hq
      rw [if_pos rfl]
      cases hf : findP ps q with
      | none =>
        have hn : ∀ r', ¬ C q r' := fun r' hc => by
          obtain ⟨r0, h0⟩ := hne q r' hc
          rw [hf] at h0; cases h0
        simp only
        constructor
        · intro e
          obtain rfl := Option.some.inj e
          exact ⟨.inr ⟨by trivial, rfl⟩, fun r' hr => by
            rcases hr with hr | ⟨_, rfl⟩
            · exact absurd hr (hn r')
            · exact lessR_irrefl _⟩
        · rintro ⟨hc | ⟨_, rfl⟩, _⟩
          · exact absurd hc (hn r)
          · rfl
      | some old =>
        simp only
        obtain ⟨ho1, ho2⟩ := (h q old).1 hf
        by_cases hl : lessR v old = true
        · rw [if_pos hl]
          constructor
          · intro e
            obtain rfl := Option.some.inj e
            refine ⟨.inr ⟨by trivial, rfl⟩, fun r' hr => ?_⟩
            rcases hr with hr | ⟨_, rfl⟩
            · rw [Bool.eq_false_iff]
              intro e
              have := ho2 r' hr
              rw [lessR_trans e hl] at this
              cases this
            · exact lessR_irrefl _
          · rintro ⟨hc | ⟨_, rfl⟩, hm⟩
            · exfalso
              have h1 := hm v (.inr ⟨by trivial, rfl⟩)
              have h2 := ho2 r hc
              cases h3 : lessR old r with
              | false =>
                obtain rfl := lessR_tri h3 h2
                rw [hl] at h1; cases h1
              | true =>
                rw [lessR_trans hl h3] at h1; cases h1
            · rfl
        · have hl' : lessR v old = false := by simpa using hl
          rw [if_neg hl]
          constructor
          · intro e
            obtain rfl := Option.some.inj e
            exact ⟨.inl ho1, fun r' hr => by
              rcases hr with hr | ⟨_, rfl⟩
              · exact ho2 r' hr
              · exact hl'⟩
          · rintro ⟨hc, hm⟩
            have h1 := hm old (.inl ho1)
            rcases hc with hc | ⟨_, rfl⟩
            · rw [lessR_tri h1 (ho2 r hc)]
            · rw [lessR_tri h1 hl']
    · rw [if_neg hq, h q r]
      constructor
      · rintro ⟨h1, h2⟩
        exact ⟨.inl h1, fun r' hr => by
          rcases hr with hr | ⟨e, _⟩
          · exact h2 r' hr
          · exact absurd e hq⟩
      · rintro ⟨h1, h2⟩
        refine ⟨?_, fun r' hr => h2 r' (.inl hr)⟩
        rcases h1 with h1 | ⟨e, _⟩
        · exact h1
        · exact absurd e hq
  · intro q r hc
    rw [key q]
    by_cases hq : q = k
    · subst hq
      rw [if_pos rfl]
      split
      · exact ⟨_, rfl⟩
      · split <;> exact ⟨_, rfl⟩
    · rw [if_neg hq]
      rcases hc with hc | ⟨e, _⟩
      · exact hne q r hc
      · exact absurd e hq
end
theorem findP_mem {K V : Type} [DecidableEq K] : ∀ {ps : List (K × V)}, (ps.map (·.1)).Nodup → ∀ k v, findP ps k = some v ↔ (k, v) ∈ ps
  | [], _, k, v => by simp [findP]
  | p :: t, h, k, v => by
    rw [List.map_cons, List.nodup_cons] at h
    have ih := findP_mem h.2 k v
    unfold findP at ih ⊢
    simp only [List.find?_cons, List.mem_cons]
    by_cases e : k = p.1
    · simp only [decide_eq_true e]
      constructor
      · intro hh
        simp only [Option.map_some, Option.some.injEq] at hh
        left
        rw [e, ← hh]
      · rintro (hh | hh)
        · rw [← hh]; rfl
        · exact absurd (List.mem_map.2 ⟨(k, v), hh, rfl⟩) (by rw [e]; exact h.1)
    · simp only [decide_eq_false e]
      rw [ih]
      constructor
      · exact fun hh => .inr hh
      · rintro (hh | hh)
        · exact absurd (by rw [← hh]) e
        · exact hh
end Go.Proofs.Ythmmdmnbcecooaa.A
end

section
namespace Go.Proofs.Ythmmdmnbcecooaa.A
open Go.RowKit Go.Proofs.YthmmdmnbcecooaaW.PrintWords Go.Proofs.YthmmdmnbcecooaaW.PrintLast Go.Proofs.YthmmdmnbcecooaaW.PrintMore
attribute [local go_sem] max2_int max_two
set_option linter.unusedVariables false
set_option linter.unusedSimpArgs false
def BoolPost (b : Bool) (w : World) (e : Ending) (w' : World) : Prop := e = .returned (.bool b) ∧ Below w.heap.size w w'
theorem below_alloc3 (w : World) (o o' o2 : Obj) : Below w.heap.size w (((w.alloc o).alloc o').alloc o2) := below_alloc (below_alloc (below_alloc (Below.refl _ _) o) o') o2
theorem below_alloc2 (w : World) (o o' : Obj) : Below w.heap.size w ((w.alloc o).alloc o') := below_alloc (below_alloc (Below.refl _ _) o) o'
set_option maxHeartbeats 1000000 in
set_option maxRecDepth 100000 in
theorem less_calls (x y : Res) (w : World) : Calls Try.prog 75 #[rsV x, rsV y] w (BoolPost (lessR x y) w) := by
  obtain ⟨x1, x2, x3⟩ := x
  obtain ⟨y1, y2, y3⟩ := y
  show Calls Try.prog 75 #[.agg #[.int .i64 x1, .int .i64 x2, .string ⟨x3.toArray⟩], .agg #[.int .i64 y1, .int .i64 y2, .string ⟨y3.toArray⟩]] w _
  have ex : (⟨x3.toArray⟩ : ByteArray).toList = x3 := by rw [ByteArray.toList_eq]
  have ey : (⟨y3.toArray⟩ : ByteArray).toList = y3 := by rw [ByteArray.toList_eq]
  by_cases h1 : x1 = y1
  · subst h1
    by_cases h2 : x2 = y2
    · subst h2
      obtain ⟨r, hr⟩ : ∃ r, r = lessR ⟨x1, x2, x3⟩ ⟨x1, x2, y3⟩ := ⟨_, rfl⟩
      have HR := Aside0.mk (show Op.bytesLess x3 y3 = lessR ⟨x1, x2, x3⟩ ⟨x1, x2, y3⟩ by simp [lessR])
      clear hr
      go_enter Try.func75, Try.ntmps75
      go_wp2_with fail
      go_ret
      exact ⟨by rw [← HR.out]; rfl, below_alloc2 w _ _⟩
    · have g2 : (x2 != y2) = true := bne_iff_ne.2 h2
      have HR := Aside0.mk (show decide (x2 < y2) = lessR ⟨x1, x2, x3⟩ ⟨x1, y2, y3⟩ by simp [lessR, h2])
      clear ex ey h2
      go_enter Try.func75, Try.ntmps75
      go_wp2_with fail
      go_ret
      exact ⟨by rw [← HR.out]; rfl, below_alloc2 w _ _⟩
  · have g1 : (x1 != y1) = true := bne_iff_ne.2 h1
    have HR := Aside0.mk (show decide (x1 < y1) = lessR ⟨x1, x2, x3⟩ ⟨y1, y2, y3⟩ by simp [lessR, h1])
    clear ex ey h1
    go_enter Try.func75, Try.ntmps75
    go_wp2_with fail
    go_ret
    exact ⟨by rw [← HR.out]; rfl, below_alloc2 w _ _⟩
def writeP (wd : Int) (p : Pl) (s : List UInt8) : Pl × Int :=
  if s = [] then (p, 0) else (⟨p.col + s.length, true⟩, mx 0 (p.col + s.length - wd) - mx 0 ((if p.wr then p.col else 0) - wd))
def PcPost (q : Pl) (b : Int) (w : World) (e : Ending) (w' : World) : Prop := e = .returned (.tuple #[plV q, .agg #[.int .i64 b, .int .i64 0]]) ∧ Below w.heap.size w w'
theorem results_two {fn : Func} {p u : Tmp} {ty ty' : TypeId} (h : fn.results = #[.cell p ty, .cell u ty']) (tmps : Array Value) (P : Program) (w : World) (g g' : Nat) (t t' : TypeId) (cs cs' : Array Value) (fr fr' : Nat × Nat) (fs fs' : Array Field)
    (hp : tmps.getD p undef = .pointer (some ⟨g, 0, none⟩)) (hg : w.heap[g]? = some (.cells cs t fr)) (hp' : tmps.getD u undef = .pointer (some ⟨g', 0, none⟩)) (hg' : w.heap[g']? = some (.cells cs' t' fr'))
    (hu : P.underlying ty = some (.struct fs)) (hi : (P.info? ty).map (·.size) = some cs.size) (hu' : P.underlying ty' = some (.struct fs')) (hi' : (P.info? ty').map (·.size) = some cs'.size) :
    (results fn tmps).run P w = .ok (.tuple #[.agg cs, .agg cs']) w := by
  have e1 : tmps[p]?.getD undef = .pointer (some ⟨g, 0, none⟩) := by simpa using hp
  have e2 : tmps[u]?.getD undef = .pointer (some ⟨g', 0, none⟩) := by simpa using hp'
  simp [results, h, e1, e2, asAddr, run_loadVar_row w g t ty cs fr (.struct fs) hg hu rfl hi, run_loadVar_row w g' t' ty' cs' fr' (.struct fs') hg' hu' rfl hi']
theorem info128 : (Try.prog.info? 128).map (·.size) = some 2 := by kernel_rfl
theorem info36 : (Try.prog.info? 36).map (·.size) = some 2 := by kernel_rfl
theorem alloc_sz (w : World) (a : Obj) : (w.alloc a).heap.size = w.heap.size + 1 := by
  show (w.heap.push a).size = _
  simp
theorem alloc_at1 (w : World) (a b c : Obj) : (((w.alloc a).alloc b).alloc c).heap[w.heap.size + 1]? = some b := by
  have h := heap_alloc_new (w.alloc a) b
  rw [alloc_sz] at h
  have hb := (below_alloc (Below.refl ((w.alloc a).alloc b).heap.size ((w.alloc a).alloc b)) c).block (w.heap.size + 1) (by rw [alloc_sz, alloc_sz]; omega)
  exact hb.trans h
theorem alloc_at2 (w : World) (a b c : Obj) : (((w.alloc a).alloc b).alloc c).heap[w.heap.size + 1 + 1]? = some c := by
  have h := heap_alloc_new ((w.alloc a).alloc b) c
  rw [alloc_sz, alloc_sz] at h
  exact h
/-- The end of write: two results that lie in the second and third block. -/
theorem pc_end {f : Func} (h : f.results = #[.cell 6 128, .cell 7 36]) {tmps : Array Value} {w W : World} {a : Obj} {b : Int} {col : Int} {wr : Bool}
    (hW : W = ((w.alloc a).alloc (.cells #[.int .i64 col, .bool wr] 128)).alloc (.cells #[.int .i64 b, .int .i64 0] 36) ∨ W = (((w.alloc a).alloc (.cells #[.int .i64 col, .bool wr] 128)).alloc (.cells #[.int .i64 b, .int .i64 0] 36)).drew)
    (h6 : tmps.getD 6 undef = .pointer (some ⟨w.heap.size + 1, 0, none⟩)) (h7 : tmps.getD 7 undef = .pointer (some ⟨w.heap.size + 1 + 1, 0, none⟩)) {q' : Pl} {b' : Int} (hq : q' = ⟨col, wr⟩) (hb : b' = b) :
    bodyPost Try.prog f (PcPost q' b' w) Exit.ret ⟨tmps, []⟩ W := by
  subst hq hb
  have e1 : W.heap[w.heap.size + 1]? = some (.cells #[.int .i64 col, .bool wr] 128) := by
    rcases hW with rfl | rfl
    · exact alloc_at1 w _ _ _
    · exact alloc_at1 w _ _ _
  have e2 : W.heap[w.heap.size + 1 + 1]? = some (.cells #[.int .i64 b', .int .i64 0] 36) := by
    rcases hW with rfl | rfl
    · exact alloc_at2 w _ _ _
    · exact alloc_at2 w _ _ _
  have hB : Below w.heap.size w W := by
    rcases hW with rfl | rfl
    · exact below_alloc3 w _ _ _
    · exact below_drew1 (below_alloc3 w _ _ _)
  refine bodyPost_ret (results_two h tmps Try.prog W _ _ 128 36 _ _ _ _ _ _ h6 e1 h7 e2 Try.underlying128 ?_ Try.underlying36 ?_) rfl ⟨rfl, hB⟩
  · exact info128
  · exact info36
set_option maxHeartbeats 1000000 in
set_option maxRecDepth 100000 in
theorem lwrite_calls (g : Nat) (wd : Int) (p : Pl) (s : ByteArray) (w : World) (hc : w.cell? ⟨g, 1, none⟩ = some (.int .i64 wd)) (hw : 0 ≤ wd ∧ wd ≤ 1000) (hp : 0 ≤ p.col ∧ p.col ≤ 1000000000000000) (hs : s.size ≤ 1000000000000000) :
    Calls Try.prog 81 #[.pointer (some ⟨g, 0, none⟩), plV p, .string s] w (PcPost (writeP wd p s.data.toList).1 (writeP wd p s.data.toList).2 w) := by
  obtain ⟨c, wr⟩ := p
  obtain ⟨hw1, hw2⟩ := hw
  obtain ⟨hp1, hp2⟩ := hp
  simp only at hp1 hp2
  have hlt : g < w.heap.size := World.block_lt_of_cell? w _ hc
  have hsl := data_length s
  show Calls Try.prog 81 #[.pointer (some ⟨g, 0, none⟩), .agg #[.int .i64 c, .bool wr], .string s] w _
  by_cases hs0 : s.data.toList = []
  · have he : s.toList = [] := by rw [ByteArray.toList_eq]; exact hs0
    have HQ := Aside0.mk (show writeP wd ⟨c, wr⟩ s.data.toList = (⟨c, wr⟩, 0) by unfold writeP; rw [if_pos hs0])
    clear hs0 hsl
    go_enter Try.func81, Try.ntmps81
    go_wp2_with fail
    exact pc_end rfl (.inl rfl) rfl rfl (by rw [HQ.out]) (by rw [HQ.out])
  · have he : ¬ (s.toList = []) := by rw [ByteArray.toList_eq]; exact hs0
    have he2 : s.toList.isEmpty = false := by rw [List.isEmpty_eq_false_iff]; exact he
    have HQ := Aside0.mk (show writeP wd ⟨c, wr⟩ s.data.toList = (⟨c + s.size, true⟩, mx 0 (c + s.size - wd) - mx 0 ((if wr then c else 0) - wd)) by unfold writeP; rw [if_neg hs0, hsl])
    have m1 : ∀ o o' o2 : Obj, (((w.alloc o).alloc o').alloc o2).cell? ⟨g, 1, none⟩ = some (.int .i64 wd) := fun o o' o2 => pw_cell_below (below_alloc3 w o o' o2) hc
    have m2 : ∀ o o' o2 : Obj, (((w.alloc o).alloc o').alloc o2).drew.cell? ⟨g, 1, none⟩ = some (.int .i64 wd) := m1
    clear hs0 hsl
    cases wr with
    | true =>
      go_enter Try.func81, Try.ntmps81
      go_wp2_with fail
      go_region
      all_goals go_wp2_with fail
      all_goals exact pc_end rfl (.inr rfl) rfl rfl (by rw [HQ.out]) (by rw [HQ.out]; simp only [if_true]; unfold mx; split <;> split <;> omega)
    | false =>
      go_enter Try.func81, Try.ntmps81
      go_wp2_with fail
      go_region
      all_goals go_wp2_with fail
      all_goals exact pc_end rfl (.inr rfl) rfl rfl (by rw [HQ.out]) (by rw [HQ.out]; simp only [Bool.false_eq_true, if_false]; unfold mx; split <;> split <;> omega)
end Go.Proofs.Ythmmdmnbcecooaa.A
end

section
namespace Go.Proofs.Ythmmdmnbcecooaa.A
open Go.RowKit Go.Proofs.YthmmdmnbcecooaaW.PrintWords Go.Proofs.YthmmdmnbcecooaaW.PrintLast Go.Proofs.YthmmdmnbcecooaaW.PrintMore
open Go.Instr (lookup mapUpdate)
attribute [local go_sem] max2_int max_two
set_option linter.unusedVariables false
set_option linter.unusedSimpArgs false
/-- What is old and not in S is as it was. -/
structure Only (S : Nat → Prop) (w w' : World) : Prop where
  os : w'.os = w.os
  tape : w'.tape = w.tape
  output : w'.output = w.output
  size : w.heap.size ≤ w'.heap.size
  block : ∀ i, i < w.heap.size → ¬ S i → w'.heap[i]? = w.heap[i]?
theorem Only.refl (S : Nat → Prop) (w : World) : Only S w w := ⟨rfl, rfl, rfl, Nat.le_refl _, fun _ _ _ => rfl⟩
theorem Only.of_below {S : Nat → Prop} {w w' : World} (h : Below w.heap.size w w') : Only S w w' := ⟨h.os, h.tape, h.output, h.size, fun i hi _ => h.block i hi⟩
theorem Only.trans {S : Nat → Prop} {a b c : World} (h : Only S a b) (k : Only S b c) : Only S a c :=
  ⟨k.os.trans h.os, k.tape.trans h.tape, k.output.trans h.output, Nat.le_trans h.size k.size, fun i hi hs => (k.block i (Nat.lt_of_lt_of_le hi h.size) hs).trans (h.block i hi hs)⟩
/-- S may grow, as far as new blocks go. -/
theorem Only.widen {S T : Nat → Prop} {w w' : World} (h : Only S w w') (k : ∀ i, i < w.heap.size → S i → T i) : Only T w w' := ⟨h.os, h.tape, h.output, h.size, fun i hi hs => h.block i hi (fun e => hs (k i hi e))⟩
theorem Only.below {S : Nat → Prop} {w w' : World} (h : Only S w w') {B : Nat} (hB : B ≤ w.heap.size) (k : ∀ i, i < B → ¬ S i) : Below B w w' := ⟨h.os, h.tape, h.output, h.size, fun i hi => h.block i (Nat.lt_of_lt_of_le hi hB) (k i hi)⟩
theorem Only.put {S : Nat → Prop} (w : World) {g : Nat} (hg : S g) (o : Obj) : Only S w { w with heap := w.heap.setIfInBounds g o } :=
  ⟨rfl, rfl, rfl, by simp, fun i hi hs => by
    have : g ≠ i := fun e => hs (e ▸ hg)
    simp [Array.getElem?_setIfInBounds, this]⟩
theorem Only.alloc {S : Nat → Prop} {w w' : World} (h : Only S w w') (o : Obj) : Only S w (w'.alloc o) := h.trans (.of_below (below_alloc (Below.refl _ _) o))
theorem Only.drew {S : Nat → Prop} {w w' : World} (h : Only S w w') : Only S w w'.drew := h.trans (.of_below (below_drew1 (Below.refl _ _)))
def KeepPost (g : Nat) {K : Type} (ke : K → Value) (ps : List (K × Res)) (w : World) (e : Ending) (w' : World) : Prop :=
  e = .returned (.tuple #[]) ∧ MapP ke rsV w' g ps ∧ Only (· = g) w w'
theorem alloc_at0 (w : World) (a b c : Obj) : (((w.alloc a).alloc b).alloc c).heap[w.heap.size]? = some a := by
  have h := heap_alloc_new w a
  have h1 := (below_alloc (Below.refl (w.alloc a).heap.size (w.alloc a)) b).block w.heap.size (by rw [alloc_sz]; omega)
  have h2 := (below_alloc (Below.refl ((w.alloc a).alloc b).heap.size ((w.alloc a).alloc b)) c).block w.heap.size (by rw [alloc_sz, alloc_sz]; omega)
  exact h2.trans (h1.trans h)
def fn75 : Value := .func (.func 75) #[] #[]
set_option maxHeartbeats 1000000 in
set_option maxRecDepth 100000 in
theorem keep82_calls (g : Nat) (ps : List (Pl × Res)) (k : Pl) (v : Res) (w : World) (h : MapP plV rsV w g ps) :
    Calls Try.prog 82 #[.map (some g), plV k, rsV v, fn75] w (KeepPost g plV (keepL ps k v) w) := by
  obtain ⟨kc, kw⟩ := k
  obtain ⟨v1, v2, v3⟩ := v
  have hlt := h.lt
  have hne : ∀ i, w.heap.size ≤ i → g ≠ i := fun i hi e => by omega
  obtain ⟨W2, hW2⟩ : ∃ W2, W2 = (w.alloc (.cells #[.int .i64 kc, .bool kw] 128)).alloc (.cells #[.int .i64 v1, .int .i64 v2, .string ⟨v3.toArray⟩] 132) := ⟨_, rfl⟩
  have hB2 : Below w.heap.size w W2 := by rw [hW2]; exact below_alloc2 w _ _
  have h2 : MapP plV rsV W2 g ps := h.move (hB2.block g hlt)
  have hl := lookupP_run keyT128 Try.underlying125 Try.zeroValue132 h2 ⟨kc, kw⟩
  have hl' : Sem.run Try.prog (lookup 125 (.map (some g)) (.agg #[.int .i64 kc, .bool kw]) true) W2 = .ok (.tuple #[((findP ps ⟨kc, kw⟩).map rsV).getD (.agg #[.int .i64 0, .int .i64 0, .string ⟨#[]⟩]), .bool (findP ps ⟨kc, kw⟩).isSome]) W2 := hl
  rw [hW2] at hl'
  have upd : ∀ W3, Below w.heap.size w W3 → ∃ o, Sem.run Try.prog (mapUpdate 125 (.map (some g)) (.agg #[.int .i64 kc, .bool kw]) (.agg #[.int .i64 v1, .int .i64 v2, .string ⟨v3.toArray⟩])) W3 = .ok () { W3 with heap := W3.heap.setIfInBounds g o } ∧ MapP plV rsV { W3 with heap := W3.heap.setIfInBounds g o } g (putP ps ⟨kc, kw⟩ ⟨v1, v2, v3⟩) ∧ Only (· = g) w { W3 with heap := W3.heap.setIfInBounds g o } := fun W3 hB => by
    obtain ⟨o, h1, h3⟩ := updateP_run keyT128 Try.underlying125 (h.move (hB.block g hlt)) (⟨kc, kw⟩ : Pl) (⟨v1, v2, v3⟩ : Res)
    exact ⟨o, h1, h3, (Only.of_below hB).trans (Only.put (S := (· = g)) W3 rfl o)⟩
  show Calls Try.prog 82 #[.map (some g), .agg #[.int .i64 kc, .bool kw], .agg #[.int .i64 v1, .int .i64 v2, .string ⟨v3.toArray⟩], .func (.func 75) #[] #[]] w _
  cases hf : findP ps ⟨kc, kw⟩ with
  | none =>
    rw [hf] at hl'
    simp only [Option.map_none, Option.getD_none, Option.isSome_none] at hl'
    obtain ⟨o, hup, hM, hO⟩ := upd (((w.alloc (.cells #[.int .i64 kc, .bool kw] 128)).alloc (.cells #[.int .i64 v1, .int .i64 v2, .string ⟨v3.toArray⟩] 132)).alloc (.cells #[.int .i64 0, .int .i64 0, .string ⟨#[]⟩] 132)) (below_alloc3 w _ _ _)
    have HP := Aside0.mk (show keepL ps ⟨kc, kw⟩ ⟨v1, v2, v3⟩ = putP ps ⟨kc, kw⟩ ⟨v1, v2, v3⟩ by unfold keepL; rw [hf])
    have HM := Aside0.mk hM
    have HO := Aside0.mk hO
    clear hf h2 hB2 hl hne h hW2 upd hM hO
    go_enter Try.func82, Try.ntmps82
    go_wp2_with fail
    go_end0
    exact ⟨rfl, by rw [HP.out]; exact HM.out, HO.out⟩
  | some old =>
    obtain ⟨o1, o2, o3⟩ := old
    rw [hf] at hl'
    simp only [Option.map_some, Option.getD_some, Option.isSome_some] at hl'
    have hl2 : Sem.run Try.prog (lookup 125 (.map (some g)) (.agg #[.int .i64 kc, .bool kw]) true) ((w.alloc (.cells #[.int .i64 kc, .bool kw] 128)).alloc (.cells #[.int .i64 v1, .int .i64 v2, .string ⟨v3.toArray⟩] 132)) = .ok (.tuple #[.agg #[.int .i64 o1, .int .i64 o2, .string ⟨o3.toArray⟩], .bool true]) ((w.alloc (.cells #[.int .i64 kc, .bool kw] 128)).alloc (.cells #[.int .i64 v1, .int .i64 v2, .string ⟨v3.toArray⟩] 132)) := hl'
    clear hl'
    have HU := Aside0.mk upd
    have HH := Aside0.mk h
    cases hlt2 : lessR ⟨v1, v2, v3⟩ ⟨o1, o2, o3⟩ with
    | true =>
      have HP := Aside0.mk (show keepL ps ⟨kc, kw⟩ ⟨v1, v2, v3⟩ = putP ps ⟨kc, kw⟩ ⟨v1, v2, v3⟩ by unfold keepL; rw [hf]; simp only; rw [if_pos hlt2])
      have HLT := Aside0.mk hlt2
      clear hf h2 hB2 hl hne h hW2 upd hlt2
      go_enter Try.func82, Try.ntmps82
      go_wp2_with fail
      refine (less_calls ⟨v1, v2, v3⟩ ⟨o1, o2, o3⟩ _).mono ?_
      rintro e w3 ⟨rfl, hb⟩
      have hb2 : Below w.heap.size w w3 := below_then (below_alloc3 w _ _ _) (below_alloc3 w _ _ _).size hb
      obtain ⟨o, hup, hM, hO⟩ := HU.out w3 hb2
      have HM := Aside0.mk hM
      have HO := Aside0.mk hO
      have n0 : w3.heap[w.heap.size]? = some (.cells #[.int .i64 kc, .bool kw] 128) := (hb.block w.heap.size (by rw [alloc_sz, alloc_sz, alloc_sz]; omega)).trans (show (((w.alloc (.cells #[.int .i64 kc, .bool kw] 128)).alloc (.cells #[.int .i64 v1, .int .i64 v2, .string ⟨v3.toArray⟩] 132)).alloc (.cells #[.int .i64 o1, .int .i64 o2, .string ⟨o3.toArray⟩] 132)).heap[w.heap.size]? = some (.cells #[.int .i64 kc, .bool kw] 128) from alloc_at0 w _ _ _)
      have n1 : w3.heap[w.heap.size + 1]? = some (.cells #[.int .i64 v1, .int .i64 v2, .string ⟨v3.toArray⟩] 132) := (hb.block (w.heap.size + 1) (by rw [alloc_sz, alloc_sz, alloc_sz]; omega)).trans (alloc_at1 w _ _ _)
      have c00 : w3.cell? ⟨w.heap.size, 0, none⟩ = some (.int .i64 kc) := (blk_cell n0 0).trans rfl
      have c01 : w3.cell? ⟨w.heap.size, 1, none⟩ = some (.bool kw) := (blk_cell n0 1).trans rfl
      have c10 : w3.cell? ⟨w.heap.size + 1, 0, none⟩ = some (.int .i64 v1) := (blk_cell n1 0).trans rfl
      have c11 : w3.cell? ⟨w.heap.size + 1, 1, none⟩ = some (.int .i64 v2) := (blk_cell n1 1).trans rfl
      have c12 : w3.cell? ⟨w.heap.size + 1, 2, none⟩ = some (.string ⟨v3.toArray⟩) := (blk_cell n1 2).trans rfl
      rw [HLT.out]
      clear hb hb2 hM hO n0 n1
      go_wp2_with fail
      go_end0
      exact ⟨rfl, by rw [HP.out]; exact HM.out, HO.out⟩
    | false =>
      have HP := Aside0.mk (show keepL ps ⟨kc, kw⟩ ⟨v1, v2, v3⟩ = ps by unfold keepL; rw [hf]; simp only; rw [if_neg (by rw [hlt2]; decide)])
      have HLT := Aside0.mk hlt2
      clear hf h2 hB2 hl hne h hW2 upd hlt2
      go_enter Try.func82, Try.ntmps82
      go_wp2_with fail
      refine (less_calls ⟨v1, v2, v3⟩ ⟨o1, o2, o3⟩ _).mono ?_
      rintro e w3 ⟨rfl, hb⟩
      have HB := Aside0.mk (show Below w.heap.size w w3 from below_then (below_alloc3 w _ _ _) (below_alloc3 w _ _ _).size hb)
      rw [HLT.out]
      clear hb
      go_wp2_with fail
      go_end0
      exact ⟨rfl, by rw [HP.out]; exact HH.out.move (HB.out.block g hlt), Only.of_below HB.out⟩
theorem alloc2_at0 (w : World) (a b : Obj) : ((w.alloc a).alloc b).heap[w.heap.size]? = some a := by
  have h := heap_alloc_new w a
  exact ((below_alloc (Below.refl (w.alloc a).heap.size (w.alloc a)) b).block w.heap.size (by rw [alloc_sz]; omega)).trans h
set_option maxHeartbeats 1000000 in
set_option maxRecDepth 100000 in
theorem keep74_calls (g : Nat) (ps : List (Bool × Res)) (k : Bool) (v : Res) (w : World) (h : MapP Value.bool rsV w g ps) :
    Calls Try.prog 74 #[.map (some g), .bool k, rsV v, fn75] w (KeepPost g Value.bool (keepL ps k v) w) := by
  obtain ⟨v1, v2, v3⟩ := v
  have hlt := h.lt
  have hB1 : Below w.heap.size w (w.alloc (.cells #[.int .i64 v1, .int .i64 v2, .string ⟨v3.toArray⟩] 132)) := below_alloc (Below.refl _ _) _
  have h2 := h.move (hB1.block g hlt)
  have hl := lookupP_run keyT4 Try.underlying124 Try.zeroValue132 h2 k
  have upd : ∀ W3, Below w.heap.size w W3 → ∃ o, Sem.run Try.prog (mapUpdate 124 (.map (some g)) (.bool k) (.agg #[.int .i64 v1, .int .i64 v2, .string ⟨v3.toArray⟩])) W3 = .ok () { W3 with heap := W3.heap.setIfInBounds g o } ∧ MapP Value.bool rsV { W3 with heap := W3.heap.setIfInBounds g o } g (putP ps k ⟨v1, v2, v3⟩) ∧ Only (· = g) w { W3 with heap := W3.heap.setIfInBounds g o } := fun W3 hB => by
    obtain ⟨o, h1, h3⟩ := updateP_run keyT4 Try.underlying124 (h.move (hB.block g hlt)) k (⟨v1, v2, v3⟩ : Res)
    exact ⟨o, h1, h3, (Only.of_below hB).trans (Only.put (S := (· = g)) W3 rfl o)⟩
  show Calls Try.prog 74 #[.map (some g), .bool k, .agg #[.int .i64 v1, .int .i64 v2, .string ⟨v3.toArray⟩], .func (.func 75) #[] #[]] w _
  cases hf : findP ps k with
  | none =>
    rw [hf] at hl
    simp only [Option.map_none, Option.getD_none, Option.isSome_none] at hl
    obtain ⟨o, hup, hM, hO⟩ := upd ((w.alloc (.cells #[.int .i64 v1, .int .i64 v2, .string ⟨v3.toArray⟩] 132)).alloc (.cells #[.int .i64 0, .int .i64 0, .string ⟨#[]⟩] 132)) (below_alloc2 w _ _)
    have HP := Aside0.mk (show keepL ps k ⟨v1, v2, v3⟩ = putP ps k ⟨v1, v2, v3⟩ by unfold keepL; rw [hf])
    have HM := Aside0.mk hM
    have HO := Aside0.mk hO
    clear hf h2 hB1 h upd hM hO
    go_enter Try.func74, Try.ntmps74
    go_wp2_with fail
    go_end0
    exact ⟨rfl, by rw [HP.out]; exact HM.out, HO.out⟩
  | some old =>
    obtain ⟨o1, o2, o3⟩ := old
    rw [hf] at hl
    simp only [Option.map_some, Option.getD_some, Option.isSome_some] at hl
    have hl2 : Sem.run Try.prog (lookup 124 (.map (some g)) (.bool k) true) (w.alloc (.cells #[.int .i64 v1, .int .i64 v2, .string ⟨v3.toArray⟩] 132)) = .ok (.tuple #[.agg #[.int .i64 o1, .int .i64 o2, .string ⟨o3.toArray⟩], .bool true]) (w.alloc (.cells #[.int .i64 v1, .int .i64 v2, .string ⟨v3.toArray⟩] 132)) := hl
    clear hl
    have HU := Aside0.mk upd
    have HH := Aside0.mk h
    cases hlt2 : lessR ⟨v1, v2, v3⟩ ⟨o1, o2, o3⟩ with
    | true =>
      have HP := Aside0.mk (show keepL ps k ⟨v1, v2, v3⟩ = putP ps k ⟨v1, v2, v3⟩ by unfold keepL; rw [hf]; simp only; rw [if_pos hlt2])
      have HLT := Aside0.mk hlt2
      clear hf h2 hB1 h upd hlt2
      go_enter Try.func74, Try.ntmps74
      go_wp2_with fail
      refine (less_calls ⟨v1, v2, v3⟩ ⟨o1, o2, o3⟩ _).mono ?_
      rintro e w3 ⟨rfl, hb⟩
      have hb2 : Below w.heap.size w w3 := below_then (below_alloc2 w _ _) (below_alloc2 w _ _).size hb
      obtain ⟨o, hup, hM, hO⟩ := HU.out w3 hb2
      have HM := Aside0.mk hM
      have HO := Aside0.mk hO
      have n1 : w3.heap[w.heap.size]? = some (.cells #[.int .i64 v1, .int .i64 v2, .string ⟨v3.toArray⟩] 132) := (hb.block w.heap.size (by rw [alloc_sz, alloc_sz]; omega)).trans (alloc2_at0 w _ _)
      have c10 : w3.cell? ⟨w.heap.size, 0, none⟩ = some (.int .i64 v1) := (blk_cell n1 0).trans rfl
      have c11 : w3.cell? ⟨w.heap.size, 1, none⟩ = some (.int .i64 v2) := (blk_cell n1 1).trans rfl
      have c12 : w3.cell? ⟨w.heap.size, 2, none⟩ = some (.string ⟨v3.toArray⟩) := (blk_cell n1 2).trans rfl
      rw [HLT.out]
      clear hb hb2 hM hO n1
      go_wp2_with fail
      go_end0
      exact ⟨rfl, by rw [HP.out]; exact HM.out, HO.out⟩
    | false =>
      have HP := Aside0.mk (show keepL ps k ⟨v1, v2, v3⟩ = ps by unfold keepL; rw [hf]; simp only; rw [if_neg (by rw [hlt2]; decide)])
      have HLT := Aside0.mk hlt2
      clear hf h2 hB1 h upd hlt2
      go_enter Try.func74, Try.ntmps74
      go_wp2_with fail
      refine (less_calls ⟨v1, v2, v3⟩ ⟨o1, o2, o3⟩ _).mono ?_
      rintro e w3 ⟨rfl, hb⟩
      have HB := Aside0.mk (show Below w.heap.size w w3 from below_then (below_alloc2 w _ _) (below_alloc2 w _ _).size hb)
      rw [HLT.out]
      clear hb
      go_wp2_with fail
      go_end0
      exact ⟨rfl, by rw [HP.out]; exact HH.out.move (HB.out.block g hlt), Only.of_below HB.out⟩
end Go.Proofs.Ythmmdmnbcecooaa.A
end

section
namespace Go.Proofs.Ythmmdmnbcecooaa.A
open Go.RowKit Go.Proofs.YthmmdmnbcecooaaW.PrintWords Go.Proofs.YthmmdmnbcecooaaW.PrintLast Go.Proofs.YthmmdmnbcecooaaW.PrintMore
set_option linter.unusedVariables false
set_option linter.unusedSimpArgs false
def refs (l : List S42) : List Nat := l.flatMap opsAt
def nodesOk (l : List S42) : Prop := ∀ i, i < l.length → NodeOk i (l.getD i z42)
theorem fieldsB_of {x : S42} {i : Nat} (h : NodeOk i x) : fieldsB x = true := by
  unfold fieldsB
  simp only [Bool.not_eq_true', Bool.or_eq_false_iff, Bool.and_eq_false_iff, Bool.not_eq_false', decide_eq_false_iff_not, bne_eq_false_iff_eq]
  refine ⟨⟨⟨⟨?_, by have := h.nl; omega⟩, ?_⟩, by have := h.n; omega⟩, by have := h.n; omega⟩
  · by_cases ht : x.f0 = 0 ∨ x.f0 = 1
    · right; rcases ht with ht | ht <;> simp [ht]
    · left; exact h.t0 ht
  · by_cases h4 : x.f0 = 4
    · right; exact h4
    · left; exact h.n0 h4
/-- One node that is in order. -/
theorem nodeStep_use {x : S42} {i : Nat} {us : List Bool} (h : NodeOk i x) (hl : i ≤ us.length) :
    ((∀ j ∈ opsAt x, us.getD j false = false) ∧ (opsAt x).Nodup → nodeStep x i us = some ((opsAt x).foldl (fun u j => u.set j true) us)) ∧
    (¬ ((∀ j ∈ opsAt x, us.getD j false = false) ∧ (opsAt x).Nodup) → nodeStep x i us = none) := by
  have hf := fieldsB_of h
  have hk := h.kind
  have hge : ¬ arityI x.f0 < 0 := by
    by_cases c1 : x.f0 < 3
    · rw [arityI_small c1 hk.1]; omega
    · by_cases c2 : 3 < x.f0
      · rw [arityI_big c2 hk.2]; omega
      · have : arityI x.f0 = 2 := by unfold arityI; rw [if_neg (by omega), if_neg (by omega), if_pos (by omega)]
        omega
  unfold nodeStep
  rw [if_neg hge, if_neg (by rw [hf]; decide)]
  clear hge
  unfold opsAt
  by_cases h3 : x.f0 = 3
  · have ha := h.a (by omega)
    have hb := h.b h3
    obtain ⟨a, ha'⟩ := Int.eq_ofNat_of_zero_le ha.1
    obtain ⟨b, hb'⟩ := Int.eq_ofNat_of_zero_le hb.1
    have e2 : arityI x.f0 = 2 := by unfold arityI; rw [if_neg (by omega), if_neg (by omega), if_pos h3]
    rw [if_pos h3, e2, ha', hb', show decide ((0 : Int) < 2) = true from rfl, show decide ((1 : Int) < 2) = true from rfl]
    have ua : useF us true (a : Int) i = !(us.getD a false) := by unfold useF; simp; omega
    cases hga : us.getD a false with
    | true =>
      rw [ua, hga]
      exact ⟨fun hh => by have := hh.1 a (by simp); rw [hga] at this; exact Bool.noConfusion this, fun _ => by simp⟩
    | false =>
      have la : useL us true (a : Int) i = us.set a true := by unfold useL; rw [ua, hga]; simp
      have hset : (us.set a true).getD b false = (if a = b ∧ b < us.length then true else us.getD b false) := getD_set_true us a b
      have ub : useF (us.set a true) true (b : Int) i = !((us.set a true).getD b false) := by unfold useF; simp; omega
      have lb : (us.set a true).getD b false = false → useL (us.set a true) true (b : Int) i = (us.set a true).set b true := fun hh => by unfold useL; rw [ub, hh]; simp
      rw [ua, hga, la, ub]
      by_cases hab : a = b
      · subst hab
        have hset2 : (us.set a true).getD a false = true := by rw [getD_set_true, if_pos ⟨rfl, by omega⟩]
        rw [hset2]
        exact ⟨fun hh => by have := hh.2; simp at this, fun _ => by simp⟩
      · have hset' : (us.set a true).getD b false = us.getD b false := by rw [hset, if_neg (fun e => hab e.1)]
        cases hgb : us.getD b false with
        | true =>
          rw [hset', hgb]
          exact ⟨fun hh => by have := hh.1 b (by simp); rw [hgb] at this; exact Bool.noConfusion this, fun _ => by simp⟩
        | false =>
          rw [hset', hgb, lb (by rw [hset', hgb])]
          refine ⟨fun _ => by simp, fun hh => (hh ⟨?_, ?_⟩).elim⟩
          · intro j hj; simp at hj; rcases hj with rfl | rfl <;> assumption
          · simp [hab]
  · rw [if_neg h3]
    by_cases hg : 3 < x.f0
    · have ha := h.a (by omega)
      have hb := h.b0 h3
      obtain ⟨a, ha'⟩ := Int.eq_ofNat_of_zero_le ha.1
      rw [if_pos hg, arityI_big hg hk.2, ha', hb, show decide ((0 : Int) < 1) = true from rfl, show decide ((1 : Int) < 1) = false from rfl]
      have ua : useF us true (a : Int) i = !(us.getD a false) := by unfold useF; simp; omega
      cases hga : us.getD a false with
      | true =>
        rw [ua, hga]
        exact ⟨fun hh => by have := hh.1 a (by simp); rw [hga] at this; exact Bool.noConfusion this, fun _ => by simp⟩
      | false =>
        have la : useL us true (a : Int) i = us.set a true := by unfold useL; rw [ua, hga]; simp
        rw [ua, hga, la]
        refine ⟨fun _ => by simp [useF, useL], fun hh => (hh ⟨?_, ?_⟩).elim⟩
        · intro j hj; simp at hj; subst hj; exact hga
        · simp
    · have ha := h.a0 (by omega)
      have hb := h.b0 h3
      rw [if_neg hg, arityI_small (by omega) hk.1, ha, hb]
      exact ⟨fun _ => by simp [useF, useL], fun hh => (hh ⟨by simp, by simp⟩).elim⟩
def flagsR (n : Nat) (L : List Nat) : List Bool := (List.range n).map (fun j => decide (j ∈ L))
theorem flagsR_length (n : Nat) (L : List Nat) : (flagsR n L).length = n := by simp [flagsR]
theorem flagsR_set (n : Nat) (L : List Nat) (j : Nat) : (flagsR n L).set j true = flagsR n (L ++ [j]) := by
  apply List.ext_getElem
  · simp [flagsR]
  · intro i h1 h2
    simp only [flagsR, List.getElem_set, List.getElem_map, List.getElem_range]
    by_cases h : j = i
    · subst h; simp
    · rw [if_neg h]; congr 1; apply propext; simp; intro e; exact absurd e.symm h
theorem flagsR_sets (n : Nat) : ∀ (K L : List Nat), K.foldl (fun u j => u.set j true) (flagsR n L) = flagsR n (L ++ K)
  | [], L => by simp
  | j :: K, L => by rw [List.foldl_cons, flagsR_set, flagsR_sets n K]; simp
theorem flagsR_get (n : Nat) (L : List Nat) (j : Nat) (h : j < n) : (flagsR n L).getD j false = decide (j ∈ L) := by
  simp [flagsR, List.getD, h]
theorem flagsR_nil (n : Nat) : List.replicate n false = flagsR n [] := by
  apply List.ext_getElem <;> simp [flagsR]
theorem ops_bound {i j : Nat} {x : S42} (h : NodeOk i x) (hj : j ∈ opsAt x) : j < i := by
  unfold opsAt at hj
  split at hj
  · rename_i h3
    have ha := h.a (by omega)
    have hb := h.b h3
    simp at hj; omega
  split at hj
  · rename_i h3
    have ha := h.a (by omega)
    simp at hj; omega
  · cases hj
theorem refs_take {l : List S42} {i : Nat} (h : i < l.length) : refs (l.take (i + 1)) = refs (l.take i) ++ opsAt (l.getD i z42) := by
  unfold refs
  rw [List.take_succ_eq_append_getElem h, List.flatMap_append]
  simp [List.getD, h]
theorem refs_prefix (l : List S42) (i : Nat) : refs l = refs (l.take i) ++ refs (l.drop i) := by
  unfold refs
  rw [← List.flatMap_append, List.take_append_drop]
open Classical in
theorem scan_spec (l : List S42) : ∀ (d i : Nat), i + d = l.length → (refs (l.take i)).Nodup → scanFrom l d i (flagsR l.length (refs (l.take i))) =
    if (∀ j, i ≤ j → j < l.length → NodeOk j (l.getD j z42)) ∧ (refs l).Nodup then some (flagsR l.length (refs l)) else none
  | 0, i, hi, hn => by
    rw [show l.take i = l from List.take_of_length_le (by omega)] at hn ⊢
    rw [scanFrom, if_pos ⟨fun j h1 h2 => by omega, hn⟩]
  | d + 1, i, hi, hn => by
    rw [scanFrom]
    by_cases hok : NodeOk i (l.getD i z42)
    · have hu := nodeStep_use (us := flagsR l.length (refs (l.take i))) hok (by rw [flagsR_length]; omega)
      have hiff : ((∀ j ∈ opsAt (l.getD i z42), (flagsR l.length (refs (l.take i))).getD j false = false) ∧ (opsAt (l.getD i z42)).Nodup) ↔ (refs (l.take (i + 1))).Nodup := by
        rw [refs_take (by omega), List.nodup_append]
        constructor
        · rintro ⟨h1, h2⟩
          refine ⟨hn, h2, fun a ha b hb e => ?_⟩
          subst e
          have h3 := h1 a hb
          rw [flagsR_get _ _ _ (by have := ops_bound hok hb; omega)] at h3
          simp at h3
          exact h3 ha
        · rintro ⟨_, h2, h3⟩
          refine ⟨fun j hj => ?_, h2⟩
          rw [flagsR_get _ _ _ (by have := ops_bound hok hj; omega)]
          simp
          exact fun hm => h3 j hm j hj rfl
      by_cases hnd : (refs (l.take (i + 1))).Nodup
      · rw [hu.1 (hiff.2 hnd), Option.bind_some, flagsR_sets, ← refs_take (by omega), scan_spec l d (i + 1) (by omega) hnd]
        congr 1
        apply propext
        constructor
        · rintro ⟨h1, h2⟩
          refine ⟨fun j a b => ?_, h2⟩
          by_cases e : j = i
          · subst e; exact hok
          · exact h1 j (by omega) b
        · rintro ⟨h1, h2⟩
          exact ⟨fun j a b => h1 j (by omega) b, h2⟩
      · rw [hu.2 (fun h => hnd (hiff.1 h)), Option.bind_none, if_neg]
        rintro ⟨_, h2⟩
        rw [refs_prefix l (i + 1), List.nodup_append] at h2
        exact hnd h2.1
    · have : nodeStep (l.getD i z42) i (flagsR l.length (refs (l.take i))) = none := by
        cases hs : nodeStep (l.getD i z42) i (flagsR l.length (refs (l.take i))) with
        | none => rfl
        | some us => exact absurd (nodeStep_ok hs) hok
      rw [this, Option.bind_none, if_neg]
      rintro ⟨h1, _⟩
      exact hok (h1 i (Nat.le_refl _) (by omega))
/-- A document in order. -/
structure Good (l : List S42) : Prop where
  pos : 0 < l.length
  le : l.length ≤ 65536
  ok : nodesOk l
  once : ∀ i, i < l.length - 1 → (refs l).count i = 1
theorem refs_lt {l : List S42} (h : nodesOk l) {j : Nat} (hj : j ∈ refs l) : j < l.length - 1 := by
  unfold refs at hj
  obtain ⟨x, hx, hjx⟩ := List.mem_flatMap.1 hj
  obtain ⟨i, hi, rfl⟩ := List.mem_iff_getElem.1 hx
  have := h i hi
  rw [show l.getD i z42 = l[i] from by simp [List.getD, hi]] at this
  have := ops_bound this hjx
  omega
theorem check_cases (l : List S42) (h : l.length ≤ 65536) : (Good l ∧ checkI l = 0) ∨ (¬ Good l ∧ checkI l = 250) := by
  have hs := scan_spec l l.length 0 (by omega) (by simp [refs])
  rw [show refs (l.take 0) = [] from by simp [refs], ← flagsR_nil] at hs
  by_cases hc : (∀ j, 0 ≤ j → j < l.length → NodeOk j (l.getD j z42)) ∧ (refs l).Nodup
  · rw [if_pos hc] at hs
    have hok : nodesOk l := fun i hi => hc.1 i (by omega) hi
    have hall : ((flagsR l.length (refs l)).take (l.length - 1)).all id = true ↔ ∀ i, i < l.length - 1 → i ∈ refs l := by
      rw [List.all_eq_true]
      constructor
      · intro ha i hi
        have := ha (decide (i ∈ refs l)) (List.mem_iff_getElem.2 ⟨i, by simp [flagsR]; omega, by simp [flagsR]⟩)
        simpa using this
      · intro ha x hx
        obtain ⟨i, hi, rfl⟩ := List.mem_iff_getElem.1 hx
        simp [flagsR] at hi
        simp only [List.getElem_take, flagsR, List.getElem_map, List.getElem_range, id]
        exact decide_eq_true (ha i (by omega))
    by_cases hp : 0 < l.length
    · cases hu : ((flagsR l.length (refs l)).take (l.length - 1)).all id with
      | true =>
        refine .inl ⟨⟨hp, h, hok, fun i hi => ?_⟩, check_good h hp hs hu⟩
        have h1 := List.nodup_iff_count.1 hc.2 i
        have h2 := List.count_pos_iff.2 (hall.1 hu i hi)
        omega
      | false =>
        refine .inr ⟨fun hg => ?_, check_unused h hs hu⟩
        have := hall.2 (fun i hi => List.count_pos_iff.1 (by rw [hg.once i hi]; omega))
        rw [hu] at this; cases this
    · refine .inr ⟨fun hg => hp hg.pos, ?_⟩
      obtain rfl : l = [] := List.eq_nil_of_length_eq_zero (by omega)
      rfl
  · rw [if_neg hc] at hs
    refine .inr ⟨fun hg => hc ⟨fun j _ hj => hg.ok j hj, ?_⟩, check_bad h hs⟩
    rw [List.nodup_iff_count]
    intro a
    by_cases ha : a ∈ refs l
    · rw [hg.once a (refs_lt hg.ok ha)]; omega
    · rw [List.count_eq_zero_of_not_mem ha]; omega
theorem check_zero_iff (l : List S42) : checkI l = 0 ↔ Good l := by
  by_cases h : l.length ≤ 65536
  · rcases check_cases l h with ⟨h1, h2⟩ | ⟨h1, h2⟩
    · exact ⟨fun _ => h1, fun _ => h2⟩
    · exact ⟨fun e => (by rw [h2] at e; cases e), fun e => absurd e h1⟩
  · rw [checkI_big (by omega)]
    exact ⟨fun e => (by cases e), fun e => absurd e.le h⟩
end Go.Proofs.Ythmmdmnbcecooaa.A
end

section
namespace Go.Proofs.Ythmmdmnbcecooaa.A
open Go.RowKit Go.Proofs.YthmmdmnbcecooaaW.PrintWords Go.Proofs.YthmmdmnbcecooaaW.PrintLast Go.Proofs.YthmmdmnbcecooaaW.PrintMore
set_option linter.unusedVariables false
set_option linter.unusedSimpArgs false
theorem operands_calls (k : Int) (w : World) :
    Calls Try.prog 60 #[.int .i64 k] w fun e w' => e = .returned (.int .i64 (arityI k)) ∧ w = w' := by
  by_cases hk : k = 0 ∨ k = 1 ∨ k = 2 ∨ k = 3 ∨ k = 4 ∨ k = 5 ∨ k = 6
  · rcases hk with rfl | rfl | rfl | rfl | rfl | rfl | rfl
    all_goals
      go_enter Try.func60, Try.ntmps60
      go_wp2
      go_ret
      exact ⟨rfl, rfl⟩
  have b0 : (k == 0) = false := beq_eq_false_iff_ne.2 (by omega)
  have b1 : (k == 1) = false := beq_eq_false_iff_ne.2 (by omega)
  have b2 : (k == 2) = false := beq_eq_false_iff_ne.2 (by omega)
  have b3 : (k == 3) = false := beq_eq_false_iff_ne.2 (by omega)
  have b4 : (k == 4) = false := beq_eq_false_iff_ne.2 (by omega)
  have b5 : (k == 5) = false := beq_eq_false_iff_ne.2 (by omega)
  have b6 : (k == 6) = false := beq_eq_false_iff_ne.2 (by omega)
  have HV := Aside0.mk (show arityI k = -1 by unfold arityI; rw [if_neg (by omega), if_neg (by omega), if_neg (by omega)])
  clear hk
  go_enter Try.func60, Try.ntmps60
  go_wp2
  go_ret
  exact ⟨by rw [HV.out]; rfl, rfl⟩
def koineref25_operands.f (a0 : Int) : Option (Int) := some (arityI a0)
theorem koineref25_operands.calls (a0 : Int) (r : Int) (w : World) (h : koineref25_operands.f a0 = some r) :
    Calls Try.prog 60 #[.int .i64 a0] w fun e w' => e = .returned (.int .i64 r) ∧ Drawn0 w w' := by
  obtain rfl := Option.some.inj h
  refine (operands_calls a0 w).mono ?_
  rintro e w' ⟨rfl, rfl⟩
  exact ⟨rfl, Drawn0.refl _⟩
end Go.Proofs.Ythmmdmnbcecooaa.A
end

section
namespace Go.Proofs.Ythmmdmnbcecooaa.A
open Go.RowKit Go.Proofs.YthmmdmnbcecooaaW.PrintWords Go.Proofs.YthmmdmnbcecooaaW.PrintLast Go.Proofs.YthmmdmnbcecooaaW.PrintMore
attribute [local go_sem] max2_int max_two
set_option linter.unusedVariables false
set_option linter.unusedSimpArgs false
mutual
def koineref25_walk.j0 : Nat → List (S42) → Int → List Int → Option (List Int)
  | 0, _, _, _ => none
  | k + 1, x0, x1, x5 => if 0 ≤ x1 then (if x1 < (x0.length : Int) then ((koineref25_operands.f ((rd_T42 x0 x1).f0)).bind fun t177 => (if t177 ≥ 1 then ((koineref25_walk.f k x0 ((rd_T42 x0 x1).f3)).bind fun t179 => (if x5.length + t179.length < 17592186044416 then (koineref25_walk.j1 k x0 x1 (x5 ++ t179)) else (none))) else (koineref25_walk.j1 k x0 x1 x5))) else (none)) else (none)
def koineref25_walk.j1 : Nat → List (S42) → Int → List Int → Option (List Int)
  | 0, _, _, _ => none
  | k + 1, x0, x1, x5 => if 0 ≤ x1 then (if x1 < (x0.length : Int) then ((koineref25_operands.f ((rd_T42 x0 x1).f0)).bind fun t186 => (if t186 ≥ 2 then ((koineref25_walk.f k x0 ((rd_T42 x0 x1).f4)).bind fun t188 => (if x5.length + t188.length < 17592186044416 then (some (x5 ++ t188)) else (none))) else (some x5))) else (none)) else (none)
def koineref25_walk.f : Nat → List (S42) → Int → Option (List Int)
  | 0, _, _ => none
  | k + 1, l0, a1 => (some (([] : List Int) : List Int)).bind fun y169 => (if 0 ≤ a1 then (if a1 < (l0.length : Int) then (if ((rd_T42 l0 a1).f0) = 6 then (if y169.length < 17592186044416 then (koineref25_walk.j0 k l0 a1 (y169 ++ [a1])) else (none)) else (koineref25_walk.j0 k l0 a1 y169)) else (none)) else (none))
end
set_option maxHeartbeats 8000000 in
set_option maxRecDepth 100000 in
theorem koineref25_walk.calls (k : Nat) : ∀ (A0 : Option Addr) (c0 : Nat) (l0 : List (S42)) (a1 : Int) (r : List Int) (w : World) (hr0 : Kd.C k42 w A0 l0.length l0) (hc0 : l0.length ≤ c0) (h : koineref25_walk.f k l0 a1 = some r),
    Calls Try.prog 51 #[.slice A0 l0.length c0, .int .i64 a1] w fun e w' => ∃ v0_ : Value, e = .returned (v0_) ∧ Kd.R (Kd.int .i64) 3 w' w.heap.size (fun _ => True) v0_ r ∧ Below w.heap.size w w' := by
  induction k using Nat.strongRecOn with
  | _ k ih =>
  intro A0 c0 l0 a1 r w hr0 hc0 h
  cases k with
  | zero => exact absurd h (by simp [koineref25_walk.f])
  | succ k =>
  simp only [koineref25_walk.f] at h
  have HR0 := Aside0.mk hr0
  have HC0 := Aside0.mk hc0
  clear hr0 hc0
  have HB := Aside0.mk (Below.refl w.heap.size w)
  have H : ((some (([] : List Int) : List Int)).bind fun y169 => (if 0 ≤ a1 then (if a1 < (l0.length : Int) then (if ((rd_T42 l0 a1).f0) = 6 then (if y169.length < 17592186044416 then (koineref25_walk.j0 k l0 a1 (y169 ++ [a1])) else (none)) else (koineref25_walk.j0 k l0 a1 y169)) else (none)) else (none))) = some r := h
  clear h
  obtain ⟨y169, hy169⟩ : ∃ y_ : List Int, y_ = (([] : List Int)) := ⟨_, rfl⟩
  replace H : (if 0 ≤ a1 then (if a1 < (l0.length : Int) then (if ((rd_T42 l0 a1).f0) = 6 then (if y169.length < 17592186044416 then (koineref25_walk.j0 k l0 a1 (y169 ++ [a1])) else (none)) else (koineref25_walk.j0 k l0 a1 y169)) else (none)) else (none)) = some r := by first | (rw [hy169]; with_reducible exact H) | (have H2_ := (Option.bind_some _ _).symm.trans H; rw [hy169]; with_reducible exact H2_) | (have H2_ := (Option.bind_some _ _).symm.trans H; with_reducible exact H2_) | with_reducible exact H | (rw [hy169]; exact H) | exact H
  have Ny169 := Aside0.mk hy169
  clear hy169
  by_cases c3 : 0 ≤ a1
  · rw [if_pos c3] at H
    have c3b0 : decide (0 ≤ a1) = true := decide_eq_true c3
    clear c3
    by_cases c4 : a1 < (l0.length : Int)
    · rw [if_pos c4] at H
      have c4b0 : decide (a1 < (l0.length : Int)) = true := decide_eq_true c4
      clear c4
      have HC5 := Aside0.mk H
      clear H
      go_enter Try.func51, Try.ntmps51
      go_upto_if 12 with (first | ((with_reducible refine gate_dst (N := 6) rfl ?_); refine Kd.R_lit (Kd.int .i64) _ 3 ?hg (N := 6) ?hd (xs := ([] : List Int)) (inner := []) (ok := fun _ => True) (okp := fun _ => True) ?hr ?hp (fun _ hk => hk) trivial (Below.refl _ _) (Nat.le_refl _) (by simp) ?_; (case hd => rfl); (case hg => rfl); (case hr => first | (go_simp; done) | (go_simp; rfl)); (case hp => exact (Reps.none _ _)); intro v170 w6 ho7 hb hg_ hnew_; clear hg_ hnew_; (first | rw [← Ny169.out] at ho7 | (simp only [Int.reduceToNat] at ho7; rw [← Ny169.out] at ho7)); have n0_ := Aside0.mk (Kd.R_lower ho7 (below_size (by repeat (first | (with_reducible first | exact HB.out | apply below_alloc | apply pw_below_drewN | apply below_drew1) | exact HB.out)))); have n1_ := Aside0.mk (below_step (by repeat (first | (with_reducible first | exact HB.out | apply below_alloc | apply pw_below_drewN | apply below_drew1) | exact HB.out)) hb); clear HB; have HO171 := n0_; have HB := n1_; clear n0_ n1_; clear hb ho7; have p172 : 0 ≤ (a1 : Int) := of_decide_eq_true (by first | (with_reducible assumption) | assumption); have q172 : a1 < (l0.length : Int) := of_decide_eq_true (by first | (with_reducible assumption) | assumption); obtain ⟨ad172, e172, hx172_0, hx172_1, hx172_2, hx172_3, hx172_4⟩ := at_T42 HR0.out a1 p172 q172; cases e172; replace hx172_0 := (HB.out.cell (World.block_lt_of_cell? w _ hx172_0)).trans hx172_0; replace hx172_1 := (HB.out.cell (World.block_lt_of_cell? w _ hx172_1)).trans hx172_1; replace hx172_2 := (HB.out.cell (World.block_lt_of_cell? w _ hx172_2)).trans hx172_2; replace hx172_3 := (HB.out.cell (World.block_lt_of_cell? w _ hx172_3)).trans hx172_3; replace hx172_4 := (HB.out.cell (World.block_lt_of_cell? w _ hx172_4)).trans hx172_4; replace p172 := eq_true p172; replace q172 := eq_true q172))
      (try simp only [Act.put, List.setIfInBounds_toArray, List.set_cons_zero, List.set_cons_succ])
      go_cut [5] (fun v5 wc => ∃ (kq : Nat) (x5_4 : List Int), Aside0 (koineref25_walk.j0 kq l0 a1 x5_4 = some r) ∧ Aside0 (kq ≤ k) ∧ Aside0 (Kd.R (Kd.int .i64) 3 wc w.heap.size (fun _ => True) v5 x5_4) ∧ Aside0 (Below w.heap.size w wc))
      case first =>
        have H := HC5.out
        clear HC5
        by_cases c8 : ((rd_T42 l0 a1).f0) = 6
        · rw [if_pos c8] at H
          have c8b0 : (((rd_T42 l0 a1).f0) == 6) = true := beq_iff_eq.mpr c8
          have c8b1 : (((rd_T42 l0 a1).f0) != 6) = false := bne_eq_false_iff_eq.mpr c8
          clear c8
          (first | rw [c8b0] | (simp only [i64_w, i32_w]; rw [c8b0]) | skip)
          by_cases c9 : y169.length < 17592186044416
          · rw [if_pos c9] at H
            have LMc9 := Aside0.mk c9
            clear c9
            obtain ⟨y173, hy173⟩ : ∃ y_ : List Int, y_ = (y169 ++ [a1]) := ⟨_, rfl⟩
            replace H : (koineref25_walk.j0 k l0 a1 y173) = some r := by first | (rw [hy173]; with_reducible exact H) | (have H2_ := (Option.bind_some _ _).symm.trans H; rw [hy173]; with_reducible exact H2_) | (have H2_ := (Option.bind_some _ _).symm.trans H; with_reducible exact H2_) | with_reducible exact H | (rw [hy173]; exact H) | exact H
            have Ny173 := Aside0.mk hy173
            clear hy173
            have H' := Aside0.mk H
            clear H
            go_wp2_with (first | ((with_reducible refine gate_builtin (b := .append) (xs := #[.tmp 13, .tmp 15]) rfl ?_); at_builtin; refine Kd.R_append (Kd.int .i64) (w0 := w) w.heap.size rfl (.tmp 13) (.tmp 15) 28 3 (.int .i64 0) 8 rfl Try.underlying28 info3 rfl (by decide) (by omega) v170 y169 a1 [.int .i64 a1] (fun _ => True) (fun _ => False) rfl rfl ?aP (fun _ hk => hk.elim) ?aF ?aO ?aB ?aS ?aL ?_; (case aP => exact rfl); (case aB => exact (by repeat (first | (with_reducible first | exact HB.out | apply below_alloc | apply pw_below_drewN | apply below_drew1) | exact HB.out))); (case aF => exact (fun _ _ => trivial)); (case aO => exact (by (with_reducible repeat (first | apply Kd.R_alloc | apply Kd.R_drewN | apply Kd.R_drew)); exact HO171.out)); (case aS => exact (below_size (by repeat (first | (with_reducible first | exact HB.out | apply below_alloc | apply pw_below_drewN | apply below_drew1) | exact HB.out)))); (case aL => have := LMc9.out; omega); intro v174 w10 ho hb hg hat; rw [← Ny173.out] at ho; have n0_ := Aside0.mk (hb); have n1_ := Aside0.mk (ho); clear HB; clear HO171; have HB := n0_; have HO175 := n1_; clear n0_ n1_; clear ho hb hg hat))
            go_meet
            case rel => exact ⟨_, (y173), H', ⟨by first | omega | exact Nat.le_refl _⟩, ⟨by (with_reducible repeat (first | apply Kd.R_alloc | apply Kd.R_drewN | apply Kd.R_drew)); exact HO175.out⟩, ⟨by repeat (first | (with_reducible first | exact HB.out | apply below_alloc | apply pw_below_drewN | apply below_drew1) | exact HB.out)⟩⟩
          · rw [if_neg c9] at H
            exact absurd H (by simp)
        · rw [if_neg c8] at H
          have c8b0 : (((rd_T42 l0 a1).f0) == 6) = false := beq_eq_false_iff_ne.mpr c8
          have c8b1 : (((rd_T42 l0 a1).f0) != 6) = true := bne_iff_ne.mpr c8
          (first | rw [c8b0] | (simp only [i64_w, i32_w]; rw [c8b0]) | skip)
          have H' := Aside0.mk H
          clear H
          go_wp2
          go_meet
          case rel => exact ⟨_, (y169), H', ⟨by first | omega | exact Nat.le_refl _⟩, ⟨by (with_reducible repeat (first | apply Kd.R_alloc | apply Kd.R_drewN | apply Kd.R_drew)); exact HO171.out⟩, ⟨by repeat (first | (with_reducible first | exact HB.out | apply below_alloc | apply pw_below_drewN | apply below_drew1) | exact HB.out)⟩⟩
      case rest =>
        clear HC5
        try clear p1
        try clear q1
        try clear hx1
        try clear p2
        try clear c3
        try clear c3b0
        try clear c4
        try clear c4b0
        try clear c5
        try clear c8
        try clear c8b0
        try clear c8b1
        try clear c9
        try clear hx172_0
        try clear hx172_1
        try clear hx172_2
        try clear hx172_3
        try clear hx172_4
        try clear p172
        try clear q172
        obtain ⟨kq, x5_4, HA, HJ4, HO_5, HB⟩ := hcut
        cases kq with
        | zero => exact absurd HA.out (by simp [koineref25_walk.j0])
        | succ kj4 =>
          have H := HA.out
          clear HA
          simp only [koineref25_walk.j0] at H
          by_cases c11 : 0 ≤ a1
          · rw [if_pos c11] at H
            have c11b0 : decide (0 ≤ a1) = true := decide_eq_true c11
            clear c11
            by_cases c12 : a1 < (l0.length : Int)
            · rw [if_pos c12] at H
              have c12b0 : decide (a1 < (l0.length : Int)) = true := decide_eq_true c12
              clear c12
              replace H := Option.bind_eq_some_iff.mp H
              obtain ⟨t177, A130, H⟩ := H
              replace H : (if t177 ≥ 1 then ((koineref25_walk.f kj4 l0 ((rd_T42 l0 a1).f3)).bind fun t179 => (if x5_4.length + t179.length < 17592186044416 then (koineref25_walk.j1 kj4 l0 a1 (x5_4 ++ t179)) else (none))) else (koineref25_walk.j1 kj4 l0 a1 x5_4)) = some r := H
              have A13 := Aside0.mk A130
              clear A130
              have HC14 := Aside0.mk H
              clear H
              have p176 : 0 ≤ (a1 : Int) := of_decide_eq_true (by first | (with_reducible assumption) | assumption)
              have q176 : a1 < (l0.length : Int) := of_decide_eq_true (by first | (with_reducible assumption) | assumption)
              obtain ⟨ad176, e176, hx176_0, hx176_1, hx176_2, hx176_3, hx176_4⟩ := at_T42 HR0.out a1 p176 q176
              obtain rfl : ad172 = ad176 := (by injection e176)
              replace hx176_0 := (HB.out.cell (World.block_lt_of_cell? w _ hx176_0)).trans hx176_0
              replace hx176_1 := (HB.out.cell (World.block_lt_of_cell? w _ hx176_1)).trans hx176_1
              replace hx176_2 := (HB.out.cell (World.block_lt_of_cell? w _ hx176_2)).trans hx176_2
              replace hx176_3 := (HB.out.cell (World.block_lt_of_cell? w _ hx176_3)).trans hx176_3
              replace hx176_4 := (HB.out.cell (World.block_lt_of_cell? w _ hx176_4)).trans hx176_4
              replace p176 := eq_true p176
              replace q176 := eq_true q176
              go_upto_if 23 with (first | ((with_reducible refine gate_callee (f := 60) rfl ?_); refine goesL_ (some 22) rfl rfl Try.func60 (by kernel_rfl) rfl #[.int .i64 ((rd_T42 l0 a1).f0)] rfl (by (try simp only [List.map_toArray, List.map_cons, List.map_nil]); first | done | rfl | (simp only [List.length_drop, List.length_take]; rfl)) ?_; (with_reducible refine (koineref25_operands.calls ((rd_T42 l0 a1).f0) t177 _ A13.out).mono ?_); rintro e w' ⟨rfl, ⟨nd, rfl⟩⟩; refine ⟨_, rfl, ?_⟩))
              (try simp only [Act.put, List.setIfInBounds_toArray, List.set_cons_zero, List.set_cons_succ])
              go_cut [5] (fun v5 wc => ∃ (kq : Nat) (x5_13 : List Int), Aside0 (koineref25_walk.j1 kq l0 a1 x5_13 = some r) ∧ Aside0 (kq ≤ kj4) ∧ Aside0 (Kd.R (Kd.int .i64) 3 wc w.heap.size (fun _ => True) v5 x5_13) ∧ Aside0 (Below w.heap.size w wc))
              case first =>
                have H := HC14.out
                clear HC14
                by_cases c15 : t177 ≥ 1
                · rw [if_pos c15] at H
                  have c15b0 : decide (1 ≤ t177) = true := decide_eq_true c15
                  clear c15
                  (first | rw [c15b0] | (simp only [i64_w, i32_w]; rw [c15b0]) | skip)
                  replace H := Option.bind_eq_some_iff.mp H
                  obtain ⟨t179, A160, H⟩ := H
                  replace H : (if x5_4.length + t179.length < 17592186044416 then (koineref25_walk.j1 kj4 l0 a1 (x5_4 ++ t179)) else (none)) = some r := H
                  have A16 := Aside0.mk A160
                  clear A160
                  by_cases c17 : x5_4.length + t179.length < 17592186044416
                  · rw [if_pos c17] at H
                    have LMc17 := Aside0.mk c17
                    clear c17
                    obtain ⟨y182, hy182⟩ : ∃ y_ : List Int, y_ = (x5_4 ++ t179) := ⟨_, rfl⟩
                    replace H : (koineref25_walk.j1 kj4 l0 a1 y182) = some r := by first | (rw [hy182]; with_reducible exact H) | (have H2_ := (Option.bind_some _ _).symm.trans H; rw [hy182]; with_reducible exact H2_) | (have H2_ := (Option.bind_some _ _).symm.trans H; with_reducible exact H2_) | with_reducible exact H | (rw [hy182]; exact H) | exact H
                    have Ny182 := Aside0.mk hy182
                    clear hy182
                    have H' := Aside0.mk H
                    clear H
                    have p178 : 0 ≤ (a1 : Int) := of_decide_eq_true (by first | (with_reducible assumption) | assumption)
                    have q178 : a1 < (l0.length : Int) := of_decide_eq_true (by first | (with_reducible assumption) | assumption)
                    obtain ⟨ad178, e178, hx178_0, hx178_1, hx178_2, hx178_3, hx178_4⟩ := at_T42 HR0.out a1 p178 q178
                    obtain rfl : ad172 = ad178 := (by injection e178)
                    replace hx178_0 := (HB.out.cell (World.block_lt_of_cell? w _ hx178_0)).trans hx178_0
                    replace hx178_1 := (HB.out.cell (World.block_lt_of_cell? w _ hx178_1)).trans hx178_1
                    replace hx178_2 := (HB.out.cell (World.block_lt_of_cell? w _ hx178_2)).trans hx178_2
                    replace hx178_3 := (HB.out.cell (World.block_lt_of_cell? w _ hx178_3)).trans hx178_3
                    replace hx178_4 := (HB.out.cell (World.block_lt_of_cell? w _ hx178_4)).trans hx178_4
                    replace p178 := eq_true p178
                    replace q178 := eq_true q178
                    go_wp2_with (first | ((with_reducible refine gate_callee (f := 51) rfl ?_); refine goesL_ (some 31) rfl rfl Try.func51 (by kernel_rfl) rfl #[.slice (some ad172) l0.length c0, .int .i64 ((rd_T42 l0 a1).f3)] rfl (by (try simp only [List.map_toArray, List.map_cons, List.map_nil]); first | done | rfl | (simp only [List.length_drop, List.length_take]; rfl)) ?_; (with_reducible refine (ih kj4 (by have := HJ4.out; omega) _ _ l0 ((rd_T42 l0 a1).f3) t179 _ ?side1 ?side2 A16.out).mono ?_); (case side1 => repeat (first | exact (Kd.C_below HR0.out HB.out) | (with_reducible refine Kd.C_alloc ?_ _) | (with_reducible refine Kd.C_drewN ?_ _) | (with_reducible refine Kd.C_drew ?_))); (case side2 => exact HC0.out); rintro e w18 ⟨v180, rfl, ho0, hb⟩; refine ⟨_, rfl, ?_⟩; have n0_ := Aside0.mk (Kd.R_elder' (by (with_reducible repeat (first | apply Kd.R_alloc | apply Kd.R_drewN | apply Kd.R_drew)); exact HO_5.out) (Kd.R_base ho0) hb); have n1_ := Aside0.mk (Kd.R_lower (Kd.R_new' ho0 (Kd.R_lt (by (with_reducible repeat (first | apply Kd.R_alloc | apply Kd.R_drewN | apply Kd.R_drew)); exact HO_5.out))) (below_size (by repeat (first | (with_reducible first | exact HB.out | apply below_alloc | apply pw_below_drewN | apply below_drew1) | exact HB.out)))); have n2_ := Aside0.mk (below_step (by repeat (first | (with_reducible first | exact HB.out | apply below_alloc | apply pw_below_drewN | apply below_drew1) | exact HB.out)) hb); clear HO_5; clear HB; have HO_5 := n0_; have HO181 := n1_; have HB := n2_; clear n0_ n1_ n2_; (try clear hb); (try clear hb2); (try clear hk); (try clear hi); (try clear ho0); obtain ⟨Ao20, co20, eo20⟩ := Kd.R_slice HO181.out; subst eo20) | ((with_reducible refine gate_builtin (b := .append) (xs := #[.tmp 24, .tmp 31]) rfl ?_); at_builtin; refine Kd.R_append_rows (Kd.int .i64) (w0 := w) w.heap.size rfl (.tmp 24) (.tmp 31) 28 3 (.int .i64 0) 8 rfl Try.underlying28 info3 rfl (by decide) (by omega) u5 x5_4 t179 _ _ _ (fun k_ => some k_ ≠ (.slice Ao20 t179.length co20 : Value).ownBlock) (fun _ => False) rfl rfl ?aO ?aR (fun _ _ h => h) (fun _ h => h.elim) ?aF ?aB ?aS ?aL ?_; (case aR => repeat (first | exact (Kd.R_reads' HO181.out).2.2 | (with_reducible refine Kd.C_alloc ?_ _) | (with_reducible refine Kd.C_drewN ?_ _) | (with_reducible refine Kd.C_drew ?_))); (case aB => exact (by repeat (first | (with_reducible first | exact HB.out | apply below_alloc | apply pw_below_drewN | apply below_drew1) | exact HB.out))); (case aF => exact (fun k_ hk => Kd.fresh' (Kd.R_lt (by (with_reducible repeat (first | apply Kd.R_alloc | apply Kd.R_drewN | apply Kd.R_drew)); exact HO181.out)) k_ hk)); (case aO => exact (by (with_reducible repeat (first | apply Kd.R_alloc | apply Kd.R_drewN | apply Kd.R_drew)); exact Kd.R_mono HO_5.out (fun _ hk => hk.2))); (case aS => exact (below_size (by repeat (first | (with_reducible first | exact HB.out | apply below_alloc | apply pw_below_drewN | apply below_drew1) | exact HB.out)))); (case aL => have := LMc17.out; omega); intro v183 w19 ho hb hg hat; rw [← Ny182.out] at ho; have n0_ := Aside0.mk (Kd.R_after (ok := (fun _ => True)) (by (with_reducible repeat (first | apply Kd.R_alloc | apply Kd.R_drewN | apply Kd.R_drew)); exact HO181.out) hg hat); have n1_ := Aside0.mk (hb); have n2_ := Aside0.mk (ho); clear HO181; clear HB; clear HO_5; have HO181 := n0_; have HB := n1_; have HO184 := n2_; clear n0_ n1_ n2_; clear ho hb hg hat))
                    go_meet
                    case rel => exact ⟨_, (y182), H', ⟨by have := HJ4.out; first | omega | exact Nat.le_refl _⟩, ⟨by (with_reducible repeat (first | apply Kd.R_alloc | apply Kd.R_drewN | apply Kd.R_drew)); exact Kd.R_mono HO184.out (fun _ hk => trivial)⟩, ⟨by repeat (first | (with_reducible first | exact HB.out | apply below_alloc | apply pw_below_drewN | apply below_drew1) | exact HB.out)⟩⟩
                  · rw [if_neg c17] at H
                    exact absurd H (by simp)
                · rw [if_neg c15] at H
                  have c15b0 : decide (1 ≤ t177) = false := decide_eq_false c15
                  clear c15
                  (first | rw [c15b0] | (simp only [i64_w, i32_w]; rw [c15b0]) | skip)
                  have H' := Aside0.mk H
                  clear H
                  go_wp2
                  go_meet
                  case rel => exact ⟨_, (x5_4), H', ⟨by have := HJ4.out; first | omega | exact Nat.le_refl _⟩, ⟨by (with_reducible repeat (first | apply Kd.R_alloc | apply Kd.R_drewN | apply Kd.R_drew)); exact HO_5.out⟩, ⟨by repeat (first | (with_reducible first | exact HB.out | apply below_alloc | apply pw_below_drewN | apply below_drew1) | exact HB.out)⟩⟩
              case rest =>
                clear HC14
                try clear c1
                try clear p1
                try clear q1
                try clear hx1
                try clear p2
                try clear c3
                try clear c3b0
                try clear c4
                try clear c4b0
                try clear c5
                try clear c6
                try clear c8
                try clear c8b0
                try clear c8b1
                try clear c9
                try clear c11
                try clear c11b0
                try clear c12
                try clear c12b0
                try clear c15
                try clear c15b0
                try clear c17
                try clear p17
                try clear q17
                try clear hx17
                try clear hx172_0
                try clear hx172_1
                try clear hx172_2
                try clear hx172_3
                try clear hx172_4
                try clear hx176_0
                try clear hx176_1
                try clear hx176_2
                try clear hx176_3
                try clear hx176_4
                try clear hx178_0
                try clear hx178_1
                try clear hx178_2
                try clear hx178_3
                try clear hx178_4
                try clear p1
                try clear p172
                try clear p176
                try clear p178
                try clear p2
                try clear q1
                try clear q172
                try clear q176
                try clear q178
                obtain ⟨kq, x5_13, HA, HJ13, HO_5, HB⟩ := hcut
                cases kq with
                | zero => exact absurd HA.out (by simp [koineref25_walk.j1])
                | succ kj13 =>
                  have H := HA.out
                  clear HA
                  simp only [koineref25_walk.j1] at H
                  by_cases c21 : 0 ≤ a1
                  · rw [if_pos c21] at H
                    have c21b0 : decide (0 ≤ a1) = true := decide_eq_true c21
                    clear c21
                    by_cases c22 : a1 < (l0.length : Int)
                    · rw [if_pos c22] at H
                      have c22b0 : decide (a1 < (l0.length : Int)) = true := decide_eq_true c22
                      clear c22
                      replace H := Option.bind_eq_some_iff.mp H
                      obtain ⟨t186, A230, H⟩ := H
                      replace H : (if t186 ≥ 2 then ((koineref25_walk.f kj13 l0 ((rd_T42 l0 a1).f4)).bind fun t188 => (if x5_13.length + t188.length < 17592186044416 then (some (x5_13 ++ t188)) else (none))) else (some x5_13)) = some r := H
                      have A23 := Aside0.mk A230
                      clear A230
                      by_cases c24 : t186 ≥ 2
                      · rw [if_pos c24] at H
                        have c24b0 : decide (2 ≤ t186) = true := decide_eq_true c24
                        clear c24
                        replace H := Option.bind_eq_some_iff.mp H
                        obtain ⟨t188, A250, H⟩ := H
                        replace H : (if x5_13.length + t188.length < 17592186044416 then (some (x5_13 ++ t188)) else (none)) = some r := H
                        have A25 := Aside0.mk A250
                        clear A250
                        by_cases c26 : x5_13.length + t188.length < 17592186044416
                        · rw [if_pos c26] at H
                          have LMc26 := Aside0.mk c26
                          clear c26
                          obtain ⟨y191, hy191⟩ : ∃ y_ : List Int, y_ = (x5_13 ++ t188) := ⟨_, rfl⟩
                          replace H : (some y191) = some r := by first | (rw [hy191]; with_reducible exact H) | (have H2_ := (Option.bind_some _ _).symm.trans H; rw [hy191]; with_reducible exact H2_) | (have H2_ := (Option.bind_some _ _).symm.trans H; with_reducible exact H2_) | with_reducible exact H | (rw [hy191]; exact H) | exact H
                          have Ny191 := Aside0.mk hy191
                          clear hy191
                          obtain rfl := Option.some.inj H
                          have p185 : 0 ≤ (a1 : Int) := of_decide_eq_true (by first | (with_reducible assumption) | assumption)
                          have q185 : a1 < (l0.length : Int) := of_decide_eq_true (by first | (with_reducible assumption) | assumption)
                          obtain ⟨ad185, e185, hx185_0, hx185_1, hx185_2, hx185_3, hx185_4⟩ := at_T42 HR0.out a1 p185 q185
                          obtain rfl : ad172 = ad185 := (by injection e185)
                          replace hx185_0 := (HB.out.cell (World.block_lt_of_cell? w _ hx185_0)).trans hx185_0
                          replace hx185_1 := (HB.out.cell (World.block_lt_of_cell? w _ hx185_1)).trans hx185_1
                          replace hx185_2 := (HB.out.cell (World.block_lt_of_cell? w _ hx185_2)).trans hx185_2
                          replace hx185_3 := (HB.out.cell (World.block_lt_of_cell? w _ hx185_3)).trans hx185_3
                          replace hx185_4 := (HB.out.cell (World.block_lt_of_cell? w _ hx185_4)).trans hx185_4
                          replace p185 := eq_true p185
                          replace q185 := eq_true q185
                          go_wp2_with (first | ((with_reducible refine gate_callee (f := 60) rfl ?_); refine goesL_ (some 38) rfl rfl Try.func60 (by kernel_rfl) rfl #[.int .i64 ((rd_T42 l0 a1).f0)] rfl (by (try simp only [List.map_toArray, List.map_cons, List.map_nil]); first | done | rfl | (simp only [List.length_drop, List.length_take]; rfl)) ?_; (with_reducible refine (koineref25_operands.calls ((rd_T42 l0 a1).f0) t186 _ A23.out).mono ?_); rintro e w' ⟨rfl, ⟨nd, rfl⟩⟩; refine ⟨_, rfl, ?_⟩; have p187 : 0 ≤ (a1 : Int) := of_decide_eq_true (by first | (with_reducible assumption) | assumption); have q187 : a1 < (l0.length : Int) := of_decide_eq_true (by first | (with_reducible assumption) | assumption); obtain ⟨ad187, e187, hx187_0, hx187_1, hx187_2, hx187_3, hx187_4⟩ := at_T42 HR0.out a1 p187 q187; obtain rfl : ad172 = ad187 := (by injection e187); replace hx187_0 := (HB.out.cell (World.block_lt_of_cell? w _ hx187_0)).trans hx187_0; replace hx187_1 := (HB.out.cell (World.block_lt_of_cell? w _ hx187_1)).trans hx187_1; replace hx187_2 := (HB.out.cell (World.block_lt_of_cell? w _ hx187_2)).trans hx187_2; replace hx187_3 := (HB.out.cell (World.block_lt_of_cell? w _ hx187_3)).trans hx187_3; replace hx187_4 := (HB.out.cell (World.block_lt_of_cell? w _ hx187_4)).trans hx187_4; replace p187 := eq_true p187; replace q187 := eq_true q187) | ((with_reducible refine gate_callee (f := 51) rfl ?_); refine goesL_ (some 47) rfl rfl Try.func51 (by kernel_rfl) rfl #[.slice (some ad172) l0.length c0, .int .i64 ((rd_T42 l0 a1).f4)] rfl (by (try simp only [List.map_toArray, List.map_cons, List.map_nil]); first | done | rfl | (simp only [List.length_drop, List.length_take]; rfl)) ?_; (with_reducible refine (ih kj13 (by have := HJ4.out; have := HJ13.out; omega) _ _ l0 ((rd_T42 l0 a1).f4) t188 _ ?side1 ?side2 A25.out).mono ?_); (case side1 => repeat (first | exact (Kd.C_below HR0.out (by repeat (first | (with_reducible first | exact HB.out | apply below_alloc | apply pw_below_drewN | apply below_drew1) | exact HB.out))) | (with_reducible refine Kd.C_alloc ?_ _) | (with_reducible refine Kd.C_drewN ?_ _) | (with_reducible refine Kd.C_drew ?_))); (case side2 => exact HC0.out); rintro e w27 ⟨v189, rfl, ho0, hb⟩; refine ⟨_, rfl, ?_⟩; have n0_ := Aside0.mk (Kd.R_elder' (by (with_reducible repeat (first | apply Kd.R_alloc | apply Kd.R_drewN | apply Kd.R_drew)); exact HO_5.out) (Kd.R_base ho0) hb); have n1_ := Aside0.mk (Kd.R_lower (Kd.R_new' ho0 (Kd.R_lt (by (with_reducible repeat (first | apply Kd.R_alloc | apply Kd.R_drewN | apply Kd.R_drew)); exact HO_5.out))) (below_size (by repeat (first | (with_reducible first | exact HB.out | apply below_alloc | apply pw_below_drewN | apply below_drew1) | exact HB.out)))); have n2_ := Aside0.mk (below_step (by repeat (first | (with_reducible first | exact HB.out | apply below_alloc | apply pw_below_drewN | apply below_drew1) | exact HB.out)) hb); clear HO_5; clear HB; have HO_5 := n0_; have HO190 := n1_; have HB := n2_; clear n0_ n1_ n2_; (try clear hb); (try clear hb2); (try clear hk); (try clear hi); (try clear ho0); obtain ⟨Ao29, co29, eo29⟩ := Kd.R_slice HO190.out; subst eo29) | ((with_reducible refine gate_builtin (b := .append) (xs := #[.tmp 40, .tmp 47]) rfl ?_); at_builtin; refine Kd.R_append_rows (Kd.int .i64) (w0 := w) w.heap.size rfl (.tmp 40) (.tmp 47) 28 3 (.int .i64 0) 8 rfl Try.underlying28 info3 rfl (by decide) (by omega) u5 x5_13 t188 _ _ _ (fun k_ => some k_ ≠ (.slice Ao29 t188.length co29 : Value).ownBlock) (fun _ => False) rfl rfl ?aO ?aR (fun _ _ h => h) (fun _ h => h.elim) ?aF ?aB ?aS ?aL ?_; (case aR => repeat (first | exact (Kd.R_reads' HO190.out).2.2 | (with_reducible refine Kd.C_alloc ?_ _) | (with_reducible refine Kd.C_drewN ?_ _) | (with_reducible refine Kd.C_drew ?_))); (case aB => exact (by repeat (first | (with_reducible first | exact HB.out | apply below_alloc | apply pw_below_drewN | apply below_drew1) | exact HB.out))); (case aF => exact (fun k_ hk => Kd.fresh' (Kd.R_lt (by (with_reducible repeat (first | apply Kd.R_alloc | apply Kd.R_drewN | apply Kd.R_drew)); exact HO190.out)) k_ hk)); (case aO => exact (by (with_reducible repeat (first | apply Kd.R_alloc | apply Kd.R_drewN | apply Kd.R_drew)); exact Kd.R_mono HO_5.out (fun _ hk => hk.2))); (case aS => exact (below_size (by repeat (first | (with_reducible first | exact HB.out | apply below_alloc | apply pw_below_drewN | apply below_drew1) | exact HB.out)))); (case aL => have := LMc26.out; omega); intro v192 w28 ho hb hg hat; rw [← Ny191.out] at ho; have n0_ := Aside0.mk (Kd.R_after (ok := (fun _ => True)) (by (with_reducible repeat (first | apply Kd.R_alloc | apply Kd.R_drewN | apply Kd.R_drew)); exact HO190.out) hg hat); have n1_ := Aside0.mk (hb); have n2_ := Aside0.mk (ho); clear HO190; clear HB; clear HO_5; have HO190 := n0_; have HB := n1_; have HO193 := n2_; clear n0_ n1_ n2_; clear ho hb hg hat))
                          go_ret
                          exact ⟨_, by first | rfl | (simp [errW_none, errW_some] <;> rfl) | (simp [*, errW_none, errW_some] <;> rfl), by (with_reducible repeat (first | apply Kd.R_alloc | apply Kd.R_drewN | apply Kd.R_drew)); exact Kd.R_mono HO193.out (fun _ hk => trivial), by repeat (first | (with_reducible first | exact HB.out | apply below_alloc | apply pw_below_drewN | apply below_drew1) | exact HB.out)⟩
                        · rw [if_neg c26] at H
                          exact absurd H (by simp)
                      · rw [if_neg c24] at H
                        have c24b0 : decide (2 ≤ t186) = false := decide_eq_false c24
                        clear c24
                        obtain rfl := Option.some.inj H
                        have p185 : 0 ≤ (a1 : Int) := of_decide_eq_true (by first | (with_reducible assumption) | assumption)
                        have q185 : a1 < (l0.length : Int) := of_decide_eq_true (by first | (with_reducible assumption) | assumption)
                        obtain ⟨ad185, e185, hx185_0, hx185_1, hx185_2, hx185_3, hx185_4⟩ := at_T42 HR0.out a1 p185 q185
                        obtain rfl : ad172 = ad185 := (by injection e185)
                        replace hx185_0 := (HB.out.cell (World.block_lt_of_cell? w _ hx185_0)).trans hx185_0
                        replace hx185_1 := (HB.out.cell (World.block_lt_of_cell? w _ hx185_1)).trans hx185_1
                        replace hx185_2 := (HB.out.cell (World.block_lt_of_cell? w _ hx185_2)).trans hx185_2
                        replace hx185_3 := (HB.out.cell (World.block_lt_of_cell? w _ hx185_3)).trans hx185_3
                        replace hx185_4 := (HB.out.cell (World.block_lt_of_cell? w _ hx185_4)).trans hx185_4
                        replace p185 := eq_true p185
                        replace q185 := eq_true q185
                        go_wp2_with (first | ((with_reducible refine gate_callee (f := 60) rfl ?_); refine goesL_ (some 38) rfl rfl Try.func60 (by kernel_rfl) rfl #[.int .i64 ((rd_T42 l0 a1).f0)] rfl (by (try simp only [List.map_toArray, List.map_cons, List.map_nil]); first | done | rfl | (simp only [List.length_drop, List.length_take]; rfl)) ?_; (with_reducible refine (koineref25_operands.calls ((rd_T42 l0 a1).f0) t186 _ A23.out).mono ?_); rintro e w' ⟨rfl, ⟨nd, rfl⟩⟩; refine ⟨_, rfl, ?_⟩))
                        go_ret
                        exact ⟨_, by first | rfl | (simp [errW_none, errW_some] <;> rfl) | (simp [*, errW_none, errW_some] <;> rfl), by (with_reducible repeat (first | apply Kd.R_alloc | apply Kd.R_drewN | apply Kd.R_drew)); exact HO_5.out, by repeat (first | (with_reducible first | exact HB.out | apply below_alloc | apply pw_below_drewN | apply below_drew1) | exact HB.out)⟩
                    · rw [if_neg c22] at H
                      exact absurd H (by simp)
                  · rw [if_neg c21] at H
                    exact absurd H (by simp)
            · rw [if_neg c12] at H
              exact absurd H (by simp)
          · rw [if_neg c11] at H
            exact absurd H (by simp)
    · rw [if_neg c4] at H
      exact absurd H (by simp)
  · rw [if_neg c3] at H
    exact absurd H (by simp)
end Go.Proofs.Ythmmdmnbcecooaa.A
end
