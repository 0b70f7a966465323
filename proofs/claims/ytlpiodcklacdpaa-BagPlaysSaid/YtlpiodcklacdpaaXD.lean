/- A slice of deeds (a kind, an item, a pick, a time, whether near), opened: what the row of BagPlays needs. No condition but those that each theorem names. -/
import Derived.Test.YtlpiodcklacdpaaRX
import Derived.Deep.Slices
import Derived.ChangeArms
namespace Go.Proofs.Ytlpiodcklacdpaa.XD
set_option linter.unusedVariables false
open Go Go.RowKit Go.Proofs.YtlpiodcklacdpaaW.PrintWords Go.Deep Go.ChangeShapes Go.WideShapes Go.Proofs.Ytlpiodcklacdpaa.BG

instance : Inhabited Dd := ⟨⟨0, It.zero, 0, 0, false⟩⟩
/-- A deed in memory: ten cells. -/
abbrev deedK : Kd Dd := Kd.iso (Kd.pair (Kd.int .u8) (Kd.pair itK (Kd.pair (Kd.int .i64) (Kd.pair (Kd.int .u64) Kd.bool)))) (fun d : Dd => (d.kind, d.x, d.pick, d.now, d.near))
def ddCells (d : Dd) : List Value := [.int .u8 d.kind, .int .u32 d.x.fi, .int .u16 d.x.fp, .int .u32 d.x.ti, .int .u16 d.x.tp, .string d.x.by_, .int .u64 d.x.t, .int .i64 d.pick, .int .u64 d.now, .bool d.near]
theorem deedK_mk (w : World) (d : Dd) : deedK.K w d (ddCells d) :=
  ⟨[_], _, rfl, rfl, ⟨d.x.cells, _, rfl, ⟨[_], _, rfl, rfl, ⟨[_], _, rfl, rfl, ⟨[_], _, rfl, rfl, ⟨[_], _, rfl, rfl, ⟨[_], _, rfl, rfl, rfl⟩⟩⟩⟩⟩, ⟨[_], _, rfl, rfl, ⟨[_], _, rfl, rfl, rfl⟩⟩⟩⟩
theorem deedK_open {w : World} {d : Dd} {cs : List Value} (h : deedK.K w d cs) : cs = ddCells d := by
  obtain ⟨_, _, rfl, rfl, ⟨_, _, rfl, hk, ⟨_, _, rfl, rfl, ⟨_, _, rfl, rfl, rfl⟩⟩⟩⟩ := h
  rw [itK_open hk]
  rfl
/-- What its numbers may be. -/
def itOk (y : It) : Prop := 0 ≤ y.t ∧ y.t ≤ 18446744073709551615 ∧ y.by_.size ≤ 9223372036854775807
def ddOk (d : Dd) : Prop := 0 ≤ d.kind ∧ d.kind < 256 ∧ itOk d.x ∧ d.pick ≤ 9223372036854775807 ∧ 0 ≤ d.now ∧ d.now ≤ 18446744073709551615
section
variable {H : Type} {enc : TypeId × Value → H} {P : Program} {W : World} {base fuel n : Nat} {spare : Nat → Bool} {held : Bool} {cs : List Value} {x : DataW H × List MemPlace}
theorem fld {fs : Array Field} {xs : List (DataW H × List MemPlace)} (hf : ∀ (i : Nat) (f : Field), fs[i]? = some f → DataW.trod enc P W base spare held n f.type ((cs.drop f.offset).take (P.cellsOf f.type)) = xs[i]?) (i : Nat) (f : Field) (hi : fs[i]? = some f) {t o c : Nat} {ys : List Value} {y : DataW H × List MemPlace} (ht : f.type = t) (ho : f.offset = o) (hc : P.cellsOf t = c) (hy : (cs.drop o).take c = ys) (hx : xs[i]? = some y) :
    DataW.trod enc P W base spare held n t ys = some y := by
  subst ht ho hc hy
  rw [hf i f hi, hx]
theorem open_addr (h : DataW.trod enc Try.prog W base spare held fuel 32 cs = some x) : ∃ i p : Int, cs = [.int .u32 i, .int .u16 p] := by
  obtain ⟨xs, k, hk, hxy, hl, hxl, hf⟩ := DataW.trod_struct Try.underlying32 h
  have hl2 : cs.length = 2 := by rw [hl]; kernel_rfl
  match xs, hxl, cs, hl2 with
  | [y0, y1], _, [v0, v1], _ =>
    obtain ⟨i, h0, _⟩ := DataW.trod_int Try.underlying29 (fld hf 0 _ rfl rfl rfl (by kernel_rfl : Try.prog.cellsOf 29 = 1) rfl rfl)
    obtain ⟨p, h1, _⟩ := DataW.trod_int Try.underlying30 (fld hf 1 _ rfl rfl rfl (by kernel_rfl : Try.prog.cellsOf 30 = 1) rfl rfl)
    obtain rfl : v0 = .int .u32 i := by simpa using h0
    obtain rfl : v1 = .int .u16 p := by simpa using h1
    exact ⟨i, p, rfl⟩
theorem open_item (h : DataW.trod enc Try.prog W base spare held fuel 35 cs = some x) : ∃ y : It, cs = y.cells ∧ itOk y := by
  obtain ⟨xs, k, hk, hxy, hl, hxl, hf⟩ := DataW.trod_struct Try.underlying35 h
  have hl2 : cs.length = 6 := by rw [hl]; kernel_rfl
  match xs, hxl, cs, hl2 with
  | [y0, y1, y2, y3], _, [v0, v1, v2, v3, v4, v5], _ =>
    obtain ⟨i, p, h0⟩ := open_addr (fld hf 0 _ rfl rfl rfl (by kernel_rfl : Try.prog.cellsOf 32 = 2) rfl rfl)
    obtain ⟨i', p', h1⟩ := open_addr (fld hf 1 _ rfl rfl rfl (by kernel_rfl : Try.prog.cellsOf 32 = 2) rfl rfl)
    obtain ⟨b, h2, _, hb⟩ := DataW.trod_string Try.underlying9 (fld hf 2 _ rfl rfl rfl (by kernel_rfl : Try.prog.cellsOf 9 = 1) rfl rfl)
    obtain ⟨t, h3, _, ht⟩ := DataW.trod_int Try.underlying33 (fld hf 3 _ rfl rfl rfl (by kernel_rfl : Try.prog.cellsOf 33 = 1) rfl rfl)
    simp at h0 h1 h2 h3
    obtain ⟨rfl, rfl⟩ := h0
    obtain ⟨rfl, rfl⟩ := h1
    subst h2
    subst h3
    simp [Lit.wf, IntKind.min, IntKind.max, IntKind.signed, IntKind.bits] at ht
    unfold maxLen at hb
    exact ⟨⟨i, p, i', p', b, t⟩, rfl, by show 0 ≤ t; omega, by show t ≤ 18446744073709551615; omega, hb⟩
theorem open_deed (h : DataW.trod enc Try.prog W base spare held fuel 53 cs = some x) : ∃ d : Dd, cs = ddCells d ∧ ddOk d := by
  obtain ⟨xs, k, hk, hxy, hl, hxl, hf⟩ := DataW.trod_struct Try.underlying53 h
  have hl2 : cs.length = 10 := by rw [hl]; kernel_rfl
  match xs, hxl, cs, hl2 with
  | [y0, y1, y2, y3, y4], _, [v0, v1, v2, v3, v4, v5, v6, v7, v8, v9], _ =>
    obtain ⟨kd, h0, _, w0⟩ := DataW.trod_int Try.underlying5 (fld hf 0 _ rfl rfl rfl (by kernel_rfl : Try.prog.cellsOf 5 = 1) rfl rfl)
    obtain ⟨y, h1, hy⟩ := open_item (fld hf 1 _ rfl rfl rfl (by kernel_rfl : Try.prog.cellsOf 35 = 6) rfl rfl)
    obtain ⟨pk, h2, _, w2⟩ := DataW.trod_int Try.underlying3 (fld hf 2 _ rfl rfl rfl (by kernel_rfl : Try.prog.cellsOf 3 = 1) rfl rfl)
    obtain ⟨nw, h3, _, w3⟩ := DataW.trod_int Try.underlying33 (fld hf 3 _ rfl rfl rfl (by kernel_rfl : Try.prog.cellsOf 33 = 1) rfl rfl)
    obtain ⟨nr, h4, _⟩ := DataW.trod_bool Try.underlying4 (fld hf 4 _ rfl rfl rfl (by kernel_rfl : Try.prog.cellsOf 4 = 1) rfl rfl)
    unfold It.cells at h1
    simp at h0 h1 h2 h3 h4
    obtain ⟨rfl, rfl, rfl, rfl, rfl, rfl⟩ := h1
    subst h0
    subst h2
    subst h3
    subst h4
    simp [Lit.wf, IntKind.min, IntKind.max, IntKind.signed, IntKind.bits] at w0 w2 w3
    exact ⟨⟨kd, y, pk, nw, nr⟩, rfl, by show 0 ≤ kd; omega, by show kd < 256; omega, hy, by show pk ≤ 9223372036854775807; omega, by show 0 ≤ nw; omega, by show nw ≤ 18446744073709551615; omega⟩
theorem open_deeds {a : Option Addr} {len cap : Nat} {d : DataW H} {ps : List MemPlace}
    (h : DataW.Trod enc Try.prog W base spare held 48 (.slice a len cap) d ps) :
    ∃ l : List Dd, len = l.length ∧ deedK.C W a l.length l ∧ l.length ≤ cap ∧ ∀ d ∈ l, ddOk d := by
  obtain ⟨fuel, hfu⟩ := h
  have ce : Try.prog.cellsOf 53 = 10 := by kernel_rfl
  rcases open_slice Try.underlying48 hfu with ⟨hcs, hx⟩ | ⟨ad, l, c, m, n, D, Pl, hcs, hb, hl, hm, hmm, hx, hc⟩
  · simp [Value.cells] at hcs
    obtain ⟨rfl, rfl, rfl⟩ := hcs
    exact ⟨[], rfl, ⟨rfl, by simp, fun hn => absurd hn (by simp)⟩, by simp, by simp⟩
  · simp [Value.cells] at hcs
    obtain ⟨rfl, rfl, rfl⟩ := hcs
    have hlm : len ≤ m := by rw [hmm]; split <;> omega
    have each : ∀ i, i < len → ∃ q : Dd, (∃ cs : List Value, cs.length = 10 ∧ deedK.K W q cs ∧ ∀ j u, cs[j]? = some u → W.cell? (ad.add (i * 10 + j)) = some u) ∧ ddOk q := by
      intro i hi
      obtain ⟨cs', h1, h2⟩ := hc i (by omega)
      rw [ce] at h1
      obtain ⟨_, hlen, hcell⟩ := World.cells?_some h1
      obtain ⟨q, rfl, hq⟩ := open_deed h2
      refine ⟨q, ⟨ddCells q, rfl, deedK_mk _ _, fun j u hu => ?_⟩, hq⟩
      have hj : j < 10 := (List.getElem?_eq_some_iff.1 hu).1
      have := hcell j hj
      rw [Deep.add_add] at this
      exact this.trans hu
    obtain ⟨q, hq⟩ := choose_lt each
    have hlen : ((List.range len).map q).length = len := by simp
    refine ⟨(List.range len).map q, hlen.symm, ⟨rfl, ?_, fun hn => ⟨ad, rfl, fun j p hjp => ?_⟩⟩, ?_, ?_⟩
    · rw [hlen]
      unfold maxLen at hm
      omega
    · rw [List.getElem?_map] at hjp
      by_cases hjl : j < len
      · rw [List.getElem?_range hjl] at hjp
        obtain rfl : q j = p := by simpa using hjp
        exact (hq j hjl).1
      · rw [List.getElem?_eq_none (by simp; omega)] at hjp
        cases hjp
    · rw [hlen]; exact hl
    · intro d hd
      obtain ⟨j, hj, rfl⟩ := List.mem_map.1 hd
      exact (hq j (List.mem_range.1 hj)).2
end
/-- A deed read: its ten cells. -/
theorem deed_at {w : World} {A : Option Addr} {ds : List Dd} (h : deedK.C w A ds.length ds) (i : Nat) (d : Dd) (hd : ds[i]? = some d) :
    ∃ ad : Addr, A = some ad ∧ w.cell? (ad.add (i * 10)) = some (.int .u8 d.kind) ∧ (∀ j u, 0 < j → (ddCells d)[j]? = some u → w.cell? ⟨(ad.add (i * 10)).block, (ad.add (i * 10)).off + j, none⟩ = some u) := by
  obtain ⟨h0, h1, h2⟩ := h
  have hi : i < ds.length := (List.getElem?_eq_some_iff.1 hd).1
  obtain ⟨ad, rfl, hc⟩ := h2 (by omega)
  obtain ⟨c, hl, hk, hcell⟩ := hc i d hd
  rw [deedK_open hk] at hcell
  exact ⟨ad, rfl, hcell 0 _ rfl, fun j u hj hu => by rw [add_f _ _ _ (by omega)]; exact hcell j u hu⟩
end Go.Proofs.Ytlpiodcklacdpaa.XD
