/- A slice of deeds (a kind, numbers, times, whether near), opened: what the row of DoubtPlays needs. No condition but those that each theorem names. -/
import Derived.Test.YthoppcefadopeaaEZ
import Derived.Test.YthoppcefadopeaaXI
import Derived.Deep.Slices
import Derived.ChangeArms
namespace Go.Proofs.Ythoppcefadopeaa.DW
set_option linter.unusedVariables false
set_option linter.unusedSimpArgs false
open Go Go.RowKit Go.Proofs.YthoppcefadopeaaW.PrintWords Go.Deep Go.ChangeShapes Go.WideShapes
structure Dd where
  kind : Int
  id : Int
  inc : Int
  who : Int
  now : Int
  hold : Int
  near : Bool
instance : Inhabited Dd := ⟨⟨0, 0, 0, 0, 0, 0, false⟩⟩
/-- A deed in memory: seven cells. -/
abbrev deedK : Kd Dd := Kd.iso (Kd.pair (Kd.int .u8) (Kd.pair (Kd.int .i64) (Kd.pair (Kd.int .u32) (Kd.pair (Kd.int .i64) (Kd.pair (Kd.int .u64) (Kd.pair (Kd.int .u64) Kd.bool)))))) (fun d : Dd => (d.kind, d.id, d.inc, d.who, d.now, d.hold, d.near))
def ddCells (d : Dd) : List Value := [.int .u8 d.kind, .int .i64 d.id, .int .u32 d.inc, .int .i64 d.who, .int .u64 d.now, .int .u64 d.hold, .bool d.near]
theorem deedK_mk (w : World) (d : Dd) : deedK.K w d (ddCells d) :=
  ⟨[_], _, rfl, rfl, ⟨[_], _, rfl, rfl, ⟨[_], _, rfl, rfl, ⟨[_], _, rfl, rfl, ⟨[_], _, rfl, rfl, ⟨[_], _, rfl, rfl, rfl⟩⟩⟩⟩⟩⟩
theorem deedK_open {w : World} {d : Dd} {cs : List Value} (h : deedK.K w d cs) : cs = ddCells d := by
  obtain ⟨_, _, rfl, rfl, ⟨_, _, rfl, rfl, ⟨_, _, rfl, rfl, ⟨_, _, rfl, rfl, ⟨_, _, rfl, rfl, ⟨_, _, rfl, rfl, rfl⟩⟩⟩⟩⟩⟩ := h
  rfl
/-- What its numbers may be. -/
def ddOk (d : Dd) : Prop := (0 ≤ d.kind ∧ d.kind < 256) ∧ (-9223372036854775808 ≤ d.id ∧ d.id ≤ 9223372036854775807) ∧ (0 ≤ d.inc ∧ d.inc < 4294967296) ∧ (-9223372036854775808 ≤ d.who ∧ d.who ≤ 9223372036854775807) ∧ (0 ≤ d.now ∧ d.now ≤ 18446744073709551615) ∧ (0 ≤ d.hold ∧ d.hold ≤ 18446744073709551615)
section
variable {H : Type} {enc : TypeId × Value → H} {P : Program} {W : World} {base fuel n : Nat} {spare : Nat → Bool} {held : Bool} {cs : List Value} {x : DataW H × List MemPlace}
theorem fld {fs : Array Field} {xs : List (DataW H × List MemPlace)} (hf : ∀ (i : Nat) (f : Field), fs[i]? = some f → DataW.trod enc P W base spare held n f.type ((cs.drop f.offset).take (P.cellsOf f.type)) = xs[i]?) (i : Nat) (f : Field) (hi : fs[i]? = some f) {t o c : Nat} {ys : List Value} {y : DataW H × List MemPlace} (ht : f.type = t) (ho : f.offset = o) (hc : P.cellsOf t = c) (hy : (cs.drop o).take c = ys) (hx : xs[i]? = some y) :
    DataW.trod enc P W base spare held n t ys = some y := by
  subst ht ho hc hy
  rw [hf i f hi, hx]
set_option maxRecDepth 100000 in
theorem open_deed (h : DataW.trod enc Try.prog W base spare held fuel 33 cs = some x) : ∃ d : Dd, cs = ddCells d ∧ ddOk d := by
  obtain ⟨xs, k, hk, hxy, hl, hxl, hf⟩ := DataW.trod_struct Try.underlying33 h
  have hl2 : cs.length = 7 := by rw [hl]; kernel_rfl
  match xs, hxl, cs, hl2 with
  | [y0, y1, y2, y3, y4, y5, y6], _, [v0, v1, v2, v3, v4, v5, v6], _ =>
    obtain ⟨a0, h0, _, w0⟩ := DataW.trod_int Try.underlying5 (fld hf 0 _ rfl rfl rfl (by kernel_rfl : Try.prog.cellsOf 5 = 1) rfl rfl)
    obtain ⟨a1, h1, _, w1⟩ := DataW.trod_int Try.underlying3 (fld hf 1 _ rfl rfl rfl (by kernel_rfl : Try.prog.cellsOf 3 = 1) rfl rfl)
    obtain ⟨a2, h2, _, w2⟩ := DataW.trod_int Try.underlying30 (fld hf 2 _ rfl rfl rfl (by kernel_rfl : Try.prog.cellsOf 30 = 1) rfl rfl)
    obtain ⟨a3, h3, _, w3⟩ := DataW.trod_int Try.underlying3 (fld hf 3 _ rfl rfl rfl (by kernel_rfl : Try.prog.cellsOf 3 = 1) rfl rfl)
    obtain ⟨a4, h4, _, w4⟩ := DataW.trod_int Try.underlying31 (fld hf 4 _ rfl rfl rfl (by kernel_rfl : Try.prog.cellsOf 31 = 1) rfl rfl)
    obtain ⟨a5, h5, _, w5⟩ := DataW.trod_int Try.underlying31 (fld hf 5 _ rfl rfl rfl (by kernel_rfl : Try.prog.cellsOf 31 = 1) rfl rfl)
    obtain ⟨b, h6, _⟩ := DataW.trod_bool Try.underlying4 (fld hf 6 _ rfl rfl rfl (by kernel_rfl : Try.prog.cellsOf 4 = 1) rfl rfl)
    simp at h0 h1 h2 h3 h4 h5 h6
    subst h0 h1 h2 h3 h4 h5 h6
    simp [Lit.wf, IntKind.min, IntKind.max, IntKind.signed, IntKind.bits] at w0 w1 w2 w3 w4 w5
    exact ⟨⟨a0, a1, a2, a3, a4, a5, b⟩, rfl, by show 0 ≤ a0 ∧ a0 < 256; omega, by show _ ≤ a1 ∧ a1 ≤ _; omega, by show 0 ≤ a2 ∧ a2 < 4294967296; omega, by show _ ≤ a3 ∧ a3 ≤ _; omega, by show 0 ≤ a4 ∧ a4 ≤ _; omega, by show 0 ≤ a5 ∧ a5 ≤ _; omega⟩
set_option maxRecDepth 100000 in
theorem open_deeds {a : Option Addr} {len cap : Nat} {d : DataW H} {ps : List MemPlace}
    (h : DataW.Trod enc Try.prog W base spare held 22 (.slice a len cap) d ps) :
    ∃ l : List Dd, len = l.length ∧ deedK.C W a l.length l ∧ l.length ≤ cap ∧ ∀ d ∈ l, ddOk d := by
  obtain ⟨fuel, hfu⟩ := h
  have ce : Try.prog.cellsOf 33 = 7 := by kernel_rfl
  rcases open_slice Try.underlying22 hfu with ⟨hcs, hx⟩ | ⟨ad, l, c, m, n, D, Pl, hcs, hb, hl, hm, hmm, hx, hc⟩
  · simp [Value.cells] at hcs
    obtain ⟨rfl, rfl, rfl⟩ := hcs
    exact ⟨[], rfl, ⟨rfl, by simp, fun hn => absurd hn (by simp)⟩, by simp, by simp⟩
  · simp [Value.cells] at hcs
    obtain ⟨rfl, rfl, rfl⟩ := hcs
    have hlm : len ≤ m := by rw [hmm]; split <;> omega
    have each : ∀ i, i < len → ∃ q : Dd, (∃ cs : List Value, cs.length = 7 ∧ deedK.K W q cs ∧ ∀ j u, cs[j]? = some u → W.cell? (ad.add (i * 7 + j)) = some u) ∧ ddOk q := by
      intro i hi
      obtain ⟨cs', h1, h2⟩ := hc i (by omega)
      rw [ce] at h1
      obtain ⟨_, hlen, hcell⟩ := World.cells?_some h1
      obtain ⟨q, rfl, hq⟩ := open_deed h2
      refine ⟨q, ⟨ddCells q, rfl, deedK_mk _ _, fun j u hu => ?_⟩, hq⟩
      have hj : j < 7 := (List.getElem?_eq_some_iff.1 hu).1
      have := hcell j hj
      rw [Deep.add_add] at this
      exact this.trans hu
    obtain ⟨q, hq⟩ := choose_lt each
    have hlen : ((List.range len).map q).length = len := by simp
    refine ⟨(List.range len).map q, hlen.symm, ⟨rfl, ?_, fun hn => ⟨ad, rfl, fun j p hjp => ?_⟩⟩, ?_, ?_⟩
    · rw [hlen]
      unfold maxLen at hm
      omega
    · rw [List.getElem?_map] at hjp
      by_cases hjl : j < len
      · rw [List.getElem?_range hjl] at hjp
        obtain rfl : q j = p := by simpa using hjp
        exact (hq j hjl).1
      · rw [List.getElem?_eq_none (by simp; omega)] at hjp
        cases hjp
    · rw [hlen]; exact hl
    · intro d hd
      obtain ⟨j, hj, rfl⟩ := List.mem_map.1 hd
      exact (hq j (List.mem_range.1 hj)).2
end
/-- A deed read: its seven cells. -/
theorem deed_at {w : World} {A : Option Addr} {ds : List Dd} (h : deedK.C w A ds.length ds) (i : Nat) (d : Dd) (hd : ds[i]? = some d) :
    ∃ ad : Addr, A = some ad ∧ w.cell? (ad.add (i * 7)) = some (.int .u8 d.kind) ∧ (∀ j u, 0 < j → (ddCells d)[j]? = some u → w.cell? ⟨(ad.add (i * 7)).block, (ad.add (i * 7)).off + j, none⟩ = some u) := by
  obtain ⟨h0, h1, h2⟩ := h
  have hi : i < ds.length := (List.getElem?_eq_some_iff.1 hd).1
  obtain ⟨ad, rfl, hc⟩ := h2 (by omega)
  obtain ⟨c, hl, hk, hcell⟩ := hc i d hd
  rw [deedK_open hk] at hcell
  exact ⟨ad, rfl, hcell 0 _ rfl, fun j u hj hu => by rw [add_f _ _ _ (by omega)]; exact hcell j u hu⟩
end Go.Proofs.Ythoppcefadopeaa.DW
