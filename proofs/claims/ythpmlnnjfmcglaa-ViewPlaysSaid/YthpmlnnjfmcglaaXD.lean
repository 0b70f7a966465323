/- A slice of things (a record, whether it is as it is), opened: what the rows of the laws over things need; thing. No condition but those that each theorem names. -/
import Derived.Test.YthpmlnnjfmcglaaQR
import Derived.Test.YthpmlnnjfmcglaaVX
import Derived.Deep.Slices
import Derived.ChangeArms
namespace Go.Proofs.Ythpmlnnjfmcglaa.VW
set_option linter.unusedVariables false
open Go Go.RowKit Go.Proofs.Ythpmlnnjfmcglaa.PA Go.Proofs.YthpmlnnjfmcglaaW.PrintWords Go.Deep Go.ChangeShapes Go.WideShapes

instance : Inhabited Th := ⟨⟨Rec.zero, false⟩⟩
/-- A thing in memory: six cells. -/
abbrev thK : Kd Th := Kd.iso (Kd.pair recK Kd.bool) (fun d : Th => (d.r, d.own))
def Th.cells (d : Th) : List Value := [.int .i64 d.r.id, .int .i64 d.r.st, .int .u32 d.r.inc, .int .u32 d.r.ip, .int .u16 d.r.po, .bool d.own]
theorem recK_mk (w : World) (x : Rec) : recK.K w x x.cells := ⟨[_], _, rfl, rfl, ⟨[_], _, rfl, rfl, ⟨[_], _, rfl, rfl, ⟨[_], _, rfl, rfl, rfl⟩⟩⟩⟩
theorem thK_mk (w : World) (d : Th) : thK.K w d d.cells := ⟨d.r.cells, _, rfl, recK_mk w d.r, rfl⟩
theorem thK_open {w : World} {d : Th} {cs : List Value} (h : thK.K w d cs) : cs = d.cells := by
  obtain ⟨_, _, rfl, hk, rfl⟩ := h
  rw [recK_open hk]
  rfl
section
variable {H : Type} {enc : TypeId × Value → H} {P : Program} {W : World} {base fuel n : Nat} {spare : Nat → Bool} {held : Bool} {cs : List Value} {x : DataW H × List MemPlace}
theorem fld {fs : Array Field} {xs : List (DataW H × List MemPlace)} (hf : ∀ (i : Nat) (f : Field), fs[i]? = some f → DataW.trod enc P W base spare held n f.type ((cs.drop f.offset).take (P.cellsOf f.type)) = xs[i]?) (i : Nat) (f : Field) (hi : fs[i]? = some f) {t o c : Nat} {ys : List Value} {y : DataW H × List MemPlace} (ht : f.type = t) (ho : f.offset = o) (hc : P.cellsOf t = c) (hy : (cs.drop o).take c = ys) (hx : xs[i]? = some y) :
    DataW.trod enc P W base spare held n t ys = some y := by
  subst ht ho hc hy
  rw [hf i f hi, hx]
set_option maxRecDepth 100000 in
theorem open_addr (h : DataW.trod enc Try.prog W base spare held fuel 29 cs = some x) : ∃ i p : Int, cs = [.int .u32 i, .int .u16 p] ∧ u32Ok i := by
  obtain ⟨xs, k, hk, hxy, hl, hxl, hf⟩ := DataW.trod_struct Try.underlying29 h
  have hl2 : cs.length = 2 := by rw [hl]; kernel_rfl
  match xs, hxl, cs, hl2 with
  | [y0, y1], _, [v0, v1], _ =>
    obtain ⟨i, h0, _, w0⟩ := DataW.trod_int Try.underlying26 (fld hf 0 _ rfl rfl rfl (by kernel_rfl : Try.prog.cellsOf 26 = 1) rfl rfl)
    obtain ⟨p, h1, _⟩ := DataW.trod_int Try.underlying27 (fld hf 1 _ rfl rfl rfl (by kernel_rfl : Try.prog.cellsOf 27 = 1) rfl rfl)
    obtain rfl : v0 = .int .u32 i := by simpa using h0
    obtain rfl : v1 = .int .u16 p := by simpa using h1
    simp [Lit.wf, IntKind.min, IntKind.max, IntKind.signed, IntKind.bits] at w0
    exact ⟨i, p, rfl, by show 0 ≤ i; omega, by show i < _; omega⟩
set_option maxRecDepth 100000 in
theorem open_rec (h : DataW.trod enc Try.prog W base spare held fuel 31 cs = some x) : ∃ y : Rec, cs = y.cells ∧ recOk y := by
  obtain ⟨xs, k, hk, hxy, hl, hxl, hf⟩ := DataW.trod_struct Try.underlying31 h
  have hl2 : cs.length = 5 := by rw [hl]; kernel_rfl
  match xs, hxl, cs, hl2 with
  | [y0, y1, y2, y3], _, [v0, v1, v2, v3, v4], _ =>
    obtain ⟨a, h0, _⟩ := DataW.trod_int Try.underlying3 (fld hf 0 _ rfl rfl rfl (by kernel_rfl : Try.prog.cellsOf 3 = 1) rfl rfl)
    obtain ⟨b, h1, _⟩ := DataW.trod_int Try.underlying3 (fld hf 1 _ rfl rfl rfl (by kernel_rfl : Try.prog.cellsOf 3 = 1) rfl rfl)
    obtain ⟨c, h2, _, w2⟩ := DataW.trod_int Try.underlying26 (fld hf 2 _ rfl rfl rfl (by kernel_rfl : Try.prog.cellsOf 26 = 1) rfl rfl)
    obtain ⟨i, p, h3, hi⟩ := open_addr (fld hf 3 _ rfl rfl rfl (by kernel_rfl : Try.prog.cellsOf 29 = 2) rfl rfl)
    simp at h0 h1 h2 h3
    obtain ⟨rfl, rfl⟩ := h3
    subst h0
    subst h1
    subst h2
    simp [Lit.wf, IntKind.min, IntKind.max, IntKind.signed, IntKind.bits] at w2
    exact ⟨⟨a, b, c, i, p⟩, rfl, ⟨by show 0 ≤ c; omega, by show c < _; omega⟩, hi⟩
set_option maxRecDepth 100000 in
theorem open_thing (h : DataW.trod enc Try.prog W base spare held fuel 33 cs = some x) : ∃ d : Th, cs = d.cells ∧ thOk d := by
  obtain ⟨xs, k, hk, hxy, hl, hxl, hf⟩ := DataW.trod_struct Try.underlying33 h
  have hl2 : cs.length = 6 := by rw [hl]; kernel_rfl
  match xs, hxl, cs, hl2 with
  | [y0, y1], _, [v0, v1, v2, v3, v4, v5], _ =>
    obtain ⟨y, h0, hy⟩ := open_rec (fld hf 0 _ rfl rfl rfl (by kernel_rfl : Try.prog.cellsOf 31 = 5) rfl rfl)
    obtain ⟨b, h1, _⟩ := DataW.trod_bool Try.underlying4 (fld hf 1 _ rfl rfl rfl (by kernel_rfl : Try.prog.cellsOf 4 = 1) rfl rfl)
    unfold Rec.cells at h0
    simp at h0 h1
    obtain ⟨rfl, rfl, rfl, rfl, rfl⟩ := h0
    subst h1
    exact ⟨⟨y, b⟩, rfl, hy⟩
set_option maxRecDepth 100000 in
theorem open_things {a : Option Addr} {len cap : Nat} {d : DataW H} {ps : List MemPlace}
    (h : DataW.Trod enc Try.prog W base spare held 22 (.slice a len cap) d ps) :
    ∃ l : List Th, len = l.length ∧ thK.C W a l.length l ∧ l.length ≤ cap ∧ ∀ d ∈ l, thOk d := by
  obtain ⟨fuel, hfu⟩ := h
  have ce : Try.prog.cellsOf 33 = 6 := by kernel_rfl
  rcases open_slice Try.underlying22 hfu with ⟨hcs, hx⟩ | ⟨ad, l, c, m, n, D, Pl, hcs, hb, hl, hm, hmm, hx, hc⟩
  · simp [Value.cells] at hcs
    obtain ⟨rfl, rfl, rfl⟩ := hcs
    exact ⟨[], rfl, ⟨rfl, by simp, fun hn => absurd hn (by simp)⟩, by simp, by simp⟩
  · simp [Value.cells] at hcs
    obtain ⟨rfl, rfl, rfl⟩ := hcs
    have hlm : len ≤ m := by rw [hmm]; split <;> omega
    have each : ∀ i, i < len → ∃ q : Th, (∃ cs : List Value, cs.length = 6 ∧ thK.K W q cs ∧ ∀ j u, cs[j]? = some u → W.cell? (ad.add (i * 6 + j)) = some u) ∧ thOk q := by
      intro i hi
      obtain ⟨cs', h1, h2⟩ := hc i (by omega)
      rw [ce] at h1
      obtain ⟨_, hlen, hcell⟩ := World.cells?_some h1
      obtain ⟨q, rfl, hq⟩ := open_thing h2
      refine ⟨q, ⟨q.cells, rfl, thK_mk _ _, fun j u hu => ?_⟩, hq⟩
      have hj : j < 6 := (List.getElem?_eq_some_iff.1 hu).1
      have := hcell j hj
      rw [Deep.add_add] at this
      exact this.trans hu
    obtain ⟨q, hq⟩ := choose_lt each
    have hlen : ((List.range len).map q).length = len := by simp
    refine ⟨(List.range len).map q, hlen.symm, ⟨rfl, ?_, fun hn => ⟨ad, rfl, fun j p hjp => ?_⟩⟩, ?_, ?_⟩
    · rw [hlen]
      unfold maxLen at hm
      omega
    · rw [List.getElem?_map] at hjp
      by_cases hjl : j < len
      · rw [List.getElem?_range hjl] at hjp
        obtain rfl : q j = p := by simpa using hjp
        exact (hq j hjl).1
      · rw [List.getElem?_eq_none (by simp; omega)] at hjp
        cases hjp
    · rw [hlen]; exact hl
    · intro d hd
      obtain ⟨j, hj, rfl⟩ := List.mem_map.1 hd
      exact (hq j (List.mem_range.1 hj)).2
end
/-- A thing read: its six cells. -/
theorem th_at {w : World} {A : Option Addr} {ds : List Th} (h : thK.C w A ds.length ds) (i : Nat) (d : Th) (hd : ds[i]? = some d) :
    ∃ ad : Addr, A = some ad ∧ w.cell? (ad.add (i * 6)) = some (.int .i64 d.r.id) ∧ (∀ j u, 0 < j → d.cells[j]? = some u → w.cell? ⟨(ad.add (i * 6)).block, (ad.add (i * 6)).off + j, none⟩ = some u) := by
  obtain ⟨h0, h1, h2⟩ := h
  have hi : i < ds.length := (List.getElem?_eq_some_iff.1 hd).1
  obtain ⟨ad, rfl, hc⟩ := h2 (by omega)
  obtain ⟨c, hl, hk, hcell⟩ := hc i d hd
  rw [thK_open hk] at hcell
  exact ⟨ad, rfl, hcell 0 _ rfl, fun j u hj hu => by rw [add_f _ _ _ (by omega)]; exact hcell j u hu⟩
/-- thing, of what its numbers may be. -/
theorem thing_f (t : Th) (h : thOk t) : scuttlebuttlaw11_Thing_thing.f t.r.id t.r.st t.r.inc t.r.ip t.r.po t.own = some ((thE t).id, (thE t).st, (thE t).inc, (thE t).ip, (thE t).po) := by
  obtain ⟨⟨h1, h2⟩, h3, h4⟩ := h
  have e0 : 0 ≤ IntKind.u64.wrap t.r.id := by rw [IntKind.wrap_u64]; omega
  have e5 : 0 ≤ IntKind.u64.wrap t.r.st := by rw [IntKind.wrap_u64]; omega
  have e1 := Int.emod_nonneg (IntKind.u64.wrap t.r.id) (show (6 : Int) ≠ 0 by decide)
  have e2 := Int.emod_lt_of_pos (IntKind.u64.wrap t.r.id) (show (0 : Int) < 6 by decide)
  have e3 := Int.emod_nonneg (IntKind.u64.wrap t.r.st) (show (4 : Int) ≠ 0 by decide)
  have e4 := Int.emod_lt_of_pos (IntKind.u64.wrap t.r.st) (show (0 : Int) < 4 by decide)
  unfold scuttlebuttlaw11_Thing_thing.f thE
  by_cases ho : t.own = true
  · rw [if_pos ho, if_pos ho, Int.tmod_eq_emod_of_nonneg e0, Int.tmod_eq_emod_of_nonneg e5, Int.tmod_eq_emod_of_nonneg h1, Int.tmod_eq_emod_of_nonneg h3]
    have i1 : wrap64 (IntKind.u64.wrap t.r.id % 6) = IntKind.u64.wrap t.r.id % 6 := by unfold wrap64; omega
    have i2 : wrap64 (1 + IntKind.u64.wrap t.r.id % 6) = 1 + IntKind.u64.wrap t.r.id % 6 := by unfold wrap64; omega
    have i3 : wrap64 (IntKind.u64.wrap t.r.st % 4) = IntKind.u64.wrap t.r.st % 4 := by unfold wrap64; omega
    have i4 : (1 + t.r.ip % 3) % 4294967296 = 1 + t.r.ip % 3 := by omega
    rw [i1, i2, i3, i4]
  · rw [if_neg ho, if_neg ho]
end Go.Proofs.Ythpmlnnjfmcglaa.VW
