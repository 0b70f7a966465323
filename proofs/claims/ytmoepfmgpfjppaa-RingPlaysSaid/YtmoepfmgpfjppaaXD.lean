/- A slice of deeds (a bool, a list of bytes, a number), opened: what the row of RingPlays needs. No condition but those that each theorem names. -/
import Derived.Test.YtmoepfmgpfjppaaLX
import Derived.Deep.Slices
import Derived.ChangeArms
namespace Go.Proofs.Ytmoepfmgpfjppaa.XD
set_option linter.unusedVariables false
open Go Go.RowKit Go.Proofs.YtmoepfmgpfjppaaW.PrintWords Go.Deep Go.ChangeShapes Go.WideShapes

abbrev Dd := Bool × List Int × Int
/-- A deed in memory: three cells. -/
abbrev deedK : Kd Dd := Kd.pair Kd.bool (Kd.pair (Kd.slice 5 (Kd.int .u8)) (Kd.int .i64))

theorem ints_C {H : Type} {enc : TypeId × Value → H} {P : Program} {W : World} {base fuel : Nat} {spare : Nat → Bool} {held : Bool} {t e : TypeId} {k : IntKind} {cs : List Value} {x : DataW H × List MemPlace}
    (ht : P.underlying t = some (.slice e)) (he : P.underlying e = some (.int k)) (hc : P.cellsOf e = 1) (h : DataW.trod enc P W base spare held fuel t cs = some x) :
    ∃ (A : Option Addr) (l : List Int) (c : Nat), cs = [.slice A l.length c] ∧ l.length ≤ c ∧ (Kd.int k).C W A l.length l := by
  rcases open_ints ht he hc h with ⟨rfl, _⟩ | ⟨a, len, cap, zs, rfl, _, hl, hm, hz, _, hcell, _⟩
  · exact ⟨none, [], 0, rfl, Nat.le_refl _, rfl, by simp, fun hn => absurd hn (by simp)⟩
  · have hlz : len ≤ zs.length := by rw [hz]; split <;> omega
    have hlen : (zs.take len).length = len := by rw [List.length_take]; omega
    refine ⟨some a, zs.take len, cap, by rw [hlen], by rw [hlen]; exact hl, rfl, ?_, fun _ => ⟨a, rfl, fun j p hj => ?_⟩⟩
    · rw [hlen]
      unfold maxLen at hm
      omega
    · have hjl : j < len := by
        have := (List.getElem?_eq_some_iff.1 hj).1
        rw [hlen] at this
        exact this
      rw [List.getElem?_take_of_lt hjl] at hj
      have hp : zs.getD j 0 = p := by rw [List.getD_eq_getElem?_getD, hj]; rfl
      refine ⟨[.int k p], rfl, rfl, fun i u hu => ?_⟩
      match i, hu with
      | 0, hu =>
        obtain rfl : .int k p = u := by simpa using hu
        have := hcell j (by omega)
        rw [hp] at this
        show W.cell? (a.add (j * 1 + 0)) = _
        rw [Nat.mul_one]
        exact this
      | i + 1, hu => simp at hu

theorem open_deeds {H : Type} {enc : TypeId × Value → H} {P : Program} {W : World} {base : Nat} {spare : Nat → Bool} {held : Bool} {t e e1 : TypeId} {f0 f1 f2 : Field} {a : Option Addr} {len cap : Nat} {d : DataW H} {ps : List MemPlace}
    (ht : P.underlying t = some (.slice e)) (he : P.underlying e = some (.struct #[f0, f1, f2])) (ce : P.cellsOf e = 3) (o0 : f0.offset = 0) (o1 : f1.offset = 1) (o2 : f2.offset = 2) (c0 : P.cellsOf f0.type = 1) (c1 : P.cellsOf f1.type = 1) (c2 : P.cellsOf f2.type = 1)
    (u0 : P.underlying f0.type = some .bool) (u1 : P.underlying f1.type = some (.slice e1)) (ue : P.underlying e1 = some (.int .u8)) (ce1 : P.cellsOf e1 = 1) (u2 : P.underlying f2.type = some (.int .i64))
    (h : DataW.Trod enc P W base spare held t (.slice a len cap) d ps) :
    ∃ l : List Dd, len = l.length ∧ deedK.C W a l.length l ∧ l.length ≤ cap := by
  obtain ⟨fuel, hfu⟩ := h
  rcases open_slice ht hfu with ⟨hcs, hx⟩ | ⟨ad, l, c, m, n, D, Pl, hcs, hb, hl, hm, hmm, hx, hc⟩
  · simp [Value.cells] at hcs
    obtain ⟨rfl, rfl, rfl⟩ := hcs
    exact ⟨[], rfl, ⟨rfl, by simp, fun hn => absurd hn (by simp)⟩, by simp⟩
  · simp [Value.cells] at hcs
    obtain ⟨rfl, rfl, rfl⟩ := hcs
    have hlm : len ≤ m := by rw [hmm]; split <;> omega
    have each : ∀ i, i < len → ∃ q : Dd, ∃ cs : List Value, cs.length = 3 ∧ deedK.K W q cs ∧ ∀ j u, cs[j]? = some u → W.cell? (ad.add (i * 3 + j)) = some u := by
      intro i hi
      obtain ⟨cs', h1, h2⟩ := hc i (by omega)
      rw [ce] at h1
      obtain ⟨_, hlen, hcell⟩ := World.cells?_some h1
      obtain ⟨xs, k, hk, hxy, _, hxl, hf⟩ := DataW.trod_struct he h2
      match xs, hxl, cs', hlen with
      | [y0, y1, y2], _, [v0, v1, v2], _ =>
        have g0 := hf 0 f0 rfl
        have g1 := hf 1 f1 rfl
        have g2 := hf 2 f2 rfl
        simp [o0, o1, o2, c0, c1, c2] at g0 g1 g2
        obtain ⟨b, hb0, _⟩ := DataW.trod_bool u0 g0
        obtain ⟨A, l, c, hs0, hs1, hs2⟩ := ints_C u1 ue ce1 g1
        obtain ⟨z, hz0, _⟩ := DataW.trod_int u2 g2
        obtain rfl : v0 = .bool b := by simpa using hb0
        obtain rfl : v1 = .slice A l.length c := by simpa using hs0
        obtain rfl : v2 = .int .i64 z := by simpa using hz0
        refine ⟨(b, l, z), [.bool b, .slice A l.length c, .int .i64 z], rfl, ⟨[.bool b], [.slice A l.length c, .int .i64 z], rfl, rfl, [.slice A l.length c], [.int .i64 z], rfl, ⟨A, c, rfl, hs1, hs2⟩, rfl⟩, fun j u hu => ?_⟩
        have hj : j < 3 := (List.getElem?_eq_some_iff.1 hu).1
        have := hcell j hj
        rw [Deep.add_add] at this
        exact this.trans hu
    obtain ⟨q, hq⟩ := choose_lt each
    have hlen : ((List.range len).map q).length = len := by simp
    refine ⟨(List.range len).map q, hlen.symm, ⟨rfl, ?_, fun hn => ⟨ad, rfl, fun j p hjp => ?_⟩⟩, ?_⟩
    · rw [hlen]
      unfold maxLen at hm
      omega
    · rw [List.getElem?_map] at hjp
      by_cases hjl : j < len
      · rw [List.getElem?_range hjl] at hjp
        obtain rfl : q j = p := by simpa using hjp
        exact hq j hjl
      · rw [List.getElem?_eq_none (by simp; omega)] at hjp
        cases hjp
    · rw [hlen]; exact hl

/-- A deed read: its three cells, and its list. -/
theorem deed_at {w : World} {A : Option Addr} {n : Nat} {ds : List Dd} (h : deedK.C w A n ds) (i : Nat) (d : Dd) (hd : ds[i]? = some d) :
    ∃ (ad : Addr) (A1 : Option Addr) (c1 : Nat), A = some ad ∧ d.2.1.length ≤ c1 ∧ (Kd.int .u8).C w A1 d.2.1.length d.2.1 ∧
      w.cell? (ad.add (i * 3)) = some (.bool d.1) ∧ w.cell? (ad.add (i * 3 + 1)) = some (.slice A1 d.2.1.length c1) ∧ w.cell? (ad.add (i * 3 + 2)) = some (.int .i64 d.2.2) := by
  obtain ⟨h0, h1, h2⟩ := h
  have hi : i < ds.length := (List.getElem?_eq_some_iff.1 hd).1
  obtain ⟨ad, rfl, hc⟩ := h2 (by omega)
  obtain ⟨c, hl, hk, hcell⟩ := hc i d hd
  obtain ⟨a0, a1, rfl, k0, b0, b1, rfl, ⟨A1, c1, rfl, k1, k2⟩, k3⟩ := hk
  obtain rfl : a0 = [.bool d.1] := k0
  obtain rfl : b1 = [.int .i64 d.2.2] := k3
  exact ⟨ad, A1, c1, rfl, k1, k2, hcell 0 _ rfl, hcell 1 _ rfl, hcell 2 _ rfl⟩
end Go.Proofs.Ytmoepfmgpfjppaa.XD
