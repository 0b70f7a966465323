/- Lemmas of this seat's own for the rows of laws whose parameters are slices of structs: such a slice, opened. -/
import Derived.Test.YtanjoflhpnephaaWWords
import Derived.Deep.SlicePairs
import Derived.SizedLaws
import Derived.ChangeArms
namespace Go.Proofs.YtanjoflhpnephaaX
open Go Go.RowKit Go.Proofs.YtanjoflhpnephaaW.PrintWords Go.Deep Go.ChangeShapes Go.WideShapes

theorem C_iso {α β : Type} {d : Kd α} {f : β → α} {w : World} {A : Option Addr} {n : Nat} {xs : List β} (h : d.C w A n (xs.map f)) : (Kd.iso d f).C w A n xs := by
  refine ⟨by simpa using h.1, h.2.1, fun hn => ?_⟩
  obtain ⟨ad, e, hc⟩ := h.2.2 hn
  exact ⟨ad, e, fun j p hj => hc j (f p) (by rw [List.getElem?_map, hj]; rfl)⟩

/-- A slice of structs of two whole numbers, opened: what it reads as, and how long it may be. -/
theorem open_pairs {H : Type} {enc : TypeId × Value → H} {P : Program} {W : World} {base : Nat} {spare : Nat → Bool} {held : Bool} {t e : TypeId} {f0 f1 : Field} {k0 k1 : IntKind} {a : Option Addr} {len cap : Nat} {d : DataW H} {ps : List MemPlace} {ts : List TypeId} {ds : List (DataW H)} {j B : Nat} {β : Type} {mk : Int → Int → β} {f : β → Int × Int} (hf : ∀ x y, f (mk x y) = (x, y))
    (hsz : (DataW.weightsEach P ts ds).all (· ≤ reachBytes) = true) (hj : ts[j]? = some t) (hd : ds[j]? = some d)
    (ht : P.underlying t = some (.slice e)) (he : P.underlying e = some (.struct #[f0, f1])) (ce : P.cellsOf e = 2) (o0 : f0.offset = 0) (o1 : f1.offset = 1) (c0 : P.cellsOf f0.type = 1) (c1 : P.cellsOf f1.type = 1)
    (u0 : P.underlying f0.type = some (.int k0)) (u1 : P.underlying f1.type = some (.int k1)) (hB : P.bytesOf e = B)
    (h : DataW.Trod enc P W base spare held t (.slice a len cap) d ps) :
    ∃ l : List β, len = l.length ∧ (Kd.iso (Kd.pair (Kd.int k0) (Kd.int k1)) f).C W a l.length l ∧ l.length ≤ maxLen ∧ (∀ x ∈ l, (Lit.int k0 (f x).1).wf = true ∧ (Lit.int k1 (f x).2).wf = true) ∧ l.length ≤ cap ∧ l.length * B ≤ 140737488351232 := by
  obtain ⟨fuel, hfu⟩ := h
  rcases open_slice_pairs ht he ce o0 o1 c0 c1 hfu with ⟨hcs, hx⟩ | ⟨ad, l, c, m, n, V0, V1, D0, D1, P0, P1, hcs, hb, hl, hm, hmm, hx, hc⟩
  · simp [Value.cells] at hcs
    obtain ⟨rfl, rfl, rfl⟩ := hcs
    exact ⟨[], rfl, ⟨rfl, by simp, fun hn => absurd hn (by simp)⟩, by simp, by simp, by simp, by simp⟩
  · simp [Value.cells] at hcs
    obtain ⟨rfl, rfl, rfl⟩ := hcs
    have hlm : len ≤ m := by rw [hmm]; split <;> omega
    have each : ∀ i, i < len → ∃ q : Int × Int, V0 i = .int k0 q.1 ∧ V1 i = .int k1 q.2 ∧ (Lit.int k0 q.1).wf = true ∧ (Lit.int k1 q.2).wf = true := by
      intro i hi
      obtain ⟨_, _, g0, g1⟩ := hc i (by omega)
      obtain ⟨x, hx0, _, hw0⟩ := DataW.trod_int u0 g0
      obtain ⟨y, hy0, _, hw1⟩ := DataW.trod_int u1 g1
      exact ⟨(x, y), by simpa using hx0, by simpa using hy0, hw0, hw1⟩
    obtain ⟨q, hq⟩ := choose_lt each
    let g : Nat → β := fun i => mk (q i).1 (q i).2
    have hg : ∀ i, f (g i) = q i := fun i => hf _ _
    have hin : ∀ j p, ((List.range len).map g)[j]? = some p → j < len ∧ p = g j := by
      intro j p hjp
      rw [List.getElem?_map] at hjp
      by_cases hjl : j < len
      · rw [List.getElem?_range hjl] at hjp
        exact ⟨hjl, by simpa using hjp.symm⟩
      · rw [List.getElem?_eq_none (by simp; omega)] at hjp
        cases hjp
    have hlen : ((List.range len).map g).length = len := by simp
    refine ⟨(List.range len).map g, hlen.symm, ⟨rfl, ?_, fun hn => ⟨ad, rfl, fun j p hjp => ?_⟩⟩, ?_, ?_, ?_, ?_⟩
    · rw [hlen]
      unfold maxLen at hm
      omega
    · obtain ⟨hjl, rfl⟩ := hin j p hjp
      obtain ⟨e0, e1, w0, w1⟩ := hq j hjl
      obtain ⟨d0, d1, _, _⟩ := hc j (by omega)
      refine ⟨[.int k0 (q j).1, .int k1 (q j).2], rfl, ⟨[.int k0 (q j).1], [.int k1 (q j).2], rfl, by rw [hg]; rfl, by rw [hg]; rfl⟩, fun i u hu => ?_⟩
      match i, hu with
      | 0, hu =>
        obtain rfl : .int k0 (q j).1 = u := by simpa using hu
        rw [e0] at d0
        exact d0
      | 1, hu =>
        obtain rfl : .int k1 (q j).2 = u := by simpa using hu
        rw [e1] at d1
        exact d1
      | i + 2, hu => simp at hu
    · rw [hlen]; omega
    · intro x hx
      obtain ⟨i, hi, rfl⟩ := List.mem_map.1 hx
      rw [hg]
      exact ⟨(hq i (List.mem_range.1 hi)).2.2.1, (hq i (List.mem_range.1 hi)).2.2.2⟩
    · rw [hlen]; exact hl
    · rw [hlen]
      obtain ⟨hx, _⟩ := Prod.mk.inj hx
      subst hx
      have z := sized_slice hsz hj hd ht
      rw [hB] at z
      refine Nat.le_trans (Nat.mul_le_mul_right _ ?_) (show _ ≤ 140737488351232 from z)
      simp
theorem sized_in {H : Type} {P : Program} {ts : List TypeId} {ds : List (DataW H)} {j : Nat} {t : TypeId} {parts : List (DataW H)} {fs : Array Field} (hsz : (DataW.weightsEach P ts ds).all (· ≤ reachBytes) = true) (hj : ts[j]? = some t) (hd : ds[j]? = some (.agg parts)) (hu : P.underlying t = some (.struct fs)) :
    (DataW.weightsEach P (fs.toList.map (·.type)) parts).all (· ≤ reachBytes) = true :=
  List.all_eq_true.2 fun n hn => List.all_eq_true.1 hsz n (DataW.weights_mem_each hj hd n (by
    unfold DataW.weights
    rw [hu]
    exact hn))

/-- A slice of structs of two scalars, opened: what it reads as, and how long it may be. -/
theorem open_pairs_of {H : Type} {enc : TypeId × Value → H} {P : Program} {W : World} {base : Nat} {spare : Nat → Bool} {held : Bool} {t e : TypeId} {f0 f1 : Field} {a : Option Addr} {len cap : Nat} {d : DataW H} {ps : List MemPlace} {ts : List TypeId} {ds : List (DataW H)} {j B : Nat} {α0 α1 β : Type} [Inhabited α0] [Inhabited α1] {mk : α0 → α1 → β} {f : β → α0 × α1} (hf : ∀ x y, f (mk x y) = (x, y))
    (e0 : α0 → Value) (e1 : α1 → Value) (s0 : ∀ x, (e0 x).oneCell' = true) (s1 : ∀ x, (e1 x).oneCell' = true) (Q0 : α0 → Prop) (Q1 : α1 → Prop)
    (hsz : (DataW.weightsEach P ts ds).all (· ≤ reachBytes) = true) (hj : ts[j]? = some t) (hd : ds[j]? = some d)
    (ht : P.underlying t = some (.slice e)) (he : P.underlying e = some (.struct #[f0, f1])) (ce : P.cellsOf e = 2) (o0 : f0.offset = 0) (o1 : f1.offset = 1) (c0 : P.cellsOf f0.type = 1) (c1 : P.cellsOf f1.type = 1)
    (l0 : ∀ fuel cs (x : DataW H × List MemPlace), DataW.trod enc P W base spare held fuel f0.type cs = some x → ∃ n, cs = [e0 n] ∧ Q0 n) (l1 : ∀ fuel cs (x : DataW H × List MemPlace), DataW.trod enc P W base spare held fuel f1.type cs = some x → ∃ n, cs = [e1 n] ∧ Q1 n) (hB : P.bytesOf e = B)
    (h : DataW.Trod enc P W base spare held t (.slice a len cap) d ps) :
    ∃ l : List β, len = l.length ∧ (Kd.iso (Kd.pair (Kd.scalar e0 s0) (Kd.scalar e1 s1)) f).C W a l.length l ∧ l.length ≤ maxLen ∧ (∀ x ∈ l, Q0 (f x).1 ∧ Q1 (f x).2) ∧ l.length ≤ cap ∧ l.length * B ≤ 140737488351232 := by
  obtain ⟨fuel, hfu⟩ := h
  rcases open_slice_pairs ht he ce o0 o1 c0 c1 hfu with ⟨hcs, hx⟩ | ⟨ad, l, c, m, n, V0, V1, D0, D1, P0, P1, hcs, hb, hl, hm, hmm, hx, hc⟩
  · simp [Value.cells] at hcs
    obtain ⟨rfl, rfl, rfl⟩ := hcs
    exact ⟨[], rfl, ⟨rfl, by simp, fun hn => absurd hn (by simp)⟩, by simp, by simp, by simp, by simp⟩
  · simp [Value.cells] at hcs
    obtain ⟨rfl, rfl, rfl⟩ := hcs
    have hlm : len ≤ m := by rw [hmm]; split <;> omega
    have each : ∀ i, i < len → ∃ q : α0 × α1, V0 i = e0 q.1 ∧ V1 i = e1 q.2 ∧ Q0 q.1 ∧ Q1 q.2 := by
      intro i hi
      obtain ⟨_, _, g0, g1⟩ := hc i (by omega)
      obtain ⟨x, hx0, hw0⟩ := l0 _ _ _ g0
      obtain ⟨y, hy0, hw1⟩ := l1 _ _ _ g1
      exact ⟨(x, y), by simpa using hx0, by simpa using hy0, hw0, hw1⟩
    obtain ⟨q, hq⟩ := choose_lt each
    let g : Nat → β := fun i => mk (q i).1 (q i).2
    have hg : ∀ i, f (g i) = q i := fun i => hf _ _
    have hin : ∀ j p, ((List.range len).map g)[j]? = some p → j < len ∧ p = g j := by
      intro j p hjp
      rw [List.getElem?_map] at hjp
      by_cases hjl : j < len
      · rw [List.getElem?_range hjl] at hjp
        exact ⟨hjl, by simpa using hjp.symm⟩
      · rw [List.getElem?_eq_none (by simp; omega)] at hjp
        cases hjp
    have hlen : ((List.range len).map g).length = len := by simp
    refine ⟨(List.range len).map g, hlen.symm, ⟨rfl, ?_, fun hn => ⟨ad, rfl, fun j p hjp => ?_⟩⟩, ?_, ?_, ?_, ?_⟩
    · rw [hlen]
      unfold maxLen at hm
      omega
    · obtain ⟨hjl, rfl⟩ := hin j p hjp
      obtain ⟨E0, E1, w0, w1⟩ := hq j hjl
      obtain ⟨d0, d1, _, _⟩ := hc j (by omega)
      refine ⟨[e0 (q j).1, e1 (q j).2], rfl, ⟨[e0 (q j).1], [e1 (q j).2], rfl, by rw [hg]; rfl, by rw [hg]; rfl⟩, fun i u hu => ?_⟩
      match i, hu with
      | 0, hu =>
        obtain rfl : e0 (q j).1 = u := by simpa using hu
        rw [E0] at d0
        exact d0
      | 1, hu =>
        obtain rfl : e1 (q j).2 = u := by simpa using hu
        rw [E1] at d1
        exact d1
      | i + 2, hu => simp at hu
    · rw [hlen]; omega
    · intro x hx
      obtain ⟨i, hi, rfl⟩ := List.mem_map.1 hx
      rw [hg]
      exact ⟨(hq i (List.mem_range.1 hi)).2.2.1, (hq i (List.mem_range.1 hi)).2.2.2⟩
    · rw [hlen]; exact hl
    · rw [hlen]
      obtain ⟨hx, _⟩ := Prod.mk.inj hx
      subst hx
      have z := sized_slice hsz hj hd ht
      rw [hB] at z
      refine Nat.le_trans (Nat.mul_le_mul_right _ ?_) (show _ ≤ 140737488351232 from z)
      simp
end Go.Proofs.YtanjoflhpnephaaX
