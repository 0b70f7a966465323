/- Rows of records: a cell set; lists of lists out of a row of slices. Conditions: those that each theorem names. -/
import Derived.Test.YthncipgafdfnfaaDoorXO
namespace Go.Proofs.YthncipgafdfnfaaDoor.JW
set_option linter.unusedVariables false
set_option linter.unusedSimpArgs false
open Go Go.RowKit Go.Proofs.YthncipgafdfnfaaDoorS Go.Proofs.YthncipgafdfnfaaDoorS.Asn Go.Proofs.YthncipgafdfnfaaDoor.PA Go.Proofs.YthncipgafdfnfaaDoorW.PrintWords Go.Proofs.YthncipgafdfnfaaDoorW.PrintLast Go.Proofs.YthncipgafdfnfaaDoorW.PrintMore
theorem recK_Mopen {w : World} {base : Nat} {ok : Nat → Prop} {x : Rec} {cs : List Value} (h : recK.M w base ok x cs) : cs = x.cells := by
  obtain ⟨_, _, rfl, rfl, ⟨_, _, rfl, rfl, ⟨_, _, rfl, rfl, ⟨_, _, rfl, rfl, rfl⟩⟩⟩⟩ := h
  rfl
section
variable {w : World} {ok : Nat → Prop} {g n c : Nat} {xs : List Rec} {cur : Array Value}
theorem recs_pt (h : (row recK 36 (.slice (some ⟨g, 0, none⟩) n c) xs).H w ok) :
    ∃ cur : Array Value, (pt g cur 36).H w ok ∧ n = xs.length ∧ n ≤ c ∧ c ≤ maxLen ∧ cur.size = c * 5 ∧ ∀ (j : Nat) (p : Rec), xs[j]? = some p → (cur.toList.drop (j * 5)).take 5 = p.cells := by
  obtain ⟨hok, inner, ⟨hlen, hform⟩, hr1, hr2⟩ := h
  rcases hform with ⟨he, _⟩ | ⟨g', cap, cur, he, hb, hg, hnc, hcm, hcs, htk⟩
  · cases he
  · cases he
    refine ⟨cur, ⟨hok g rfl, hg⟩, rfl, hnc, hcm, hcs, fun j p hp => ?_⟩
    have hj : j < xs.length := (List.getElem?_eq_some_iff.1 hp).1
    have h1 := recK_Mopen (hr2 j p hp)
    rw [← h1, ← htk, show recK.sz = 5 from rfl, List.drop_take, List.take_take, show min 5 (xs.length * 5 - j * 5) = 5 by omega]
theorem pt_recs (h : (pt g cur 36).H w ok) (hc : cur.size = c * 5) (hcm : c ≤ maxLen) (hn : xs.length ≤ c) (hx : ∀ (j : Nat) (p : Rec), xs[j]? = some p → (cur.toList.drop (j * 5)).take 5 = p.cells) :
    (row recK 36 (.slice (some ⟨g, 0, none⟩) xs.length c) xs).H w ok := by
  refine ⟨fun k hk => ?_, cur.toList.take (xs.length * 5), ⟨?_, .inr ⟨g, c, cur, rfl, Nat.zero_le _, h.2, hn, hcm, hc, rfl⟩⟩, ?_, fun j p hp => ?_⟩
  · have : g = k := by simpa [Value.ownBlock] using hk
    rw [← this]; exact h.1
  · rw [List.length_take, show cur.toList.length = c * 5 from hc, show recK.sz = 5 from rfl]; omega
  · rw [List.length_take, show cur.toList.length = c * 5 from hc, show recK.sz = 5 from rfl]; omega
  · have hj : j < xs.length := (List.getElem?_eq_some_iff.1 hp).1
    show recK.M _ _ _ _ ((List.drop (j * 5) _).take 5)
    rw [List.drop_take, List.take_take, show min 5 (xs.length * 5 - j * 5) = 5 by omega, hx j p hp]
    exact recK_M _ _ _ _
end
section
variable {w0 w : World} {ok0 : Nat → Prop} {F : Asn} {g n c : Nat} {xs : List Rec}
/-- A cell of a record set. -/
theorem sep_rec_set (h : Sep w0 ok0 (row recK 36 (.slice (some ⟨g, 0, none⟩) n c) xs ⋆ F) w) (k j : Nat) (x x' : Rec) (v : Value) (hx : xs[k]? = some x) (hj : j < 5) (hc : x'.cells = x.cells.set j v) :
    Sep w0 ok0 (row recK 36 (.slice (some ⟨g, 0, none⟩) n c) (xs.set k x') ⋆ F) (w.setCell ⟨g, k * 5 + j, none⟩ v) := by
  obtain ⟨cur, hp⟩ : ∃ cur : Array Value, Sep w0 ok0 (pt g cur 36 ⋆ F) w ∧ n = xs.length ∧ n ≤ c ∧ c ≤ maxLen ∧ cur.size = c * 5 ∧ ∀ (j : Nat) (p : Rec), xs[j]? = some p → (cur.toList.drop (j * 5)).take 5 = p.cells := by
    obtain ⟨o_, ok1, ⟨p1, p2, hr, hF, r⟩, hk⟩ := h
    obtain ⟨cur, hpt, q⟩ := recs_pt hr
    exact ⟨cur, ⟨o_, ok1, ⟨p1, p2, hpt, hF, r⟩, hk⟩, q⟩
  obtain ⟨hp, rfl, hnc, hcm, hsz, hcells⟩ := hp
  have hs := sep_set hp (k * 5 + j) v
  refine sep_head hs (fun ok hpt => ?_)
  have hl : (xs.set k x').length = xs.length := List.length_set
  rw [← hl]
  refine pt_recs hpt (by rw [Array.size_setIfInBounds]; exact hsz) hcm (by rw [hl]; exact hnc) (fun i p hip => ?_)
  rw [Array.toList_setIfInBounds]
  by_cases hik : i = k
  · subst hik
    rw [List.getElem?_set_self (by exact (List.getElem?_eq_some_iff.1 hx).1)] at hip
    obtain rfl : x' = p := by simpa using hip
    rw [List.drop_set, if_neg (by omega), List.take_set, show i * 5 + j - i * 5 = j by omega, hcells i x hx, hc]
  · rw [List.getElem?_set_ne (Ne.symm hik)] at hip
    have hh := hcells i p hip
    rcases Nat.lt_or_ge i k with hlt | hge
    · rw [List.drop_set, if_neg (by omega), List.take_set, List.set_eq_of_length_le (by rw [List.length_take]; omega)]
      exact hh
    · rw [List.drop_set, if_pos (by omega)]
      exact hh
theorem sep_rec_set' {ad : Addr} (h : Sep w0 ok0 (row recK 36 (.slice (some ad) n c) xs ⋆ F) w) (k j : Nat) (x x' : Rec) (v : Value) (hx : xs[k]? = some x) (hj : j < 5) (hc : x'.cells = x.cells.set j v) :
    Sep w0 ok0 (row recK 36 (.slice (some ad) n c) (xs.set k x') ⋆ F) (w.setCell ⟨(ad.add (k * 5)).block, (ad.add (k * 5)).off + j, none⟩ v) := by
  obtain ⟨g, he⟩ := row_addr h (by have := (List.getElem?_eq_some_iff.1 hx).1; omega)
  cases he
  rw [add_at]
  exact sep_rec_set h k j x x' v hx hj hc
theorem sep_rec_set0 {ad : Addr} (h : Sep w0 ok0 (row recK 36 (.slice (some ad) n c) xs ⋆ F) w) (k : Nat) (x x' : Rec) (v : Value) (hx : xs[k]? = some x) (hc : x'.cells = x.cells.set 0 v) :
    Sep w0 ok0 (row recK 36 (.slice (some ad) n c) (xs.set k x') ⋆ F) (w.setCell (ad.add (k * 5)) v) := by
  obtain ⟨g, he⟩ := row_addr h (by have := (List.getElem?_eq_some_iff.1 hx).1; omega)
  cases he
  rw [add_at]
  exact sep_rec_set h k 0 x x' v hx (by decide) hc
theorem rec_frozen {ad : Addr} (h : Sep w0 ok0 (row recK 36 (.slice (some ad) n c) xs ⋆ F) w) (k : Nat) (x : Rec) (hx : xs[k]? = some x) :
    w.frozen? (ad.add (k * 5)) = false ∧ ∀ j, w.frozen? ⟨(ad.add (k * 5)).block, (ad.add (k * 5)).off + j, none⟩ = false := by
  obtain ⟨g, he⟩ := row_addr h (by have := (List.getElem?_eq_some_iff.1 hx).1; omega)
  cases he
  rw [add_at]
  obtain ⟨o_, ok1, ⟨p1, p2, hr, hF, r⟩, hk⟩ := h
  obtain ⟨cur, hpt, q⟩ := recs_pt hr
  have hp : Sep w0 ok0 (pt g cur 36 ⋆ F) w := ⟨o_, ok1, ⟨p1, p2, hpt, hF, r⟩, hk⟩
  exact ⟨sep_frozen hp _, fun j => sep_frozen hp _⟩
/-- Slices of records in an array: a list of lists. -/
theorem all_ll {f : Nat → Value} {L : Nat → List Rec} {m : Nat} (h : Sep w0 ok0 (pt g (arrV m f) 24 ⋆ all m (fun v => row recK 36 (f v) (L v)) ⋆ F) w) (hm : m ≤ 1000) : llK.C w (some ⟨g, 0, none⟩) m ((List.range m).map L) := by
  refine ⟨by simp, by first | omega | (simp; omega), fun _ => ⟨_, rfl, fun i l hi => ?_⟩⟩
  have him : i < m := by have := (List.getElem?_eq_some_iff.1 hi).1; simpa using this
  rw [List.getElem?_map, List.getElem?_range him] at hi
  obtain rfl : L i = l := by simpa using hi
  obtain ⟨A, c, hv, hle, hC⟩ := sep_row (sep_all_out (sep_l1 h) him)
  refine ⟨[f i], rfl, ⟨A, c, by rw [hv], hle, hC⟩, fun j u hu => ?_⟩
  match j, hu with
  | 0, hu =>
    obtain rfl : f i = u := by simpa using hu
    rw [add_at, show i * llK.sz + 0 = i from Nat.mul_one i, sep_cell h, arrV_get f him]
end
/-- One slice of many grown. -/
theorem all_put {w0 w : World} {ok0 : Nat → Prop} {F : Asn} {f f' : Nat → Value} {L L' : Nat → List Rec} {m v : Nat} {x : Value} {l : List Rec} (h : Sep w0 ok0 (row recK 36 x l ⋆ allx m v (fun u => row recK 36 (f u) (L u)) ⋆ F) w) (hv : v < m)
    (h1 : f' v = x) (h2 : L' v = l) (h3 : ∀ u, u ≠ v → f' u = f u) (h4 : ∀ u, u ≠ v → L' u = L u) : Sep w0 ok0 (all m (fun u => row recK 36 (f' u) (L' u)) ⋆ F) w := by
  refine sep_all_in (i := v) ?_ hv
  rw [h1, h2, allx_congr m v _ (fun u => row recK 36 (f u) (L u)) (fun j _ hj => by show row recK 36 (f' j) (L' j) = _; rw [h3 j hj, h4 j hj])]
  exact h
theorem rows_none {w0 w : World} {ok0 : Nat → Prop} {F : Asn} (h : Sep w0 ok0 F w) (m : Nat) : Sep w0 ok0 (all m (fun _ => row recK 36 (.slice none 0 0) []) ⋆ F) w :=
  sep_all_none h m _ (fun j _ w => Kd.R_nil _ _ _ _ _)
section
variable {P : Program} {ops : Array Oper} {rest : List Oper} {o : Oper} {a : Act} {Q : Exit → Act → World → Prop} {w0 W : World} {ok0 : Nat → Prop} {F : Asn}
/-- make([]T, n), T of one cell: a block of its own. -/
theorem wp_make_pt (e : Nat) (hgd : o.guard = none) (t : TypeId) (x y : Operand) (ho : o.op = .makeSlice t x y) (n : Nat) (hx : a.eval x = .int .i64 (n : Int)) (hy : a.eval y = .int .i64 (n : Int))
    (ht : P.underlying t = some (.slice e)) (z : Value) (bytes : Nat) (hinfo : (P.info? e).map (fun i => (i.zero, i.size, i.bytes)) = some (some z, 1, bytes)) (hl : n * bytes ≤ 281474976710656) (hn : n ≤ 1000) (cs : Array Value) (hcs : madeCells z.cells n = cs) (HS : Sep w0 ok0 F W)
    (h : ∀ w1, Sep w0 ok0 (pt W.heap.size cs e ⋆ F) w1 → wpList P ops Q rest (a.put o.dst (.slice (some ⟨W.heap.size, 0, none⟩) n n)) w1) : wpList P ops Q (o :: rest) a W := by
  obtain ⟨i0, hi, hzz⟩ := Option.map_eq_some_iff.1 hinfo
  simp only [Prod.mk.injEq] at hzz
  obtain ⟨hz0, hz1, hz2⟩ := hzz
  have hr := run_make (P := P) W t e i0 z ht hi hz0 .i64 .i64 (n : Int) (n : Int) (by omega) (by omega)
    (by
      have h3 : ((i0.bytes * n : Nat) : Int) ≤ 281474976710656 := by rw [hz2, Nat.mul_comm]; omega
      rwa [Int.natCast_mul] at h3) (by omega)
  simp only [Int.toNat_natCast] at hr
  rw [hz1, Nat.mul_one, hcs] at hr
  refine Kd.event_run hgd ?_ (h _ (sep_alloc HS cs e))
  simp [execOp, ho, hx, hy, hr]
end
theorem made_arr (z : Value) (n : Nat) (hz : z.cells = #[z]) : madeCells z.cells n = arrV n (fun _ => z) := by
  rw [hz]
  apply Array.ext
  · simp [madeCells, arrV]
  · intro i h1 h2
    simp [madeCells, arrV, Nat.mod_one]
theorem info24 : (Tryd.prog.info? 24).map (fun i => (i.zero, i.size, i.bytes)) = some (some (.slice none 0 0), 1, 24) := by kernel_rfl
theorem info4 : (Tryd.prog.info? 4).map (fun i => (i.zero, i.size, i.bytes)) = some (some (.bool false), 1, 1) := by kernel_rfl
end Go.Proofs.YthncipgafdfnfaaDoor.JW
