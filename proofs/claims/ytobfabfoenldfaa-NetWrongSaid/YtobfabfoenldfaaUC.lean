/- Boxes: a binding, its cells, rows of them; a box in memory. Conditions: those that each theorem names. -/
import Derived.Test.YtobfabfoenldfaaUB
import Derived.Test.YtobfabfoenldfaaSepA
import Derived.Deep.RegionHeld3
namespace Go.Proofs.Ytobfabfoenldfaa.NW
set_option linter.unusedVariables false
set_option linter.unusedSimpArgs false
open Go Go.RowKit Go.Proofs.YtobfabfoenldfaaS Go.Proofs.YtobfabfoenldfaaS.Asn Go.Proofs.Ytobfabfoenldfaa.PA Go.Proofs.YtobfabfoenldfaaW.PrintWords Go.Proofs.YtobfabfoenldfaaW.PrintLast Go.Proofs.YtobfabfoenldfaaW.PrintMore
instance : Inhabited S28 := ⟨z28⟩
/-- A binding. -/
structure Bd where
  ii : Int
  ip : Int
  ki : Int
  kp : Int
  po : Int
  met : List S28
  un : Int
/-- A binding's cells: one says where those that were met stand. -/
structure RBd where
  ii : Int
  ip : Int
  ki : Int
  kp : Int
  po : Int
  A : Option Addr
  n : Nat
  c : Nat
  un : Int
def slK : Kd (Option Addr × Nat × Nat) := Kd.scalar (fun x => Value.slice x.1 x.2.1 x.2.2) (fun _ => rfl)
def rbdK : Kd RBd := Kd.iso (Kd.pair (Kd.int .u32) (Kd.pair (Kd.int .u16) (Kd.pair (Kd.int .u32) (Kd.pair (Kd.int .u16) (Kd.pair (Kd.int .u16) (Kd.pair slK (Kd.int .u64))))))) (fun r : RBd => (r.ii, r.ip, r.ki, r.kp, r.po, (r.A, r.n, r.c), r.un))
def RBd.cells (r : RBd) : List Value := [.int .u32 r.ii, .int .u16 r.ip, .int .u32 r.ki, .int .u16 r.kp, .int .u16 r.po, .slice r.A r.n r.c, .int .u64 r.un]
theorem rbdK_M (w : World) (base : Nat) (ok : Nat → Prop) (x : RBd) : rbdK.M w base ok x x.cells := ⟨[_], _, rfl, rfl, ⟨[_], _, rfl, rfl, ⟨[_], _, rfl, rfl, ⟨[_], _, rfl, rfl, ⟨[_], _, rfl, rfl, ⟨[_], _, rfl, rfl, rfl⟩⟩⟩⟩⟩⟩
theorem rbdK_open {w : World} {x : RBd} {cs : List Value} (h : rbdK.K w x cs) : cs = x.cells := by
  obtain ⟨_, _, rfl, rfl, ⟨_, _, rfl, rfl, ⟨_, _, rfl, rfl, ⟨_, _, rfl, rfl, ⟨_, _, rfl, rfl, ⟨_, _, rfl, rfl, rfl⟩⟩⟩⟩⟩⟩ := h
  rfl
theorem rbdK_Mopen {w : World} {base : Nat} {ok : Nat → Prop} {x : RBd} {cs : List Value} (h : rbdK.M w base ok x cs) : cs = x.cells := by
  obtain ⟨_, _, rfl, rfl, ⟨_, _, rfl, rfl, ⟨_, _, rfl, rfl, ⟨_, _, rfl, rfl, ⟨_, _, rfl, rfl, ⟨_, _, rfl, rfl, rfl⟩⟩⟩⟩⟩⟩ := h
  rfl
def z100 : Value := .agg #[.int .u32 0, .int .u16 0, .int .u32 0, .int .u16 0, .int .u16 0, .slice none 0 0, .int .u64 0]
theorem info100 : (Try.prog.info? 100).map (fun i => (i.zero, i.size, i.bytes)) = some (some z100, 7, 56) := by kernel_rfl
def v28 : Value := .agg #[.int .u32 0, .int .u16 0]
theorem info28 : (Try.prog.info? 28).map (fun i => (i.zero, i.size, i.bytes)) = some (some v28, 2, 8) := by kernel_rfl
def Mat (r : RBd) (x : Bd) : Prop := r.ii = x.ii ∧ r.ip = x.ip ∧ r.ki = x.ki ∧ r.kp = x.kp ∧ r.po = x.po ∧ r.un = x.un ∧ r.n = x.met.length ∧ x.met.length ≤ r.c
def MatL (R : List RBd) (L : List Bd) : Prop := R.length = L.length ∧ ∀ (j : Nat) (r : RBd) (x : Bd), R[j]? = some r → L[j]? = some x → Mat r x
theorem Mat_open {q : RBd} {x : Bd} (h : Mat q x) : ∃ A c, q = ⟨x.ii, x.ip, x.ki, x.kp, x.po, A, x.met.length, c, x.un⟩ ∧ x.met.length ≤ c := by
  obtain ⟨a, b, c, d, e, A, n, cc, u⟩ := q
  obtain ⟨e1, e2, e3, e4, e5, e6, e7, hcap⟩ := h
  dsimp only at e1 e2 e3 e4 e5 e6 e7 hcap
  subst e1 e2 e3 e4 e5 e6 e7
  exact ⟨A, cc, rfl, hcap⟩
theorem add_f (a : Addr) (i j : Nat) (h : j ≠ 0) : (⟨(a.add i).block, (a.add i).off + j, none⟩ : Addr) = a.add (i + j) := by
  rw [← Go.Proofs.YtobfabfoenldfaaW.PrintWords.add_add]
  generalize a.add i = b
  unfold Addr.add
  rw [if_neg h]
theorem rbd_at {w : World} {A : Option Addr} {l : List RBd} (h : rbdK.C w A l.length l) (i : Nat) (x : RBd) (hx : l[i]? = some x) : ∃ ad, A = some ad ∧ w.cell? (ad.add (i * 7)) = some (.int .u32 x.ii) ∧ w.cell? ⟨(ad.add (i * 7)).block, (ad.add (i * 7)).off + 1, none⟩ = some (.int .u16 x.ip) ∧ w.cell? ⟨(ad.add (i * 7)).block, (ad.add (i * 7)).off + 2, none⟩ = some (.int .u32 x.ki) ∧ w.cell? ⟨(ad.add (i * 7)).block, (ad.add (i * 7)).off + 3, none⟩ = some (.int .u16 x.kp) ∧ w.cell? ⟨(ad.add (i * 7)).block, (ad.add (i * 7)).off + 4, none⟩ = some (.int .u16 x.po) ∧ w.cell? ⟨(ad.add (i * 7)).block, (ad.add (i * 7)).off + 5, none⟩ = some (.slice x.A x.n x.c) ∧ w.cell? ⟨(ad.add (i * 7)).block, (ad.add (i * 7)).off + 6, none⟩ = some (.int .u64 x.un) := by
  obtain ⟨hi, he⟩ := List.getElem?_eq_some_iff.1 hx
  obtain ⟨h0, h1, h2⟩ := h
  obtain ⟨ad, rfl, hc⟩ := h2 (by omega)
  obtain ⟨c, hl, hk, hcell⟩ := hc i x hx
  rw [rbdK_open hk] at hcell
  refine ⟨ad, rfl, hcell 0 _ rfl, ?_, ?_, ?_, ?_, ?_, ?_⟩
  · rw [add_f _ _ _ (by decide)]; exact hcell 1 _ rfl
  · rw [add_f _ _ _ (by decide)]; exact hcell 2 _ rfl
  · rw [add_f _ _ _ (by decide)]; exact hcell 3 _ rfl
  · rw [add_f _ _ _ (by decide)]; exact hcell 4 _ rfl
  · rw [add_f _ _ _ (by decide)]; exact hcell 5 _ rfl
  · rw [add_f _ _ _ (by decide)]; exact hcell 6 _ rfl
theorem add_at (g i : Nat) : (⟨g, 0, none⟩ : Addr).add i = ⟨g, i, none⟩ := by rw [Addr.add_mid, Nat.zero_add]
theorem row_addr {α : Type} {d : Kd α} {e : Nat} {w0 w : World} {ok0 : Nat → Prop} {F : Asn} {A : Option Addr} {n c : Nat} {xs : List α} (h : Sep w0 ok0 (row d e (.slice A n c) xs ⋆ F) w) (hp : 0 < xs.length) : ∃ g, A = some ⟨g, 0, none⟩ := by
  obtain ⟨_, _, ⟨_, _, hr, _⟩, _⟩ := h
  obtain ⟨g, cap, he, -⟩ := Kd.R_form hr (by omega)
  cases he
  exact ⟨g, rfl⟩
theorem MatL_nil : MatL [] [] := ⟨rfl, fun j r x h => by cases h⟩
theorem MatL_snoc {R : List RBd} {L : List Bd} {r : RBd} {x : Bd} (h : MatL R L) (hm : Mat r x) : MatL (R ++ [r]) (L ++ [x]) := by
  refine ⟨by rw [List.length_append, List.length_append, h.1]; rfl, fun j q y hq hy => ?_⟩
  rcases Nat.lt_or_ge j R.length with hj | hj
  · rw [List.getElem?_append_left hj] at hq
    rw [List.getElem?_append_left (by rw [← h.1]; exact hj)] at hy
    exact h.2 j q y hq hy
  · rw [List.getElem?_append_right hj] at hq
    rw [List.getElem?_append_right (by rw [← h.1]; exact hj), ← h.1] at hy
    cases hk : j - R.length with
    | zero =>
      rw [hk] at hq hy
      cases hq
      cases hy
      exact hm
    | succ k => rw [hk] at hq; simp at hq
def poolOf (R : List RBd) (L : List Bd) : List (Option Addr × List S28) := (R.zip L).map (fun q => (q.1.A, q.2.met))
theorem poolOf_snoc {R : List RBd} {L : List Bd} (r : RBd) (x : Bd) (h : MatL R L) : poolOf (R ++ [r]) (L ++ [x]) = poolOf R L ++ [(r.A, x.met)] := by
  unfold poolOf
  rw [List.zip_append h.1, List.map_append]
  rfl
section
variable {R S : List RBd} {L M : List Bd} {r : RBd} {x : Bd}
theorem MatL_take (h : MatL R L) (k : Nat) : MatL (R.take k) (L.take k) := by
  refine ⟨by rw [List.length_take, List.length_take, h.1], fun j q y hq hy => ?_⟩
  rw [List.getElem?_take] at hq hy
  split at hq
  · rename_i hj
    rw [if_pos hj] at hy
    exact h.2 j q y hq hy
  · cases hq
theorem MatL_drop (h : MatL R L) (k : Nat) : MatL (R.drop k) (L.drop k) := by
  refine ⟨by rw [List.length_drop, List.length_drop, h.1], fun j q y hq hy => ?_⟩
  rw [List.getElem?_drop] at hq hy
  exact h.2 _ q y hq hy
theorem MatL_one (h : Mat r x) : MatL [r] [x] := by
  have := MatL_snoc MatL_nil h
  exact this
theorem MatL_app (h : MatL R L) (h2 : MatL S M) : MatL (R ++ S) (L ++ M) := by
  refine ⟨by rw [List.length_append, List.length_append, h.1, h2.1], fun j q y hq hy => ?_⟩
  rcases Nat.lt_or_ge j R.length with hj | hj
  · rw [List.getElem?_append_left hj] at hq
    rw [List.getElem?_append_left (by rw [← h.1]; exact hj)] at hy
    exact h.2 j q y hq hy
  · rw [List.getElem?_append_right hj] at hq
    rw [List.getElem?_append_right (by rw [← h.1]; exact hj), ← h.1] at hy
    exact h2.2 _ q y hq hy
theorem MatL_set (h : MatL R L) (hm : Mat r x) (k : Nat) : MatL (R.set k r) (L.set k x) := by
  refine ⟨by rw [List.length_set, List.length_set, h.1], fun j q y hq hy => ?_⟩
  rw [List.getElem?_set] at hq hy
  by_cases hk : k = j
  · rw [if_pos hk] at hq hy
    split at hq
    · cases hq
      split at hy
      · cases hy; exact hm
      · cases hy
    · cases hq
  · rw [if_neg hk] at hq hy
    exact h.2 j q y hq hy
theorem MatL_get (h : MatL R L) {k : Nat} (hx : L[k]? = some x) : ∃ r, R[k]? = some r ∧ Mat r x := by
  have hk : k < R.length := by rw [h.1]; exact (List.getElem?_eq_some_iff.1 hx).1
  exact ⟨R[k], List.getElem?_eq_getElem hk, h.2 k _ x (List.getElem?_eq_getElem hk) hx⟩
theorem poolOf_app (h : MatL R L) : poolOf (R ++ S) (L ++ M) = poolOf R L ++ poolOf S M := by
  unfold poolOf
  rw [List.zip_append h.1, List.map_append]
theorem poolOf_at {k : Nat} (hr : R[k]? = some r) (hx : L[k]? = some x) : (r.A, x.met) ∈ poolOf R L := by
  unfold poolOf
  refine List.mem_map.2 ⟨(r, x), ?_, rfl⟩
  refine List.mem_of_getElem? (i := k) ?_
  rw [List.getElem?_zip_eq_some]
  exact ⟨hr, hx⟩
theorem poolOf_mem {y : Option Addr × List S28} (h : y ∈ poolOf R L) : ∃ (k : Nat) (r : RBd) (x : Bd), R[k]? = some r ∧ L[k]? = some x ∧ y = (r.A, x.met) := by
  unfold poolOf at h
  obtain ⟨⟨r, x⟩, hz, rfl⟩ := List.mem_map.1 h
  obtain ⟨k, hk⟩ := List.getElem?_of_mem hz
  rw [List.getElem?_zip_eq_some] at hk
  exact ⟨k, r, x, hk.1, hk.2, rfl⟩
theorem poolOf_take (k : Nat) : ∀ y ∈ poolOf (R.take k) (L.take k), y ∈ poolOf R L := by
  intro y hy
  obtain ⟨j, q, z, hq, hz, rfl⟩ := poolOf_mem hy
  rw [List.getElem?_take] at hq hz
  split at hq
  · rename_i hj
    rw [if_pos hj] at hz
    exact poolOf_at hq hz
  · cases hq
theorem poolOf_drop (k : Nat) : ∀ y ∈ poolOf (R.drop k) (L.drop k), y ∈ poolOf R L := by
  intro y hy
  obtain ⟨j, q, z, hq, hz, rfl⟩ := poolOf_mem hy
  rw [List.getElem?_drop] at hq hz
  exact poolOf_at hq hz
theorem poolOf_set (k : Nat) : ∀ y ∈ poolOf (R.set k r) (L.set k x), y ∈ [(r.A, x.met)] ++ poolOf R L := by
  intro y hy
  obtain ⟨j, q, z, hq, hz, rfl⟩ := poolOf_mem hy
  rw [List.getElem?_set] at hq hz
  by_cases hk : k = j
  · rw [if_pos hk] at hq hz
    split at hq
    · cases hq
      split at hz
      · cases hz; exact List.mem_cons_self
      · cases hz
    · cases hq
  · rw [if_neg hk] at hq hz
    exact List.mem_append_right _ (poolOf_at hq hz)
end
section
variable {e : Nat} {w : World} {ok : Nat → Prop} {g n c : Nat} {xs : List RBd} {cur : Array Value}
theorem rbds_pt (h : (row rbdK e (.slice (some ⟨g, 0, none⟩) n c) xs).H w ok) :
    ∃ cur : Array Value, (pt g cur e).H w ok ∧ n = xs.length ∧ n ≤ c ∧ c ≤ maxLen ∧ cur.size = c * 7 ∧ ∀ (j : Nat) (p : RBd), xs[j]? = some p → (cur.toList.drop (j * 7)).take 7 = p.cells := by
  obtain ⟨hok, inner, ⟨hlen, hform⟩, hr1, hr2⟩ := h
  rcases hform with ⟨he, _⟩ | ⟨g', cap, cur, he, hb, hg, hnc, hcm, hcs, htk⟩
  · cases he
  · cases he
    refine ⟨cur, ⟨hok g rfl, hg⟩, rfl, hnc, hcm, hcs, fun j p hp => ?_⟩
    have hj : j < xs.length := (List.getElem?_eq_some_iff.1 hp).1
    have h1 := rbdK_Mopen (hr2 j p hp)
    rw [← h1, ← htk, show rbdK.sz = 7 from rfl, List.drop_take, List.take_take, show min 7 (xs.length * 7 - j * 7) = 7 by omega]
theorem pt_rbds (h : (pt g cur e).H w ok) (hc : cur.size = c * 7) (hcm : c ≤ maxLen) (hn : xs.length ≤ c) (hx : ∀ (j : Nat) (p : RBd), xs[j]? = some p → (cur.toList.drop (j * 7)).take 7 = p.cells) :
    (row rbdK e (.slice (some ⟨g, 0, none⟩) xs.length c) xs).H w ok := by
  refine ⟨fun k hk => ?_, cur.toList.take (xs.length * 7), ⟨?_, .inr ⟨g, c, cur, rfl, Nat.zero_le _, h.2, hn, hcm, hc, rfl⟩⟩, ?_, fun j p hp => ?_⟩
  · have : g = k := by simpa [Value.ownBlock] using hk
    rw [← this]; exact h.1
  · rw [List.length_take, show cur.toList.length = c * 7 from hc, show rbdK.sz = 7 from rfl]; omega
  · rw [List.length_take, show cur.toList.length = c * 7 from hc, show rbdK.sz = 7 from rfl]; omega
  · have hj : j < xs.length := (List.getElem?_eq_some_iff.1 hp).1
    show rbdK.M _ _ _ _ ((List.drop (j * 7) _).take 7)
    rw [List.drop_take, List.take_take, show min 7 (xs.length * 7 - j * 7) = 7 by omega, hx j p hp]
    exact rbdK_M _ _ _ _
end
section
variable {e : Nat} {w0 w : World} {ok0 : Nat → Prop} {F : Asn} {g n c : Nat} {xs : List RBd}
/-- A cell of a record set. -/
theorem sep_rbd_set (h : Sep w0 ok0 (row rbdK e (.slice (some ⟨g, 0, none⟩) n c) xs ⋆ F) w) (k j : Nat) (x x' : RBd) (v : Value) (hx : xs[k]? = some x) (hj : j < 7) (hc : x'.cells = x.cells.set j v) :
    Sep w0 ok0 (row rbdK e (.slice (some ⟨g, 0, none⟩) n c) (xs.set k x') ⋆ F) (w.setCell ⟨g, k * 7 + j, none⟩ v) := by
  obtain ⟨cur, hp⟩ : ∃ cur : Array Value, Sep w0 ok0 (pt g cur e ⋆ F) w ∧ n = xs.length ∧ n ≤ c ∧ c ≤ maxLen ∧ cur.size = c * 7 ∧ ∀ (j : Nat) (p : RBd), xs[j]? = some p → (cur.toList.drop (j * 7)).take 7 = p.cells := by
    obtain ⟨o_, ok1, ⟨p1, p2, hr, hF, r⟩, hk⟩ := h
    obtain ⟨cur, hpt, q⟩ := rbds_pt hr
    exact ⟨cur, ⟨o_, ok1, ⟨p1, p2, hpt, hF, r⟩, hk⟩, q⟩
  obtain ⟨hp, rfl, hnc, hcm, hsz, hcells⟩ := hp
  have hs := sep_set hp (k * 7 + j) v
  refine sep_head hs (fun ok hpt => ?_)
  have hl : (xs.set k x').length = xs.length := List.length_set
  rw [← hl]
  refine pt_rbds hpt (by rw [Array.size_setIfInBounds]; exact hsz) hcm (by rw [hl]; exact hnc) (fun i p hip => ?_)
  rw [Array.toList_setIfInBounds]
  by_cases hik : i = k
  · subst hik
    rw [List.getElem?_set_self (by exact (List.getElem?_eq_some_iff.1 hx).1)] at hip
    obtain rfl : x' = p := by simpa using hip
    rw [List.drop_set, if_neg (by omega), List.take_set, show i * 7 + j - i * 7 = j by omega, hcells i x hx, hc]
  · rw [List.getElem?_set_ne (Ne.symm hik)] at hip
    have hh := hcells i p hip
    rcases Nat.lt_or_ge i k with hlt | hge
    · rw [List.drop_set, if_neg (by omega), List.take_set, List.set_eq_of_length_le (by rw [List.length_take]; omega)]
      exact hh
    · rw [List.drop_set, if_pos (by omega)]
      exact hh
theorem sep_rbd_set' {ad : Addr} (h : Sep w0 ok0 (row rbdK e (.slice (some ad) n c) xs ⋆ F) w) (k j : Nat) (x x' : RBd) (v : Value) (hx : xs[k]? = some x) (hj : j < 7) (hc : x'.cells = x.cells.set j v) :
    Sep w0 ok0 (row rbdK e (.slice (some ad) n c) (xs.set k x') ⋆ F) (w.setCell ⟨(ad.add (k * 7)).block, (ad.add (k * 7)).off + j, none⟩ v) := by
  obtain ⟨g, he⟩ := row_addr h (by have := (List.getElem?_eq_some_iff.1 hx).1; omega)
  cases he
  rw [add_at]
  exact sep_rbd_set h k j x x' v hx hj hc
theorem sep_rbd_set0 {ad : Addr} (h : Sep w0 ok0 (row rbdK e (.slice (some ad) n c) xs ⋆ F) w) (k : Nat) (x x' : RBd) (v : Value) (hx : xs[k]? = some x) (hc : x'.cells = x.cells.set 0 v) :
    Sep w0 ok0 (row rbdK e (.slice (some ad) n c) (xs.set k x') ⋆ F) (w.setCell (ad.add (k * 7)) v) := by
  obtain ⟨g, he⟩ := row_addr h (by have := (List.getElem?_eq_some_iff.1 hx).1; omega)
  cases he
  rw [add_at]
  exact sep_rbd_set h k 0 x x' v hx (by decide) hc
theorem rbd_frozen {ad : Addr} (h : Sep w0 ok0 (row rbdK e (.slice (some ad) n c) xs ⋆ F) w) (k : Nat) (x : RBd) (hx : xs[k]? = some x) :
    w.frozen? (ad.add (k * 7)) = false ∧ ∀ j, w.frozen? ⟨(ad.add (k * 7)).block, (ad.add (k * 7)).off + j, none⟩ = false := by
  obtain ⟨g, he⟩ := row_addr h (by have := (List.getElem?_eq_some_iff.1 hx).1; omega)
  cases he
  rw [add_at]
  obtain ⟨o_, ok1, ⟨p1, p2, hr, hF, r⟩, hk⟩ := h
  obtain ⟨cur, hpt, q⟩ := rbds_pt hr
  have hp : Sep w0 ok0 (pt g cur e ⋆ F) w := ⟨o_, ok1, ⟨p1, p2, hpt, hF, r⟩, hk⟩
  exact ⟨sep_frozen hp _, fun j => sep_frozen hp _⟩
end
section
variable {e : Nat} {w0 w : World} {ok0 : Nat → Prop} {F : Asn} {g n c : Nat} {xs : List RBd}
theorem rbd_now (h : Sep w0 ok0 (row rbdK e (.slice (some ⟨g, 0, none⟩) n c) xs ⋆ F) w) (k : Nat) (y : RBd) (hy : xs[k]? = some y) :
    (w.cell? ⟨g, k * 7, none⟩ = some (.int .u32 y.ii) ∧ w.cell? ⟨g, k * 7 + 1, none⟩ = some (.int .u16 y.ip) ∧ w.cell? ⟨g, k * 7 + 2, none⟩ = some (.int .u32 y.ki) ∧ w.cell? ⟨g, k * 7 + 3, none⟩ = some (.int .u16 y.kp) ∧ w.cell? ⟨g, k * 7 + 4, none⟩ = some (.int .u16 y.po) ∧ w.cell? ⟨g, k * 7 + 5, none⟩ = some (.slice y.A y.n y.c) ∧ w.cell? ⟨g, k * 7 + 6, none⟩ = some (.int .u64 y.un)) ∧
    ∀ j, w.frozen? ⟨g, j, none⟩ = false := by
  obtain ⟨ad, hA, k0, k1, k2, k3, k4, k5, k6⟩ := rbd_at (sep_row' h).2.2 k y hy
  cases hA
  rw [add_at] at k0 k1 k2 k3 k4 k5 k6
  obtain ⟨o_, ok1, ⟨p1, p2, hr, hF, r⟩, hk⟩ := h
  obtain ⟨cur, hpt, q⟩ := rbds_pt hr
  have hp : Sep w0 ok0 (pt g cur e ⋆ F) w := ⟨o_, ok1, ⟨p1, p2, hpt, hF, r⟩, hk⟩
  exact ⟨⟨k0, k1, k2, k3, k4, k5, k6⟩, fun j => sep_frozen hp j⟩
end
/-- A box. -/
structure Bx where
  mp : Int
  fl : Int
  ip : Int
  hold : Int
  room : Int
  l : List Bd
def boxA (p : Nat) (B : Bx) : Asn := ex fun v : Value => ex fun R : List RBd => fact (MatL R B.l) ⋆ pt p #[.int .i64 B.mp, .int .i64 B.fl, .int .u32 B.ip, .int .u64 B.hold, .int .i64 B.room, v] 86 ⋆ row rbdK 100 v R ⋆ pool k28 (poolOf R B.l)
section
variable {w0 w : World} {ok0 : Nat → Prop} {F : Asn} {p : Nat} {B : Bx}
theorem box_open (h : Sep w0 ok0 (boxA p B ⋆ F) w) : ∃ A c R, MatL R B.l ∧ B.l.length ≤ c ∧ Sep w0 ok0 (pt p #[.int .i64 B.mp, .int .i64 B.fl, .int .u32 B.ip, .int .u64 B.hold, .int .i64 B.room, .slice A B.l.length c] 86 ⋆ row rbdK 100 (.slice A B.l.length c) R ⋆ pool k28 (poolOf R B.l) ⋆ F) w := by
  obtain ⟨v, h⟩ := sep_ex_star h
  obtain ⟨R, h⟩ := sep_ex_star h
  obtain ⟨hm, h⟩ := sep_fact (sep_flat h)
  have h1 := sep_l2 (sep_flat (sep_l1 (sep_flat h)))
  obtain ⟨A, c, rfl, hc, -⟩ := sep_row (sep_l1 h1)
  rw [hm.1] at hc h1
  exact ⟨A, c, R, hm, hc, h1⟩
theorem box_mk {v : Value} {R : List RBd} (hm : MatL R B.l) (h : Sep w0 ok0 (pt p #[.int .i64 B.mp, .int .i64 B.fl, .int .u32 B.ip, .int .u64 B.hold, .int .i64 B.room, v] 86 ⋆ row rbdK 100 v R ⋆ pool k28 (poolOf R B.l) ⋆ F) w) : Sep w0 ok0 (boxA p B ⋆ F) w :=
  sep_head (sep_fold (sep_l1 (sep_fold (sep_l2 (sep_l2 h))))) (fun ok hh => ⟨v, R, fun _ => False, ok, hm, hh, fun _ h _ => h, fun _ h => h.elim, fun _ h => h⟩)
end
end Go.Proofs.Ytobfabfoenldfaa.NW
/- Boxes: the closures, slices.IndexFunc over bindings. Conditions: those that each theorem names. -/
namespace Go.Proofs.Ytobfabfoenldfaa.NW
set_option linter.unusedVariables false
set_option linter.unusedSimpArgs false
open Go Go.RowKit Go.Proofs.YtobfabfoenldfaaS Go.Proofs.YtobfabfoenldfaaS.Asn Go.Proofs.Ytobfabfoenldfaa.PA Go.Proofs.YtobfabfoenldfaaW.PrintWords Go.Proofs.YtobfabfoenldfaaW.PrintLast Go.Proofs.YtobfabfoenldfaaW.PrintMore

def idx {α : Type} (p : α → Bool) (l : List α) : Int := if l.any p = true then (l.findIdx p : Int) else -1
theorem idx_found {α : Type} (p : α → Bool) (l : List α) (k : Nat) (y : α) (h : l[k]? = some y) (hp : p y = true) (hn : (l.take k).any p = false) : idx p l = (k : Int) := by
  obtain ⟨hk, rfl⟩ := List.getElem?_eq_some_iff.1 h
  unfold idx
  rw [if_pos (List.any_eq_true.2 ⟨_, List.getElem_mem hk, hp⟩)]
  congr 1
  refine (List.findIdx_eq hk).2 ⟨hp, fun j hj => ?_⟩
  rw [List.any_eq_false] at hn
  have := hn l[j] (by rw [List.mem_take_iff_getElem]; exact ⟨j, by omega, rfl⟩)
  simpa using this
theorem idx_none {α : Type} (p : α → Bool) (l : List α) (h : l.any p = false) : idx p l = -1 := by
  unfold idx
  rw [if_neg (by rw [h]; decide)]
theorem idx_ge {α : Type} (p : α → Bool) (l : List α) : decide (idx p l ≥ 0) = l.any p := by
  unfold idx
  cases h : l.any p with
  | true => rw [if_pos rfl]; exact decide_eq_true (by omega)
  | false => rw [if_neg (by decide)]; rfl
theorem idx_at {α : Type} (p : α → Bool) (l : List α) (h : l.any p = true) : ∃ (k : Nat) (y : α), idx p l = (k : Int) ∧ l[k]? = some y ∧ p y = true ∧ k < l.length := by
  have hl : l.findIdx p < l.length := List.findIdx_lt_length_of_exists (by simpa [List.any_eq_true] using h)
  refine ⟨l.findIdx p, l[l.findIdx p], ?_, List.getElem?_eq_getElem hl, List.findIdx_getElem, hl⟩
  unfold idx
  rw [if_pos h]
theorem cell_now {w wr : World} {a : Addr} {v : Value} (h : w.cell? a = some v) (hb : Below w.heap.size w wr) : wr.cell? a = some v := (hb.cell (World.block_lt_of_cell? w _ h)).trans h
def goneB (now : Int) (x : RBd) : Bool := decide (x.un ≤ now)
def bindB (i k : S28) (x : RBd) : Bool := (x.ii == i.f0 && x.ip == i.f1) && (x.ki == k.f0 && x.kp == k.f1)
def portB (port : Int) (x : RBd) : Bool := x.po == port
theorem facts7 {w0 w : World} {ok0 : Nat → Prop} {F : Asn} {g : Nat} {t : TypeId} {a0 a1 a2 a3 a4 a5 a6 : Value} (h : Sep w0 ok0 (pt g #[a0, a1, a2, a3, a4, a5, a6] t ⋆ F) w) :
    w.cell? ⟨g, 0, none⟩ = some a0 ∧ w.cell? ⟨g, 1, none⟩ = some a1 ∧ w.cell? ⟨g, 2, none⟩ = some a2 ∧ w.cell? ⟨g, 3, none⟩ = some a3 ∧ w.cell? ⟨g, 4, none⟩ = some a4 ∧ w.cell? ⟨g, 5, none⟩ = some a5 ∧ w.cell? ⟨g, 6, none⟩ = some a6 :=
  ⟨sep_cell h 0, sep_cell h 1, sep_cell h 2, sep_cell h 3, sep_cell h 4, sep_cell h 5, sep_cell h 6⟩
theorem cl_52 (B : Nat) (now : Int) (x : RBd) (W : World) (h1 : W.cell? ⟨B, 0, none⟩ = some (.int .u64 now)) :
    Calls Try.prog 52 #[.agg #[.int .u32 x.ii, .int .u16 x.ip, .int .u32 x.ki, .int .u16 x.kp, .int .u16 x.po, .slice x.A x.n x.c, .int .u64 x.un], .pointer (some ⟨B, 0, none⟩)] W fun e w' => e = .returned (.bool (goneB now x)) ∧ Below W.heap.size W w' := by
  have HS := Aside0.mk (sep_start W)
  go_enter Try.func52, Try.ntmps52
  go_upto_region 1 with (fail)
  have n_ := sep_alloc HS.out #[.int .u32 x.ii, .int .u16 x.ip, .int .u32 x.ki, .int .u16 x.kp, .int .u16 x.po, .slice x.A x.n x.c, .int .u64 x.un] 100
  have n0_ := Aside0.mk n_; clear HS n_; have HS := n0_; clear n0_
  generalize W.alloc (.cells #[.int .u32 x.ii, .int .u16 x.ip, .int .u32 x.ki, .int .u16 x.kp, .int .u16 x.po, .slice x.A x.n x.c, .int .u64 x.un] 100) = wa at HS ⊢
  generalize W.heap.size = g2 at HS ⊢
  obtain ⟨k0, k1, k2, k3, k4, k5, k6⟩ := facts7 HS.out
  have h1 := cell_now h1 (sep_below_of HS.out)
  go_wp2
  all_goals (go_ret; refine ⟨?_, sep_below_of HS.out⟩; clear HS h1 k0 k1 k2 k3 k4 k5 k6; simp_all [goneB])
theorem cl_65 (B : Nat) (port : Int) (x : RBd) (W : World) (h1 : W.cell? ⟨B, 0, none⟩ = some (.int .u16 port)) :
    Calls Try.prog 65 #[.agg #[.int .u32 x.ii, .int .u16 x.ip, .int .u32 x.ki, .int .u16 x.kp, .int .u16 x.po, .slice x.A x.n x.c, .int .u64 x.un], .pointer (some ⟨B, 0, none⟩)] W fun e w' => e = .returned (.bool (portB port x)) ∧ Below W.heap.size W w' := by
  have HS := Aside0.mk (sep_start W)
  go_enter Try.func65, Try.ntmps65
  go_upto_region 1 with (fail)
  have n_ := sep_alloc HS.out #[.int .u32 x.ii, .int .u16 x.ip, .int .u32 x.ki, .int .u16 x.kp, .int .u16 x.po, .slice x.A x.n x.c, .int .u64 x.un] 100
  have n0_ := Aside0.mk n_; clear HS n_; have HS := n0_; clear n0_
  generalize W.alloc (.cells #[.int .u32 x.ii, .int .u16 x.ip, .int .u32 x.ki, .int .u16 x.kp, .int .u16 x.po, .slice x.A x.n x.c, .int .u64 x.un] 100) = wa at HS ⊢
  generalize W.heap.size = g2 at HS ⊢
  obtain ⟨k0, k1, k2, k3, k4, k5, k6⟩ := facts7 HS.out
  have h1 := cell_now h1 (sep_below_of HS.out)
  go_wp2
  all_goals (go_ret; refine ⟨?_, sep_below_of HS.out⟩; clear HS h1 k0 k1 k2 k3 k4 k5 k6; simp_all [portB])
theorem cl_54 (B C : Nat) (i k : S28) (x : RBd) (W : World) (h1 : W.cell? ⟨B, 0, none⟩ = some (.int .u32 i.f0)) (h2 : W.cell? ⟨B, 1, none⟩ = some (.int .u16 i.f1)) (h3 : W.cell? ⟨C, 0, none⟩ = some (.int .u32 k.f0)) (h4 : W.cell? ⟨C, 1, none⟩ = some (.int .u16 k.f1)) :
    Calls Try.prog 54 #[.agg #[.int .u32 x.ii, .int .u16 x.ip, .int .u32 x.ki, .int .u16 x.kp, .int .u16 x.po, .slice x.A x.n x.c, .int .u64 x.un], .pointer (some ⟨B, 0, none⟩), .pointer (some ⟨C, 0, none⟩)] W fun e w' => e = .returned (.bool (bindB i k x)) ∧ Below W.heap.size W w' := by
  have HS := Aside0.mk (sep_start W)
  go_enter Try.func54, Try.ntmps54
  go_upto_region 1 with (fail)
  have n_ := sep_alloc HS.out #[.int .u32 x.ii, .int .u16 x.ip, .int .u32 x.ki, .int .u16 x.kp, .int .u16 x.po, .slice x.A x.n x.c, .int .u64 x.un] 100
  have n0_ := Aside0.mk n_; clear HS n_; have HS := n0_; clear n0_
  generalize W.alloc (.cells #[.int .u32 x.ii, .int .u16 x.ip, .int .u32 x.ki, .int .u16 x.kp, .int .u16 x.po, .slice x.A x.n x.c, .int .u64 x.un] 100) = wa at HS ⊢
  generalize W.heap.size = g2 at HS ⊢
  obtain ⟨k0, k1, k2, k3, k4, k5, k6⟩ := facts7 HS.out
  have h1 := cell_now h1 (sep_below_of HS.out)
  have h2 := cell_now h2 (sep_below_of HS.out)
  have h3 := cell_now h3 (sep_below_of HS.out)
  have h4 := cell_now h4 (sep_below_of HS.out)
  go_wp2
  all_goals (go_ret; refine ⟨?_, sep_below_of HS.out⟩; clear HS h1 h2 h3 h4 k0 k1 k2 k3 k4 k5 k6; simp_all [bindB])
set_option maxHeartbeats 1000000 in
theorem idx_52 (B : Nat) (now : Int) (A : Option Addr) (c : Nat) (l : List RBd) (w : World) (h1 : w.cell? ⟨B, 0, none⟩ = some (.int .u64 now)) (hr : rbdK.C w A l.length l) :
    Calls Try.prog 53 #[.slice A l.length c, .func (.func 52) #[] #[.pointer (some ⟨B, 0, none⟩)]] w fun e w' => e = .returned (.int .i64 (idx (goneB now) l)) ∧ Below w.heap.size w w' := by
  have H5 := Aside0.mk h1
  clear h1
  have HLN := Aside0.mk hr.2.1
  have HR := Aside0.mk hr
  clear hr
  go_enter Try.func53, Try.ntmps53
  go_upto_region 2 with (fail)
  go_loopg [5, 8] l.length (fun gg _ s8 wr => ∃ kk : Nat, kk ≤ l.length ∧ l.length - kk ≤ gg ∧ s8 = .int .i64 kk ∧ Aside0 (Below w.heap.size w wr) ∧ Aside0 ((l.take kk).any (goneB now) = false))
  case atStart => exact ⟨0, Nat.zero_le _, by omega, rfl, ⟨Below.refl _ w⟩, ⟨by simp⟩⟩
  case round =>
    obtain ⟨kk, hkk, hg, rfl, BW, HA⟩ := hrel
    by_cases hlt : kk < l.length
    · have c1b : decide ((kk : Int) < (l.length : Int)) = true := decide_eq_true (Int.ofNat_lt.2 hlt); have c1n : decide (kk < l.length) = true := decide_eq_true hlt; have c1i : ((kk : Int) < (l.length : Int)) = True := eq_true (Int.ofNat_lt.2 hlt); have c1q : (kk < l.length) = True := eq_true hlt; have p0_ := eq_true (Int.natCast_nonneg kk)
      obtain ⟨y, hy⟩ : ∃ y, l[kk]? = some y := ⟨_, List.getElem?_eq_getElem hlt⟩
      obtain ⟨ad, rfl, k0, k1, k2, k3, k4, k5, k6⟩ := rbd_at (Kd.C_below HR.out BW.out) kk y hy
      have hcall := cl_52 B now y wr (cell_now H5.out BW.out)
      have HI := Aside0.mk (And.intro hlt hg)
      have HL := Aside0.mk hy
      clear hy hlt hkk hg
      cases hq : (goneB now) y with
      | true =>
        rw [hq] at hcall
        have HC := Aside0.mk hcall
        have HQ := Aside0.mk hq
        clear hcall hq
        go_wp2_with (go_at_call 52; refine HC.out.mono ?_; rintro e w' ⟨rfl, hb'⟩; have HB' := Aside0.mk hb'; clear hb')
        go_ret
        rw [idx_found _ l kk y HL.out HQ.out HA.out]
        exact ⟨rfl, BW.out.trans (HB'.out.mono BW.out.size)⟩
      | false =>
        rw [hq] at hcall
        have HC := Aside0.mk hcall
        have HQ := Aside0.mk hq
        clear hcall hq
        go_wp2_with (go_at_call 52; refine HC.out.mono ?_; rintro e w' ⟨rfl, hb'⟩; have HB' := Aside0.mk hb'; clear hb')
        go_roundg (l.length - (kk + 1))
        case measure => have := HI.out; omega
        case rel =>
          refine ⟨kk + 1, by have := HI.out; omega, Nat.le_refl _, congrArg (Value.int .i64) (by have := HI.out; have := HLN.out; unfold wrap64; omega), ⟨BW.out.trans (HB'.out.mono BW.out.size)⟩, ⟨?_⟩⟩
          rw [List.take_add_one, HL.out, List.any_append, HA.out]
          simp [HQ.out]
    · obtain rfl : kk = l.length := by omega
      have c2b : decide ((l.length : Int) < (l.length : Int)) = false := decide_eq_false (by omega)
      go_wp2
      go_ret
      have h := HA.out
      rw [List.take_length] at h
      rw [idx_none _ l h]
      exact ⟨rfl, BW.out⟩
set_option maxHeartbeats 1000000 in
theorem idx_65 (B : Nat) (port : Int) (A : Option Addr) (c : Nat) (l : List RBd) (w : World) (h1 : w.cell? ⟨B, 0, none⟩ = some (.int .u16 port)) (hr : rbdK.C w A l.length l) :
    Calls Try.prog 53 #[.slice A l.length c, .func (.func 65) #[] #[.pointer (some ⟨B, 0, none⟩)]] w fun e w' => e = .returned (.int .i64 (idx (portB port) l)) ∧ Below w.heap.size w w' := by
  have H5 := Aside0.mk h1
  clear h1
  have HLN := Aside0.mk hr.2.1
  have HR := Aside0.mk hr
  clear hr
  go_enter Try.func53, Try.ntmps53
  go_upto_region 2 with (fail)
  go_loopg [5, 8] l.length (fun gg _ s8 wr => ∃ kk : Nat, kk ≤ l.length ∧ l.length - kk ≤ gg ∧ s8 = .int .i64 kk ∧ Aside0 (Below w.heap.size w wr) ∧ Aside0 ((l.take kk).any (portB port) = false))
  case atStart => exact ⟨0, Nat.zero_le _, by omega, rfl, ⟨Below.refl _ w⟩, ⟨by simp⟩⟩
  case round =>
    obtain ⟨kk, hkk, hg, rfl, BW, HA⟩ := hrel
    by_cases hlt : kk < l.length
    · have c1b : decide ((kk : Int) < (l.length : Int)) = true := decide_eq_true (Int.ofNat_lt.2 hlt); have c1n : decide (kk < l.length) = true := decide_eq_true hlt; have c1i : ((kk : Int) < (l.length : Int)) = True := eq_true (Int.ofNat_lt.2 hlt); have c1q : (kk < l.length) = True := eq_true hlt; have p0_ := eq_true (Int.natCast_nonneg kk)
      obtain ⟨y, hy⟩ : ∃ y, l[kk]? = some y := ⟨_, List.getElem?_eq_getElem hlt⟩
      obtain ⟨ad, rfl, k0, k1, k2, k3, k4, k5, k6⟩ := rbd_at (Kd.C_below HR.out BW.out) kk y hy
      have hcall := cl_65 B port y wr (cell_now H5.out BW.out)
      have HI := Aside0.mk (And.intro hlt hg)
      have HL := Aside0.mk hy
      clear hy hlt hkk hg
      cases hq : (portB port) y with
      | true =>
        rw [hq] at hcall
        have HC := Aside0.mk hcall
        have HQ := Aside0.mk hq
        clear hcall hq
        go_wp2_with (go_at_call 65; refine HC.out.mono ?_; rintro e w' ⟨rfl, hb'⟩; have HB' := Aside0.mk hb'; clear hb')
        go_ret
        rw [idx_found _ l kk y HL.out HQ.out HA.out]
        exact ⟨rfl, BW.out.trans (HB'.out.mono BW.out.size)⟩
      | false =>
        rw [hq] at hcall
        have HC := Aside0.mk hcall
        have HQ := Aside0.mk hq
        clear hcall hq
        go_wp2_with (go_at_call 65; refine HC.out.mono ?_; rintro e w' ⟨rfl, hb'⟩; have HB' := Aside0.mk hb'; clear hb')
        go_roundg (l.length - (kk + 1))
        case measure => have := HI.out; omega
        case rel =>
          refine ⟨kk + 1, by have := HI.out; omega, Nat.le_refl _, congrArg (Value.int .i64) (by have := HI.out; have := HLN.out; unfold wrap64; omega), ⟨BW.out.trans (HB'.out.mono BW.out.size)⟩, ⟨?_⟩⟩
          rw [List.take_add_one, HL.out, List.any_append, HA.out]
          simp [HQ.out]
    · obtain rfl : kk = l.length := by omega
      have c2b : decide ((l.length : Int) < (l.length : Int)) = false := decide_eq_false (by omega)
      go_wp2
      go_ret
      have h := HA.out
      rw [List.take_length] at h
      rw [idx_none _ l h]
      exact ⟨rfl, BW.out⟩
set_option maxHeartbeats 1000000 in
theorem idx_54 (B C : Nat) (i k : S28) (A : Option Addr) (c : Nat) (l : List RBd) (w : World) (h1 : w.cell? ⟨B, 0, none⟩ = some (.int .u32 i.f0)) (h2 : w.cell? ⟨B, 1, none⟩ = some (.int .u16 i.f1)) (h3 : w.cell? ⟨C, 0, none⟩ = some (.int .u32 k.f0)) (h4 : w.cell? ⟨C, 1, none⟩ = some (.int .u16 k.f1)) (hr : rbdK.C w A l.length l) :
    Calls Try.prog 53 #[.slice A l.length c, .func (.func 54) #[] #[.pointer (some ⟨B, 0, none⟩), .pointer (some ⟨C, 0, none⟩)]] w fun e w' => e = .returned (.int .i64 (idx (bindB i k) l)) ∧ Below w.heap.size w w' := by
  have H5 := Aside0.mk (And.intro h1 (And.intro h2 (And.intro h3 h4)))
  clear h1 h2 h3 h4
  have HLN := Aside0.mk hr.2.1
  have HR := Aside0.mk hr
  clear hr
  go_enter Try.func53, Try.ntmps53
  go_upto_region 2 with (fail)
  go_loopg [5, 8] l.length (fun gg _ s8 wr => ∃ kk : Nat, kk ≤ l.length ∧ l.length - kk ≤ gg ∧ s8 = .int .i64 kk ∧ Aside0 (Below w.heap.size w wr) ∧ Aside0 ((l.take kk).any (bindB i k) = false))
  case atStart => exact ⟨0, Nat.zero_le _, by omega, rfl, ⟨Below.refl _ w⟩, ⟨by simp⟩⟩
  case round =>
    obtain ⟨kk, hkk, hg, rfl, BW, HA⟩ := hrel
    by_cases hlt : kk < l.length
    · have c1b : decide ((kk : Int) < (l.length : Int)) = true := decide_eq_true (Int.ofNat_lt.2 hlt); have c1n : decide (kk < l.length) = true := decide_eq_true hlt; have c1i : ((kk : Int) < (l.length : Int)) = True := eq_true (Int.ofNat_lt.2 hlt); have c1q : (kk < l.length) = True := eq_true hlt; have p0_ := eq_true (Int.natCast_nonneg kk)
      obtain ⟨y, hy⟩ : ∃ y, l[kk]? = some y := ⟨_, List.getElem?_eq_getElem hlt⟩
      obtain ⟨ad, rfl, k0, k1, k2, k3, k4, k5, k6⟩ := rbd_at (Kd.C_below HR.out BW.out) kk y hy
      have hcall := cl_54 B C i k y wr (cell_now H5.out.1 BW.out) (cell_now H5.out.2.1 BW.out) (cell_now H5.out.2.2.1 BW.out) (cell_now H5.out.2.2.2 BW.out)
      have HI := Aside0.mk (And.intro hlt hg)
      have HL := Aside0.mk hy
      clear hy hlt hkk hg
      cases hq : (bindB i k) y with
      | true =>
        rw [hq] at hcall
        have HC := Aside0.mk hcall
        have HQ := Aside0.mk hq
        clear hcall hq
        go_wp2_with (go_at_call 54; refine HC.out.mono ?_; rintro e w' ⟨rfl, hb'⟩; have HB' := Aside0.mk hb'; clear hb')
        go_ret
        rw [idx_found _ l kk y HL.out HQ.out HA.out]
        exact ⟨rfl, BW.out.trans (HB'.out.mono BW.out.size)⟩
      | false =>
        rw [hq] at hcall
        have HC := Aside0.mk hcall
        have HQ := Aside0.mk hq
        clear hcall hq
        go_wp2_with (go_at_call 54; refine HC.out.mono ?_; rintro e w' ⟨rfl, hb'⟩; have HB' := Aside0.mk hb'; clear hb')
        go_roundg (l.length - (kk + 1))
        case measure => have := HI.out; omega
        case rel =>
          refine ⟨kk + 1, by have := HI.out; omega, Nat.le_refl _, congrArg (Value.int .i64) (by have := HI.out; have := HLN.out; unfold wrap64; omega), ⟨BW.out.trans (HB'.out.mono BW.out.size)⟩, ⟨?_⟩⟩
          rw [List.take_add_one, HL.out, List.any_append, HA.out]
          simp [HQ.out]
    · obtain rfl : kk = l.length := by omega
      have c2b : decide ((l.length : Int) < (l.length : Int)) = false := decide_eq_false (by omega)
      go_wp2
      go_ret
      have h := HA.out
      rw [List.take_length] at h
      rw [idx_none _ l h]
      exact ⟨rfl, BW.out⟩
end Go.Proofs.Ytobfabfoenldfaa.NW
/- Boxes: slices.DeleteFunc where none goes, or the only one; Sweep. Conditions: those that each theorem names. -/
namespace Go.Proofs.Ytobfabfoenldfaa.NW
set_option linter.unusedVariables false
set_option linter.unusedSimpArgs false
open Go Go.RowKit Go.Proofs.YtobfabfoenldfaaS Go.Proofs.YtobfabfoenldfaaS.Asn Go.Proofs.Ytobfabfoenldfaa.PA Go.Proofs.YtobfabfoenldfaaW.PrintWords Go.Proofs.YtobfabfoenldfaaW.PrintLast Go.Proofs.YtobfabfoenldfaaW.PrintMore

open Go.Proofs.Ytobfabfoenldfaa.BG (sep_spare sep_block)
theorem del_none (B : Nat) (now : Int) (A : Option Addr) (c : Nat) (l : List RBd) (w : World) (h1 : w.cell? ⟨B, 0, none⟩ = some (.int .u64 now)) (hr : rbdK.C w A l.length l) (hn : l.any (goneB now) = false) :
    Calls Try.prog 51 #[.slice A l.length c, .func (.func 52) #[] #[.pointer (some ⟨B, 0, none⟩)]] w fun e w' => e = .returned (.slice A l.length c) ∧ Below w.heap.size w w' := by
  have HS := Aside0.mk (sep_start w)
  have hi := idx_52 B now A c l w h1 hr
  rw [idx_none _ _ hn] at hi
  have HI := Aside0.mk hi
  clear h1 hr hn hi
  go_enter Try.func51, Try.ntmps51
  go_wp2_with (go_at_call 53; refine HI.out.mono ?_; rintro e w1 ⟨rfl, hb_⟩; have n_ := sep_below HS.out hb_; clear hb_; have n0_ := Aside0.mk n_; clear HS n_; have HS := n0_; clear n0_)
  go_ret
  exact ⟨rfl, sep_below_of HS.out⟩
theorem sep_none {w0 w : World} {ok0 : Nat → Prop} {F : Asn} {α : Type} {d : Kd α} {e g n c : Nat} {xs : List α} (h : Sep w0 ok0 (row d e (.slice (some ⟨g, 0, none⟩) n c) xs ⋆ F) w) : Sep w0 ok0 (row d e (.slice (some ⟨g, 0, none⟩) 0 c) [] ⋆ F) w := by
  refine sep_head h (fun ok hh => ?_)
  obtain ⟨hok, inner, hown, hr⟩ := hh
  rcases hown.2 with ⟨hv, _⟩ | ⟨g', cap', cur, hv, hb, hg, hnc', hcm, hcs, htake⟩
  · cases hv
  injection hv with ha _ hc
  injection ha with ha
  injection ha with hg2
  subst hg2; subst hc
  exact ⟨fun k hk => hok k hk, [], ⟨by simp, .inr ⟨g, c, cur, rfl, hb, hg, Nat.zero_le _, hcm, hcs, by simp⟩⟩, Reps.none _ _⟩
theorem zero100 (w : World) : (zeroValue 100).run Try.prog w = .ok z100 w := by kernel_rfl
theorem clear100 (W : World) (ty : TypeId) (g o m : Nat) (cur : Array Value) (hh : W.heap[g]? = some (.cells cur 100 (0, 0))) (hfit : o + 7 ≤ cur.size) :
    (Builtin.clear_ #[84] ty #[.slice (some ⟨g, o, none⟩) 1 m]).run Try.prog W = .ok (.tuple #[]) (W.setCells g o z100.cells.toList) := by
  have hzc : (Builtin.zeroCells z100.cells 1).toList = z100.cells.toList := by kernel_rfl
  have hst := run_storeCells_cells (P := Try.prog) g o z100.cells.toList 0 W (fun j hj => by rw [Nat.add_zero, blk_cell hh]; simp; have : j < 7 := hj; omega) (fun j hj => blk_frozen hh _) (by decide +kernel)
  simp only [Nat.add_zero] at hst
  simp [Builtin.clear_, run_underlying Try.underlying84, zero100]
  show ((Sem.run Try.prog (storeCells ⟨g, o, none⟩ (Builtin.zeroCells z100.cells 1).toList) W).andThen _) = _
  rw [hzc, hst]
  rfl
set_option maxRecDepth 100000 in
/-- The only one goes. -/
theorem del_one (B g : Nat) (now : Int) (c : Nat) (x : RBd) (w : World) (ok : Nat → Prop) (h1 : w.cell? ⟨B, 0, none⟩ = some (.int .u64 now)) (hg : goneB now x = true) (h : (row rbdK 100 (.slice (some ⟨g, 0, none⟩) 1 c) [x] ⋆ emp).H w ok) :
    Calls Try.prog 51 #[.slice (some ⟨g, 0, none⟩) 1 c, .func (.func 52) #[] #[.pointer (some ⟨B, 0, none⟩)]] w fun e w' => e = .returned (.slice (some ⟨g, 0, none⟩) 0 c) ∧ Sep w ok (row rbdK 100 (.slice (some ⟨g, 0, none⟩) 0 c) [] ⋆ emp) w' := by
  have hs := sep_begin h
  obtain ⟨A', c', e', hc, hC⟩ := sep_row hs
  cases e'
  have hi := idx_52 B now (some ⟨g, 0, none⟩) c [x] w h1 hC
  rw [idx_found _ [x] 0 x rfl hg (by rfl)] at hi
  have HI := Aside0.mk hi
  have HS := Aside0.mk hs
  have HC := Aside0.mk hc
  obtain ⟨i0, hi0, hz_⟩ := Option.map_eq_some_iff.1 info100
  have hsz0 : i0.size = 7 := by injection hz_ with _ h1; injection h1
  have hc1 : 1 ≤ c := hc
  have hcutA : ∀ W : World, (Instr.slice 84 (.slice (some ⟨g, 0, none⟩) 1 c) none (some (.int .i64 0)) none).run Try.prog W = .ok (.slice (some ⟨g, 0, none⟩) 0 c) W := cut_to (P := Try.prog) 84 100 .i64 Try.underlying84 hi0 (some ⟨g, 0, none⟩) 1 c 0 (by omega) (by omega) hc
  have hcutB : ∀ W : World, (Instr.slice 84 (.slice (some ⟨g, 0, none⟩) 1 c) (some (.int .i64 0)) none none).run Try.prog W = .ok (.slice (some ⟨g, 0, none⟩) 1 c) W := by
    have := cut_from (P := Try.prog) 84 100 .i64 Try.underlying84 hi0 7 hsz0 (some ⟨g, 0, none⟩) 1 c 0 (by omega) (by omega)
    rw [show ((0 : Int)).toNat = 0 from rfl, if_neg (by omega), Option.map_some, add_at] at this
    exact this
  clear h h1 hg hs hc hC hi hi0 hz_ hsz0 hc1
  go_enter Try.func51, Try.ntmps51
  go_upto_region 5 with (go_at_call 53; refine HI.out.mono ?_; rintro e w1 ⟨rfl, hb_⟩; have n_ := sep_none (sep_below HS.out hb_); clear hb_; have n0_ := Aside0.mk n_; clear HS n_; have HS := n0_; clear n0_)
  go_loopg [5, 6] 0 (fun gg v5 v6 wr => v5 = .int .i64 0 ∧ v6 = .int .i64 1 ∧ Aside0 (Sep w ok (row rbdK 100 (.slice (some ⟨g, 0, none⟩) 0 c) [] ⋆ emp) wr))
  case atStart => exact ⟨rfl, rfl, HS⟩
  case round =>
    clear HS
    obtain ⟨rfl, rfl, HS⟩ := hrel
    obtain ⟨cur, hcur, hcs⟩ := sep_block rbdK HS.out
    have hclr := fun ty => clear100 wr ty g 0 c cur hcur (by rw [hcs]; have := HC.out; show _ ≤ c * 7; simp at this; omega)
    have HF := Aside0.mk (sep_spare rbdK HS.out 0 z100.cells.toList (Nat.le_of_eq (Nat.zero_mul _)) (by have := HC.out; show 0 + 7 ≤ c * 7; simp at this; omega))
    clear hcur hcs HS
    generalize z100.cells.toList = zs at hclr HF
    go_wp2
    go_ret
    exact ⟨rfl, HF.out⟩
end Go.Proofs.Ytobfabfoenldfaa.NW
/- Boxes: Sweep, free. Conditions: those that each theorem names. -/
namespace Go.Proofs.Ytobfabfoenldfaa.NW
set_option linter.unusedVariables false
set_option linter.unusedSimpArgs false
open Go Go.RowKit Go.Proofs.YtobfabfoenldfaaS Go.Proofs.YtobfabfoenldfaaS.Asn Go.Proofs.Ytobfabfoenldfaa.PA Go.Proofs.YtobfabfoenldfaaW.PrintWords Go.Proofs.YtobfabfoenldfaaW.PrintLast Go.Proofs.YtobfabfoenldfaaW.PrintMore

theorem facts6 {w0 w : World} {ok0 : Nat → Prop} {F : Asn} {g : Nat} {t : TypeId} {a b c d e f : Value} (h : Sep w0 ok0 (pt g #[a, b, c, d, e, f] t ⋆ F) w) :
    w.cell? ⟨g, 0, none⟩ = some a ∧ w.cell? ⟨g, 1, none⟩ = some b ∧ w.cell? ⟨g, 2, none⟩ = some c ∧ w.cell? ⟨g, 3, none⟩ = some d ∧ w.cell? ⟨g, 4, none⟩ = some e ∧ w.cell? ⟨g, 5, none⟩ = some f :=
  ⟨sep_cell h 0, sep_cell h 1, sep_cell h 2, sep_cell h 3, sep_cell h 4, sep_cell h 5⟩
theorem gone_none {R : List RBd} {L : List Bd} {now : Int} (hm : MatL R L) (h : ∀ x ∈ L, now < x.un) : R.any (goneB now) = false := by
  rw [List.any_eq_false]
  intro r hr
  obtain ⟨k, hk⟩ := List.getElem?_of_mem hr
  have hkl : k < L.length := by rw [← hm.1]; exact (List.getElem?_eq_some_iff.1 hk).1
  have := hm.2 k r _ hk (List.getElem?_eq_getElem hkl)
  have h2 := h _ (List.getElem_mem hkl)
  unfold goneB
  simp only [decide_eq_true_eq]
  obtain ⟨-, -, -, -, -, e, -⟩ := this
  omega
theorem sweep_keep (p : Nat) (B : Bx) (now : Int) (w : World) (ok : Nat → Prop) (hn : ∀ x ∈ B.l, now < x.un) (hl : B.l.length ≤ 100) (h : (boxA p B ⋆ emp).H w ok) :
    Calls Try.prog 41 #[.pointer (some ⟨p, 0, none⟩), .int .u64 now] w fun e w' => e = .returned (.int .i64 0) ∧ Sep w ok (boxA p B ⋆ emp) w' := by
  obtain ⟨A, c, R, hm, hc, n_⟩ := box_open (sep_begin h)
  have HM := Aside0.mk hm
  have HL := Aside0.mk hl
  have HN := Aside0.mk (gone_none hm hn)
  have HS := Aside0.mk n_
  clear h hn hl hm hc n_
  go_enter Try.func41, Try.ntmps41
  go_upto_region 1 with (fail)
  have n_ := sep_l3 (sep_l3 (sep_l3 (sep_alloc HS.out #[.int .u64 now] 36)))
  have n0_ := Aside0.mk n_; clear HS n_; have HS := n0_; clear n0_
  generalize w.alloc (.cells #[.int .u64 now] 36) = wa at HS ⊢
  generalize w.heap.size = g3 at HS ⊢
  (try clear b1 b2 b3 b4 b5 b6 bf); obtain ⟨b1, b2, b3, b4, b5, b6⟩ := facts6 HS.out; have bf := sep_frozen HS.out 5
  have w1_ : wrap64 ((B.l.length : Int) - (B.l.length : Int)) = 0 := by unfold wrap64; omega
  go_wp2_with (go_at_call 51; have hx_ := del_none g3 now A c R _ (sep_cell (sep_l3 HS.out) 0) (sep_row' (sep_l1 HS.out)).2.2 HN.out; rw [HM.out.1] at hx_; (with_reducible refine Calls.mono hx_ ?_); rintro e w1 ⟨rfl, hb_⟩; have n_ := sep_below HS.out hb_; clear hb_ hx_; have n0_ := Aside0.mk n_; clear HS n_; have HS := n0_; clear n0_; (try clear b1 b2 b3 b4 b5 b6 bf); obtain ⟨b1, b2, b3, b4, b5, b6⟩ := facts6 HS.out; have bf := sep_frozen HS.out 5)
  go_ret
  exact ⟨rfl, box_mk HM.out (sep_drop (sep_l3 (sep_set HS.out 5 (.slice A B.l.length c))))⟩
theorem sweep_one (p : Nat) (B : Bx) (now : Int) (x : Bd) (w : World) (ok : Nat → Prop) (hB : B.l = [x]) (hx : x.un ≤ now) (h : (boxA p B ⋆ emp).H w ok) :
    Calls Try.prog 41 #[.pointer (some ⟨p, 0, none⟩), .int .u64 now] w fun e w' => e = .returned (.int .i64 1) ∧ Sep w ok (boxA p { B with l := [] } ⋆ emp) w' := by
  obtain ⟨A, c, R, hm, hc, n_⟩ := box_open (sep_begin h)
  rw [hB] at hm hc n_
  obtain ⟨r, rfl⟩ : ∃ r, R = [r] := by
    match R, hm.1 with
    | [r], _ => exact ⟨r, rfl⟩
  have hg : goneB now r = true := by
    obtain ⟨-, -, -, -, -, e, -⟩ := hm.2 0 r x rfl rfl
    exact decide_eq_true (by omega)
  obtain ⟨g, rfl⟩ := row_addr (sep_l1 n_) (by simp)
  have HG := Aside0.mk hg
  have HS := Aside0.mk n_
  clear h hB hx hm hc n_ hg
  go_enter Try.func41, Try.ntmps41
  go_upto_region 1 with (fail)
  have n_ := sep_l3 (sep_l3 (sep_l3 (sep_alloc HS.out #[.int .u64 now] 36)))
  have n0_ := Aside0.mk n_; clear HS n_; have HS := n0_; clear n0_
  generalize w.alloc (.cells #[.int .u64 now] 36) = wa at HS ⊢
  generalize w.heap.size = g3 at HS ⊢
  (try clear b1 b2 b3 b4 b5 b6 bf); obtain ⟨b1, b2, b3, b4, b5, b6⟩ := facts6 HS.out; have bf := sep_frozen HS.out 5
  go_upto_region 3 with (go_at_call 51; obtain ⟨ok_, hp_, hk_⟩ := sep_use1 (sep_l1 HS.out); have hx_ := del_one g3 g now c r _ ok_ (sep_cell (sep_l3 HS.out) 0) HG.out hp_; (with_reducible refine Calls.mono hx_ ?_); rintro e w1 ⟨rfl, hq_⟩; have n_ := sep_l1 (back1 hk_ hq_); clear hq_ hk_ hp_ hx_; have n0_ := Aside0.mk n_; clear HS n_; have HS := n0_; clear n0_; (try clear b1 b2 b3 b4 b5 b6 bf); obtain ⟨b1, b2, b3, b4, b5, b6⟩ := facts6 HS.out; have bf := sep_frozen HS.out 5)
  have n_ := sep_set HS.out 5 (.slice (some ⟨g, 0, none⟩) 0 c)
  have n0_ := Aside0.mk n_; clear HS n_; have HS := n0_; clear n0_
  generalize w1.setCell ⟨p, 5, none⟩ (.slice (some ⟨g, 0, none⟩) 0 c) = wb at HS ⊢
  (try clear b1 b2 b3 b4 b5 b6 bf); obtain ⟨b1, b2, b3, b4, b5, b6⟩ := facts6 HS.out; have bf := sep_frozen HS.out 5
  go_wp2
  go_ret
  exact ⟨rfl, box_mk (B := { B with l := [] }) (R := []) ⟨rfl, fun j r x h => by cases h⟩ (sep_l2 (sep_l2 (sep_pool_sub (M := poolOf [] []) (sep_l2 (sep_drop (sep_l3 HS.out))) (fun y hy => by unfold poolOf at hy; simp at hy))))⟩
/-! ## free -/
def FreeRel (w : World) (ok : Nat → Prop) (p : Nat) (B : Bx) (A : Option Addr) (c : Nat) (R : List RBd) (kq : Nat) (v3 : Value) (w' : World) : Prop :=
  ∃ n : Nat, v3 = .int .u16 (20000 + (n : Int)) ∧ Aside0 (n ≤ R.length) ∧ Aside0 (R.length - n ≤ kq) ∧ Aside0 (Sep w ok (pt p #[.int .i64 B.mp, .int .i64 B.fl, .int .u32 B.ip, .int .u64 B.hold, .int .i64 B.room, .slice A R.length c] 86 ⋆ row rbdK 100 (.slice A R.length c) R ⋆ pool k28 (poolOf R B.l) ⋆ emp) w')
set_option maxHeartbeats 4000000 in
set_option maxRecDepth 100000 in
theorem free_walk (p : Nat) (B : Bx) (A : Option Addr) (c : Nat) (R : List RBd) (w : World) (ok : Nat → Prop) (hm : MatL R B.l) (hB : B.l = [] ∨ ∃ x, B.l = [x] ∧ x.po = 20000) (h : (pt p #[.int .i64 B.mp, .int .i64 B.fl, .int .u32 B.ip, .int .u64 B.hold, .int .i64 B.room, .slice A B.l.length c] 86 ⋆ row rbdK 100 (.slice A B.l.length c) R ⋆ pool k28 (poolOf R B.l) ⋆ emp).H w ok) :
    Calls Try.prog 61 #[.pointer (some ⟨p, 0, none⟩)] w fun e w' => e = .returned (.int .u16 (20000 + (B.l.length : Int))) ∧ Sep w ok (pt p #[.int .i64 B.mp, .int .i64 B.fl, .int .u32 B.ip, .int .u64 B.hold, .int .i64 B.room, .slice A B.l.length c] 86 ⋆ row rbdK 100 (.slice A B.l.length c) R ⋆ pool k28 (poolOf R B.l) ⋆ emp) w' := by
  have n_ := sep_begin h
  have HM := Aside0.mk hm
  rw [← hm.1] at n_ ⊢
  have HS := Aside0.mk n_
  have hr : R = [] ∨ ∃ r, R = [r] ∧ r.po = 20000 := by
    rcases hB with hB | ⟨x, hB, hx⟩
    · left
      rw [hB] at hm
      exact List.eq_nil_of_length_eq_zero hm.1
    · right
      rw [hB] at hm
      match R, hm.1 with
      | [r], _ =>
        obtain ⟨-, -, -, -, e, -⟩ := hm.2 0 r x rfl rfl
        exact ⟨r, rfl, by omega⟩
  have hR1 : R.length ≤ 1 := by
    rcases hr with rfl | ⟨r, rfl, -⟩
    · exact Nat.zero_le _
    · exact Nat.le_refl _
  have HR := Aside0.mk hr
  have HR1 := Aside0.mk hR1
  clear h hB hm n_ hr hR1
  go_enter Try.func61, Try.ntmps61
  go_upto_region 1 with (refine Go.Proofs.YtobfabfoenldfaaX.wp_scope_k ?_; intro Jg hJg; have HJg := Aside0.mk hJg; clear hJg)
  go_wp2
  refine wp_label ?_
  go_step
  (first | (show Code.wp _ _ _ _ _) | go_step)
  refine Go.Proofs.YtobfabfoenldfaaX.wp_label_ghost 0 [3, 5, 6, 7, 8, 9, 10, 11, 12, 13, 14, 15, 16, 17, 18, 19, 20, 21, 22] (fun kq u w' => (FreeRel w ok p B A c R) kq (u 3) w') (R.length) ?hJ ?atStart ?round
  case hJ => exact fun a w h => HJg.out _ _ _ _ rfl (Go.Proofs.YtobfabfoenldfaaX.wp_skip_seq h)
  case atStart => exact ⟨0, rfl, ⟨Nat.zero_le _⟩, ⟨Nat.le_refl _⟩, HS⟩
  case round =>
    clear HS
    intro gk u wr hrel Ji hI hH
    have hL : ∀ (kq : Nat) (u3 u5 u6 u7 u8 u9 u10 u11 u12 u13 u14 u15 u16 u17 u18 u19 u20 u21 u22 : Value) (w' : World), (FreeRel w ok p B A c R) kq u3 w' → Ji kq ⟨Go.Proofs.YtobfabfoenldfaaX.setAll _ [3, 5, 6, 7, 8, 9, 10, 11, 12, 13, 14, 15, 16, 17, 18, 19, 20, 21, 22] (Go.Proofs.YtobfabfoenldfaaX.sel [(3, u3), (5, u5), (6, u6), (7, u7), (8, u8), (9, u9), (10, u10), (11, u11), (12, u12), (13, u13), (14, u14), (15, u15), (16, u16), (17, u17), (18, u18), (19, u19), (20, u20), (21, u21), (22, u22)]), _⟩ w' := fun kq u3 u5 u6 u7 u8 u9 u10 u11 u12 u13 u14 u15 u16 u17 u18 u19 u20 u21 u22 w' h => hI kq _ w' ⟨Go.Proofs.YtobfabfoenldfaaX.sel [(3, u3), (5, u5), (6, u6), (7, u7), (8, u8), (9, u9), (10, u10), (11, u11), (12, u12), (13, u13), (14, u14), (15, u15), (16, u16), (17, u17), (18, u18), (19, u19), (20, u20), (21, u21), (22, u22)], h, rfl⟩
    clear hI
    simp only [Go.Proofs.YtobfabfoenldfaaX.setAll, Go.Proofs.YtobfabfoenldfaaX.sel, Nat.reduceEqDiff, ↓reduceIte, List.setIfInBounds_toArray, List.set_cons_zero, List.set_cons_succ] at hL
    simp only [Go.Proofs.YtobfabfoenldfaaX.setAll, Go.Proofs.YtobfabfoenldfaaX.sel, Nat.reduceEqDiff, ↓reduceIte, List.setIfInBounds_toArray, List.set_cons_zero, List.set_cons_succ]
    generalize u 3 = u3 at hrel ⊢
    generalize u 5 = u5 at hrel ⊢
    generalize u 6 = u6 at hrel ⊢
    generalize u 7 = u7 at hrel ⊢
    generalize u 8 = u8 at hrel ⊢
    generalize u 9 = u9 at hrel ⊢
    generalize u 10 = u10 at hrel ⊢
    generalize u 11 = u11 at hrel ⊢
    generalize u 12 = u12 at hrel ⊢
    generalize u 13 = u13 at hrel ⊢
    generalize u 14 = u14 at hrel ⊢
    generalize u 15 = u15 at hrel ⊢
    generalize u 16 = u16 at hrel ⊢
    generalize u 17 = u17 at hrel ⊢
    generalize u 18 = u18 at hrel ⊢
    generalize u 19 = u19 at hrel ⊢
    generalize u 20 = u20 at hrel ⊢
    generalize u 21 = u21 at hrel ⊢
    generalize u 22 = u22 at hrel ⊢
    clear u
    obtain ⟨n, rfl, HN, HMM, HS⟩ := hrel
    (try clear b1 b2 b3 b4 b5 b6 bf); obtain ⟨b1, b2, b3, b4, b5, b6⟩ := facts6 HS.out; have bf := sep_frozen HS.out 5
    go_upto_region 3 with (fail)
    go_loopg [3, 11] R.length (fun gg v3 v11 wr => ∃ k : Nat, k ≤ R.length ∧ R.length - k ≤ gg ∧ v11 = .int .i64 (k : Int) ∧ v3 = .int .u16 (20000 + (n : Int)) ∧ Aside0 (k = 1 → n = 1) ∧ Aside0 (Sep w ok (pt p #[.int .i64 B.mp, .int .i64 B.fl, .int .u32 B.ip, .int .u64 B.hold, .int .i64 B.room, .slice A R.length c] 86 ⋆ row rbdK 100 (.slice A R.length c) R ⋆ pool k28 (poolOf R B.l) ⋆ emp) wr))
    case atStart => exact ⟨0, Nat.zero_le _, by omega, rfl, rfl, ⟨fun h => absurd h (by decide)⟩, HS⟩
    case round =>
      clear HS b1 b2 b3 b4 b5 b6 bf
      obtain ⟨k, hk, hgk, rfl, rfl, HK1, HS⟩ := hrel
      (try clear b1 b2 b3 b4 b5 b6 bf); obtain ⟨b1, b2, b3, b4, b5, b6⟩ := facts6 HS.out; have bf := sep_frozen HS.out 5
      by_cases hlt : k < R.length
      · have c1b : decide ((k : Int) < (R.length : Int)) = true := decide_eq_true (Int.ofNat_lt.2 hlt); have c1n : decide (k < R.length) = true := decide_eq_true hlt; have c1i : ((k : Int) < (R.length : Int)) = True := eq_true (Int.ofNat_lt.2 hlt); have c1q : (k < R.length) = True := eq_true hlt; have p0_ := eq_true (Int.natCast_nonneg k)
        have hk0 : k = 0 := by have := HR1.out; omega
        obtain ⟨r, hr, hpo⟩ : ∃ r, R[k]? = some r ∧ r.po = 20000 := by
          rcases HR.out with h | ⟨r, h, h2⟩
          · rw [h] at hlt; exact absurd hlt (Nat.not_lt_zero _)
          · exact ⟨r, by rw [hk0, h]; rfl, h2⟩
        obtain ⟨g, rfl⟩ := row_addr (sep_l1 HS.out) (by omega)
        obtain ⟨⟨m0, m1, m2, m3, m4, m5, m6⟩, -⟩ := rbd_now (sep_l1 HS.out) k r hr
        rw [hpo] at m4
        have HI := Aside0.mk (And.intro hlt (And.intro hk0 hgk))
        have hn : n = 0 ∨ n = 1 := by have := HN.out; have := HR1.out; omega
        have HNN := Aside0.mk hn
        clear hk hgk hlt hk0 hr hpo hn
        go_upto_region 5 with (fail)
        have n_ := sep_l3 (sep_l3 (sep_l3 (sep_alloc HS.out #[.int .u32 r.ii, .int .u16 r.ip, .int .u32 r.ki, .int .u16 r.kp, .int .u16 20000, .slice r.A r.n r.c, .int .u64 r.un] 100)))
        have n0_ := Aside0.mk n_; clear HS n_; have HS := n0_; clear n0_
        generalize wr.alloc (.cells #[.int .u32 r.ii, .int .u16 r.ip, .int .u32 r.ki, .int .u16 r.kp, .int .u16 20000, .slice r.A r.n r.c, .int .u64 r.un] 100) = wa at HS ⊢
        generalize wr.heap.size = g5 at HS ⊢
        clear m0 m1 m2 m3 m4 m5 m6
        obtain ⟨m0, m1, m2, m3, m4, m5, m6⟩ := facts7 (sep_l3 HS.out)
        have n_ := sep_drop (sep_l3 HS.out)
        have n0_ := Aside0.mk n_; clear HS n_; have HS := n0_; clear n0_
        rcases HNN.out with h0 | h0
        · have t1 : ((20000 : Int) == 20000 + (n : Int)) = true := by rw [beq_iff_eq]; omega
          have t2 : ((20000 : Int) = 20000 + (n : Int)) = True := eq_true (by omega)
          have HN0 := Aside0.mk h0
          clear h0
          go_wp2
          refine wp_goto ?_
          refine hH _ _ ?_
          refine Handed.intro (0) ?measure ?_
          rotate_left
          refine hL _ _ _ _ _ _ _ _ _ _ _ _ _ _ _ _ _ _ _ _ _ ?rel
          case measure => have := HMM.out; have := HI.out; have := HN0.out; omega
          case rel => exact ⟨n + 1, congrArg (Value.int .u16) (by have := HN0.out; rw [show IntKind.u16.wrap (20000 + (n : Int) + 1) = (20000 + (n : Int) + 1) % 65536 from rfl]; omega), ⟨by have := HI.out; have := HN0.out; omega⟩, ⟨by have := HR1.out; have := HN0.out; omega⟩, HS⟩
        · have t1 : ((20000 : Int) == 20000 + (n : Int)) = false := by rw [beq_eq_false_iff_ne]; omega
          have t2 : ((20000 : Int) = 20000 + (n : Int)) = False := eq_false (by omega)
          have HN0 := Aside0.mk h0
          clear h0
          go_wp2
          go_roundg (R.length - (k + 1))
          case measure => have := HI.out; omega
          case rel => exact ⟨k + 1, HI.out.1, Nat.le_refl _, congrArg (Value.int .i64) (by have := HI.out; unfold wrap64; omega), rfl, ⟨fun _ => HN0.out⟩, HS⟩
      · have hkl : k = R.length := by omega
        have c2b : decide ((k : Int) < (R.length : Int)) = false := decide_eq_false (by omega)
        have c2n : decide (k < R.length) = false := decide_eq_false (by omega)
        have c2q : (k < R.length) = False := eq_false (by omega)
        have c2r : ((k : Int) < (R.length : Int)) = False := eq_false (by omega)
        have HKL := Aside0.mk hkl
        clear hk hgk hlt hkl
        go_wp2
        (try rw [Go.Proofs.YtobfabfoenldfaaX.jumps_ret])
        go_ret
        have hnl : n = R.length := by
          have h1 := HK1.out
          have h2 := HKL.out
          have h3 := HN.out
          have h4 := HR1.out
          rcases Nat.eq_zero_or_pos R.length with h | h
          · omega
          · have := h1 (by omega); omega
        rw [hnl]
        exact ⟨rfl, HS.out⟩
end Go.Proofs.Ytobfabfoenldfaa.NW
/- Boxes: bind. Conditions: those that each theorem names. -/
namespace Go.Proofs.Ytobfabfoenldfaa.NW
set_option linter.unusedVariables false
set_option linter.unusedSimpArgs false
open Go Go.RowKit Go.Proofs.YtobfabfoenldfaaS Go.Proofs.YtobfabfoenldfaaS.Asn Go.Proofs.Ytobfabfoenldfaa.PA Go.Proofs.YtobfabfoenldfaaW.PrintWords Go.Proofs.YtobfabfoenldfaaW.PrintLast Go.Proofs.YtobfabfoenldfaaW.PrintMore


theorem h_take {P : Program} {md : Region.Mode} {l : List Oper} {Q : Exit → Act → World → Prop} {S : World → Prop} (i : Nat) {oi : Oper} {v : Value} {fuel : Nat} {listed : Array Bool} {a : Act} {w : World} (hS : S w) (hi : l[i]? = some oi)
    (hs : Region.noSelect l.toArray = true) (hf : Region.free md l.toArray listed i = true) (hr : (Region.ready md l.toArray listed).contains i = true) (hQ : ∀ c a w, Q (.panic c) (a.put oi.dst v) w → Q (.panic c) a w)
    (hw : Region.wanted oi (yielded l.toArray a.tmps) = true) (hy : ∀ w, S w → (execOp a.eval oi).run P w = .ok (.value v) w)
    (h : wpAnyH P md l.toArray Q S fuel (listed.setIfInBounds i true) (a.put oi.dst v) w) : wpAnyH P md l.toArray Q S (fuel + 1) listed a w :=
  wpAnyH_take (by rw [List.getElem?_toArray]; exact hi) hs hf hr hQ (Or.inl ⟨hw, hy⟩) hS h
theorem h_one {P : Program} {md : Region.Mode} {l : List Oper} {Q : Exit → Act → World → Prop} {S : World → Prop} (i : Nat) {oi : Oper} {fuel : Nat} {listed : Array Bool} {a : Act} {w : World}
    (hr : Region.ready md l.toArray listed = [i]) (hi : l[i]? = some oi) (hw : Region.wanted oi (yielded l.toArray a.tmps) = true)
    (h : ∀ K : Act → World → Prop, Shut (∀ a w, S w → (S w → wpAnyH P md l.toArray Q S fuel (listed.setIfInBounds i true) a w) → K a w) → Oper.wp P oi a w K Q) : wpAnyH P md l.toArray Q S (fuel + 1) listed a w :=
  wpAnyH_ready hr (by simp) (AllReadyH.cons (by rw [List.getElem?_toArray]; exact hi) (fun K hK => by rw [if_pos hw]; exact h K hK) AllReadyH.nil)
theorem h_two {P : Program} {md : Region.Mode} {l : List Oper} {Q : Exit → Act → World → Prop} {S : World → Prop} (i j : Nat) {oi oj : Oper} {fuel : Nat} {listed : Array Bool} {a : Act} {w : World}
    (hr : Region.ready md l.toArray listed = [i, j]) (hi : l[i]? = some oi) (hj : l[j]? = some oj) (hw : Region.wanted oi (yielded l.toArray a.tmps) = true) (hw2 : Region.wanted oj (yielded l.toArray a.tmps) = true)
    (h : ∀ K : Act → World → Prop, Shut (∀ a w, S w → (S w → wpAnyH P md l.toArray Q S fuel (listed.setIfInBounds i true) a w) → K a w) → Oper.wp P oi a w K Q)
    (h2 : ∀ K : Act → World → Prop, Shut (∀ a w, S w → (S w → wpAnyH P md l.toArray Q S fuel (listed.setIfInBounds j true) a w) → K a w) → Oper.wp P oj a w K Q) : wpAnyH P md l.toArray Q S (fuel + 1) listed a w :=
  wpAnyH_ready hr (by simp) (AllReadyH.cons (by rw [List.getElem?_toArray]; exact hi) (fun K hK => by rw [if_pos hw]; exact h K hK) (AllReadyH.cons (by rw [List.getElem?_toArray]; exact hj) (fun K hK => by rw [if_pos hw2]; exact h2 K hK) AllReadyH.nil))
theorem h_raw {P : Program} {md : Region.Mode} {l : List Oper} {Q : Exit → Act → World → Prop} {S : World → Prop} (i : Nat) {oi : Oper} {fuel : Nat} {listed : Array Bool} {a : Act} {w : World}
    (hr : Region.ready md l.toArray listed = [i]) (hi : l[i]? = some oi)
    (h : ∀ K : Act → World → Prop, Shut (∀ a w, S w → (S w → wpAnyH P md l.toArray Q S fuel (listed.setIfInBounds i true) a w) → K a w) → if Region.wanted oi (yielded l.toArray a.tmps) = true then Oper.wp P oi a w K Q else K (a.put oi.dst undef) w) : wpAnyH P md l.toArray Q S (fuel + 1) listed a w :=
  wpAnyH_ready hr (by simp) (AllReadyH.cons (by rw [List.getElem?_toArray]; exact hi) (fun K hK => h K hK) AllReadyH.nil)
def bindX (i k : S28) (x : Bd) : Bool := (x.ii == i.f0 && x.ip == i.f1) && (x.ki == k.f0 && x.kp == k.f1)
def portX (port : Int) (x : Bd) : Bool := x.po == port
theorem idx_mat {f : RBd → Bool} {g : Bd → Bool} (h : ∀ r x, Mat r x → f r = g x) : ∀ {R : List RBd} {L : List Bd}, MatL R L → idx f R = idx g L ∧ R.any f = L.any g := by
  intro R L hm
  have e : R.map f = L.map g := by
    apply List.ext_getElem?
    intro j
    rw [List.getElem?_map, List.getElem?_map]
    rcases Nat.lt_or_ge j R.length with hj | hj
    · have hj2 : j < L.length := by rw [← hm.1]; exact hj
      rw [List.getElem?_eq_getElem hj, List.getElem?_eq_getElem hj2]
      exact congrArg some (h _ _ (hm.2 j _ _ (List.getElem?_eq_getElem hj) (List.getElem?_eq_getElem hj2)))
    · rw [List.getElem?_eq_none hj, List.getElem?_eq_none (by rw [← hm.1]; exact hj)]; rfl
  have e1 : R.any f = L.any g := by
    have := congrArg (fun l => l.any id) e
    simpa [List.any_map] using this
  have e2 : R.findIdx f = L.findIdx g := by
    have := congrArg (fun l => l.findIdx id) e
    simpa [List.findIdx_map] using this
  unfold idx
  rw [e1, e2]
  exact ⟨rfl, rfl⟩
theorem mat_bind (i k : S28) (r : RBd) (x : Bd) (h : Mat r x) : bindB i k r = bindX i k x := by
  obtain ⟨e1, e2, e3, e4, -⟩ := h
  unfold bindB bindX
  rw [e1, e2, e3, e4]
theorem mat_port (p : Int) (r : RBd) (x : Bd) (h : Mat r x) : portB p r = portX p x := by
  obtain ⟨-, -, -, -, e, -⟩ := h
  unfold portB portX
  rw [e]
def newB (i k : S28) (n : Nat) : Bd := ⟨i.f0, i.f1, k.f0, k.f1, 20000 + (n : Int), [], 0⟩
/-- The bindings, one for these among them. -/
def bindL (l : List Bd) (i k : S28) : List Bd := if l.any (bindX i k) = true then l else l ++ [newB i k l.length]
def bindI (l : List Bd) (i k : S28) : Nat := if l.any (bindX i k) = true then l.findIdx (bindX i k) else l.length
theorem keep2 {w0 w' : World} {ok0 : Nat → Prop} {A C D F : Asn} {g4 g5 : Nat} {i k : S28} (h : Sep w0 ok0 (A ⋆ C ⋆ D ⋆ pt g4 #[.int .u32 i.f0, .int .u16 i.f1] 28 ⋆ pt g5 #[.int .u32 k.f0, .int .u16 k.f1] 28 ⋆ F) w') : w'.cell? ⟨g4, 0, none⟩ = some (.int .u32 i.f0) ∧ w'.cell? ⟨g4, 1, none⟩ = some (.int .u16 i.f1) ∧ w'.cell? ⟨g5, 0, none⟩ = some (.int .u32 k.f0) ∧ w'.cell? ⟨g5, 1, none⟩ = some (.int .u16 k.f1) :=
  ⟨sep_cell (sep_l3 h) 0, sep_cell (sep_l3 h) 1, sep_cell (sep_l4 h) 0, sep_cell (sep_l4 h) 1⟩
theorem sep_allocg {w0 w : World} {ok0 : Nat → Prop} {F : Asn} (h : Sep w0 ok0 F w) (cs : Array Value) (t : TypeId) (g : Nat) (hg : w.heap.size = g) : Sep w0 ok0 (pt g cs t ⋆ F) (w.alloc (.cells cs t (0, 0))) := hg ▸ sep_alloc h cs t
theorem szS {w : World} (o : Obj) {n : Nat} (h : w.heap.size = n) : (w.alloc o).heap.size = n + 1 := by rw [← h]; simp
set_option maxHeartbeats 1000000 in
/-- Who is bound already. -/
theorem bind_found (p : Nat) (B : Bx) (i k : S28) (j : Nat) (x : Bd) (w : World) (ok : Nat → Prop) (hj : idx (bindX i k) B.l = (j : Int)) (hx : B.l[j]? = some x) (hl : B.l.length ≤ 100) (h : (boxA p B ⋆ emp).H w ok) :
    Calls Try.prog 42 #[.pointer (some ⟨p, 0, none⟩), .agg #[.int .u32 i.f0, .int .u16 i.f1], .agg #[.int .u32 k.f0, .int .u16 k.f1]] w fun e w' => ∃ (g c : Nat) (R : List RBd), e = .returned (.pointer (some ⟨g, j * 7, none⟩)) ∧ MatL R B.l ∧ B.l.length ≤ c ∧ Sep w ok (pt p #[.int .i64 B.mp, .int .i64 B.fl, .int .u32 B.ip, .int .u64 B.hold, .int .i64 B.room, .slice (some ⟨g, 0, none⟩) B.l.length c] 86 ⋆ row rbdK 100 (.slice (some ⟨g, 0, none⟩) B.l.length c) R ⋆ pool k28 (poolOf R B.l) ⋆ emp) w' := by
  have HJ := Aside0.mk (And.intro hj (And.intro hx hl))
  clear hj hx hl
  obtain ⟨A, c, R, hm, hc, n_⟩ := box_open (sep_begin h)
  have HM := Aside0.mk hm
  have HC := Aside0.mk hc
  have HS := Aside0.mk n_
  clear h hc n_ hm
  go_enter Try.func42, Try.ntmps42
  go_upto_region 1 with (fail)
  have n_ := sep_l4 (sep_l4 (sep_l4 (sep_l4 (sep_allocg (sep_l3 (sep_l3 (sep_l3 (sep_allocg HS.out #[.int .u32 i.f0, .int .u16 i.f1] 28 _ rfl)))) #[.int .u32 k.f0, .int .u16 k.f1] 28 _ (szS _ rfl)))))
  have n0_ := Aside0.mk n_; clear HS n_; have HS := n0_; clear n0_
  generalize (w.alloc (.cells #[.int .u32 i.f0, .int .u16 i.f1] 28)).alloc (.cells #[.int .u32 k.f0, .int .u16 k.f1] 28) = wa at HS ⊢
  generalize w.heap.size + 1 = g5 at HS ⊢
  generalize w.heap.size = g4 at HS ⊢
  (try clear b1 b2 b3 b4 b5 b6 bf); obtain ⟨b1, b2, b3, b4, b5, b6⟩ := facts6 HS.out; have bf := sep_frozen HS.out 5
  (try clear m1 m2 m3 m4); obtain ⟨m1, m2, m3, m4⟩ := keep2 HS.out
  have hix := (idx_mat (mat_bind i k) HM.out).1
  rw [HJ.out.1] at hix
  have HIX := Aside0.mk hix
  clear hix
  have hjl : j < B.l.length := (List.getElem?_eq_some_iff.1 HJ.out.2.1).1
  have c1b : decide ((j : Int) < (B.l.length : Int)) = true := decide_eq_true (Int.ofNat_lt.2 hjl); have c1n : decide (j < B.l.length) = true := decide_eq_true hjl; have c1i : ((j : Int) < (B.l.length : Int)) = True := eq_true (Int.ofNat_lt.2 hjl); have c1q : (j < B.l.length) = True := eq_true hjl; have p0_ := eq_true (Int.natCast_nonneg j)
  obtain ⟨g, hA⟩ := row_addr (sep_l1 HS.out) (by rw [HM.out.1]; omega)
  subst hA
  clear hjl
  have e1 : decide ((j : Int) ≥ 0) = true := decide_eq_true (by omega)
  have e2 : decide ((0 : Int) ≤ (j : Int)) = true := decide_eq_true (by omega)
  go_wp2_with (go_at_call 53; have hx_ := idx_54 g4 g5 i k _ c R _ m1 m2 m3 m4 (sep_row' (sep_l1 HS.out)).2.2; rw [HIX.out, HM.out.1] at hx_; (with_reducible refine Calls.mono hx_ ?_); rintro e w1 ⟨rfl, hb_⟩; have n_ := sep_below HS.out hb_; clear hb_ hx_; have n0_ := Aside0.mk n_; clear HS n_; have HS := n0_; clear n0_; (try clear b1 b2 b3 b4 b5 b6 bf); obtain ⟨b1, b2, b3, b4, b5, b6⟩ := facts6 HS.out; have bf := sep_frozen HS.out 5; (try clear m1 m2 m3 m4); obtain ⟨m1, m2, m3, m4⟩ := keep2 HS.out)
  go_ret
  exact ⟨g, c, R, rfl, HM.out, HC.out, sep_flat (sep_flat (sep_fold (sep_fold (sep_drop (sep_l3 (sep_drop (sep_l4 HS.out)))))))⟩
theorem keepF {w0 w' : World} {ok0 : Nat → Prop} {D F : Asn} {p g4 g5 : Nat} {B : Bx} {i k : S28} {u v : Value} {R : List RBd} (h : Sep w0 ok0 (row rbdK 100 u R ⋆ pt p #[.int .i64 B.mp, .int .i64 B.fl, .int .u32 B.ip, .int .u64 B.hold, .int .i64 B.room, v] 86 ⋆ D ⋆ pt g4 #[.int .u32 i.f0, .int .u16 i.f1] 28 ⋆ pt g5 #[.int .u32 k.f0, .int .u16 k.f1] 28 ⋆ F) w') : (w'.cell? ⟨g4, 0, none⟩ = some (.int .u32 i.f0) ∧ w'.cell? ⟨g4, 1, none⟩ = some (.int .u16 i.f1) ∧ w'.cell? ⟨g5, 0, none⟩ = some (.int .u32 k.f0) ∧ w'.cell? ⟨g5, 1, none⟩ = some (.int .u16 k.f1)) ∧ w'.frozen? ⟨p, 5, none⟩ = false :=
  ⟨keep2 h, sep_frozen (sep_l1 h) 5⟩
theorem keepG {w0 w' : World} {ok0 : Nat → Prop} {C D F : Asn} {p g4 g5 : Nat} {B : Bx} {i k : S28} {v : Value} (h : Sep w0 ok0 (pt p #[.int .i64 B.mp, .int .i64 B.fl, .int .u32 B.ip, .int .u64 B.hold, .int .i64 B.room, v] 86 ⋆ C ⋆ D ⋆ pt g4 #[.int .u32 i.f0, .int .u16 i.f1] 28 ⋆ pt g5 #[.int .u32 k.f0, .int .u16 k.f1] 28 ⋆ F) w') : (w'.cell? ⟨g4, 0, none⟩ = some (.int .u32 i.f0) ∧ w'.cell? ⟨g4, 1, none⟩ = some (.int .u16 i.f1) ∧ w'.cell? ⟨g5, 0, none⟩ = some (.int .u32 k.f0) ∧ w'.cell? ⟨g5, 1, none⟩ = some (.int .u16 k.f1)) ∧ w'.frozen? ⟨p, 5, none⟩ = false :=
  ⟨keep2 h, sep_frozen h 5⟩
def newR (i k : S28) (n : Nat) : RBd := ⟨i.f0, i.f1, k.f0, k.f1, 20000 + (n : Int), none, 0, 0, 0⟩
theorem mat_new (i k : S28) (n : Nat) : Mat (newR i k n) (newB i k n) := ⟨rfl, rfl, rfl, rfl, rfl, rfl, rfl, Nat.le_refl _⟩
set_option maxHeartbeats 4000000 in
set_option maxRecDepth 100000 in
/-- Who is bound now. -/
theorem bind_new (p : Nat) (B : Bx) (i k : S28) (w : World) (ok : Nat → Prop) (hj : B.l.any (bindX i k) = false) (hB : B.l = [] ∨ ∃ x, B.l = [x] ∧ x.po = 20000) (hr : (B.l.length : Int) < B.room) (h : (boxA p B ⋆ emp).H w ok) :
    Calls Try.prog 42 #[.pointer (some ⟨p, 0, none⟩), .agg #[.int .u32 i.f0, .int .u16 i.f1], .agg #[.int .u32 k.f0, .int .u16 k.f1]] w fun e w' => ∃ (g c : Nat) (R : List RBd), e = .returned (.pointer (some ⟨g, B.l.length * 7, none⟩)) ∧ MatL R (B.l ++ [newB i k B.l.length]) ∧ (B.l ++ [newB i k B.l.length]).length ≤ c ∧ Sep w ok (pt p #[.int .i64 B.mp, .int .i64 B.fl, .int .u32 B.ip, .int .u64 B.hold, .int .i64 B.room, .slice (some ⟨g, 0, none⟩) (B.l ++ [newB i k B.l.length]).length c] 86 ⋆ row rbdK 100 (.slice (some ⟨g, 0, none⟩) (B.l ++ [newB i k B.l.length]).length c) R ⋆ pool k28 (poolOf R (B.l ++ [newB i k B.l.length])) ⋆ emp) w' := by
  have hl1 : B.l.length ≤ 1 := by
    rcases hB with h | ⟨x, h, -⟩
    · rw [h]; exact Nat.zero_le _
    · rw [h]; exact Nat.le_refl _
  have HJ := Aside0.mk (And.intro hj (And.intro hB (And.intro hr hl1)))
  clear hj hB hr hl1
  obtain ⟨L2, hl2⟩ : ∃ L2, B.l ++ [newB i k B.l.length] = L2 := ⟨_, rfl⟩
  rw [hl2]
  obtain ⟨A, c, R, hm, hc, n_⟩ := box_open (sep_begin h)
  have HM := Aside0.mk hm
  have HC := Aside0.mk hc
  have HS := Aside0.mk n_
  clear h hc n_ hm
  go_enter Try.func42, Try.ntmps42
  go_upto_region 1 with (fail)
  have n_ := sep_l4 (sep_l4 (sep_l4 (sep_l4 (sep_allocg (sep_l3 (sep_l3 (sep_l3 (sep_allocg HS.out #[.int .u32 i.f0, .int .u16 i.f1] 28 _ rfl)))) #[.int .u32 k.f0, .int .u16 k.f1] 28 _ (szS _ rfl)))))
  have n0_ := Aside0.mk n_; clear HS n_; have HS := n0_; clear n0_
  generalize (w.alloc (.cells #[.int .u32 i.f0, .int .u16 i.f1] 28)).alloc (.cells #[.int .u32 k.f0, .int .u16 k.f1] 28) = wa at HS ⊢
  generalize w.heap.size + 1 = g5 at HS ⊢
  generalize w.heap.size = g4 at HS ⊢
  (try clear b1 b2 b3 b4 b5 b6 bf); obtain ⟨b1, b2, b3, b4, b5, b6⟩ := facts6 HS.out; have bf := sep_frozen HS.out 5
  (try clear m1 m2 m3 m4); obtain ⟨m1, m2, m3, m4⟩ := keep2 HS.out
  have hix := (idx_mat (mat_bind i k) HM.out).1
  rw [idx_none _ _ HJ.out.1] at hix
  have HIX := Aside0.mk hix
  clear hix
  have r1 : decide ((B.l.length : Int) ≥ B.room) = false := decide_eq_false (by have := HJ.out; omega)
  have r2 : decide (B.room ≤ (B.l.length : Int)) = false := decide_eq_false (by have := HJ.out; omega)
  have r3 : (B.room ≤ (B.l.length : Int)) = False := eq_false (by have := HJ.out; omega)
  go_upto_region 4 with (go_at_call 53; have hx_ := idx_54 g4 g5 i k _ c R _ m1 m2 m3 m4 (sep_row' (sep_l1 HS.out)).2.2; rw [HIX.out, HM.out.1] at hx_; (with_reducible refine Calls.mono hx_ ?_); rintro e w1 ⟨rfl, hb_⟩; have n_ := sep_below HS.out hb_; clear hb_ hx_; have n0_ := Aside0.mk n_; clear HS n_; have HS := n0_; clear n0_; (try clear b1 b2 b3 b4 b5 b6 bf); obtain ⟨b1, b2, b3, b4, b5, b6⟩ := facts6 HS.out; have bf := sep_frozen HS.out 5; (try clear m1 m2 m3 m4); obtain ⟨m1, m2, m3, m4⟩ := keep2 HS.out)
  clear b1 b2 b3 b4 b5 b6 bf
  have n_ := sep_drew HS.out
  have n0_ := Aside0.mk n_; clear HS n_; have HS := n0_; clear n0_
  (try clear b1 b2 b3 b4 b5 b6 bf); obtain ⟨b1, b2, b3, b4, b5, b6⟩ := facts6 HS.out; have bf := sep_frozen HS.out 5
  go_region_held3 (fun w' => w'.cell? ⟨p, 5, none⟩ = some (.slice A B.l.length c) ∧ w'.cell? ⟨p, 4, none⟩ = some (.int .i64 B.room)) (exact ⟨b6, b5⟩) (first | fail)
  all_goals
    go_upto_region 7 with (fail)
    clear r1 r2 r3 m1 m2 m3 m4 b1 b2 b3 b4 b5 b6 bf
    have hm2 := MatL_app HM.out (MatL_one (mat_new i k B.l.length))
    obtain ⟨R2, hr2⟩ : ∃ R2, R ++ [newR i k B.l.length] = R2 := ⟨_, rfl⟩
    rw [hl2, hr2] at hm2
    have HM2 := Aside0.mk (And.intro hm2 (And.intro hl2 hr2))
    have hsub : ∀ y ∈ poolOf R2 L2, y ∈ [((none : Option Addr), ([] : List S28))] ++ poolOf R B.l := by
      intro y hy
      rw [← hl2, ← hr2, poolOf_app HM.out] at hy
      rcases List.mem_append.1 hy with hy | hy
      · exact List.mem_append_right _ hy
      · exact List.mem_append_left _ hy
    have HSUB := Aside0.mk hsub
    clear hl2 hm2 hr2 hsub
    have n_ := sep_drew (sep_l1 HS.out)
    have n0_ := Aside0.mk n_; clear HS n_; have HS := n0_; clear n0_
    obtain ⟨⟨m1, m2, m3, m4⟩, bf⟩ := keepF HS.out
    have b6 := sep_cell (sep_l1 HS.out) 5
    refine wp_region_held_drew (S := (fun w' => (w'.cell? ⟨g4, 0, none⟩ = some (.int .u32 i.f0) ∧ w'.cell? ⟨g4, 1, none⟩ = some (.int .u16 i.f1) ∧ w'.cell? ⟨g5, 0, none⟩ = some (.int .u32 k.f0) ∧ w'.cell? ⟨g5, 1, none⟩ = some (.int .u16 k.f1)) ∧ w'.frozen? ⟨p, 5, none⟩ = false)) (by kernel_rfl) ⟨⟨m1, m2, m3, m4⟩, bf⟩ (fun hHeld => ?_)
    (refine h_take 0 (by assumption) rfl (by decide +kernel) (by decide +kernel) (by decide +kernel) (fun _ _ _ h => h) (by rfl) (by intro w hSw; (try dsimp only at hSw); go_simp; all_goals (with_reducible rfl)) ?_; simp only [Act.put, List.setIfInBounds_toArray, List.set_cons_zero, List.set_cons_succ])
    (refine h_take 1 (by assumption) rfl (by decide +kernel) (by decide +kernel) (by decide +kernel) (fun _ _ _ h => h) (by rfl) (by intro w hSw; (try dsimp only at hSw); go_simp; all_goals (with_reducible rfl)) ?_; simp only [Act.put, List.setIfInBounds_toArray, List.set_cons_zero, List.set_cons_succ])
    (refine h_take 2 (by assumption) rfl (by decide +kernel) (by decide +kernel) (by decide +kernel) (fun _ _ _ h => h) (by rfl) (by intro w hSw; (try dsimp only at hSw); go_simp; all_goals (with_reducible rfl)) ?_; simp only [Act.put, List.setIfInBounds_toArray, List.set_cons_zero, List.set_cons_succ])
    (refine h_take 3 (by assumption) rfl (by decide +kernel) (by decide +kernel) (by decide +kernel) (fun _ _ _ h => h) (by rfl) (by intro w hSw; (try dsimp only at hSw); go_simp; all_goals (with_reducible rfl)) ?_; simp only [Act.put, List.setIfInBounds_toArray, List.set_cons_zero, List.set_cons_succ])
    (refine h_take 5 (by assumption) rfl (by decide +kernel) (by decide +kernel) (by decide +kernel) (fun _ _ _ h => h) (by rfl) (by intro w hSw; (try dsimp only at hSw); go_simp; all_goals (with_reducible rfl)) ?_; simp only [Act.put, List.setIfInBounds_toArray, List.set_cons_zero, List.set_cons_succ])
    (refine h_take 6 (by assumption) rfl (by decide +kernel) (by decide +kernel) (by decide +kernel) (fun _ _ _ h => h) (by rfl) (by intro w hSw; (try dsimp only at hSw); go_simp; all_goals (with_reducible rfl)) ?_; simp only [Act.put, List.setIfInBounds_toArray, List.set_cons_zero, List.set_cons_succ])
    (refine h_take 7 (by assumption) rfl (by decide +kernel) (by decide +kernel) (by decide +kernel) (fun _ _ _ h => h) (by rfl) (by intro w hSw; (try dsimp only at hSw); go_simp; all_goals (with_reducible rfl)) ?_; simp only [Act.put, List.setIfInBounds_toArray, List.set_cons_zero, List.set_cons_succ])
    refine h_two 4 8 (by kernel_rfl) rfl rfl (by rfl) (by rfl) (fun K hK => ?_) (fun K hK => ?_)
    · go_simp
      clear hHeld
      ((first | refine hK.out _ _ (⟨⟨m1, m2, m3, m4⟩, bf⟩) (fun hHeld => ?_) | (go_wp2_with fail; refine hK.out _ _ (⟨⟨m1, m2, m3, m4⟩, bf⟩) (fun hHeld => ?_))); clear hK K; (try simp only [Act.put, List.setIfInBounds_toArray, List.set_cons_zero, List.set_cons_succ]))
      (refine h_one 8 (by kernel_rfl) rfl (by rfl) (fun K hK => ?_); go_simp; (go_at_call 61; obtain ⟨ok_, hp_, hk_⟩ := sep_use3 (sep_l1 HS.out); have hx_ := free_walk p B A c R _ ok_ HM.out HJ.out.2.1 hp_; (with_reducible refine Calls.mono hx_ ?_); rintro e w1 ⟨rfl, hq_⟩; have n_ := sep_l1 (back3 hk_ hq_); clear hx_ hp_ hk_ hq_ m1 m2 m3 m4 bf b6; have n0_ := Aside0.mk n_; clear HS n_; have HS := n0_; clear n0_; obtain ⟨⟨m1, m2, m3, m4⟩, bf⟩ := keepF HS.out; have b6 := sep_cell (sep_l1 HS.out) 5; have t3 : (w1.alloc (.cells #[.int .u32 i.f0, .int .u16 i.f1, .int .u32 k.f0, .int .u16 k.f1, .int .u16 (20000 + (B.l.length : Int)), .slice none 0 0, .int .u64 0] 100)).cell? ⟨p, 5, none⟩ = some (.slice A B.l.length c) := sep_cell (sep_l1 (sep_skip HS.out (.cells #[.int .u32 i.f0, .int .u16 i.f1, .int .u32 k.f0, .int .u16 k.f1, .int .u16 (20000 + (B.l.length : Int)), .slice none 0 0, .int .u64 0] 100))) 5); clear hHeld; ((first | refine hK.out _ _ (⟨⟨m1, m2, m3, m4⟩, bf⟩) (fun hHeld => ?_) | (go_wp2_with fail; refine hK.out _ _ (⟨⟨m1, m2, m3, m4⟩, bf⟩) (fun hHeld => ?_))); clear hK K; (try simp only [Act.put, List.setIfInBounds_toArray, List.set_cons_zero, List.set_cons_succ])))
      (refine h_take 9 (by assumption) rfl (by decide +kernel) (by decide +kernel) (by decide +kernel) (fun _ _ _ h => h) (by rfl) (by intro w hSw; (try dsimp only at hSw); go_simp; all_goals (with_reducible rfl)) ?_; simp only [Act.put, List.setIfInBounds_toArray, List.set_cons_zero, List.set_cons_succ])
      (refine h_one 10 (by kernel_rfl) rfl (by rfl) (fun K hK => ?_); go_simp; skip; clear hHeld; ((first | refine hK.out _ _ (keepF (sep_skip HS.out _)) (fun hHeld => ?_) | (go_wp2_with fail; refine hK.out _ _ (keepF (sep_skip HS.out _)) (fun hHeld => ?_))); clear hK K; (try simp only [Act.put, List.setIfInBounds_toArray, List.set_cons_zero, List.set_cons_succ])))
      refine h_raw 11 (by kernel_rfl) rfl (fun K hK => ?_)
      (refine step_append (w0 := w) (ok0 := ok) rbdK (by rfl) (.tmp 51) (.tmp 57) 84 100 z100 56 rfl Try.underlying84 info100 rfl (by decide) (by decide) _ R (newR i k B.l.length) (RBd.cells (newR i k B.l.length)) (by rfl) (by rfl) (rbdK_M _ _ _ _) HS.out (by have := HJ.out.2.2.2; have := HM.out.1; omega) (fun v1 w5 hs => ?_); rw [HM2.out.2.2] at hs; clear HS m1 m2 m3 m4 bf b6; (try clear t3); obtain ⟨A5, c5, rfl, hc5, -⟩ := sep_row hs; have HC5 := Aside0.mk hc5; clear hc5; have HS := Aside0.mk hs; clear hs; obtain ⟨⟨m1, m2, m3, m4⟩, bf⟩ := keepF HS.out; have b6 := sep_cell (sep_l1 HS.out) 5)
      clear hHeld
      ((first | refine hK.out _ _ (⟨⟨m1, m2, m3, m4⟩, bf⟩) (fun hHeld => ?_) | (go_wp2_with fail; refine hK.out _ _ (⟨⟨m1, m2, m3, m4⟩, bf⟩) (fun hHeld => ?_))); clear hK K; (try simp only [Act.put, List.setIfInBounds_toArray, List.set_cons_zero, List.set_cons_succ]))
      (refine h_take 12 (by assumption) rfl (by decide +kernel) (by decide +kernel) (by decide +kernel) (fun _ _ _ h => h) (by rfl) (by intro w hSw; (try dsimp only at hSw); go_simp; all_goals (with_reducible rfl)) ?_; simp only [Act.put, List.setIfInBounds_toArray, List.set_cons_zero, List.set_cons_succ])
      (refine h_take 13 (by assumption) rfl (by decide +kernel) (by decide +kernel) (by decide +kernel) (fun _ _ _ h => h) (by rfl) (by intro w hSw; (try dsimp only at hSw); go_simp; all_goals (with_reducible rfl)) ?_; simp only [Act.put, List.setIfInBounds_toArray, List.set_cons_zero, List.set_cons_succ])
      (refine h_one 14 (by kernel_rfl) rfl (by rfl) (fun K hK => ?_); go_simp; skip; clear hHeld; ((first | refine hK.out _ _ (keepG (sep_set (sep_l1 HS.out) 5 _)) (fun hHeld => ?_) | (go_wp2_with fail; refine hK.out _ _ (keepG (sep_set (sep_l1 HS.out) 5 _)) (fun hHeld => ?_))); clear hK K; (try simp only [Act.put, List.setIfInBounds_toArray, List.set_cons_zero, List.set_cons_succ])))
      refine wpAnyH_done (by kernel_rfl) ?_ _
      have n_ := sep_set (sep_l1 HS.out) 5 (.slice A5 R2.length c5)
      clear hHeld m1 m2 m3 m4 bf b6
      have n0_ := Aside0.mk n_; clear HS n_; have HS := n0_; clear n0_
      generalize w5.setCell ⟨p, 5, none⟩ (.slice A5 R2.length c5) = w6 at HS ⊢
      have n_ := sep_l2 (sep_l2 (sep_pool_sub (sep_pool_app (sep_row_pool (sep_row_nil (d := k28) (e := 28) (sep_l2 HS.out)))) HSUB.out))
      have n0_ := Aside0.mk n_; clear HS n_; have HS := n0_; clear n0_
      obtain ⟨g, hg⟩ := row_addr (sep_l1 HS.out) (by rw [HM2.out.1.1, ← HM2.out.2.1, List.length_append, List.length_singleton]; omega)
      subst hg
      rw [HM2.out.1.1] at HS HC5 ⊢
      have hlen : L2.length = B.l.length + 1 := by rw [← HM2.out.2.1, List.length_append, List.length_singleton]
      have HLEN := Aside0.mk hlen
      have w1_ : wrap64 ((L2.length : Int) - 1) = (B.l.length : Int) := by have := HJ.out.2.2.2; unfold wrap64; omega
      have w2_ : IntKind.i64.wrap ((L2.length : Int) - 1) = (B.l.length : Int) := by have := HJ.out.2.2.2; rw [IntKind.wrap_i64]; omega
      have p1_ := eq_true (Int.natCast_nonneg B.l.length)
      have p2_ : ((B.l.length : Int) < (L2.length : Int)) = True := eq_true (by omega)
      have p3_ : (B.l.length < L2.length) = True := eq_true (by omega)
      clear hlen
      go_upto_region 8 with (fail)
      have n_ := sep_drew HS.out
      have n0_ := Aside0.mk n_; clear HS n_; have HS := n0_; clear n0_
      have b6 := sep_cell HS.out 5
      go_region_held3 (fun w' => w'.cell? ⟨p, 5, none⟩ = some (.slice (some ⟨g, 0, none⟩) L2.length c5)) (exact b6) (first | fail)
      all_goals
        go_wp2
        go_ret
        exact ⟨g, c5, R2, rfl, HM2.out.1, HC5.out, sep_flat (sep_flat (sep_fold (sep_fold (sep_drop (sep_l3 (sep_drop (sep_l4 HS.out)))))))⟩
    · go_simp
      (go_at_call 61; obtain ⟨ok_, hp_, hk_⟩ := sep_use3 (sep_l1 HS.out); have hx_ := free_walk p B A c R _ ok_ HM.out HJ.out.2.1 hp_; (with_reducible refine Calls.mono hx_ ?_); rintro e w1 ⟨rfl, hq_⟩; have n_ := sep_l1 (back3 hk_ hq_); clear hx_ hp_ hk_ hq_ m1 m2 m3 m4 bf b6; have n0_ := Aside0.mk n_; clear HS n_; have HS := n0_; clear n0_; obtain ⟨⟨m1, m2, m3, m4⟩, bf⟩ := keepF HS.out; have b6 := sep_cell (sep_l1 HS.out) 5; have t3 : (w1.alloc (.cells #[.int .u32 i.f0, .int .u16 i.f1, .int .u32 k.f0, .int .u16 k.f1, .int .u16 (20000 + (B.l.length : Int)), .slice none 0 0, .int .u64 0] 100)).cell? ⟨p, 5, none⟩ = some (.slice A B.l.length c) := sep_cell (sep_l1 (sep_skip HS.out (.cells #[.int .u32 i.f0, .int .u16 i.f1, .int .u32 k.f0, .int .u16 k.f1, .int .u16 (20000 + (B.l.length : Int)), .slice none 0 0, .int .u64 0] 100))) 5)
      clear hHeld
      ((first | refine hK.out _ _ (⟨⟨m1, m2, m3, m4⟩, bf⟩) (fun hHeld => ?_) | (go_wp2_with fail; refine hK.out _ _ (⟨⟨m1, m2, m3, m4⟩, bf⟩) (fun hHeld => ?_))); clear hK K; (try simp only [Act.put, List.setIfInBounds_toArray, List.set_cons_zero, List.set_cons_succ]))
      (refine h_take 9 (by assumption) rfl (by decide +kernel) (by decide +kernel) (by decide +kernel) (fun _ _ _ h => h) (by rfl) (by intro w hSw; (try dsimp only at hSw); go_simp; all_goals (with_reducible rfl)) ?_; simp only [Act.put, List.setIfInBounds_toArray, List.set_cons_zero, List.set_cons_succ])
      refine h_two 4 10 (by kernel_rfl) rfl rfl (by rfl) (by rfl) (fun K hK => ?_) (fun K hK => ?_)
      · go_simp
        clear hHeld
        ((first | refine hK.out _ _ (⟨⟨m1, m2, m3, m4⟩, bf⟩) (fun hHeld => ?_) | (go_wp2_with fail; refine hK.out _ _ (⟨⟨m1, m2, m3, m4⟩, bf⟩) (fun hHeld => ?_))); clear hK K; (try simp only [Act.put, List.setIfInBounds_toArray, List.set_cons_zero, List.set_cons_succ]))
        (refine h_one 10 (by kernel_rfl) rfl (by rfl) (fun K hK => ?_); go_simp; skip; clear hHeld; ((first | refine hK.out _ _ (keepF (sep_skip HS.out _)) (fun hHeld => ?_) | (go_wp2_with fail; refine hK.out _ _ (keepF (sep_skip HS.out _)) (fun hHeld => ?_))); clear hK K; (try simp only [Act.put, List.setIfInBounds_toArray, List.set_cons_zero, List.set_cons_succ])))
        refine h_raw 11 (by kernel_rfl) rfl (fun K hK => ?_)
        (refine step_append (w0 := w) (ok0 := ok) rbdK (by rfl) (.tmp 51) (.tmp 57) 84 100 z100 56 rfl Try.underlying84 info100 rfl (by decide) (by decide) _ R (newR i k B.l.length) (RBd.cells (newR i k B.l.length)) (by rfl) (by rfl) (rbdK_M _ _ _ _) HS.out (by have := HJ.out.2.2.2; have := HM.out.1; omega) (fun v1 w5 hs => ?_); rw [HM2.out.2.2] at hs; clear HS m1 m2 m3 m4 bf b6; (try clear t3); obtain ⟨A5, c5, rfl, hc5, -⟩ := sep_row hs; have HC5 := Aside0.mk hc5; clear hc5; have HS := Aside0.mk hs; clear hs; obtain ⟨⟨m1, m2, m3, m4⟩, bf⟩ := keepF HS.out; have b6 := sep_cell (sep_l1 HS.out) 5)
        clear hHeld
        ((first | refine hK.out _ _ (⟨⟨m1, m2, m3, m4⟩, bf⟩) (fun hHeld => ?_) | (go_wp2_with fail; refine hK.out _ _ (⟨⟨m1, m2, m3, m4⟩, bf⟩) (fun hHeld => ?_))); clear hK K; (try simp only [Act.put, List.setIfInBounds_toArray, List.set_cons_zero, List.set_cons_succ]))
        (refine h_take 12 (by assumption) rfl (by decide +kernel) (by decide +kernel) (by decide +kernel) (fun _ _ _ h => h) (by rfl) (by intro w hSw; (try dsimp only at hSw); go_simp; all_goals (with_reducible rfl)) ?_; simp only [Act.put, List.setIfInBounds_toArray, List.set_cons_zero, List.set_cons_succ])
        (refine h_take 13 (by assumption) rfl (by decide +kernel) (by decide +kernel) (by decide +kernel) (fun _ _ _ h => h) (by rfl) (by intro w hSw; (try dsimp only at hSw); go_simp; all_goals (with_reducible rfl)) ?_; simp only [Act.put, List.setIfInBounds_toArray, List.set_cons_zero, List.set_cons_succ])
        (refine h_one 14 (by kernel_rfl) rfl (by rfl) (fun K hK => ?_); go_simp; skip; clear hHeld; ((first | refine hK.out _ _ (keepG (sep_set (sep_l1 HS.out) 5 _)) (fun hHeld => ?_) | (go_wp2_with fail; refine hK.out _ _ (keepG (sep_set (sep_l1 HS.out) 5 _)) (fun hHeld => ?_))); clear hK K; (try simp only [Act.put, List.setIfInBounds_toArray, List.set_cons_zero, List.set_cons_succ])))
        refine wpAnyH_done (by kernel_rfl) ?_ _
        have n_ := sep_set (sep_l1 HS.out) 5 (.slice A5 R2.length c5)
        clear hHeld m1 m2 m3 m4 bf b6
        have n0_ := Aside0.mk n_; clear HS n_; have HS := n0_; clear n0_
        generalize w5.setCell ⟨p, 5, none⟩ (.slice A5 R2.length c5) = w6 at HS ⊢
        have n_ := sep_l2 (sep_l2 (sep_pool_sub (sep_pool_app (sep_row_pool (sep_row_nil (d := k28) (e := 28) (sep_l2 HS.out)))) HSUB.out))
        have n0_ := Aside0.mk n_; clear HS n_; have HS := n0_; clear n0_
        obtain ⟨g, hg⟩ := row_addr (sep_l1 HS.out) (by rw [HM2.out.1.1, ← HM2.out.2.1, List.length_append, List.length_singleton]; omega)
        subst hg
        rw [HM2.out.1.1] at HS HC5 ⊢
        have hlen : L2.length = B.l.length + 1 := by rw [← HM2.out.2.1, List.length_append, List.length_singleton]
        have HLEN := Aside0.mk hlen
        have w1_ : wrap64 ((L2.length : Int) - 1) = (B.l.length : Int) := by have := HJ.out.2.2.2; unfold wrap64; omega
        have w2_ : IntKind.i64.wrap ((L2.length : Int) - 1) = (B.l.length : Int) := by have := HJ.out.2.2.2; rw [IntKind.wrap_i64]; omega
        have p1_ := eq_true (Int.natCast_nonneg B.l.length)
        have p2_ : ((B.l.length : Int) < (L2.length : Int)) = True := eq_true (by omega)
        have p3_ : (B.l.length < L2.length) = True := eq_true (by omega)
        clear hlen
        go_upto_region 8 with (fail)
        have n_ := sep_drew HS.out
        have n0_ := Aside0.mk n_; clear HS n_; have HS := n0_; clear n0_
        have b6 := sep_cell HS.out 5
        go_region_held3 (fun w' => w'.cell? ⟨p, 5, none⟩ = some (.slice (some ⟨g, 0, none⟩) L2.length c5)) (exact b6) (first | fail)
        all_goals
          go_wp2
          go_ret
          exact ⟨g, c5, R2, rfl, HM2.out.1, HC5.out, sep_flat (sep_flat (sep_fold (sep_fold (sep_drop (sep_l3 (sep_drop (sep_l4 HS.out)))))))⟩
      · go_simp
        clear hHeld
        ((first | refine hK.out _ _ (keepF (sep_skip HS.out _)) (fun hHeld => ?_) | (go_wp2_with fail; refine hK.out _ _ (keepF (sep_skip HS.out _)) (fun hHeld => ?_))); clear hK K; (try simp only [Act.put, List.setIfInBounds_toArray, List.set_cons_zero, List.set_cons_succ]))
        (refine h_one 4 (by kernel_rfl) rfl (by rfl) (fun K hK => ?_); go_simp; skip; clear hHeld; ((first | refine hK.out _ _ (keepF (sep_skip HS.out _)) (fun hHeld => ?_) | (go_wp2_with fail; refine hK.out _ _ (keepF (sep_skip HS.out _)) (fun hHeld => ?_))); clear hK K; (try simp only [Act.put, List.setIfInBounds_toArray, List.set_cons_zero, List.set_cons_succ])))
        refine h_raw 11 (by kernel_rfl) rfl (fun K hK => ?_)
        (refine step_append (w0 := w) (ok0 := ok) rbdK (by rfl) (.tmp 51) (.tmp 57) 84 100 z100 56 rfl Try.underlying84 info100 rfl (by decide) (by decide) _ R (newR i k B.l.length) (RBd.cells (newR i k B.l.length)) (by rfl) (by rfl) (rbdK_M _ _ _ _) HS.out (by have := HJ.out.2.2.2; have := HM.out.1; omega) (fun v1 w5 hs => ?_); rw [HM2.out.2.2] at hs; clear HS m1 m2 m3 m4 bf b6; (try clear t3); obtain ⟨A5, c5, rfl, hc5, -⟩ := sep_row hs; have HC5 := Aside0.mk hc5; clear hc5; have HS := Aside0.mk hs; clear hs; obtain ⟨⟨m1, m2, m3, m4⟩, bf⟩ := keepF HS.out; have b6 := sep_cell (sep_l1 HS.out) 5)
        clear hHeld
        ((first | refine hK.out _ _ (⟨⟨m1, m2, m3, m4⟩, bf⟩) (fun hHeld => ?_) | (go_wp2_with fail; refine hK.out _ _ (⟨⟨m1, m2, m3, m4⟩, bf⟩) (fun hHeld => ?_))); clear hK K; (try simp only [Act.put, List.setIfInBounds_toArray, List.set_cons_zero, List.set_cons_succ]))
        (refine h_take 12 (by assumption) rfl (by decide +kernel) (by decide +kernel) (by decide +kernel) (fun _ _ _ h => h) (by rfl) (by intro w hSw; (try dsimp only at hSw); go_simp; all_goals (with_reducible rfl)) ?_; simp only [Act.put, List.setIfInBounds_toArray, List.set_cons_zero, List.set_cons_succ])
        (refine h_take 13 (by assumption) rfl (by decide +kernel) (by decide +kernel) (by decide +kernel) (fun _ _ _ h => h) (by rfl) (by intro w hSw; (try dsimp only at hSw); go_simp; all_goals (with_reducible rfl)) ?_; simp only [Act.put, List.setIfInBounds_toArray, List.set_cons_zero, List.set_cons_succ])
        (refine h_one 14 (by kernel_rfl) rfl (by rfl) (fun K hK => ?_); go_simp; skip; clear hHeld; ((first | refine hK.out _ _ (keepG (sep_set (sep_l1 HS.out) 5 _)) (fun hHeld => ?_) | (go_wp2_with fail; refine hK.out _ _ (keepG (sep_set (sep_l1 HS.out) 5 _)) (fun hHeld => ?_))); clear hK K; (try simp only [Act.put, List.setIfInBounds_toArray, List.set_cons_zero, List.set_cons_succ])))
        refine wpAnyH_done (by kernel_rfl) ?_ _
        have n_ := sep_set (sep_l1 HS.out) 5 (.slice A5 R2.length c5)
        clear hHeld m1 m2 m3 m4 bf b6
        have n0_ := Aside0.mk n_; clear HS n_; have HS := n0_; clear n0_
        generalize w5.setCell ⟨p, 5, none⟩ (.slice A5 R2.length c5) = w6 at HS ⊢
        have n_ := sep_l2 (sep_l2 (sep_pool_sub (sep_pool_app (sep_row_pool (sep_row_nil (d := k28) (e := 28) (sep_l2 HS.out)))) HSUB.out))
        have n0_ := Aside0.mk n_; clear HS n_; have HS := n0_; clear n0_
        obtain ⟨g, hg⟩ := row_addr (sep_l1 HS.out) (by rw [HM2.out.1.1, ← HM2.out.2.1, List.length_append, List.length_singleton]; omega)
        subst hg
        rw [HM2.out.1.1] at HS HC5 ⊢
        have hlen : L2.length = B.l.length + 1 := by rw [← HM2.out.2.1, List.length_append, List.length_singleton]
        have HLEN := Aside0.mk hlen
        have w1_ : wrap64 ((L2.length : Int) - 1) = (B.l.length : Int) := by have := HJ.out.2.2.2; unfold wrap64; omega
        have w2_ : IntKind.i64.wrap ((L2.length : Int) - 1) = (B.l.length : Int) := by have := HJ.out.2.2.2; rw [IntKind.wrap_i64]; omega
        have p1_ := eq_true (Int.natCast_nonneg B.l.length)
        have p2_ : ((B.l.length : Int) < (L2.length : Int)) = True := eq_true (by omega)
        have p3_ : (B.l.length < L2.length) = True := eq_true (by omega)
        clear hlen
        go_upto_region 8 with (fail)
        have n_ := sep_drew HS.out
        have n0_ := Aside0.mk n_; clear HS n_; have HS := n0_; clear n0_
        have b6 := sep_cell HS.out 5
        go_region_held3 (fun w' => w'.cell? ⟨p, 5, none⟩ = some (.slice (some ⟨g, 0, none⟩) L2.length c5)) (exact b6) (first | fail)
        all_goals
          go_wp2
          go_ret
          exact ⟨g, c5, R2, rfl, HM2.out.1, HC5.out, sep_flat (sep_flat (sep_fold (sep_fold (sep_drop (sep_l3 (sep_drop (sep_l4 HS.out)))))))⟩
end Go.Proofs.Ytobfabfoenldfaa.NW
/- Boxes: who was met, the key, Clone; who is bound, found or new. Conditions: those that each theorem names. -/
namespace Go.Proofs.Ytobfabfoenldfaa.NW
set_option linter.unusedVariables false
set_option linter.unusedSimpArgs false
open Go Go.RowKit Go.Proofs.YtobfabfoenldfaaS Go.Proofs.YtobfabfoenldfaaS.Asn Go.Proofs.Ytobfabfoenldfaa.PA Go.Proofs.YtobfabfoenldfaaW.PrintWords Go.Proofs.YtobfabfoenldfaaW.PrintLast Go.Proofs.YtobfabfoenldfaaW.PrintMore

def hit (a b : Int) (x : S28) : Bool := a == x.f0 && (b == x.f1)
theorem rd_at (l : List S28) (i : Nat) (h : i < l.length) : rd_T28 l (i : Int) = l[i] := by
  unfold rd_T28
  rw [Int.toNat_natCast, List.getD_eq_getElem?_getD, List.getElem?_eq_getElem h]
  rfl
theorem idx_l (l : List S28) (a b : Int) (hl : l.length < 9223372036854775808) : ∀ (d k i : Nat), l.length - i = d → i ≤ l.length → d < k → ∃ r, addr_Addr_62.l0 k l (l.length : Int) (i : Int) a b = some r ∧ decide (r ≥ 0) = (l.drop i).any (hit a b) := by
  intro d
  induction d with
  | zero =>
    intro k i hd hi hk
    obtain ⟨k, rfl⟩ : ∃ j, k = j + 1 := ⟨k - 1, by omega⟩
    simp only [addr_Addr_62.l0]
    rw [if_neg (by omega)]
    refine ⟨-1, rfl, ?_⟩
    rw [List.drop_eq_nil_of_le (by omega)]
    rfl
  | succ d ih =>
    intro k i hd hi hk
    obtain ⟨k, rfl⟩ : ∃ j, k = j + 1 := ⟨k - 1, by omega⟩
    have hlt : i < l.length := by omega
    simp only [addr_Addr_62.l0]
    rw [if_pos (by omega), if_pos (by omega), if_pos (by omega), rd_at l i hlt, List.drop_eq_getElem_cons hlt, List.any_cons]
    by_cases h : (a == l[i].f0 && (b == l[i].f1)) = true
    · rw [if_pos h]
      refine ⟨i, rfl, ?_⟩
      rw [show hit a b l[i] = true from h, Bool.true_or]
      exact decide_eq_true (by omega)
    · rw [if_neg h]
      have hw : wrap64 ((i : Int) + 1) = ((i + 1 : Nat) : Int) := by unfold wrap64; omega
      rw [hw]
      obtain ⟨r, h1, h2⟩ := ih k (i + 1) (by omega) (by omega) (by omega)
      refine ⟨r, h1, ?_⟩
      rw [h2, show hit a b l[i] = false from by simpa [hit] using h, Bool.false_or]
theorem has (k : Nat) (l : List S28) (a b : Int) (hl : l.length < 9223372036854775808) (hk : l.length < k) : addr_Addr_44.f k l a b = some (l.any (hit a b)) := by
  unfold addr_Addr_44.f addr_Addr_62.f
  obtain ⟨r, h1, h2⟩ := idx_l l a b hl l.length k 0 (by omega) (by omega) hk
  rw [show ((0 : Nat) : Int) = 0 from rfl] at h1
  rw [h1, Option.bind_some, h2, List.drop_zero]
theorem p0 (k : Nat) (l : List S28) (a b : Int) : rule_Passes.f k 0 0 l a b = some true := by simp [rule_Passes.f]
theorem p1 (k : Nat) (l : List S28) (a b : Int) : rule_Passes.f k 0 1 l a b = some (l.any (ipIs a)) := by simp [rule_Passes.f]
theorem p2 (k : Nat) (l : List S28) (a b : Int) (hl : l.length < 9223372036854775808) (hk : l.length < k) : rule_Passes.f k 0 2 l a b = some (l.any (hit a b)) := by
  rw [← has k l a b hl hk]
  simp [rule_Passes.f]
theorem p3 (k : Nat) (l : List S28) (a b : Int) : rule_Passes.f k 0 3 l a b = some false := by simp [rule_Passes.f]
def passB (fl : Int) (l : List S28) (d : S28) : Bool := if fl = 0 then true else if fl = 1 then l.any (ipIs d.f0) else if fl = 2 then l.any (hit d.f0 d.f1) else false
theorem pass_f (l : List S28) (fl : Int) (d : S28) (hl : l.length < 100) : rule_Passes.f 200 0 fl l d.f0 d.f1 = some (passB fl l d) := by
  unfold passB
  by_cases h0 : fl = 0
  · rw [if_pos h0, h0]; exact p0 _ _ _ _
  · rw [if_neg h0]
    by_cases h1 : fl = 1
    · rw [if_pos h1, h1]; exact p1 _ _ _ _
    · rw [if_neg h1]
      by_cases h2 : fl = 2
      · rw [if_pos h2, h2]; exact p2 _ _ _ _ (by omega) (by omega)
      · rw [if_neg h2]
        unfold rule_Passes.f
        rw [if_neg h0, if_neg h1, if_neg h2]
theorem pass_map (m m' : Int) (k : Nat) (fl : Int) (l : List S28) (a b : Int) : rule_Passes.f k m fl l a b = rule_Passes.f k m' fl l a b := rfl
def keyS (m : Int) (d : S28) : S28 := if m = 2 then d else if m = 1 then ⟨d.f0, 0⟩ else ⟨0, 0⟩
theorem key_f (m fl : Int) (d : S28) (hm : m = 0 ∨ m = 1 ∨ m = 2) : rule_Key.f m fl d.f0 d.f1 = some ((keyS m d).f0, (keyS m d).f1) := by
  rcases hm with rfl | rfl | rfl
  · rfl
  · rfl
  · rfl
theorem met_Clone (A : Option Addr) (c : Nat) (l : List S28) (w : World) (hC : k28.C w A l.length l) (hl : l.length ≤ 1000000) :
    Calls Try.prog 45 #[.slice A l.length c] w fun e w' => ∃ v, e = .returned v ∧ Sep w (fun _ => False) (row k28 28 v l ⋆ emp) w' := by
  have HS := Aside0.mk (sep_start w)
  have HC := Aside0.mk hC
  have HL := Aside0.mk hl
  have hnil : ∀ (w : World) (a : Option Addr) (n c n' c' : Nat), (Go.binOp .eql 98 (.slice a n c) (.slice none n' c')).run Try.prog w = .ok (.bool a.isNone) w := fun w a n c n' c' => Lib.run_eql_slice_nil w _ _ a n c n' c' Try.underlying98
  cases A with
  | none =>
    have h0 : l = [] := by
      cases l with
      | nil => rfl
      | cons x r => obtain ⟨ad, h, _⟩ := hC.2.2 (by simp); cases h
    subst h0
    clear hC hl
    go_enter Try.func45, Try.ntmps45
    go_wp2
    go_ret
    exact ⟨_, rfl, sep_row_nil HS.out⟩
  | some ad =>
    clear hC hl
    go_enter Try.func45, Try.ntmps45
    go_wp2_with ((with_reducible refine gate_builtin (b := .append) (xs := #[.tmp 5, .tmp 6]) rfl ?_); at_builtin; refine wp_append_rows k28 rfl (.tmp 5) (.tmp 6) 98 28 v28 8 rfl Try.underlying98 info28 rfl (by decide) (by decide) _ [] l (some ad) l.length c (by rfl) (by rfl) (sep_empty HS.out) (Kd.C_alloc HC.out _) (fun x cs hk => by rw [k28_open hk]; exact k28_mkM _ _ _ _) (by have := HL.out; simp only [List.length_nil]; omega) ?_; intro v1 w1 n_; clear HS; have HS := Aside0.mk n_; clear n_)
    go_ret
    exact ⟨_, rfl, HS.out⟩
/-- When a binding may be made. -/
def MayBind (B : Bx) (i k : S28) : Prop := B.l.length ≤ 2 ∧ (B.l.any (bindX i k) = false → (B.l = [] ∨ ∃ x, B.l = [x] ∧ x.po = 20000) ∧ (B.l.length : Int) < B.room)
theorem bind_walk (p : Nat) (B : Bx) (i k : S28) (w : World) (ok : Nat → Prop) (hm : MayBind B i k) (h : (boxA p B ⋆ emp).H w ok) :
    Calls Try.prog 42 #[.pointer (some ⟨p, 0, none⟩), .agg #[.int .u32 i.f0, .int .u16 i.f1], .agg #[.int .u32 k.f0, .int .u16 k.f1]] w fun e w' => ∃ (g c : Nat) (R : List RBd), e = .returned (.pointer (some ⟨g, bindI B.l i k * 7, none⟩)) ∧ MatL R (bindL B.l i k) ∧ (bindL B.l i k).length ≤ c ∧ Sep w ok (pt p #[.int .i64 B.mp, .int .i64 B.fl, .int .u32 B.ip, .int .u64 B.hold, .int .i64 B.room, .slice (some ⟨g, 0, none⟩) (bindL B.l i k).length c] 86 ⋆ row rbdK 100 (.slice (some ⟨g, 0, none⟩) (bindL B.l i k).length c) R ⋆ pool k28 (poolOf R (bindL B.l i k)) ⋆ emp) w' := by
  obtain ⟨h1, h2⟩ := hm
  cases hb : B.l.any (bindX i k) with
  | true =>
    have e1 : bindL B.l i k = B.l := by unfold bindL; rw [if_pos hb]
    have e2 : bindI B.l i k = B.l.findIdx (bindX i k) := by unfold bindI; rw [if_pos hb]
    obtain ⟨j, x, hj, hx, -, -⟩ := idx_at _ _ hb
    have hj2 : B.l.findIdx (bindX i k) = j := by
      unfold idx at hj
      rw [if_pos hb] at hj
      omega
    rw [e1, e2, hj2]
    exact bind_found p B i k j x w ok hj hx (by omega) h
  | false =>
    have e1 : bindL B.l i k = B.l ++ [newB i k B.l.length] := by unfold bindL; rw [if_neg (by rw [hb]; decide)]
    have e2 : bindI B.l i k = B.l.length := by unfold bindI; rw [if_neg (by rw [hb]; decide)]
    rw [e1, e2]
    exact bind_new p B i k w ok hb (h2 hb).1 (h2 hb).2 h
theorem bind_at (l : List Bd) (i k : S28) : ∃ x, (bindL l i k)[bindI l i k]? = some x ∧ x.ii = i.f0 ∧ x.ip = i.f1 := by
  unfold bindL bindI
  cases hb : l.any (bindX i k) with
  | true =>
    rw [if_pos rfl, if_pos rfl]
    obtain ⟨j, x, hj, hx, hp, -⟩ := idx_at _ _ hb
    have hj2 : l.findIdx (bindX i k) = j := by
      unfold idx at hj
      rw [if_pos hb] at hj
      omega
    rw [hj2]
    unfold bindX at hp
    simp only [Bool.and_eq_true, beq_iff_eq] at hp
    exact ⟨x, hx, hp.1.1, hp.1.2⟩
  | false =>
    rw [if_neg (by decide), if_neg (by decide), List.getElem?_append_right (Nat.le_refl _), Nat.sub_self]
    exact ⟨_, rfl, rfl, rfl⟩
end Go.Proofs.Ytobfabfoenldfaa.NW
