/- The reference's view, as plain functions, and how a view stands to it. No condition but those that each theorem names. -/
import Derived.Test.YthpmlnnjfmcglaaVP
import Derived.Test.YthpmlnnjfmcglaaQM
import Derived.Test.YthpmlnnjfmcglaaVX
import Derived.Test.YthpmlnnjfmcglaaSepA
import Derived.Deep.RegionHeld3
import Derived.Test.YthpmlnnjfmcglaaXD
import Derived.Test.YthpmlnnjfmcglaaLViewRises
namespace Go.Proofs.Ythpmlnnjfmcglaa.VW
set_option linter.unusedVariables false
set_option linter.unusedSimpArgs false
open Go Go.RowKit
structure RV where
  L : List Rec
  E : List Ev
def RV.new : RV := ⟨[], []⟩
def rfind (L : List Rec) (id : Int) : Nat := L.findIdx (fun r => decide (id ≤ r.id))
def rold (L : List Rec) (id : Int) : Option Rec := (L[rfind L id]?).filter (fun r => decide (r.id = id))
def rtake (x : RV) (r : Rec) : Bool × Int × RV :=
  if right r = false then (false, 1, x)
  else match rold x.L r.id with
    | none => (true, 0, ⟨x.L.take (rfind x.L r.id) ++ [r] ++ x.L.drop (rfind x.L r.id), x.E ++ [⟨r.id, -1, r.st, r.inc⟩]⟩)
    | some old => if over r old = false then (false, 0, x) else (true, 0, ⟨x.L.set (rfind x.L r.id) r, if old.st = r.st then x.E else x.E ++ [⟨r.id, old.st, r.st, r.inc⟩]⟩)
/-- What is known stands at its ID. -/
def Know (s : VS) : Prop := ∀ i, i < 33 → s.K i = Rec.zero ∨ ((s.K i).id = (i : Int) ∧ 0 < i)
def known (r : Rec) : Bool := decide (0 < r.id)
def lowM (K : Nat → Rec) (n : Nat) : List Rec := ((List.range n).map K).filter known
def highM (K : Nat → Rec) (n : Nat) : List Rec := (((List.range 33).drop (n + 1)).map K).filter known
theorem members_split (s : VS) (n : Nat) (hn : n < 33) : members s = lowM s.K n ++ (if known (s.K n) = true then [s.K n] else []) ++ highM s.K n := by
  have h : List.range 33 = List.range n ++ n :: (List.range 33).drop (n + 1) := by
    have h1 := (List.take_append_drop n (List.range 33)).symm
    rw [List.drop_eq_getElem_cons (by simpa using hn), List.getElem_range, List.take_range, Nat.min_eq_left (by omega)] at h1
    exact h1
  unfold members lowM highM
  rw [show (fun r : Rec => decide (0 < r.id)) = known from rfl, h, List.map_append, List.filter_append, List.map_cons, List.filter_cons, List.append_assoc]
  congr 1
  by_cases hk : known (s.K n) = true
  · rw [if_pos hk, if_pos hk, ← h]; rfl
  · rw [if_neg hk, if_neg hk, ← h]; rfl
theorem low_lt {s : VS} (h : Know s) (n : Nat) (hn : n < 33) : ∀ r ∈ lowM s.K n, r.id < (n : Int) := by
  intro r hr
  unfold lowM at hr
  obtain ⟨hm, hk⟩ := List.mem_filter.1 hr
  obtain ⟨i, hi, rfl⟩ := List.mem_map.1 hm
  have hi := List.mem_range.1 hi
  rcases h i (by omega) with h0 | ⟨h1, -⟩
  · rw [h0] at hk
    exact absurd hk (by decide)
  · rw [h1]; omega
theorem high_gt {s : VS} (h : Know s) (n : Nat) : ∀ r ∈ highM s.K n, (n : Int) < r.id := by
  intro r hr
  unfold highM at hr
  obtain ⟨hm, hk⟩ := List.mem_filter.1 hr
  obtain ⟨i, hi, rfl⟩ := List.mem_map.1 hm
  obtain ⟨j, hj, he⟩ := List.mem_drop_iff_getElem.1 hi
  rw [List.getElem_range] at he
  have hj' : n + 1 + j < 33 := by simpa [Nat.add_comm] using hj
  have hi33 : i < 33 := by omega
  rcases h i hi33 with h0 | ⟨h1, -⟩
  · rw [h0] at hk
    exact absurd hk (by decide)
  · rw [h1]; omega
theorem low_congr {K K' : Nat → Rec} (n : Nat) (h : ∀ i, i ≠ n → K i = K' i) : lowM K n = lowM K' n := by
  unfold lowM
  rw [List.map_congr_left (fun i hi => h i (by have := List.mem_range.1 hi; omega))]
theorem high_congr {K K' : Nat → Rec} (n : Nat) (h : ∀ i, i ≠ n → K i = K' i) : highM K n = highM K' n := by
  unfold highM
  rw [List.map_congr_left (fun i hi => h i (by
    obtain ⟨j, hj, he⟩ := List.mem_drop_iff_getElem.1 hi
    rw [List.getElem_range] at he
    omega))]
theorem find_low (A B : List Rec) (id : Int) (hA : ∀ r ∈ A, r.id < id) : rfind (A ++ B) id = A.length + rfind B id := by
  unfold rfind
  rw [List.findIdx_append]
  have h : ¬ A.findIdx (fun r => decide (id ≤ r.id)) < A.length := by
    rw [List.findIdx_lt_length]
    rintro ⟨r, hr, hp⟩
    have := hA r hr
    have := of_decide_eq_true hp
    omega
  rw [if_neg h, Nat.add_comm]
theorem find_here (B : List Rec) (id : Int) (hB : ∀ r ∈ B, id ≤ r.id) : rfind B id = 0 := by
  unfold rfind
  cases B with
  | nil => rfl
  | cons y B => rw [List.findIdx_cons, decide_eq_true (hB y List.mem_cons_self)]; rfl
/-- Where an ID stands. -/
theorem find_at {s : VS} (h : Know s) (n : Nat) (hn : n < 33) (h0 : 0 < n) :
    rfind (members s) (n : Int) = (lowM s.K n).length ∧ rold (members s) (n : Int) = if known (s.K n) = true then some (s.K n) else none := by
  have hid : known (s.K n) = true → (s.K n).id = (n : Int) := by
    intro hk
    rcases h n hn with h1 | ⟨h1, -⟩
    · rw [h1] at hk; exact absurd hk (by decide)
    · exact h1
  have hf : rfind (members s) (n : Int) = (lowM s.K n).length := by
    rw [members_split s n hn, List.append_assoc, find_low _ _ _ (low_lt h n hn), find_here, Nat.add_zero]
    intro r hr
    rcases List.mem_append.1 hr with hr | hr
    · by_cases hk : known (s.K n) = true
      · rw [if_pos hk] at hr
        obtain rfl := List.mem_singleton.1 hr
        rw [hid hk]; exact Int.le_refl _
      · rw [if_neg hk] at hr; cases hr
    · exact Int.le_of_lt (high_gt h n r hr)
  refine ⟨hf, ?_⟩
  unfold rold
  rw [hf, members_split s n hn, List.append_assoc, List.getElem?_append_right (Nat.le_refl _), Nat.sub_self]
  by_cases hk : known (s.K n) = true
  · rw [if_pos hk, if_pos hk]
    simp [hid hk]
  · rw [if_neg hk, if_neg hk, List.nil_append]
    cases hh : highM s.K n with
    | nil => rfl
    | cons y B =>
      have := high_gt h n y (by rw [hh]; exact List.mem_cons_self)
      simp
      omega
theorem members_upd {s : VS} (n : Nat) (hn : n < 33) (r : Rec) (hr : known r = true) (E : List Ev) (q : Nat) : members ⟨upd s.K n r, E, q⟩ = lowM s.K n ++ [r] ++ highM s.K n := by
  rw [members_split ⟨upd s.K n r, E, q⟩ n hn]
  dsimp only
  rw [low_congr n (K := upd s.K n r) (K' := s.K) (fun i hi => by unfold upd; rw [if_neg hi]), high_congr n (K := upd s.K n r) (K' := s.K) (fun i hi => by unfold upd; rw [if_neg hi])]
  have e : upd s.K n r n = r := by unfold upd; rw [if_pos rfl]
  rw [if_pos (by rw [e]; exact hr), e]
/-- How a view stands to the reference's. -/
structure Rel (s : VS) (x : RV) : Prop where
  know : Know s
  mem : members s = x.L
  ev : s.E = x.E.drop (x.E.length - 128)
  seen : s.seen = x.E.length
theorem Rel_new : Rel VS.new RV.new := ⟨fun i _ => .inl rfl, by kernel_rfl, rfl, rfl⟩
theorem right_known (r : Rec) (h : right r = true) : 1 ≤ r.id ∧ r.id ≤ 32 ∧ known r = true := by
  unfold right at h
  have h := of_decide_eq_true h
  exact ⟨h.1, h.2.1, decide_eq_true (by omega)⟩
theorem Know_upd {s : VS} (h : Know s) (r : Rec) (hr : right r = true) (E : List Ev) (q : Nat) : Know ⟨upd s.K r.id.toNat r, E, q⟩ := by
  have hk := right_known r hr
  intro i hi
  dsimp only
  unfold upd
  by_cases h1 : i = r.id.toNat
  · rw [if_pos h1]
    exact .inr ⟨by omega, by omega⟩
  · rw [if_neg h1]
    exact h i hi
theorem ofE_known {s : VS} (h : Know s) (n : Nat) (hn : n < 33) (h0 : 0 < n) : ofE s (n : Int) = if known (s.K n) = true then (s.K n, true) else (Rec.zero, false) := by
  unfold ofE
  rw [Int.toNat_natCast]
  rcases h n hn with h1 | ⟨h1, -⟩
  · rw [if_pos (.inr (.inr (by rw [h1]; rfl))), if_neg (by rw [h1]; decide)]
  · rw [if_neg (by rintro (a | a | a) <;> omega), if_pos (show known (s.K n) = true from decide_eq_true (by omega))]
theorem ev_drop (E : List Ev) (e : Ev) : ((E.drop (E.length - 128)) ++ [e]).drop ((E.drop (E.length - 128)).length + 1 - 128) = (E ++ [e]).drop ((E ++ [e]).length - 128) := by
  have h1 : (E ++ [e]).length = E.length + 1 := by simp
  have h2 : (E.drop (E.length - 128)).length = E.length - (E.length - 128) := List.length_drop
  rw [h1, h2]
  rcases Nat.lt_or_ge E.length 128 with h | h
  · rw [show E.length - 128 = 0 by omega, show E.length + 1 - 128 = 0 by omega, show E.length - 0 + 1 - 128 = 0 by omega]
    rfl
  · rw [show E.length - (E.length - 128) + 1 - 128 = 1 by omega, show E.length + 1 - 128 = 1 + (E.length - 128) by omega]
    have h3 : (E ++ [e]).drop (E.length - 128) = E.drop (E.length - 128) ++ [e] := by rw [List.drop_append_of_le_length (by omega)]
    rw [← h3, List.drop_drop, Nat.add_comm]
theorem set_mid (A B : List Rec) (y r : Rec) : (A ++ [y] ++ B).set A.length r = A ++ [r] ++ B := by
  rw [List.append_assoc, List.set_append_right _ _ (Nat.le_refl _), Nat.sub_self, List.append_assoc]
  rfl
theorem tell_ev (s : VS) (e : Ev) : (tell s e).E = (s.E ++ [e]).drop (s.E.length + 1 - 128) := by simp only [tell]
theorem takeE_eq {s : VS} {r : Rec} (hr : right r = true) {o : Rec} {t : Bool} (h : ofE s r.id = (o, t)) :
    takeE s r = if t = true ∧ over r o = false then (false, 0, s) else if (if t = true then o.st else -1) = r.st then (true, 0, { s with K := upd s.K r.id.toNat r }) else (true, 0, tell { s with K := upd s.K r.id.toNat r } ⟨r.id, if t = true then o.st else -1, r.st, r.inc⟩) := by
  unfold takeE wasE
  rw [if_neg (by rw [hr]; decide), h]
theorem rtake_none {x : RV} {r : Rec} (hr : right r = true) (h : rold x.L r.id = none) : rtake x r = (true, 0, ⟨x.L.take (rfind x.L r.id) ++ [r] ++ x.L.drop (rfind x.L r.id), x.E ++ [⟨r.id, -1, r.st, r.inc⟩]⟩) := by
  unfold rtake
  rw [if_neg (by rw [hr]; decide), h]
theorem rtake_some {x : RV} {r old : Rec} (hr : right r = true) (h : rold x.L r.id = some old) : rtake x r = if over r old = false then (false, 0, x) else (true, 0, ⟨x.L.set (rfind x.L r.id) r, if old.st = r.st then x.E else x.E ++ [⟨r.id, old.st, r.st, r.inc⟩]⟩) := by
  unfold rtake
  rw [if_neg (by rw [hr]; decide), h]
/-- Both take alike. -/
theorem rel_take {s : VS} {x : RV} (h : Rel s x) (r : Rec) : (rtake x r).1 = (takeE s r).1 ∧ (rtake x r).2.1 = (takeE s r).2.1 ∧ Rel (takeE s r).2.2 (rtake x r).2.2 := by
  obtain ⟨hk, hm, he, hs⟩ := h
  cases hr : right r with
  | false =>
    unfold rtake takeE
    rw [if_pos hr, if_pos hr]
    exact ⟨rfl, rfl, hk, hm, he, hs⟩
  | true =>
    obtain ⟨h1, h2, h3⟩ := right_known r hr
    obtain ⟨n, hn⟩ : ∃ n : Nat, r.id = (n : Int) := ⟨r.id.toNat, by omega⟩
    have hn33 : n < 33 := by omega
    have hn0 : 0 < n := by omega
    obtain ⟨hf, ho⟩ := find_at hk n hn33 hn0
    rw [hm] at hf ho
    have hof := ofE_known hk n hn33 hn0
    have hmu := members_upd (s := s) n hn33 r h3
    have hsp := members_split s n hn33
    have hku := Know_upd hk r hr
    have hst0 : (-1 : Int) ≠ r.st := by
      unfold right at hr
      have := (of_decide_eq_true hr).2.2.1
      omega
    have hnt : r.id.toNat = n := by omega
    rw [hnt] at hku
    by_cases hkn : known (s.K n) = true
    · rw [if_pos hkn] at ho hof hsp
      rw [← hn] at ho hof hf
      rw [takeE_eq hr hof, rtake_some hr ho, hnt]
      cases hov : over r (s.K n) with
      | false =>
        rw [if_pos rfl, if_pos (show true = true ∧ false = false from ⟨rfl, rfl⟩)]
        exact ⟨rfl, rfl, hk, hm, he, hs⟩
      | true =>
        have hL : x.L.set (rfind x.L r.id) r = lowM s.K n ++ [r] ++ highM s.K n := by rw [hf, ← hm, hsp, set_mid]
        rw [if_neg (by decide), if_neg (show ¬(true = true ∧ true = false) from fun h => Bool.noConfusion h.2), show (if true = true then (s.K n).st else (-1 : Int)) = (s.K n).st from rfl, hL]
        by_cases hst : (s.K n).st = r.st
        · rw [if_pos hst, if_pos hst]
          exact ⟨rfl, rfl, hku _ _, hmu _ _, he, hs⟩
        · rw [if_neg hst, if_neg hst]
          refine ⟨rfl, rfl, hku _ _, hmu _ _, ?_, ?_⟩
          · show (tell _ _).E = _
            rw [tell_ev]
            dsimp only
            rw [he, ev_drop x.E]
          · show s.seen + 1 = _
            rw [hs]
            simp
    · rw [if_neg hkn] at ho hof hsp
      rw [← hn] at ho hof hf
      have hL : x.L.take (rfind x.L r.id) ++ [r] ++ x.L.drop (rfind x.L r.id) = lowM s.K n ++ [r] ++ highM s.K n := by
        rw [hf, ← hm, hsp, List.append_nil, List.take_left, List.drop_left]
      rw [takeE_eq hr hof, rtake_none hr ho, hnt, hL, if_neg (show ¬(false = true ∧ over r Rec.zero = false) from fun h => Bool.noConfusion h.1), show (if false = true then Rec.zero.st else (-1 : Int)) = -1 from rfl, if_neg hst0]
      refine ⟨rfl, rfl, hku _ _, hmu _ _, ?_, ?_⟩
      · show (tell _ _).E = _
        rw [tell_ev]
        dsimp only
        rw [he, ev_drop x.E]
      · show s.seen + 1 = _
        rw [hs]
        simp
end Go.Proofs.Ythpmlnnjfmcglaa.VW
/- The reference's view: Of, Live, Events, Merge against the view's. No condition but those that each theorem names. -/
namespace Go.Proofs.Ythpmlnnjfmcglaa.VW
set_option linter.unusedVariables false
set_option linter.unusedSimpArgs false
open Go Go.RowKit
def rof (x : RV) (id : Int) : Rec × Bool := match rold x.L id with | some r => (r, true) | none => (Rec.zero, false)
theorem mem_ids {s : VS} (h : Know s) : ∀ r ∈ members s, 1 ≤ r.id ∧ r.id ≤ 32 := by
  intro r hr
  unfold members at hr
  obtain ⟨hm, hk⟩ := List.mem_filter.1 hr
  obtain ⟨i, hi, rfl⟩ := List.mem_map.1 hm
  have hi := List.mem_range.1 hi
  have hk := of_decide_eq_true hk
  rcases h i hi with h0 | ⟨h1, -⟩
  · rw [h0] at hk
    exact absurd hk (by decide)
  · omega
theorem rel_of {s : VS} {x : RV} (h : Rel s x) (id : Int) : rof x id = ofE s id := by
  obtain ⟨hk, hm, -, -⟩ := h
  unfold rof
  rw [← hm]
  by_cases h1 : 1 ≤ id ∧ id ≤ 32
  · obtain ⟨n, rfl⟩ := Int.eq_ofNat_of_zero_le (show 0 ≤ id by omega)
    obtain ⟨-, ho⟩ := find_at hk n (by omega) (by omega)
    rw [ho, ofE_known hk n (by omega) (by omega)]
    by_cases hkn : known (s.K n) = true
    · rw [if_pos hkn, if_pos hkn]
    · rw [if_neg hkn, if_neg hkn]
  · have hn : rold (members s) id = none := by
      unfold rold
      cases hg : (members s)[rfind (members s) id]? with
      | none => rfl
      | some r =>
        have hr := mem_ids hk r (List.mem_of_getElem? hg)
        simp
        omega
    rw [hn]
    unfold ofE
    rw [if_pos (by omega)]
def rlive (x : RV) : List Int := (x.L.filter liveB).map (·.id)
theorem rel_live {s : VS} {x : RV} (h : Rel s x) : rlive x = liveE s := by
  obtain ⟨hk, hm, -, -⟩ := h
  unfold rlive liveE
  rw [← hm]
  unfold members
  have h0 : known (s.K 0) = false := by
    rcases hk 0 (by decide) with h | ⟨-, h⟩
    · rw [h]; decide
    · exact absurd h (by decide)
  rw [show (fun r : Rec => decide (0 < r.id)) = known from rfl, List.range_succ_eq_map, List.map_cons, List.filter_cons, if_neg (by rw [h0]; decide), List.map_map, List.filter_map, List.filter_map, List.map_map, List.filter_filter]
  have hf : (List.range 32).filter (fun a => (liveB ∘ (s.K ∘ Nat.succ)) a && (known ∘ (s.K ∘ Nat.succ)) a) = (List.range 32).filter (fun i : Nat => (ofE s ((i : Int) + 1)).2 && liveB (ofE s ((i : Int) + 1)).1) := by
    refine List.filter_congr (fun i hi => ?_)
    have hi := List.mem_range.1 hi
    have ho := ofE_known hk (i + 1) (by omega) (by omega)
    rw [show (((i + 1 : Nat) : Int)) = (i : Int) + 1 by omega] at ho
    rw [ho]
    show (liveB (s.K (i + 1)) && known (s.K (i + 1))) = _
    by_cases hkn : known (s.K (i + 1)) = true
    · rw [if_pos hkn, hkn, Bool.and_comm]
    · rw [if_neg hkn, Bool.eq_false_iff.2 hkn]
      simp
  rw [hf]
  refine List.map_congr_left (fun i hi => ?_)
  obtain ⟨hi, hp⟩ := List.mem_filter.1 hi
  have hi := List.mem_range.1 hi
  show (s.K (i + 1)).id = _
  rcases hk (i + 1) (by omega) with h | ⟨h, -⟩
  · have ho := ofE_known hk (i + 1) (by omega) (by omega)
    rw [show (((i + 1 : Nat) : Int)) = (i : Int) + 1 by omega, h, if_neg (by decide)] at ho
    rw [ho] at hp
    cases hp
  · rw [h]; omega
def rmgF (x : List Rec × RV) (r : Rec) : List Rec × RV := (if (rtake x.2 r).1 = true then x.1 ++ [r] else x.1, (rtake x.2 r).2.2)
def rmg (x : RV) (l : List Rec) : List Rec × RV := l.foldl rmgF ([], x)
def rmerge (x : RV) (l : List Rec) : List Rec × Int × RV := if l.any bad = true then ([], 1, x) else ((rmg x l).1, 0, (rmg x l).2)
theorem rmg_snoc (x : RV) (l : List Rec) (r : Rec) : rmg x (l ++ [r]) = rmgF (rmg x l) r := by unfold rmg; rw [List.foldl_append]; rfl
theorem rel_fold : ∀ (l : List Rec) (o : List Rec) {s : VS} {x : RV}, Rel s x → (l.foldl rmgF (o, x)).1 = (l.foldl mgF (o, s)).1 ∧ Rel (l.foldl mgF (o, s)).2 (l.foldl rmgF (o, x)).2
  | [], _, _, _, h => ⟨rfl, h⟩
  | r :: l, o, s, x, h => by
    obtain ⟨h1, -, h3⟩ := rel_take h r
    rw [List.foldl_cons, List.foldl_cons]
    unfold rmgF mgF
    dsimp only
    rw [h1]
    exact rel_fold l _ h3
theorem rel_merge {s : VS} {x : RV} (h : Rel s x) (l : List Rec) : (rmerge x l).1 = (mergeE s l).1 ∧ (rmerge x l).2.1 = (mergeE s l).2.1 ∧ Rel (mergeE s l).2.2 (rmerge x l).2.2 := by
  unfold rmerge mergeE
  by_cases hb : l.any bad = true
  · rw [if_pos hb, if_pos hb]
    exact ⟨rfl, rfl, h⟩
  · rw [if_neg hb, if_neg hb]
    obtain ⟨h1, h2⟩ := rel_fold l [] h
    exact ⟨h1, rfl, h2⟩
theorem rtake_len (x : RV) (r : Rec) : (rtake x r).2.2.E.length ≤ x.E.length + 1 ∧ (rtake x r).2.2.L.length ≤ x.L.length + 1 := by
  unfold rtake
  split
  · exact ⟨Nat.le_succ _, Nat.le_succ _⟩
  · split
    · refine ⟨by simp, ?_⟩
      dsimp only
      rw [List.length_append, List.length_append, List.length_take, List.length_drop, List.length_singleton]
      omega
    · split
      · exact ⟨Nat.le_succ _, Nat.le_succ _⟩
      · dsimp only
        rw [List.length_set]
        refine ⟨?_, Nat.le_succ _⟩
        split <;> simp
end Go.Proofs.Ythpmlnnjfmcglaa.VW
/- The reference's view, walked: Right, Over, Live as plain functions; find. Conditions: those that each theorem names. -/
namespace Go.Proofs.Ythpmlnnjfmcglaa.VW
set_option linter.unusedVariables false
set_option linter.unusedSimpArgs false
open Go Go.RowKit Go.Proofs.YthpmlnnjfmcglaaS Go.Proofs.YthpmlnnjfmcglaaS.Asn Go.Proofs.Ythpmlnnjfmcglaa.PA Go.Proofs.YthpmlnnjfmcglaaW.PrintWords Go.Proofs.YthpmlnnjfmcglaaW.PrintLast Go.Proofs.YthpmlnnjfmcglaaW.PrintMore
theorem rright_f (r : Rec) : scuttlebuttref04_Right.f r.id r.st r.inc r.ip r.po = some (right r) := by
  unfold scuttlebuttref04_Right.f scuttlebuttref03_Addr_None.f right
  by_cases h3 : r.ip = 0
  · rw [if_pos h3, Option.bind_some]
    rw [decide_eq_false (show ¬(1 ≤ r.id ∧ r.id ≤ 32 ∧ 0 ≤ r.st ∧ r.st ≤ 3 ∧ r.ip ≠ 0 ∧ r.po ≠ 0) from fun h => h.2.2.2.2.1 h3)]
    split <;> (try split) <;> (try split) <;> (try split) <;> rfl
  · rw [if_neg h3, Option.bind_some]
    by_cases a : r.id ≥ 1
    · rw [if_pos a]
      by_cases b : r.id ≤ 32
      · rw [if_pos b]
        by_cases c : r.st ≥ 0
        · rw [if_pos c]
          by_cases d : r.st ≤ 3
          · rw [if_pos d]
            by_cases e : r.po = 0
            · rw [decide_eq_false (fun h => h.2.2.2.2.2 e), e]; rfl
            · rw [decide_eq_true (show 1 ≤ r.id ∧ r.id ≤ 32 ∧ 0 ≤ r.st ∧ r.st ≤ 3 ∧ r.ip ≠ 0 ∧ r.po ≠ 0 from ⟨a, b, c, d, h3, e⟩), beq_eq_false_iff_ne.2 e]; rfl
          · rw [if_neg d, decide_eq_false (fun h => d h.2.2.2.1)]
        · rw [if_neg c, decide_eq_false (fun h => c h.2.2.1)]
      · rw [if_neg b, decide_eq_false (fun h => b h.2.1)]
    · rw [if_neg a, decide_eq_false (fun h => a h.1)]
theorem rlive_f (r : Rec) : scuttlebuttref04_Record_Live.f r.id r.st r.inc r.ip r.po = some (liveB r) := by
  unfold scuttlebuttref04_Record_Live.f liveB
  by_cases h : r.st = 0
  · rw [if_pos h, h]; rfl
  · rw [if_neg h, (beq_eq_false_iff_ne).2 h, Bool.false_or]
theorem rorder3 (a0 a1 b0 b1 : Int) : scuttlebuttref03_Order.f 5 a0 a1 b0 b1 = some (ordA a0 a1 b0 b1) := by
  unfold scuttlebuttref03_Order.f ordA or2 cmpI
  show _ = _
  simp only [scuttlebuttref03_Order.j0]
  by_cases h1 : a0 < b0
  · simp [h1]
  · by_cases h2 : a0 = b0
    · by_cases h3 : a1 < b1
      · simp [h2, h3]
      · by_cases h4 : a1 = b1
        · simp [h2, h4]
        · simp [h2, h3, h4, show a1 > b1 by omega]
    · simp [h1, h2, show a0 > b0 by omega]
theorem rorder_f (a b : Rec) : scuttlebuttref04_Order.f 5 a.id a.st a.inc a.ip a.po b.id b.st b.inc b.ip b.po = some (order a b) := by
  unfold scuttlebuttref04_Order.f order ordR or2
  rw [rorder3]
  unfold cmpI
  by_cases h1 : a.inc = b.inc
  · rw [if_pos h1]
    by_cases h2 : a.st = b.st
    · simp [h1, h2]
    · rw [if_neg h2]
      by_cases h3 : a.st < b.st
      · simp [h1, h3]
      · simp [h1, h3, show a.st > b.st by omega]
  · rw [if_neg h1]
    by_cases h3 : a.inc < b.inc
    · simp [h3]
    · simp [h3, show a.inc > b.inc by omega]
theorem rover_f (a b : Rec) : scuttlebuttref04_Over.f 5 a.id a.st a.inc a.ip a.po b.id b.st b.inc b.ip b.po = some (over a b) := by
  unfold scuttlebuttref04_Over.f
  rw [rorder_f, Option.bind_some]
  rfl
/-- The reference's view in memory. -/
def viewR (p : Nat) (x : RV) : Asn := ex fun vL : Value => ex fun vE : Value => pt p #[vL, vE] 61 ⋆ row recK 66 vL x.L ⋆ row evK 94 vE x.E
end Go.Proofs.Ythpmlnnjfmcglaa.VW
/- The reference's view, walked: find, Of. Conditions: those that each theorem names. -/
namespace Go.Proofs.Ythpmlnnjfmcglaa.VW
set_option linter.unusedVariables false
set_option linter.unusedSimpArgs false
open Go Go.RowKit Go.Proofs.YthpmlnnjfmcglaaS Go.Proofs.YthpmlnnjfmcglaaS.Asn Go.Proofs.Ythpmlnnjfmcglaa.PA Go.Proofs.YthpmlnnjfmcglaaW.PrintWords Go.Proofs.YthpmlnnjfmcglaaW.PrintLast Go.Proofs.YthpmlnnjfmcglaaW.PrintMore
theorem recs_at {w : World} {A : Option Addr} {l : List Rec} (h : recK.C w A l.length l) (i : Nat) (x : Rec) (hx : l[i]? = some x) :
    ∃ ad, A = some ad ∧ w.cell? (ad.add (i * 5)) = some (.int .i64 x.id) ∧ w.cell? ⟨(ad.add (i * 5)).block, (ad.add (i * 5)).off + 1, none⟩ = some (.int .i64 x.st) ∧ w.cell? ⟨(ad.add (i * 5)).block, (ad.add (i * 5)).off + 2, none⟩ = some (.int .u32 x.inc) ∧ w.cell? ⟨(ad.add (i * 5)).block, (ad.add (i * 5)).off + 3, none⟩ = some (.int .u32 x.ip) ∧ w.cell? ⟨(ad.add (i * 5)).block, (ad.add (i * 5)).off + 4, none⟩ = some (.int .u16 x.po) := by
  obtain ⟨hi, he⟩ := List.getElem?_eq_some_iff.1 hx
  obtain ⟨h0, h1, h2⟩ := h
  obtain ⟨ad, rfl, hc⟩ := h2 (by omega)
  obtain ⟨c, hl, hk, hcell⟩ := hc i x hx
  rw [recK_open hk] at hcell
  refine ⟨ad, rfl, hcell 0 _ rfl, ?_, ?_, ?_, ?_⟩
  · rw [add_f _ _ _ (by decide)]; exact hcell 1 _ rfl
  · rw [add_f _ _ _ (by decide)]; exact hcell 2 _ rfl
  · rw [add_f _ _ _ (by decide)]; exact hcell 3 _ rfl
  · rw [add_f _ _ _ (by decide)]; exact hcell 4 _ rfl
theorem cell_now {w wr : World} {a : Addr} {v : Value} (h : w.cell? a = some v) (hb : Below w.heap.size w wr) : wr.cell? a = some v := (hb.cell (World.block_lt_of_cell? w _ h)).trans h
def ge (id : Int) (r : Rec) : Bool := decide (id ≤ r.id)
theorem rfind_hit (L : List Rec) (id : Int) (i : Nat) (y : Rec) (hy : L[i]? = some y) (hg : ge id y = true) (hn : (L.take i).any (ge id) = false) : rfind L id = i ∧ (rold L id).isSome = (y.id == id) := by
  obtain ⟨hi, rfl⟩ := List.getElem?_eq_some_iff.1 hy
  have h : rfind L id = i := by
    unfold rfind
    refine (List.findIdx_eq hi).2 ⟨hg, fun j hj => ?_⟩
    rw [List.any_eq_false] at hn
    have := hn L[j] (by rw [List.mem_take_iff_getElem]; exact ⟨j, by omega, rfl⟩)
    simpa [ge] using this
  refine ⟨h, ?_⟩
  unfold rold
  rw [h, hy]
  by_cases he : L[i].id = id
  · simp [he]
  · simp [he]
theorem rfind_miss (L : List Rec) (id : Int) (hn : L.any (ge id) = false) : rfind L id = L.length ∧ (rold L id).isSome = false := by
  have h : rfind L id = L.length := by
    unfold rfind
    rw [List.findIdx_eq_length]
    intro x hx
    rw [List.any_eq_false] at hn
    simpa [ge] using hn x hx
  refine ⟨h, ?_⟩
  unfold rold
  rw [h, List.getElem?_eq_none (Nat.le_refl _)]
  rfl
set_option maxHeartbeats 1000000 in
theorem find_walk (p : Nat) (A : Option Addr) (c : Nat) (L : List Rec) (id : Int) (w : World) (hp : w.cell? ⟨p, 0, none⟩ = some (.slice A L.length c)) (hC : recK.C w A L.length L) (hl : L.length ≤ 1000) :
    Calls Try.prog 39 #[.pointer (some ⟨p, 0, none⟩), .int .i64 id] w fun e w' => e = .returned (.tuple #[.int .i64 (rfind L id : Int), .bool (rold L id).isSome]) ∧ Below w.heap.size w w' := by
  have HP := Aside0.mk hp
  have HC := Aside0.mk hC
  have HL := Aside0.mk hl
  clear hp hC hl
  go_enter Try.func39, Try.ntmps39
  go_upto_region 2 with (fail)
  go_loopg [6] L.length (fun gg v6 wr => ∃ i : Nat, i ≤ L.length ∧ L.length - i ≤ gg ∧ v6 = .int .i64 (i : Int) ∧ Aside0 (Below w.heap.size w wr) ∧ Aside0 ((L.take i).any (ge id) = false))
  case atStart => exact ⟨0, Nat.zero_le _, by omega, rfl, ⟨Below.refl _ w⟩, ⟨by simp⟩⟩
  case round =>
    obtain ⟨i, hi, hgi, rfl, BW, HA⟩ := hrel
    have kp := cell_now HP.out BW.out
    by_cases hlt : i < L.length
    · have c1b : decide ((i : Int) < (L.length : Int)) = true := decide_eq_true (Int.ofNat_lt.2 hlt); have c1n : decide (i < L.length) = true := decide_eq_true hlt; have c1q : (i < L.length) = True := eq_true hlt; have p0_ := eq_true (Int.natCast_nonneg i)
      have HI := Aside0.mk (And.intro hlt hgi)
      obtain ⟨y, hy⟩ : ∃ y, L[i]? = some y := ⟨_, List.getElem?_eq_getElem hlt⟩
      obtain ⟨ad, rfl, k0, -, -, -, -⟩ := recs_at (Kd.C_below HC.out BW.out) i y hy
      have HY := Aside0.mk hy
      clear hi hgi hlt hy
      by_cases hg : id ≤ y.id
      · have d1 : decide (id ≤ y.id) = true := decide_eq_true hg
        have d2 : decide (y.id ≥ id) = true := decide_eq_true hg
        have d3 := eq_true hg
        have HG : Aside0 (ge id y = true) := ⟨d1⟩
        clear hg
        go_upto_region 5 with (fail)
        go_region
        all_goals
          go_wp2
          go_ret2
          obtain ⟨e1, e2⟩ := rfind_hit L id i y HY.out HG.out HA.out
          rw [e1, e2]
          exact ⟨rfl, below_drew BW.out⟩
      · have d1 : decide (id ≤ y.id) = false := decide_eq_false hg
        have d2 : decide (y.id ≥ id) = false := decide_eq_false hg
        have d3 := eq_false hg
        have HG : Aside0 (ge id y = false) := ⟨d1⟩
        clear hg
        go_wp2
        go_roundg (L.length - (i + 1))
        case measure => have := HI.out; omega
        case rel =>
          refine ⟨i + 1, HI.out.1, Nat.le_refl _, congrArg (Value.int .i64) (by have := HI.out; have := HL.out; unfold wrap64; omega), BW, ⟨?_⟩⟩
          rw [List.take_add_one, HY.out, List.any_append, HA.out]
          simp [HG.out]
    · obtain rfl : i = L.length := by omega
      have c2b : decide ((L.length : Int) < (L.length : Int)) = false := decide_eq_false (by omega)
      go_wp2
      go_ret2
      have h := HA.out
      rw [List.take_length] at h
      obtain ⟨e1, e2⟩ := rfind_miss L id h
      rw [e1, e2]
      exact ⟨rfl, BW.out⟩
end Go.Proofs.Ythpmlnnjfmcglaa.VW
/- The reference's view, walked: Of. Conditions: those that each theorem names. -/
namespace Go.Proofs.Ythpmlnnjfmcglaa.VW
set_option linter.unusedVariables false
set_option linter.unusedSimpArgs false
open Go Go.RowKit Go.Proofs.YthpmlnnjfmcglaaS Go.Proofs.YthpmlnnjfmcglaaS.Asn Go.Proofs.Ythpmlnnjfmcglaa.PA Go.Proofs.YthpmlnnjfmcglaaW.PrintWords Go.Proofs.YthpmlnnjfmcglaaW.PrintLast Go.Proofs.YthpmlnnjfmcglaaW.PrintMore
def rofL (L : List Rec) (id : Int) : Rec × Bool := match rold L id with | some r => (r, true) | none => (Rec.zero, false)
theorem rof_eq (x : RV) (id : Int) : rof x id = rofL x.L id := rfl
theorem rold_at {L : List Rec} {id : Int} {r : Rec} (h : rold L id = some r) : L[rfind L id]? = some r ∧ r.id = id := by
  unfold rold at h
  cases hg : L[rfind L id]? with
  | none => rw [hg] at h; cases h
  | some y =>
    rw [hg] at h
    by_cases hy : y.id = id
    · rw [show (some y : Option Rec).filter (fun r => decide (r.id = id)) = some y by simp [hy]] at h
      cases h
      exact ⟨rfl, hy⟩
    · rw [show (some y : Option Rec).filter (fun r => decide (r.id = id)) = none by simp [hy]] at h
      cases h
set_option maxHeartbeats 1000000 in
theorem rof_walk (p : Nat) (A : Option Addr) (c : Nat) (L : List Rec) (id : Int) (w : World) (hp : w.cell? ⟨p, 0, none⟩ = some (.slice A L.length c)) (hC : recK.C w A L.length L) (hl : L.length ≤ 1000) :
    Calls Try.prog 22 #[.pointer (some ⟨p, 0, none⟩), .int .i64 id] w fun e w' => e = .returned (.tuple #[.agg #[.int .i64 (rofL L id).1.id, .int .i64 (rofL L id).1.st, .int .u32 (rofL L id).1.inc, .int .u32 (rofL L id).1.ip, .int .u16 (rofL L id).1.po], .bool (rofL L id).2]) ∧ Below w.heap.size w w' := by
  have HS := Aside0.mk (sep_start w)
  have HP := Aside0.mk hp
  have HC := Aside0.mk hC
  have HL := Aside0.mk hl
  clear hp hC hl
  cases ho : rold L id with
  | none =>
    have hf : rofL L id = (Rec.zero, false) := by unfold rofL; rw [ho]
    rw [hf]
    have HO := Aside0.mk ho
    clear hf ho
    go_enter Try.func22, Try.ntmps22
    go_upto_region 1 with (fail)
    have n_ := sep_alloc HS.out #[.int .i64 0, .int .i64 0, .int .u32 0, .int .u32 0, .int .u16 0] 66
    have n0_ := Aside0.mk n_; clear HS n_; have HS := n0_; clear n0_
    generalize w.alloc (.cells #[.int .i64 0, .int .i64 0, .int .u32 0, .int .u32 0, .int .u16 0] 66) = wa at HS ⊢
    generalize hsz : w.heap.size = g4 at HS ⊢
    clear hsz
    obtain ⟨k1, k2, k3, k4, k5⟩ := facts5 HS.out
    obtain ⟨f1, f2, f3, f4, f5⟩ := facts5f HS.out
    go_upto_region 2 with (go_at_call 39; have hx_ := find_walk p A c L id _ (cell_now HP.out (sep_below_of HS.out)) (Kd.C_below HC.out (sep_below_of HS.out)) HL.out; rw [HO.out] at hx_; dsimp only [Option.isSome] at hx_; (with_reducible refine Calls.mono hx_ ?_); rintro e w1 ⟨rfl, hb_⟩; have n_ := sep_below HS.out hb_; clear hb_ hx_ k1 k2 k3 k4 k5 f1 f2 f3 f4 f5; have n0_ := Aside0.mk n_; clear HS n_; have HS := n0_; clear n0_; obtain ⟨k1, k2, k3, k4, k5⟩ := facts5 HS.out; obtain ⟨f1, f2, f3, f4, f5⟩ := facts5f HS.out)
    go_wp2
    have n_ := sep_set5 HS.out (.int .i64 0) (.int .i64 0) (.int .u32 0) (.int .u32 0) (.int .u16 0)
    refine bodyPost_ret (results_ct rfl _ _ g4 66 #[.int .i64 Rec.zero.id, .int .i64 Rec.zero.st, .int .u32 Rec.zero.inc, .int .u32 Rec.zero.ip, .int .u16 Rec.zero.po] (0, 0) _ rfl (sep_pt n_) Try.underlying66 rfl (by kernel_rfl)) rfl ?_
    exact ⟨rfl, sep_below_of n_⟩
  | some y =>
    have hf : rofL L id = (y, true) := by unfold rofL; rw [ho]
    rw [hf]
    obtain ⟨hy, -⟩ := rold_at ho
    obtain ⟨k, hk⟩ : ∃ k, rfind L id = k := ⟨_, rfl⟩
    rw [hk] at hy
    have hkl : k < L.length := (List.getElem?_eq_some_iff.1 hy).1
    have c1b : decide ((k : Int) < (L.length : Int)) = true := decide_eq_true (Int.ofNat_lt.2 hkl); have c1n : decide (k < L.length) = true := decide_eq_true hkl; have c1q : (k < L.length) = True := eq_true hkl; have p0_ := eq_true (Int.natCast_nonneg k)
    have HO := Aside0.mk ho
    have HY := Aside0.mk hy
    have HK := Aside0.mk hk
    clear hf ho hy hk hkl
    go_enter Try.func22, Try.ntmps22
    go_upto_region 1 with (fail)
    have n_ := sep_alloc HS.out #[.int .i64 0, .int .i64 0, .int .u32 0, .int .u32 0, .int .u16 0] 66
    have n0_ := Aside0.mk n_; clear HS n_; have HS := n0_; clear n0_
    generalize w.alloc (.cells #[.int .i64 0, .int .i64 0, .int .u32 0, .int .u32 0, .int .u16 0] 66) = wa at HS ⊢
    generalize hsz : w.heap.size = g4 at HS ⊢
    clear hsz
    obtain ⟨k1, k2, k3, k4, k5⟩ := facts5 HS.out
    obtain ⟨f1, f2, f3, f4, f5⟩ := facts5f HS.out
    go_upto_region 2 with (go_at_call 39; have hx_ := find_walk p A c L id _ (cell_now HP.out (sep_below_of HS.out)) (Kd.C_below HC.out (sep_below_of HS.out)) HL.out; rw [HO.out] at hx_; dsimp only [Option.isSome] at hx_; (with_reducible refine Calls.mono hx_ ?_); rintro e w1 ⟨rfl, hb_⟩; have n_ := sep_below HS.out hb_; clear hb_ hx_ k1 k2 k3 k4 k5 f1 f2 f3 f4 f5; have n0_ := Aside0.mk n_; clear HS n_; have HS := n0_; clear n0_; obtain ⟨k1, k2, k3, k4, k5⟩ := facts5 HS.out; obtain ⟨f1, f2, f3, f4, f5⟩ := facts5f HS.out)
    rw [HK.out]
    have kp := cell_now HP.out (sep_below_of HS.out)
    obtain ⟨ad, rfl, m0, m1, m2, m3, m4⟩ := recs_at (Kd.C_below HC.out (sep_below_of HS.out)) k y HY.out
    go_wp2
    have n_ := sep_set5 HS.out (.int .i64 y.id) (.int .i64 y.st) (.int .u32 y.inc) (.int .u32 y.ip) (.int .u16 y.po)
    refine bodyPost_ret (results_ct rfl _ _ g4 66 #[.int .i64 y.id, .int .i64 y.st, .int .u32 y.inc, .int .u32 y.ip, .int .u16 y.po] (0, 0) _ rfl (sep_pt n_) Try.underlying66 rfl (by kernel_rfl)) rfl ?_
    exact ⟨rfl, sep_below_of n_⟩
end Go.Proofs.Ythpmlnnjfmcglaa.VW
/- The reference's view, walked: Live. Conditions: those that each theorem names. -/
namespace Go.Proofs.Ythpmlnnjfmcglaa.VW
set_option linter.unusedVariables false
set_option linter.unusedSimpArgs false
open Go Go.RowKit Go.Proofs.YthpmlnnjfmcglaaS Go.Proofs.YthpmlnnjfmcglaaS.Asn Go.Proofs.Ythpmlnnjfmcglaa.PA Go.Proofs.YthpmlnnjfmcglaaW.PrintWords Go.Proofs.YthpmlnnjfmcglaaW.PrintLast Go.Proofs.YthpmlnnjfmcglaaW.PrintMore
def liveL (L : List Rec) (i : Nat) : List Int := ((L.take i).filter liveB).map (·.id)
theorem liveL_succ (L : List Rec) (i : Nat) (y : Rec) (h : L[i]? = some y) : liveL L (i + 1) = liveL L i ++ if liveB y = true then [y.id] else [] := by
  unfold liveL
  rw [List.take_add_one, h, Option.toList_some, List.filter_append, List.map_append]
  congr 1
  by_cases hy : liveB y = true
  · rw [if_pos hy, List.filter_cons, if_pos hy]; rfl
  · rw [if_neg hy, List.filter_cons, if_neg hy]; rfl
theorem liveL_len (L : List Rec) (i : Nat) : (liveL L i).length ≤ i := by
  unfold liveL
  rw [List.length_map]
  refine Nat.le_trans (List.length_filter_le _ _) ?_
  rw [List.length_take]
  omega
theorem info3r : (Try.prog.info? 3).map (fun i => (i.zero, i.size, i.bytes)) = some (some (.int .i64 0), 1, 8) := by kernel_rfl
set_option maxHeartbeats 1000000 in
theorem rlive_walk (p : Nat) (A : Option Addr) (c : Nat) (L : List Rec) (w : World) (hp : w.cell? ⟨p, 0, none⟩ = some (.slice A L.length c)) (hC : recK.C w A L.length L) (hl : L.length ≤ 1000) :
    Calls Try.prog 26 #[.pointer (some ⟨p, 0, none⟩)] w fun e w' => ∃ v, e = .returned v ∧ Sep w (fun _ => False) (row (Kd.int .i64) 3 v (liveL L L.length) ⋆ emp) w' := by
  have HS := Aside0.mk (sep_row_nil (d := Kd.int .i64) (e := 3) (sep_start w))
  have HP := Aside0.mk hp
  have HC := Aside0.mk hC
  have HL := Aside0.mk hl
  clear hp hC hl
  go_enter Try.func26, Try.ntmps26
  go_upto_region 3 with (fail)
  go_loopg [3, 4] L.length (fun gg v3 v4 wr => ∃ i : Nat, i ≤ L.length ∧ L.length - i ≤ gg ∧ v4 = .int .i64 (i : Int) ∧ Aside0 (Sep w (fun _ => False) (row (Kd.int .i64) 3 v3 (liveL L i) ⋆ emp) wr))
  case atStart => exact ⟨0, Nat.zero_le _, by omega, rfl, HS⟩
  case round =>
    clear HS
    obtain ⟨i, hi, hgi, rfl, HS⟩ := hrel
    have kp := cell_now HP.out (sep_below_of HS.out)
    by_cases hlt : i < L.length
    · have c1b : decide ((i : Int) < (L.length : Int)) = true := decide_eq_true (Int.ofNat_lt.2 hlt); have c1n : decide (i < L.length) = true := decide_eq_true hlt; have c1q : (i < L.length) = True := eq_true hlt; have p0_ := eq_true (Int.natCast_nonneg i)
      have HI := Aside0.mk (And.intro hlt hgi)
      obtain ⟨y, hy⟩ : ∃ y, L[i]? = some y := ⟨_, List.getElem?_eq_getElem hlt⟩
      obtain ⟨ad, rfl, k0, k1, k2, k3, k4⟩ := recs_at (Kd.C_below HC.out (sep_below_of HS.out)) i y hy
      have hsu := liveL_succ L i y hy
      obtain ⟨b, hb⟩ : ∃ b, liveB y = b := ⟨_, rfl⟩
      rw [hb] at hsu
      have hf := rlive_f y
      rw [hb] at hf
      have HF := Aside0.mk hf
      have HY := Aside0.mk hy
      clear hi hgi hlt hy hb hf
      cases b with
      | false =>
        rw [if_neg (by decide), List.append_nil] at hsu
        have HSU := Aside0.mk hsu
        clear hsu
        go_wp2_with (go_at_call 43; (with_reducible refine Calls.mono (scuttlebuttref04_Record_Live.calls y.id y.st y.inc y.ip y.po false _ HF.out) ?_); rintro e w1 ⟨rfl, hb_⟩; have n_ := sep_below HS.out hb_; clear hb_; have n0_ := Aside0.mk n_; clear HS n_; have HS := n0_; clear n0_)
        go_roundg (L.length - (i + 1))
        case measure => have := HI.out; omega
        case rel => exact ⟨i + 1, HI.out.1, Nat.le_refl _, congrArg (Value.int .i64) (by have := HI.out; have := HL.out; unfold wrap64; omega), ⟨by rw [HSU.out]; exact HS.out⟩⟩
      | true =>
        rw [if_pos rfl] at hsu
        have HSU := Aside0.mk hsu
        clear hsu
        go_upto_region 6 with (go_at_call 43; (with_reducible refine Calls.mono (scuttlebuttref04_Record_Live.calls y.id y.st y.inc y.ip y.po true _ HF.out) ?_); rintro e w1 ⟨rfl, hb_⟩; have n_ := sep_below HS.out hb_; clear hb_; have n0_ := Aside0.mk n_; clear HS n_; have HS := n0_; clear n0_)
        clear kp k0 k1 k2 k3 k4
        have kp := cell_now HP.out (sep_below_of HS.out)
        obtain ⟨ad_, hA_, k0, -, -, -, -⟩ := recs_at (Kd.C_below HC.out (sep_below_of HS.out)) i y HY.out
        cases hA_
        go_wp2_with ((with_reducible refine gate_builtin (b := .append) (xs := #[.tmp 24, .tmp 33]) rfl ?_); at_builtin; refine wp_append (Kd.int .i64) rfl (.tmp 24) (.tmp 33) 52 3 (.int .i64 0) 8 rfl Try.underlying52 info3r rfl (by decide) (by decide) _ (liveL L i) y.id [.int .i64 y.id] (by rfl) (by rfl) rfl HS.out (by have := liveL_len L i; have := HI.out; have := HL.out; omega) ?_; intro v1_ w4 n_; have n0_ := Aside0.mk n_; clear HS n_; have HS := n0_; clear n0_)
        go_roundg (L.length - (i + 1))
        case measure => have := HI.out; omega
        case rel => exact ⟨i + 1, HI.out.1, Nat.le_refl _, congrArg (Value.int .i64) (by have := HI.out; have := HL.out; unfold wrap64; omega), ⟨by rw [HSU.out]; exact HS.out⟩⟩
    · obtain rfl : i = L.length := by omega
      have c2b : decide ((L.length : Int) < (L.length : Int)) = false := decide_eq_false (by omega)
      clear hi hgi hlt
      obtain ⟨A_, c_, rfl, -, -⟩ := sep_row HS.out
      go_wp2
      go_ret
      exact ⟨_, rfl, HS.out⟩
end Go.Proofs.Ythpmlnnjfmcglaa.VW
/- The law's alike, walked. Conditions: those that each theorem names. -/
namespace Go.Proofs.Ythpmlnnjfmcglaa.VW
set_option linter.unusedVariables false
set_option linter.unusedSimpArgs false
open Go Go.RowKit Go.Proofs.YthpmlnnjfmcglaaS Go.Proofs.YthpmlnnjfmcglaaS.Asn Go.Proofs.Ythpmlnnjfmcglaa.PA Go.Proofs.YthpmlnnjfmcglaaW.PrintWords Go.Proofs.YthpmlnnjfmcglaaW.PrintLast Go.Proofs.YthpmlnnjfmcglaaW.PrintMore
theorem alike_keep {w w' : World} {ad ae : Addr} {c d : Nat} {L : List Rec} (hb : Below w.heap.size w w') (hA : recK.C w (some ad) L.length L) (hB : recK.C w (some ae) L.length L) (i : Nat) (y : Rec) (hy : L[i]? = some y) : w'.cell? (ae.add (i * 5)) = some (.int .i64 y.id) ∧ w'.cell? ⟨(ae.add (i * 5)).block, (ae.add (i * 5)).off + 1, none⟩ = some (.int .i64 y.st) ∧ w'.cell? ⟨(ae.add (i * 5)).block, (ae.add (i * 5)).off + 2, none⟩ = some (.int .u32 y.inc) ∧ w'.cell? ⟨(ae.add (i * 5)).block, (ae.add (i * 5)).off + 3, none⟩ = some (.int .u32 y.ip) ∧ w'.cell? ⟨(ae.add (i * 5)).block, (ae.add (i * 5)).off + 4, none⟩ = some (.int .u16 y.po) ∧ w'.cell? (ad.add (i * 5)) = some (.int .i64 y.id) ∧ w'.cell? ⟨(ad.add (i * 5)).block, (ad.add (i * 5)).off + 1, none⟩ = some (.int .i64 y.st) ∧ w'.cell? ⟨(ad.add (i * 5)).block, (ad.add (i * 5)).off + 2, none⟩ = some (.int .u32 y.inc) ∧ w'.cell? ⟨(ad.add (i * 5)).block, (ad.add (i * 5)).off + 3, none⟩ = some (.int .u32 y.ip) ∧ w'.cell? ⟨(ad.add (i * 5)).block, (ad.add (i * 5)).off + 4, none⟩ = some (.int .u16 y.po) := by
  obtain ⟨ad_, h1, k0, k1, k2, k3, k4⟩ := recs_at (Kd.C_below hA hb) i y hy
  cases h1
  obtain ⟨ae_, h2, m0, m1, m2, m3, m4⟩ := recs_at (Kd.C_below hB hb) i y hy
  cases h2
  exact ⟨m0, m1, m2, m3, m4, k0, k1, k2, k3, k4⟩
set_option maxHeartbeats 2000000 in
/-- Of the same records it says so. -/
theorem alike_walk (A B : Option Addr) (c d : Nat) (L : List Rec) (w : World) (hA : recK.C w A L.length L) (hB : recK.C w B L.length L) (hl : L.length ≤ 1000) :
    Calls Try.prog 25 #[.slice A L.length c, .slice B L.length d] w fun e w' => e = .returned (.bool true) ∧ Below w.heap.size w w' := by
  have HS := Aside0.mk (sep_start w)
  have HA := Aside0.mk hA
  have HB := Aside0.mk hB
  have HL := Aside0.mk hl
  clear hA hB hl
  go_enter Try.func25, Try.ntmps25
  go_upto_region 4 with (fail)
  go_loopg [5] L.length (fun gg v5 wr => ∃ i : Nat, i ≤ L.length ∧ L.length - i ≤ gg ∧ v5 = .int .i64 (i : Int) ∧ Aside0 (Sep w (fun _ => False) emp wr))
  case atStart => exact ⟨0, Nat.zero_le _, by omega, rfl, HS⟩
  case round =>
    clear HS
    obtain ⟨i, hi, hgi, rfl, HS⟩ := hrel
    by_cases hlt : i < L.length
    · have c1b : decide ((i : Int) < (L.length : Int)) = true := decide_eq_true (Int.ofNat_lt.2 hlt); have c1n : decide (i < L.length) = true := decide_eq_true hlt; have c1q : (i < L.length) = True := eq_true hlt; have p0_ := eq_true (Int.natCast_nonneg i)
      have HI := Aside0.mk (And.intro hlt hgi)
      obtain ⟨y, hy⟩ : ∃ y, L[i]? = some y := ⟨_, List.getElem?_eq_getElem hlt⟩
      obtain ⟨ad, rfl, -, -, -, -, -⟩ := recs_at HA.out i y hy
      obtain ⟨ae, rfl, -, -, -, -, -⟩ := recs_at HB.out i y hy
      have HY := Aside0.mk hy
      clear hi hgi hlt hy
      go_upto_region 6 with (fail)
      have n_ := sep_drew HS.out
      have n0_ := Aside0.mk n_; clear HS n_; have HS := n0_; clear n0_
      obtain ⟨m0, m1, m2, m3, m4, k0, k1, k2, k3, k4⟩ := alike_keep (c := 0) (d := 0) (sep_below_of HS.out) HA.out HB.out i y HY.out
      (first | go_region_held3 (fun w' => w'.cell? (ae.add (i * 5)) = some (.int .i64 y.id) ∧ w'.cell? ⟨(ae.add (i * 5)).block, (ae.add (i * 5)).off + 1, none⟩ = some (.int .i64 y.st) ∧ w'.cell? ⟨(ae.add (i * 5)).block, (ae.add (i * 5)).off + 2, none⟩ = some (.int .u32 y.inc) ∧ w'.cell? ⟨(ae.add (i * 5)).block, (ae.add (i * 5)).off + 3, none⟩ = some (.int .u32 y.ip) ∧ w'.cell? ⟨(ae.add (i * 5)).block, (ae.add (i * 5)).off + 4, none⟩ = some (.int .u16 y.po) ∧ w'.cell? (ad.add (i * 5)) = some (.int .i64 y.id) ∧ w'.cell? ⟨(ad.add (i * 5)).block, (ad.add (i * 5)).off + 1, none⟩ = some (.int .i64 y.st) ∧ w'.cell? ⟨(ad.add (i * 5)).block, (ad.add (i * 5)).off + 2, none⟩ = some (.int .u32 y.inc) ∧ w'.cell? ⟨(ad.add (i * 5)).block, (ad.add (i * 5)).off + 3, none⟩ = some (.int .u32 y.ip) ∧ w'.cell? ⟨(ad.add (i * 5)).block, (ad.add (i * 5)).off + 4, none⟩ = some (.int .u16 y.po)) (exact ⟨m0, m1, m2, m3, m4, k0, k1, k2, k3, k4⟩) (first | (go_at_call 21; (with_reducible refine Calls.mono (scuttlebuttlaw11_refRecord.calls y.id y.st y.inc y.ip y.po y.id y.st y.inc y.ip y.po _ rfl) ?_); rintro e w1 ⟨rfl, hb_⟩; have n_ := sep_below HS.out hb_; clear hb_ m0 m1 m2 m3 m4 k0 k1 k2 k3 k4; have n0_ := Aside0.mk n_; clear HS n_; have HS := n0_; clear n0_; obtain ⟨m0, m1, m2, m3, m4, k0, k1, k2, k3, k4⟩ := alike_keep (c := 0) (d := 0) (sep_below_of HS.out) HA.out HB.out i y HY.out) | fail) | fail)
      all_goals
        go_wp2
        go_roundg (L.length - (i + 1))
        case measure => have := HI.out; omega
        case rel => exact ⟨i + 1, HI.out.1, Nat.le_refl _, congrArg (Value.int .i64) (by have := HI.out; have := HL.out; unfold wrap64; omega), HS⟩
    · obtain rfl : i = L.length := by omega
      have c2b : decide ((L.length : Int) < (L.length : Int)) = false := decide_eq_false (by omega)
      clear hi hgi hlt
      go_wp2
      go_ret
      exact ⟨rfl, sep_below_of HS.out⟩
end Go.Proofs.Ythpmlnnjfmcglaa.VW
/- The law's events, walked. Conditions: those that each theorem names. -/
namespace Go.Proofs.Ythpmlnnjfmcglaa.VW
set_option linter.unusedVariables false
set_option linter.unusedSimpArgs false
open Go Go.RowKit Go.Proofs.YthpmlnnjfmcglaaS Go.Proofs.YthpmlnnjfmcglaaS.Asn Go.Proofs.Ythpmlnnjfmcglaa.PA Go.Proofs.YthpmlnnjfmcglaaW.PrintWords Go.Proofs.YthpmlnnjfmcglaaW.PrintLast Go.Proofs.YthpmlnnjfmcglaaW.PrintMore
theorem events_keep {w w' : World} {ad ae : Addr} {L : List Ev} (hb : Below w.heap.size w w') (hA : evK.C w (some ad) L.length L) (hB : evK.C w (some ae) L.length L) (i : Nat) (y : Ev) (hy : L[i]? = some y) : w'.cell? (ae.add (i * 4)) = some (.int .i64 y.id) ∧ w'.cell? ⟨(ae.add (i * 4)).block, (ae.add (i * 4)).off + 1, none⟩ = some (.int .i64 y.was) ∧ w'.cell? ⟨(ae.add (i * 4)).block, (ae.add (i * 4)).off + 2, none⟩ = some (.int .i64 y.is_) ∧ w'.cell? ⟨(ae.add (i * 4)).block, (ae.add (i * 4)).off + 3, none⟩ = some (.int .u32 y.inc) ∧ w'.cell? (ad.add (i * 4)) = some (.int .i64 y.id) ∧ w'.cell? ⟨(ad.add (i * 4)).block, (ad.add (i * 4)).off + 1, none⟩ = some (.int .i64 y.was) ∧ w'.cell? ⟨(ad.add (i * 4)).block, (ad.add (i * 4)).off + 2, none⟩ = some (.int .i64 y.is_) ∧ w'.cell? ⟨(ad.add (i * 4)).block, (ad.add (i * 4)).off + 3, none⟩ = some (.int .u32 y.inc) := by
  obtain ⟨ad_, h1, k0, k1, k2, k3⟩ := ev_at (Kd.C_below hA hb) i y hy
  cases h1
  obtain ⟨ae_, h2, m0, m1, m2, m3⟩ := ev_at (Kd.C_below hB hb) i y hy
  cases h2
  exact ⟨m0, m1, m2, m3, k0, k1, k2, k3⟩
set_option maxHeartbeats 2000000 in
/-- Of the same events it says so. -/
theorem events_walk (A B : Option Addr) (c d : Nat) (L : List Ev) (w : World) (hA : evK.C w A L.length L) (hB : evK.C w B L.length L) (hl : L.length ≤ 1000) :
    Calls Try.prog 27 #[.slice A L.length c, .slice B L.length d] w fun e w' => e = .returned (.bool true) ∧ Below w.heap.size w w' := by
  have HS := Aside0.mk (sep_start w)
  have HA := Aside0.mk hA
  have HB := Aside0.mk hB
  have HL := Aside0.mk hl
  clear hA hB hl
  go_enter Try.func27, Try.ntmps27
  go_upto_region 4 with (fail)
  go_loopg [5] L.length (fun gg v5 wr => ∃ i : Nat, i ≤ L.length ∧ L.length - i ≤ gg ∧ v5 = .int .i64 (i : Int) ∧ Aside0 (Sep w (fun _ => False) emp wr))
  case atStart => exact ⟨0, Nat.zero_le _, by omega, rfl, HS⟩
  case round =>
    clear HS
    obtain ⟨i, hi, hgi, rfl, HS⟩ := hrel
    by_cases hlt : i < L.length
    · have c1b : decide ((i : Int) < (L.length : Int)) = true := decide_eq_true (Int.ofNat_lt.2 hlt); have c1n : decide (i < L.length) = true := decide_eq_true hlt; have c1q : (i < L.length) = True := eq_true hlt; have p0_ := eq_true (Int.natCast_nonneg i)
      have HI := Aside0.mk (And.intro hlt hgi)
      obtain ⟨y, hy⟩ : ∃ y, L[i]? = some y := ⟨_, List.getElem?_eq_getElem hlt⟩
      obtain ⟨ad, rfl, -, -, -, -⟩ := ev_at HA.out i y hy
      obtain ⟨ae, rfl, -, -, -, -⟩ := ev_at HB.out i y hy
      have HY := Aside0.mk hy
      clear hi hgi hlt hy
      go_upto_region 6 with (fail)
      have n_ := sep_drew HS.out
      have n0_ := Aside0.mk n_; clear HS n_; have HS := n0_; clear n0_
      obtain ⟨m0, m1, m2, m3, k0, k1, k2, k3⟩ := events_keep (sep_below_of HS.out) HA.out HB.out i y HY.out
      (first | go_region_held3 (fun w' => w'.cell? (ae.add (i * 4)) = some (.int .i64 y.id) ∧ w'.cell? ⟨(ae.add (i * 4)).block, (ae.add (i * 4)).off + 1, none⟩ = some (.int .i64 y.was) ∧ w'.cell? ⟨(ae.add (i * 4)).block, (ae.add (i * 4)).off + 2, none⟩ = some (.int .i64 y.is_) ∧ w'.cell? ⟨(ae.add (i * 4)).block, (ae.add (i * 4)).off + 3, none⟩ = some (.int .u32 y.inc) ∧ w'.cell? (ad.add (i * 4)) = some (.int .i64 y.id) ∧ w'.cell? ⟨(ad.add (i * 4)).block, (ad.add (i * 4)).off + 1, none⟩ = some (.int .i64 y.was) ∧ w'.cell? ⟨(ad.add (i * 4)).block, (ad.add (i * 4)).off + 2, none⟩ = some (.int .i64 y.is_) ∧ w'.cell? ⟨(ad.add (i * 4)).block, (ad.add (i * 4)).off + 3, none⟩ = some (.int .u32 y.inc)) (exact ⟨m0, m1, m2, m3, k0, k1, k2, k3⟩) (first | fail) | fail)
      all_goals
        go_wp2
        go_roundg (L.length - (i + 1))
        case measure => have := HI.out; omega
        case rel => exact ⟨i + 1, HI.out.1, Nat.le_refl _, congrArg (Value.int .i64) (by have := HI.out; have := HL.out; unfold wrap64; omega), HS⟩
    · obtain rfl : i = L.length := by omega
      have c2b : decide ((L.length : Int) < (L.length : Int)) = false := decide_eq_false (by omega)
      clear hi hgi hlt
      go_wp2
      go_ret
      exact ⟨rfl, sep_below_of HS.out⟩
end Go.Proofs.Ythpmlnnjfmcglaa.VW
/- The reference's view, walked: Events. Conditions: those that each theorem names. -/
namespace Go.Proofs.Ythpmlnnjfmcglaa.VW
set_option linter.unusedVariables false
set_option linter.unusedSimpArgs false
open Go Go.RowKit Go.Proofs.YthpmlnnjfmcglaaS Go.Proofs.YthpmlnnjfmcglaaS.Asn Go.Proofs.Ythpmlnnjfmcglaa.PA Go.Proofs.YthpmlnnjfmcglaaW.PrintWords Go.Proofs.YthpmlnnjfmcglaaW.PrintLast Go.Proofs.YthpmlnnjfmcglaaW.PrintMore
theorem evC_drop {w : World} {A : Option Addr} {E : List Ev} (h : evK.C w A E.length E) (k : Nat) (hk : k ≤ E.length) : evK.C w (A.map (fun x => x.add (k * 4))) (E.drop k).length (E.drop k) := by
  obtain ⟨h0, h1, h2⟩ := h
  refine ⟨rfl, by rw [List.length_drop]; omega, fun hn => ?_⟩
  rw [List.length_drop] at hn
  obtain ⟨ad, rfl, hc⟩ := h2 (by omega)
  refine ⟨_, rfl, fun j p hjp => ?_⟩
  rw [List.getElem?_drop] at hjp
  obtain ⟨cs, hl, hkk, hcell⟩ := hc (k + j) p hjp
  refine ⟨cs, hl, hkk, fun q u hu => ?_⟩
  have := hcell q u hu
  rw [Go.Proofs.YthpmlnnjfmcglaaW.PrintWords.add_add, show k * 4 + (j * evK.sz + q) = (k + j) * evK.sz + q by rw [show evK.sz = 4 from rfl]; omega]
  exact this
set_option maxHeartbeats 2000000 in
set_option maxRecDepth 100000 in
theorem revents_walk (p : Nat) (A : Option Addr) (c : Nat) (E : List Ev) (w : World) (hp : w.cell? ⟨p, 1, none⟩ = some (.slice A E.length c)) (hC : evK.C w A E.length E) (hl : E.length ≤ 1000) (hc : E.length ≤ c) :
    Calls Try.prog 28 #[.pointer (some ⟨p, 0, none⟩)] w fun e w' => (∃ A' c', e = .returned (.slice A' (E.drop (E.length - 128)).length c') ∧ evK.C w A' (E.drop (E.length - 128)).length (E.drop (E.length - 128))) ∧ Below w.heap.size w w' := by
  have HS := Aside0.mk (sep_start w)
  have HP := Aside0.mk hp
  have HC := Aside0.mk hC
  have HCC := Aside0.mk hc
  have HL := Aside0.mk hl
  clear hC hl hp
  have w1_ : wrap64 ((E.length : Int) - 128) = (E.length : Int) - 128 := by have := HL.out; unfold wrap64; omega
  have w2_ : IntKind.i64.wrap ((E.length : Int) - 128) = (E.length : Int) - 128 := by have := HL.out; rw [IntKind.wrap_i64]; omega
  rcases Nat.lt_or_ge E.length 128 with h | h
  · rw [show E.drop (E.length - 128) = E by rw [show E.length - 128 = 0 by omega]; rfl]
    have x1 : ((E.length : Int) - 128 < 0) = True := eq_true (by omega)
    have x2 : decide ((E.length : Int) - 128 < 0) = true := decide_eq_true (by omega)
    clear h
    by_cases h0 : c = 0
    · subst h0
      obtain rfl : E = [] := List.eq_nil_of_length_eq_zero (by have := HCC.out; omega)
      go_enter Try.func28, Try.ntmps28
      go_upto_region 1 with (fail)
      have n_ := sep_drew HS.out
      have n0_ := Aside0.mk n_; clear HS n_; have HS := n0_; clear n0_
      have kp := cell_now HP.out (sep_below_of HS.out)
      go_region
      all_goals
        go_wp2
        go_ret
        exact ⟨⟨A, _, rfl, HC.out⟩, sep_below_of HS.out⟩
    · have x3 := eq_false h0
      clear h0
      go_enter Try.func28, Try.ntmps28
      go_upto_region 1 with (fail)
      have n_ := sep_drew HS.out
      have n0_ := Aside0.mk n_; clear HS n_; have HS := n0_; clear n0_
      have kp := cell_now HP.out (sep_below_of HS.out)
      go_region
      all_goals
        go_wp2
        go_ret
        exact ⟨⟨A, _, rfl, HC.out⟩, sep_below_of HS.out⟩
  · have x1 : ((E.length : Int) - 128 < 0) = False := eq_false (by omega)
    have x2 : decide ((E.length : Int) - 128 < 0) = false := decide_eq_false (by omega)
    have x4 : ((E.length : Int) - 128).toNat = E.length - 128 := by omega
    have x3 := eq_false (show ¬ c = E.length - 128 by omega)
    have x5 : (0 ≤ (E.length : Int) - 128) = True := eq_true (by omega)
    have x6 : ((E.length : Int) - 128 ≤ (E.length : Int)) = True := eq_true (by omega)
    have x7 : (128 ≤ (E.length : Int)) = True := eq_true (by omega)
    have H8 := Aside0.mk h
    clear h
    go_enter Try.func28, Try.ntmps28
    go_upto_region 1 with (fail)
    have n_ := sep_drew HS.out
    have n0_ := Aside0.mk n_; clear HS n_; have HS := n0_; clear n0_
    have kp := cell_now HP.out (sep_below_of HS.out)
    go_region
    all_goals
      go_wp2
      go_ret
      refine ⟨⟨_, c - (E.length - 128), ?_, evC_drop HC.out (E.length - 128) (Nat.sub_le _ _)⟩, sep_below_of HS.out⟩
      rw [List.length_drop]
      rfl
end Go.Proofs.Ythpmlnnjfmcglaa.VW
/- The reference's view: a record of a row set; the view opened. Conditions: those that each theorem names. -/
namespace Go.Proofs.Ythpmlnnjfmcglaa.VW
set_option linter.unusedVariables false
set_option linter.unusedSimpArgs false
open Go Go.RowKit Go.Proofs.YthpmlnnjfmcglaaS Go.Proofs.YthpmlnnjfmcglaaS.Asn Go.Proofs.Ythpmlnnjfmcglaa.PA Go.Proofs.YthpmlnnjfmcglaaW.PrintWords Go.Proofs.YthpmlnnjfmcglaaW.PrintLast Go.Proofs.YthpmlnnjfmcglaaW.PrintMore
theorem recK_Mopen {w : World} {base : Nat} {ok : Nat → Prop} {x : Rec} {cs : List Value} (h : recK.M w base ok x cs) : cs = x.cells := by
  obtain ⟨_, _, rfl, rfl, ⟨_, _, rfl, rfl, ⟨_, _, rfl, rfl, ⟨_, _, rfl, rfl, rfl⟩⟩⟩⟩ := h
  rfl
section
variable {e : Nat} {w : World} {ok : Nat → Prop} {g n c : Nat} {xs : List Rec} {cur : Array Value}
theorem recs_pt (h : (row recK e (.slice (some ⟨g, 0, none⟩) n c) xs).H w ok) :
    ∃ cur : Array Value, (pt g cur e).H w ok ∧ n = xs.length ∧ n ≤ c ∧ c ≤ maxLen ∧ cur.size = c * 5 ∧ ∀ (j : Nat) (p : Rec), xs[j]? = some p → (cur.toList.drop (j * 5)).take 5 = p.cells := by
  obtain ⟨hok, inner, ⟨hlen, hform⟩, hr1, hr2⟩ := h
  rcases hform with ⟨he, _⟩ | ⟨g', cap, cur, he, hb, hg, hnc, hcm, hcs, htk⟩
  · cases he
  · cases he
    refine ⟨cur, ⟨hok g rfl, hg⟩, rfl, hnc, hcm, hcs, fun j p hp => ?_⟩
    have hj : j < xs.length := (List.getElem?_eq_some_iff.1 hp).1
    have h1 := recK_Mopen (hr2 j p hp)
    rw [← h1, ← htk, show recK.sz = 5 from rfl, List.drop_take, List.take_take, show min 5 (xs.length * 5 - j * 5) = 5 by omega]
theorem pt_recs (h : (pt g cur e).H w ok) (hc : cur.size = c * 5) (hcm : c ≤ maxLen) (hn : xs.length ≤ c) (hx : ∀ (j : Nat) (p : Rec), xs[j]? = some p → (cur.toList.drop (j * 5)).take 5 = p.cells) :
    (row recK e (.slice (some ⟨g, 0, none⟩) xs.length c) xs).H w ok := by
  refine ⟨fun k hk => ?_, cur.toList.take (xs.length * 5), ⟨?_, .inr ⟨g, c, cur, rfl, Nat.zero_le _, h.2, hn, hcm, hc, rfl⟩⟩, ?_, fun j p hp => ?_⟩
  · have : g = k := by simpa [Value.ownBlock] using hk
    rw [← this]; exact h.1
  · rw [List.length_take, show cur.toList.length = c * 5 from hc, show recK.sz = 5 from rfl]; omega
  · rw [List.length_take, show cur.toList.length = c * 5 from hc, show recK.sz = 5 from rfl]; omega
  · have hj : j < xs.length := (List.getElem?_eq_some_iff.1 hp).1
    show recK.M _ _ _ _ ((List.drop (j * 5) _).take 5)
    rw [List.drop_take, List.take_take, show min 5 (xs.length * 5 - j * 5) = 5 by omega, hx j p hp]
    exact recK_M _ _ _ _
end
section
variable {e : Nat} {w0 w : World} {ok0 : Nat → Prop} {F : Asn} {g n c : Nat} {xs : List Rec}
theorem sep_recs_pt (h : Sep w0 ok0 (row recK e (.slice (some ⟨g, 0, none⟩) n c) xs ⋆ F) w) :
    ∃ cur : Array Value, Sep w0 ok0 (pt g cur e ⋆ F) w ∧ n = xs.length ∧ n ≤ c ∧ c ≤ maxLen ∧ cur.size = c * 5 ∧ ∀ (j : Nat) (p : Rec), xs[j]? = some p → (cur.toList.drop (j * 5)).take 5 = p.cells := by
  obtain ⟨o_, ok1, ⟨p1, p2, hr, hF, r⟩, hk⟩ := h
  obtain ⟨cur, hpt, q⟩ := recs_pt hr
  exact ⟨cur, ⟨o_, ok1, ⟨p1, p2, hpt, hF, r⟩, hk⟩, q⟩
theorem five_of (l : List Value) (a0 a1 a2 a3 a4 : Value) (k : Nat) (hk : (k + 1) * 5 ≤ l.length) :
    ((((((l.set (k * 5) a0).set (k * 5 + 1) a1).set (k * 5 + 2) a2).set (k * 5 + 3) a3).set (k * 5 + 4) a4).drop (k * 5)).take 5 = [a0, a1, a2, a3, a4] := by
  apply List.ext_getElem?
  intro j
  rw [List.getElem?_take, List.getElem?_drop]
  by_cases hj : j < 5
  · rw [if_pos hj]
    have h5 : j = 0 ∨ j = 1 ∨ j = 2 ∨ j = 3 ∨ j = 4 := by omega
    simp only [List.getElem?_set, List.length_set]
    rcases h5 with rfl | rfl | rfl | rfl | rfl
    · rw [if_neg (by omega), if_neg (by omega), if_neg (by omega), if_neg (by omega), if_pos (by omega), if_pos (by omega)]; rfl
    · rw [if_neg (by omega), if_neg (by omega), if_neg (by omega), if_pos (by omega), if_pos (by omega)]; rfl
    · rw [if_neg (by omega), if_neg (by omega), if_pos (by omega), if_pos (by omega)]; rfl
    · rw [if_neg (by omega), if_pos (by omega), if_pos (by omega)]; rfl
    · rw [if_pos (by omega), if_pos (by omega)]; rfl
  · rw [if_neg hj]
    rw [List.getElem?_eq_none (by show 5 ≤ j; omega)]
theorem five_ne (l : List Value) (a0 a1 a2 a3 a4 : Value) (k i : Nat) (hik : i ≠ k) :
    ((((((l.set (k * 5) a0).set (k * 5 + 1) a1).set (k * 5 + 2) a2).set (k * 5 + 3) a3).set (k * 5 + 4) a4).drop (i * 5)).take 5 = (l.drop (i * 5)).take 5 := by
  apply List.ext_getElem?
  intro j
  rw [List.getElem?_take, List.getElem?_take, List.getElem?_drop, List.getElem?_drop]
  by_cases hj : j < 5
  · rw [if_pos hj, if_pos hj]
    simp only [List.getElem?_set, List.length_set]
    rw [if_neg (by omega), if_neg (by omega), if_neg (by omega), if_neg (by omega), if_neg (by omega)]
  · rw [if_neg hj, if_neg hj]
/-- A record of a row set. -/
theorem sep_rec_put (h : Sep w0 ok0 (row recK e (.slice (some ⟨g, 0, none⟩) n c) xs ⋆ F) w) (k : Nat) (r : Rec) (hk : k < xs.length) :
    Sep w0 ok0 (row recK e (.slice (some ⟨g, 0, none⟩) n c) (xs.set k r) ⋆ F) (((((w.setCell ⟨g, k * 5, none⟩ (.int .i64 r.id)).setCell ⟨g, k * 5 + 1, none⟩ (.int .i64 r.st)).setCell ⟨g, k * 5 + 2, none⟩ (.int .u32 r.inc)).setCell ⟨g, k * 5 + 3, none⟩ (.int .u32 r.ip)).setCell ⟨g, k * 5 + 4, none⟩ (.int .u16 r.po)) := by
  obtain ⟨cur, hp, rfl, hnc, hcm, hsz, hcells⟩ := sep_recs_pt h
  have hs := sep_set (sep_set (sep_set (sep_set (sep_set hp (k * 5) (.int .i64 r.id)) (k * 5 + 1) (.int .i64 r.st)) (k * 5 + 2) (.int .u32 r.inc)) (k * 5 + 3) (.int .u32 r.ip)) (k * 5 + 4) (.int .u16 r.po)
  refine sep_head hs (fun ok hpt => ?_)
  have hl : (xs.set k r).length = xs.length := List.length_set
  rw [← hl]
  refine pt_recs hpt (by simp only [Array.size_setIfInBounds]; exact hsz) hcm (by rw [hl]; exact hnc) (fun i p hip => ?_)
  simp only [Array.toList_setIfInBounds]
  have hlen : cur.toList.length = c * 5 := hsz
  by_cases hik : i = k
  · subst hik
    rw [List.getElem?_set_self hk] at hip
    obtain rfl : r = p := by simpa using hip
    exact five_of _ _ _ _ _ _ i (by rw [hlen]; omega)
  · rw [List.getElem?_set_ne (Ne.symm hik)] at hip
    rw [five_ne _ _ _ _ _ _ k i hik]
    exact hcells i p hip
theorem rec_frozen {A : Option Addr} (h : Sep w0 ok0 (row recK e (.slice A n c) xs ⋆ F) w) (k : Nat) (hx : k < xs.length) :
    ∃ g, A = some ⟨g, 0, none⟩ ∧ ∀ j, w.frozen? ⟨g, j, none⟩ = false := by
  obtain ⟨g, rfl⟩ := row_addr h (by omega)
  obtain ⟨cur, hp, -⟩ := sep_recs_pt h
  exact ⟨g, rfl, fun j => sep_frozen hp j⟩
theorem rec_frozen' {ad : Addr} (h : Sep w0 ok0 (row recK e (.slice (some ad) n c) xs ⋆ F) w) (k : Nat) (hk : k < xs.length) :
    w.frozen? (ad.add (k * 5)) = false ∧ w.frozen? ⟨(ad.add (k * 5)).block, (ad.add (k * 5)).off + 1, none⟩ = false ∧ w.frozen? ⟨(ad.add (k * 5)).block, (ad.add (k * 5)).off + 2, none⟩ = false ∧ w.frozen? ⟨(ad.add (k * 5)).block, (ad.add (k * 5)).off + 3, none⟩ = false ∧ w.frozen? ⟨(ad.add (k * 5)).block, (ad.add (k * 5)).off + 4, none⟩ = false := by
  obtain ⟨g, he, hf⟩ := rec_frozen h k hk
  cases he
  rw [add_at]
  exact ⟨hf _, hf _, hf _, hf _, hf _⟩
theorem sep_rec_put' {ad : Addr} (h : Sep w0 ok0 (row recK e (.slice (some ad) n c) xs ⋆ F) w) (k : Nat) (r : Rec) (hk : k < xs.length) :
    Sep w0 ok0 (row recK e (.slice (some ad) n c) (xs.set k r) ⋆ F) (((((w.setCell (ad.add (k * 5)) (.int .i64 r.id)).setCell ⟨(ad.add (k * 5)).block, (ad.add (k * 5)).off + 1, none⟩ (.int .i64 r.st)).setCell ⟨(ad.add (k * 5)).block, (ad.add (k * 5)).off + 2, none⟩ (.int .u32 r.inc)).setCell ⟨(ad.add (k * 5)).block, (ad.add (k * 5)).off + 3, none⟩ (.int .u32 r.ip)).setCell ⟨(ad.add (k * 5)).block, (ad.add (k * 5)).off + 4, none⟩ (.int .u16 r.po)) := by
  obtain ⟨g, he⟩ := row_addr h (by omega)
  cases he
  rw [add_at]
  exact sep_rec_put h k r hk
theorem rec_now (h : Sep w0 ok0 (row recK e (.slice (some ⟨g, 0, none⟩) n c) xs ⋆ F) w) (k : Nat) (y : Rec) (hy : xs[k]? = some y) :
    (w.cell? ⟨g, k * 5, none⟩ = some (.int .i64 y.id) ∧ w.cell? ⟨g, k * 5 + 1, none⟩ = some (.int .i64 y.st) ∧ w.cell? ⟨g, k * 5 + 2, none⟩ = some (.int .u32 y.inc) ∧ w.cell? ⟨g, k * 5 + 3, none⟩ = some (.int .u32 y.ip) ∧ w.cell? ⟨g, k * 5 + 4, none⟩ = some (.int .u16 y.po)) ∧
    w.frozen? ⟨g, k * 5, none⟩ = false ∧ w.frozen? ⟨g, k * 5 + 1, none⟩ = false ∧ w.frozen? ⟨g, k * 5 + 2, none⟩ = false ∧ w.frozen? ⟨g, k * 5 + 3, none⟩ = false ∧ w.frozen? ⟨g, k * 5 + 4, none⟩ = false := by
  obtain ⟨ad, hA, k0, k1, k2, k3, k4⟩ := recs_at (sep_row' h).2.2 k y hy
  cases hA
  rw [add_at] at k0 k1 k2 k3 k4
  obtain ⟨g', he, hf⟩ := rec_frozen h k (List.getElem?_eq_some_iff.1 hy).1
  cases he
  exact ⟨⟨k0, k1, k2, k3, k4⟩, hf _, hf _, hf _, hf _, hf _⟩
theorem rview_open {p : Nat} {x : RV} (h : Sep w0 ok0 (viewR p x ⋆ F) w) : ∃ A c A2 c2, x.L.length ≤ c ∧ x.E.length ≤ c2 ∧ Sep w0 ok0 (pt p #[.slice A x.L.length c, .slice A2 x.E.length c2] 61 ⋆ row recK 66 (.slice A x.L.length c) x.L ⋆ row evK 94 (.slice A2 x.E.length c2) x.E ⋆ F) w := by
  obtain ⟨vL, h⟩ := sep_ex_star h
  obtain ⟨vE, h⟩ := sep_ex_star h
  have h1 := sep_l2 (sep_flat (sep_l1 (sep_flat h)))
  obtain ⟨A, c, rfl, hc, -⟩ := sep_row (sep_l1 h1)
  obtain ⟨A2, c2, rfl, hc2, -⟩ := sep_row (sep_l2 h1)
  exact ⟨A, c, A2, c2, hc, hc2, h1⟩
theorem rview_mk {p : Nat} {x : RV} {vL vE : Value} (h : Sep w0 ok0 (pt p #[vL, vE] 61 ⋆ row recK 66 vL x.L ⋆ row evK 94 vE x.E ⋆ F) w) : Sep w0 ok0 (viewR p x ⋆ F) w := by
  exact sep_head (sep_fold (sep_l1 (sep_fold (sep_l2 (sep_l2 h))))) (fun ok hh => ⟨vL, vE, hh⟩)
end
theorem rv_facts {w0 w : World} {ok0 : Nat → Prop} {F : Asn} {p : Nat} {t : TypeId} {a b : Value} (h : Sep w0 ok0 (pt p #[a, b] t ⋆ F) w) :
    w.cell? ⟨p, 0, none⟩ = some a ∧ w.cell? ⟨p, 1, none⟩ = some b ∧ w.frozen? ⟨p, 0, none⟩ = false ∧ w.frozen? ⟨p, 1, none⟩ = false := ⟨sep_cell h 0, sep_cell h 1, sep_frozen h 0, sep_frozen h 1⟩
theorem seqc (A : Option Addr) (l : List Rec) {w : World} (h : recK.C w A l.length l) (k : Nat) (hk : k ≤ l.length) : recK.C w A k (l.take k) := by
  have := Kd.C_take h hk
  rw [List.length_take, Nat.min_eq_left hk] at this
  exact this
theorem info66 : (Try.prog.info? 66).map (fun i => (i.zero, i.size, i.bytes)) = some (some z31, 5, 32) := by kernel_rfl
theorem info94 : (Try.prog.info? 94).map (fun i => (i.zero, i.size, i.bytes)) = some (some z46, 4, 32) := by kernel_rfl
theorem h_take {P : Program} {md : Region.Mode} {l : List Oper} {Q : Exit → Act → World → Prop} {S : World → Prop} (i : Nat) {oi : Oper} {v : Value} {fuel : Nat} {listed : Array Bool} {a : Act} {w : World} (hS : S w) (hi : l[i]? = some oi)
    (hs : Region.noSelect l.toArray = true) (hf : Region.free md l.toArray listed i = true) (hr : (Region.ready md l.toArray listed).contains i = true) (hQ : ∀ c a w, Q (.panic c) (a.put oi.dst v) w → Q (.panic c) a w)
    (hw : Region.wanted oi (yielded l.toArray a.tmps) = true) (hy : ∀ w, S w → (execOp a.eval oi).run P w = .ok (.value v) w)
    (h : wpAnyH P md l.toArray Q S fuel (listed.setIfInBounds i true) (a.put oi.dst v) w) : wpAnyH P md l.toArray Q S (fuel + 1) listed a w :=
  wpAnyH_take (by rw [List.getElem?_toArray]; exact hi) hs hf hr hQ (Or.inl ⟨hw, hy⟩) hS h
theorem h_one {P : Program} {md : Region.Mode} {l : List Oper} {Q : Exit → Act → World → Prop} {S : World → Prop} (i : Nat) {oi : Oper} {fuel : Nat} {listed : Array Bool} {a : Act} {w : World}
    (hr : Region.ready md l.toArray listed = [i]) (hi : l[i]? = some oi) (hw : Region.wanted oi (yielded l.toArray a.tmps) = true)
    (h : ∀ K : Act → World → Prop, Shut (∀ a w, S w → (S w → wpAnyH P md l.toArray Q S fuel (listed.setIfInBounds i true) a w) → K a w) → Oper.wp P oi a w K Q) : wpAnyH P md l.toArray Q S (fuel + 1) listed a w :=
  wpAnyH_ready hr (by simp) (AllReadyH.cons (by rw [List.getElem?_toArray]; exact hi) (fun K hK => by rw [if_pos hw]; exact h K hK) AllReadyH.nil)
theorem h_two {P : Program} {md : Region.Mode} {l : List Oper} {Q : Exit → Act → World → Prop} {S : World → Prop} (i j : Nat) {oi oj : Oper} {fuel : Nat} {listed : Array Bool} {a : Act} {w : World}
    (hr : Region.ready md l.toArray listed = [i, j]) (hi : l[i]? = some oi) (hj : l[j]? = some oj) (hw : Region.wanted oi (yielded l.toArray a.tmps) = true) (hw2 : Region.wanted oj (yielded l.toArray a.tmps) = true)
    (h : ∀ K : Act → World → Prop, Shut (∀ a w, S w → (S w → wpAnyH P md l.toArray Q S fuel (listed.setIfInBounds i true) a w) → K a w) → Oper.wp P oi a w K Q)
    (h2 : ∀ K : Act → World → Prop, Shut (∀ a w, S w → (S w → wpAnyH P md l.toArray Q S fuel (listed.setIfInBounds j true) a w) → K a w) → Oper.wp P oj a w K Q) : wpAnyH P md l.toArray Q S (fuel + 1) listed a w :=
  wpAnyH_ready hr (by simp) (AllReadyH.cons (by rw [List.getElem?_toArray]; exact hi) (fun K hK => by rw [if_pos hw]; exact h K hK) (AllReadyH.cons (by rw [List.getElem?_toArray]; exact hj) (fun K hK => by rw [if_pos hw2]; exact h2 K hK) AllReadyH.nil))
theorem h_raw {P : Program} {md : Region.Mode} {l : List Oper} {Q : Exit → Act → World → Prop} {S : World → Prop} (i : Nat) {oi : Oper} {fuel : Nat} {listed : Array Bool} {a : Act} {w : World}
    (hr : Region.ready md l.toArray listed = [i]) (hi : l[i]? = some oi)
    (h : ∀ K : Act → World → Prop, Shut (∀ a w, S w → (S w → wpAnyH P md l.toArray Q S fuel (listed.setIfInBounds i true) a w) → K a w) → if Region.wanted oi (yielded l.toArray a.tmps) = true then Oper.wp P oi a w K Q else K (a.put oi.dst undef) w) : wpAnyH P md l.toArray Q S (fuel + 1) listed a w :=
  wpAnyH_ready hr (by simp) (AllReadyH.cons (by rw [List.getElem?_toArray]; exact hi) (fun K hK => h K hK) AllReadyH.nil)
end Go.Proofs.Ythpmlnnjfmcglaa.VW
/- The reference's view, walked: Take. Conditions: those that each theorem names. -/
namespace Go.Proofs.Ythpmlnnjfmcglaa.VW
set_option linter.unusedVariables false
set_option linter.unusedSimpArgs false
open Go Go.RowKit Go.Proofs.YthpmlnnjfmcglaaS Go.Proofs.YthpmlnnjfmcglaaS.Asn Go.Proofs.Ythpmlnnjfmcglaa.PA Go.Proofs.YthpmlnnjfmcglaaW.PrintWords Go.Proofs.YthpmlnnjfmcglaaW.PrintLast Go.Proofs.YthpmlnnjfmcglaaW.PrintMore

theorem keepS {w0 w' : World} {ok0 : Nat → Prop} {A C F : Asn} {g3 p : Nat} {r : Rec} {u v : Value} (h : Sep w0 ok0 (A ⋆ pt p #[u, v] 61 ⋆ C ⋆ pt g3 #[.int .i64 r.id, .int .i64 r.st, .int .u32 r.inc, .int .u32 r.ip, .int .u16 r.po] 66 ⋆ F) w') : w'.cell? ⟨g3, 0, none⟩ = some (.int .i64 r.id) ∧ w'.cell? ⟨g3, 1, none⟩ = some (.int .i64 r.st) ∧ w'.cell? ⟨g3, 2, none⟩ = some (.int .u32 r.inc) ∧ w'.frozen? ⟨p, 1, none⟩ = false := by
  obtain ⟨k1, k2, k3, -, -⟩ := facts5 (sep_l3 h)
  exact ⟨k1, k2, k3, sep_frozen (sep_l1 h) 1⟩
theorem keepV {w0 w' : World} {ok0 : Nat → Prop} {A C F : Asn} {g3 p : Nat} {r : Rec} {u v : Value} (h : Sep w0 ok0 (pt p #[u, v] 61 ⋆ A ⋆ C ⋆ pt g3 #[.int .i64 r.id, .int .i64 r.st, .int .u32 r.inc, .int .u32 r.ip, .int .u16 r.po] 66 ⋆ F) w') : w'.cell? ⟨g3, 0, none⟩ = some (.int .i64 r.id) ∧ w'.cell? ⟨g3, 1, none⟩ = some (.int .i64 r.st) ∧ w'.cell? ⟨g3, 2, none⟩ = some (.int .u32 r.inc) ∧ w'.frozen? ⟨p, 1, none⟩ = false := by
  obtain ⟨k1, k2, k3, -, -⟩ := facts5 (sep_l3 h)
  exact ⟨k1, k2, k3, sep_frozen h 1⟩
theorem keepZ {w0 w' : World} {ok0 : Nat → Prop} {A C F : Asn} {g3 gy p : Nat} {r y : Rec} {u v : Value} (h : Sep w0 ok0 (A ⋆ pt p #[u, v] 61 ⋆ C ⋆ pt g3 #[.int .i64 r.id, .int .i64 r.st, .int .u32 r.inc, .int .u32 r.ip, .int .u16 r.po] 66 ⋆ pt gy #[.int .i64 y.id, .int .i64 y.st, .int .u32 y.inc, .int .u32 y.ip, .int .u16 y.po] 66 ⋆ F) w') : w'.cell? ⟨g3, 0, none⟩ = some (.int .i64 r.id) ∧ w'.cell? ⟨g3, 1, none⟩ = some (.int .i64 r.st) ∧ w'.cell? ⟨g3, 2, none⟩ = some (.int .u32 r.inc) ∧ w'.cell? ⟨gy, 1, none⟩ = some (.int .i64 y.st) ∧ w'.frozen? ⟨p, 1, none⟩ = false := by
  obtain ⟨k1, k2, k3, -, -⟩ := facts5 (sep_l3 h)
  obtain ⟨-, q2, -, -, -⟩ := facts5 (sep_l4 h)
  exact ⟨k1, k2, k3, q2, sep_frozen (sep_l1 h) 1⟩
theorem keepY {w0 w' : World} {ok0 : Nat → Prop} {A C F : Asn} {g3 gy p : Nat} {r y : Rec} {u v : Value} (h : Sep w0 ok0 (pt p #[u, v] 61 ⋆ A ⋆ C ⋆ pt g3 #[.int .i64 r.id, .int .i64 r.st, .int .u32 r.inc, .int .u32 r.ip, .int .u16 r.po] 66 ⋆ pt gy #[.int .i64 y.id, .int .i64 y.st, .int .u32 y.inc, .int .u32 y.ip, .int .u16 y.po] 66 ⋆ F) w') : w'.cell? ⟨g3, 0, none⟩ = some (.int .i64 r.id) ∧ w'.cell? ⟨g3, 1, none⟩ = some (.int .i64 r.st) ∧ w'.cell? ⟨g3, 2, none⟩ = some (.int .u32 r.inc) ∧ w'.cell? ⟨gy, 1, none⟩ = some (.int .i64 y.st) ∧ w'.frozen? ⟨p, 1, none⟩ = false := by
  obtain ⟨k1, k2, k3, -, -⟩ := facts5 (sep_l3 h)
  obtain ⟨-, q2, -, -, -⟩ := facts5 (sep_l4 h)
  exact ⟨k1, k2, k3, q2, sep_frozen h 1⟩
theorem find_le (L : List Rec) (id : Int) : rfind L id ≤ L.length := List.findIdx_le_length
set_option maxHeartbeats 4000000 in
set_option maxRecDepth 100000 in
theorem rtake_walk (p : Nat) (x : RV) (r : Rec) (w : World) (ok : Nat → Prop) (hl : x.L.length ≤ 900) (he : x.E.length ≤ 1000000) (h : (viewR p x ⋆ emp).H w ok) :
    Calls Try.prog 20 #[.pointer (some ⟨p, 0, none⟩), .agg #[.int .i64 r.id, .int .i64 r.st, .int .u32 r.inc, .int .u32 r.ip, .int .u16 r.po]] w fun e w' => e = .returned (.tuple #[.bool (rtake x r).1, .int .i64 (rtake x r).2.1]) ∧ Sep w ok (viewR p (rtake x r).2.2 ⋆ emp) w' := by
  obtain ⟨A, c, A2, c2, hc, hc2, hs⟩ := rview_open (sep_begin h)
  have HS := Aside0.mk hs
  have HL := Aside0.mk (And.intro hl he)
  have HC := Aside0.mk (And.intro hc hc2)
  clear h hs hl he hc hc2
  obtain ⟨g, hg⟩ : ∃ g, right r = g := ⟨_, rfl⟩
  have HG : Aside0 (scuttlebuttref04_Right.f r.id r.st r.inc r.ip r.po = some g) := ⟨by rw [rright_f, hg]⟩
  have HGG := Aside0.mk hg
  clear hg
  go_enter Try.func20, Try.ntmps20
  go_upto_region 1 with (fail)
  have n_ := sep_l3 (sep_l3 (sep_l3 (sep_alloc HS.out #[.int .i64 r.id, .int .i64 r.st, .int .u32 r.inc, .int .u32 r.ip, .int .u16 r.po] 66)))
  have n0_ := Aside0.mk n_; clear HS n_; have HS := n0_; clear n0_
  generalize w.alloc (.cells #[.int .i64 r.id, .int .i64 r.st, .int .u32 r.inc, .int .u32 r.ip, .int .u16 r.po] 66) = wa at HS ⊢
  generalize w.heap.size = g3 at HS ⊢
  obtain ⟨m1, m2, m3, m4, m5⟩ := facts5 (sep_l3 HS.out)
  cases g with
  | false =>
    go_wp2_with (first | (go_at_call 38; (with_reducible refine Calls.mono (scuttlebuttref04_Right.calls r.id r.st r.inc r.ip r.po false _ HG.out) ?_); rintro e w1 ⟨rfl, hb_⟩; have n_ := sep_below HS.out hb_; clear hb_; have n0_ := Aside0.mk n_; clear HS n_; have HS := n0_; clear n0_; clear m1 m2 m3 m4 m5; obtain ⟨m1, m2, m3, m4, m5⟩ := facts5 (sep_l3 HS.out)))
    go_ret2
    have hr : rtake x r = (false, 1, x) := by unfold rtake; rw [if_pos HGG.out]
    rw [hr]
    exact ⟨rfl, rview_mk (sep_drop (sep_l3 HS.out))⟩
  | true =>
    obtain ⟨k, hk⟩ : ∃ k, rfind x.L r.id = k := ⟨_, rfl⟩
    have hkl := find_le x.L r.id
    rw [hk] at hkl
    have HK := Aside0.mk (And.intro hk hkl)
    clear hk hkl
    go_upto_region 4 with (first | (go_at_call 38; (with_reducible refine Calls.mono (scuttlebuttref04_Right.calls r.id r.st r.inc r.ip r.po true _ HG.out) ?_); rintro e w1 ⟨rfl, hb_⟩; have n_ := sep_below HS.out hb_; clear hb_; have n0_ := Aside0.mk n_; clear HS n_; have HS := n0_; clear n0_; clear m1 m2 m3 m4 m5; obtain ⟨m1, m2, m3, m4, m5⟩ := facts5 (sep_l3 HS.out)))
    cases ho : rold x.L r.id with
    | none =>
      have HO := Aside0.mk ho
      obtain ⟨L2, hl2⟩ : ∃ L2, x.L.take k ++ [r] ++ x.L.drop k = L2 := ⟨_, rfl⟩
      have hr := rtake_none HGG.out ho
      rw [HK.out.1, hl2] at hr
      have HR := Aside0.mk hr
      have HL2 := Aside0.mk hl2
      obtain ⟨i0, hi0, hz_⟩ := Option.map_eq_some_iff.1 info66
      have hsz0 : i0.size = 5 := by injection hz_ with _ h1; injection h1
      have hcutA : ∀ W : World, (Instr.slice 58 (.slice A x.L.length c) none (some (.int .i64 (k : Int))) none).run Try.prog W = .ok (.slice A k c) W := cut_to (P := Try.prog) 58 66 .i64 Try.underlying58 hi0 A x.L.length c (k : Int) (by omega) (by have := HK.out.2; omega) HC.out.1
      obtain ⟨A4, hA4⟩ : ∃ A4, (if c = k then A else A.map (·.add (k * 5))) = A4 := ⟨_, rfl⟩
      have hcutB : ∀ W : World, (Instr.slice 58 (.slice A x.L.length c) (some (.int .i64 (k : Int))) none none).run Try.prog W = .ok (.slice A4 (x.L.length - k) (c - k)) W := by
        have := cut_from (P := Try.prog) 58 66 .i64 Try.underlying58 hi0 5 hsz0 A x.L.length c (k : Int) (by omega) (by have := HK.out.2; omega)
        rw [Int.toNat_natCast, hA4] at this
        exact this
      have HA4 := Aside0.mk hA4
      clear hr ho hl2 hz_ hsz0 hi0 hA4
      go_upto_region 7 with (go_at_call 39; have hx_ := find_walk p A c x.L r.id _ (rv_facts HS.out).1 (sep_row' (sep_l1 HS.out)).2.2 (Nat.le_trans HL.out.1 (by decide)); rw [HO.out, HK.out.1] at hx_; dsimp only [Option.isSome] at hx_; (with_reducible refine Calls.mono hx_ ?_); rintro e w1 ⟨rfl, hb_⟩; have n_ := sep_below HS.out hb_; clear hb_ hx_; have n0_ := Aside0.mk n_; clear HS n_; have HS := n0_; clear n0_; clear m1 m2 m3 m4 m5; obtain ⟨m1, m2, m3, m4, m5⟩ := facts5 (sep_l3 HS.out))
      (try clear b1 b2 b3 b4); obtain ⟨b1, b2, b3, b4⟩ := rv_facts HS.out
      have n_ := sep_row_nil (d := recK) (e := 66) HS.out
      have n0_ := Aside0.mk n_; clear HS n_; have HS := n0_; clear n0_
      go_upto_region 8 with ((with_reducible refine gate_builtin (b := .append) (xs := #[.tmp 25, .tmp 31]) rfl ?_); at_builtin; refine wp_append_rows recK rfl (.tmp 25) (.tmp 31) 58 66 z31 32 rfl Try.underlying58 info66 rfl (by decide) (by decide) _ [] (x.L.take k) A k c (by rfl) (by rfl) HS.out (seqc _ x.L (sep_row' (sep_l2 HS.out)).2.2 k HK.out.2) (fun x cs hk => by rw [recK_open hk]; exact recK_M _ _ _ _) (by have := HK.out.2; have := HL.out.1; simp only [List.length_nil]; omega) ?_; intro v1 w2 n_; rw [List.nil_append] at n_; have n0_ := Aside0.mk n_; clear HS n_; have HS := n0_; clear n0_; clear m1 m2 m3 m4 m5; obtain ⟨m1, m2, m3, m4, m5⟩ := facts5 (sep_l4 HS.out); (try clear b1 b2 b3 b4); obtain ⟨b1, b2, b3, b4⟩ := rv_facts (sep_l1 HS.out))
      go_upto_region 9 with ((with_reducible refine gate_builtin (b := .append) (xs := #[.tmp 33, .tmp 35]) rfl ?_); at_builtin; refine wp_append recK rfl (.tmp 33) (.tmp 35) 58 66 z31 32 rfl Try.underlying58 info66 rfl (by decide) (by decide) _ (x.L.take k) r r.cells (by rfl) (by rfl) (recK_M _ _ _ _) HS.out (by have := HL.out.1; rw [List.length_take]; omega) ?_; intro v2 w3 n_; have n0_ := Aside0.mk n_; clear HS n_; have HS := n0_; clear n0_; clear m1 m2 m3 m4 m5; obtain ⟨m1, m2, m3, m4, m5⟩ := facts5 (sep_l4 HS.out); (try clear b1 b2 b3 b4); obtain ⟨b1, b2, b3, b4⟩ := rv_facts (sep_l1 HS.out))
      go_upto_region 10 with ((with_reducible refine gate_builtin (b := .append) (xs := #[.tmp 38, .tmp 44]) rfl ?_); at_builtin; refine wp_append_rows recK rfl (.tmp 38) (.tmp 44) 58 66 z31 32 rfl Try.underlying58 info66 rfl (by decide) (by decide) _ (x.L.take k ++ [r]) (x.L.drop k) A4 (x.L.length - k) (c - k) (by rfl) (by rfl) HS.out (by have h := Kd.C_drop (m := k) (sep_row' (sep_l2 HS.out)).2.2 HK.out.2 HC.out.1; rw [List.length_drop] at h; rw [← HA4.out]; exact h) (fun x cs hk => by rw [recK_open hk]; exact recK_M _ _ _ _) (by have := HK.out.2; have := HL.out.1; rw [List.length_append, List.length_take, List.length_singleton]; omega) ?_; intro v3 w4 n_; rw [HL2.out] at n_; obtain ⟨A3, c3, rfl, -, -⟩ := sep_row n_; have n0_ := Aside0.mk n_; clear HS n_; have HS := n0_; clear n0_; clear m1 m2 m3 m4 m5; obtain ⟨m1, m2, m3, m4, m5⟩ := facts5 (sep_l4 HS.out); (try clear b1 b2 b3 b4); obtain ⟨b1, b2, b3, b4⟩ := rv_facts (sep_l1 HS.out))
      have n_ := sep_l2 (sep_drop (sep_l2 (sep_set (sep_l1 HS.out) 0 (.slice A3 L2.length c3))))
      have n0_ := Aside0.mk n_; clear HS n_; have HS := n0_; clear n0_
      generalize (w4.setCell ⟨p, 0, none⟩ (.slice A3 L2.length c3)) = w6 at HS ⊢
      clear b1 b2 b3 b4 m1 m2 m3 m4 m5 hcutA hcutB
      have n_ := sep_drew HS.out
      have n0_ := Aside0.mk n_; clear HS n_; have HS := n0_; clear n0_
      obtain ⟨k1, k2, k3, k4⟩ := keepS HS.out
      have t1 := (rv_facts (sep_l1 HS.out)).2.1
      have t3 : ((w6.alloc (.cells #[.int .i64 r.id, .int .i64 (-1), .int .i64 r.st, .int .u32 r.inc] 94)).drew).cell? ⟨p, 1, none⟩ = some (.slice A2 x.E.length c2) := (rv_facts (sep_l1 (sep_skip HS.out (.cells #[.int .i64 r.id, .int .i64 (-1), .int .i64 r.st, .int .u32 r.inc] 94)))).2.1
      refine wp_region_held_drew (S := (fun w' => w'.cell? ⟨g3, 0, none⟩ = some (.int .i64 r.id) ∧ w'.cell? ⟨g3, 1, none⟩ = some (.int .i64 r.st) ∧ w'.cell? ⟨g3, 2, none⟩ = some (.int .u32 r.inc) ∧ w'.frozen? ⟨p, 1, none⟩ = false)) (by kernel_rfl) ⟨k1, k2, k3, k4⟩ (fun hHeld => ?_)
      (refine h_take 0 (by assumption) rfl (by decide +kernel) (by decide +kernel) (by decide +kernel) (fun _ _ _ h => h) (by rfl) (by intro w hSw; (try dsimp only at hSw); go_simp; all_goals (with_reducible rfl)) ?_; simp only [Act.put, List.setIfInBounds_toArray, List.set_cons_zero, List.set_cons_succ])
      (refine h_take 1 (by assumption) rfl (by decide +kernel) (by decide +kernel) (by decide +kernel) (fun _ _ _ h => h) (by rfl) (by intro w hSw; (try dsimp only at hSw); go_simp; all_goals (with_reducible rfl)) ?_; simp only [Act.put, List.setIfInBounds_toArray, List.set_cons_zero, List.set_cons_succ])
      (refine h_take 2 (by assumption) rfl (by decide +kernel) (by decide +kernel) (by decide +kernel) (fun _ _ _ h => h) (by rfl) (by intro w hSw; (try dsimp only at hSw); go_simp; all_goals (with_reducible rfl)) ?_; simp only [Act.put, List.setIfInBounds_toArray, List.set_cons_zero, List.set_cons_succ])
      (refine h_take 3 (by assumption) rfl (by decide +kernel) (by decide +kernel) (by decide +kernel) (fun _ _ _ h => h) (by rfl) (by intro w hSw; (try dsimp only at hSw); go_simp; all_goals (with_reducible rfl)) ?_; simp only [Act.put, List.setIfInBounds_toArray, List.set_cons_zero, List.set_cons_succ])
      (refine h_take 5 (by assumption) rfl (by decide +kernel) (by decide +kernel) (by decide +kernel) (fun _ _ _ h => h) (by rfl) (by intro w hSw; (try dsimp only at hSw); go_simp; all_goals (with_reducible rfl)) ?_; simp only [Act.put, List.setIfInBounds_toArray, List.set_cons_zero, List.set_cons_succ])
      (refine h_take 6 (by assumption) rfl (by decide +kernel) (by decide +kernel) (by decide +kernel) (fun _ _ _ h => h) (by rfl) (by intro w hSw; (try dsimp only at hSw); go_simp; all_goals (with_reducible rfl)) ?_; simp only [Act.put, List.setIfInBounds_toArray, List.set_cons_zero, List.set_cons_succ])
      (refine h_take 7 (by assumption) rfl (by decide +kernel) (by decide +kernel) (by decide +kernel) (fun _ _ _ h => h) (by rfl) (by intro w hSw; (try dsimp only at hSw); go_simp; all_goals (with_reducible rfl)) ?_; simp only [Act.put, List.setIfInBounds_toArray, List.set_cons_zero, List.set_cons_succ])
      (refine h_take 8 (by assumption) rfl (by decide +kernel) (by decide +kernel) (by decide +kernel) (fun _ _ _ h => h) (by rfl) (by intro w hSw; (try dsimp only at hSw); go_simp; all_goals (with_reducible rfl)) ?_; simp only [Act.put, List.setIfInBounds_toArray, List.set_cons_zero, List.set_cons_succ])
      (refine h_take 9 (by assumption) rfl (by decide +kernel) (by decide +kernel) (by decide +kernel) (fun _ _ _ h => h) (by rfl) (by intro w hSw; (try dsimp only at hSw); go_simp; all_goals (with_reducible rfl)) ?_; simp only [Act.put, List.setIfInBounds_toArray, List.set_cons_zero, List.set_cons_succ])
      (refine h_take 10 (by assumption) rfl (by decide +kernel) (by decide +kernel) (by decide +kernel) (fun _ _ _ h => h) (by rfl) (by intro w hSw; (try dsimp only at hSw); go_simp; all_goals (with_reducible rfl)) ?_; simp only [Act.put, List.setIfInBounds_toArray, List.set_cons_zero, List.set_cons_succ])
      (refine h_take 11 (by assumption) rfl (by decide +kernel) (by decide +kernel) (by decide +kernel) (fun _ _ _ h => h) (by rfl) (by intro w hSw; (try dsimp only at hSw); go_simp; all_goals (with_reducible rfl)) ?_; simp only [Act.put, List.setIfInBounds_toArray, List.set_cons_zero, List.set_cons_succ])
      refine h_two 4 12 (by kernel_rfl) rfl rfl (by rfl) (by rfl) (fun K hK => ?_) (fun K hK => ?_)
      · go_simp
        clear hHeld
        ((first | refine hK.out _ _ (⟨k1, k2, k3, k4⟩) (fun hHeld => ?_) | (go_wp2_with fail; refine hK.out _ _ (⟨k1, k2, k3, k4⟩) (fun hHeld => ?_))); clear hK K; (try simp only [Act.put, List.setIfInBounds_toArray, List.set_cons_zero, List.set_cons_succ]))
        (refine h_one 12 (by kernel_rfl) rfl (by rfl) (fun K hK => ?_); go_simp; skip; clear hHeld; ((first | refine hK.out _ _ (keepS (sep_skip HS.out _)) (fun hHeld => ?_) | (go_wp2_with fail; refine hK.out _ _ (keepS (sep_skip HS.out _)) (fun hHeld => ?_))); clear hK K; (try simp only [Act.put, List.setIfInBounds_toArray, List.set_cons_zero, List.set_cons_succ])))
        refine h_raw 13 (by kernel_rfl) rfl (fun K hK => ?_)
        (refine step_append (w0 := w) (ok0 := ok) evK (by rfl) (.tmp 52) (.tmp 60) 59 94 z46 32 rfl Try.underlying59 info94 rfl (by decide) (by decide) _ x.E ⟨r.id, (-1), r.st, r.inc⟩ (Ev.cells ⟨r.id, (-1), r.st, r.inc⟩) (by rfl) (by rfl) (evK_M _ _ _ _) HS.out (by have := HL.out.2; omega) (fun v1 w5 hs => ?_); clear HS k1 k2 k3 k4 t1 t3; obtain ⟨A5, c5, rfl, -, -⟩ := sep_row hs; have HS := Aside0.mk hs; clear hs)
        obtain ⟨k1, k2, k3, k4⟩ := keepS HS.out
        have t1 := (rv_facts (sep_l1 HS.out)).2.1
        clear hHeld
        ((first | refine hK.out _ _ (⟨k1, k2, k3, k4⟩) (fun hHeld => ?_) | (go_wp2_with fail; refine hK.out _ _ (⟨k1, k2, k3, k4⟩) (fun hHeld => ?_))); clear hK K; (try simp only [Act.put, List.setIfInBounds_toArray, List.set_cons_zero, List.set_cons_succ]))
        (refine h_take 14 (by assumption) rfl (by decide +kernel) (by decide +kernel) (by decide +kernel) (fun _ _ _ h => h) (by rfl) (by intro w hSw; (try dsimp only at hSw); go_simp; all_goals (with_reducible rfl)) ?_; simp only [Act.put, List.setIfInBounds_toArray, List.set_cons_zero, List.set_cons_succ])
        (refine h_take 15 (by assumption) rfl (by decide +kernel) (by decide +kernel) (by decide +kernel) (fun _ _ _ h => h) (by rfl) (by intro w hSw; (try dsimp only at hSw); go_simp; all_goals (with_reducible rfl)) ?_; simp only [Act.put, List.setIfInBounds_toArray, List.set_cons_zero, List.set_cons_succ])
        (refine h_one 16 (by kernel_rfl) rfl (by rfl) (fun K hK => ?_); go_simp; skip; clear hHeld; ((first | refine hK.out _ _ (keepV (sep_set (sep_l1 HS.out) 1 _)) (fun hHeld => ?_) | (go_wp2_with fail; refine hK.out _ _ (keepV (sep_set (sep_l1 HS.out) 1 _)) (fun hHeld => ?_))); clear hK K; (try simp only [Act.put, List.setIfInBounds_toArray, List.set_cons_zero, List.set_cons_succ])))
        refine wpAnyH_done (by kernel_rfl) ?_ _
        have n_ := rview_mk (x := ⟨L2, x.E ++ [⟨r.id, -1, r.st, r.inc⟩]⟩) (sep_l1 (sep_l2 (sep_set (sep_l1 HS.out) 1 (.slice A5 (x.E ++ [(⟨r.id, -1, r.st, r.inc⟩ : Ev)]).length c5))))
        rw [List.length_append, List.length_singleton] at n_
        clear hHeld
        have n0_ := Aside0.mk n_; clear HS n_; have HS := n0_; clear n0_
        generalize w5.setCell ⟨p, 1, none⟩ (.slice A5 (x.E.length + 1) c5) = w7 at HS ⊢
        go_wp2
        go_ret2
        rw [HR.out]
        exact ⟨rfl, sep_drop (sep_l1 HS.out)⟩
      · go_simp
        clear hHeld
        ((first | refine hK.out _ _ (keepS (sep_skip HS.out _)) (fun hHeld => ?_) | (go_wp2_with fail; refine hK.out _ _ (keepS (sep_skip HS.out _)) (fun hHeld => ?_))); clear hK K; (try simp only [Act.put, List.setIfInBounds_toArray, List.set_cons_zero, List.set_cons_succ]))
        (refine h_one 4 (by kernel_rfl) rfl (by rfl) (fun K hK => ?_); go_simp; skip; clear hHeld; ((first | refine hK.out _ _ (keepS (sep_skip HS.out _)) (fun hHeld => ?_) | (go_wp2_with fail; refine hK.out _ _ (keepS (sep_skip HS.out _)) (fun hHeld => ?_))); clear hK K; (try simp only [Act.put, List.setIfInBounds_toArray, List.set_cons_zero, List.set_cons_succ])))
        refine h_raw 13 (by kernel_rfl) rfl (fun K hK => ?_)
        (refine step_append (w0 := w) (ok0 := ok) evK (by rfl) (.tmp 52) (.tmp 60) 59 94 z46 32 rfl Try.underlying59 info94 rfl (by decide) (by decide) _ x.E ⟨r.id, (-1), r.st, r.inc⟩ (Ev.cells ⟨r.id, (-1), r.st, r.inc⟩) (by rfl) (by rfl) (evK_M _ _ _ _) HS.out (by have := HL.out.2; omega) (fun v1 w5 hs => ?_); clear HS k1 k2 k3 k4 t1 t3; obtain ⟨A5, c5, rfl, -, -⟩ := sep_row hs; have HS := Aside0.mk hs; clear hs)
        obtain ⟨k1, k2, k3, k4⟩ := keepS HS.out
        have t1 := (rv_facts (sep_l1 HS.out)).2.1
        clear hHeld
        ((first | refine hK.out _ _ (⟨k1, k2, k3, k4⟩) (fun hHeld => ?_) | (go_wp2_with fail; refine hK.out _ _ (⟨k1, k2, k3, k4⟩) (fun hHeld => ?_))); clear hK K; (try simp only [Act.put, List.setIfInBounds_toArray, List.set_cons_zero, List.set_cons_succ]))
        (refine h_take 14 (by assumption) rfl (by decide +kernel) (by decide +kernel) (by decide +kernel) (fun _ _ _ h => h) (by rfl) (by intro w hSw; (try dsimp only at hSw); go_simp; all_goals (with_reducible rfl)) ?_; simp only [Act.put, List.setIfInBounds_toArray, List.set_cons_zero, List.set_cons_succ])
        (refine h_take 15 (by assumption) rfl (by decide +kernel) (by decide +kernel) (by decide +kernel) (fun _ _ _ h => h) (by rfl) (by intro w hSw; (try dsimp only at hSw); go_simp; all_goals (with_reducible rfl)) ?_; simp only [Act.put, List.setIfInBounds_toArray, List.set_cons_zero, List.set_cons_succ])
        (refine h_one 16 (by kernel_rfl) rfl (by rfl) (fun K hK => ?_); go_simp; skip; clear hHeld; ((first | refine hK.out _ _ (keepV (sep_set (sep_l1 HS.out) 1 _)) (fun hHeld => ?_) | (go_wp2_with fail; refine hK.out _ _ (keepV (sep_set (sep_l1 HS.out) 1 _)) (fun hHeld => ?_))); clear hK K; (try simp only [Act.put, List.setIfInBounds_toArray, List.set_cons_zero, List.set_cons_succ])))
        refine wpAnyH_done (by kernel_rfl) ?_ _
        have n_ := rview_mk (x := ⟨L2, x.E ++ [⟨r.id, -1, r.st, r.inc⟩]⟩) (sep_l1 (sep_l2 (sep_set (sep_l1 HS.out) 1 (.slice A5 (x.E ++ [(⟨r.id, -1, r.st, r.inc⟩ : Ev)]).length c5))))
        rw [List.length_append, List.length_singleton] at n_
        clear hHeld
        have n0_ := Aside0.mk n_; clear HS n_; have HS := n0_; clear n0_
        generalize w5.setCell ⟨p, 1, none⟩ (.slice A5 (x.E.length + 1) c5) = w7 at HS ⊢
        go_wp2
        go_ret2
        rw [HR.out]
        exact ⟨rfl, sep_drop (sep_l1 HS.out)⟩
    | some y =>
      obtain ⟨hy, hid⟩ := rold_at ho
      rw [HK.out.1] at hy
      have hkl : k < x.L.length := (List.getElem?_eq_some_iff.1 hy).1
      have HO := Aside0.mk ho
      have HY := Aside0.mk (And.intro hy hkl)
      obtain ⟨ov, hov⟩ : ∃ b, over r y = b := ⟨_, rfl⟩
      have HV : Aside0 (scuttlebuttref04_Over.f 5 r.id r.st r.inc r.ip r.po y.id y.st y.inc y.ip y.po = some ov) := ⟨by rw [← hov]; exact rover_f r y⟩
      have hr := rtake_some HGG.out ho
      rw [HK.out.1, hov] at hr
      have HR := Aside0.mk hr
      have c1b : decide ((k : Int) < (x.L.length : Int)) = true := decide_eq_true (Int.ofNat_lt.2 hkl); have c1n : decide (k < x.L.length) = true := decide_eq_true hkl; have c1q : (k < x.L.length) = True := eq_true hkl; have p0_ := eq_true (Int.natCast_nonneg k)
      obtain ⟨ad, hA, -⟩ := rec_frozen (sep_l1 HS.out) k hkl
      subst hA
      clear hr ho hov hy hid hkl
      go_upto_region 12 with (go_at_call 39; have hx_ := find_walk p (some ⟨ad, 0, none⟩) c x.L r.id _ (rv_facts HS.out).1 (sep_row' (sep_l1 HS.out)).2.2 (Nat.le_trans HL.out.1 (by decide)); rw [HO.out, HK.out.1] at hx_; dsimp only [Option.isSome] at hx_; (with_reducible refine Calls.mono hx_ ?_); rintro e w1 ⟨rfl, hb_⟩; have n_ := sep_below HS.out hb_; clear hb_ hx_; have n0_ := Aside0.mk n_; clear HS n_; have HS := n0_; clear n0_; clear m1 m2 m3 m4 m5; obtain ⟨m1, m2, m3, m4, m5⟩ := facts5 (sep_l3 HS.out))
      (try clear b1 b2 b3 b4); obtain ⟨b1, b2, b3, b4⟩ := rv_facts HS.out
      obtain ⟨⟨k0, k1, k2, k3, k4⟩, -⟩ := rec_now (sep_l1 HS.out) k y HY.out.1
      go_upto_region 13 with (fail)
      have n_ := sep_l4 (sep_l4 (sep_l4 (sep_l4 (sep_alloc HS.out #[.int .i64 y.id, .int .i64 y.st, .int .u32 y.inc, .int .u32 y.ip, .int .u16 y.po] 66))))
      have n0_ := Aside0.mk n_; clear HS n_; have HS := n0_; clear n0_
      clear k0 k1 k2 k3 k4 b1 b2 b3 b4
      generalize w1.alloc (.cells #[.int .i64 y.id, .int .i64 y.st, .int .u32 y.inc, .int .u32 y.ip, .int .u16 y.po] 66) = wb at HS ⊢
      generalize w1.heap.size = gy at HS ⊢
      clear m1 m2 m3 m4 m5; obtain ⟨m1, m2, m3, m4, m5⟩ := facts5 (sep_l3 HS.out)
      obtain ⟨r1, r2, r3, r4, r5⟩ := facts5 (sep_l4 HS.out)
      cases ov with
      | false =>
        have hr := HR.out
        rw [if_pos rfl] at hr
        clear HR
        have HR := Aside0.mk hr
        clear hr
        go_wp2_with (go_at_call 40; (with_reducible refine Calls.mono (scuttlebuttref04_Over.calls 5 r.id r.st r.inc r.ip r.po y.id y.st y.inc y.ip y.po false _ HV.out) ?_); rintro e w1 ⟨rfl, hb_⟩; have n_ := sep_below HS.out hb_; clear hb_; have n0_ := Aside0.mk n_; clear HS n_; have HS := n0_; clear n0_; clear m1 m2 m3 m4 m5; obtain ⟨m1, m2, m3, m4, m5⟩ := facts5 (sep_l3 HS.out))
        go_ret2
        rw [HR.out]
        exact ⟨rfl, rview_mk (sep_drop (sep_l3 (sep_drop (sep_l4 HS.out))))⟩
      | true =>
        obtain ⟨L2, hl2⟩ : ∃ L2, x.L.set k r = L2 := ⟨_, rfl⟩
        have HL2 := Aside0.mk hl2
        have hr := HR.out
        rw [if_neg (by decide), hl2] at hr
        clear HR hl2
        have HR := Aside0.mk hr
        clear hr
        go_upto_region 16 with (go_at_call 40; (with_reducible refine Calls.mono (scuttlebuttref04_Over.calls 5 r.id r.st r.inc r.ip r.po y.id y.st y.inc y.ip y.po true _ HV.out) ?_); rintro e w1 ⟨rfl, hb_⟩; have n_ := sep_below HS.out hb_; clear hb_; have n0_ := Aside0.mk n_; clear HS n_; have HS := n0_; clear n0_; clear m1 m2 m3 m4 m5; obtain ⟨m1, m2, m3, m4, m5⟩ := facts5 (sep_l3 HS.out))
        clear r1 r2 r3 r4 r5
        generalize w1 = wb at HS ⊢
        (try clear b1 b2 b3 b4); obtain ⟨b1, b2, b3, b4⟩ := rv_facts HS.out
        obtain ⟨d1, d2, d3, d4⟩ := rv_facts (sep_drew HS.out)
        obtain ⟨⟨k1, k2, k3, k4, k5⟩, f1, f2, f3, f4, f5⟩ := rec_now (sep_l1 HS.out) k y HY.out.1
        obtain ⟨⟨l1, l2, l3, l4, l5⟩, h1, h2, h3, h4, h5⟩ := rec_now (sep_l1 (sep_drew HS.out)) k y HY.out.1
        obtain ⟨q1, q2, q3, q4, q5⟩ := facts5 (sep_l3 (sep_drew HS.out))
        go_region
        all_goals
          have n_ := sep_l1 (sep_drew (sep_rec_put (sep_l1 HS.out) k r HY.out.2))
          rw [HL2.out] at n_
          have n0_ := Aside0.mk n_; clear HS n_; have HS := n0_; clear n0_
          generalize World.drew _ = wc at HS ⊢
          clear k1 k2 k3 k4 k5 f1 f2 f3 f4 f5 l1 l2 l3 l4 l5 h1 h2 h3 h4 h5 q1 q2 q3 q4 q5 b1 b2 b3 b4 d1 d2 d3 d4
          clear m1 m2 m3 m4 m5; obtain ⟨m1, m2, m3, m4, m5⟩ := facts5 (sep_l3 HS.out)
          obtain ⟨r1, r2, r3, r4, r5⟩ := facts5 (sep_l4 HS.out)
          by_cases hsame : y.st = r.st
          · have t1 : (y.st == r.st) = true := by simpa using hsame
            have t2 := eq_true hsame
            have hr := HR.out
            rw [if_pos hsame] at hr
            clear HR
            have HR := Aside0.mk hr
            clear hr hsame
            go_wp2
            go_ret2
            rw [HR.out]
            exact ⟨rfl, rview_mk (x := ⟨L2, x.E⟩) (sep_drop (sep_l3 (sep_drop (sep_l4 HS.out))))⟩
          · have t1 : (y.st == r.st) = false := by simpa using hsame
            have t2 := eq_false hsame
            have hr := HR.out
            rw [if_neg hsame] at hr
            clear HR
            have HR := Aside0.mk hr
            clear hr hsame
            go_upto_region 18 with (fail)
            clear r1 r2 r3 r4 r5 m1 m2 m3 m4 m5 t1 t2
            have n_ := sep_drew (sep_l2 HS.out)
            have n0_ := Aside0.mk n_; clear HS n_; have HS := n0_; clear n0_
            obtain ⟨k1, k2, k3, k5, k4⟩ := keepZ HS.out
            have t1 := (rv_facts (sep_l1 HS.out)).2.1
            have t3 : ((wc.alloc (.cells #[.int .i64 r.id, .int .i64 y.st, .int .i64 r.st, .int .u32 r.inc] 94)).drew).cell? ⟨p, 1, none⟩ = some (.slice A2 x.E.length c2) := (rv_facts (sep_l1 (sep_skip HS.out (.cells #[.int .i64 r.id, .int .i64 y.st, .int .i64 r.st, .int .u32 r.inc] 94)))).2.1
            refine wp_region_held_drew (S := (fun w' => w'.cell? ⟨g3, 0, none⟩ = some (.int .i64 r.id) ∧ w'.cell? ⟨g3, 1, none⟩ = some (.int .i64 r.st) ∧ w'.cell? ⟨g3, 2, none⟩ = some (.int .u32 r.inc) ∧ w'.cell? ⟨gy, 1, none⟩ = some (.int .i64 y.st) ∧ w'.frozen? ⟨p, 1, none⟩ = false)) (by kernel_rfl) ⟨k1, k2, k3, k5, k4⟩ (fun hHeld => ?_)
            (refine h_take 0 (by assumption) rfl (by decide +kernel) (by decide +kernel) (by decide +kernel) (fun _ _ _ h => h) (by rfl) (by intro w hSw; (try dsimp only at hSw); go_simp; all_goals (with_reducible rfl)) ?_; simp only [Act.put, List.setIfInBounds_toArray, List.set_cons_zero, List.set_cons_succ])
            (refine h_take 1 (by assumption) rfl (by decide +kernel) (by decide +kernel) (by decide +kernel) (fun _ _ _ h => h) (by rfl) (by intro w hSw; (try dsimp only at hSw); go_simp; all_goals (with_reducible rfl)) ?_; simp only [Act.put, List.setIfInBounds_toArray, List.set_cons_zero, List.set_cons_succ])
            (refine h_take 2 (by assumption) rfl (by decide +kernel) (by decide +kernel) (by decide +kernel) (fun _ _ _ h => h) (by rfl) (by intro w hSw; (try dsimp only at hSw); go_simp; all_goals (with_reducible rfl)) ?_; simp only [Act.put, List.setIfInBounds_toArray, List.set_cons_zero, List.set_cons_succ])
            (refine h_take 3 (by assumption) rfl (by decide +kernel) (by decide +kernel) (by decide +kernel) (fun _ _ _ h => h) (by rfl) (by intro w hSw; (try dsimp only at hSw); go_simp; all_goals (with_reducible rfl)) ?_; simp only [Act.put, List.setIfInBounds_toArray, List.set_cons_zero, List.set_cons_succ])
            (refine h_take 5 (by assumption) rfl (by decide +kernel) (by decide +kernel) (by decide +kernel) (fun _ _ _ h => h) (by rfl) (by intro w hSw; (try dsimp only at hSw); go_simp; all_goals (with_reducible rfl)) ?_; simp only [Act.put, List.setIfInBounds_toArray, List.set_cons_zero, List.set_cons_succ])
            (refine h_take 6 (by assumption) rfl (by decide +kernel) (by decide +kernel) (by decide +kernel) (fun _ _ _ h => h) (by rfl) (by intro w hSw; (try dsimp only at hSw); go_simp; all_goals (with_reducible rfl)) ?_; simp only [Act.put, List.setIfInBounds_toArray, List.set_cons_zero, List.set_cons_succ])
            (refine h_take 7 (by assumption) rfl (by decide +kernel) (by decide +kernel) (by decide +kernel) (fun _ _ _ h => h) (by rfl) (by intro w hSw; (try dsimp only at hSw); go_simp; all_goals (with_reducible rfl)) ?_; simp only [Act.put, List.setIfInBounds_toArray, List.set_cons_zero, List.set_cons_succ])
            (refine h_take 8 (by assumption) rfl (by decide +kernel) (by decide +kernel) (by decide +kernel) (fun _ _ _ h => h) (by rfl) (by intro w hSw; (try dsimp only at hSw); go_simp; all_goals (with_reducible rfl)) ?_; simp only [Act.put, List.setIfInBounds_toArray, List.set_cons_zero, List.set_cons_succ])
            (refine h_take 9 (by assumption) rfl (by decide +kernel) (by decide +kernel) (by decide +kernel) (fun _ _ _ h => h) (by rfl) (by intro w hSw; (try dsimp only at hSw); go_simp; all_goals (with_reducible rfl)) ?_; simp only [Act.put, List.setIfInBounds_toArray, List.set_cons_zero, List.set_cons_succ])
            (refine h_take 10 (by assumption) rfl (by decide +kernel) (by decide +kernel) (by decide +kernel) (fun _ _ _ h => h) (by rfl) (by intro w hSw; (try dsimp only at hSw); go_simp; all_goals (with_reducible rfl)) ?_; simp only [Act.put, List.setIfInBounds_toArray, List.set_cons_zero, List.set_cons_succ])
            (refine h_take 11 (by assumption) rfl (by decide +kernel) (by decide +kernel) (by decide +kernel) (fun _ _ _ h => h) (by rfl) (by intro w hSw; (try dsimp only at hSw); go_simp; all_goals (with_reducible rfl)) ?_; simp only [Act.put, List.setIfInBounds_toArray, List.set_cons_zero, List.set_cons_succ])
            (refine h_take 12 (by assumption) rfl (by decide +kernel) (by decide +kernel) (by decide +kernel) (fun _ _ _ h => h) (by rfl) (by intro w hSw; (try dsimp only at hSw); go_simp; all_goals (with_reducible rfl)) ?_; simp only [Act.put, List.setIfInBounds_toArray, List.set_cons_zero, List.set_cons_succ])
            (refine h_take 13 (by assumption) rfl (by decide +kernel) (by decide +kernel) (by decide +kernel) (fun _ _ _ h => h) (by rfl) (by intro w hSw; (try dsimp only at hSw); go_simp; all_goals (with_reducible rfl)) ?_; simp only [Act.put, List.setIfInBounds_toArray, List.set_cons_zero, List.set_cons_succ])
            refine h_two 4 14 (by kernel_rfl) rfl rfl (by rfl) (by rfl) (fun K hK => ?_) (fun K hK => ?_)
            · go_simp
              clear hHeld
              ((first | refine hK.out _ _ (⟨k1, k2, k3, k5, k4⟩) (fun hHeld => ?_) | (go_wp2_with fail; refine hK.out _ _ (⟨k1, k2, k3, k5, k4⟩) (fun hHeld => ?_))); clear hK K; (try simp only [Act.put, List.setIfInBounds_toArray, List.set_cons_zero, List.set_cons_succ]))
              (refine h_one 14 (by kernel_rfl) rfl (by rfl) (fun K hK => ?_); go_simp; skip; clear hHeld; ((first | refine hK.out _ _ (keepZ (sep_skip HS.out _)) (fun hHeld => ?_) | (go_wp2_with fail; refine hK.out _ _ (keepZ (sep_skip HS.out _)) (fun hHeld => ?_))); clear hK K; (try simp only [Act.put, List.setIfInBounds_toArray, List.set_cons_zero, List.set_cons_succ])))
              refine h_raw 15 (by kernel_rfl) rfl (fun K hK => ?_)
              (refine step_append (w0 := w) (ok0 := ok) evK (by rfl) (.tmp 92) (.tmp 102) 59 94 z46 32 rfl Try.underlying59 info94 rfl (by decide) (by decide) _ x.E ⟨r.id, y.st, r.st, r.inc⟩ (Ev.cells ⟨r.id, y.st, r.st, r.inc⟩) (by rfl) (by rfl) (evK_M _ _ _ _) HS.out (by have := HL.out.2; omega) (fun v1 w5 hs => ?_); clear HS k1 k2 k3 k4 t1 t3; obtain ⟨A5, c5, rfl, -, -⟩ := sep_row hs; have HS := Aside0.mk hs; clear hs)
              obtain ⟨k1, k2, k3, k5, k4⟩ := keepZ HS.out
              have t1 := (rv_facts (sep_l1 HS.out)).2.1
              clear hHeld
              ((first | refine hK.out _ _ (⟨k1, k2, k3, k5, k4⟩) (fun hHeld => ?_) | (go_wp2_with fail; refine hK.out _ _ (⟨k1, k2, k3, k5, k4⟩) (fun hHeld => ?_))); clear hK K; (try simp only [Act.put, List.setIfInBounds_toArray, List.set_cons_zero, List.set_cons_succ]))
              (refine h_take 16 (by assumption) rfl (by decide +kernel) (by decide +kernel) (by decide +kernel) (fun _ _ _ h => h) (by rfl) (by intro w hSw; (try dsimp only at hSw); go_simp; all_goals (with_reducible rfl)) ?_; simp only [Act.put, List.setIfInBounds_toArray, List.set_cons_zero, List.set_cons_succ])
              (refine h_take 17 (by assumption) rfl (by decide +kernel) (by decide +kernel) (by decide +kernel) (fun _ _ _ h => h) (by rfl) (by intro w hSw; (try dsimp only at hSw); go_simp; all_goals (with_reducible rfl)) ?_; simp only [Act.put, List.setIfInBounds_toArray, List.set_cons_zero, List.set_cons_succ])
              (refine h_one 18 (by kernel_rfl) rfl (by rfl) (fun K hK => ?_); go_simp; skip; clear hHeld; ((first | refine hK.out _ _ (keepY (sep_set (sep_l1 HS.out) 1 _)) (fun hHeld => ?_) | (go_wp2_with fail; refine hK.out _ _ (keepY (sep_set (sep_l1 HS.out) 1 _)) (fun hHeld => ?_))); clear hK K; (try simp only [Act.put, List.setIfInBounds_toArray, List.set_cons_zero, List.set_cons_succ])))
              refine wpAnyH_done (by kernel_rfl) ?_ _
              have n_ := rview_mk (x := ⟨L2, x.E ++ [⟨r.id, y.st, r.st, r.inc⟩]⟩) (sep_l1 (sep_l2 (sep_set (sep_l1 HS.out) 1 (.slice A5 (x.E ++ [(⟨r.id, y.st, r.st, r.inc⟩ : Ev)]).length c5))))
              rw [List.length_append, List.length_singleton] at n_
              clear hHeld
              have n0_ := Aside0.mk n_; clear HS n_; have HS := n0_; clear n0_
              generalize w5.setCell ⟨p, 1, none⟩ (.slice A5 (x.E.length + 1) c5) = w7 at HS ⊢
              go_wp2
              go_ret2
              rw [HR.out]
              exact ⟨rfl, sep_drop (sep_l1 (sep_drop (sep_l2 HS.out)))⟩
            · go_simp
              clear hHeld
              ((first | refine hK.out _ _ (keepZ (sep_skip HS.out _)) (fun hHeld => ?_) | (go_wp2_with fail; refine hK.out _ _ (keepZ (sep_skip HS.out _)) (fun hHeld => ?_))); clear hK K; (try simp only [Act.put, List.setIfInBounds_toArray, List.set_cons_zero, List.set_cons_succ]))
              (refine h_one 4 (by kernel_rfl) rfl (by rfl) (fun K hK => ?_); go_simp; skip; clear hHeld; ((first | refine hK.out _ _ (keepZ (sep_skip HS.out _)) (fun hHeld => ?_) | (go_wp2_with fail; refine hK.out _ _ (keepZ (sep_skip HS.out _)) (fun hHeld => ?_))); clear hK K; (try simp only [Act.put, List.setIfInBounds_toArray, List.set_cons_zero, List.set_cons_succ])))
              refine h_raw 15 (by kernel_rfl) rfl (fun K hK => ?_)
              (refine step_append (w0 := w) (ok0 := ok) evK (by rfl) (.tmp 92) (.tmp 102) 59 94 z46 32 rfl Try.underlying59 info94 rfl (by decide) (by decide) _ x.E ⟨r.id, y.st, r.st, r.inc⟩ (Ev.cells ⟨r.id, y.st, r.st, r.inc⟩) (by rfl) (by rfl) (evK_M _ _ _ _) HS.out (by have := HL.out.2; omega) (fun v1 w5 hs => ?_); clear HS k1 k2 k3 k4 t1 t3; obtain ⟨A5, c5, rfl, -, -⟩ := sep_row hs; have HS := Aside0.mk hs; clear hs)
              obtain ⟨k1, k2, k3, k5, k4⟩ := keepZ HS.out
              have t1 := (rv_facts (sep_l1 HS.out)).2.1
              clear hHeld
              ((first | refine hK.out _ _ (⟨k1, k2, k3, k5, k4⟩) (fun hHeld => ?_) | (go_wp2_with fail; refine hK.out _ _ (⟨k1, k2, k3, k5, k4⟩) (fun hHeld => ?_))); clear hK K; (try simp only [Act.put, List.setIfInBounds_toArray, List.set_cons_zero, List.set_cons_succ]))
              (refine h_take 16 (by assumption) rfl (by decide +kernel) (by decide +kernel) (by decide +kernel) (fun _ _ _ h => h) (by rfl) (by intro w hSw; (try dsimp only at hSw); go_simp; all_goals (with_reducible rfl)) ?_; simp only [Act.put, List.setIfInBounds_toArray, List.set_cons_zero, List.set_cons_succ])
              (refine h_take 17 (by assumption) rfl (by decide +kernel) (by decide +kernel) (by decide +kernel) (fun _ _ _ h => h) (by rfl) (by intro w hSw; (try dsimp only at hSw); go_simp; all_goals (with_reducible rfl)) ?_; simp only [Act.put, List.setIfInBounds_toArray, List.set_cons_zero, List.set_cons_succ])
              (refine h_one 18 (by kernel_rfl) rfl (by rfl) (fun K hK => ?_); go_simp; skip; clear hHeld; ((first | refine hK.out _ _ (keepY (sep_set (sep_l1 HS.out) 1 _)) (fun hHeld => ?_) | (go_wp2_with fail; refine hK.out _ _ (keepY (sep_set (sep_l1 HS.out) 1 _)) (fun hHeld => ?_))); clear hK K; (try simp only [Act.put, List.setIfInBounds_toArray, List.set_cons_zero, List.set_cons_succ])))
              refine wpAnyH_done (by kernel_rfl) ?_ _
              have n_ := rview_mk (x := ⟨L2, x.E ++ [⟨r.id, y.st, r.st, r.inc⟩]⟩) (sep_l1 (sep_l2 (sep_set (sep_l1 HS.out) 1 (.slice A5 (x.E ++ [(⟨r.id, y.st, r.st, r.inc⟩ : Ev)]).length c5))))
              rw [List.length_append, List.length_singleton] at n_
              clear hHeld
              have n0_ := Aside0.mk n_; clear HS n_; have HS := n0_; clear n0_
              generalize w5.setCell ⟨p, 1, none⟩ (.slice A5 (x.E.length + 1) c5) = w7 at HS ⊢
              go_wp2
              go_ret2
              rw [HR.out]
              exact ⟨rfl, sep_drop (sep_l1 (sep_drop (sep_l2 HS.out)))⟩
end Go.Proofs.Ythpmlnnjfmcglaa.VW
/- The reference's view, walked: Merge. Conditions: those that each theorem names. -/
namespace Go.Proofs.Ythpmlnnjfmcglaa.VW
set_option linter.unusedVariables false
set_option linter.unusedSimpArgs false
open Go Go.RowKit Go.Proofs.YthpmlnnjfmcglaaS Go.Proofs.YthpmlnnjfmcglaaS.Asn Go.Proofs.Ythpmlnnjfmcglaa.PA Go.Proofs.YthpmlnnjfmcglaaW.PrintWords Go.Proofs.YthpmlnnjfmcglaaW.PrintLast Go.Proofs.YthpmlnnjfmcglaaW.PrintMore
theorem rmg_ok (x : RV) (l : List Rec) (i : Nat) : (rmg x (l.take i)).2.L.length ≤ x.L.length + i ∧ (rmg x (l.take i)).2.E.length ≤ x.E.length + i ∧ (rmg x (l.take i)).1.length ≤ i := by
  induction i with
  | zero => rw [List.take_zero]; exact ⟨Nat.le_refl _, Nat.le_refl _, Nat.le_refl _⟩
  | succ i ih =>
    obtain ⟨h1, h2, h3⟩ := ih
    rw [List.take_add_one]
    cases hx : l[i]? with
    | none => rw [Option.toList_none, List.append_nil]; exact ⟨by omega, by omega, by omega⟩
    | some y =>
      rw [Option.toList_some, rmg_snoc]
      obtain ⟨h4, h5⟩ := rtake_len (rmg x (l.take i)).2 y
      unfold rmgF
      dsimp only
      refine ⟨by omega, by omega, ?_⟩
      split
      · rw [List.length_append, List.length_singleton]; omega
      · omega
set_option maxHeartbeats 4000000 in
set_option maxRecDepth 100000 in
theorem rview_Merge (p : Nat) (x : RV) (A : Option Addr) (c : Nat) (l : List Rec) (w : World) (ok : Nat → Prop) (hE : x.E.length ≤ 900000) (hn : x.L.length ≤ 700) (hl : l.length ≤ 100) (h : (viewR p x ⋆ row recK 66 (.slice A l.length c) l ⋆ emp).H w ok) :
    Calls Try.prog 24 #[.pointer (some ⟨p, 0, none⟩), .slice A l.length c] w fun e w' => ∃ v, e = .returned (.tuple #[v, .int .i64 (rmerge x l).2.1]) ∧ Sep w ok (row recK 66 v (rmerge x l).1 ⋆ viewR p (rmerge x l).2.2 ⋆ row recK 66 (.slice A l.length c) l ⋆ emp) w' := by
  have HS := Aside0.mk (sep_begin h)
  have HK := Aside0.mk (And.intro hE (And.intro hn hl))
  clear h hE hn hl
  obtain ⟨r, hr⟩ : ∃ r, rmerge x l = r := ⟨_, rfl⟩
  rw [hr]
  have HR := Aside0.mk hr
  clear hr
  go_enter Try.func24, Try.ntmps24
  go_upto_region 2 with (fail)
  go_loopg [6] l.length (fun gg v6 wr => ∃ i : Nat, i ≤ l.length ∧ l.length - i ≤ gg ∧ v6 = .int .i64 (i : Int) ∧ Aside0 ((l.take i).any bad = false) ∧ Aside0 (Sep w ok (viewR p x ⋆ row recK 66 (.slice A l.length c) l ⋆ emp) wr))
  case atStart => exact ⟨0, Nat.zero_le _, by omega, rfl, ⟨by rw [List.take_zero]; rfl⟩, HS⟩
  case round =>
    clear HS
    obtain ⟨i, hi, hgi, rfl, HB, HS⟩ := hrel
    by_cases hlt : i < l.length
    · have c1b : decide ((i : Int) < (l.length : Int)) = true := decide_eq_true (Int.ofNat_lt.2 hlt); have c1n : decide (i < l.length) = true := decide_eq_true hlt; have c1q : (i < l.length) = True := eq_true hlt; have p0_ := eq_true (Int.natCast_nonneg i)
      obtain ⟨y, hy⟩ : ∃ y, l[i]? = some y := ⟨_, List.getElem?_eq_getElem hlt⟩
      obtain ⟨ga, hA, -⟩ := rec_frozen (sep_l1 HS.out) i hlt
      subst hA
      obtain ⟨⟨k0, k1, k2, k3, k4⟩, -⟩ := rec_now (sep_l1 HS.out) i y hy
      have hsn : (l.take (i + 1)).any bad = bad y := by rw [List.take_add_one, hy, Option.toList_some, List.any_append, HB.out, Bool.false_or, List.any_cons, List.any_nil, Bool.or_false]
      obtain ⟨b, hb⟩ : ∃ b, right y = b := ⟨_, rfl⟩
      have HG : Aside0 (scuttlebuttref04_Right.f y.id y.st y.inc y.ip y.po = some b) := ⟨by rw [rright_f, hb]⟩
      have HN := Aside0.mk hsn
      have HY := Aside0.mk (And.intro hb hy)
      have HI := Aside0.mk (And.intro hlt hgi)
      clear hi hgi hlt hy hsn hb
      cases b with
      | false =>
        go_wp2_with (go_at_call 38; (with_reducible refine Calls.mono (scuttlebuttref04_Right.calls y.id y.st y.inc y.ip y.po false _ HG.out) ?_); rintro e w1 ⟨rfl, hb_⟩; have n_ := sep_below HS.out hb_; clear hb_; have n0_ := Aside0.mk n_; clear HS n_; have HS := n0_; clear n0_)
        go_ret2
        have hr := HR.out
        have hb : l.any bad = true := List.any_eq_true.2 ⟨y, List.mem_of_getElem? HY.out.2, by unfold bad; rw [HY.out.1]; rfl⟩
        unfold rmerge at hr
        rw [if_pos hb] at hr
        subst hr
        exact ⟨_, rfl, sep_row_nil HS.out⟩
      | true =>
        go_wp2_with (go_at_call 38; (with_reducible refine Calls.mono (scuttlebuttref04_Right.calls y.id y.st y.inc y.ip y.po true _ HG.out) ?_); rintro e w1 ⟨rfl, hb_⟩; have n_ := sep_below HS.out hb_; clear hb_; have n0_ := Aside0.mk n_; clear HS n_; have HS := n0_; clear n0_)
        go_roundg (l.length - (i + 1))
        case measure => have := HI.out; omega
        case rel => exact ⟨i + 1, HI.out.1, Nat.le_refl _, congrArg (Value.int .i64) (by have := HI.out; have := HK.out; unfold wrap64; omega), ⟨by rw [HN.out]; unfold bad; rw [HY.out.1]; rfl⟩, HS⟩
    · obtain rfl : i = l.length := by omega
      rw [List.take_length] at HB
      have hr := HR.out
      unfold rmerge at hr
      rw [if_neg (by rw [HB.out]; decide)] at hr
      clear HR HB hi hgi hlt
      have HR := Aside0.mk hr
      clear hr
      have c2b : decide ((l.length : Int) < (l.length : Int)) = false := decide_eq_false (by omega)
      have n_ := sep_row_nil (d := recK) (e := 66) HS.out
      have n0_ := Aside0.mk n_; clear HS n_; have HS := n0_; clear n0_
      go_upto_region 9 with (fail)
      go_loopg [8, 9] l.length (fun gg v8 v9 wr => ∃ i : Nat, i ≤ l.length ∧ l.length - i ≤ gg ∧ v9 = .int .i64 (i : Int) ∧ Aside0 (Sep w ok (row recK 66 v8 (rmg x (l.take i)).1 ⋆ viewR p (rmg x (l.take i)).2 ⋆ row recK 66 (.slice A l.length c) l ⋆ emp) wr))
      case atStart => exact ⟨0, Nat.zero_le _, by omega, rfl, HS⟩
      case round =>
        clear HS c2b
        obtain ⟨i, hi, hgi, rfl, HS⟩ := hrel
        by_cases hlt : i < l.length
        · have c1b : decide ((i : Int) < (l.length : Int)) = true := decide_eq_true (Int.ofNat_lt.2 hlt); have c1n : decide (i < l.length) = true := decide_eq_true hlt; have c1q : (i < l.length) = True := eq_true hlt; have p0_ := eq_true (Int.natCast_nonneg i)
          obtain ⟨y, hy⟩ : ∃ y, l[i]? = some y := ⟨_, List.getElem?_eq_getElem hlt⟩
          obtain ⟨ga, hA, -⟩ := rec_frozen (sep_l2 HS.out) i hlt
          subst hA
          obtain ⟨⟨k0, k1, k2, k3, k4⟩, -⟩ := rec_now (sep_l2 HS.out) i y hy
          have hsn : rmg x (l.take (i + 1)) = rmgF (rmg x (l.take i)) y := by rw [List.take_add_one, hy, Option.toList_some, rmg_snoc]
          have hmk := rmg_ok x l i
          obtain ⟨⟨o, s1⟩, hm⟩ : ∃ z, rmg x (l.take i) = z := ⟨_, rfl⟩
          rw [hm] at HS hsn hmk
          dsimp only at HS hmk
          unfold rmgF at hsn
          dsimp only at hsn
          obtain ⟨⟨tk, te, s2⟩, ht⟩ : ∃ z, rtake s1 y = z := ⟨_, rfl⟩
          rw [ht] at hsn
          dsimp only at hsn
          have HT := Aside0.mk ht
          have HSN := Aside0.mk hsn
          have HMK := Aside0.mk hmk
          have HI := Aside0.mk (And.intro hlt hgi)
          have HY := Aside0.mk hy
          clear hi hgi hlt hy hsn hm hmk ht
          go_upto_region 12 with (go_at_call 20; obtain ⟨ok_, hp_, hk_⟩ := sep_use1 (sep_l1 HS.out); have hx_ := rtake_walk p s1 y _ ok_ (by have := HMK.out; have := HK.out; have := HI.out; omega) (by have := HMK.out; have := HK.out; have := HI.out; omega) hp_; rw [HT.out] at hx_; dsimp only at hx_; (with_reducible refine Calls.mono hx_ ?_); rintro e w1 ⟨rfl, hq_⟩; have n_ := sep_l1 (back1 hk_ hq_); clear hx_ hp_ hk_ hq_ k0 k1 k2 k3 k4; have n0_ := Aside0.mk n_; clear HS n_; have HS := n0_; clear n0_; obtain ⟨⟨k0, k1, k2, k3, k4⟩, -⟩ := rec_now (sep_l2 HS.out) i y HY.out)
          have hsn := HSN.out
          cases tk with
          | true =>
            rw [if_pos rfl] at hsn
            go_wp2_with ((with_reducible refine gate_builtin (b := .append) (xs := #[.tmp 41, .tmp 46]) rfl ?_); at_builtin; refine wp_append recK rfl (.tmp 41) (.tmp 46) 58 66 z31 32 rfl Try.underlying58 info66 rfl (by decide) (by decide) _ o y y.cells (by rfl) (by rfl) (recK_M _ _ _ _) HS.out (by have := HMK.out; have := HI.out; have := HK.out; omega) ?_; intro v1_ w4 n_; have n0_ := Aside0.mk n_; clear HS n_; have HS := n0_; clear n0_)
            replace HS : Aside0 (Sep w ok (row recK 66 v1_ (rmg x (l.take (i + 1))).1 ⋆ viewR p (rmg x (l.take (i + 1))).2 ⋆ row recK 66 (.slice (some ⟨ga, 0, none⟩) l.length c) l ⋆ emp) w4) := by rw [HSN.out]; exact HS
            go_roundg (l.length - (i + 1))
            case measure => have := HI.out; omega
            case rel => exact ⟨i + 1, HI.out.1, Nat.le_refl _, congrArg (Value.int .i64) (by have := HI.out; have := HK.out; unfold wrap64; omega), HS⟩
          | false =>
            rw [if_neg (by decide)] at hsn
            go_wp2
            replace HS : Aside0 (Sep w ok (row recK 66 u8 (rmg x (l.take (i + 1))).1 ⋆ viewR p (rmg x (l.take (i + 1))).2 ⋆ row recK 66 (.slice (some ⟨ga, 0, none⟩) l.length c) l ⋆ emp) w1) := by rw [HSN.out]; exact HS
            go_roundg (l.length - (i + 1))
            case measure => have := HI.out; omega
            case rel => exact ⟨i + 1, HI.out.1, Nat.le_refl _, congrArg (Value.int .i64) (by have := HI.out; have := HK.out; unfold wrap64; omega), HS⟩
        · obtain rfl : i = l.length := by omega
          rw [List.take_length] at HS
          have c2b : decide ((l.length : Int) < (l.length : Int)) = false := decide_eq_false (by omega)
          have hr := HR.out
          subst hr
          go_wp2
          go_ret2
          exact ⟨_, rfl, HS.out⟩
end Go.Proofs.Ythpmlnnjfmcglaa.VW
/- Slices of slices of things, opened; what stands in them. Conditions: those that each theorem names. -/
namespace Go.Proofs.Ythpmlnnjfmcglaa.VW
set_option linter.unusedVariables false
set_option linter.unusedSimpArgs false
open Go Go.RowKit Go.Proofs.YthpmlnnjfmcglaaS Go.Proofs.YthpmlnnjfmcglaaS.Asn Go.Proofs.Ythpmlnnjfmcglaa.PA Go.Proofs.YthpmlnnjfmcglaaW.PrintWords Go.Proofs.YthpmlnnjfmcglaaW.PrintLast Go.Proofs.YthpmlnnjfmcglaaW.PrintMore Go.Deep Go.ChangeShapes Go.WideShapes
abbrev ttK : Kd (List Th) := Kd.slice 33 thK
section
variable {H : Type} {enc : TypeId × Value → H} {W : World} {base fuel : Nat} {spare : Nat → Bool} {held : Bool} {cs : List Value} {x : DataW H × List MemPlace}
theorem things_C (h : DataW.trod enc Try.prog W base spare held fuel 22 cs = some x) :
    ∃ (A : Option Addr) (l : List Th) (c : Nat), cs = [.slice A l.length c] ∧ l.length ≤ c ∧ thK.C W A l.length l ∧ ∀ d ∈ l, thOk d := by
  obtain ⟨d, ps⟩ := x
  rcases open_slice Try.underlying22 h with ⟨rfl, -⟩ | ⟨ad, l, c, m, n, D, Pl, rfl, -⟩
  · obtain ⟨l, h1, h2, h3, h4⟩ := open_things (a := none) (len := 0) (cap := 0) ⟨fuel, h⟩
    exact ⟨none, l, 0, by rw [← h1], h3, h2, h4⟩
  · obtain ⟨q, h1, h2, h3, h4⟩ := open_things (a := some ad) (len := l) (cap := c) ⟨fuel, h⟩
    exact ⟨some ad, q, c, by rw [← h1], h3, h2, h4⟩
theorem open_thingss {a : Option Addr} {len cap : Nat} {d : DataW H} {ps : List MemPlace}
    (h : DataW.Trod enc Try.prog W base spare held 56 (.slice a len cap) d ps) :
    ∃ l : List (List Th), len = l.length ∧ ttK.C W a l.length l ∧ l.length ≤ cap ∧ ∀ d ∈ l, ∀ t ∈ d, thOk t := by
  obtain ⟨fuel, hfu⟩ := h
  have ce : Try.prog.cellsOf 22 = 1 := by kernel_rfl
  rcases open_slice Try.underlying56 hfu with ⟨hcs, hx⟩ | ⟨ad, l, c, m, n, D, Pl, hcs, hb, hl, hm, hmm, hx, hc⟩
  · simp [Value.cells] at hcs
    obtain ⟨rfl, rfl, rfl⟩ := hcs
    exact ⟨[], rfl, ⟨rfl, by simp, fun hn => absurd hn (by simp)⟩, by simp, by simp⟩
  · simp [Value.cells] at hcs
    obtain ⟨rfl, rfl, rfl⟩ := hcs
    have hlm : len ≤ m := by rw [hmm]; split <;> omega
    have each : ∀ i, i < len → ∃ q : List Th, (∃ cs : List Value, cs.length = 1 ∧ ttK.K W q cs ∧ ∀ j u, cs[j]? = some u → W.cell? (ad.add (i * 1 + j)) = some u) ∧ ∀ t ∈ q, thOk t := by
      intro i hi
      obtain ⟨cs', h1, h2⟩ := hc i (by omega)
      rw [ce] at h1
      obtain ⟨_, hlen, hcell⟩ := World.cells?_some h1
      obtain ⟨A, q, c, hq, hqc, hqC, hqo⟩ := things_C h2
      refine ⟨q, ⟨cs', hlen, ?_, fun j u hu => ?_⟩, hqo⟩
      · rw [hq]
        exact ⟨A, c, rfl, hqc, hqC⟩
      · have hj : j < 1 := by have := (List.getElem?_eq_some_iff.1 hu).1; omega
        have := hcell j hj
        rw [Deep.add_add] at this
        exact this.trans hu
    obtain ⟨q, hq⟩ := choose_lt each
    have hlen : ((List.range len).map q).length = len := by simp
    refine ⟨(List.range len).map q, hlen.symm, ⟨rfl, ?_, fun hn => ⟨ad, rfl, fun j p hjp => ?_⟩⟩, ?_, ?_⟩
    · rw [hlen]
      unfold maxLen at hm
      omega
    · rw [List.getElem?_map] at hjp
      by_cases hjl : j < len
      · rw [List.getElem?_range hjl] at hjp
        obtain rfl : q j = p := by simpa using hjp
        exact (hq j hjl).1
      · rw [List.getElem?_eq_none (by simp; omega)] at hjp
        cases hjp
    · rw [hlen]; exact hl
    · intro d hd
      obtain ⟨j, hj, rfl⟩ := List.mem_map.1 hd
      exact (hq j (List.mem_range.1 hj)).2
end
/-- A list of many, read. -/
theorem tt_at {w wr : World} {A : Option Addr} {n : Nat} {ll : List (List Th)} (h : ttK.C w A n ll) (hb : Below w.heap.size w wr) (i : Nat) (l : List Th) (hl : ll[i]? = some l) :
    ∃ (ad : Addr) (A1 : Option Addr) (c1 : Nat), A = some ad ∧ wr.cell? (ad.add i) = some (.slice A1 l.length c1) ∧ l.length ≤ c1 ∧ thK.C w A1 l.length l := by
  obtain ⟨h0, h1, h2⟩ := h
  have hi : i < ll.length := (List.getElem?_eq_some_iff.1 hl).1
  obtain ⟨ad, rfl, hc⟩ := h2 (by omega)
  obtain ⟨cs, -, ⟨A1, c1, rfl, hlc, hC⟩, hcell⟩ := hc i l hl
  have hh := hcell 0 _ rfl
  rw [show i * ttK.sz + 0 = i from Nat.mul_one i] at hh
  exact ⟨ad, A1, c1, rfl, (hb.cell (World.block_lt_of_cell? w _ hh)).trans hh, hlc, hC⟩
/-- What the things of a list come to. -/
def thL (l : List Th) (k : Nat) : List Rec := (l.take k).map thE
theorem thL_succ (l : List Th) (k : Nat) (t : Th) (h : l[k]? = some t) : thL l (k + 1) = thL l k ++ [thE t] := by
  unfold thL
  rw [List.take_add_one, h, Option.toList_some, List.map_append]
  rfl
theorem thL_len (l : List Th) (k : Nat) : (thL l k).length ≤ k := by unfold thL; rw [List.length_map, List.length_take]; omega
/-- How many there may be. -/
structure Bd (s : VS) (x : RV) (n : Nat) : Prop where
  rel : Rel s x
  ev : x.E.length ≤ n
theorem Bd_L {s : VS} {x : RV} {n : Nat} (h : Bd s x n) : x.L.length ≤ 33 := by rw [← h.rel.mem]; exact members_len s
theorem Bd_E {s : VS} {x : RV} {n : Nat} (h : Bd s x n) : s.E.length ≤ 128 ∧ s.seen ≤ n := by
  rw [h.rel.ev, h.rel.seen, List.length_drop]
  exact ⟨by omega, h.ev⟩
theorem Bd_take {s : VS} {x : RV} {n : Nat} (h : Bd s x n) (r : Rec) : Bd (takeE s r).2.2 (rtake x r).2.2 (n + 1) := by
  refine ⟨(rel_take h.rel r).2.2, ?_⟩
  have := (rtake_len x r).1
  have := h.ev
  omega
theorem Bd_merge {s : VS} {x : RV} {n : Nat} (h : Bd s x n) (l : List Rec) : Bd (mergeE s l).2.2 (rmerge x l).2.2 (n + l.length) := by
  refine ⟨(rel_merge h.rel l).2.2, ?_⟩
  unfold rmerge
  split
  · have := h.ev; dsimp only; omega
  · have h1 := (rmg_ok x l l.length).2.1
    rw [List.take_length] at h1
    have := h.ev
    dsimp only
    omega
end Go.Proofs.Ythpmlnnjfmcglaa.VW
/- The law's live: lists of whole numbers that are the same. Conditions: those that each theorem names. -/
namespace Go.Proofs.Ythpmlnnjfmcglaa.VW
set_option linter.unusedVariables false
set_option linter.unusedSimpArgs false
open Go Go.RowKit Go.Proofs.YthpmlnnjfmcglaaS Go.Proofs.YthpmlnnjfmcglaaS.Asn Go.Proofs.Ythpmlnnjfmcglaa.PA Go.Proofs.YthpmlnnjfmcglaaW.PrintWords Go.Proofs.YthpmlnnjfmcglaaW.PrintLast Go.Proofs.YthpmlnnjfmcglaaW.PrintMore
theorem live_same (A B : Option Addr) (c d : Nat) (l : List Int) (w : World) (ok : Nat → Prop) (h : (row (Kd.int .i64) 3 (.slice A l.length c) l ⋆ row (Kd.int .i64) 3 (.slice B l.length d) l ⋆ emp).H w ok) :
    Calls Try.prog 18 #[.slice A l.length c, .slice B l.length d] w fun e w' => e = .returned (.bool true) ∧ Sep w ok (row (Kd.int .i64) 3 (.slice A l.length c) l ⋆ row (Kd.int .i64) 3 (.slice B l.length d) l ⋆ emp) w' := by
  have HS := Aside0.mk (sep_begin h)
  have HLN := Aside0.mk (sep_row' HS.out).2.2.2.1
  clear h
  have z1 : ((l.length : Int) != (l.length : Int)) = false := by simp
  go_enter Try.func18, Try.ntmps18
  go_upto_region 4 with (fail)
  clear z1
  go_loopg [5] l.length (fun gg v5 wr => ∃ i : Nat, i ≤ l.length ∧ l.length - i ≤ gg ∧ v5 = .int .i64 (i : Int) ∧ Aside0 (Sep w ok (row (Kd.int .i64) 3 (.slice A l.length c) l ⋆ row (Kd.int .i64) 3 (.slice B l.length d) l ⋆ emp) wr))
  case atStart => exact ⟨0, Nat.zero_le _, by omega, rfl, HS⟩
  case round =>
    clear HS
    obtain ⟨i, hi, hgi, rfl, HS⟩ := hrel
    by_cases hlt : i < l.length
    · have c1b : decide ((i : Int) < (l.length : Int)) = true := decide_eq_true (Int.ofNat_lt.2 hlt); have c1n : decide (i < l.length) = true := decide_eq_true hlt; have c1q : (i < l.length) = True := eq_true hlt; have p0_ := eq_true (Int.natCast_nonneg i)
      obtain ⟨y, hy⟩ : ∃ y, rd l (i : Int) = y := ⟨_, rfl⟩
      obtain ⟨ga, rfl⟩ := row_addr HS.out (by omega)
      obtain ⟨gb, rfl⟩ := row_addr (sep_l1 HS.out) (by omega)
      obtain ⟨_, h0, ka⟩ := Kd.at_int (sep_row' HS.out).2.2 (i : Int) (Int.natCast_nonneg i) (Int.ofNat_lt.2 hlt)
      cases h0
      obtain ⟨_, h0, kb⟩ := Kd.at_int (sep_row' (sep_l1 HS.out)).2.2 (i : Int) (Int.natCast_nonneg i) (Int.ofNat_lt.2 hlt)
      cases h0
      rw [Int.toNat_natCast, hy, add_at] at ka kb
      have HI := Aside0.mk (And.intro hlt hgi)
      have z1 : (y != y) = false := by simp
      clear hi hgi hlt hy
      go_upto_region 6 with (fail)
      go_region
      all_goals
        go_wp2
        have n_ := sep_drew HS.out
        have n0_ := Aside0.mk n_; clear HS n_; have HS := n0_; clear n0_
        go_roundg (l.length - (i + 1))
        case measure => have := HI.out; omega
        case rel => exact ⟨i + 1, HI.out.1, Nat.le_refl _, congrArg (Value.int .i64) (by have := HI.out; have := HLN.out; unfold wrap64; omega), HS⟩
    · obtain rfl : i = l.length := by omega
      have c2b : decide ((l.length : Int) < (l.length : Int)) = false := decide_eq_false (by omega)
      go_wp2
      go_ret
      exact ⟨rfl, HS.out⟩
end Go.Proofs.Ythpmlnnjfmcglaa.VW
