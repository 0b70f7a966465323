/- The plain mathematics of chapter 3's texts: a text is read as an address just if it is that address' text. -/
import Derived.Test.YtjlpfmiipicnoaaDoorMT
set_option linter.unusedVariables false
set_option linter.unusedSimpArgs false
namespace Go.Proofs.YtjlpfmiipicnoaaDoor.MT
open Go Go.RowKit Go.Proofs.YtjlpfmiipicnoaaDoor.PA Go.Proofs.YtjlpfmiipicnoaaDoor.MP Go.Proofs.YtjlpfmiipicnoaaDoor.MA Go.Proofs.YtjlpfmiipicnoaaDoorW.PrintWords Go.Proofs.YtjlpfmiipicnoaaDoorW.PrintLast Go.Proofs.YtjlpfmiipicnoaaDoorW.PrintMore

def fin (most e n : Nat) (t r : List UInt8) : Nat × List UInt8 × Bool :=
  if most < n ∨ t = [] ∨ dd n ≠ t then (0, [], false)
  else if e = 0 then (n, r, decide (r = [])) else tl e n r
/-- What 'number' tells. -/
def numR (most : Nat) (e : Nat) (l : List UInt8) : Nat × List UInt8 × Bool := fin most e (scan most 0 l).1 (scan most 0 l).2.1 (scan most 0 l).2.2
theorem numR_fin (most e : Nat) (l : List UInt8) : numR most e l = fin most e (scan most 0 l).1 (scan most 0 l).2.1 (scan most 0 l).2.2 := rfl
theorem number_j1 (k : Nat) (l : List UInt8) (most e : Nat) (he : e < 256) (hm : most ≤ 65535) (t r : List UInt8) (n : Nat) (hl : t ++ r = l) (hlen : l.length < 1000000000000000000) (hn : n < 10 * most + 10) :
    addr_number.j1 (k + 2) (mk l) (most : Int) (e : Int) (n : Int) (t.length : Int) false = some (up (fin most e n t r)) := by
  simp only [addr_number.j1]
  rw [if_neg (by decide)]
  have hj : addr_number.j2 (k + 1) (mk l) (e : Int) (n : Int) (t.length : Int) true = some (up (0, [], false)) := rfl
  unfold fin
  by_cases h1 : most < n
  · rw [if_pos (by omega), if_pos (.inl h1), hj]
  · rw [if_neg (by omega)]
    by_cases h2 : t = []
    · subst h2
      rw [if_pos (show (([] : List UInt8).length : Int) = 0 from rfl), hj, if_pos (.inr (.inl rfl))]
    · have h2' : t.length ≠ 0 := fun h => h2 (List.eq_nil_of_length_eq_zero h)
      have hle : t.length ≤ l.length := by rw [← hl, List.length_append]; omega
      rw [if_neg (by omega), itoa_some _ (by omega), Option.bind_some, if_pos (by omega), if_pos (by rw [mk_size]; omega), Int.toNat_natCast, mk_front, toList_data, toList_data, numS_data _ (by omega), mk_data]
      have ht : l.take t.length = t := by rw [← hl, List.take_left]
      rw [ht]
      by_cases h3 : dd n = t
      · rw [h3, bne_self_eq_false, number_j2 k l most e he t r n hl hlen]
        rw [if_neg (show ¬ (most < n ∨ t = [] ∨ t ≠ t) from fun h => h.elim h1 fun h => h.elim h2 fun h => h rfl)]
      · have hb : (dd n != t) = true := by simpa [bne_iff_ne] using h3
        rw [show (Lib.decDigits n != t) = true from hb, hj, if_pos (.inr (.inr h3))]
theorem number_l (l : List UInt8) (most e : Nat) (he : e < 256) (hm : most ≤ 65535) (hlen : l.length < 1000000000000000000) : ∀ (r t : List UInt8) (n k : Nat), t ++ r = l → n < 10 * most + 10 → 2 * r.length + 4 ≤ k →
    addr_number.l500 k (mk l) (most : Int) (e : Int) (n : Int) (t.length : Int) = some (up (fin most e (scan most n r).1 (t ++ (scan most n r).2.1) (scan most n r).2.2)) := by
  intro r
  induction r with
  | nil =>
    intro t n k hl hn hk
    obtain ⟨k, rfl⟩ : ∃ m, k = m + 3 := ⟨k - 3, by omega⟩
    rw [List.append_nil] at hl
    subst hl
    rw [show addr_number.l500 (k + 3) (mk t) (most : Int) (e : Int) (n : Int) (t.length : Int) = addr_number.j1 (k + 2) (mk t) (most : Int) (e : Int) (n : Int) (t.length : Int) false by
      simp only [addr_number.l500]
      rw [if_neg (by rw [mk_size]; omega)]]
    rw [number_j1 k t most e he hm t [] n (List.append_nil t) hlen hn, scan, List.append_nil]
  | cons c r ih =>
    intro t n k hl hn hk
    obtain ⟨k, rfl⟩ : ∃ m, k = m + 3 := ⟨k - 3, by omega⟩
    simp only [List.length_cons] at hk
    have hll : t.length + (r.length + 1) = l.length := by rw [← hl, List.length_append, List.length_cons]
    have hlt : t.length < l.length := by omega
    have hc : l[t.length] = c := by
      subst hl
      simp
    have hb : bt (mk l) (t.length : Int) = (c.toNat : Int) := by rw [mk_bt _ _ hlt, hc]
    have hc2 := c.toNat_lt
    by_cases hd : 48 ≤ c.toNat ∧ c.toNat ≤ 57 ∧ n ≤ most
    · have hstep : addr_number.l500 (k + 3) (mk l) (most : Int) (e : Int) (n : Int) (t.length : Int) = addr_number.l500 (k + 1) (mk l) (most : Int) (e : Int) ((n * 10 + (c.toNat - 48) : Nat) : Int) ((t ++ [c]).length : Int) := by
        rw [show addr_number.l500 (k + 3) (mk l) (most : Int) (e : Int) (n : Int) (t.length : Int) = addr_number.j1 (k + 2) (mk l) (most : Int) (e : Int) (n : Int) (t.length : Int) true by
          simp only [addr_number.l500]
          rw [if_pos (by rw [mk_size]; omega), if_pos (by omega), hb, if_pos (by omega), if_pos (by omega), decide_eq_true (by omega)]]
        rw [show addr_number.j1 (k + 2) (mk l) (most : Int) (e : Int) (n : Int) (t.length : Int) true = addr_number.l500 (k + 1) (mk l) (most : Int) (e : Int) (wrap64 ((wrap64 ((n : Int) * 10)) + (((bt (mk l) (t.length : Int)) - 48) % 256))) (wrap64 ((t.length : Int) + 1)) by
          simp only [addr_number.j1]
          rw [if_pos trivial, if_pos (by omega), if_pos (by rw [mk_size]; omega)]]
        rw [hb, wrap64_id (n := (n : Int) * 10) (by omega) (by omega), wrap64_id (by omega) (by omega), wrap64_id (by omega) (by omega)]
        congr 1
        · omega
        · simp
      rw [hstep, ih (t ++ [c]) _ (k + 1) (by rw [← hl]; simp) (by omega) (by omega), scan, if_pos hd]
      simp
    · have hstep : addr_number.l500 (k + 3) (mk l) (most : Int) (e : Int) (n : Int) (t.length : Int) = addr_number.j1 (k + 2) (mk l) (most : Int) (e : Int) (n : Int) (t.length : Int) false := by
        simp only [addr_number.l500]
        rw [if_pos (by rw [mk_size]; omega), if_pos (by omega), hb]
        by_cases h1 : 48 ≤ c.toNat
        · rw [if_pos (by omega)]
          by_cases h2 : c.toNat ≤ 57
          · rw [if_pos (by omega), decide_eq_false (by omega)]
          · rw [if_neg (by omega)]
        · rw [if_neg (by omega)]
      rw [hstep, number_j1 k l most e he hm t (c :: r) n hl hlen hn, scan, if_neg hd, List.append_nil]
theorem number_eq (k : Nat) (l : List UInt8) (most e : Nat) (he : e < 256) (hm : most ≤ 65535) (hlen : l.length < 1000000000000000000) (hk : 2 * l.length + 4 ≤ k) :
    addr_number.f k (mk l) (most : Int) (e : Int) = some (up (numR most e l)) := by
  have := number_l l most e he hm hlen l [] 0 k rfl (by omega) hk
  unfold addr_number.f
  rw [numR_fin]
  exact this

/-! ## what is read -/
theorem numR_true {most e : Nat} {l : List UInt8} (h : (numR most e l).2.2 = true) :
    (numR most e l).1 ≤ most ∧ (e ≠ 0 → ∃ c : UInt8, c.toNat = e ∧ l = dd (numR most e l).1 ++ c :: (numR most e l).2.1) ∧ (e = 0 → l = dd (numR most e l).1) := by
  rw [numR_fin] at h ⊢
  have hs := scan_split most l 0
  generalize (scan most 0 l).1 = n at *
  generalize (scan most 0 l).2.1 = t at *
  generalize (scan most 0 l).2.2 = r at *
  unfold fin at h ⊢
  split at h
  · cases h
  · rename_i h1
    rw [if_neg h1]
    have h2 : dd n = t := Classical.byContradiction fun h3 => h1 (.inr (.inr h3))
    have h3 : n ≤ most := by
      rcases Nat.lt_or_ge most n with h | h
      · exact absurd (.inl h) h1
      · exact h
    by_cases h0 : e = 0
    · rw [if_pos h0] at h ⊢
      refine ⟨h3, fun h => absurd h0 h, fun _ => ?_⟩
      have : r = [] := of_decide_eq_true h
      rw [← hs, this, List.append_nil]
      exact h2.symm
    · rw [if_neg h0] at h ⊢
      cases r with
      | nil => cases h
      | cons c q =>
        rw [tl] at h ⊢
        by_cases hc : c.toNat = e
        · rw [if_pos hc]
          exact ⟨h3, fun _ => ⟨c, hc, by rw [← hs, h2]⟩, fun h => absurd h h0⟩
        · rw [if_neg hc] at h
          cases h
theorem numR_len (most e : Nat) (l : List UInt8) : (numR most e l).2.1.length ≤ l.length := by
  rw [numR_fin]
  have hs := scan_split most l 0
  generalize (scan most 0 l).1 = n at *
  generalize (scan most 0 l).2.1 = t at *
  generalize (scan most 0 l).2.2 = r at *
  subst hs
  unfold fin
  rw [List.length_append]
  split
  · simp
  · split
    · show r.length ≤ _
      omega
    · cases r with
      | nil => simp [tl]
      | cons c q =>
        rw [tl]
        split
        · simp only [List.length_cons]
          omega
        · simp
theorem numR_dd {most e n : Nat} (c : UInt8) (l : List UInt8) (hn : n ≤ most) (he : c.toNat = e) (h : e < 48 ∨ 57 < e) (h0 : e ≠ 0) : numR most e (dd n ++ c :: l) = (n, l, true) := by
  rw [numR_fin, scan_dd most n (c :: l) (by omega), scan_stop most n c l (by omega)]
  unfold fin
  have hp := dd_pos n
  rw [if_neg, if_neg h0]
  · show tl e n (c :: l) = _
    rw [tl, if_pos he]
  · rintro (h | h | h)
    · exact absurd (show most < n from h) (by omega)
    · have : (dd n ++ []).length = 0 := congrArg List.length h
      rw [List.append_nil] at this
      omega
    · exact h (List.append_nil _).symm
theorem numR_end {most n : Nat} (hn : n ≤ most) : numR most 0 (dd n) = (n, [], true) := by
  have h1 := scan_dd most n [] (by omega)
  rw [List.append_nil] at h1
  rw [numR_fin, h1]
  unfold fin
  have hp := dd_pos n
  rw [if_neg, if_pos rfl]
  · rfl
  · rintro (h | h | h)
    · exact absurd (show most < n from h) (by omega)
    · have : (dd n ++ []).length = 0 := congrArg List.length h
      rw [List.append_nil] at this
      omega
    · exact h (List.append_nil _).symm
def readR (l : List UInt8) : Nat × Nat × Bool :=
  if (numR 255 46 l).2.2 = false then (0, 0, false) else
  if (numR 255 46 (numR 255 46 l).2.1).2.2 = false then (0, 0, false) else
  if (numR 255 46 (numR 255 46 (numR 255 46 l).2.1).2.1).2.2 = false then (0, 0, false) else
  if (numR 255 58 (numR 255 46 (numR 255 46 (numR 255 46 l).2.1).2.1).2.1).2.2 = false then (0, 0, false) else
  if (numR 65535 0 (numR 255 58 (numR 255 46 (numR 255 46 (numR 255 46 l).2.1).2.1).2.1).2.1).2.2 = false then (0, 0, false) else
  ((((numR 255 46 l).1 * 256 + (numR 255 46 (numR 255 46 l).2.1).1) * 256 + (numR 255 46 (numR 255 46 (numR 255 46 l).2.1).2.1).1) * 256 + (numR 255 58 (numR 255 46 (numR 255 46 (numR 255 46 l).2.1).2.1).2.1).1,
    (numR 65535 0 (numR 255 58 (numR 255 46 (numR 255 46 (numR 255 46 l).2.1).2.1).2.1).2.1).1, true)
theorem or8 (x n : Nat) (hx : x < 16777216) (hn : n < 256) : Go.bits .or .u32 (((x : Int) * 256) % 4294967296) (((n : Int)) % 4294967296) = ((x * 256 + n : Nat) : Int) := by
  rw [show ((x : Int) * 256) % 4294967296 = ((x * 256 : Nat) : Int) by omega, show (n : Int) % 4294967296 = (n : Int) by omega, u32_or_nat _ _ (by omega) (by omega), nat_join 8 (x * 256) n (by omega) (by omega)]
def upR (x : Nat × Nat × Bool) : Int × Int × Bool := ((x.1 : Int), (x.2.1 : Int), x.2.2)
theorem read_eq (k : Nat) (l : List UInt8) (hlen : l.length < 1000000000000000000) (hk : 2 * l.length + 20 ≤ k) : addr_Read.f k (mk l) = some (upR (readR l)) := by
  obtain ⟨k, rfl⟩ : ∃ m, k = m + 5 := ⟨k - 5, by omega⟩
  have g1 := numR_len 255 46 l
  have g2 := numR_len 255 46 (numR 255 46 l).2.1
  have g3 := numR_len 255 46 (numR 255 46 (numR 255 46 l).2.1).2.1
  have g4 := numR_len 255 58 (numR 255 46 (numR 255 46 (numR 255 46 l).2.1).2.1).2.1
  have n1 := numR_true (most := 255) (e := 46) (l := l)
  have n2 := numR_true (most := 255) (e := 46) (l := (numR 255 46 l).2.1)
  have n3 := numR_true (most := 255) (e := 46) (l := (numR 255 46 (numR 255 46 l).2.1).2.1)
  have n4 := numR_true (most := 255) (e := 58) (l := (numR 255 46 (numR 255 46 (numR 255 46 l).2.1).2.1).2.1)
  have n5 := numR_true (most := 65535) (e := 0) (l := (numR 255 58 (numR 255 46 (numR 255 46 (numR 255 46 l).2.1).2.1).2.1).2.1)
  have q1 := number_eq (k + 4) l 255 46 (by omega) (by omega) hlen (by omega)
  have q2 := number_eq (k + 3) (numR 255 46 l).2.1 255 46 (by omega) (by omega) (by omega) (by omega)
  have q3 := number_eq (k + 2) (numR 255 46 (numR 255 46 l).2.1).2.1 255 46 (by omega) (by omega) (by omega) (by omega)
  have q4 := number_eq (k + 1) (numR 255 46 (numR 255 46 (numR 255 46 l).2.1).2.1).2.1 255 58 (by omega) (by omega) (by omega) (by omega)
  have q5 := number_eq k (numR 255 58 (numR 255 46 (numR 255 46 (numR 255 46 l).2.1).2.1).2.1).2.1 65535 0 (by omega) (by omega) (by omega) (by omega)
  unfold readR
  generalize numR 65535 0 (numR 255 58 (numR 255 46 (numR 255 46 (numR 255 46 l).2.1).2.1).2.1).2.1 = x5 at *
  generalize numR 255 58 (numR 255 46 (numR 255 46 (numR 255 46 l).2.1).2.1).2.1 = x4 at *
  generalize numR 255 46 (numR 255 46 (numR 255 46 l).2.1).2.1 = x3 at *
  generalize numR 255 46 (numR 255 46 l).2.1 = x2 at *
  generalize numR 255 46 l = x1 at *
  obtain ⟨v1, r1, b1⟩ := x1
  obtain ⟨v2, r2, b2⟩ := x2
  obtain ⟨v3, r3, b3⟩ := x3
  obtain ⟨v4, r4, b4⟩ := x4
  obtain ⟨v5, r5, b5⟩ := x5
  unfold addr_Read.f
  simp only [addr_Read.l0, show wrap64 (0 + 1) = 1 by decide +kernel]
  rw [if_pos (show (0 : Int) < 4 by decide), if_neg (show ¬ (0 : Int) = 3 by decide), show addr_number.f (k + 4) (mk l) 255 46 = _ from q1, Option.bind_some]
  cases b1 with
  | false => rfl
  | true =>
    replace n1 := (n1 rfl).1
    simp only [up, if_true, Bool.true_eq_false, if_false]
    rw [if_pos (show (1 : Int) < 4 by decide), if_neg (show ¬ (1 : Int) = 3 by decide), show addr_number.f (k + 3) (mk r1) 255 46 = _ from q2, Option.bind_some, show (0 : Int) * 256 % 4294967296 = ((0 : Nat) : Int) * 256 % 4294967296 from rfl, or8 0 v1 (by omega) (by omega)]
    cases b2 with
    | false => rfl
    | true =>
      replace n2 := (n2 rfl).1
      simp only [up, if_true, Bool.true_eq_false, if_false]
      rw [show wrap64 (1 + 1) = 2 by decide +kernel, if_pos (show (2 : Int) < 4 by decide), if_neg (show ¬ (2 : Int) = 3 by decide), show addr_number.f (k + 2) (mk r2) 255 46 = _ from q3, Option.bind_some, or8 _ v2 (by omega) (by omega)]
      cases b3 with
      | false => rfl
      | true =>
        replace n3 := (n3 rfl).1
        simp only [up, if_true, Bool.true_eq_false, if_false]
        rw [show wrap64 (2 + 1) = 3 by decide +kernel, if_pos (show (3 : Int) < 4 by decide), if_pos (show (3 : Int) = 3 from rfl), show addr_number.f (k + 1) (mk r3) 255 58 = _ from q4, Option.bind_some, or8 _ v3 (by omega) (by omega)]
        cases b4 with
        | false => rfl
        | true =>
          replace n4 := (n4 rfl).1
          simp only [up, if_true, Bool.true_eq_false, if_false]
          rw [show wrap64 (3 + 1) = 4 by decide +kernel, if_neg (show ¬ (4 : Int) < 4 by decide), show addr_number.f k (mk r4) 65535 0 = _ from q5, Option.bind_some, or8 _ v4 (by omega) (by omega)]
          cases b5 with
          | false => rfl
          | true =>
            replace n5 := (n5 rfl).1
            simp only [up, if_true, Bool.true_eq_false, if_false]
            rw [show IntKind.u16.wrap (v5 : Int) = (v5 : Int) by simp [IntKind.wrap, IntKind.bits, IntKind.signed]; omega]
            simp [upR]
theorem readR_txt (a p : Nat) (ha : a < 4294967296) (hp : p < 65536) : readR (txt a p) = (a, p, true) := by
  have e1 : numR 255 46 (txt a p) = _ := numR_dd (n := a / 16777216) 46 _ (by omega) rfl (by decide) (by decide)
  unfold readR
  rw [e1]
  rw [numR_dd (most := 255) (e := 46) (n := a / 65536 % 256) 46 _ (by omega) rfl (by decide) (by decide)]
  rw [numR_dd (most := 255) (e := 46) (n := a / 256 % 256) 46 _ (by omega) rfl (by decide) (by decide)]
  rw [numR_dd (most := 255) (e := 58) (n := a % 256) 58 _ (by omega) rfl (by decide) (by decide)]
  rw [numR_end (most := 65535) (n := p) (by omega)]
  simp only [Bool.true_eq_false, if_false]
  congr 1
  show ((a / 16777216 * 256 + a / 65536 % 256) * 256 + a / 256 % 256) * 256 + a % 256 = a
  omega
theorem readR_false {l : List UInt8} (h : (readR l).2.2 = false) : readR l = (0, 0, false) := by
  unfold readR at h ⊢
  repeat' split
  all_goals first | rfl | skip
  rename_i h1 h2 h3 h4 h5
  rw [if_neg h1, if_neg h2, if_neg h3, if_neg h4, if_neg h5] at h
  cases h
theorem char_of {c : UInt8} {n : Nat} (h : c.toNat = n) (d : UInt8) (hd : d.toNat = n) : c = d := UInt8.toNat_inj.1 (h.trans hd.symm)
theorem readR_true {l : List UInt8} (h : (readR l).2.2 = true) : l = txt (readR l).1 (readR l).2.1 ∧ (readR l).1 < 4294967296 ∧ (readR l).2.1 < 65536 := by
  unfold readR at h ⊢
  by_cases h1 : (numR 255 46 l).2.2 = false
  · rw [if_pos h1] at h; cases h
  rw [if_neg h1] at h ⊢
  by_cases h2 : (numR 255 46 (numR 255 46 l).2.1).2.2 = false
  · rw [if_pos h2] at h; cases h
  rw [if_neg h2] at h ⊢
  by_cases h3 : (numR 255 46 (numR 255 46 (numR 255 46 l).2.1).2.1).2.2 = false
  · rw [if_pos h3] at h; cases h
  rw [if_neg h3] at h ⊢
  by_cases h4 : (numR 255 58 (numR 255 46 (numR 255 46 (numR 255 46 l).2.1).2.1).2.1).2.2 = false
  · rw [if_pos h4] at h; cases h
  rw [if_neg h4] at h ⊢
  by_cases h5 : (numR 65535 0 (numR 255 58 (numR 255 46 (numR 255 46 (numR 255 46 l).2.1).2.1).2.1).2.1).2.2 = false
  · rw [if_pos h5] at h; cases h
  rw [if_neg h5]
  obtain ⟨m1, e1, -⟩ := numR_true (Bool.not_eq_false _ ▸ h1)
  obtain ⟨m2, e2, -⟩ := numR_true (Bool.not_eq_false _ ▸ h2)
  obtain ⟨m3, e3, -⟩ := numR_true (Bool.not_eq_false _ ▸ h3)
  obtain ⟨m4, e4, -⟩ := numR_true (Bool.not_eq_false _ ▸ h4)
  obtain ⟨m5, -, e5⟩ := numR_true (Bool.not_eq_false _ ▸ h5)
  obtain ⟨c1, k1, e1⟩ := e1 (by decide)
  obtain ⟨c2, k2, e2⟩ := e2 (by decide)
  obtain ⟨c3, k3, e3⟩ := e3 (by decide)
  obtain ⟨c4, k4, e4⟩ := e4 (by decide)
  replace e5 := e5 rfl
  obtain rfl := char_of k1 46 rfl
  obtain rfl := char_of k2 46 rfl
  obtain rfl := char_of k3 46 rfl
  obtain rfl := char_of k4 58 rfl
  generalize numR 65535 0 (numR 255 58 (numR 255 46 (numR 255 46 (numR 255 46 l).2.1).2.1).2.1).2.1 = x5 at *
  generalize numR 255 58 (numR 255 46 (numR 255 46 (numR 255 46 l).2.1).2.1).2.1 = x4 at *
  generalize numR 255 46 (numR 255 46 (numR 255 46 l).2.1).2.1 = x3 at *
  generalize numR 255 46 (numR 255 46 l).2.1 = x2 at *
  generalize numR 255 46 l = x1 at *
  obtain ⟨v1, r1, b1⟩ := x1
  obtain ⟨v2, r2, b2⟩ := x2
  obtain ⟨v3, r3, b3⟩ := x3
  obtain ⟨v4, r4, b4⟩ := x4
  obtain ⟨v5, r5, b5⟩ := x5
  simp only at e1 e2 e3 e4 e5 m1 m2 m3 m4 m5 ⊢
  refine ⟨?_, by omega, by omega⟩
  rw [e1, e2, e3, e4, e5]
  unfold txt
  rw [show (((v1 * 256 + v2) * 256 + v3) * 256 + v4) / 16777216 = v1 by omega, show (((v1 * 256 + v2) * 256 + v3) * 256 + v4) / 65536 % 256 = v2 by omega, show (((v1 * 256 + v2) * 256 + v3) * 256 + v4) / 256 % 256 = v3 by omega, show (((v1 * 256 + v2) * 256 + v3) * 256 + v4) % 256 = v4 by omega]
/-- What is no address' text is none. -/
theorem readR_no {l : List UInt8} (h : ∀ a p, a < 4294967296 → p < 65536 → l ≠ txt a p) : readR l = (0, 0, false) := by
  cases hb : (readR l).2.2 with
  | false => exact readR_false hb
  | true =>
    obtain ⟨e, h1, h2⟩ := readR_true hb
    exact absurd e (h _ _ h1 h2)
theorem dd_count (n : Nat) (c : UInt8) (h : c.toNat < 48 ∨ 57 < c.toNat) : (dd n).count c = 0 := by
  rw [List.count_eq_zero]
  intro hc
  have := dd_digits n c hc
  omega
theorem txt_count (a p : Nat) : (txt a p).count 46 = 3 ∧ (txt a p).count 58 = 1 ∧ (txt a p).count 32 = 0 := by
  have h46 : ∀ n, (dd n).count 46 = 0 := fun n => dd_count n 46 (by decide)
  have h58 : ∀ n, (dd n).count 58 = 0 := fun n => dd_count n 58 (by decide)
  have h32 : ∀ n, (dd n).count 32 = 0 := fun n => dd_count n 32 (by decide)
  simp only [txt, List.count_append, List.count_cons, h46, h58, h32]
  decide
end Go.Proofs.YtjlpfmiipicnoaaDoor.MT
