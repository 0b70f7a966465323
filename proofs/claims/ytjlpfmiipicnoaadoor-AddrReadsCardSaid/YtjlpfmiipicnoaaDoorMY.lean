/- The document's answer to chapter 3: what it reads. -/
import Derived.Test.YtjlpfmiipicnoaaDoorMX
namespace Go.Proofs.YtjlpfmiipicnoaaDoor.MY
set_option linter.unusedVariables false
open Go Go.RowKit Go.Proofs.YtjlpfmiipicnoaaDoor.PA Go.Proofs.YtjlpfmiipicnoaaDoor.MP Go.Proofs.YtjlpfmiipicnoaaDoor.MA Go.Proofs.YtjlpfmiipicnoaaDoor.MT Go.Proofs.YtjlpfmiipicnoaaDoor.MX Go.Proofs.YtjlpfmiipicnoaaDoorW.PrintWords Go.Proofs.YtjlpfmiipicnoaaDoorW.PrintLast Go.Proofs.YtjlpfmiipicnoaaDoorW.PrintMore

/-- One byte more, of the parts. -/
def stp (ps : List Int) (c : UInt8) : List Int :=
  if (c.toNat : Int) = 46 then ps ++ [0] else if (c.toNat : Int) = 58 then ps ++ [0] else
    ps.set (ps.length - 1) (IntKind.u64.wrap (IntKind.u64.wrap (rd ps ((ps.length - 1 : Nat) : Int) * 10) + Int.tmod (IntKind.u64.wrap (c.toNat : Int)) 16))
def parts (l : List UInt8) : List Int := l.foldl stp [0]
theorem stp_len (ps : List Int) (c : UInt8) : (stp ps c).length ≤ ps.length + 1 ∧ ps.length ≤ (stp ps c).length := by
  unfold stp
  split
  · simp
  · split
    · simp
    · rw [List.length_set]; omega
theorem parts_snoc (l : List UInt8) (c : UInt8) : parts (l ++ [c]) = stp (parts l) c := by simp [parts]
theorem parts_len (l : List UInt8) : 1 ≤ (parts l).length ∧ (parts l).length ≤ l.length + 1 := by
  have key : ∀ (n : Nat) (l : List UInt8), l.length = n → 1 ≤ (parts l).length ∧ (parts l).length ≤ n + 1 := by
    intro n
    induction n with
    | zero => intro l h; obtain rfl := List.eq_nil_of_length_eq_zero h; decide
    | succ n ih =>
      intro l h
      obtain ⟨r, c, rfl⟩ : ∃ r c, l = r ++ [c] := ⟨l.dropLast, l.getLast (by intro e; rw [e] at h; cases h), (List.dropLast_concat_getLast _).symm⟩
      have h1 := ih r (by simpa using h)
      have h2 := stp_len (parts r) c
      rw [parts_snoc]
      omega
  exact key _ l rfl
/-- Digits behind a part that is 0. -/
theorem fold_dd (q : List Int) : ∀ n, n < 1000000000000000000 → (dd n).foldl stp (q ++ [0]) = q ++ [(n : Int)] := by
  intro n
  induction n using Nat.strongRecOn with
  | _ n ih =>
    intro hn
    have hdig : ∀ (x d : Nat), x < 100000000000000000 → d < 10 → stp (q ++ [(x : Int)]) (UInt8.ofNat (48 + d)) = q ++ [((x * 10 + d : Nat) : Int)] := by
      intro x d hx hd
      unfold stp
      rw [dig_toNat hd, if_neg (by omega), if_neg (by omega)]
      have hl : (q ++ [(x : Int)]).length - 1 = q.length := by simp
      have hr : rd (q ++ [(x : Int)]) ((q.length : Nat) : Int) = (x : Int) := by simp [rd, List.getD]
      rw [hl, hr, wrap_u64, wrap_u64, wrap_u64, Int.tmod_eq_emod_of_nonneg (by omega), List.set_append_right (h := Nat.le_refl _), Nat.sub_self]
      simp only [List.set_cons_zero]
      congr 2
      omega
    by_cases h : n < 10
    · rw [dd_small h]
      have := hdig 0 n (by omega) h
      simpa using this
    · rw [dd_big h, List.foldl_append, ih (n / 10) (by omega) (by omega)]
      have := hdig (n / 10) (n % 10) (by omega) (by omega)
      rw [show n / 10 * 10 + n % 10 = n by omega] at this
      simpa using this
theorem parts_txt (a p : Nat) (ha : a < 4294967296) (hp : p < 65536) : parts (txt a p) = [((a / 16777216 : Nat) : Int), ((a / 65536 % 256 : Nat) : Int), ((a / 256 % 256 : Nat) : Int), ((a % 256 : Nat) : Int), (p : Int)] := by
  have sep : ∀ (ps : List Int) (c : UInt8), c = 46 ∨ c = 58 → stp ps c = ps ++ [0] := by
    intro ps c h
    rcases h with rfl | rfl
    · rfl
    · rfl
  unfold parts txt
  have h0 := fold_dd [] (a / 16777216) (by omega)
  rw [List.nil_append, List.nil_append] at h0
  rw [List.foldl_append, h0, List.foldl_cons, sep _ _ (.inl rfl), List.foldl_append, fold_dd _ _ (by omega), List.foldl_cons, sep _ _ (.inl rfl), List.foldl_append, fold_dd _ _ (by omega), List.foldl_cons, sep _ _ (.inl rfl), List.foldl_append, fold_dd _ _ (by omega), List.foldl_cons, sep _ _ (.inr rfl), fold_dd _ _ (by omega)]
  rfl
theorem read_l (s : ByteArray) (hs : s.size ≤ 21) : ∀ (d k i : Nat), s.size - i = d → i ≤ s.size → d + 30 < k → ref03_Read.l0 k s (parts (s.data.toList.take i)) (i : Int) = some (upR (readR s.data.toList)) := by
  intro d
  have hl : s.data.toList.length = s.size := (size_data s).symm
  induction d with
  | zero =>
    intro k i hd hi hk
    obtain ⟨k, rfl⟩ : ∃ m, k = m + 1 := ⟨k - 1, by omega⟩
    obtain rfl : i = s.size := by omega
    rw [List.take_of_length_le (by omega)]
    simp only [ref03_Read.l0]
    rw [if_neg (by omega)]
    by_cases h5 : (parts s.data.toList).length = 5
    · rw [if_pos (by omega), if_pos (by omega), if_pos (by omega), if_pos (by omega), if_pos (by omega), if_pos (by omega)]
      generalize hx : (IntKind.u64.wrap ((IntKind.u64.wrap ((IntKind.u64.wrap ((IntKind.u64.wrap ((rd (parts s.data.toList) 0) * 16777216)) + (IntKind.u64.wrap ((rd (parts s.data.toList) 1) * 65536)))) + (IntKind.u64.wrap ((rd (parts s.data.toList) 2) * 256)))) + (rd (parts s.data.toList) 3))) % 4294967296 = x
      generalize hy : IntKind.u16.wrap (rd (parts s.data.toList) 4) = y
      have hx0 : 0 ≤ x ∧ x < 4294967296 := by rw [← hx]; omega
      have hy0 : 0 ≤ y ∧ y < 65536 := by rw [← hy, IntKind.wrap_u16]; omega
      obtain ⟨a, rfl⟩ := Int.eq_ofNat_of_zero_le hx0.1
      obtain ⟨p, rfl⟩ := Int.eq_ofNat_of_zero_le hy0.1
      rw [text_ref k a p (by omega) (by omega) (by omega), Option.bind_some]
      by_cases he : (T a p).toList = s.toList
      · rw [if_pos he]
        rw [toList_data, toList_data, T_data] at he
        rw [← he, readR_txt a p (by omega) (by omega)]
        rfl
      · rw [if_neg he, readR_no]
        · rfl
        · intro b q hb hq e
          apply he
          rw [e, parts_txt b q hb hq] at hx hy
          have hb' : ((a : Nat) : Int) = (b : Int) := by
            rw [← hx]
            simp only [wrap_u64]
            show (((((((b / 16777216 : Nat) : Int) * 16777216) % 18446744073709551616 + (((b / 65536 % 256 : Nat) : Int) * 65536) % 18446744073709551616) % 18446744073709551616 + (((b / 256 % 256 : Nat) : Int) * 256) % 18446744073709551616) % 18446744073709551616 + ((b % 256 : Nat) : Int)) % 18446744073709551616) % 4294967296 = (b : Int)
            omega
          have hq' : ((p : Nat) : Int) = (q : Int) := by
            rw [← hy, IntKind.wrap_u16]
            show ((q : Nat) : Int) % 65536 = (q : Int)
            omega
          rw [toList_data, toList_data, T_data, e, show a = b by omega, show p = q by omega]
    · rw [if_neg (by omega), readR_no]
      · rfl
      · intro b q hb hq e
        rw [e, parts_txt b q hb hq] at h5
        exact h5 rfl
  | succ d ih =>
    intro k i hd hi hk
    obtain ⟨k, rfl⟩ : ∃ m, k = m + 1 := ⟨k - 1, by omega⟩
    have hlt : i < s.data.toList.length := by omega
    have hpl := parts_len (s.data.toList.take i)
    have htl : (s.data.toList.take i).length = i := by rw [List.length_take]; omega
    have hnext : parts (s.data.toList.take (i + 1)) = stp (parts (s.data.toList.take i)) s.data.toList[i] := by rw [List.take_succ_eq_append_getElem hlt, parts_snoc]
    have hrec := ih k (i + 1) (by omega) (by omega) (by omega)
    rw [hnext] at hrec
    simp only [ref03_Read.l0]
    rw [if_pos (by omega), if_pos (by omega), bt_data _ _ hlt, wrap64_id (by omega) (by omega), show ((i : Int) + 1) = ((i + 1 : Nat) : Int) by omega]
    generalize s.data.toList[i] = c at hrec ⊢
    generalize parts (s.data.toList.take i) = ps at hrec hpl ⊢
    unfold stp at hrec
    by_cases h46 : (c.toNat : Int) = 46
    · rw [if_pos h46] at hrec ⊢
      rw [if_pos (by omega)]
      exact hrec
    · rw [if_neg h46] at hrec ⊢
      by_cases h58 : (c.toNat : Int) = 58
      · rw [if_pos h58] at hrec ⊢
        rw [if_pos (by omega)]
        exact hrec
      · rw [if_neg h58] at hrec ⊢
        have hm : wrap64 ((ps.length : Int) - 1) = ((ps.length - 1 : Nat) : Int) := by rw [wrap64_id (by omega) (by omega)]; omega
        rw [hm, if_pos (by omega), if_pos (by omega), Int.toNat_natCast]
        exact hrec
theorem read_ref (k : Nat) (s : ByteArray) (hk : 60 ≤ k) : ref03_Read.f k s = some (upR (readR s.data.toList)) := by
  unfold ref03_Read.f
  by_cases h : (s.size : Int) > 21
  · rw [if_pos h, readR_no]
    · rfl
    · intro a p ha hp e
      have := (txt_len a p ha hp).1
      rw [← e, ← size_data] at this
      omega
  · rw [if_neg h]
    exact read_l s (by omega) s.size k 0 (by omega) (by omega) (by omega)
end Go.Proofs.YtjlpfmiipicnoaaDoor.MY
