/- PackPlays: for every reader, deeds, number, size and text the law answers true: any reader reads numbers and texts, deed by deed, as the document's does, and any number and text is put so. No condition. -/
import Derived.Test.YtanjoflhpnephaaMA
namespace Go.Proofs.Ytanjoflhpnephaa.Pure
open Go Go.RowKit Go.Proofs.Ytanjoflhpnephaa.PA Go.Proofs.Ytanjoflhpnephaa.MA Go.Proofs.YtanjoflhpnephaaW.PrintWords Go.Proofs.YtanjoflhpnephaaW.PrintLast Go.Proofs.YtanjoflhpnephaaW.PrintMore

/-! ## reading -/
theorem ref_l0 (s : ByteArray) (m : Nat) (hs : m ≤ s.size) (hm : m ≤ 8) : ∀ (d k i : Nat), m - i = d → i ≤ m → d < k →
    scuttlebuttref02_Reader_Number.l0 k (m : Int) ((val (s.data.toList.take i) : Nat) : Int) (i : Int) s false = some (((val (s.data.toList.take m) : Nat) : Int), s.extract m s.size, false) := by
  intro d
  have hl : s.data.toList.length = s.size := (size_data s).symm
  induction d with
  | zero =>
    intro k i hd hi hk
    obtain ⟨k, rfl⟩ : ∃ m, k = m + 1 := ⟨k - 1, by omega⟩
    obtain rfl : i = m := by omega
    simp only [scuttlebuttref02_Reader_Number.l0]
    rw [if_neg (by omega), if_pos (by omega), if_pos (by omega), Int.toNat_natCast]
  | succ d ih =>
    intro k i hd hi hk
    obtain ⟨k, rfl⟩ : ∃ m, k = m + 1 := ⟨k - 1, by omega⟩
    have hlt : i < s.data.toList.length := by omega
    have hv := val_lt (s.data.toList.take i)
    rw [List.length_take, Nat.min_eq_left (by omega)] at hv
    have hp : 256 ^ i ≤ 256 ^ 7 := Nat.pow_le_pow_right (by omega) (by omega)
    have hstep : ((val (s.data.toList.take i) * 256 + (s.data.toList[i]).toNat : Nat) : Int) = ((val (s.data.toList.take (i + 1)) : Nat) : Int) := by rw [List.take_succ_eq_append_getElem hlt, val_snoc]
    simp only [scuttlebuttref02_Reader_Number.l0]
    rw [if_pos (by omega), if_pos (by omega), if_pos (by omega), bt_data _ _ hlt, or_byte _ _ (by omega) (s.data.toList[i]).toNat_lt, wrap64_id (by omega) (by omega), show ((i : Int) + 1) = ((i + 1 : Nat) : Int) by omega, hstep]
    exact ih k (i + 1) (by omega) (by omega) (by omega)

theorem read_number (k : Nat) (s : ByteArray) (b : Bool) (n : Int) (hk : 13 ≤ k) :
    ∃ (x : Nat) (u : ByteArray) (c : Bool), pack_Reader_Number.f k s b n = some ((x : Int), u, c) ∧ scuttlebuttref02_Reader_Number.f k s b n = some ((x : Int), u, c) ∧ x < 256 ^ n.toNat := by
  obtain ⟨k, rfl⟩ : ∃ m, k = m + 1 := ⟨k - 1, by omega⟩
  have hj : ∀ b, scuttlebuttref02_Reader_Number.j0 (k + 1) n true s b = some (0, ⟨#[]⟩, true) := fun _ => rfl
  have hp : 0 < 256 ^ n.toNat := Nat.pow_pos (by decide)
  unfold scuttlebuttref02_Reader_Number.f
  cases b with
  | true =>
    rw [if_pos rfl, hj]
    exact ⟨0, _, _, bad_number _ s n (by omega), rfl, hp⟩
  | false =>
    rw [if_neg (by decide), hj]
    by_cases h1 : n < 1
    · rw [if_pos h1]
      exact ⟨0, _, _, no_number _ s false n (Or.inl h1) (by omega), rfl, hp⟩
    · rw [if_neg h1]
      by_cases h8 : n > 8
      · rw [if_pos h8]
        exact ⟨0, _, _, no_number _ s false n (Or.inr h8) (by omega), rfl, hp⟩
      · rw [if_neg h8]
        obtain ⟨m, rfl⟩ := Int.eq_ofNat_of_zero_le (show 0 ≤ n by omega)
        by_cases hs : s.size < m
        · rw [decide_eq_true (by omega), hj]
          exact ⟨0, _, _, short_number _ s m (by omega) (by omega) hs (by omega), rfl, hp⟩
        · rw [decide_eq_false (by omega)]
          refine ⟨val (s.data.toList.take m), s.extract m s.size, false, some_number _ s m (by omega) (by omega) (by omega) (by omega), ?_, ?_⟩
          · simp only [scuttlebuttref02_Reader_Number.j0]
            rw [if_neg (by decide)]
            exact ref_l0 s m (by omega) (by omega) m k 0 (by omega) (by omega) (by omega)
          · have h := val_lt (s.data.toList.take m)
            rw [List.length_take, ← size_data, Nat.min_eq_left (by omega)] at h
            rw [Int.toNat_natCast]
            exact h

theorem read_text (k : Nat) (s : ByteArray) (b : Bool) (hk : 13 ≤ k) :
    ∃ (x u : ByteArray) (c : Bool), pack_Reader_Text.f k s b = some (x, u, c) ∧ scuttlebuttref02_Reader_Text.f k s b = some (x, u, c) := by
  unfold pack_Reader_Text.f scuttlebuttref02_Reader_Text.f
  obtain ⟨x, u, c, e1, e2, hx⟩ := read_number k s b 1 hk
  rw [e1, e2, Option.bind_some, Option.bind_some]
  dsimp only
  have hx' : x < 256 := hx
  rw [wrap64_id (by omega) (by omega)]
  cases c with
  | true =>
    rw [if_pos rfl, bad_bytes]
    exact ⟨_, _, _, rfl, rfl⟩
  | false =>
    rw [if_neg (by decide)]
    by_cases h : (u.size : Int) < (x : Int)
    · rw [if_pos h, short_bytes u _ h]
      exact ⟨_, _, _, rfl, rfl⟩
    · rw [if_neg h, if_pos (by omega), if_pos (by omega), some_bytes u x (by omega), Int.toNat_natCast]
      exact ⟨_, _, _, rfl, rfl⟩

theorem read_done (s : ByteArray) (b : Bool) : ∃ d, pack_Reader_Done.f s b = some d ∧ scuttlebuttref02_Reader_Done.f s b = some d := by
  unfold pack_Reader_Done.f scuttlebuttref02_Reader_Done.f
  by_cases h : s.toList = ([] : List UInt8)
  · rw [if_pos h, h]
    cases b <;> exact ⟨_, rfl, rfl⟩
  · rw [if_neg h]
    cases b
    · refine ⟨_, rfl, ?_⟩
      rw [beq_eq_false_iff_ne.2 h]
    · exact ⟨_, rfl, rfl⟩

/-! ## putting -/
theorem put_text (s : ByteArray) (hs : s.size ≤ 9223372036854775000) : ∃ t ok, pack_Text.f s = some (t, ok) ∧ scuttlebuttref02_Text.f s = some (t, ok) := by
  unfold pack_Text.f scuttlebuttref02_Text.f
  by_cases h : (s.size : Int) > 255
  · rw [if_pos h]
    exact ⟨_, _, rfl, rfl⟩
  · rw [if_neg h, Option.bind_some]
    have hz : (strOfNums [(s.size : Int) % 256]).size + s.size ≤ 9223372036854775807 := by
      rw [strOfNums_size]
      simp only [List.length_cons, List.length_nil]
      omega
    rw [if_pos hz]
    exact ⟨_, _, rfl, rfl⟩

theorem put_shr (a : Int) (i : Nat) (hi : i < 8) : shr .u64 a (((8 * i : Nat) : Int)) = a / 2 ^ (8 * i) := by
  unfold shr
  rw [Int.toNat_natCast, Nat.min_eq_left (by simp [IntKind.bits]; omega)]

theorem put_l0 (a : Int) (m : Nat) (hm : m ≤ 8) : ∀ (d k : Nat) (l : List Int), d ≤ m → l = (List.range (m - d)).map (fun (k : Nat) => a / 2 ^ (8 * (m - 1 - k)) % 256) → d < k →
    scuttlebuttref02_Number.l0 k a l ((d : Int) - 1) = some (strOfNums (numB a m)) := by
  intro d
  induction d with
  | zero =>
    intro k l hd hl hk
    obtain ⟨k, rfl⟩ : ∃ m, k = m + 1 := ⟨k - 1, by omega⟩
    simp only [scuttlebuttref02_Number.l0]
    rw [if_neg (by omega), hl]
    rfl
  | succ d ih =>
    intro k l hd hl hk
    obtain ⟨k, rfl⟩ : ∃ m, k = m + 1 := ⟨k - 1, by omega⟩
    have e : wrap64 (8 * (((d + 1 : Nat) : Int) - 1)) = ((8 * d : Nat) : Int) := by rw [wrap64_id (by omega) (by omega)]; omega
    have hlen : l.length ≤ 8 := by rw [hl, List.length_map, List.length_range]; omega
    simp only [scuttlebuttref02_Number.l0]
    rw [if_pos (by omega), e, if_pos (by omega), if_pos (by omega), put_shr a d (by omega), wrap64_id (by omega) (by omega), show ((d + 1 : Nat) : Int) - 1 - 1 = (d : Int) - 1 by omega]
    refine ih k _ (by omega) ?_ (by omega)
    rw [hl, show m - d = (m - (d + 1)) + 1 by omega, List.range_succ, List.map_append]
    simp only [List.map_cons, List.map_nil]
    rw [show m - 1 - (m - (d + 1)) = d by omega]

theorem put_number (k : Nat) (a n : Int) (hk : 13 ≤ k) : ∃ t, pack_Number.f a n = some t ∧ scuttlebuttref02_Number.f k a n = some t := by
  obtain ⟨k, rfl⟩ : ∃ m, k = m + 1 := ⟨k - 1, by omega⟩
  have hj : scuttlebuttref02_Number.j0 (k + 1) a n true = some ⟨#[]⟩ := rfl
  unfold pack_Number.f scuttlebuttref02_Number.f
  by_cases h1 : n < 1
  · rw [if_pos h1, if_pos h1, hj]
    exact ⟨_, rfl, rfl⟩
  · rw [if_neg h1, if_neg h1]
    by_cases h8 : n > 8
    · rw [if_pos h8, decide_eq_true h8, hj]
      exact ⟨_, rfl, rfl⟩
    · rw [if_neg h8, decide_eq_false h8]
      refine ⟨_, rfl, ?_⟩
      obtain ⟨m, rfl⟩ := Int.eq_ofNat_of_zero_le (show 0 ≤ n by omega)
      simp only [scuttlebuttref02_Number.j0]
      rw [if_neg (by decide), wrap64_id (by omega) (by omega), Int.toNat_natCast]
      exact put_l0 a m (by omega) m k [] (Nat.le_refl _) (by rw [Nat.sub_self]; rfl) (by omega)

/-! ## the deeds -/
theorem plays_end (k : Nat) (l : List S30) (n sz : Int) (s : ByteArray) (lg i : Int) (R : ByteArray) (B : Bool) (hs : s.size ≤ 140737488351232) (hlg : 0 ≤ lg ∧ lg < 65536) (hk : 14 ≤ k) :
    scuttlebuttlaw02_PackPlays.j1 k l n sz s lg i false R B R B = some true := by
  obtain ⟨k, rfl⟩ : ∃ m, k = m + 1 := ⟨k - 1, by omega⟩
  simp only [scuttlebuttlaw02_PackPlays.j1]
  have e3 : wrap64 (Int.tmod lg 300) = lg % 300 := by rw [Int.tmod_eq_emod_of_nonneg hlg.1, wrap64_id (by omega) (by omega)]
  rw [if_neg (by decide), e3, if_pos (by omega), if_pos (by omega), Option.bind_some]
  have hz : (strOfNums (List.replicate (lg % 300).toNat 0)).size < 300 := by rw [strOfNums_size, List.length_replicate]; omega
  generalize strOfNums (List.replicate (lg % 300).toNat 0) = z at hz ⊢
  rw [if_pos (by omega)]
  have ht : (s ++ z).size ≤ 9223372036854775000 := by rw [ByteArray.size_append]; omega
  generalize s ++ z = t at ht ⊢
  obtain ⟨c, ok, e1, e2⟩ := put_text t ht
  obtain ⟨e, f1, f2⟩ := put_number k n sz (by omega)
  obtain ⟨f, g1, g2⟩ := put_number k n (Int.tmod sz 10) (by omega)
  obtain ⟨x, u, b, h1, h2, _⟩ := read_number k R false sz (by omega)
  rw [e1, Option.bind_some, e2, Option.bind_some, f1, Option.bind_some, g1, Option.bind_some]
  unfold pack_Read.f
  rw [Option.bind_some]
  dsimp only
  rw [h1, Option.bind_some, h2, Option.bind_some]
  unfold scuttlebuttlaw02_same.f
  dsimp only
  rw [if_pos rfl, Option.bind_some, if_pos rfl, if_pos (by simp), f2, Option.bind_some, if_pos rfl, g2, Option.bind_some, if_pos rfl]
  simp

theorem plays_j2 (k : Nat) (l : List S30) (n sz : Int) (s : ByteArray) (lg i : Int) (R : ByteArray) (B : Bool) (h : scuttlebuttlaw02_PackPlays.l0 k l n sz s lg (wrap64 (i + 1)) R B R B = some true) :
    scuttlebuttlaw02_PackPlays.j2 (k + 1) l n sz s lg i R B R B = some true := by
  simp only [scuttlebuttlaw02_PackPlays.j2]
  unfold scuttlebuttlaw02_same.f
  obtain ⟨d, e1, e2⟩ := read_done R B
  rw [if_pos rfl, Option.bind_some, if_pos (by simp), e1, Option.bind_some, e2, Option.bind_some, if_neg (by simp)]
  exact h

theorem plays_l (l : List S30) (n sz : Int) (s : ByteArray) (lg : Int) (hs : s.size ≤ 140737488351232) (hlg : 0 ≤ lg ∧ lg < 65536) : ∀ (d k i : Nat) (R : ByteArray) (B : Bool), 20 - i = d → i ≤ 20 → i ≤ l.length → 3 * d + 30 ≤ k →
    scuttlebuttlaw02_PackPlays.l0 k l n sz s lg (i : Int) R B R B = some true := by
  intro d
  induction d with
  | zero =>
    intro k i R B hd hi hl hk
    obtain ⟨k, rfl⟩ : ∃ m, k = m + 1 := ⟨k - 1, by omega⟩
    simp only [scuttlebuttlaw02_PackPlays.l0]
    rw [decide_eq_false (by omega)]
    split
    · exact plays_end k l n sz s lg i R B hs hlg (by omega)
    · exact plays_end k l n sz s lg i R B hs hlg (by omega)
  | succ d ih =>
    intro k i R B hd hi hl hk
    obtain ⟨k, rfl⟩ : ∃ m, k = m + 3 := ⟨k - 3, by omega⟩
    show scuttlebuttlaw02_PackPlays.l0 (k + 2 + 1) l n sz s lg (i : Int) R B R B = _
    simp only [scuttlebuttlaw02_PackPlays.l0]
    by_cases h : i < l.length
    · rw [if_pos (by omega), decide_eq_true (by omega)]
      show scuttlebuttlaw02_PackPlays.j1 (k + 1 + 1) l n sz s lg (i : Int) true R B R B = _
      simp only [scuttlebuttlaw02_PackPlays.j1]
      have hw : wrap64 ((i : Int) + 1) = ((i + 1 : Nat) : Int) := by rw [wrap64_id (by omega) (by omega)]; omega
      have hn : ∀ R B, scuttlebuttlaw02_PackPlays.j2 (k + 1) l n sz s lg (i : Int) R B R B = some true := by
        intro R B
        refine plays_j2 k l n sz s lg i R B ?_
        rw [hw]
        exact ih k (i + 1) R B (by omega) (by omega) (by omega) (by omega)
      rw [if_pos trivial, if_pos (by omega), if_pos (by omega)]
      split
      · obtain ⟨x, u, c, e1, e2⟩ := read_text (k + 1) R B (by omega)
        rw [e1, Option.bind_some, e2, Option.bind_some]
        dsimp only
        rw [if_pos rfl]
        exact hn u c
      · obtain ⟨x, u, c, e1, e2, _⟩ := read_number (k + 1) R B (Int.tmod (rd_T30 l (i : Int)).f1 11) (by omega)
        rw [e1, Option.bind_some, e2, Option.bind_some]
        dsimp only
        rw [if_pos rfl]
        exact hn u c
    · rw [if_neg (by omega)]
      exact plays_end (k + 2) l n sz s lg i R B hs hlg (by omega)

theorem PackPlays : scuttlebuttlaw02_PackPlays.Pure := by
  intro R B l n sz s lg _ _ _ _ _ _ hs hlg
  have rl := wf_u16 hlg
  refine ⟨100, ?_⟩
  unfold scuttlebuttlaw02_PackPlays.f
  rw [examples_true 100 (by omega), Option.bind_some, if_pos rfl]
  exact plays_l l n sz s lg hs rl 20 100 0 R B (by omega) (by omega) (by omega) (by omega)

end Go.Proofs.Ytanjoflhpnephaa.Pure
