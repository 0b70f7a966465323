/- RuleTells: for every two types, addresses that were met and another one the law answers true: all is told as the document's answer tells it. No condition. -/
import Derived.Test.YtlembbkbmnmnhaaMB
namespace Go.Proofs.Ytlembbkbmnmnhaa.Pure
open Go Go.RowKit Go.Proofs.Ytlembbkbmnmnhaa.PA Go.Proofs.Ytlembbkbmnmnhaa.MA Go.Proofs.Ytlembbkbmnmnhaa.MB Go.Proofs.YtlembbkbmnmnhaaW.PrintWords Go.Proofs.YtlembbkbmnmnhaaW.PrintLast

theorem ref_right (a b : Int) : scuttlebuttref07_Right.f a b = some (rgt a b) := by
  unfold scuttlebuttref07_Right.f rgt
  by_cases h1 : a ≥ 0
  · rw [if_pos h1]
    by_cases h2 : a ≤ 2
    · rw [if_pos h2]
      by_cases h3 : b ≥ 0
      · rw [if_pos h3]
        by_cases h4 : b ≤ 2
        · rw [decide_eq_true h4, decide_eq_true (by omega)]
        · rw [decide_eq_false h4, decide_eq_false (by omega)]
      · rw [if_neg h3, decide_eq_false (by omega)]
    · rw [if_neg h2, decide_eq_false (by omega)]
  · rw [if_neg h1, decide_eq_false (by omega)]
theorem ref_key (a b x y : Int) : scuttlebuttref07_Key.f a b x y = rule_Key.f a b x y := by
  unfold scuttlebuttref07_Key.f rule_Key.f
  by_cases h1 : a = 1
  · rw [if_pos h1, if_neg (by omega), if_pos h1]
  · rw [if_neg h1]
    by_cases h2 : a = 2
    · rw [if_pos h2, if_pos h2]
    · rw [if_neg h2, if_neg h2, if_neg h1]
def thr (a b c d : Int) : Bool := rgt a b && rgt c d && (if c = 0 then (d != 2 || a == 0) else d == 0)
theorem thr_l (k : Nat) (a b c d : Int) : rule_Through.f (k + 1) a b c d = some (thr a b c d) := by
  unfold rule_Through.f thr
  rw [right_eq, Option.bind_some]
  cases rgt a b
  · rfl
  · rw [if_pos rfl, right_eq, Option.bind_some]
    cases rgt c d
    · rfl
    · simp only [rule_Through.j0]
      rw [if_neg (by decide)]
      by_cases h : c = 0
      · rw [if_pos h, if_pos h]
        by_cases h2 : d = 2
        · rw [if_pos h2]; simp [h2]
        · rw [if_neg h2]; simp [h2]
      · rw [if_neg h, if_neg h]; simp
theorem thr_r (k : Nat) (a b c d : Int) : scuttlebuttref07_Through.f (k + 1) a b c d = some (thr a b c d) := by
  unfold scuttlebuttref07_Through.f thr
  rw [ref_right, Option.bind_some, ref_right, Option.bind_some]
  cases rgt a b
  · rfl
  · rw [if_pos rfl]
    cases rgt c d
    · rfl
    · simp only [scuttlebuttref07_Through.j0]
      rw [if_neg (by decide)]
      by_cases h : c = 0
      · rw [if_pos h, if_pos h]
        by_cases h2 : d = 2
        · rw [if_pos h2]; simp [h2]
        · rw [if_neg h2]; simp [h2]
      · rw [if_neg h, if_neg h]; simp
theorem punch_same (k : Nat) (a b c d : Int) : scuttlebuttref07_Punch.f (k + 1) a b c d = rule_Punch.f (k + 1) a b c d := by
  unfold scuttlebuttref07_Punch.f rule_Punch.f rule_answered.f
  rw [thr_r, thr_r, thr_l, thr_l]
  simp only [Option.bind_some]
  cases thr a b c d <;> cases thr c d a b <;> by_cases h0 : c = 0 <;> by_cases h1 : a = 0 <;> by_cases h2 : b = 2 <;> by_cases h3 : d = 2 <;> simp [h0, h1, h2, h3]
theorem punch_some (k : Nat) (a b c d : Int) : ∃ r, rule_Punch.f (k + 1) a b c d = some r := by
  unfold rule_Punch.f rule_answered.f
  rw [thr_l, thr_l]
  simp only [Option.bind_some]
  cases thr a b c d <;> cases thr c d a b <;> by_cases h0 : c = 0 <;> by_cases h1 : a = 0 <;> by_cases h2 : b = 2 <;> by_cases h3 : d = 2 <;> simp [h0, h1, h2, h3]
theorem ref_word (a b : Int) : scuttlebuttref07_Word.f a b = rule_Word.f a b := by
  unfold scuttlebuttref07_Word.f
  rw [ref_right, Option.bind_some, word_eq]
  cases h : rgt a b
  · rfl
  · obtain ⟨h1, h2⟩ := kinds3 h
    rcases h1 with rfl | rfl | rfl <;> rcases h2 with rfl | rfl | rfl <;> decide +kernel
theorem rd_at' (l : List S32) (i : Nat) (h : i < l.length) : rd_T32 l (i : Int) = l[i] := by
  unfold rd_T32
  rw [Int.toNat_natCast, List.getD_eq_getElem?_getD, List.getElem?_eq_getElem h]
  rfl
def told (f a b : Int) (x : S32) : Bool := (f == 1 && x.f0 == a) || (f == 2 && (x.f0 == a && (x.f1 == b)))
theorem ref_l (l : List S32) (m f a b : Int) (hl : l.length < 9223372036854775808) : ∀ (d k i : Nat), l.length - i = d → i ≤ l.length → d < k → scuttlebuttref07_Passes.l0 k l (i : Int) m f a b = some ((l.drop i).any (told f a b)) := by
  intro d
  induction d with
  | zero =>
    intro k i hd hi hk
    obtain ⟨k, rfl⟩ : ∃ j, k = j + 1 := ⟨k - 1, by omega⟩
    simp only [scuttlebuttref07_Passes.l0]
    rw [if_neg (by omega), List.drop_eq_nil_of_le (by omega)]
    rfl
  | succ d ih =>
    intro k i hd hi hk
    obtain ⟨k, rfl⟩ : ∃ j, k = j + 1 := ⟨k - 1, by omega⟩
    have hlt : i < l.length := by omega
    have hw : wrap64 ((i : Int) + 1) = ((i + 1 : Nat) : Int) := by unfold wrap64; omega
    have hn := ih k (i + 1) (by omega) (by omega) (by omega)
    simp only [scuttlebuttref07_Passes.l0]
    have h0 : (0 : Int) ≤ (i : Int) := by omega
    rw [if_pos (by omega), rd_at' l i hlt, List.drop_eq_getElem_cons hlt, List.any_cons, hw, hn]
    simp only [if_pos h0]
    generalize l[i] = x
    generalize (l.drop (i + 1)).any (told f a b) = R
    unfold told
    by_cases h1 : f = 1
    · subst h1
      rw [if_pos rfl]
      by_cases h : x.f0 = a
      · rw [if_pos h]; simp [h]
      · rw [if_neg h, if_neg (by decide)]; simp [h]
    · rw [if_neg h1]
      by_cases h2 : f = 2
      · subst h2
        rw [if_pos rfl]
        by_cases h : (x.f0 == a && (x.f1 == b)) = true
        · rw [if_pos h, h]; simp
        · rw [if_neg h, show (x.f0 == a && (x.f1 == b)) = false by simpa using h]; simp
      · rw [if_neg h2, show (f == 1) = false by simpa using h1, show (f == 2) = false by simpa using h2]; simp
def as32 (x : S28) : S32 := ⟨x.f0, x.f1⟩
theorem passes_same (k : Nat) (m f a b : Int) (l : List S28) (hl : l.length < 9223372036854775808) (hk : l.length < k) :
    ∃ r, rule_Passes.f k m f l a b = some r ∧ scuttlebuttref07_Passes.f k m f (l.map as32) a b = some r := by
  have hr := ref_l (l.map as32) m f a b (by simpa using hl) (l.map as32).length k 0 (by omega) (by omega) (by simpa using hk)
  rw [show ((0 : Nat) : Int) = 0 from rfl, List.drop_zero, List.any_map] at hr
  unfold rule_Passes.f scuttlebuttref07_Passes.f
  rw [hr, has k l a b hl hk]
  by_cases h0 : f = 0
  · rw [if_pos h0, if_pos h0]
    exact ⟨_, rfl, rfl⟩
  · rw [if_neg h0, if_neg h0]
    by_cases h1 : f = 1
    · rw [if_pos h1]
      refine ⟨_, rfl, ?_⟩
      subst h1
      congr 2
      funext x
      simp only [Function.comp, told, as32, ipIs]
      by_cases e : x.f0 = a
      · simp [e]
      · simp [e]
    · rw [if_neg h1]
      by_cases h2 : f = 2
      · rw [if_pos h2]
        refine ⟨_, rfl, ?_⟩
        subst h2
        congr 2
        funext x
        simp only [Function.comp, told, as32, hit]
        rw [show (a == x.f0) = (x.f0 == a) from BEq.comm, show (b == x.f1) = (x.f1 == b) from BEq.comm]
        simp
      · rw [if_neg h2]
        refine ⟨_, rfl, ?_⟩
        congr 1
        rw [List.any_eq_false]
        intro x _
        simp [told, h1, h2]

theorem tells_end (k : Nat) (l : List S28) (p q r s x y : Int) (hl : l.length < 1000) (hk : l.length < k + 1) :
    scuttlebuttlaw07_RuleTells.l0 (k + 2) l (l.map as32) (l.length : Int) p q r s x y p q r s = some true := by
  show scuttlebuttlaw07_RuleTells.l0 (k + 1 + 1) l _ _ p q r s x y p q r s = _
  simp only [scuttlebuttlaw07_RuleTells.l0]
  obtain ⟨b, e1, e2⟩ := passes_same (k + 1) p q x y l (by omega) hk
  obtain ⟨z, e3⟩ := punch_some k p q r s
  have e4 : ∃ kx ky, rule_Key.f p q x y = some (kx, ky) := by
    unfold rule_Key.f
    by_cases h2 : p = 2
    · rw [if_pos h2]; exact ⟨_, _, rfl⟩
    · rw [if_neg h2]
      by_cases h1 : p = 1
      · rw [if_pos h1]; exact ⟨_, _, rfl⟩
      · rw [if_neg h1]; exact ⟨_, _, rfl⟩
  obtain ⟨kx, ky, e4⟩ := e4
  rw [if_neg (by omega), right_eq, Option.bind_some, ref_right, Option.bind_some, if_pos (by simp), e4, Option.bind_some]
  unfold scuttlebuttlaw07_ref.f
  rw [Option.bind_some, Option.bind_some]
  dsimp only
  rw [ref_key, e4, Option.bind_some]
  dsimp only
  rw [if_pos (by simp), e1, Option.bind_some, Option.bind_some]
  dsimp only
  rw [e2, Option.bind_some, if_pos (by simp), thr_l, Option.bind_some, thr_r, Option.bind_some, if_pos (by simp), punch_same, e3, Option.bind_some, Option.bind_some, if_pos (by simp), ref_word, word_eq, Option.bind_some, Option.bind_some]
  simp

theorem tells_l (l : List S28) (p q r s x y : Int) (hl : l.length < 1000) : ∀ (d k i : Nat), l.length - i = d → i ≤ l.length → l.length + d + 2 < k →
    scuttlebuttlaw07_RuleTells.l0 k l ((l.take i).map as32) (i : Int) p q r s x y p q r s = some true := by
  intro d
  induction d with
  | zero =>
    intro k i hd hi hk
    obtain ⟨k, rfl⟩ : ∃ j, k = j + 2 := ⟨k - 2, by omega⟩
    obtain rfl : i = l.length := by omega
    rw [List.take_length]
    exact tells_end k l p q r s x y hl (by omega)
  | succ d ih =>
    intro k i hd hi hk
    obtain ⟨k, rfl⟩ : ∃ j, k = j + 1 := ⟨k - 1, by omega⟩
    have hlt : i < l.length := by omega
    have hw : wrap64 ((i : Int) + 1) = ((i + 1 : Nat) : Int) := by unfold wrap64; omega
    have hn := ih k (i + 1) (by omega) (by omega) (by omega)
    simp only [scuttlebuttlaw07_RuleTells.l0]
    rw [if_pos (by omega), if_pos (by omega), rd_at l i hlt]
    unfold scuttlebuttlaw07_ref.f
    rw [Option.bind_some, if_pos (by rw [List.length_map, List.length_take]; omega), hw]
    dsimp only
    rw [List.take_succ_eq_append_getElem hlt, List.map_append] at hn
    exact hn

theorem tells_j2 (k : Nat) (l : List S28) (p q r s x y : Int) (hl : l.length ≤ 20) (hk : 50 ≤ k) : scuttlebuttlaw07_RuleTells.j2 k l p q r s x y = some true := by
  obtain ⟨k, rfl⟩ : ∃ j, k = j + 1 := ⟨k - 1, by omega⟩
  simp only [scuttlebuttlaw07_RuleTells.j2]
  exact tells_l l p q r s x y (by omega) l.length k 0 (by omega) (by omega) (by omega)
theorem tells_j0 (k : Nat) (l : List S28) (n p q r s x y : Int) (hn : 0 ≤ n ∧ n < 256) (hk : 60 ≤ k) : scuttlebuttlaw07_RuleTells.j0 k l n p q r s x y = some true := by
  obtain ⟨k, rfl⟩ : ∃ j, k = j + 2 := ⟨k - 2, by omega⟩
  have hm : 0 ≤ mn (l.length : Int) 20 ∧ mn (l.length : Int) 20 ≤ (l.length : Int) ∧ mn (l.length : Int) 20 ≤ 20 := by
    unfold mn
    split <;> omega
  show scuttlebuttlaw07_RuleTells.j0 (k + 1 + 1) l n p q r s x y = _
  simp only [scuttlebuttlaw07_RuleTells.j0]
  rw [if_pos hm.1, if_pos hm.2.1, Option.bind_some]
  have hy : (l.take (mn (l.length : Int) 20).toNat).length ≤ 20 := by
    rw [List.length_take]
    omega
  generalize l.take (mn (l.length : Int) 20).toNat = z at hy
  have hf : scuttlebuttlaw07_RuleTells.j1 (k + 1) z n false p q r s x y = some true := by
    simp only [scuttlebuttlaw07_RuleTells.j1]
    rw [if_neg (by decide)]
    exact tells_j2 k z p q r s x y hy (by omega)
  by_cases h : (z.length : Int) > 0
  · rw [if_pos h]
    by_cases h3 : Int.tmod n 3 > 0
    · rw [decide_eq_true h3]
      simp only [scuttlebuttlaw07_RuleTells.j1]
      have hw : wrap64 n = n := by unfold wrap64; omega
      have h0 : 0 ≤ Int.tmod n (z.length : Int) := Int.tmod_nonneg _ hn.1
      have h1 : Int.tmod n (z.length : Int) < (z.length : Int) := Int.tmod_lt_of_pos _ h
      rw [if_pos trivial, if_neg (by omega), hw, if_pos h0, if_pos h1]
      split
      · exact tells_j2 k z p q r s _ _ hy (by omega)
      · exact tells_j2 k z p q r s _ _ hy (by omega)
    · rw [decide_eq_false h3]
      exact hf
  · rw [if_neg h]
    exact hf

theorem RuleTells : scuttlebuttlaw07_RuleTells.Pure := by
  intro p q r s near l x y n _ _ _ _ _ _ _ _ _ hn
  have hn' : 0 ≤ n ∧ n < 256 := by
    simp [Lit.wf, IntKind.min, IntKind.max, IntKind.signed, IntKind.bits] at hn
    omega
  refine ⟨60, ?_⟩
  unfold scuttlebuttlaw07_RuleTells.f
  rw [ex60, Option.bind_some, if_pos rfl]
  split
  · exact tells_j0 60 l n _ _ _ _ x y hn' (by omega)
  · exact tells_j0 60 l n _ _ _ _ x y hn' (by omega)

end Go.Proofs.Ytlembbkbmnmnhaa.Pure
