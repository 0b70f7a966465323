/- RecordJoins: for every three records the law answers true: joined in whatever order, and however often, they come to the same, which is one of them, and over, or the same as, each. No condition. -/
import Derived.Test.YtalibiaplhmfhaaMA
namespace Go.Proofs.Ytalibiaplhmfhaa.Pure
open Go Go.RowKit Go.Proofs.Ytalibiaplhmfhaa.PA Go.Proofs.Ytalibiaplhmfhaa.MA Go.Proofs.YtalibiaplhmfhaaW.PrintWords Go.Proofs.YtalibiaplhmfhaaW.PrintLast

abbrev R4 := Int × Int × Int × Int
/-- How two records of one ID stand. -/
def jo (a b : R4) : Int := ordR a.1 a.2.1 a.2.2.1 a.2.2.2 b.1 b.2.1 b.2.2.1 b.2.2.2
def jn (a b : R4) : R4 := if jo a b > 0 then a else b
theorem jo_anti (a b : R4) : jo b a = -jo a b := ordR_anti _ _ _ _ _ _ _ _
theorem jo_spec (a b : R4) :
    (jo a b = 1 ∧ (b.2.1 < a.2.1 ∨ (b.2.1 = a.2.1 ∧ (b.1 < a.1 ∨ (b.1 = a.1 ∧ (b.2.2.1 < a.2.2.1 ∨ (b.2.2.1 = a.2.2.1 ∧ b.2.2.2 < a.2.2.2))))))) ∨
    (jo a b = 0 ∧ b.2.1 = a.2.1 ∧ b.1 = a.1 ∧ b.2.2.1 = a.2.2.1 ∧ b.2.2.2 = a.2.2.2) ∨
    (jo a b = -1 ∧ (a.2.1 < b.2.1 ∨ (a.2.1 = b.2.1 ∧ (a.1 < b.1 ∨ (a.1 = b.1 ∧ (a.2.2.1 < b.2.2.1 ∨ (a.2.2.1 = b.2.2.1 ∧ a.2.2.2 < b.2.2.2))))))) := by
  unfold jo ordR ordA or2
  rcases cmpI_cases a.2.1 b.2.1 with ⟨h1, e1⟩ | ⟨h1, e1⟩ | ⟨h1, e1⟩
  · rw [e1, if_neg (by decide)]; omega
  · rw [e1, if_pos rfl]
    rcases cmpI_cases a.1 b.1 with ⟨h2, e2⟩ | ⟨h2, e2⟩ | ⟨h2, e2⟩
    · rw [e2, if_neg (by decide)]; omega
    · rw [e2, if_pos rfl]
      rcases cmpI_cases a.2.2.1 b.2.2.1 with ⟨h3, e3⟩ | ⟨h3, e3⟩ | ⟨h3, e3⟩
      · rw [e3, if_neg (by decide)]; omega
      · rw [e3, if_pos rfl]
        rcases cmpI_cases a.2.2.2 b.2.2.2 with ⟨h4, e4⟩ | ⟨h4, e4⟩ | ⟨h4, e4⟩
        · rw [e4]; omega
        · rw [e4]; omega
        · rw [e4]; omega
      · rw [e3, if_neg (by decide)]; omega
    · rw [e2, if_neg (by decide)]; omega
  · rw [e1, if_neg (by decide)]; omega
theorem jo_zero (a b : R4) (h : jo a b = 0) : a = b := by
  obtain ⟨a1, a2, a3, a4⟩ := a
  obtain ⟨b1, b2, b3, b4⟩ := b
  rcases jo_spec (a1, a2, a3, a4) (b1, b2, b3, b4) with g | g | g
  · omega
  · dsimp only at g
    obtain ⟨_, rfl, rfl, rfl, rfl⟩ := g
    rfl
  · omega
theorem jo_trans (a b c : R4) (h1 : 0 ≤ jo a b) (h2 : 0 ≤ jo b c) : 0 ≤ jo a c := by
  rcases jo_spec a b with g | g | g
  · rcases jo_spec b c with i | i | i
    · rcases jo_spec a c with j | j | j
      · omega
      · omega
      · obtain ⟨_, g⟩ := g
        obtain ⟨_, i⟩ := i
        obtain ⟨_, j⟩ := j
        exfalso
        omega
    · rw [← jo_zero b c i.1]; exact h1
    · omega
  · rw [jo_zero a b g.1]; exact h2
  · omega
theorem jo_self (a : R4) : jo a a = 0 := ordR_self _ _ _ _
theorem jn_cases (a b : R4) : (0 < jo a b ∧ jn a b = a) ∨ (jo a b ≤ 0 ∧ jn a b = b) := by
  unfold jn
  by_cases h : jo a b > 0
  · rw [if_pos h]; exact Or.inl ⟨h, rfl⟩
  · rw [if_neg h]; exact Or.inr ⟨by omega, rfl⟩
theorem jn_comm (a b : R4) : jn a b = jn b a := by
  have h := jo_anti a b
  rcases jn_cases a b with ⟨g, e⟩ | ⟨g, e⟩ <;> rcases jn_cases b a with ⟨i, f⟩ | ⟨i, f⟩ <;> rw [e, f]
  · omega
  · exact (jo_zero a b (by omega)).symm
theorem jn_left (a b : R4) : 0 ≤ jo (jn a b) a := by
  have h := jo_anti a b
  rcases jn_cases a b with ⟨g, e⟩ | ⟨g, e⟩ <;> rw [e]
  · rw [jo_self]; omega
  · omega
theorem jn_right (a b : R4) : 0 ≤ jo (jn a b) b := by
  rw [jn_comm]
  exact jn_left b a
theorem jn_least (a b c : R4) (h1 : 0 ≤ jo c a) (h2 : 0 ≤ jo c b) : 0 ≤ jo c (jn a b) := by
  rcases jn_cases a b with ⟨_, e⟩ | ⟨_, e⟩ <;> rw [e] <;> assumption
theorem jo_both (a b : R4) (h1 : 0 ≤ jo a b) (h2 : 0 ≤ jo b a) : a = b := by
  have h := jo_anti a b
  exact jo_zero a b (by omega)
theorem jn_assoc (a b c : R4) : jn (jn a b) c = jn a (jn b c) := by
  apply jo_both
  · refine jn_least _ _ _ ?_ (jn_least _ _ _ ?_ (jn_right _ _))
    · exact jo_trans _ _ _ (jn_left _ _) (jn_left _ _)
    · exact jo_trans _ _ _ (jn_left _ _) (jn_right _ _)
  · refine jn_least _ _ _ (jn_least _ _ _ (jn_left _ _) ?_) ?_
    · exact jo_trans _ _ _ (jn_right _ _) (jn_left _ _)
    · exact jo_trans _ _ _ (jn_right _ _) (jn_right _ _)
theorem jn_top (a b : R4) (h : 0 ≤ jo a b) : jn a b = a := by
  rcases jn_cases a b with ⟨_, e⟩ | ⟨g, e⟩ <;> rw [e]
  exact (jo_zero a b (by omega)).symm

theorem join_eq (k : Nat) (a b : R4) (hk : 5 ≤ k) : record_Join.f k 3 a.1 a.2.1 a.2.2.1 a.2.2.2 3 b.1 b.2.1 b.2.2.1 b.2.2.2 = some (3, (jn a b).1, (jn a b).2.1, (jn a b).2.2.1, (jn a b).2.2.2) := by
  unfold record_Join.f jn
  rw [record_over k _ _ _ _ _ _ _ _ _ _ hk, Option.bind_some]
  show (if decide (jo a b > 0) = true then _ else _) = _
  by_cases h : jo a b > 0
  · rw [if_pos (decide_eq_true h), if_pos h]
  · rw [if_neg (by simpa using h), if_neg h]
theorem order_eq (k : Nat) (a b : R4) (hk : 5 ≤ k) : record_Order.f k 3 a.1 a.2.1 a.2.2.1 a.2.2.2 3 b.1 b.2.1 b.2.2.1 b.2.2.2 = some (jo a b) := record_order k _ _ _ _ _ _ _ _ _ _ hk
theorem thing4 (a0 a1 a2 a3 a4 : Int) (b : Bool) : ∃ (r : Int) (A : R4), law04_Thing_thing.f a0 a1 a2 a3 a4 b = some (r, A.1, A.2.1, A.2.2.1, A.2.2.2) := by
  obtain ⟨r0, r1, r2, r3, r4, e⟩ := thing_some a0 a1 a2 a3 a4 b
  exact ⟨r0, (r1, r2, r3, r4), e⟩
theorem eq4 (a b : R4) : ((3 : Int) == 3 && (a.1 == b.1 && (a.2.1 == b.2.1 && ((a.2.2.1 == b.2.2.1 && (a.2.2.2 == b.2.2.2)))))) = true ↔ a = b := by
  obtain ⟨a1, a2, a3, a4⟩ := a
  obtain ⟨b1, b2, b3, b4⟩ := b
  simp

theorem RecordJoins : law04_RecordJoins.Pure := by
  intro a0 a1 a2 a3 a4 a5 b0 b1 b2 b3 b4 b5 c0 c1 c2 c3 c4 c5 _ _ _ _ _ _ _ _ _ _ _ _ _ _ _
  refine ⟨20, ?_⟩
  unfold law04_RecordJoins.f
  obtain ⟨_, A, eA⟩ := thing4 a0 a1 a2 a3 a4 a5
  obtain ⟨_, B, eB⟩ := thing4 b0 b1 b2 b3 b4 b5
  obtain ⟨_, C, eC⟩ := thing4 c0 c1 c2 c3 c4 c5
  rw [examples_true 20 (by omega), Option.bind_some, if_pos rfl, eA, Option.bind_some, eB, Option.bind_some, eC, Option.bind_some]
  dsimp only
  rw [join_eq 20 A B (by omega), Option.bind_some]
  dsimp only
  rw [join_eq 20 (jn A B) C (by omega), Option.bind_some]
  dsimp only
  rw [join_eq 20 B A (by omega), Option.bind_some]
  dsimp only
  rw [if_pos ((eq4 _ _).2 (jn_comm A B)), join_eq 20 B C (by omega), Option.bind_some]
  dsimp only
  rw [join_eq 20 A (jn B C) (by omega), Option.bind_some]
  dsimp only
  rw [if_pos ((eq4 _ _).2 (jn_assoc A B C)), join_eq 20 (jn (jn A B) C) A (by omega), Option.bind_some]
  dsimp only
  have hA : 0 ≤ jo (jn (jn A B) C) A := jo_trans _ _ _ (jn_left _ _) (jn_left _ _)
  have hC : 0 ≤ jo (jn (jn A B) C) C := jn_right _ _
  have hin : jn (jn A B) C = A ∨ jn (jn A B) C = B ∨ jn (jn A B) C = C := by
    rcases jn_cases (jn A B) C with ⟨_, e⟩ | ⟨_, e⟩
    · rw [e]
      rcases jn_cases A B with ⟨_, f⟩ | ⟨_, f⟩
      · exact Or.inl f
      · exact Or.inr (Or.inl f)
    · exact Or.inr (Or.inr e)
  rw [if_pos ((eq4 _ _).2 (jn_top _ _ hA)), join_eq 20 A A (by omega), Option.bind_some]
  dsimp only
  rw [if_pos ((eq4 _ _).2 (jn_top _ _ (by rw [jo_self]; omega)))]
  generalize jn (jn A B) C = X at hA hC hin
  have hend : ((record_Order.f 20 3 X.1 X.2.1 X.2.2.1 X.2.2.2 3 A.1 A.2.1 A.2.2.1 A.2.2.2).bind fun t => (if t ≥ 0 then ((record_Order.f 20 3 X.1 X.2.1 X.2.2.1 X.2.2.2 3 C.1 C.2.1 C.2.2.1 C.2.2.2).bind fun u => (some (decide (u ≥ 0)))) else (none))) = some true := by
    rw [order_eq 20 X A (by omega), Option.bind_some, if_pos hA, order_eq 20 X C (by omega), Option.bind_some, decide_eq_true hC]
  by_cases h1 : X = A
  · rw [if_pos ((eq4 _ _).2 h1)]
    exact hend
  · rw [if_neg (fun e => h1 ((eq4 _ _).1 e))]
    by_cases h2 : X = B
    · rw [if_pos ((eq4 _ _).2 h2)]
      exact hend
    · rw [if_neg (fun e => h2 ((eq4 _ _).1 e))]
      have h3 : X = C := (hin.resolve_left h1).resolve_left h2
      first | (rw [if_pos ((eq4 _ _).2 h3)]; exact hend) | (rw [(eq4 _ _).2 h3, if_pos rfl]; exact hend)

end Go.Proofs.Ytalibiaplhmfhaa.Pure
