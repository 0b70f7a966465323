/- RulePunch: for every two types the law answers true: Punch is the same both ways, who maps by nothing and filters by no port punches with all, two that go by both never do, a less strict filter never spoils it. No condition. -/
import Derived.Test.YtlembbkbmnmnhaaMA
namespace Go.Proofs.Ytlembbkbmnmnhaa.Pure
open Go Go.RowKit Go.Proofs.Ytlembbkbmnmnhaa.PA Go.Proofs.Ytlembbkbmnmnhaa.MA Go.Proofs.YtlembbkbmnmnhaaW.PrintWords Go.Proofs.YtlembbkbmnmnhaaW.PrintLast

theorem wf8 {n : Int} (h : (Lit.int .u8 n).wf = true) : 0 ≤ n ∧ n < 256 := by
  simp [Lit.wf, IntKind.min, IntKind.max, IntKind.signed, IntKind.bits] at h
  omega
theorem id64 {n : Int} (h0 : -9223372036854775808 ≤ n) (h1 : n < 9223372036854775808) : wrap64 n = n := by unfold wrap64; omega
theorem mod3 {a : Int} (h : 0 ≤ a ∧ a < 256) : wrap64 (Int.tmod a 3) = 0 ∨ wrap64 (Int.tmod a 3) = 1 ∨ wrap64 (Int.tmod a 3) = 2 := by
  rw [Int.tmod_eq_emod_of_nonneg h.1, id64 (by omega) (by omega)]
  omega
theorem div3 (a : Int) : ((Int.tdiv a 3) % 256) % 3 = 0 ∨ ((Int.tdiv a 3) % 256) % 3 = 1 ∨ ((Int.tdiv a 3) % 256) % 3 = 2 := by
  generalize (Int.tdiv a 3) % 256 = z
  omega
theorem all (p q r s : Int) (hp : p = 0 ∨ p = 1 ∨ p = 2) (hq : q = 0 ∨ q = 1 ∨ q = 2) (hr : r = 0 ∨ r = 1 ∨ r = 2) (hs : s = 0 ∨ s = 1 ∨ s = 2) :
    (if p = 0 then law07_RulePunch.j0 5 (q != 2) p q r s r (mx (s - 1) 0) 2 2 else law07_RulePunch.j0 5 false p q r s r (mx (s - 1) 0) 2 2) = some true := by
  rcases hp with rfl | rfl | rfl <;> rcases hq with rfl | rfl | rfl <;> rcases hr with rfl | rfl | rfl <;> rcases hs with rfl | rfl | rfl <;> decide +kernel

theorem RulePunch : law07_RulePunch.Pure := by
  intro a b ha hb
  refine ⟨5, ?_⟩
  unfold law07_RulePunch.f
  rw [ex, Option.bind_some, if_pos rfl]
  exact all _ _ _ _ (mod3 (wf8 ha)) (div3 a) (mod3 (wf8 hb)) (div3 b)

end Go.Proofs.Ytlembbkbmnmnhaa.Pure
