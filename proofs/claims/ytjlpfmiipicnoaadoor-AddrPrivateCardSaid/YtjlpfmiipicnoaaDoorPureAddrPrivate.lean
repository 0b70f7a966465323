/- AddrPrivate: for every network, address in it and port the law answers true: of a network that is private all addresses are, next to its ends none is. No condition. -/
import Derived.Test.YtjlpfmiipicnoaaDoorMA
namespace Go.Proofs.YtjlpfmiipicnoaaDoor.Pure
open Go Go.RowKit Go.Proofs.YtjlpfmiipicnoaaDoor.PA Go.Proofs.YtjlpfmiipicnoaaDoor.MA Go.Proofs.YtjlpfmiipicnoaaDoor.MP Go.Proofs.YtjlpfmiipicnoaaDoorW.PrintWords Go.Proofs.YtjlpfmiipicnoaaDoorW.PrintLast Go.Proofs.YtjlpfmiipicnoaaDoorW.PrintMore

theorem none_port (a b : Int) (h : a ≠ 0) : addr_Addr_None.f a b = some (b == 0) := by
  unfold addr_Addr_None.f
  rw [if_neg h]
theorem none_zero (a : Int) : addr_Addr_None.f a 0 = some true := by
  unfold addr_Addr_None.f
  split <;> rfl
theorem private_tail (B Z a1 a2 : Int) (h0 : ¬ Z = 0) (hB : B ≠ 0) (p1 : addr_Addr_Private.f ((B + Int.tmod a1 Z) % 4294967296) a2 = some true) (p2 : addr_Addr_Private.f ((B - 1) % 4294967296) a2 = some false) (p3 : addr_Addr_Private.f ((B + Z) % 4294967296) a2 = some false) :
    (if Z = 0 then (none) else ((addr_Addr_Private.f ((B + (Int.tmod a1 Z)) % 4294967296) a2).bind fun t215 => (if t215 = true then ((addr_Addr_Private.f ((B - 1) % 4294967296) a2).bind fun t216 => (if t216 = true then (none) else ((addr_Addr_Private.f ((B + Z) % 4294967296) a2).bind fun t217 => (if t217 = true then (none) else ((addr_Addr_None.f a1 0).bind fun t218 => (if t218 = true then ((addr_Addr_None.f B a2).bind fun t219 => (some (t219 == (a2 == 0)))) else (none))))))) else (none)))) = some true := by
  rw [if_neg h0, p1, Option.bind_some, if_pos rfl, p2, Option.bind_some, if_neg (by decide), p3, Option.bind_some, if_neg (by decide), none_zero, Option.bind_some, if_pos rfl, none_port B a2 hB, Option.bind_some]
  simp

theorem AddrPrivate : scuttlebuttlaw03_AddrPrivate.Pure := by
  intro a0 a1 a2 w0 w1 _
  have r0 := wf_u8 w0
  have r1 := wf_u32 w1
  refine ⟨40, ?_⟩
  unfold scuttlebuttlaw03_AddrPrivate.f
  rw [examples_true 40 (by omega), Option.bind_some, if_pos rfl, Option.bind_some]
  have hi : Int.tmod a0 3 = 0 ∨ Int.tmod a0 3 = 1 ∨ Int.tmod a0 3 = 2 := by
    rw [Int.tmod_eq_emod_of_nonneg r0.1]
    omega
  generalize Int.tmod a0 3 = i at hi
  rcases hi with rfl | rfl | rfl
  · rw [if_pos (by decide), if_pos (by decide), Option.bind_some, if_pos (by decide)]
    refine private_tail 167772160 16777216 a1 a2 (by decide) (by decide) ?_ ?_ ?_
    · rw [Int.tmod_eq_emod_of_nonneg r1.1]
      unfold addr_Addr_Private.f
      rw [if_pos (by omega)]
    · unfold addr_Addr_Private.f
      rw [if_neg (by decide), if_neg (by decide), if_neg (by decide)]
    · unfold addr_Addr_Private.f
      rw [if_neg (by decide), if_neg (by decide), if_neg (by decide)]
  · rw [if_pos (by decide), if_pos (by decide), Option.bind_some, if_pos (by decide)]
    refine private_tail 2886729728 1048576 a1 a2 (by decide) (by decide) ?_ ?_ ?_
    · rw [Int.tmod_eq_emod_of_nonneg r1.1]
      unfold addr_Addr_Private.f
      rw [if_neg (by omega), if_pos (by omega)]
    · unfold addr_Addr_Private.f
      rw [if_neg (by decide), if_neg (by decide), if_neg (by decide)]
    · unfold addr_Addr_Private.f
      rw [if_neg (by decide), if_neg (by decide), if_neg (by decide)]
  · rw [if_pos (by decide), if_pos (by decide), Option.bind_some, if_pos (by decide)]
    refine private_tail 3232235520 65536 a1 a2 (by decide) (by decide) ?_ ?_ ?_
    · rw [Int.tmod_eq_emod_of_nonneg r1.1]
      unfold addr_Addr_Private.f
      rw [if_neg (by omega), if_neg (by omega), if_pos (by omega)]
    · unfold addr_Addr_Private.f
      rw [if_neg (by decide), if_neg (by decide), if_neg (by decide)]
    · unfold addr_Addr_Private.f
      rw [if_neg (by decide), if_neg (by decide), if_neg (by decide)]

end Go.Proofs.YtjlpfmiipicnoaaDoor.Pure
