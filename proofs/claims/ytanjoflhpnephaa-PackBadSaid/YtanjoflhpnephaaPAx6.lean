/- Written by xprint.py, a program of this session: Go functions that the laws reach, each as a plain Lean function, and the proof that the Go code comes to what it says. No condition but those that each theorem names. -/
import Derived.Test.YtanjoflhpnephaaPAx0
import Derived.WalkSpells
import Derived.WalkLawsBesides
import Derived.Test.YtanjoflhpnephaaXAux
namespace Go.Proofs.Ytanjoflhpnephaa.PA
open Go.RowKit Go.Proofs.YtanjoflhpnephaaW.PrintWords Go.Proofs.YtanjoflhpnephaaW.PrintLast Go.Proofs.YtanjoflhpnephaaW.PrintMore
attribute [local go_sem] max2_int min2_int max_two min_two max_three min_three max_four min_four   -- for this text's walks alone
set_option linter.unusedVariables false
set_option linter.unusedSimpArgs false

/-! ### pack_Number: function 18 -/

/-- The bytes of a number: the greatest first. -/
def numB (a : Int) (m : Nat) : List Int := (List.range m).map fun (k : Nat) => a / 2 ^ (8 * (m - 1 - k)) % 256
def numCells (a : Int) (m k : Nat) : Array Value := ((List.range 8).map fun (j : Nat) => Value.int .u8 (if j < k then a / 2 ^ (8 * (m - 1 - j)) % 256 else 0)).toArray
theorem numCells_zero (a : Int) (m : Nat) : numCells a m 0 = #[.int .u8 0, .int .u8 0, .int .u8 0, .int .u8 0, .int .u8 0, .int .u8 0, .int .u8 0, .int .u8 0] := rfl
theorem numCells_get (a : Int) (m k j : Nat) (hj : j < 8) : (numCells a m k)[j]? = some (.int .u8 (if j < k then a / 2 ^ (8 * (m - 1 - j)) % 256 else 0)) := by
  simp [numCells, hj]
theorem numCells_set (a : Int) (m k : Nat) (hk : k < 8) : (numCells a m k).setIfInBounds k (.int .u8 (a / 2 ^ (8 * (m - 1 - k)) % 256)) = numCells a m (k + 1) := by
  apply Array.ext_getElem?
  intro i
  rw [Array.getElem?_setIfInBounds]
  by_cases h : k = i
  · subst h
    rw [if_pos rfl, if_pos (by simpa [numCells] using hk), numCells_get _ _ _ _ hk, if_pos (by omega)]
  · rw [if_neg h]
    rcases Nat.lt_or_ge i 8 with hi | hi
    · rw [numCells_get _ _ _ _ hi, numCells_get _ _ _ _ hi]
      by_cases hik : i < k
      · rw [if_pos hik, if_pos (by omega)]
      · rw [if_neg hik, if_neg (by omega)]
    · rw [Array.getElem?_eq_none (by simpa [numCells] using hi), Array.getElem?_eq_none (by simpa [numCells] using hi)]
theorem numB_reads {w : World} {gb : Nat} (a : Int) (m : Nat) (hm : m ≤ 8) (h : w.heap[gb]? = some (.cells (numCells a m m) 52 (0, 0))) : Kd.C (Kd.int .u8) w (some ⟨gb, 0, none⟩) m (numB a m) := by
  refine ⟨by simp [numB], by omega, fun _ => ⟨_, rfl, fun j p hj => ?_⟩⟩
  have hjm : j < m := by
    have := (List.getElem?_eq_some_iff.1 hj).1
    simpa [numB] using this
  have hp : a / 2 ^ (8 * (m - 1 - j)) % 256 = p := by simpa [numB, hjm] using hj
  refine ⟨[.int .u8 p], rfl, rfl, fun i u hu => ?_⟩
  obtain rfl : i = 0 := by have := (List.getElem?_eq_some_iff.1 hu).1; simp at this; omega
  obtain rfl : Value.int .u8 p = u := by simpa using hu
  have hc := blk_cell h j
  rw [numCells_get a m m j (by omega), if_pos hjm, hp] at hc
  show w.cell? (Addr.add ⟨gb, 0, none⟩ (j * 1 + 0)) = _
  rw [show Addr.add ⟨gb, 0, none⟩ (j * 1 + 0) = ⟨gb, j, none⟩ by simp only [Addr.add]; split <;> simp_all]
  exact hc
def pack_Number.f (a0 : Int) (a1 : Int) : Option ByteArray := if a1 < 1 then some ⟨#[]⟩ else if a1 > 8 then some ⟨#[]⟩ else some (strOfNums (numB a0 a1.toNat))
set_option maxHeartbeats 8000000 in
set_option maxRecDepth 100000 in
theorem pack_Number.calls (a0 : Int) (a1 : Int) (r : ByteArray) (w : World) (h : pack_Number.f a0 a1 = some r) :
    Calls Try.prog 18 #[.int .u64 a0, .int .i64 a1] w fun e w' => e = .returned (.string r) ∧ Below w.heap.size w w' := by
  unfold pack_Number.f at h
  have hu40 := Try.underlying40
  by_cases h1 : a1 < 1
  · rw [if_pos h1] at h
    obtain rfl := Option.some.inj h
    clear h
    have h1b : decide (a1 < 1) = true := decide_eq_true h1
    go_enter Try.func18, Try.ntmps18
    go_wp2
    go_ret
    exact ⟨rfl, Below.refl _ _⟩
  · rw [if_neg h1] at h
    have h1b : decide (a1 < 1) = false := decide_eq_false h1
    by_cases h2 : a1 > 8
    · rw [if_pos h2] at h
      obtain rfl := Option.some.inj h
      clear h
      have h2b : decide (8 < a1) = true := decide_eq_true h2
      go_enter Try.func18, Try.ntmps18
      go_wp2
      go_ret
      exact ⟨rfl, Below.refl _ _⟩
    · rw [if_neg h2] at h
      obtain rfl := Option.some.inj h
      clear h
      obtain ⟨m, rfl⟩ : ∃ m : Nat, a1 = (m : Int) := ⟨a1.toNat, by omega⟩
      have h2b : decide (8 < (m : Int)) = false := decide_eq_false h2
      have hm1 : 1 ≤ m := by omega
      have hm8 : m ≤ 8 := by omega
      simp only [Int.toNat_natCast]
      clear h1 h2
      go_enter Try.func18, Try.ntmps18
      go_wp2_with fail
      go_loopw [14] (fun v wr => ∃ k : Nat, k ≤ m ∧ v = .int .i64 k ∧ Aside0 (wr.heap[w.heap.size]? = some (.cells (numCells a0 m k) 52 (0, 0))) ∧ Aside0 (Below w.heap.size w wr)) (fun v _ => m - (intOf v).toNat)
      case atStart => exact ⟨0, Nat.zero_le _, rfl, ⟨blk_new _ _⟩, ⟨below_alloc (Below.refl _ _) _⟩⟩
      case round =>
        obtain ⟨k, hk, rfl, BK, HB⟩ := hrel
        have hcz := blk_cell BK.out k
        have hfz := blk_frozen BK.out k
        by_cases hlt : k < m
        · rw [numCells_get _ _ _ _ (by omega)] at hcz
          have HST := Aside0.mk (numCells_set a0 m k (by omega))
          go_wp2
          go_roundw
          case rel => exact ⟨k + 1, by omega, by go_num, ⟨blk_put BK.out k _ HST.out⟩, ⟨below_set HB.out (Nat.le_refl _)⟩⟩
          case measure => simp [intOf]; omega
        · obtain rfl : k = m := by omega
          have hconv := Kd.C_string (P := Try.prog) (src := 40) (dst := 9) (e := 5) (c := 8) Try.underlying40 Try.underlying5 Try.underlying9 (numB_reads a0 k hm8 BK.out)
          have hsl : ∀ (a : Addr) (W : World), (Instr.sliceAt 52 (.pointer (some a)) none (some (.int .i64 (k : Int))) none).run Try.prog W = .ok (.slice (some a) k 8) W := by
            intro a W
            have hal : Try.prog.arrayLen 52 = 8 := by kernel_rfl
            have hse : (sizeOf (Try.prog.elem 52)).run Try.prog W = .ok 1 W := by kernel_rfl
            rw [run_sliceAt_array_h W 52 a (by rw [hal]; kernel_rfl) .i64 k (by omega) (by rw [hal]; omega), hal, hse]
            simp [Result.andThen, slicedAt, Addr.add]
          go_wp2
          go_ret
          exact ⟨rfl, HB.out⟩


end Go.Proofs.Ytanjoflhpnephaa.PA
