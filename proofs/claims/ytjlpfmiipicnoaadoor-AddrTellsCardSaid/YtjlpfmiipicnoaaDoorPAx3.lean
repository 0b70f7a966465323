/- Written by xprint.py, a program of this session: Go functions that the laws reach, each as a plain Lean function, and the proof that the Go code comes to what it says. No condition but those that each theorem names. -/
import Derived.Test.YtjlpfmiipicnoaaDoorItoa
import Derived.Test.YtjlpfmiipicnoaaDoorPAx0
import Derived.WalkSpells
import Derived.WalkLawsBesides
import Derived.Laws.IdiomStrings
import Derived.Laws.BytesArg
import Derived.Test.YtjlpfmiipicnoaaDoorXAux
namespace Go.Proofs.YtjlpfmiipicnoaaDoor.PA
open Go.RowKit Go.Proofs.YtjlpfmiipicnoaaDoorW.PrintWords Go.Proofs.YtjlpfmiipicnoaaDoorW.PrintLast Go.Proofs.YtjlpfmiipicnoaaDoorW.PrintMore
attribute [local go_sem] max2_int min2_int max_two min_two max_three min_three max_four min_four   -- for this text's walks alone
set_option linter.unusedVariables false
set_option linter.unusedSimpArgs false

-- NOT PRINTED: function 44 (strconv_small)

-- NOT PRINTED: function 48 (strconv_log10Pow2)

-- NOT PRINTED: function 49 (bits_Len64)

-- NOT PRINTED: function 50 (strconv_bool2_int)

-- NOT PRINTED: function 45 (strconv_numDigits)

-- NOT PRINTED: function 46 (strconv_formatBase10)

-- NOT PRINTED: function 51 (strconv_isPowerOfTwo)

-- NOT PRINTED: function 53 (bits_TrailingZeros32)

-- NOT PRINTED: function 54 (bits_TrailingZeros64)

-- NOT PRINTED: function 52 (bits_TrailingZeros)

-- NOT PRINTED: function 47 (strconv_formatBits)

-- NOT PRINTED: function 43 (strconv_FormatInt)

-- NOT PRINTED: function 39 (strconv_Itoa_39)

/-! ### strconv_Itoa_26: function 26 -/
def strconv_Itoa_26.f (a0 : Int) : Option ByteArray := IT.itoaF a0
set_option maxHeartbeats 8000000 in
set_option maxRecDepth 100000 in
theorem strconv_Itoa_26.calls (a0 : Int) (r : ByteArray) (w : World) (h : strconv_Itoa_26.f a0 = some r) (htab : Aside0 (IT.TabP w)) :
  Calls Tryd.prog 26 #[.int .i64 a0] w fun e w' => e = .returned (.string r) ∧ Below w.heap.size w w' := by
 exact IT.itoa_calls a0 r w h htab.out

/-! ### addr_Addr_Text: function 11 -/
def addr_Addr_Text.l0 : Nat → ByteArray → Int → Int → Int → Option (ByteArray)
 | 0, _, _, _, _ => none
 | k + 1, x3, x5, x102000, x102001 => if x5 < 4 then (if x5 > 0 then (if x3.size + 1 ≤ 9223372036854775807 then (if 0 ≤ (wrap64 (24 - (wrap64 (8 * x5)))) then ((strconv_Itoa_26.f ((shr .u32 x102000 (wrap64 (24 - (wrap64 (8 * x5))))) % 256)).bind fun t102 => (if (x3 ++ (⟨#[46]⟩ : ByteArray)).size + t102.size ≤ 9223372036854775807 then (addr_Addr_Text.l0 k ((x3 ++ (⟨#[46]⟩ : ByteArray)) ++ t102) (wrap64 (x5 + 1)) x102000 x102001) else (none))) else (none)) else (none)) else (if 0 ≤ (wrap64 (24 - (wrap64 (8 * x5)))) then ((strconv_Itoa_26.f ((shr .u32 x102000 (wrap64 (24 - (wrap64 (8 * x5))))) % 256)).bind fun t103 => (if x3.size + t103.size ≤ 9223372036854775807 then (addr_Addr_Text.l0 k (x3 ++ t103) (wrap64 (x5 + 1)) x102000 x102001) else (none))) else (none))) else (if x3.size + 1 ≤ 9223372036854775807 then ((strconv_Itoa_26.f (wrap64 (x102001))).bind fun t104 => (if (x3 ++ (⟨#[58]⟩ : ByteArray)).size + t104.size ≤ 9223372036854775807 then (some ((x3 ++ (⟨#[58]⟩ : ByteArray)) ++ t104)) else (none))) else (none))
def addr_Addr_Text.f (k : Nat) (a0_0 : Int) (a0_1 : Int) : Option (ByteArray) := addr_Addr_Text.l0 k (⟨#[]⟩ : ByteArray) 0 a0_0 a0_1
theorem addr_Addr_Text.mono_l : ∀ k, (∀ y0 y1 y2 y3, LeO (addr_Addr_Text.l0 k y0 y1 y2 y3) (addr_Addr_Text.l0 (k + 1) y0 y1 y2 y3))
 | 0 => fun _ _ _ _ r h => by simp [addr_Addr_Text.l0] at h
 | k + 1 => by
  have ih0 := addr_Addr_Text.mono_l k
  ·intro y0 y1 y2 y3
   unfold addr_Addr_Text.l0
   repeat' first
   | (with_reducible exact ih0 _ _ _ _)
   | (with_reducible exact LeO.refl _)
   | (with_reducible exact LeO.none _)
   | (with_reducible refine LeO.ite ?_ ?_)
   | (with_reducible refine LeO.bind ?_ (fun _ => ?_))
   | exact ih0 _ _ _ _
   | exact LeO.none _
   | refine LeO.ite ?_ ?_
   | refine LeO.bind ?_ (fun _ => ?_)
theorem addr_Addr_Text.mono : ∀ a0 a1 k, LeO (addr_Addr_Text.f k a0 a1) (addr_Addr_Text.f (k + 1) a0 a1) := by
 intro a0 a1 k
 have ih0 := addr_Addr_Text.mono_l k
 unfold addr_Addr_Text.f
 repeat' first
   | (with_reducible exact ih0 _ _ _ _)
   | (with_reducible exact LeO.refl _)
   | (with_reducible exact LeO.none _)
   | (with_reducible refine LeO.ite ?_ ?_)
   | (with_reducible refine LeO.bind ?_ (fun _ => ?_))
   | exact ih0 _ _ _ _
   | exact LeO.none _
   | refine LeO.ite ?_ ?_
   | refine LeO.bind ?_ (fun _ => ?_)
set_option maxHeartbeats 8000000 in
set_option maxRecDepth 100000 in
theorem addr_Addr_Text.calls (k : Nat) (a0_0 : Int) (a0_1 : Int) (r : ByteArray) (w : World) (h : addr_Addr_Text.f k a0_0 a0_1 = some r) (htab : Aside0 (IT.TabP w)) :
  Calls Tryd.prog 11 #[.agg #[.int .u32 a0_0, .int .u16 a0_1]] w fun e w' => e = .returned (.string r) ∧ Below w.heap.size w w' := by
 have hu25 := Tryd.underlying25
 have HB := Aside0.mk (Below.refl w.heap.size w)
 have H : (addr_Addr_Text.l0 k (⟨#[]⟩ : ByteArray) 0 a0_0 a0_1) = some r := h
 clear h
 have H' := Aside0.mk H
 clear H
 go_enter Tryd.func11, Tryd.ntmps11
 go_wp2_with (first | ((with_reducible refine gate_dst (N := 1) rfl ?_); refine box_event ?hg (N := 1) ?hd (cs := #[.int .u32 a0_0, .int .u16 a0_1]) (t := 25) ?hr ?_; (case hd => rfl); (case hg => rfl); (case hr => first | (go_simp; done) | (go_simp; rfl)); intro gb101 hg w2 hbox hb; have n0_ := Aside0.mk (below_step (by repeat (first | (with_reducible first | exact HB.out | apply below_alloc | apply pw_below_drewN | apply below_drew1) | exact HB.out)) hb); have n1_ := Aside0.mk (hbox); have n2_ := Aside0.mk ((by rw [hg]; exact (below_size (by repeat (first | (with_reducible first | exact HB.out | apply below_alloc | apply pw_below_drewN | apply below_drew1) | exact HB.out))) : w.heap.size ≤ gb101)); have n3_ := Aside0.mk ((by rw [hg]; exact (below_size (by repeat (first | (with_reducible first | exact HB.out | apply below_alloc | apply pw_below_drewN | apply below_drew1) | exact HB.out))) : w.heap.size ≤ gb101)); clear HB; have HB := n0_; have BK101 := n1_; have GW101 := n2_; have GE101 := n3_; clear n0_ n1_ n2_ n3_; clear hb hbox hg))
 go_loopg [3, 5] k (fun kq v3 v5 w' => ∃ (x3_1 : ByteArray) (x5_1 : Int), v3 = .string x3_1 ∧ v5 = .int .i64 x5_1 ∧ Aside0 (addr_Addr_Text.l0 kq x3_1 x5_1 a0_0 a0_1 = some r) ∧ Aside0 (kq ≤ k) ∧ Aside0 (w'.heap[gb101]? = some (.cells #[.int .u32 a0_0, .int .u16 a0_1] 25 (0, 0))) ∧ Aside0 (Below w.heap.size w w'))
 case atStart => exact ⟨((⟨#[]⟩ : ByteArray)), (0), (by first | rfl | (simp; done) | (simp [*]; done)), (by first | rfl | (simp; done) | (simp [*]; done)), H', ⟨Nat.le_refl _⟩, ⟨by (with_reducible repeat (first | refine blk_drewN ?_ _ | refine blk_drew ?_ | refine blk_alloc ?_ _)); exact BK101.out⟩, ⟨by repeat (first | (with_reducible first | exact HB.out | apply below_alloc | apply pw_below_drewN | apply below_drew1 | refine below_set ?_ GE101.out) | exact HB.out)⟩⟩
 case round =>
  clear H'
  try clear c1
  try clear p2
  obtain ⟨x3_1, x5_1, rfl, rfl, HA, HK1, BK101, HB⟩ := hrel
  cases gk with
  | zero => exact absurd HA.out (by simp [addr_Addr_Text.l0])
  | succ k1 =>
   have H := HA.out
   clear HA
   simp only [addr_Addr_Text.l0] at H
   by_cases c3 : x5_1 < 4
   ·rw [if_pos c3] at H
    have c3b0 : decide (x5_1 < 4) = true := decide_eq_true c3
    clear c3
    by_cases c4 : x5_1 > 0
    ·rw [if_pos c4] at H
     have c4b0 : decide (0 < x5_1) = true := decide_eq_true c4
     clear c4
     by_cases c5 : x3_1.size + 1 ≤ 9223372036854775807
     ·rw [if_pos c5] at H
      have c5b0 := eq_true c5
      have c5b1 : decide (x3_1.size + 1 ≤ 9223372036854775807) = true := decide_eq_true c5
      try have c5b2 : (9223372036854775807 < x3_1.size + 1) = False := eq_false (Nat.not_lt.2 c5)
      obtain ⟨ji6, hji6⟩ : ∃ j_ : Int, (wrap64 (24 - (wrap64 (8 * x5_1)))) = j_ := ⟨_, rfl⟩
      replace H : (if 0 ≤ (ji6) then ((strconv_Itoa_26.f ((shr .u32 a0_0 (ji6)) % 256)).bind fun t102 => (if (x3_1 ++ (⟨#[46]⟩ : ByteArray)).size + t102.size ≤ 9223372036854775807 then (addr_Addr_Text.l0 k1 ((x3_1 ++ (⟨#[46]⟩ : ByteArray)) ++ t102) (wrap64 (x5_1 + 1)) a0_0 a0_1) else (none))) else (none)) = some r := by first | (rw [hji6] at H; exact H) | (simp only [hji6] at H ⊢; exact H)
      have hji6w : (IntKind.i64.wrap (24 - (wrap64 (8 * x5_1)))) = ji6 := (i64_w _).trans hji6
      by_cases c7 : 0 ≤ (ji6)
      ·rw [if_pos c7] at H
       have c7b0 := eq_true c7
       have c7b1 : decide (0 ≤ (ji6)) = true := decide_eq_true c7
       clear c7
       obtain ⟨ji8, hji8⟩ : ∃ j_ : Int, (shr .u32 a0_0 (ji6)) = j_ := ⟨_, rfl⟩
       replace H : ((strconv_Itoa_26.f ((ji8) % 256)).bind fun t102 => (if (x3_1 ++ (⟨#[46]⟩ : ByteArray)).size + t102.size ≤ 9223372036854775807 then (addr_Addr_Text.l0 k1 ((x3_1 ++ (⟨#[46]⟩ : ByteArray)) ++ t102) (wrap64 (x5_1 + 1)) a0_0 a0_1) else (none))) = some r := by first | (rw [hji8] at H; exact H) | (simp only [hji8] at H ⊢; exact H)
       have hji8_ : (a0_0 / 2 ^ min (ji6).toNat 32) = ji8 := hji8
       have hji8z : (ji6) ≤ 32 → (a0_0 / 2 ^ (ji6).toNat) = ji8 := shr_small hji8
       replace H := Option.bind_eq_some_iff.mp H
       obtain ⟨t102, A90, H⟩ := H
       replace H : (if (x3_1 ++ (⟨#[46]⟩ : ByteArray)).size + t102.size ≤ 9223372036854775807 then (addr_Addr_Text.l0 k1 ((x3_1 ++ (⟨#[46]⟩ : ByteArray)) ++ t102) (wrap64 (x5_1 + 1)) a0_0 a0_1) else (none)) = some r := H
       have A9 := Aside0.mk A90
       clear A90
       by_cases c10 : (x3_1 ++ (⟨#[46]⟩ : ByteArray)).size + t102.size ≤ 9223372036854775807
       ·rw [if_pos c10] at H
        have c10b0 := eq_true c10
        (try (have c10b0z := c10b0; simp only [ByteArray.size_append, Int.natCast_add] at c10b0z))
        (try (have c10z := c10; simp only [ByteArray.size_append, Int.natCast_add] at c10z))
        have c10b1 : decide ((x3_1 ++ (⟨#[46]⟩ : ByteArray)).size + t102.size ≤ 9223372036854775807) = true := decide_eq_true c10
        (try (have c10b1z := c10b1; simp only [ByteArray.size_append, Int.natCast_add] at c10b1z))
        try have c10b2 : (9223372036854775807 < (x3_1 ++ (⟨#[46]⟩ : ByteArray)).size + t102.size) = False := eq_false (Nat.not_lt.2 c10)
        try have c10b3 : (9223372036854775807 < x3_1.size + (⟨#[46]⟩ : ByteArray).size + t102.size) = False := eq_false (by have h_ := c10; simp only [ByteArray.size_append] at h_; omega)
        try have c10b4 : (9223372036854775807 < x3_1.size + 1 + t102.size) = False := eq_false (by have h_ := c10; simp only [ByteArray.size_append] at h_; exact Nat.not_lt.2 h_)
        have H' := Aside0.mk H
        clear H
        have hcz11_0 : wr.cell? ⟨gb101, 0, none⟩ = some (.int .u32 a0_0) := (blk_cell BK101.out 0).trans rfl
        have hcz11_1 : wr.cell? ⟨gb101, 1, none⟩ = some (.int .u16 a0_1) := (blk_cell BK101.out 1).trans rfl
        have hfz11_0 := blk_frozen BK101.out 0
        have hfz11_1 := blk_frozen BK101.out 1
        go_wp2_with (first | ((with_reducible refine gate_callee (f := 26) rfl ?_); refine goesL_ (some 21) rfl rfl Tryd.func26 (by kernel_rfl) rfl #[.int .i64 ((ji8) % 256)] rfl (by (try simp only [List.map_toArray, List.map_cons, List.map_nil]); first | done | (simp only [hji8]; rfl) | rfl | (simp only [List.length_drop, List.length_take]; rfl)) ?_; (with_reducible refine (strconv_Itoa_26.calls ((ji8) % 256) t102 _ A9.out ?htb).mono ?_); (case htb => exact ⟨IT.tab_below htab.out (by repeat (first | (with_reducible first | exact HB.out | apply below_alloc | apply pw_below_drewN | apply below_drew1 | refine below_set ?_ GE101.out) | exact HB.out))⟩); rintro e w12 ⟨rfl, hb⟩; refine ⟨_, rfl, ?_⟩; have n0_ := Aside0.mk (blk_below (g := gb101) (o := .cells #[.int .u32 a0_0, .int .u16 a0_1] 25 (0, 0)) (by (with_reducible repeat (first | refine blk_drewN ?_ _ | refine blk_drew ?_ | refine blk_alloc ?_ _)); exact BK101.out) hb); have n1_ := Aside0.mk (below_step (by repeat (first | (with_reducible first | exact HB.out | apply below_alloc | apply pw_below_drewN | apply below_drew1 | refine below_set ?_ GE101.out) | exact HB.out)) hb); clear BK101; clear HB; have BK101 := n0_; have HB := n1_; clear n0_ n1_; (try clear hb); (try clear hb2); (try clear hk); (try clear hi)))
        go_roundg k1
        case measure => have := HK1.out; omega
        case rel => exact ⟨((x3_1 ++ (⟨#[46]⟩ : ByteArray)) ++ t102), (wrap64 (x5_1 + 1)), (by first | rfl | (simp; done) | (simp [*]; done)), (by first | rfl | (simp; done) | (simp [*]; done)), H', ⟨by have := HK1.out; omega⟩, ⟨by (with_reducible repeat (first | refine blk_drewN ?_ _ | refine blk_drew ?_ | refine blk_alloc ?_ _)); exact BK101.out⟩, ⟨by repeat (first | (with_reducible first | exact HB.out | apply below_alloc | apply pw_below_drewN | apply below_drew1 | refine below_set ?_ GE101.out) | exact HB.out)⟩⟩
       ·(first | rw [if_neg c10] at H | exact absurd rfl c10)
        exact absurd H (by simp)
      ·(first | rw [if_neg c7] at H | exact absurd rfl c7)
       exact absurd H (by simp)
     ·(first | rw [if_neg c5] at H | exact absurd rfl c5)
      exact absurd H (by simp)
    ·(first | rw [if_neg c4] at H | exact absurd rfl c4)
     have c4b0 : decide (0 < x5_1) = false := decide_eq_false c4
     clear c4
     obtain ⟨ji13, hji13⟩ : ∃ j_ : Int, (wrap64 (24 - (wrap64 (8 * x5_1)))) = j_ := ⟨_, rfl⟩
     replace H : (if 0 ≤ (ji13) then ((strconv_Itoa_26.f ((shr .u32 a0_0 (ji13)) % 256)).bind fun t103 => (if x3_1.size + t103.size ≤ 9223372036854775807 then (addr_Addr_Text.l0 k1 (x3_1 ++ t103) (wrap64 (x5_1 + 1)) a0_0 a0_1) else (none))) else (none)) = some r := by first | (rw [hji13] at H; exact H) | (simp only [hji13] at H ⊢; exact H)
     have hji13w : (IntKind.i64.wrap (24 - (wrap64 (8 * x5_1)))) = ji13 := (i64_w _).trans hji13
     by_cases c14 : 0 ≤ (ji13)
     ·rw [if_pos c14] at H
      have c14b0 := eq_true c14
      have c14b1 : decide (0 ≤ (ji13)) = true := decide_eq_true c14
      clear c14
      obtain ⟨ji15, hji15⟩ : ∃ j_ : Int, (shr .u32 a0_0 (ji13)) = j_ := ⟨_, rfl⟩
      replace H : ((strconv_Itoa_26.f ((ji15) % 256)).bind fun t103 => (if x3_1.size + t103.size ≤ 9223372036854775807 then (addr_Addr_Text.l0 k1 (x3_1 ++ t103) (wrap64 (x5_1 + 1)) a0_0 a0_1) else (none))) = some r := by first | (rw [hji15] at H; exact H) | (simp only [hji15] at H ⊢; exact H)
      have hji15_ : (a0_0 / 2 ^ min (ji13).toNat 32) = ji15 := hji15
      have hji15z : (ji13) ≤ 32 → (a0_0 / 2 ^ (ji13).toNat) = ji15 := shr_small hji15
      replace H := Option.bind_eq_some_iff.mp H
      obtain ⟨t103, A160, H⟩ := H
      replace H : (if x3_1.size + t103.size ≤ 9223372036854775807 then (addr_Addr_Text.l0 k1 (x3_1 ++ t103) (wrap64 (x5_1 + 1)) a0_0 a0_1) else (none)) = some r := H
      have A16 := Aside0.mk A160
      clear A160
      by_cases c17 : x3_1.size + t103.size ≤ 9223372036854775807
      ·rw [if_pos c17] at H
       obtain ⟨yc17, hyc17⟩ : ∃ y_ : ByteArray, x3_1 ++ t103 = y_ := ⟨_, rfl⟩
       (try rw [hyc17] at H)
       have c17b0 := eq_true c17
       have c17b1 : decide (x3_1.size + t103.size ≤ 9223372036854775807) = true := decide_eq_true c17
       try have c17b2 : (9223372036854775807 < x3_1.size + t103.size) = False := eq_false (Nat.not_lt.2 c17)
       have H' := Aside0.mk H
       clear H
       have hcz18_0 : wr.cell? ⟨gb101, 0, none⟩ = some (.int .u32 a0_0) := (blk_cell BK101.out 0).trans rfl
       have hcz18_1 : wr.cell? ⟨gb101, 1, none⟩ = some (.int .u16 a0_1) := (blk_cell BK101.out 1).trans rfl
       have hfz18_0 := blk_frozen BK101.out 0
       have hfz18_1 := blk_frozen BK101.out 1
       go_wp2_with (first | ((with_reducible refine gate_callee (f := 26) rfl ?_); refine goesL_ (some 21) rfl rfl Tryd.func26 (by kernel_rfl) rfl #[.int .i64 ((ji15) % 256)] rfl (by (try simp only [List.map_toArray, List.map_cons, List.map_nil]); first | done | (simp only [hji15]; rfl) | rfl | (simp only [List.length_drop, List.length_take]; rfl)) ?_; (with_reducible refine (strconv_Itoa_26.calls ((ji15) % 256) t103 _ A16.out ?htb).mono ?_); (case htb => exact ⟨IT.tab_below htab.out (by repeat (first | (with_reducible first | exact HB.out | apply below_alloc | apply pw_below_drewN | apply below_drew1 | refine below_set ?_ GE101.out) | exact HB.out))⟩); rintro e w19 ⟨rfl, hb⟩; refine ⟨_, rfl, ?_⟩; have n0_ := Aside0.mk (blk_below (g := gb101) (o := .cells #[.int .u32 a0_0, .int .u16 a0_1] 25 (0, 0)) (by (with_reducible repeat (first | refine blk_drewN ?_ _ | refine blk_drew ?_ | refine blk_alloc ?_ _)); exact BK101.out) hb); have n1_ := Aside0.mk (below_step (by repeat (first | (with_reducible first | exact HB.out | apply below_alloc | apply pw_below_drewN | apply below_drew1 | refine below_set ?_ GE101.out) | exact HB.out)) hb); clear BK101; clear HB; have BK101 := n0_; have HB := n1_; clear n0_ n1_; (try clear hb); (try clear hb2); (try clear hk); (try clear hi)))
       go_roundg k1
       case measure => have := HK1.out; omega
       case rel => exact ⟨yc17, (wrap64 (x5_1 + 1)), (by first | rfl | (simp; done) | (simp [*]; done)), (by first | rfl | (simp; done) | (simp [*]; done)), H', ⟨by have := HK1.out; omega⟩, ⟨by (with_reducible repeat (first | refine blk_drewN ?_ _ | refine blk_drew ?_ | refine blk_alloc ?_ _)); exact BK101.out⟩, ⟨by repeat (first | (with_reducible first | exact HB.out | apply below_alloc | apply pw_below_drewN | apply below_drew1 | refine below_set ?_ GE101.out) | exact HB.out)⟩⟩
      ·(first | rw [if_neg c17] at H | exact absurd rfl c17)
       exact absurd H (by simp)
     ·(first | rw [if_neg c14] at H | exact absurd rfl c14)
      exact absurd H (by simp)
   ·(first | rw [if_neg c3] at H | exact absurd rfl c3)
    have c3b0 : decide (x5_1 < 4) = false := decide_eq_false c3
    clear c3
    by_cases c20 : x3_1.size + 1 ≤ 9223372036854775807
    ·rw [if_pos c20] at H
     have c20b0 := eq_true c20
     have c20b1 : decide (x3_1.size + 1 ≤ 9223372036854775807) = true := decide_eq_true c20
     try have c20b2 : (9223372036854775807 < x3_1.size + 1) = False := eq_false (Nat.not_lt.2 c20)
     replace H := Option.bind_eq_some_iff.mp H
     obtain ⟨t104, A210, H⟩ := H
     replace H : (if (x3_1 ++ (⟨#[58]⟩ : ByteArray)).size + t104.size ≤ 9223372036854775807 then (some ((x3_1 ++ (⟨#[58]⟩ : ByteArray)) ++ t104)) else (none)) = some r := H
     have A21 := Aside0.mk A210
     clear A210
     by_cases c22 : (x3_1 ++ (⟨#[58]⟩ : ByteArray)).size + t104.size ≤ 9223372036854775807
     ·rw [if_pos c22] at H
      have c22b0 := eq_true c22
      (try (have c22b0z := c22b0; simp only [ByteArray.size_append, Int.natCast_add] at c22b0z))
      (try (have c22z := c22; simp only [ByteArray.size_append, Int.natCast_add] at c22z))
      have c22b1 : decide ((x3_1 ++ (⟨#[58]⟩ : ByteArray)).size + t104.size ≤ 9223372036854775807) = true := decide_eq_true c22
      (try (have c22b1z := c22b1; simp only [ByteArray.size_append, Int.natCast_add] at c22b1z))
      try have c22b2 : (9223372036854775807 < (x3_1 ++ (⟨#[58]⟩ : ByteArray)).size + t104.size) = False := eq_false (Nat.not_lt.2 c22)
      try have c22b3 : (9223372036854775807 < x3_1.size + (⟨#[58]⟩ : ByteArray).size + t104.size) = False := eq_false (by have h_ := c22; simp only [ByteArray.size_append] at h_; omega)
      try have c22b4 : (9223372036854775807 < x3_1.size + 1 + t104.size) = False := eq_false (by have h_ := c22; simp only [ByteArray.size_append] at h_; exact Nat.not_lt.2 h_)
      obtain rfl := Option.some.inj H
      have hcz23_0 : wr.cell? ⟨gb101, 0, none⟩ = some (.int .u32 a0_0) := (blk_cell BK101.out 0).trans rfl
      have hcz23_1 : wr.cell? ⟨gb101, 1, none⟩ = some (.int .u16 a0_1) := (blk_cell BK101.out 1).trans rfl
      have hfz23_0 := blk_frozen BK101.out 0
      have hfz23_1 := blk_frozen BK101.out 1
      go_wp2_with (first | ((with_reducible refine gate_callee (f := 26) rfl ?_); refine goesL_ (some 29) rfl rfl Tryd.func26 (by kernel_rfl) rfl #[.int .i64 (wrap64 (a0_1))] rfl (by (try simp only [List.map_toArray, List.map_cons, List.map_nil]); first | done | rfl | (simp only [List.length_drop, List.length_take]; rfl)) ?_; (with_reducible refine (strconv_Itoa_26.calls (wrap64 (a0_1)) t104 _ A21.out ?htb).mono ?_); (case htb => exact ⟨IT.tab_below htab.out (by repeat (first | (with_reducible first | exact HB.out | apply below_alloc | apply pw_below_drewN | apply below_drew1 | refine below_set ?_ GE101.out) | exact HB.out))⟩); rintro e w24 ⟨rfl, hb⟩; refine ⟨_, rfl, ?_⟩; have n0_ := Aside0.mk (blk_below (g := gb101) (o := .cells #[.int .u32 a0_0, .int .u16 a0_1] 25 (0, 0)) (by (with_reducible repeat (first | refine blk_drewN ?_ _ | refine blk_drew ?_ | refine blk_alloc ?_ _)); exact BK101.out) hb); have n1_ := Aside0.mk (below_step (by repeat (first | (with_reducible first | exact HB.out | apply below_alloc | apply pw_below_drewN | apply below_drew1 | refine below_set ?_ GE101.out) | exact HB.out)) hb); clear BK101; clear HB; have BK101 := n0_; have HB := n1_; clear n0_ n1_; (try clear hb); (try clear hb2); (try clear hk); (try clear hi)))
      go_ret
      exact ⟨by first | rfl | (simp only [Go.Proofs.YtjlpfmiipicnoaaDoorX.ne_nil, Go.Proofs.YtjlpfmiipicnoaaDoorX.eq_nil]; rfl) | (simp [Go.Proofs.YtjlpfmiipicnoaaDoorX.ne_nil, Go.Proofs.YtjlpfmiipicnoaaDoorX.eq_nil]; done) | (simp [errW_none, errW_some] <;> rfl) | (simp [*, errW_none, errW_some] <;> rfl), by repeat (first | (with_reducible first | exact HB.out | apply below_alloc | apply pw_below_drewN | apply below_drew1 | refine below_set ?_ GE101.out) | exact HB.out)⟩
     ·(first | rw [if_neg c22] at H | exact absurd rfl c22)
      exact absurd H (by simp)
    ·(first | rw [if_neg c20] at H | exact absurd rfl c20)
     exact absurd H (by simp)

/-! ### pack_Number: function 28 -/

/-- The bytes of a number: the greatest first. -/
def numB (a : Int) (m : Nat) : List Int := (List.range m).map fun (k : Nat) => a / 2 ^ (8 * (m - 1 - k)) % 256
def numCells (a : Int) (m k : Nat) : Array Value := ((List.range 8).map fun (j : Nat) => Value.int .u8 (if j < k then a / 2 ^ (8 * (m - 1 - j)) % 256 else 0)).toArray
theorem numCells_zero (a : Int) (m : Nat) : numCells a m 0 = #[.int .u8 0, .int .u8 0, .int .u8 0, .int .u8 0, .int .u8 0, .int .u8 0, .int .u8 0, .int .u8 0] := rfl
theorem numCells_get (a : Int) (m k j : Nat) (hj : j < 8) : (numCells a m k)[j]? = some (.int .u8 (if j < k then a / 2 ^ (8 * (m - 1 - j)) % 256 else 0)) := by
 simp [numCells, hj]
theorem numCells_set (a : Int) (m k : Nat) (hk : k < 8) : (numCells a m k).setIfInBounds k (.int .u8 (a / 2 ^ (8 * (m - 1 - k)) % 256)) = numCells a m (k + 1) := by
 apply Array.ext_getElem?
 intro i
 rw [Array.getElem?_setIfInBounds]
 by_cases h : k = i
 ·subst h
  rw [if_pos rfl, if_pos (by simpa [numCells] using hk), numCells_get _ _ _ _ hk, if_pos (by omega)]
 ·rw [if_neg h]
  rcases Nat.lt_or_ge i 8 with hi | hi
  ·rw [numCells_get _ _ _ _ hi, numCells_get _ _ _ _ hi]
   by_cases hik : i < k
   ·rw [if_pos hik, if_pos (by omega)]
   ·rw [if_neg hik, if_neg (by omega)]
  ·rw [Array.getElem?_eq_none (by simpa [numCells] using hi), Array.getElem?_eq_none (by simpa [numCells] using hi)]
theorem numB_reads {w : World} {gb : Nat} (a : Int) (m : Nat) (hm : m ≤ 8) (h : w.heap[gb]? = some (.cells (numCells a m m) 66 (0, 0))) : Kd.C (Kd.int .u8) w (some ⟨gb, 0, none⟩) m (numB a m) := by
 refine ⟨by simp [numB], by omega, fun _ => ⟨_, rfl, fun j p hj => ?_⟩⟩
 have hjm : j < m := by
  have := (List.getElem?_eq_some_iff.1 hj).1
  simpa [numB] using this
 have hp : a / 2 ^ (8 * (m - 1 - j)) % 256 = p := by simpa [numB, hjm] using hj
 refine ⟨[.int .u8 p], rfl, rfl, fun i u hu => ?_⟩
 obtain rfl : i = 0 := by have := (List.getElem?_eq_some_iff.1 hu).1; simp at this; omega
 obtain rfl : Value.int .u8 p = u := by simpa using hu
 have hc := blk_cell h j
 rw [numCells_get a m m j (by omega), if_pos hjm, hp] at hc
 show w.cell? (Addr.add ⟨gb, 0, none⟩ (j * 1 + 0)) = _
 rw [show Addr.add ⟨gb, 0, none⟩ (j * 1 + 0) = ⟨gb, j, none⟩ by simp only [Addr.add]; split <;> simp_all]
 exact hc
def pack_Number.f (a0 : Int) (a1 : Int) : Option ByteArray := if a1 < 1 then some ⟨#[]⟩ else if a1 > 8 then some ⟨#[]⟩ else some (strOfNums (numB a0 a1.toNat))
set_option maxHeartbeats 8000000 in
set_option maxRecDepth 100000 in
theorem pack_Number.calls (a0 : Int) (a1 : Int) (r : ByteArray) (w : World) (h : pack_Number.f a0 a1 = some r) :
  Calls Tryd.prog 28 #[.int .u64 a0, .int .i64 a1] w fun e w' => e = .returned (.string r) ∧ Below w.heap.size w w' := by
 unfold pack_Number.f at h
 have hu40 := Tryd.underlying35
 by_cases h1 : a1 < 1
 ·rw [if_pos h1] at h
  obtain rfl := Option.some.inj h
  clear h
  have h1b : decide (a1 < 1) = true := decide_eq_true h1
  go_enter Tryd.func28, Tryd.ntmps28
  go_wp2
  go_ret
  exact ⟨rfl, Below.refl _ _⟩
 ·rw [if_neg h1] at h
  have h1b : decide (a1 < 1) = false := decide_eq_false h1
  by_cases h2 : a1 > 8
  ·rw [if_pos h2] at h
   obtain rfl := Option.some.inj h
   clear h
   have h2b : decide (8 < a1) = true := decide_eq_true h2
   go_enter Tryd.func28, Tryd.ntmps28
   go_wp2
   go_ret
   exact ⟨rfl, Below.refl _ _⟩
  ·rw [if_neg h2] at h
   obtain rfl := Option.some.inj h
   clear h
   obtain ⟨m, rfl⟩ : ∃ m : Nat, a1 = (m : Int) := ⟨a1.toNat, by omega⟩
   have h2b : decide (8 < (m : Int)) = false := decide_eq_false h2
   have hm1 : 1 ≤ m := by omega
   have hm8 : m ≤ 8 := by omega
   simp only [Int.toNat_natCast]
   clear h1 h2
   go_enter Tryd.func28, Tryd.ntmps28
   go_wp2_with fail
   go_loopw [14] (fun v wr => ∃ k : Nat, k ≤ m ∧ v = .int .i64 k ∧ Aside0 (wr.heap[w.heap.size]? = some (.cells (numCells a0 m k) 66 (0, 0))) ∧ Aside0 (Below w.heap.size w wr)) (fun v _ => m - (intOf v).toNat)
   case atStart => exact ⟨0, Nat.zero_le _, rfl, ⟨blk_new _ _⟩, ⟨below_alloc (Below.refl _ _) _⟩⟩
   case round =>
    obtain ⟨k, hk, rfl, BK, HB⟩ := hrel
    have hcz := blk_cell BK.out k
    have hfz := blk_frozen BK.out k
    by_cases hlt : k < m
    ·rw [numCells_get _ _ _ _ (by omega)] at hcz
     have HST := Aside0.mk (numCells_set a0 m k (by omega))
     go_wp2
     go_roundw
     case rel => exact ⟨k + 1, by omega, by go_num, ⟨blk_put BK.out k _ HST.out⟩, ⟨below_set HB.out (Nat.le_refl _)⟩⟩
     case measure => simp [intOf]; omega
    ·obtain rfl : k = m := by omega
     have hconv := Kd.C_string (P := Tryd.prog) (src := 35) (dst := 9) (e := 5) (c := 8) Tryd.underlying35 Tryd.underlying5 Tryd.underlying9 (numB_reads a0 k hm8 BK.out)
     have hsl : ∀ (a : Addr) (W : World), (Instr.sliceAt 66 (.pointer (some a)) none (some (.int .i64 (k : Int))) none).run Tryd.prog W = .ok (.slice (some a) k 8) W := by
      intro a W
      have hal : Tryd.prog.arrayLen 66 = 8 := by kernel_rfl
      have hse : (sizeOf (Tryd.prog.elem 66)).run Tryd.prog W = .ok 1 W := by kernel_rfl
      rw [run_sliceAt_array_h W 66 a (by rw [hal]; kernel_rfl) .i64 k (by omega) (by rw [hal]; omega), hal, hse]
      simp [Result.andThen, slicedAt, Addr.add]
     go_wp2
     go_ret
     exact ⟨rfl, HB.out⟩


end Go.Proofs.YtjlpfmiipicnoaaDoor.PA
