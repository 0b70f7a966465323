/- The plain mathematics of chapter 13: what the printed functions of package draw come to, as total functions over numbers and lists. -/
import Derived.Test.YtmoepfmgpfjppaaPAx
import Derived.Laws.BitsAllLaws
namespace Go.Proofs.Ytmoepfmgpfjppaa.MA
open Go Go.RowKit Go.Proofs.Ytmoepfmgpfjppaa.PA Go.Proofs.YtmoepfmgpfjppaaW.PrintWords Go.Proofs.YtmoepfmgpfjppaaW.PrintLast Go.Proofs.YtmoepfmgpfjppaaW.PrintMore

theorem wrap_u64 (n : Int) : IntKind.u64.wrap n = n % 18446744073709551616 := by simp [IntKind.wrap, IntKind.bits, IntKind.signed]
theorem wrap64_id {n : Int} (h0 : -9223372036854775808 ≤ n) (h1 : n < 9223372036854775808) : wrap64 n = n := by unfold wrap64; omega
theorem wf_u64 {n : Int} (h : (Lit.int .u64 n).wf = true) : 0 ≤ n ∧ n < 18446744073709551616 := by
  simp [Lit.wf, IntKind.min, IntKind.max, IntKind.signed, IntKind.bits] at h
  omega
theorem wf_i64 {n : Int} (h : (Lit.int .i64 n).wf = true) : -9223372036854775808 ≤ n ∧ n < 9223372036854775808 := by
  simp [Lit.wf, IntKind.min, IntKind.max, IntKind.signed, IntKind.bits] at h
  omega
theorem wf_u8 {n : Int} (h : (Lit.int .u8 n).wf = true) : 0 ≤ n ∧ n < 256 := by
  simp [Lit.wf, IntKind.min, IntKind.max, IntKind.signed, IntKind.bits] at h
  omega
theorem wf_u32 {n : Int} (h : (Lit.int .u32 n).wf = true) : 0 ≤ n ∧ n < 4294967296 := by
  simp [Lit.wf, IntKind.min, IntKind.max, IntKind.signed, IntKind.bits] at h
  omega
theorem wf_i8 {n : Int} (h : (Lit.int .i8 n).wf = true) : -128 ≤ n ∧ n < 128 := by
  simp [Lit.wf, IntKind.min, IntKind.max, IntKind.signed, IntKind.bits] at h
  omega

/-! ## a draw -/
theorem xor_rng {a b : Int} (h1 : 0 ≤ a) (h2 : a < 18446744073709551616) (h3 : 0 ≤ b) (h4 : b < 18446744073709551616) : 0 ≤ Go.bits .xor .u64 a b ∧ Go.bits .xor .u64 a b < 18446744073709551616 := by
  rw [u64_xor a b h1 h2 h3 h4]
  have := Nat.xor_lt_two_pow (x := a.toNat) (y := b.toNat) (n := 64) (by omega) (by omega)
  omega

/-- One scramble: x xor x >> s, times c. -/
def sx (x : Int) (d : Int) : Int := Go.bits .xor .u64 x (x / d)
theorem sx_rng {x d : Int} (h1 : 0 ≤ x) (h2 : x < 18446744073709551616) (hd : 0 < d) : 0 ≤ sx x d ∧ sx x d < 18446744073709551616 := by
  have h3 : 0 ≤ x / d := Int.ediv_nonneg h1 (by omega)
  have h4 : x / d ≤ x := Int.ediv_le_self d h1
  exact xor_rng h1 h2 h3 (by omega)
theorem sx_inj {x y : Int} (s : Nat) (hs : 0 < s) {d : Int} (hd : d = ((2 ^ s : Nat) : Int)) (hx0 : 0 ≤ x) (hx : x < 18446744073709551616) (hy0 : 0 ≤ y) (hy : y < 18446744073709551616) (h : sx x d = sx y d) : x = y := by
  subst hd
  have hp : 0 < 2 ^ s := Nat.pos_of_ne_zero (by simp)
  obtain ⟨a, rfl⟩ := Int.eq_ofNat_of_zero_le hx0
  obtain ⟨b, rfl⟩ := Int.eq_ofNat_of_zero_le hy0
  have ha : a / 2 ^ s ≤ a := Nat.div_le_self _ _
  have hb : b / 2 ^ s ≤ b := Nat.div_le_self _ _
  unfold sx at h
  rw [← Int.natCast_ediv, ← Int.natCast_ediv, u64_xor_nat _ _ (by omega) (by omega), u64_xor_nat _ _ (by omega) (by omega)] at h
  have h' : a ^^^ (a / 2 ^ s) = b ^^^ (b / 2 ^ s) := by omega
  have hbit : ∀ i, (a.testBit i ^^ a.testBit (i + s)) = (b.testBit i ^^ b.testBit (i + s)) := by
    intro i
    have := congrArg (fun z => z.testBit i) h'
    simpa [Nat.testBit_xor, Nat.testBit_div_two_pow] using this
  have key : ∀ d i, 64 ≤ i + d → a.testBit i = b.testBit i := by
    intro d
    induction d with
    | zero =>
      intro i hi
      have hp : 2 ^ 64 ≤ 2 ^ i := Nat.pow_le_pow_right (by omega) (by omega)
      rw [Nat.testBit_lt_two_pow (show a < 2 ^ i by omega), Nat.testBit_lt_two_pow (show b < 2 ^ i by omega)]
    | succ d ih =>
      intro i hi
      have h1 := hbit i
      rw [ih (i + s) (by omega)] at h1
      cases h2 : a.testBit i <;> cases h3 : b.testBit i <;> cases h4 : b.testBit (i + s) <;> simp_all
  have : a = b := Nat.eq_of_testBit_eq fun i => key 64 i (by omega)
  rw [this]
theorem mul_inj {x y c c' : Int} (hc : (c * c') % 18446744073709551616 = 1) (hx0 : 0 ≤ x) (hx : x < 18446744073709551616) (hy0 : 0 ≤ y) (hy : y < 18446744073709551616) (h : (x * c) % 18446744073709551616 = (y * c) % 18446744073709551616) : x = y := by
  have key : ∀ z : Int, 0 ≤ z → z < 18446744073709551616 → ((z * c) % 18446744073709551616 * c') % 18446744073709551616 = z := by
    intro z h0 h1
    rw [Int.mul_emod ((z * c) % 18446744073709551616) c' 18446744073709551616, Int.emod_emod, ← Int.mul_emod, Int.mul_assoc, Int.mul_emod z (c * c') 18446744073709551616, hc, Int.mul_one, Int.emod_emod]
    exact Int.emod_eq_of_lt h0 h1
  rw [← key x hx0 hx, ← key y hy0 hy, h]

def nxt (s : Int) : Int × Int := ((draw_Stream_Next.f s).getD (0, 0))
theorem next_some (s : Int) : draw_Stream_Next.f s = some (nxt s) := rfl
theorem next_ref (s : Int) : scuttlebuttref01_Stream_Next.f s = some (nxt s) := rfl
theorem nxt_snd (s : Int) : (nxt s).2 = (s + 11400714819323198485) % 18446744073709551616 := by
  unfold nxt draw_Stream_Next.f
  simp only [Option.getD_some, wrap_u64]
theorem nxt_fst (s : Int) : (nxt s).1 = sx ((sx ((sx ((s + 11400714819323198485) % 18446744073709551616) 1073741824 * 13787848793156543929) % 18446744073709551616) 134217728 * 10723151780598845931) % 18446744073709551616) 2147483648 := by
  unfold nxt draw_Stream_Next.f sx
  simp only [Option.getD_some, wrap_u64]
theorem mod_rng (n : Int) : 0 ≤ n % 18446744073709551616 ∧ n % 18446744073709551616 < 18446744073709551616 := by omega
theorem nxt_rng (s : Int) : 0 ≤ (nxt s).1 ∧ (nxt s).1 < 18446744073709551616 := by
  rw [nxt_fst]
  exact sx_rng (mod_rng _).1 (mod_rng _).2 (by decide)
theorem step_inj {s t : Int} (hs0 : 0 ≤ s) (hs : s < 18446744073709551616) (ht0 : 0 ≤ t) (ht : t < 18446744073709551616) (h : (s + 11400714819323198485) % 18446744073709551616 = (t + 11400714819323198485) % 18446744073709551616) : s = t := by omega
theorem nxt_inj {s t : Int} (hs0 : 0 ≤ s) (hs : s < 18446744073709551616) (ht0 : 0 ≤ t) (ht : t < 18446744073709551616) (h : (nxt s).1 = (nxt t).1) : s = t := by
  rw [nxt_fst, nxt_fst] at h
  have h1 := sx_inj 31 (by decide) (by decide) (mod_rng _).1 (mod_rng _).2 (mod_rng _).1 (mod_rng _).2 h
  have r1 := fun z => sx_rng (mod_rng z).1 (mod_rng z).2 (show (0 : Int) < 1073741824 by decide)
  have r2 := fun z => sx_rng (mod_rng z).1 (mod_rng z).2 (show (0 : Int) < 134217728 by decide)
  have h2 := mul_inj (c' := 3573116690164977347) (by decide) (r2 _).1 (r2 _).2 (r2 _).1 (r2 _).2 h1
  have h3 := sx_inj 27 (by decide) (by decide) (mod_rng _).1 (mod_rng _).2 (mod_rng _).1 (mod_rng _).2 h2
  have h4 := mul_inj (c' := 10871156337175269513) (by decide) (r1 _).1 (r1 _).2 (r1 _).1 (r1 _).2 h3
  have h5 := sx_inj 30 (by decide) (by decide) (mod_rng _).1 (mod_rng _).2 (mod_rng _).1 (mod_rng _).2 h4
  exact step_inj hs0 hs ht0 ht h5

/-! ## a draw below a number -/
def bel (s n : Int) : Int × Int := if n < 1 then (0, s) else ((nxt s).1 % n, (nxt s).2)
theorem below_eq (s n : Int) (hn : n < 9223372036854775808) : draw_Stream_Below.f s n = some (bel s n) := by
  unfold draw_Stream_Below.f bel
  split
  · rfl
  · have hw : IntKind.u64.wrap n = n := by rw [wrap_u64]; omega
    have hr := nxt_rng s
    have h1 := Int.emod_lt_of_pos (nxt s).1 (show 0 < n by omega)
    have h2 := Int.emod_nonneg (nxt s).1 (show n ≠ 0 by omega)
    rw [next_some]
    simp only [Option.bind_some, hw]
    rw [if_neg (by omega), Int.tmod_eq_emod_of_nonneg hr.1, wrap64_id (by omega) (by omega)]
theorem below_ref (s n : Int) : scuttlebuttref01_Stream_Below.f s n = draw_Stream_Below.f s n := rfl
theorem bel_rng (s n : Int) (h : 1 ≤ n) : 0 ≤ (bel s n).1 ∧ (bel s n).1 < n := by
  unfold bel
  rw [if_neg (by omega)]
  exact ⟨Int.emod_nonneg _ (by omega), Int.emod_lt_of_pos _ (by omega)⟩

/-! ## a list that is mixed -/
def mixN : Nat → List Int → Int → List Int × Int
  | 0, x, s => (x, s)
  | i + 1, x, s => mixN i ((x.set (i + 1) (rd x (bel s (i + 2 : Nat)).1)).set (bel s (i + 2 : Nat)).1.toNat (rd x (i + 1 : Nat))) (bel s (i + 2 : Nat)).2
def mix (s : Int) (l : List Int) : List Int × Int := mixN (l.length - 1) l s

theorem mixN_succ (i : Nat) (x : List Int) (s : Int) : mixN (i + 1) x s = mixN i ((x.set (i + 1) (rd x (bel s (i + 2 : Nat)).1)).set (bel s (i + 2 : Nat)).1.toNat (rd x (i + 1 : Nat))) (bel s (i + 2 : Nat)).2 := rfl
theorem l500_ref : ∀ k x i s, draw_Stream_Mix.l500 k x i s = scuttlebuttref01_Stream_Mix.l0 k x i s := by
  intro k
  induction k with
  | zero => intro x i s; rfl
  | succ k ih =>
    intro x i s
    simp only [draw_Stream_Mix.l500, scuttlebuttref01_Stream_Mix.l0, below_ref]
    by_cases h : i < 1
    · rw [if_pos h, if_neg (by omega)]
    · rw [if_neg h, if_pos (by omega)]
      congr 1
      funext b
      simp only [ih]
      by_cases h1 : 0 ≤ b.1 <;> by_cases h2 : b.1 < (x.length : Int) <;> by_cases h3 : 0 ≤ i <;> by_cases h4 : i < (x.length : Int) <;> simp [h1, h2, h3, h4]

theorem l500_eq : ∀ (i k : Nat) (x : List Int) (s : Int), x.length < 9223372036854775807 → i < x.length → i < k → draw_Stream_Mix.l500 k x (i : Int) s = some (mixN i x s) := by
  intro i
  induction i with
  | zero =>
    intro k x s hx hi hk
    obtain ⟨k, rfl⟩ : ∃ m, k = m + 1 := ⟨k - 1, by omega⟩
    simp only [draw_Stream_Mix.l500, mixN]
    rw [if_pos (by omega)]
  | succ i ih =>
    intro k x s hx hi hk
    obtain ⟨k, rfl⟩ : ∃ m, k = m + 1 := ⟨k - 1, by omega⟩
    have hw : wrap64 (((i + 1 : Nat) : Int) + 1) = ((i + 2 : Nat) : Int) := by rw [wrap64_id (by omega) (by omega)]; omega
    have hb := bel_rng s ((i + 2 : Nat) : Int) (by omega)
    have hw2 : wrap64 (((i + 1 : Nat) : Int) - 1) = (i : Int) := by rw [wrap64_id (by omega) (by omega)]; omega
    rw [mixN_succ]
    simp only [draw_Stream_Mix.l500]
    rw [if_neg (by omega), hw, below_eq _ _ (by omega)]
    generalize bel s ((i + 2 : Nat) : Int) = B at hb ⊢
    rw [Option.bind_some]
    rw [if_pos hb.1, if_pos (by omega), if_pos (by omega), if_pos (by omega), hw2, Int.toNat_natCast]
    exact ih k _ _ (by simpa using hx) (by simp; omega) (by omega)

theorem mix_some (k : Nat) (s : Int) (l : List Int) (hl : l.length ≤ 17592186044416) (hk : l.length + 1 < k) : draw_Stream_Mix.f k s l = some (mix s l) := by
  unfold draw_Stream_Mix.f slices_Clone_int_int.f mix
  rw [if_pos hl]
  simp only [Option.bind_some]
  rcases Nat.eq_zero_or_pos l.length with h0 | h0
  · obtain rfl := List.eq_nil_of_length_eq_zero h0
    obtain ⟨k, rfl⟩ : ∃ m, k = m + 1 := ⟨k - 1, by omega⟩
    simp only [draw_Stream_Mix.l500]
    rw [if_pos (by simp [wrap64])]
    rfl
  · rw [wrap64_id (by omega) (by omega), show ((l.length : Int) - 1) = ((l.length - 1 : Nat) : Int) by omega]
    exact l500_eq _ _ _ _ (by omega) (by omega) (by omega)
theorem mix_ref (k : Nat) (s : Int) (l : List Int) (hl : l.length < 17592186044416) (hk : l.length + 1 < k) : scuttlebuttref01_Stream_Mix.f k s l = some (mix s l) := by
  rw [← mix_some k s l (by omega) hk]
  unfold scuttlebuttref01_Stream_Mix.f draw_Stream_Mix.f slices_Clone_int_int.f
  rw [if_pos (by simpa using hl), if_pos (by omega)]
  simp only [Option.bind_some, List.nil_append, l500_ref]

theorem mixN_length : ∀ (i : Nat) (x : List Int) (s : Int), (mixN i x s).1.length = x.length := by
  intro i
  induction i with
  | zero => intro x s; rfl
  | succ i ih => intro x s; simp only [mixN, ih, List.length_set]
theorem mix_length (s : Int) (l : List Int) : (mix s l).1.length = l.length := mixN_length _ _ _
theorem swap_perm (x : List Int) (i j : Nat) (hi : i < x.length) (hj : j < x.length) : ((x.set i (rd x (j : Int))).set j (rd x (i : Int))).Perm x := by
  have e1 : rd x (j : Int) = x[j] := by simp [rd, List.getD, hj]
  have e2 : rd x (i : Int) = x[i] := by simp [rd, List.getD, hi]
  rw [e1, e2]
  exact List.set_set_perm hi hj
theorem mixN_perm : ∀ (i : Nat) (x : List Int) (s : Int), i < x.length → (mixN i x s).1.Perm x := by
  intro i
  induction i with
  | zero => intro x s _; exact List.Perm.refl _
  | succ i ih =>
    intro x s hi
    simp only [mixN]
    have hb := bel_rng s ((i + 2 : Nat) : Int) (by omega)
    obtain ⟨b, hb'⟩ := Int.eq_ofNat_of_zero_le hb.1
    rw [hb'] at hb ⊢
    exact (ih _ _ (by simp; omega)).trans (swap_perm x (i + 1) b (by omega) (by omega))
theorem mix_perm (s : Int) (l : List Int) : (mix s l).1.Perm l := by
  rcases Nat.eq_zero_or_pos l.length with h0 | h0
  · obtain rfl := List.eq_nil_of_length_eq_zero h0
    exact List.Perm.refl _
  · exact mixN_perm _ _ _ (by omega)

/-! ## some of a list -/
def cutAt (k : Int) (n : Nat) : Nat := (mx (mn k (n : Int)) 0).toNat
def som (s : Int) (l : List Int) (k : Int) : List Int × Int := ((mix s l).1.take (cutAt k l.length), (mix s l).2)
theorem cut_rng (k : Int) (n : Nat) : 0 ≤ mx (mn k (n : Int)) 0 ∧ mx (mn k (n : Int)) 0 ≤ (n : Int) := by unfold mx mn; split <;> split <;> omega
theorem some_eq (k : Nat) (s : Int) (l : List Int) (m : Int) (hl : l.length ≤ 17592186044416) (hk : l.length + 1 < k) : draw_Stream_Some.f k s l m = some (som s l m) := by
  unfold draw_Stream_Some.f
  rw [mix_some k s l hl hk]
  simp only [Option.bind_some, mix_length]
  rw [if_pos (cut_rng _ _).1, if_pos (cut_rng _ _).2]
  rfl
theorem some_ref (k : Nat) (s : Int) (l : List Int) (m : Int) (hl : l.length < 17592186044416) (hk : l.length + 1 < k) : scuttlebuttref01_Stream_Some.f k s l m = some (som s l m) := by
  unfold scuttlebuttref01_Stream_Some.f
  rw [mix_ref k s l hl hk]
  simp only [Option.bind_some, mix_length]
  rw [if_pos (cut_rng _ _).1, if_pos (cut_rng _ _).2]
  rfl

theorem same_self (k : Nat) (l : List Int) (hl : l.length < 9223372036854775807) (hk : l.length < k) : scuttlebuttlaw13_same.f k l l = some true := by
  unfold scuttlebuttlaw13_same.f
  rw [if_pos rfl]
  have key : ∀ (d k : Nat) (i : Nat), l.length - i = d → i ≤ l.length → d < k → scuttlebuttlaw13_same.l0 k l l (i : Int) = some true := by
    intro d
    induction d with
    | zero =>
      intro k i hd hi hk
      obtain ⟨k, rfl⟩ : ∃ m, k = m + 1 := ⟨k - 1, by omega⟩
      simp only [scuttlebuttlaw13_same.l0]
      rw [if_neg (by omega)]
    | succ d ih =>
      intro k i hd hi hk
      obtain ⟨k, rfl⟩ : ∃ m, k = m + 1 := ⟨k - 1, by omega⟩
      simp only [scuttlebuttlaw13_same.l0]
      rw [if_pos (by omega), if_pos (by omega), if_pos (by omega), if_pos trivial, wrap64_id (by omega) (by omega), show ((i : Int) + 1) = ((i + 1 : Nat) : Int) by omega]
      exact ih k (i + 1) (by omega) (by omega) (by omega)
  exact key l.length k 0 (by omega) (by omega) hk

theorem i_step (i : Nat) (h : i < 9223372036854775807) : wrap64 ((i : Int) + 1) = ((i + 1 : Nat) : Int) := by rw [wrap64_id (by omega) (by omega)]; omega
theorem rd_get (l : List Int) (i : Nat) (h : i < l.length) : rd l (i : Int) = l[i] := by simp [rd, List.getD, h]
theorem mem_drop_step (l : List Int) (i : Nat) (x : Int) (h : i < l.length) : x ∈ l.drop i ↔ l[i] = x ∨ x ∈ l.drop (i + 1) := by
  rw [List.drop_eq_getElem_cons h, List.mem_cons]
  constructor
  · rintro (h | h)
    · exact .inl h.symm
    · exact .inr h
  · rintro (h | h)
    · exact .inl h.symm
    · exact .inr h
/-- Is a number in a list: slices.Contains. -/
theorem index_l (l : List Int) (x : Int) (hl : l.length < 9223372036854775807) : ∀ (d k i : Nat), l.length - i = d → i ≤ l.length → d < k → ∃ r : Int, slices_Index_int_int.l0 k l x (l.length : Int) (i : Int) = some r ∧ (0 ≤ r ↔ x ∈ l.drop i) := by
  intro d
  induction d with
  | zero =>
    intro k i hd hi hk
    obtain ⟨k, rfl⟩ : ∃ m, k = m + 1 := ⟨k - 1, by omega⟩
    simp only [slices_Index_int_int.l0]
    rw [if_neg (by omega), List.drop_eq_nil_of_le (by omega)]
    exact ⟨-1, rfl, by simp⟩
  | succ d ih =>
    intro k i hd hi hk
    obtain ⟨k, rfl⟩ : ∃ m, k = m + 1 := ⟨k - 1, by omega⟩
    simp only [slices_Index_int_int.l0]
    rw [if_pos (by omega), if_pos (by omega), if_pos (by omega), rd_get l i (by omega), i_step i (by omega), mem_drop_step l i x (by omega)]
    by_cases h : x = l[i]'(by omega)
    · rw [if_pos h]
      exact ⟨i, rfl, fun _ => .inl h.symm, fun _ => by omega⟩
    · rw [if_neg h]
      obtain ⟨r, e, hr⟩ := ih k (i + 1) (by omega) (by omega) (by omega)
      exact ⟨r, e, hr.trans ⟨fun h => .inr h, fun h' => h'.resolve_left (fun e => h e.symm)⟩⟩
theorem contains_eq (k : Nat) (l : List Int) (x : Int) (hl : l.length < 9223372036854775807) (hk : l.length < k) : slices_Contains_int_int.f k l x = some (decide (x ∈ l)) := by
  unfold slices_Contains_int_int.f slices_Index_int_int.f
  obtain ⟨r, e, hr⟩ := index_l l x hl l.length k 0 (by omega) (by omega) hk
  rw [show ((0 : Nat) : Int) = 0 from rfl] at e
  rw [e, Option.bind_some]
  congr 1
  rw [List.drop_zero] at hr
  simp only [ge_iff_le]
  exact decide_eq_decide.2 hr
theorem in_l (l : List Int) (x : Int) (hl : l.length < 9223372036854775807) : ∀ (d k i : Nat), l.length - i = d → i ≤ l.length → d < k → scuttlebuttref13_in.l0 k l x (i : Int) = some (decide (x ∈ l.drop i)) := by
  intro d
  induction d with
  | zero =>
    intro k i hd hi hk
    obtain ⟨k, rfl⟩ : ∃ m, k = m + 1 := ⟨k - 1, by omega⟩
    simp only [scuttlebuttref13_in.l0]
    rw [if_neg (by omega), List.drop_eq_nil_of_le (by omega)]
    rfl
  | succ d ih =>
    intro k i hd hi hk
    obtain ⟨k, rfl⟩ : ∃ m, k = m + 1 := ⟨k - 1, by omega⟩
    simp only [scuttlebuttref13_in.l0]
    rw [if_pos (by omega), if_pos (by omega), rd_get l i (by omega), i_step i (by omega)]
    by_cases h : l[i]'(by omega) = x
    · rw [if_pos h, decide_eq_true ((mem_drop_step l i x (by omega)).2 (.inl h))]
    · rw [if_neg h, ih k (i + 1) (by omega) (by omega) (by omega)]
      exact congrArg some (decide_eq_decide.2 ⟨fun h' => (mem_drop_step l i x (by omega)).2 (.inr h'), fun h' => ((mem_drop_step l i x (by omega)).1 h').resolve_left h⟩)
theorem in_eq (k : Nat) (l : List Int) (x : Int) (hl : l.length < 9223372036854775807) (hk : l.length < k) : scuttlebuttref13_in.f k l x = some (decide (x ∈ l)) := by
  unfold scuttlebuttref13_in.f
  have e := in_l l x hl l.length k 0 (by omega) (by omega) hk
  rw [show ((0 : Nat) : Int) = 0 from rfl, List.drop_zero] at e
  exact e
/-- A deed's list. -/
def lst (l : List Int) : List Int := (l.take 12).map fun x => wrap64 (Int.tmod x 10)
theorem lst_length (l : List Int) : (lst l).length ≤ 12 := by unfold lst; rw [List.length_map, List.length_take]; omega
theorem list_l (l : List Int) (a : Bool) (n : Int) : ∀ (d k i : Nat), 12 - i = d → i ≤ 12 → i ≤ l.length → d < k → scuttlebuttlaw13_Deed_list.l0 k (lst (l.take i)) (i : Int) a l n = some (lst l) := by
  have full : ∀ i, i ≤ l.length → (12 ≤ i ∨ l.length ≤ i) → lst (l.take i) = lst l := by
    intro i hi h
    unfold lst
    rw [List.take_take]
    rcases h with h | h
    · rw [Nat.min_eq_left h]
    · rcases Nat.le_total 12 i with h' | h'
      · rw [Nat.min_eq_left h']
      · rw [Nat.min_eq_right h', List.take_of_length_le (show l.length ≤ i by omega), List.take_of_length_le (show l.length ≤ 12 by omega)]
  intro d
  induction d with
  | zero =>
    intro k i hd hi hil hk
    obtain ⟨k, rfl⟩ : ∃ m, k = m + 1 := ⟨k - 1, by omega⟩
    simp only [scuttlebuttlaw13_Deed_list.l0]
    have e := full i hil (.inl (by omega))
    rw [e]
    by_cases h : (i : Int) < (l.length : Int)
    · rw [if_pos h, if_neg (by omega)]
    · rw [if_neg h]
  | succ d ih =>
    intro k i hd hi hil hk
    obtain ⟨k, rfl⟩ : ∃ m, k = m + 1 := ⟨k - 1, by omega⟩
    simp only [scuttlebuttlaw13_Deed_list.l0]
    by_cases h : i < l.length
    · have hn : lst (l.take i) ++ [wrap64 (Int.tmod (rd l (i : Int)) 10)] = lst (l.take (i + 1)) := by
        unfold lst
        rw [rd_get l i h, List.take_take, List.take_take, Nat.min_eq_right (by omega), Nat.min_eq_right (by omega), List.take_succ_eq_append_getElem h, List.map_append]
        rfl
      have hlen := lst_length (l.take i)
      rw [if_pos (by omega), if_pos (by omega), if_pos (by omega), if_pos (by omega), hn, i_step i (by omega)]
      exact ih k (i + 1) (by omega) (by omega) (by omega) (by omega)
    · rw [if_neg (by omega), full i hil (.inr (by omega))]
theorem list_eq (k : Nat) (a : Bool) (l : List Int) (n : Int) (hk : 13 ≤ k) : scuttlebuttlaw13_Deed_list.f k a l n = some (lst l) := by
  unfold scuttlebuttlaw13_Deed_list.f
  exact list_l l a n 12 k 0 (by omega) (by omega) (by omega) (by omega)
/-- Who is next: of those that are left the first that is in the list; none: the list is mixed. -/
def nxt3 (s : Int) (left l : List Int) : Int × Int × List Int :=
  match left with
  | [] => ((mix s l).1.headD 0, (mix s l).2, (mix s l).1.tail)
  | id :: rest => if id ∈ l then (id, s, rest) else nxt3 s rest l
def nx (s : Int) (left l : List Int) : Int × Bool × Int × List Int :=
  if l = [] then (0, false, s, left) else ((nxt3 s left l).1, true, (nxt3 s left l).2.1, (nxt3 s left l).2.2)
theorem nxt3_mem (s : Int) (l : List Int) (hl : l ≠ []) : ∀ left : List Int, (nxt3 s left l).1 ∈ l
  | [] => by
    have h1 := mix_length s l
    have hp := mix_perm s l
    rw [nxt3]
    rcases hm : (mix s l).1 with _ | ⟨x, xs⟩
    · rw [hm] at h1
      exact absurd (List.eq_nil_of_length_eq_zero h1.symm) hl
    · rw [hm] at hp
      exact hp.mem_iff.1 List.mem_cons_self
  | y :: ys => by
    rw [nxt3]
    by_cases h : y ∈ l
    · rw [if_pos h]; exact h
    · rw [if_neg h]; exact nxt3_mem s l hl ys
theorem nxt3_len (s : Int) (l : List Int) : ∀ left : List Int, (nxt3 s left l).2.2.length ≤ max left.length l.length
  | [] => by
    have h1 := mix_length s l
    rw [nxt3]
    show (mix s l).1.tail.length ≤ _
    rw [List.length_tail]
    simp only [List.length_nil]
    omega
  | y :: ys => by
    rw [nxt3]
    by_cases h : y ∈ l
    · rw [if_pos h]
      simp only [List.length_cons]
      omega
    · rw [if_neg h]
      have := nxt3_len s l ys
      simp only [List.length_cons]
      omega
theorem nx_b {s : Int} {left l : List Int} {i : Int} {b : Bool} {s' : Int} {left' : List Int} (h : nx s left l = (i, b, s', left')) : b = decide (0 < l.length) := by
  unfold nx at h
  by_cases hl : l = []
  · rw [if_pos hl] at h
    subst hl
    simp only [Prod.mk.injEq] at h
    exact h.2.1.symm
  · rw [if_neg hl] at h
    simp only [Prod.mk.injEq] at h
    rw [← h.2.1, decide_eq_true (List.length_pos_iff.2 hl)]
theorem nx_mem {s : Int} {left l : List Int} {i : Int} {b : Bool} {s' : Int} {left' : List Int} (h : nx s left l = (i, b, s', left')) (hb : b = true) : i ∈ l := by
  have h0 := nx_b h
  rw [hb] at h0
  have hl : l ≠ [] := List.length_pos_iff.1 (of_decide_eq_true h0.symm)
  unfold nx at h
  rw [if_neg hl] at h
  simp only [Prod.mk.injEq] at h
  rw [← h.1]
  exact nxt3_mem s l hl left
theorem nx_len {s : Int} {left l : List Int} {i : Int} {b : Bool} {s' : Int} {left' : List Int} (h : nx s left l = (i, b, s', left')) : left'.length ≤ max left.length l.length := by
  unfold nx at h
  by_cases hl : l = []
  · rw [if_pos hl] at h
    simp only [Prod.mk.injEq] at h
    rw [← h.2.2.2]
    omega
  · rw [if_neg hl] at h
    simp only [Prod.mk.injEq] at h
    rw [← h.2.2.2]
    exact nxt3_len s l left
theorem nx_nil_len {s : Int} {l : List Int} {i : Int} {b : Bool} {s' : Int} {left' : List Int} (h : nx s [] l = (i, b, s', left')) : left'.length = l.length - 1 := by
  unfold nx at h
  by_cases hl : l = []
  · rw [if_pos hl] at h
    simp only [Prod.mk.injEq] at h
    rw [← h.2.2.2, hl]
    rfl
  · rw [if_neg hl, nxt3] at h
    simp only [Prod.mk.injEq] at h
    rw [← h.2.2.2, List.length_tail, mix_length]
end Go.Proofs.Ytmoepfmgpfjppaa.MA
