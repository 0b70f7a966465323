/- What BagPlays makes of items: ref, Deed.item. Conditions: those that each theorem names. -/
import Derived.Test.YtlpiodcklacdpaaRQ
namespace Go.Proofs.Ytlpiodcklacdpaa.BG
set_option linter.unusedVariables false
set_option linter.unusedSimpArgs false
open Go Go.RowKit Go.Proofs.YtlpiodcklacdpaaS Go.Proofs.YtlpiodcklacdpaaS.Asn Go.Proofs.Ytlpiodcklacdpaa.PA Go.Proofs.YtlpiodcklacdpaaW.PrintWords Go.Proofs.YtlpiodcklacdpaaW.PrintLast Go.Proofs.YtlpiodcklacdpaaW.PrintMore
/-- ref: the same cells. -/
theorem ref_call (x : It) (w : World) : Calls Try.prog 19 #[x.val] w fun e w' => e = .returned x.val ∧ Below w.heap.size w w' := by
  have HS := Aside0.mk (sep_start w)
  unfold It.val
  go_enter Try.func19, Try.ntmps19
  go_upto_region 1 with (fail)
  have hsz : (w.alloc (.cells #[.int .u32 x.fi, .int .u16 x.fp, .int .u32 x.ti, .int .u16 x.tp, .string x.by_, .int .u64 x.t] 35)).heap.size = w.heap.size + 1 := by simp
  have n_ := sep_alloc (sep_alloc HS.out #[.int .u32 x.fi, .int .u16 x.fp, .int .u32 x.ti, .int .u16 x.tp, .string x.by_, .int .u64 x.t] 35) #[.int .u32 0, .int .u16 0, .int .u32 0, .int .u16 0, .string ⟨#[]⟩, .int .u64 0] 56
  rw [hsz] at n_
  clear hsz
  have n0_ := Aside0.mk n_; clear HS n_; have HS := n0_; clear n0_
  generalize (w.alloc (.cells #[.int .u32 x.fi, .int .u16 x.fp, .int .u32 x.ti, .int .u16 x.tp, .string x.by_, .int .u64 x.t] 35)).alloc (.cells #[.int .u32 0, .int .u16 0, .int .u32 0, .int .u16 0, .string ⟨#[]⟩, .int .u64 0] 56) = wa at HS ⊢
  generalize w.heap.size + 1 = g2 at HS ⊢
  generalize w.heap.size = g1 at HS ⊢
  obtain ⟨k1, k2, k3, k4, k5, k6⟩ := facts6 (sep_l1 HS.out)
  obtain ⟨m1, m2, m3, m4, m5, m6⟩ := facts6 HS.out
  obtain ⟨q1, q2, q3, q4, q5, q6⟩ := facts6f HS.out
  go_wp2
  have n_ := sep_set6 HS.out (.int .u32 x.fi) (.int .u16 x.fp) (.int .u32 x.ti) (.int .u16 x.tp) (.string x.by_) (.int .u64 x.t)
  refine bodyPost_ret (results_cell_row rfl _ _ g2 56 #[.int .u32 x.fi, .int .u16 x.fp, .int .u32 x.ti, .int .u16 x.tp, .string x.by_, .int .u64 x.t] (0, 0) _ rfl (sep_pt n_) Try.underlying56 rfl (by kernel_rfl)) rfl ?_
  exact ⟨rfl, sep_below_of n_⟩
/-- What is done: its kind, an item, a pick, a time, whether near. -/
structure Dd where
  kind : Int
  x : It
  pick : Int
  now : Int
  near : Bool
def Dd.val (d : Dd) : Value := .agg #[.int .u8 d.kind, .int .u32 d.x.fi, .int .u16 d.x.fp, .int .u32 d.x.ti, .int .u16 d.x.tp, .string d.x.by_, .int .u64 d.x.t, .int .i64 d.pick, .int .u64 d.now, .bool d.near]
theorem facts10 {w0 w : World} {ok0 : Nat → Prop} {F : Asn} {g : Nat} {t : TypeId} {a b c d e f a' b' c' d' : Value} (h : Sep w0 ok0 (pt g #[a, b, c, d, e, f, a', b', c', d'] t ⋆ F) w) :
    w.cell? ⟨g, 0, none⟩ = some a ∧ w.cell? ⟨g, 1, none⟩ = some b ∧ w.cell? ⟨g, 2, none⟩ = some c ∧ w.cell? ⟨g, 3, none⟩ = some d ∧ w.cell? ⟨g, 4, none⟩ = some e ∧ w.cell? ⟨g, 5, none⟩ = some f ∧ w.cell? ⟨g, 6, none⟩ = some a' ∧ w.cell? ⟨g, 7, none⟩ = some b' ∧ w.cell? ⟨g, 8, none⟩ = some c' ∧ w.cell? ⟨g, 9, none⟩ = some d' :=
  ⟨sep_cell h 0, sep_cell h 1, sep_cell h 2, sep_cell h 3, sep_cell h 4, sep_cell h 5, sep_cell h 6, sep_cell h 7, sep_cell h 8, sep_cell h 9⟩
def Dd.item (d : Dd) : It := if d.near then ⟨1, 1, 2, 2, ⟨#[109]⟩ ++ d.x.by_.extract 0 (min d.x.by_.size 9), d.x.t % 9⟩ else d.x
set_option maxHeartbeats 4000000 in
set_option maxRecDepth 100000 in
theorem item_call (d : Dd) (w : World) (hs : d.x.by_.size ≤ 9223372036854775807) (ht : 0 ≤ d.x.t) : Calls Try.prog 25 #[d.val] w fun e w' => e = .returned d.item.val ∧ Below w.heap.size w w' := by
  have HS := Aside0.mk (sep_start w)
  obtain ⟨kind, ⟨fi, fp, ti, tp, b, t⟩, pick, now, near⟩ := d
  have hs' : b.size ≤ 9223372036854775807 := hs
  obtain ⟨t, rfl⟩ : ∃ n : Nat, t = (n : Int) := ⟨t.toNat, by have : 0 ≤ t := ht; omega⟩
  clear hs ht
  have HSZ := Aside0.mk hs'
  clear hs'
  unfold Dd.val
  dsimp only
  go_enter Try.func25, Try.ntmps25
  go_upto_region 1 with (fail)
  have hsz : (w.alloc (.cells #[.int .u8 kind, .int .u32 fi, .int .u16 fp, .int .u32 ti, .int .u16 tp, .string b, .int .u64 t, .int .i64 pick, .int .u64 now, .bool near] 53)).heap.size = w.heap.size + 1 := by simp
  have n_ := sep_alloc (sep_alloc HS.out #[.int .u8 kind, .int .u32 fi, .int .u16 fp, .int .u32 ti, .int .u16 tp, .string b, .int .u64 t, .int .i64 pick, .int .u64 now, .bool near] 53) #[.int .u32 0, .int .u16 0, .int .u32 0, .int .u16 0, .string ⟨#[]⟩, .int .u64 0] 35
  rw [hsz] at n_
  clear hsz
  have n0_ := Aside0.mk n_; clear HS n_; have HS := n0_; clear n0_
  generalize (w.alloc (.cells #[.int .u8 kind, .int .u32 fi, .int .u16 fp, .int .u32 ti, .int .u16 tp, .string b, .int .u64 t, .int .i64 pick, .int .u64 now, .bool near] 53)).alloc (.cells #[.int .u32 0, .int .u16 0, .int .u32 0, .int .u16 0, .string ⟨#[]⟩, .int .u64 0] 35) = wa at HS ⊢
  generalize w.heap.size + 1 = g2 at HS ⊢
  generalize w.heap.size = g1 at HS ⊢
  obtain ⟨k1, k2, k3, k4, k5, k6, k7, k8, k9, k10⟩ := facts10 (sep_l1 HS.out)
  obtain ⟨q1, q2, q3, q4, q5, q6⟩ := facts6f HS.out
  obtain ⟨m1, m2, m3, m4, m5, m6⟩ := facts6 HS.out
  cases near with
  | false =>
    go_wp2
    have n_ := sep_set6 HS.out (.int .u32 fi) (.int .u16 fp) (.int .u32 ti) (.int .u16 tp) (.string b) (.int .u64 t)
    refine bodyPost_ret (results_cell_row rfl _ _ g2 35 #[.int .u32 (It.mk fi fp ti tp b t).fi, .int .u16 (It.mk fi fp ti tp b t).fp, .int .u32 (It.mk fi fp ti tp b t).ti, .int .u16 (It.mk fi fp ti tp b t).tp, .string (It.mk fi fp ti tp b t).by_, .int .u64 (It.mk fi fp ti tp b t).t] (0, 0) _ rfl (sep_pt n_) Try.underlying35 rfl (by kernel_rfl)) rfl ?_
    exact ⟨rfl, sep_below_of n_⟩
  | true =>
    go_upto_region 3 with (fail)
    have n_ := sep_drew HS.out
    obtain ⟨d1, d2, d3, d4, d5, d6, d7, d8, d9, d10⟩ := facts10 (sep_l1 n_)
    obtain ⟨p1, p2, p3, p4, p5, p6⟩ := facts6f n_
    obtain ⟨r1, r2, r3, r4, r5, r6⟩ := facts6 n_
    clear n_
    obtain ⟨q, hq⟩ : ∃ q : Int, (t : Int) % 9 = q := ⟨_, rfl⟩
    by_cases h9 : 9 < b.size
    · have s1 := eq_true h9
      have s2 : ((9 : Int) < (b.size : Int)) = True := eq_true (by omega)
      have s3 : (9 ≤ b.size) = True := eq_true (by omega)
      have s4 : ((9 : Int) ≤ (b.size : Int)) = True := eq_true (by omega)
      have hE : (Dd.mk kind ⟨fi, fp, ti, tp, b, t⟩ pick now true).item = ⟨1, 1, 2, 2, ⟨#[109]⟩ ++ b.extract 0 9, q⟩ := by
        show (⟨1, 1, 2, 2, ⟨#[109]⟩ ++ b.extract 0 (min b.size 9), (t : Int) % 9⟩ : It) = _
        rw [Nat.min_eq_right (by omega), hq]
      have HE := Aside0.mk hE
      clear hE h9
      go_region
      all_goals go_wp2
      all_goals
        have n_ := sep_drew (sep_set6 HS.out (.int .u32 1) (.int .u16 1) (.int .u32 2) (.int .u16 2) (.string (⟨#[109]⟩ ++ b.extract 0 9)) (.int .u64 q))
        refine bodyPost_ret (results_cell_row rfl _ _ g2 35 #[.int .u32 (It.mk 1 1 2 2 (⟨#[109]⟩ ++ b.extract 0 9) q).fi, .int .u16 (It.mk 1 1 2 2 (⟨#[109]⟩ ++ b.extract 0 9) q).fp, .int .u32 (It.mk 1 1 2 2 (⟨#[109]⟩ ++ b.extract 0 9) q).ti, .int .u16 (It.mk 1 1 2 2 (⟨#[109]⟩ ++ b.extract 0 9) q).tp, .string (It.mk 1 1 2 2 (⟨#[109]⟩ ++ b.extract 0 9) q).by_, .int .u64 (It.mk 1 1 2 2 (⟨#[109]⟩ ++ b.extract 0 9) q).t] (0, 0) _ rfl (sep_pt n_) Try.underlying35 rfl (by kernel_rfl)) rfl ?_
        rw [HE.out]
        exact ⟨rfl, sep_below_of n_⟩
    · have s1 := eq_false h9
      have s2 : ((9 : Int) < (b.size : Int)) = False := eq_false (by omega)
      have s3 := eq_true (Nat.le_refl b.size)
      have s5 : (9223372036854775807 < 1 + b.size) = False := eq_false (by omega)
      have s4 := eq_true (Int.le_refl (b.size : Int))
      have hE : (Dd.mk kind ⟨fi, fp, ti, tp, b, t⟩ pick now true).item = ⟨1, 1, 2, 2, ⟨#[109]⟩ ++ b, q⟩ := by
        show (⟨1, 1, 2, 2, ⟨#[109]⟩ ++ b.extract 0 (min b.size 9), (t : Int) % 9⟩ : It) = _
        rw [Nat.min_eq_left (by omega), hq, show b.extract 0 b.size = b by simp]
      have HE := Aside0.mk hE
      clear hE h9
      go_region
      all_goals go_wp2
      all_goals
        have n_ := sep_drew (sep_set6 HS.out (.int .u32 1) (.int .u16 1) (.int .u32 2) (.int .u16 2) (.string (⟨#[109]⟩ ++ b)) (.int .u64 q))
        refine bodyPost_ret (results_cell_row rfl _ _ g2 35 #[.int .u32 (It.mk 1 1 2 2 (⟨#[109]⟩ ++ b) q).fi, .int .u16 (It.mk 1 1 2 2 (⟨#[109]⟩ ++ b) q).fp, .int .u32 (It.mk 1 1 2 2 (⟨#[109]⟩ ++ b) q).ti, .int .u16 (It.mk 1 1 2 2 (⟨#[109]⟩ ++ b) q).tp, .string (It.mk 1 1 2 2 (⟨#[109]⟩ ++ b) q).by_, .int .u64 (It.mk 1 1 2 2 (⟨#[109]⟩ ++ b) q).t] (0, 0) _ rfl (sep_pt n_) Try.underlying35 rfl (by kernel_rfl)) rfl ?_
        rw [HE.out]
        exact ⟨rfl, sep_below_of n_⟩
end Go.Proofs.Ytlpiodcklacdpaa.BG
