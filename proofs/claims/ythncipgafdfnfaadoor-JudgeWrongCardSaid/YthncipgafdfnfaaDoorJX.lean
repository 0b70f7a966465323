/- Chapter 22's examples: they are so. No condition. -/
import Derived.Test.YthncipgafdfnfaaDoorJD
namespace Go.Proofs.YthncipgafdfnfaaDoor.JW
set_option linter.unusedVariables false
set_option linter.unusedSimpArgs false
open Go Go.RowKit Go.Proofs.YthncipgafdfnfaaDoorS Go.Proofs.YthncipgafdfnfaaDoorS.Asn Go.Proofs.YthncipgafdfnfaaDoor.PA Go.Proofs.YthncipgafdfnfaaDoorW.PrintWords Go.Proofs.YthncipgafdfnfaaDoorW.PrintLast Go.Proofs.YthncipgafdfnfaaDoorW.PrintMore
theorem lit1 {α : Type} {d : Kd α} {w0 w : World} {ok0 : Nat → Prop} {F : Asn} {g : Nat} {t : TypeId} {x : α} (c : List Value) {cs : Array Value} (h : Sep w0 ok0 (pt g cs t ⋆ F) w) (hcs : cs = c.toArray) (hl : c.length = d.sz) (hk : d.K w x c) : d.C w (some ⟨g, 0, none⟩) (1 : Nat) [x] := by
  subst hcs
  refine ⟨rfl, by simp, fun _ => ⟨_, rfl, fun i y hy => ?_⟩⟩
  match i, hy with
  | 0, hy =>
    obtain rfl : x = y := by simpa using hy
    refine ⟨c, hl, hk, fun j u hu => ?_⟩
    rw [Nat.zero_mul, Nat.zero_add, add_at, sep_cell h j]
    simpa using hu
theorem lit2 {α : Type} {d : Kd α} {w0 w : World} {ok0 : Nat → Prop} {F : Asn} {g : Nat} {t : TypeId} {x y : α} (c e : List Value) {cs : Array Value} (h : Sep w0 ok0 (pt g cs t ⋆ F) w) (hcs : cs = (c ++ e).toArray) (hl : c.length = d.sz) (hl2 : e.length = d.sz) (hk : d.K w x c) (hk2 : d.K w y e) : d.C w (some ⟨g, 0, none⟩) (2 : Nat) [x, y] := by
  subst hcs
  refine ⟨rfl, by simp, fun _ => ⟨_, rfl, fun i z hz => ?_⟩⟩
  match i, hz with
  | 0, hz =>
    obtain rfl : x = z := by simpa using hz
    refine ⟨c, hl, hk, fun j u hu => ?_⟩
    have hj : j < c.length := (List.getElem?_eq_some_iff.1 hu).1
    rw [Nat.zero_mul, Nat.zero_add, add_at, sep_cell h j, List.getElem?_toArray, List.getElem?_append_left hj]
    exact hu
  | 1, hz =>
    obtain rfl : y = z := by simpa using hz
    refine ⟨e, hl2, hk2, fun j u hu => ?_⟩
    rw [Nat.one_mul, add_at, sep_cell h, List.getElem?_toArray, List.getElem?_append_right (by omega), show d.sz + j - c.length = j by omega]
    exact hu
def ea : Rec := ⟨1, 0, 2, 0, 0⟩
def eb : Rec := ⟨1, 2, 2, 0, 0⟩
theorem ex1 : wrongE [[], [ea]] [true, true] = [(1, 2)] := by kernel_rfl
theorem ex2 : risesE [ea] [eb] = true := by kernel_rfl
theorem ex3 : risesE [eb] [ea] = false := by kernel_rfl
theorem ex4 : strangerE [eb] [[ea]] = -1 := by kernel_rfl
theorem ex5 : strangerE [ea] [] = 0 := by kernel_rfl
theorem ex6 : textE [ea, eb] = ⟨#[49, 58, 97, 108, 105, 118, 101, 64, 50, 32, 49, 58, 100, 101, 97, 100, 64, 50]⟩ := by kernel_rfl
theorem ex7 : strangerE [] [] = -1 := by kernel_rfl
theorem sep_allocg {w0 w : World} {ok0 : Nat → Prop} {F : Asn} (h : Sep w0 ok0 F w) (cs : Array Value) (t : TypeId) (g : Nat) (hg : w.heap.size = g) : Sep w0 ok0 (pt g cs t ⋆ F) (w.alloc (.cells cs t (0, 0))) := hg ▸ sep_alloc h cs t
theorem sep_drop2 {w0 w : World} {ok0 : Nat → Prop} {A B F : Asn} (h : Sep w0 ok0 (A ⋆ B ⋆ F) w) : Sep w0 ok0 F w := sep_drop (sep_drop h)
theorem sep_drop3 {w0 w : World} {ok0 : Nat → Prop} {A B C F : Asn} (h : Sep w0 ok0 (A ⋆ B ⋆ C ⋆ F) w) : Sep w0 ok0 F w := sep_drop (sep_drop (sep_drop h))
theorem szS {w : World} (o : Obj) {n : Nat} (h : w.heap.size = n) : (w.alloc o).heap.size = n + 1 := by rw [← h]; simp
/-- The pairs of a list, each read. -/
theorem pr_cells {w0 w : World} {ok0 : Nat → Prop} {F : Asn} {v : Value} {x : Int × Int} (h : Sep w0 ok0 (row prK 40 v [x] ⋆ F) w) :
    ∃ g c, v = .slice (some ⟨g, 0, none⟩) 1 c ∧ w.cell? ⟨g, 0, none⟩ = some (.int .i64 x.1) ∧ w.cell? ⟨g, 1, none⟩ = some (.int .i64 x.2) := by
  obtain ⟨A, c, rfl, -, -⟩ := sep_row h
  obtain ⟨g, rfl⟩ := row_addr h (by simp)
  obtain ⟨-, -, h0, h1, h2⟩ := sep_row' h
  obtain ⟨ad, he, hc⟩ := h2 (by simp)
  cases he
  obtain ⟨cs, -, hk, hcell⟩ := hc 0 x rfl
  obtain rfl := prK_open hk
  exact ⟨g, c, rfl, by simpa [add_at] using hcell 0 _ rfl, by simpa [add_at] using hcell 1 _ rfl⟩
theorem ll_K {w : World} {l : List Rec} {A : Option Addr} {c : Nat} (hle : l.length ≤ c) (h : recK.C w A l.length l) : llK.K w l [.slice A l.length c] := ⟨A, c, rfl, hle, h⟩
theorem rec_nil (w : World) : recK.C w none (0 : Nat) [] := ⟨rfl, by simp, fun hn => absurd hn (by simp)⟩
theorem ll_nil (w : World) : llK.C w none (0 : Nat) [] := ⟨rfl, by simp, fun hn => absurd hn (by simp)⟩
theorem c_text (A : Option Addr) (w : World) (h : recK.C w A (2 : Nat) [ea, eb]) : Calls Tryd.prog 15 #[.slice A 2 2] w fun e w' => e = .returned (.string ⟨#[49, 58, 97, 108, 105, 118, 101, 64, 50, 32, 49, 58, 100, 101, 97, 100, 64, 50]⟩) ∧ Below w.heap.size w w' := by
  have hx := text_walk A 2 [ea, eb] w h (by decide) (by decide) (by decide +kernel)
  rw [ex6] at hx
  exact hx
theorem c_r1 (A B : Option Addr) (w : World) (h : recK.C w A (1 : Nat) [ea]) (h2 : recK.C w B (1 : Nat) [eb]) : Calls Tryd.prog 11 #[.slice A 1 1, .slice B 1 1] w fun e w' => e = .returned (.bool true) ∧ Below w.heap.size w w' := by
  have hx := rises_walk A B 1 1 [ea] [eb] w h h2
  rw [ex2] at hx
  exact hx
theorem c_r2 (A B : Option Addr) (w : World) (h : recK.C w A (1 : Nat) [eb]) (h2 : recK.C w B (1 : Nat) [ea]) : Calls Tryd.prog 11 #[.slice A 1 1, .slice B 1 1] w fun e w' => e = .returned (.bool false) ∧ Below w.heap.size w w' := by
  have hx := rises_walk A B 1 1 [eb] [ea] w h h2
  rw [ex3] at hx
  exact hx
theorem c_s1 (A B : Option Addr) (w : World) (h : recK.C w A (1 : Nat) [eb]) (h2 : llK.C w B (1 : Nat) [[ea]]) : Calls Tryd.prog 14 #[.slice A 1 1, .slice B 1 1] w fun e w' => e = .returned (.int .i64 (-1)) ∧ Below w.heap.size w w' := by
  have hx := stranger_walk A B 1 1 [eb] [[ea]] w h h2
  rw [ex4] at hx
  exact hx
theorem c_s2 (A : Option Addr) (w : World) (h : recK.C w A (1 : Nat) [ea]) : Calls Tryd.prog 14 #[.slice A 1 1, .slice none 0 0] w fun e w' => e = .returned (.int .i64 0) ∧ Below w.heap.size w w' := by
  have hx := stranger_walk A none 1 0 [ea] [] w h (ll_nil _)
  rw [ex5] at hx
  exact hx
theorem c_s3 (w : World) : Calls Tryd.prog 14 #[.slice none 0 0, .slice none 0 0] w fun e w' => e = .returned (.int .i64 (-1)) ∧ Below w.heap.size w w' := by
  have hx := stranger_walk none none 0 0 [] [] w (rec_nil _) (ll_nil _)
  rw [ex7] at hx
  exact hx
set_option maxHeartbeats 4000000 in
set_option maxRecDepth 100000 in
theorem examples_walk (w : World) : Calls Tryd.prog 8 #[] w fun e w' => e = .returned (.bool true) ∧ Below w.heap.size w w' := by
  have HS := Aside0.mk (sep_start w)
  go_enter Tryd.func8, Tryd.ntmps8
  go_upto_region 2 with (fail)
  have n_ := (sep_alloc HS.out #[.int .i64 ea.id, .int .i64 ea.st, .int .u32 ea.inc, .int .u32 ea.ip, .int .u16 ea.po] 36)
  have n0_ := Aside0.mk n_; clear HS n_; have HS := n0_; clear n0_
  dsimp only [ea] at HS
  generalize w.alloc (.cells #[.int .i64 1, .int .i64 0, .int .u32 2, .int .u32 0, .int .u16 0] 36) = wa at HS ⊢
  generalize w.heap.size = g1 at HS ⊢
  go_upto_region 3 with (fail)
  have n_ := (sep_alloc HS.out #[.int .i64 eb.id, .int .i64 eb.st, .int .u32 eb.inc, .int .u32 eb.ip, .int .u16 eb.po] 36)
  have n0_ := Aside0.mk n_; clear HS n_; have HS := n0_; clear n0_
  dsimp only [eb] at HS
  generalize wa.alloc (.cells #[.int .i64 1, .int .i64 2, .int .u32 2, .int .u32 0, .int .u16 0] 36) = wb at HS ⊢
  generalize wa.heap.size = g2 at HS ⊢
  (try clear k1 k2 k3 k4 k5); (try clear m1 m2 m3 m4 m5); obtain ⟨m1, m2, m3, m4, m5⟩ := facts5 (HS.out); obtain ⟨k1, k2, k3, k4, k5⟩ := facts5 (sep_l1 HS.out)
  go_upto_region 4 with (go_at_call 12; go_loud (have h1 := sep_allocg HS.out #[.int .i64 1, .int .i64 0, .int .u32 2, .int .u32 0, .int .u16 0] 36 _ rfl; have h2 := sep_allocg h1 #[.slice none 0 0, .slice (some ⟨wb.heap.size, 0, none⟩) 1 1] 24 _ (szS _ rfl); have h3 := sep_allocg h2 #[.bool true, .bool true] 4 _ (szS _ (szS _ rfl)); have hx_ := wrong_walk _ _ 2 2 [[], [ea]] [true, true] _ (lit2 (d := llK) [.slice none 0 0] [.slice (some ⟨wb.heap.size, 0, none⟩) 1 1] (sep_l1 h3) rfl rfl rfl (ll_K (l := []) (Nat.le_refl 0) (rec_nil _)) (ll_K (l := [ea]) (Nat.le_refl 1) (lit1 ea.cells (sep_l2 h3) rfl rfl (recK_mk _ _)))) (lit2 (d := Kd.bool) [.bool true] [.bool true] h3 rfl rfl rfl rfl rfl) (by decide); rw [ex1] at hx_; (refine Calls.mono hx_ ?_); rintro e w1 ⟨v_, rfl, hm_⟩; have n_ := sep_made_of (sep_drop (sep_drop (sep_drop h3))) (sep_only hm_); clear hm_ hx_ h1 h2 h3; have n0_ := Aside0.mk n_; clear HS n_; have HS := n0_; clear n0_))
  obtain ⟨gp, cp, rfl, p1, p2⟩ := pr_cells HS.out
  clear k1 k2 k3 k4 k5 m1 m2 m3 m4 m5
  obtain ⟨m1, m2, m3, m4, m5⟩ := facts5 (sep_l1 HS.out)
  obtain ⟨k1, k2, k3, k4, k5⟩ := facts5 (sep_l2 HS.out)
  obtain ⟨am1, am2, am3, am4, am5⟩ := facts5 (sep_l1 (sep_skip HS.out (.cells #[.int .i64 1, .int .i64 0, .int .u32 2, .int .u32 0, .int .u16 0] 36))); obtain ⟨bk1, bk2, bk3, bk4, bk5⟩ := facts5 (sep_l2 (sep_skip HS.out (.cells #[.int .i64 1, .int .i64 2, .int .u32 2, .int .u32 0, .int .u16 0] 36)))
  go_wp2_with (first
    | (go_at_call 11; have h1 := sep_allocg HS.out #[.int .i64 1, .int .i64 0, .int .u32 2, .int .u32 0, .int .u16 0] 36 _ rfl; have h2 := sep_allocg h1 #[.int .i64 1, .int .i64 2, .int .u32 2, .int .u32 0, .int .u16 0] 36 _ (szS _ rfl); have hx_ := c_r1 _ _ _ (lit1 ea.cells (sep_l1 h2) rfl rfl (recK_mk _ _)) (lit1 eb.cells h2 rfl rfl (recK_mk _ _)); ((with_reducible refine Calls.mono hx_ ?_); rintro e w1 ⟨rfl, hb_⟩; have n_ := sep_drop2 (sep_below h2 hb_); clear hb_ hx_; (try clear h1); (try clear h2); (try clear h3); have n0_ := Aside0.mk n_; clear HS n_; have HS := n0_; clear n0_; (clear k1 k2 k3 k4 k5 m1 m2 m3 m4 m5 p1 p2 am1 am2 am3 am4 am5 bk1 bk2 bk3 bk4 bk5); obtain ⟨m1, m2, m3, m4, m5⟩ := facts5 (sep_l1 HS.out); obtain ⟨k1, k2, k3, k4, k5⟩ := facts5 (sep_l2 HS.out); obtain ⟨g_, c_, he_, p1, p2⟩ := pr_cells HS.out; cases he_; obtain ⟨am1, am2, am3, am4, am5⟩ := facts5 (sep_l1 (sep_skip HS.out (.cells #[.int .i64 1, .int .i64 0, .int .u32 2, .int .u32 0, .int .u16 0] 36))); obtain ⟨bk1, bk2, bk3, bk4, bk5⟩ := facts5 (sep_l2 (sep_skip HS.out (.cells #[.int .i64 1, .int .i64 2, .int .u32 2, .int .u32 0, .int .u16 0] 36)))))
    | (go_at_call 11; have h1 := sep_allocg HS.out #[.int .i64 1, .int .i64 2, .int .u32 2, .int .u32 0, .int .u16 0] 36 _ rfl; have h2 := sep_allocg h1 #[.int .i64 1, .int .i64 0, .int .u32 2, .int .u32 0, .int .u16 0] 36 _ (szS _ rfl); have hx_ := c_r2 _ _ _ (lit1 eb.cells (sep_l1 h2) rfl rfl (recK_mk _ _)) (lit1 ea.cells h2 rfl rfl (recK_mk _ _)); ((with_reducible refine Calls.mono hx_ ?_); rintro e w1 ⟨rfl, hb_⟩; have n_ := sep_drop2 (sep_below h2 hb_); clear hb_ hx_; (try clear h1); (try clear h2); (try clear h3); have n0_ := Aside0.mk n_; clear HS n_; have HS := n0_; clear n0_; (clear k1 k2 k3 k4 k5 m1 m2 m3 m4 m5 p1 p2 am1 am2 am3 am4 am5 bk1 bk2 bk3 bk4 bk5); obtain ⟨m1, m2, m3, m4, m5⟩ := facts5 (sep_l1 HS.out); obtain ⟨k1, k2, k3, k4, k5⟩ := facts5 (sep_l2 HS.out); obtain ⟨g_, c_, he_, p1, p2⟩ := pr_cells HS.out; cases he_; obtain ⟨am1, am2, am3, am4, am5⟩ := facts5 (sep_l1 (sep_skip HS.out (.cells #[.int .i64 1, .int .i64 0, .int .u32 2, .int .u32 0, .int .u16 0] 36))); obtain ⟨bk1, bk2, bk3, bk4, bk5⟩ := facts5 (sep_l2 (sep_skip HS.out (.cells #[.int .i64 1, .int .i64 2, .int .u32 2, .int .u32 0, .int .u16 0] 36)))))
    | (go_at_call 14; have h1 := sep_allocg HS.out #[.int .i64 1, .int .i64 2, .int .u32 2, .int .u32 0, .int .u16 0] 36 _ rfl; have h2 := sep_allocg h1 #[.int .i64 1, .int .i64 0, .int .u32 2, .int .u32 0, .int .u16 0] 36 _ (szS _ rfl); have h3 := sep_allocg h2 #[.slice (some ⟨w1.heap.size + 1, 0, none⟩) 1 1] 24 _ (szS _ (szS _ rfl)); have hx_ := c_s1 _ _ _ (lit1 eb.cells (sep_l2 h3) rfl rfl (recK_mk _ _)) (lit1 (d := llK) [.slice (some ⟨w1.heap.size + 1, 0, none⟩) 1 1] h3 rfl rfl (ll_K (l := [ea]) (Nat.le_refl 1) (lit1 ea.cells (sep_l1 h3) rfl rfl (recK_mk _ _)))); ((with_reducible refine Calls.mono hx_ ?_); rintro e w1 ⟨rfl, hb_⟩; have n_ := sep_drop3 (sep_below h3 hb_); clear hb_ hx_; (try clear h1); (try clear h2); (try clear h3); have n0_ := Aside0.mk n_; clear HS n_; have HS := n0_; clear n0_; (clear k1 k2 k3 k4 k5 m1 m2 m3 m4 m5 p1 p2 am1 am2 am3 am4 am5 bk1 bk2 bk3 bk4 bk5); obtain ⟨m1, m2, m3, m4, m5⟩ := facts5 (sep_l1 HS.out); obtain ⟨k1, k2, k3, k4, k5⟩ := facts5 (sep_l2 HS.out); obtain ⟨g_, c_, he_, p1, p2⟩ := pr_cells HS.out; cases he_; obtain ⟨am1, am2, am3, am4, am5⟩ := facts5 (sep_l1 (sep_skip HS.out (.cells #[.int .i64 1, .int .i64 0, .int .u32 2, .int .u32 0, .int .u16 0] 36))); obtain ⟨bk1, bk2, bk3, bk4, bk5⟩ := facts5 (sep_l2 (sep_skip HS.out (.cells #[.int .i64 1, .int .i64 2, .int .u32 2, .int .u32 0, .int .u16 0] 36)))))
    | (go_at_call 14; have h1 := sep_allocg HS.out #[.int .i64 1, .int .i64 0, .int .u32 2, .int .u32 0, .int .u16 0] 36 _ rfl; have hx_ := c_s2 _ _ (lit1 ea.cells h1 rfl rfl (recK_mk _ _)); ((with_reducible refine Calls.mono hx_ ?_); rintro e w1 ⟨rfl, hb_⟩; have n_ := sep_drop (sep_below h1 hb_); clear hb_ hx_; (try clear h1); (try clear h2); (try clear h3); have n0_ := Aside0.mk n_; clear HS n_; have HS := n0_; clear n0_; (clear k1 k2 k3 k4 k5 m1 m2 m3 m4 m5 p1 p2 am1 am2 am3 am4 am5 bk1 bk2 bk3 bk4 bk5); obtain ⟨m1, m2, m3, m4, m5⟩ := facts5 (sep_l1 HS.out); obtain ⟨k1, k2, k3, k4, k5⟩ := facts5 (sep_l2 HS.out); obtain ⟨g_, c_, he_, p1, p2⟩ := pr_cells HS.out; cases he_; obtain ⟨am1, am2, am3, am4, am5⟩ := facts5 (sep_l1 (sep_skip HS.out (.cells #[.int .i64 1, .int .i64 0, .int .u32 2, .int .u32 0, .int .u16 0] 36))); obtain ⟨bk1, bk2, bk3, bk4, bk5⟩ := facts5 (sep_l2 (sep_skip HS.out (.cells #[.int .i64 1, .int .i64 2, .int .u32 2, .int .u32 0, .int .u16 0] 36)))))
    | (go_at_call 14; have hx_ := c_s3 w1; ((with_reducible refine Calls.mono hx_ ?_); rintro e w1 ⟨rfl, hb_⟩; have n_ := id (sep_below HS.out hb_); clear hb_ hx_; (try clear h1); (try clear h2); (try clear h3); have n0_ := Aside0.mk n_; clear HS n_; have HS := n0_; clear n0_; (clear k1 k2 k3 k4 k5 m1 m2 m3 m4 m5 p1 p2 am1 am2 am3 am4 am5 bk1 bk2 bk3 bk4 bk5); obtain ⟨m1, m2, m3, m4, m5⟩ := facts5 (sep_l1 HS.out); obtain ⟨k1, k2, k3, k4, k5⟩ := facts5 (sep_l2 HS.out); obtain ⟨g_, c_, he_, p1, p2⟩ := pr_cells HS.out; cases he_; obtain ⟨am1, am2, am3, am4, am5⟩ := facts5 (sep_l1 (sep_skip HS.out (.cells #[.int .i64 1, .int .i64 0, .int .u32 2, .int .u32 0, .int .u16 0] 36))); obtain ⟨bk1, bk2, bk3, bk4, bk5⟩ := facts5 (sep_l2 (sep_skip HS.out (.cells #[.int .i64 1, .int .i64 2, .int .u32 2, .int .u32 0, .int .u16 0] 36)))))
    | (go_at_call 15; have h1 := sep_allocg HS.out #[.int .i64 1, .int .i64 0, .int .u32 2, .int .u32 0, .int .u16 0, .int .i64 1, .int .i64 2, .int .u32 2, .int .u32 0, .int .u16 0] 36 _ rfl; have hx_ := c_text _ _ (lit2 ea.cells eb.cells h1 rfl rfl rfl (recK_mk _ _) (recK_mk _ _)); ((with_reducible refine Calls.mono hx_ ?_); rintro e w1 ⟨rfl, hb_⟩; have n_ := sep_drop (sep_below h1 hb_); clear hb_ hx_; (try clear h1); (try clear h2); (try clear h3); have n0_ := Aside0.mk n_; clear HS n_; have HS := n0_; clear n0_; (clear k1 k2 k3 k4 k5 m1 m2 m3 m4 m5 p1 p2 am1 am2 am3 am4 am5 bk1 bk2 bk3 bk4 bk5); obtain ⟨m1, m2, m3, m4, m5⟩ := facts5 (sep_l1 HS.out); obtain ⟨k1, k2, k3, k4, k5⟩ := facts5 (sep_l2 HS.out); obtain ⟨g_, c_, he_, p1, p2⟩ := pr_cells HS.out; cases he_; obtain ⟨am1, am2, am3, am4, am5⟩ := facts5 (sep_l1 (sep_skip HS.out (.cells #[.int .i64 1, .int .i64 0, .int .u32 2, .int .u32 0, .int .u16 0] 36))); obtain ⟨bk1, bk2, bk3, bk4, bk5⟩ := facts5 (sep_l2 (sep_skip HS.out (.cells #[.int .i64 1, .int .i64 2, .int .u32 2, .int .u32 0, .int .u16 0] 36))))))
  go_ret
  exact ⟨rfl, sep_below_of HS.out⟩
end Go.Proofs.YthncipgafdfnfaaDoor.JW
