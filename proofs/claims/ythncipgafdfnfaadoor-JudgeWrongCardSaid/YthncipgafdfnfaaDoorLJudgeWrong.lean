/- JudgeWrong, walked. Conditions: those that the theorem names. -/
import Derived.Test.YthncipgafdfnfaaDoorQW
import Derived.Test.YthncipgafdfnfaaDoorLJudgeStrangers
namespace Go.Proofs.YthncipgafdfnfaaDoor.JW
set_option linter.unusedVariables false
set_option linter.unusedSimpArgs false
open Go Go.RowKit Go.Proofs.YthncipgafdfnfaaDoorS Go.Proofs.YthncipgafdfnfaaDoorS.Asn Go.Proofs.YthncipgafdfnfaaDoor.PA Go.Proofs.YthncipgafdfnfaaDoorW.PrintWords Go.Proofs.YthncipgafdfnfaaDoorW.PrintLast Go.Proofs.YthncipgafdfnfaaDoorW.PrintMore
def LL (b : Nat → Bool) (v i u : Nat) : List Rec := if u < v then baseL b 8 else if u = v then baseL b i else []
theorem LL_zero (b : Nat → Bool) : (fun _ : Nat => ([] : List Rec)) = LL b 0 0 := by
  funext u
  unfold LL
  by_cases h : u = 0
  · rw [if_neg (by omega), if_pos h]; rfl
  · rw [if_neg (by omega), if_neg h]
theorem LL_next (b : Nat → Bool) (v : Nat) : LL b v 8 = LL b (v + 1) 0 := by
  funext u
  unfold LL
  by_cases h : u < v
  · rw [if_pos h, if_pos (by omega)]
  · rw [if_neg h]
    by_cases h2 : u = v
    · rw [if_pos h2, if_pos (by omega)]
    · rw [if_neg h2, if_neg (by omega)]
      by_cases h3 : u = v + 1
      · rw [if_pos h3]; rfl
      · rw [if_neg h3]
theorem LL_at (b : Nat → Bool) (v i : Nat) : LL b v i v = baseL b i := by unfold LL; rw [if_neg (by omega), if_pos rfl]
theorem LL_ne (b : Nat → Bool) (v i j u : Nat) (h : u ≠ v) : LL b v i u = LL b v j u := by unfold LL; rw [if_neg h, if_neg h]
theorem LL_all (b : Nat → Bool) (v i u : Nat) (h : u < v) : LL b v i u = baseL b 8 := by unfold LL; rw [if_pos h]
section
variable {w0 w : World} {ok0 : Nat → Prop} {F : Asn} {g n : Nat} {b : Nat → Bool}
theorem bools_set (h : Sep w0 ok0 (pt g (arrV n (fun u => .bool (b u))) 4 ⋆ F) w) (i : Nat) (x : Bool) : Sep w0 ok0 (pt g (arrV n (fun u => .bool (if u = i then x else b u))) 4 ⋆ F) (w.setCell ⟨g, i, none⟩ (.bool x)) := by
  have hs := sep_set h i (.bool x)
  rw [arrV_set] at hs
  rw [show (fun u => Value.bool (if u = i then x else b u)) = fun u => if u = i then Value.bool x else Value.bool (b u) from funext fun u => by by_cases hu : u = i <;> simp [hu]]
  exact hs
theorem bools_C (h : Sep w0 ok0 (pt g (arrV n (fun u => .bool (b u))) 4 ⋆ F) w) (hn : n ≤ 1000) : Kd.bool.C w (some ⟨g, 0, none⟩) n (upL b n) := by
  refine ⟨upL_len b n, by first | omega | (simp; omega), fun _ => ⟨_, rfl, fun i l hi => ?_⟩⟩
  have him : i < n := by have := (List.getElem?_eq_some_iff.1 hi).1; rw [upL_len] at this; exact this
  unfold upL at hi
  rw [List.getElem?_map, List.getElem?_range him] at hi
  obtain rfl : b i = l := by simpa using hi
  refine ⟨[.bool (b i)], rfl, rfl, fun j u hu => ?_⟩
  match j, hu with
  | 0, hu =>
    obtain rfl : Value.bool (b i) = u := by simpa using hu
    rw [add_at, show i * Kd.bool.sz + 0 = i from Nat.mul_one i, sep_cell h, arrV_get _ him]
end
theorem getD_map (L : Nat → List Rec) (m v : Nat) (h : v < m) : ((List.range m).map L).getD v [] = L v := by
  rw [List.getD_eq_getElem?_getD, List.getElem?_map, List.getElem?_range h]
  rfl
def L1 (b : Nat → Bool) (v0 k u : Nat) : List Rec := if u = v0 then (baseL b 8).set k (otherR b k) else LL b 8 0 u
theorem W0 (b : Nat → Bool) : wrongE ((List.range 8).map (LL b 8 0)) (upL b 8) = [] :=
  wrong_none _ b 8 (fun v id hv hi => by rw [getD_map _ _ _ hv, LL_all b 8 0 v hv, base_live b 8 id hi])
theorem W1 (b : Nat → Bool) (v0 k : Nat) (hv0 : v0 < 8) (hk : k < 8) : wrongE ((List.range 8).map (L1 b v0 k)) (upL b 8) = if (b v0 && decide (v0 ≠ k)) = true then [((v0 : Int) + 1, (k : Int) + 1)] else [] :=
  wrong_one _ b 8 v0 k hv0 hk (fun v id hv hi => by
    rw [getD_map _ _ _ hv]
    unfold L1
    by_cases h : v = v0
    · rw [if_pos h, other_live b 8 k id hi hk]
      by_cases h2 : id = k
      · rw [if_pos h2, if_pos ⟨h, h2⟩, h2]
      · rw [if_neg h2, if_neg (fun q => h2 q.2)]
    · rw [if_neg h, if_neg (fun q => h q.1), LL_all b 8 0 v hv, base_live b 8 id hi])
theorem c_wr (gv gi : Nat) (L : Nat → List Rec) (b : Nat → Bool) (w : World) (hL : llK.C w (some ⟨gv, 0, none⟩) 8 ((List.range 8).map L)) (hb : Kd.bool.C w (some ⟨gi, 0, none⟩) 8 (upL b 8)) :
    Calls Tryd.prog 12 #[.slice (some ⟨gv, 0, none⟩) 8 8, .slice (some ⟨gi, 0, none⟩) 8 8] w fun e w' => ∃ v, e = .returned v ∧ Sep w (fun _ => False) (row prK 40 v (wrongE ((List.range 8).map L) (upL b 8)) ⋆ emp) w' := by
  have e1 : ((List.range 8).map L).length = 8 := by simp
  have e2 : (upL b 8).length = 8 := upL_len b 8
  have hx := wrong_walk (some ⟨gv, 0, none⟩) (some ⟨gi, 0, none⟩) 8 8 ((List.range 8).map L) (upL b 8) w (by rw [e1]; exact hL) (by rw [e2]; exact hb) (by rw [e2]; decide)
  rw [e1, e2] at hx
  exact hx
theorem keepW {w0 w' : World} {ok0 : Nat → Prop} {A B F : Asn} {g7 gv v : Nat} {r : Rec} {cs : Array Value} (h : Sep w0 ok0 (A ⋆ B ⋆ pt g7 #[.int .i64 r.id, .int .i64 r.st, .int .u32 r.inc, .int .u32 r.ip, .int .u16 r.po] 36 ⋆ pt gv cs 24 ⋆ F) w') : w'.cell? ⟨g7, 0, none⟩ = some (.int .i64 r.id) ∧ w'.cell? ⟨g7, 1, none⟩ = some (.int .i64 r.st) ∧ w'.cell? ⟨g7, 2, none⟩ = some (.int .u32 r.inc) ∧ w'.cell? ⟨g7, 3, none⟩ = some (.int .u32 r.ip) ∧ w'.cell? ⟨g7, 4, none⟩ = some (.int .u16 r.po) ∧ w'.frozen? ⟨gv, v, none⟩ = false := by
  obtain ⟨k1, k2, k3, k4, k5⟩ := facts5 (sep_l2 h)
  exact ⟨k1, k2, k3, k4, k5, sep_frozen (sep_l3 h) v⟩
theorem keepV {w0 w' : World} {ok0 : Nat → Prop} {A B F : Asn} {g7 gv v : Nat} {r : Rec} {cs : Array Value} (h : Sep w0 ok0 (pt gv cs 24 ⋆ A ⋆ B ⋆ pt g7 #[.int .i64 r.id, .int .i64 r.st, .int .u32 r.inc, .int .u32 r.ip, .int .u16 r.po] 36 ⋆ F) w') : w'.cell? ⟨g7, 0, none⟩ = some (.int .i64 r.id) ∧ w'.cell? ⟨g7, 1, none⟩ = some (.int .i64 r.st) ∧ w'.cell? ⟨g7, 2, none⟩ = some (.int .u32 r.inc) ∧ w'.cell? ⟨g7, 3, none⟩ = some (.int .u32 r.ip) ∧ w'.cell? ⟨g7, 4, none⟩ = some (.int .u16 r.po) ∧ w'.frozen? ⟨gv, v, none⟩ = false := by
  obtain ⟨k1, k2, k3, k4, k5⟩ := facts5 (sep_l3 h)
  exact ⟨k1, k2, k3, k4, k5, sep_frozen h v⟩
theorem viewC {w0 w' : World} {ok0 : Nat → Prop} {A B C F : Asn} {gv v : Nat} {x : Value} {f : Nat → Value} (h : Sep w0 ok0 (A ⋆ B ⋆ C ⋆ pt gv (arrV 8 f) 24 ⋆ F) w') (hf : f v = x) (hv : v < 8) : w'.cell? ⟨gv, v, none⟩ = some x := by
  rw [sep_cell (sep_l3 h), arrV_get f hv, hf]
set_option maxHeartbeats 4000000 in
set_option maxRecDepth 100000 in
theorem judgeWrong_walk (up viewer id : Int) (w : World) (hu0 : 0 ≤ up) (hu1 : up < 256) (hv0 : 0 ≤ viewer) (hv1 : viewer < 256) (hi0 : 0 ≤ id) (hi1 : id < 256) :
    Calls Tryd.prog 4 #[.int .u8 up, .int .u8 viewer, .int .u8 id] w fun e w' => e = .returned (.bool true) ∧ Below w.heap.size w w' := by
  have HS := Aside0.mk (sep_start w)
  have HUP := Aside0.mk (And.intro hu0 hu1)
  have HVI := Aside0.mk (And.intro hv0 hv1)
  have HID := Aside0.mk (And.intro hi0 hi1)
  clear hu0 hu1 hv0 hv1 hi0 hi1
  go_enter Tryd.func4, Tryd.ntmps4
  go_upto_region 4 with (go_at_call 8; (with_reducible refine Calls.mono (examples_walk _) ?_); rintro e w1 ⟨rfl, hb_⟩; have n_ := sep_below HS.out hb_; clear hb_; have n0_ := Aside0.mk n_; clear HS n_; have HS := n0_; clear n0_; skip)
  go_upto_region 5 with ((with_reducible refine gate_ (.makeSlice 29 (.const (.int .i64 8)) (.const (.int .i64 8))) rfl ?_); refine wp_make_pt 4 rfl 29 (.const (.int .i64 8)) (.const (.int .i64 8)) rfl 8 rfl rfl Tryd.underlying29 (.bool false) 1 info4 (by decide) (by decide) (arrV 8 (fun _ => (.bool false))) (made_arr _ _ rfl) HS.out ?_; intro wm n_; have n0_ := Aside0.mk n_; clear HS n_; have HS := n0_; clear n0_)
  generalize w1.heap.size = gi at HS ⊢
  go_upto_region 6 with (fail)
  go_loopg [9] 8 (fun gg v9 wr => ∃ (i : Nat) (b : Nat → Bool), i ≤ 8 ∧ 8 - i ≤ gg ∧ v9 = .int .i64 (i : Int) ∧ Aside0 (Sep w (fun _ => False) (pt gi (arrV 8 (fun u => .bool (b u))) 4 ⋆ emp) wr))
  case atStart => exact ⟨0, fun _ => false, Nat.zero_le _, by omega, rfl, HS⟩
  case round =>
    clear HS
    obtain ⟨i, b, hi, hgi, rfl, HS⟩ := hrel
    by_cases hlt : i < 8
    · have c1b : decide ((i : Int) < 8) = true := decide_eq_true (by omega); have c1i : ((i : Int) < 8) = True := eq_true (by omega); have c1q : (i < 8) = True := eq_true hlt; have p0_ := eq_true (Int.natCast_nonneg i)
      have t1 := sep_cell HS.out i
      rw [arrV_get _ hlt] at t1
      have f1 := sep_frozen HS.out i
      have HI := Aside0.mk (And.intro hlt hgi)
      clear hi hgi hlt
      go_wp2
      go_roundg (8 - (i + 1))
      case measure => have := HI.out; omega
      case rel => exact ⟨i + 1, _, HI.out.1, Nat.le_refl _, congrArg (Value.int .i64) (by have := HI.out; unfold wrap64; omega), ⟨bools_set HS.out i _⟩⟩
    · have c2b : decide ((i : Int) < 8) = false := decide_eq_false (by omega); have c2i : ((i : Int) < 8) = False := eq_false (by omega); have c2q : (i < 8) = False := eq_false hlt
      clear hi hgi hlt
      go_upto_region 10 with ((with_reducible refine gate_ (.makeSlice 30 (.const (.int .i64 8)) (.const (.int .i64 8))) rfl ?_); refine wp_make_pt 24 rfl 30 (.const (.int .i64 8)) (.const (.int .i64 8)) rfl 8 rfl rfl Tryd.underlying30 (.slice none 0 0) 24 info24 (by decide) (by decide) (arrV 8 (fun _ => (.slice none 0 0))) (made_arr _ _ rfl) HS.out ?_; intro wm n_; have n0_ := Aside0.mk n_; clear HS n_; have HS := n0_; clear n0_)
      generalize wr.heap.size = gv at HS ⊢
      have n_ := sep_l1 (rows_none HS.out 8)
      rw [show (all 8 fun _ => row recK 36 (.slice none 0 0) []) = all 8 fun u => row recK 36 ((fun _ : Nat => Value.slice none 0 0) u) (LL b 0 0 u) by rw [← LL_zero]] at n_
      have n0_ := Aside0.mk n_; clear HS n_; have HS := n0_; clear n0_
      go_upto_region 11 with (fail)
      go_loopg [11] 8 (fun gg v11 wr => ∃ (v : Nat) (f : Nat → Value), v ≤ 8 ∧ 8 - v ≤ gg ∧ v11 = .int .i64 (v : Int) ∧ Aside0 (Sep w (fun _ => False) (pt gv (arrV 8 f) 24 ⋆ all 8 (fun u => row recK 36 (f u) (LL b v 0 u)) ⋆ pt gi (arrV 8 (fun u => .bool (b u))) 4 ⋆ emp) wr))
      case atStart => exact ⟨0, _, Nat.zero_le _, by omega, rfl, HS⟩
      case round =>
        clear HS
        obtain ⟨v, f, hv, hgv, rfl, HS⟩ := hrel
        by_cases hlv : v < 8
        · have c1b : decide ((v : Int) < 8) = true := decide_eq_true (by omega); have c1i : ((v : Int) < 8) = True := eq_true (by omega); have c1q : (v < 8) = True := eq_true hlv; have p0_ := eq_true (Int.natCast_nonneg v)
          have v1 := eq_true (Int.natCast_nonneg v)
          have HV := Aside0.mk (And.intro hlv hgv)
          clear hv hgv hlv
          go_upto_region 14 with (fail)
          go_loopg [12] 8 (fun gg v12 wr => ∃ (i : Nat) (f : Nat → Value), i ≤ 8 ∧ 8 - i ≤ gg ∧ v12 = .int .i64 (i : Int) ∧ Aside0 (Sep w (fun _ => False) (pt gv (arrV 8 f) 24 ⋆ all 8 (fun u => row recK 36 (f u) (LL b v i u)) ⋆ pt gi (arrV 8 (fun u => .bool (b u))) 4 ⋆ emp) wr))
          case atStart => exact ⟨0, _, Nat.zero_le _, by omega, rfl, HS⟩
          case round =>
            clear HS
            obtain ⟨i, f, hi, hgi, rfl, HS⟩ := hrel
            by_cases hlt : i < 8
            · have i1b : decide ((i : Int) < 8) = true := decide_eq_true (by omega)
              have i1i : ((i : Int) < 8) = True := eq_true (by omega)
              have i1q : (i < 8) = True := eq_true hlt
              have i0_ := eq_true (Int.natCast_nonneg i)
              have HI := Aside0.mk (And.intro hlt hgi)
              have w1_ : wrap64 ((i : Int) + 1) = (i : Int) + 1 := by unfold wrap64; omega
              obtain ⟨bi, hbi⟩ : ∃ q, b i = q := ⟨_, rfl⟩
              have HBI := Aside0.mk hbi
              clear hi hgi hlt hbi
              go_upto_region 17 with (fail)
              have n_ := sep_alloc HS.out #[.int .i64 ((i : Int) + 1), .int .i64 2, .int .u32 0, .int .u32 0, .int .u16 0] 36
              have n0_ := Aside0.mk n_; clear HS n_; have HS := n0_; clear n0_
              generalize wr.alloc (.cells #[.int .i64 ((i : Int) + 1), .int .i64 2, .int .u32 0, .int .u32 0, .int .u16 0] 36) = wa at HS ⊢
              generalize wr.heap.size = g7 at HS ⊢
              have b1 := sep_cell (sep_l3 HS.out) i
              rw [arrV_get _ HI.out.1, HBI.out] at b1
              cases bi with
              | false =>
                clear b1
                have b1 : wa.cell? ⟨gi, i, none⟩ = some (.bool false) := by rw [sep_cell (sep_l3 HS.out), arrV_get _ HI.out.1, HBI.out]
                obtain ⟨r, hr⟩ : ∃ r, baseR b i = r := ⟨_, rfl⟩
                have HRR := Aside0.mk hr
                have n_ := HS.out
                rw [show (#[.int .i64 ((i : Int) + 1), .int .i64 2, .int .u32 0, .int .u32 0, .int .u16 0] : Array Value) = #[.int .i64 r.id, .int .i64 r.st, .int .u32 r.inc, .int .u32 r.ip, .int .u16 r.po] by rw [← hr]; unfold baseR; rw [HBI.out]; rfl] at n_
                replace n_ := sep_drew (sep_all_out (sep_l2 n_) HV.out.1)
                rw [LL_at] at n_
                obtain ⟨x, hx⟩ : ∃ x, f v = x := ⟨_, rfl⟩
                rw [hx] at n_
                have n0_ := Aside0.mk n_; clear HS n_; have HS := n0_; clear n0_
                obtain ⟨Aj, cj, rfl, -, -⟩ := sep_row HS.out
                have HFX := Aside0.mk hx
                clear hx hr
                (try clear k1 k2 k3 k4 k5 t2); obtain ⟨k1, k2, k3, k4, k5, t2⟩ := keepW (v := v) HS.out
                have t1 := viewC HS.out HFX.out HV.out.1
                have t3 : ((wa.alloc (.cells #[.int .i64 r.id, .int .i64 r.st, .int .u32 r.inc, .int .u32 r.ip, .int .u16 r.po] 36)).drew).cell? ⟨gv, v, none⟩ = some (.slice Aj (baseL b i).length cj) := viewC (sep_skip HS.out (.cells #[.int .i64 r.id, .int .i64 r.st, .int .u32 r.inc, .int .u32 r.ip, .int .u16 r.po] 36)) HFX.out HV.out.1
                go_upto_region 19 with (fail)
                refine wp_region_held_drew (S := (fun w' => w'.cell? ⟨g7, 0, none⟩ = some (.int .i64 r.id) ∧ w'.cell? ⟨g7, 1, none⟩ = some (.int .i64 r.st) ∧ w'.cell? ⟨g7, 2, none⟩ = some (.int .u32 r.inc) ∧ w'.cell? ⟨g7, 3, none⟩ = some (.int .u32 r.ip) ∧ w'.cell? ⟨g7, 4, none⟩ = some (.int .u16 r.po) ∧ w'.frozen? ⟨gv, v, none⟩ = false)) (by kernel_rfl) ⟨k1, k2, k3, k4, k5, t2⟩ (fun hHeld => ?_)
                (refine h_take 0 (by assumption) rfl (by decide +kernel) (by decide +kernel) (by decide +kernel) (fun _ _ _ h => h) (by rfl) (by intro w hSw; (try dsimp only at hSw); go_simp; all_goals (with_reducible rfl)) ?_; simp only [Act.put, List.setIfInBounds_toArray, List.set_cons_zero, List.set_cons_succ])
                (refine h_take 1 (by assumption) rfl (by decide +kernel) (by decide +kernel) (by decide +kernel) (fun _ _ _ h => h) (by rfl) (by intro w hSw; (try dsimp only at hSw); go_simp; all_goals (with_reducible rfl)) ?_; simp only [Act.put, List.setIfInBounds_toArray, List.set_cons_zero, List.set_cons_succ])
                (refine h_take 2 (by assumption) rfl (by decide +kernel) (by decide +kernel) (by decide +kernel) (fun _ _ _ h => h) (by rfl) (by intro w hSw; (try dsimp only at hSw); go_simp; all_goals (with_reducible rfl)) ?_; simp only [Act.put, List.setIfInBounds_toArray, List.set_cons_zero, List.set_cons_succ])
                (refine h_take 3 (by assumption) rfl (by decide +kernel) (by decide +kernel) (by decide +kernel) (fun _ _ _ h => h) (by rfl) (by intro w hSw; (try dsimp only at hSw); go_simp; all_goals (with_reducible rfl)) ?_; simp only [Act.put, List.setIfInBounds_toArray, List.set_cons_zero, List.set_cons_succ])
                (refine h_take 4 (by assumption) rfl (by decide +kernel) (by decide +kernel) (by decide +kernel) (fun _ _ _ h => h) (by rfl) (by intro w hSw; (try dsimp only at hSw); go_simp; all_goals (with_reducible rfl)) ?_; simp only [Act.put, List.setIfInBounds_toArray, List.set_cons_zero, List.set_cons_succ])
                (refine h_take 6 (by assumption) rfl (by decide +kernel) (by decide +kernel) (by decide +kernel) (fun _ _ _ h => h) (by rfl) (by intro w hSw; (try dsimp only at hSw); go_simp; all_goals (with_reducible rfl)) ?_; simp only [Act.put, List.setIfInBounds_toArray, List.set_cons_zero, List.set_cons_succ])
                refine h_two 5 7 (by kernel_rfl) rfl rfl (by rfl) (by rfl) (fun K hK => ?_) (fun K hK => ?_)
                · go_simp
                  clear hHeld
                  ((first | refine hK.out _ _ (⟨k1, k2, k3, k4, k5, t2⟩) (fun hHeld => ?_) | (go_wp2_with fail; refine hK.out _ _ (⟨k1, k2, k3, k4, k5, t2⟩) (fun hHeld => ?_))); clear hK K; (try simp only [Act.put, List.setIfInBounds_toArray, List.set_cons_zero, List.set_cons_succ]))
                  (refine h_one 7 (by kernel_rfl) rfl (by rfl) (fun K hK => ?_); go_simp; skip; clear hHeld; ((first | refine hK.out _ _ (keepW (sep_skip HS.out _)) (fun hHeld => ?_) | (go_wp2_with fail; refine hK.out _ _ (keepW (sep_skip HS.out _)) (fun hHeld => ?_))); clear hK K; (try simp only [Act.put, List.setIfInBounds_toArray, List.set_cons_zero, List.set_cons_succ])))
                  refine h_raw 8 (by kernel_rfl) rfl (fun K hK => ?_)
                  (refine step_append (w0 := w) (ok0 := fun _ => False) recK (by rfl) (.tmp 56) (.tmp 58) 24 36 z36 32 rfl Tryd.underlying24 info36 rfl (by decide) (by decide) _ (baseL b i) r r.cells (by rfl) (by rfl) (recK_M _ _ _ _) HS.out (by have := baseL_len b i; have := HI.out; omega) (fun v1 w5 hs => ?_); clear HS k1 k2 k3 k4 k5 t2 t1 t3; obtain ⟨A1, c1, rfl, -, -⟩ := sep_row hs; have HS := Aside0.mk hs; clear hs; obtain ⟨k1, k2, k3, k4, k5, t2⟩ := keepW (v := v) HS.out; have t1 := viewC HS.out HFX.out HV.out.1)
                  clear hHeld
                  ((first | refine hK.out _ _ (⟨k1, k2, k3, k4, k5, t2⟩) (fun hHeld => ?_) | (go_wp2_with fail; refine hK.out _ _ (⟨k1, k2, k3, k4, k5, t2⟩) (fun hHeld => ?_))); clear hK K; (try simp only [Act.put, List.setIfInBounds_toArray, List.set_cons_zero, List.set_cons_succ]))
                  (refine h_take 9 (by assumption) rfl (by decide +kernel) (by decide +kernel) (by decide +kernel) (fun _ _ _ h => h) (by rfl) (by intro w hSw; (try dsimp only at hSw); go_simp; all_goals (with_reducible rfl)) ?_; simp only [Act.put, List.setIfInBounds_toArray, List.set_cons_zero, List.set_cons_succ])
                  (refine h_one 10 (by kernel_rfl) rfl (by rfl) (fun K hK => ?_); go_simp; skip; clear hHeld; ((first | refine hK.out _ _ (keepV (sep_set (sep_l3 HS.out) v _)) (fun hHeld => ?_) | (go_wp2_with fail; refine hK.out _ _ (keepV (sep_set (sep_l3 HS.out) v _)) (fun hHeld => ?_))); clear hK K; (try simp only [Act.put, List.setIfInBounds_toArray, List.set_cons_zero, List.set_cons_succ])))
                  refine wpAnyH_done (by kernel_rfl) ?_ _
                  have n_ := HS.out
                  rw [show (baseL b i ++ [r]).length = (baseL b i).length + 1 by simp] at n_
                  have q1 := sep_set (sep_l3 n_) v (.slice A1 ((baseL b i).length + 1) c1)
                  rw [arrV_set] at q1
                  replace n_ := all_put (f' := fun u => if u = v then .slice A1 ((baseL b i).length + 1) c1 else f u) (L' := LL b v (i + 1)) (sep_l1 (sep_l2 (sep_l1 q1))) HV.out.1 (if_pos rfl) (by rw [LL_at, baseL_succ, HRR.out]) (fun u hu => if_neg hu) (fun u hu => LL_ne b v (i + 1) i u hu)
                  replace n_ := sep_l1 (sep_drop (sep_l2 n_))
                  clear q1 hHeld
                  have n0_ := Aside0.mk n_; clear HS n_; have HS := n0_; clear n0_
                  generalize w5.setCell ⟨gv, v, none⟩ (.slice A1 ((baseL b i).length + 1) c1) = w6 at HS ⊢
                  clear k1 k2 k3 k4 k5 t1 t2
                  go_wp2
                  go_roundg (8 - (i + 1))
                  case measure => have := HI.out; omega
                  case rel => exact ⟨i + 1, _, HI.out.1, Nat.le_refl _, congrArg (Value.int .i64) (by have := HI.out; unfold wrap64; omega), HS⟩
                · go_simp
                  clear hHeld
                  ((first | refine hK.out _ _ (keepW (sep_skip HS.out _)) (fun hHeld => ?_) | (go_wp2_with fail; refine hK.out _ _ (keepW (sep_skip HS.out _)) (fun hHeld => ?_))); clear hK K; (try simp only [Act.put, List.setIfInBounds_toArray, List.set_cons_zero, List.set_cons_succ]))
                  (refine h_one 5 (by kernel_rfl) rfl (by rfl) (fun K hK => ?_); go_simp; skip; clear hHeld; ((first | refine hK.out _ _ (keepW (sep_skip HS.out _)) (fun hHeld => ?_) | (go_wp2_with fail; refine hK.out _ _ (keepW (sep_skip HS.out _)) (fun hHeld => ?_))); clear hK K; (try simp only [Act.put, List.setIfInBounds_toArray, List.set_cons_zero, List.set_cons_succ])))
                  refine h_raw 8 (by kernel_rfl) rfl (fun K hK => ?_)
                  (refine step_append (w0 := w) (ok0 := fun _ => False) recK (by rfl) (.tmp 56) (.tmp 58) 24 36 z36 32 rfl Tryd.underlying24 info36 rfl (by decide) (by decide) _ (baseL b i) r r.cells (by rfl) (by rfl) (recK_M _ _ _ _) HS.out (by have := baseL_len b i; have := HI.out; omega) (fun v1 w5 hs => ?_); clear HS k1 k2 k3 k4 k5 t2 t1 t3; obtain ⟨A1, c1, rfl, -, -⟩ := sep_row hs; have HS := Aside0.mk hs; clear hs; obtain ⟨k1, k2, k3, k4, k5, t2⟩ := keepW (v := v) HS.out; have t1 := viewC HS.out HFX.out HV.out.1)
                  clear hHeld
                  ((first | refine hK.out _ _ (⟨k1, k2, k3, k4, k5, t2⟩) (fun hHeld => ?_) | (go_wp2_with fail; refine hK.out _ _ (⟨k1, k2, k3, k4, k5, t2⟩) (fun hHeld => ?_))); clear hK K; (try simp only [Act.put, List.setIfInBounds_toArray, List.set_cons_zero, List.set_cons_succ]))
                  (refine h_take 9 (by assumption) rfl (by decide +kernel) (by decide +kernel) (by decide +kernel) (fun _ _ _ h => h) (by rfl) (by intro w hSw; (try dsimp only at hSw); go_simp; all_goals (with_reducible rfl)) ?_; simp only [Act.put, List.setIfInBounds_toArray, List.set_cons_zero, List.set_cons_succ])
                  (refine h_one 10 (by kernel_rfl) rfl (by rfl) (fun K hK => ?_); go_simp; skip; clear hHeld; ((first | refine hK.out _ _ (keepV (sep_set (sep_l3 HS.out) v _)) (fun hHeld => ?_) | (go_wp2_with fail; refine hK.out _ _ (keepV (sep_set (sep_l3 HS.out) v _)) (fun hHeld => ?_))); clear hK K; (try simp only [Act.put, List.setIfInBounds_toArray, List.set_cons_zero, List.set_cons_succ])))
                  refine wpAnyH_done (by kernel_rfl) ?_ _
                  have n_ := HS.out
                  rw [show (baseL b i ++ [r]).length = (baseL b i).length + 1 by simp] at n_
                  have q1 := sep_set (sep_l3 n_) v (.slice A1 ((baseL b i).length + 1) c1)
                  rw [arrV_set] at q1
                  replace n_ := all_put (f' := fun u => if u = v then .slice A1 ((baseL b i).length + 1) c1 else f u) (L' := LL b v (i + 1)) (sep_l1 (sep_l2 (sep_l1 q1))) HV.out.1 (if_pos rfl) (by rw [LL_at, baseL_succ, HRR.out]) (fun u hu => if_neg hu) (fun u hu => LL_ne b v (i + 1) i u hu)
                  replace n_ := sep_l1 (sep_drop (sep_l2 n_))
                  clear q1 hHeld
                  have n0_ := Aside0.mk n_; clear HS n_; have HS := n0_; clear n0_
                  generalize w5.setCell ⟨gv, v, none⟩ (.slice A1 ((baseL b i).length + 1) c1) = w6 at HS ⊢
                  clear k1 k2 k3 k4 k5 t1 t2
                  go_wp2
                  go_roundg (8 - (i + 1))
                  case measure => have := HI.out; omega
                  case rel => exact ⟨i + 1, _, HI.out.1, Nat.le_refl _, congrArg (Value.int .i64) (by have := HI.out; unfold wrap64; omega), HS⟩
              | true =>
                have k1 := sep_cell HS.out 1
                have f1 := sep_frozen HS.out 1
                go_upto_region 19 with (fail)
                have n_ := sep_set HS.out 1 (.int .i64 1)
                rw [show (#[.int .i64 ((i : Int) + 1), .int .i64 2, .int .u32 0, .int .u32 0, .int .u16 0] : Array Value).setIfInBounds 1 (.int .i64 1) = #[.int .i64 ((i : Int) + 1), .int .i64 1, .int .u32 0, .int .u32 0, .int .u16 0] from rfl] at n_
                have n0_ := Aside0.mk n_; clear HS n_; have HS := n0_; clear n0_
                generalize wa.setCell ⟨g7, 1, none⟩ (.int .i64 1) = wb at HS ⊢
                clear k1 f1 b1
                obtain ⟨r, hr⟩ : ∃ r, baseR b i = r := ⟨_, rfl⟩
                have HRR := Aside0.mk hr
                have n_ := HS.out
                rw [show (#[.int .i64 ((i : Int) + 1), .int .i64 1, .int .u32 0, .int .u32 0, .int .u16 0] : Array Value) = #[.int .i64 r.id, .int .i64 r.st, .int .u32 r.inc, .int .u32 r.ip, .int .u16 r.po] by rw [← hr]; unfold baseR; rw [HBI.out]; rfl] at n_
                replace n_ := sep_drew (sep_all_out (sep_l2 n_) HV.out.1)
                rw [LL_at] at n_
                obtain ⟨x, hx⟩ : ∃ x, f v = x := ⟨_, rfl⟩
                rw [hx] at n_
                have n0_ := Aside0.mk n_; clear HS n_; have HS := n0_; clear n0_
                obtain ⟨Aj, cj, rfl, -, -⟩ := sep_row HS.out
                have HFX := Aside0.mk hx
                clear hx hr
                (try clear k1 k2 k3 k4 k5 t2); obtain ⟨k1, k2, k3, k4, k5, t2⟩ := keepW (v := v) HS.out
                have t1 := viewC HS.out HFX.out HV.out.1
                have t3 : ((wb.alloc (.cells #[.int .i64 r.id, .int .i64 r.st, .int .u32 r.inc, .int .u32 r.ip, .int .u16 r.po] 36)).drew).cell? ⟨gv, v, none⟩ = some (.slice Aj (baseL b i).length cj) := viewC (sep_skip HS.out (.cells #[.int .i64 r.id, .int .i64 r.st, .int .u32 r.inc, .int .u32 r.ip, .int .u16 r.po] 36)) HFX.out HV.out.1
                go_upto_region 19 with (fail)
                refine wp_region_held_drew (S := (fun w' => w'.cell? ⟨g7, 0, none⟩ = some (.int .i64 r.id) ∧ w'.cell? ⟨g7, 1, none⟩ = some (.int .i64 r.st) ∧ w'.cell? ⟨g7, 2, none⟩ = some (.int .u32 r.inc) ∧ w'.cell? ⟨g7, 3, none⟩ = some (.int .u32 r.ip) ∧ w'.cell? ⟨g7, 4, none⟩ = some (.int .u16 r.po) ∧ w'.frozen? ⟨gv, v, none⟩ = false)) (by kernel_rfl) ⟨k1, k2, k3, k4, k5, t2⟩ (fun hHeld => ?_)
                (refine h_take 0 (by assumption) rfl (by decide +kernel) (by decide +kernel) (by decide +kernel) (fun _ _ _ h => h) (by rfl) (by intro w hSw; (try dsimp only at hSw); go_simp; all_goals (with_reducible rfl)) ?_; simp only [Act.put, List.setIfInBounds_toArray, List.set_cons_zero, List.set_cons_succ])
                (refine h_take 1 (by assumption) rfl (by decide +kernel) (by decide +kernel) (by decide +kernel) (fun _ _ _ h => h) (by rfl) (by intro w hSw; (try dsimp only at hSw); go_simp; all_goals (with_reducible rfl)) ?_; simp only [Act.put, List.setIfInBounds_toArray, List.set_cons_zero, List.set_cons_succ])
                (refine h_take 2 (by assumption) rfl (by decide +kernel) (by decide +kernel) (by decide +kernel) (fun _ _ _ h => h) (by rfl) (by intro w hSw; (try dsimp only at hSw); go_simp; all_goals (with_reducible rfl)) ?_; simp only [Act.put, List.setIfInBounds_toArray, List.set_cons_zero, List.set_cons_succ])
                (refine h_take 3 (by assumption) rfl (by decide +kernel) (by decide +kernel) (by decide +kernel) (fun _ _ _ h => h) (by rfl) (by intro w hSw; (try dsimp only at hSw); go_simp; all_goals (with_reducible rfl)) ?_; simp only [Act.put, List.setIfInBounds_toArray, List.set_cons_zero, List.set_cons_succ])
                (refine h_take 4 (by assumption) rfl (by decide +kernel) (by decide +kernel) (by decide +kernel) (fun _ _ _ h => h) (by rfl) (by intro w hSw; (try dsimp only at hSw); go_simp; all_goals (with_reducible rfl)) ?_; simp only [Act.put, List.setIfInBounds_toArray, List.set_cons_zero, List.set_cons_succ])
                (refine h_take 6 (by assumption) rfl (by decide +kernel) (by decide +kernel) (by decide +kernel) (fun _ _ _ h => h) (by rfl) (by intro w hSw; (try dsimp only at hSw); go_simp; all_goals (with_reducible rfl)) ?_; simp only [Act.put, List.setIfInBounds_toArray, List.set_cons_zero, List.set_cons_succ])
                refine h_two 5 7 (by kernel_rfl) rfl rfl (by rfl) (by rfl) (fun K hK => ?_) (fun K hK => ?_)
                · go_simp
                  clear hHeld
                  ((first | refine hK.out _ _ (⟨k1, k2, k3, k4, k5, t2⟩) (fun hHeld => ?_) | (go_wp2_with fail; refine hK.out _ _ (⟨k1, k2, k3, k4, k5, t2⟩) (fun hHeld => ?_))); clear hK K; (try simp only [Act.put, List.setIfInBounds_toArray, List.set_cons_zero, List.set_cons_succ]))
                  (refine h_one 7 (by kernel_rfl) rfl (by rfl) (fun K hK => ?_); go_simp; skip; clear hHeld; ((first | refine hK.out _ _ (keepW (sep_skip HS.out _)) (fun hHeld => ?_) | (go_wp2_with fail; refine hK.out _ _ (keepW (sep_skip HS.out _)) (fun hHeld => ?_))); clear hK K; (try simp only [Act.put, List.setIfInBounds_toArray, List.set_cons_zero, List.set_cons_succ])))
                  refine h_raw 8 (by kernel_rfl) rfl (fun K hK => ?_)
                  (refine step_append (w0 := w) (ok0 := fun _ => False) recK (by rfl) (.tmp 56) (.tmp 58) 24 36 z36 32 rfl Tryd.underlying24 info36 rfl (by decide) (by decide) _ (baseL b i) r r.cells (by rfl) (by rfl) (recK_M _ _ _ _) HS.out (by have := baseL_len b i; have := HI.out; omega) (fun v1 w5 hs => ?_); clear HS k1 k2 k3 k4 k5 t2 t1 t3; obtain ⟨A1, c1, rfl, -, -⟩ := sep_row hs; have HS := Aside0.mk hs; clear hs; obtain ⟨k1, k2, k3, k4, k5, t2⟩ := keepW (v := v) HS.out; have t1 := viewC HS.out HFX.out HV.out.1)
                  clear hHeld
                  ((first | refine hK.out _ _ (⟨k1, k2, k3, k4, k5, t2⟩) (fun hHeld => ?_) | (go_wp2_with fail; refine hK.out _ _ (⟨k1, k2, k3, k4, k5, t2⟩) (fun hHeld => ?_))); clear hK K; (try simp only [Act.put, List.setIfInBounds_toArray, List.set_cons_zero, List.set_cons_succ]))
                  (refine h_take 9 (by assumption) rfl (by decide +kernel) (by decide +kernel) (by decide +kernel) (fun _ _ _ h => h) (by rfl) (by intro w hSw; (try dsimp only at hSw); go_simp; all_goals (with_reducible rfl)) ?_; simp only [Act.put, List.setIfInBounds_toArray, List.set_cons_zero, List.set_cons_succ])
                  (refine h_one 10 (by kernel_rfl) rfl (by rfl) (fun K hK => ?_); go_simp; skip; clear hHeld; ((first | refine hK.out _ _ (keepV (sep_set (sep_l3 HS.out) v _)) (fun hHeld => ?_) | (go_wp2_with fail; refine hK.out _ _ (keepV (sep_set (sep_l3 HS.out) v _)) (fun hHeld => ?_))); clear hK K; (try simp only [Act.put, List.setIfInBounds_toArray, List.set_cons_zero, List.set_cons_succ])))
                  refine wpAnyH_done (by kernel_rfl) ?_ _
                  have n_ := HS.out
                  rw [show (baseL b i ++ [r]).length = (baseL b i).length + 1 by simp] at n_
                  have q1 := sep_set (sep_l3 n_) v (.slice A1 ((baseL b i).length + 1) c1)
                  rw [arrV_set] at q1
                  replace n_ := all_put (f' := fun u => if u = v then .slice A1 ((baseL b i).length + 1) c1 else f u) (L' := LL b v (i + 1)) (sep_l1 (sep_l2 (sep_l1 q1))) HV.out.1 (if_pos rfl) (by rw [LL_at, baseL_succ, HRR.out]) (fun u hu => if_neg hu) (fun u hu => LL_ne b v (i + 1) i u hu)
                  replace n_ := sep_l1 (sep_drop (sep_l2 n_))
                  clear q1 hHeld
                  have n0_ := Aside0.mk n_; clear HS n_; have HS := n0_; clear n0_
                  generalize w5.setCell ⟨gv, v, none⟩ (.slice A1 ((baseL b i).length + 1) c1) = w6 at HS ⊢
                  clear k1 k2 k3 k4 k5 t1 t2
                  go_wp2
                  go_roundg (8 - (i + 1))
                  case measure => have := HI.out; omega
                  case rel => exact ⟨i + 1, _, HI.out.1, Nat.le_refl _, congrArg (Value.int .i64) (by have := HI.out; unfold wrap64; omega), HS⟩
                · go_simp
                  clear hHeld
                  ((first | refine hK.out _ _ (keepW (sep_skip HS.out _)) (fun hHeld => ?_) | (go_wp2_with fail; refine hK.out _ _ (keepW (sep_skip HS.out _)) (fun hHeld => ?_))); clear hK K; (try simp only [Act.put, List.setIfInBounds_toArray, List.set_cons_zero, List.set_cons_succ]))
                  (refine h_one 5 (by kernel_rfl) rfl (by rfl) (fun K hK => ?_); go_simp; skip; clear hHeld; ((first | refine hK.out _ _ (keepW (sep_skip HS.out _)) (fun hHeld => ?_) | (go_wp2_with fail; refine hK.out _ _ (keepW (sep_skip HS.out _)) (fun hHeld => ?_))); clear hK K; (try simp only [Act.put, List.setIfInBounds_toArray, List.set_cons_zero, List.set_cons_succ])))
                  refine h_raw 8 (by kernel_rfl) rfl (fun K hK => ?_)
                  (refine step_append (w0 := w) (ok0 := fun _ => False) recK (by rfl) (.tmp 56) (.tmp 58) 24 36 z36 32 rfl Tryd.underlying24 info36 rfl (by decide) (by decide) _ (baseL b i) r r.cells (by rfl) (by rfl) (recK_M _ _ _ _) HS.out (by have := baseL_len b i; have := HI.out; omega) (fun v1 w5 hs => ?_); clear HS k1 k2 k3 k4 k5 t2 t1 t3; obtain ⟨A1, c1, rfl, -, -⟩ := sep_row hs; have HS := Aside0.mk hs; clear hs; obtain ⟨k1, k2, k3, k4, k5, t2⟩ := keepW (v := v) HS.out; have t1 := viewC HS.out HFX.out HV.out.1)
                  clear hHeld
                  ((first | refine hK.out _ _ (⟨k1, k2, k3, k4, k5, t2⟩) (fun hHeld => ?_) | (go_wp2_with fail; refine hK.out _ _ (⟨k1, k2, k3, k4, k5, t2⟩) (fun hHeld => ?_))); clear hK K; (try simp only [Act.put, List.setIfInBounds_toArray, List.set_cons_zero, List.set_cons_succ]))
                  (refine h_take 9 (by assumption) rfl (by decide +kernel) (by decide +kernel) (by decide +kernel) (fun _ _ _ h => h) (by rfl) (by intro w hSw; (try dsimp only at hSw); go_simp; all_goals (with_reducible rfl)) ?_; simp only [Act.put, List.setIfInBounds_toArray, List.set_cons_zero, List.set_cons_succ])
                  (refine h_one 10 (by kernel_rfl) rfl (by rfl) (fun K hK => ?_); go_simp; skip; clear hHeld; ((first | refine hK.out _ _ (keepV (sep_set (sep_l3 HS.out) v _)) (fun hHeld => ?_) | (go_wp2_with fail; refine hK.out _ _ (keepV (sep_set (sep_l3 HS.out) v _)) (fun hHeld => ?_))); clear hK K; (try simp only [Act.put, List.setIfInBounds_toArray, List.set_cons_zero, List.set_cons_succ])))
                  refine wpAnyH_done (by kernel_rfl) ?_ _
                  have n_ := HS.out
                  rw [show (baseL b i ++ [r]).length = (baseL b i).length + 1 by simp] at n_
                  have q1 := sep_set (sep_l3 n_) v (.slice A1 ((baseL b i).length + 1) c1)
                  rw [arrV_set] at q1
                  replace n_ := all_put (f' := fun u => if u = v then .slice A1 ((baseL b i).length + 1) c1 else f u) (L' := LL b v (i + 1)) (sep_l1 (sep_l2 (sep_l1 q1))) HV.out.1 (if_pos rfl) (by rw [LL_at, baseL_succ, HRR.out]) (fun u hu => if_neg hu) (fun u hu => LL_ne b v (i + 1) i u hu)
                  replace n_ := sep_l1 (sep_drop (sep_l2 n_))
                  clear q1 hHeld
                  have n0_ := Aside0.mk n_; clear HS n_; have HS := n0_; clear n0_
                  generalize w5.setCell ⟨gv, v, none⟩ (.slice A1 ((baseL b i).length + 1) c1) = w6 at HS ⊢
                  clear k1 k2 k3 k4 k5 t1 t2
                  go_wp2
                  go_roundg (8 - (i + 1))
                  case measure => have := HI.out; omega
                  case rel => exact ⟨i + 1, _, HI.out.1, Nat.le_refl _, congrArg (Value.int .i64) (by have := HI.out; unfold wrap64; omega), HS⟩
            · have i2b : decide ((i : Int) < 8) = false := decide_eq_false (by omega)
              have i2i : ((i : Int) < 8) = False := eq_false (by omega)
              have i2q : (i < 8) = False := eq_false hlt
              have n_ := HS.out
              rw [show i = 8 by omega, LL_next] at n_
              have n0_ := Aside0.mk n_; clear HS n_; have HS := n0_; clear n0_
              clear hi hgi hlt
              go_wp2
              go_roundg (8 - (v + 1))
              case measure => have := HV.out; omega
              case rel => exact ⟨v + 1, f, HV.out.1, Nat.le_refl _, congrArg (Value.int .i64) (by have := HV.out; unfold wrap64; omega), HS⟩
        · have v2b : decide ((v : Int) < 8) = false := decide_eq_false (by omega)
          have v2i : ((v : Int) < 8) = False := eq_false (by omega)
          have v2q : (v < 8) = False := eq_false hlv
          have n_ := HS.out
          rw [show v = 8 by omega] at n_
          have n0_ := Aside0.mk n_; clear HS n_; have HS := n0_; clear n0_
          clear hv hgv hlv
          go_upto_region 21 with (go_at_call 12; have hx_ := c_wr gv gi (LL b 8 0) b _ (all_ll HS.out (by decide)) (bools_C (sep_l2 HS.out) (by decide)); rw [W0 b] at hx_; (with_reducible refine Calls.mono hx_ ?_); rintro e w1 ⟨v1, rfl, hm_⟩; have n_ := sep_made_of HS.out (sep_only hm_); clear hm_ hx_; have n0_ := Aside0.mk n_; clear HS n_; have HS := n0_; clear n0_)
          obtain ⟨A1, c1, rfl, -, -⟩ := sep_row HS.out
          obtain ⟨v0, hv0, hv08⟩ : ∃ v0 : Nat, Int.tmod viewer 8 = (v0 : Int) ∧ v0 < 8 := ⟨(viewer % 8).toNat, by rw [Int.tmod_eq_emod_of_nonneg HVI.out.1]; omega, by omega⟩
          obtain ⟨k, hk, hk8⟩ : ∃ k : Nat, Int.tmod id 8 = (k : Int) ∧ k < 8 := ⟨(id % 8).toNat, by rw [Int.tmod_eq_emod_of_nonneg HID.out.1]; omega, by omega⟩
          have wv : wrap64 (v0 : Int) = (v0 : Int) := by unfold wrap64; omega
          have wk : wrap64 (k : Int) = (k : Int) := by unfold wrap64; omega
          have wv1 : wrap64 ((v0 : Int) + 1) = (v0 : Int) + 1 := by unfold wrap64; omega
          have wk1 : wrap64 ((k : Int) + 1) = (k : Int) + 1 := by unfold wrap64; omega
          have r1_ := eq_true (Int.natCast_nonneg v0)
          have r2_ := eq_true (Int.natCast_nonneg k)
          have r3_ : ((v0 : Int) < 8) = True := eq_true (by omega)
          have r4_ : ((k : Int) < 8) = True := eq_true (by omega)
          have r5_ := eq_true hv08
          have r6_ := eq_true hk8
          have HV := Aside0.mk hv08
          have HK := Aside0.mk hk8
          have n_ := sep_all_out (sep_l2 HS.out) hv08
          rw [LL_all b 8 0 v0 hv08] at n_
          obtain ⟨x, hx⟩ : ∃ x, f v0 = x := ⟨_, rfl⟩
          rw [hx] at n_
          have n0_ := Aside0.mk n_; clear HS n_; have HS := n0_; clear n0_
          obtain ⟨Aj, cj, hxx, -, -⟩ := sep_row HS.out
          rw [baseL_len] at hxx
          subst hxx
          have HFX := Aside0.mk hx
          obtain ⟨bk, hbk⟩ : ∃ q, b k = q := ⟨_, rfl⟩
          have HBK := Aside0.mk hbk
          have HY := Aside0.mk (baseL_at b 8 k hk8)
          clear hx hbk hv08 hk8
          obtain ⟨ad, rfl, -, k1, -, -, -⟩ := rec_at (sep_row' HS.out).2.2 k (baseR b k) HY.out
          have f1 := (rec_frozen HS.out k (baseR b k) HY.out).2 1
          have t1 := viewC HS.out HFX.out HV.out
          go_upto_region 24 with (fail)
          have n_ := sep_rec_set' HS.out k 1 (baseR b k) ⟨(k : Int) + 1, 3, 0, 0, 0⟩ (.int .i64 3) HY.out (by decide) rfl
          have n0_ := Aside0.mk n_; clear HS n_; have HS := n0_; clear n0_
          generalize w1.setCell ⟨(ad.add (k * 5)).block, (ad.add (k * 5)).off + 1, none⟩ (.int .i64 3) = wx at HS ⊢
          clear k1 f1 t1
          have b1 := sep_cell (sep_l4 HS.out) k
          rw [arrV_get _ HK.out, HBK.out] at b1
          have HY2 : Aside0 (((baseL b 8).set k ⟨(k : Int) + 1, 3, 0, 0, 0⟩)[k]? = some ⟨(k : Int) + 1, 3, 0, 0, 0⟩) := ⟨List.getElem?_set_self (List.getElem?_eq_some_iff.1 HY.out).1⟩
          cases bk with
          | true =>
            go_upto_region 26 with (fail)
            clear b1
            have n_ := HS.out
            rw [show (⟨(k : Int) + 1, 3, 0, 0, 0⟩ : Rec) = otherR b k by unfold otherR; rw [HBK.out]; rfl] at n_
            replace n_ := sep_l2 (all_put (f' := f) (L' := L1 b v0 k) n_ HV.out HFX.out (if_pos rfl) (fun _ _ => rfl) (fun u hu => if_neg hu))
            have n0_ := Aside0.mk n_; clear HS n_; have HS := n0_; clear n0_
            go_upto_region 27 with (go_at_call 12; have hx_ := c_wr gv gi (L1 b v0 k) b _ (all_ll HS.out (by decide)) (bools_C (sep_l3 HS.out) (by decide)); rw [W1 b v0 k HV.out HK.out] at hx_; (with_reducible refine Calls.mono hx_ ?_); rintro e w9 ⟨v2, rfl, hm_⟩; have n_ := sep_made_of HS.out (sep_only hm_); clear hm_ hx_; have n0_ := Aside0.mk n_; clear HS n_; have HS := n0_; clear n0_)
            by_cases hvk : v0 = k
            · have x1 : ((v0 : Int) == (k : Int)) = true := beq_iff_eq.2 (by omega)
              have x2 := eq_true (show (v0 : Int) = (k : Int) by omega)
              have x3 := eq_true hvk
              have HN : Aside0 (¬ (b v0 && decide (v0 ≠ k)) = true) := ⟨by rw [decide_eq_false (fun h => h hvk)]; simp⟩
              clear hvk
              have n_ := HS.out
              rw [if_neg HN.out] at n_
              have n0_ := Aside0.mk n_; clear HS n_; have HS := n0_; clear n0_
              obtain ⟨A2, c2, rfl, -, -⟩ := sep_row HS.out
              go_wp2
              go_ret
              exact ⟨rfl, sep_below_of HS.out⟩
            · have x1 : ((v0 : Int) == (k : Int)) = false := beq_eq_false_iff_ne.2 (by omega)
              have x2 := eq_false (show ¬ (v0 : Int) = (k : Int) by omega)
              have x3 := eq_false hvk
              obtain ⟨q, hq⟩ : ∃ q, b v0 = q := ⟨_, rfl⟩
              have y1 := sep_cell (sep_l4 HS.out) v0
              rw [arrV_get _ HV.out, hq] at y1
              have HQ := Aside0.mk hq
              have HKV := Aside0.mk hvk
              clear hq hvk
              cases q with
              | false =>
                have HN : Aside0 (¬ (b v0 && decide (v0 ≠ k)) = true) := ⟨by rw [HQ.out]; simp⟩
                have n_ := HS.out
                rw [if_neg HN.out] at n_
                have n0_ := Aside0.mk n_; clear HS n_; have HS := n0_; clear n0_
                obtain ⟨A2, c2, rfl, -, -⟩ := sep_row HS.out
                go_wp2
                go_ret
                exact ⟨rfl, sep_below_of HS.out⟩
              | true =>
                have n_ := HS.out
                rw [if_pos (by rw [HQ.out, decide_eq_true HKV.out]; rfl)] at n_
                have n0_ := Aside0.mk n_; clear HS n_; have HS := n0_; clear n0_
                obtain ⟨gp, cp, rfl, p1, p2⟩ := pr_cells HS.out
                go_wp2
                go_ret
                exact ⟨rfl, sep_below_of HS.out⟩
          | false =>
            have t1 := viewC HS.out HFX.out HV.out
            obtain ⟨ad_, hA_, -, k1, -, -, -⟩ := rec_at (sep_row' HS.out).2.2 k _ HY2.out
            cases hA_
            have f1 := (rec_frozen HS.out k _ HY2.out).2 1
            go_upto_region 26 with (fail)
            have n_ := sep_rec_set' HS.out k 1 _ ⟨(k : Int) + 1, 0, 0, 0, 0⟩ (.int .i64 0) HY2.out (by decide) rfl
            rw [List.set_set] at n_
            clear b1 t1 k1 f1
            rw [show (⟨(k : Int) + 1, 0, 0, 0, 0⟩ : Rec) = otherR b k by unfold otherR; rw [HBK.out]; rfl] at n_
            replace n_ := sep_l2 (all_put (f' := f) (L' := L1 b v0 k) n_ HV.out HFX.out (if_pos rfl) (fun _ _ => rfl) (fun u hu => if_neg hu))
            have n0_ := Aside0.mk n_; clear HS n_; have HS := n0_; clear n0_
            go_upto_region 27 with (go_at_call 12; have hx_ := c_wr gv gi (L1 b v0 k) b _ (all_ll HS.out (by decide)) (bools_C (sep_l3 HS.out) (by decide)); rw [W1 b v0 k HV.out HK.out] at hx_; (with_reducible refine Calls.mono hx_ ?_); rintro e w9 ⟨v2, rfl, hm_⟩; have n_ := sep_made_of HS.out (sep_only hm_); clear hm_ hx_; have n0_ := Aside0.mk n_; clear HS n_; have HS := n0_; clear n0_)
            by_cases hvk : v0 = k
            · have x1 : ((v0 : Int) == (k : Int)) = true := beq_iff_eq.2 (by omega)
              have x2 := eq_true (show (v0 : Int) = (k : Int) by omega)
              have x3 := eq_true hvk
              have HN : Aside0 (¬ (b v0 && decide (v0 ≠ k)) = true) := ⟨by rw [decide_eq_false (fun h => h hvk)]; simp⟩
              clear hvk
              have n_ := HS.out
              rw [if_neg HN.out] at n_
              have n0_ := Aside0.mk n_; clear HS n_; have HS := n0_; clear n0_
              obtain ⟨A2, c2, rfl, -, -⟩ := sep_row HS.out
              go_wp2
              go_ret
              exact ⟨rfl, sep_below_of HS.out⟩
            · have x1 : ((v0 : Int) == (k : Int)) = false := beq_eq_false_iff_ne.2 (by omega)
              have x2 := eq_false (show ¬ (v0 : Int) = (k : Int) by omega)
              have x3 := eq_false hvk
              obtain ⟨q, hq⟩ : ∃ q, b v0 = q := ⟨_, rfl⟩
              have y1 := sep_cell (sep_l4 HS.out) v0
              rw [arrV_get _ HV.out, hq] at y1
              have HQ := Aside0.mk hq
              have HKV := Aside0.mk hvk
              clear hq hvk
              cases q with
              | false =>
                have HN : Aside0 (¬ (b v0 && decide (v0 ≠ k)) = true) := ⟨by rw [HQ.out]; simp⟩
                have n_ := HS.out
                rw [if_neg HN.out] at n_
                have n0_ := Aside0.mk n_; clear HS n_; have HS := n0_; clear n0_
                obtain ⟨A2, c2, rfl, -, -⟩ := sep_row HS.out
                go_wp2
                go_ret
                exact ⟨rfl, sep_below_of HS.out⟩
              | true =>
                have n_ := HS.out
                rw [if_pos (by rw [HQ.out, decide_eq_true HKV.out]; rfl)] at n_
                have n0_ := Aside0.mk n_; clear HS n_; have HS := n0_; clear n0_
                obtain ⟨gp, cp, rfl, p1, p2⟩ := pr_cells HS.out
                go_wp2
                go_ret
                exact ⟨rfl, sep_below_of HS.out⟩
end Go.Proofs.YthncipgafdfnfaaDoor.JW
