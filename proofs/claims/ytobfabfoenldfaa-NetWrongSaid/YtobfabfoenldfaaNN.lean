/- Nets: Deliver. Conditions: those that each theorem names. -/
import Derived.Test.YtobfabfoenldfaaNM
namespace Go.Proofs.Ytobfabfoenldfaa.NW
set_option linter.unusedVariables false
set_option linter.unusedSimpArgs false
open Go Go.RowKit Go.Proofs.YtobfabfoenldfaaS Go.Proofs.YtobfabfoenldfaaS.Asn Go.Proofs.Ytobfabfoenldfaa.PA Go.Proofs.YtobfabfoenldfaaW.PrintWords Go.Proofs.YtobfabfoenldfaaW.PrintLast Go.Proofs.YtobfabfoenldfaaW.PrintMore


open Go.Proofs.Ytobfabfoenldfaa.BG
/-- Where something arrives, at hand. -/
def ArrIs (p pb : Nat) (hs : List Hs) (qs : List Nat) (X X2 : Asn) (now : Int) (it : It) (k : Int) : Prop := ∀ (W : World) (ok_ : Nat → Prop), (netA p hs qs pb ⋆ X ⋆ emp).H W ok_ → Calls Try.prog 32 #[.pointer (some ⟨p, 0, none⟩), .int .u64 now, .agg #[.int .u32 it.fi, .int .u16 it.fp], .agg #[.int .u32 it.ti, .int .u16 it.tp]] W fun e w' => e = .returned (.int .i64 k) ∧ Sep W ok_ (netA p hs qs pb ⋆ X2 ⋆ emp) w'
theorem keepV {w0 w' : World} {ok0 : Nat → Prop} {F : Asn} {g8 : Nat} {it : It} (h : Sep w0 ok0 (pt g8 #[.int .u32 it.fi, .int .u16 it.fp, .int .u32 it.ti, .int .u16 it.tp, .string it.by_, .int .u64 it.t] 79 ⋆ F) w') : w'.cell? ⟨g8, 0, none⟩ = some (.int .u32 it.fi) ∧ w'.cell? ⟨g8, 1, none⟩ = some (.int .u16 it.fp) ∧ w'.cell? ⟨g8, 2, none⟩ = some (.int .u32 it.ti) ∧ w'.cell? ⟨g8, 3, none⟩ = some (.int .u16 it.tp) ∧ w'.cell? ⟨g8, 4, none⟩ = some (.string it.by_) :=
  ⟨sep_cell h 0, sep_cell h 1, sep_cell h 2, sep_cell h 3, sep_cell h 4⟩
set_option maxRecDepth 100000 in
theorem deliver_at (p pb : Nat) (hs : List Hs) (qs : List Nat) (X X2 : Asn) (l l2 : List It) (room now pick k : Int) (it : It) (w : World) (ok : Nat → Prop) (hp : pick ≤ 9223372036854775807) (ha : awayE l now pick = (it, 0, l2)) (harr : ArrIs p pb hs qs X X2 now it k) (h : (netA p hs qs pb ⋆ bagA pb l room ⋆ X ⋆ emp).H w ok) :
    Calls Try.prog 12 #[.pointer (some ⟨p, 0, none⟩), .int .u64 now, .int .i64 pick] w fun e w' => e = .returned (.tuple #[.agg #[.int .i64 k, .int .u32 it.fi, .int .u16 it.fp, .string it.by_], .int .i64 0]) ∧ Sep w ok (netA p hs qs pb ⋆ bagA pb l2 room ⋆ X2 ⋆ emp) w' := by
  have HB := Aside0.mk (fun W ok_ hp_ => bag_Take pb l room now pick W ok_ hp hp_)
  rw [ha] at HB
  have HC : Aside0 (∀ (W : World) (ok_ : Nat → Prop), (bagA pb l room ⋆ emp).H W ok_ → Calls Try.prog 31 #[.pointer (some ⟨pb, 0, none⟩), .int .u64 now, .int .i64 pick] W fun e w' => e = .returned (.tuple #[.agg #[.int .u32 it.fi, .int .u16 it.fp, .int .u32 it.ti, .int .u16 it.tp, .string it.by_, .int .u64 it.t], .int .i64 0]) ∧ Sep W ok_ (bagA pb l2 room ⋆ emp) w') := ⟨fun W ok_ hp_ => HB.out W ok_ hp_⟩
  have HA := Aside0.mk harr
  clear HB ha hp harr
  obtain ⟨A, c, A', c', hcc, hcc', n_⟩ := net_open (sep_begin h)
  have HS := Aside0.mk n_
  clear h hcc hcc' n_
  go_enter Try.func12, Try.ntmps12
  go_upto_region 1 with (fail)
  have n_ := sep_l4 (sep_l4 (sep_l4 (sep_l4 (sep_allocg HS.out #[.int .i64 0, .int .u32 0, .int .u16 0, .string ⟨#[]⟩] 42 _ rfl))))
  have n0_ := Aside0.mk n_; clear HS n_; have HS := n0_; clear n0_
  generalize hwa_ : World.alloc _ _ = wa at HS ⊢
  clear hwa_
  generalize hg6_ : Array.size (World.heap _) = g6 at HS ⊢
  clear hg6_
  have p2 := sep_cell HS.out 2
  go_upto_region 2 with (go_at_call 31; obtain ⟨ok_, hp_, hk_⟩ := sep_use1 (sep_l3 HS.out); have hx_ := HC.out _ ok_ hp_; (with_reducible refine Calls.mono hx_ ?_); rintro e w1 ⟨rfl, hq_⟩; have n_ := net_mk (sep_l3 (sep_l3 (sep_l3 (back1 hk_ hq_)))); clear hx_ hp_ hk_ hq_ p2; have n0_ := Aside0.mk n_; clear HS n_; have HS := n0_; clear n0_)
  have n_ := sep_allocg HS.out #[.int .u32 it.fi, .int .u16 it.fp, .int .u32 it.ti, .int .u16 it.tp, .string it.by_, .int .u64 it.t] 79 _ rfl
  have n0_ := Aside0.mk n_; clear HS n_; have HS := n0_; clear n0_
  generalize hwa_ : World.alloc _ _ = wb at HS ⊢
  clear hwa_
  generalize hg6_ : Array.size (World.heap _) = g8 at HS ⊢
  clear hg6_
  go_upto_region 4 with (fail)
  have n_ := sep_drew HS.out
  have n0_ := Aside0.mk n_; clear HS n_; have HS := n0_; clear n0_
  have m := keepV HS.out
  refine wp_region_held_drew (S := (fun w' => w'.cell? ⟨g8, 0, none⟩ = some (.int .u32 it.fi) ∧ w'.cell? ⟨g8, 1, none⟩ = some (.int .u16 it.fp) ∧ w'.cell? ⟨g8, 2, none⟩ = some (.int .u32 it.ti) ∧ w'.cell? ⟨g8, 3, none⟩ = some (.int .u16 it.tp) ∧ w'.cell? ⟨g8, 4, none⟩ = some (.string it.by_))) (by kernel_rfl) m (fun hHeld => ?_)
  clear m
  generalize World.drew _ = wd at HS hHeld ⊢
  obtain ⟨m0, m1, m2, m3, m4⟩ := keepV HS.out
  (refine h_take 0 (by assumption) rfl (by decide +kernel) (by decide +kernel) (by decide +kernel) (fun _ _ _ h => h) (by rfl) (by intro w hSw; (try dsimp only at hSw); go_simp; all_goals (with_reducible rfl)) ?_; simp only [Act.put, List.setIfInBounds_toArray, List.set_cons_zero, List.set_cons_succ])
  (refine h_take 1 (by assumption) rfl (by decide +kernel) (by decide +kernel) (by decide +kernel) (fun _ _ _ h => h) (by rfl) (by intro w hSw; (try dsimp only at hSw); go_simp; all_goals (with_reducible rfl)) ?_; simp only [Act.put, List.setIfInBounds_toArray, List.set_cons_zero, List.set_cons_succ])
  (refine h_take 2 (by assumption) rfl (by decide +kernel) (by decide +kernel) (by decide +kernel) (fun _ _ _ h => h) (by rfl) (by intro w hSw; (try dsimp only at hSw); go_simp; all_goals (with_reducible rfl)) ?_; simp only [Act.put, List.setIfInBounds_toArray, List.set_cons_zero, List.set_cons_succ])
  (refine h_take 3 (by assumption) rfl (by decide +kernel) (by decide +kernel) (by decide +kernel) (fun _ _ _ h => h) (by rfl) (by intro w hSw; (try dsimp only at hSw); go_simp; all_goals (with_reducible rfl)) ?_; simp only [Act.put, List.setIfInBounds_toArray, List.set_cons_zero, List.set_cons_succ])
  (refine h_take 4 (by assumption) rfl (by decide +kernel) (by decide +kernel) (by decide +kernel) (fun _ _ _ h => h) (by rfl) (by intro w hSw; (try dsimp only at hSw); go_simp; all_goals (with_reducible rfl)) ?_; simp only [Act.put, List.setIfInBounds_toArray, List.set_cons_zero, List.set_cons_succ])
  (refine h_take 5 (by assumption) rfl (by decide +kernel) (by decide +kernel) (by decide +kernel) (fun _ _ _ h => h) (by rfl) (by intro w hSw; (try dsimp only at hSw); go_simp; all_goals (with_reducible rfl)) ?_; simp only [Act.put, List.setIfInBounds_toArray, List.set_cons_zero, List.set_cons_succ])
  (refine h_take 7 (by assumption) rfl (by decide +kernel) (by decide +kernel) (by decide +kernel) (fun _ _ _ h => h) (by rfl) (by intro w hSw; (try dsimp only at hSw); go_simp; all_goals (with_reducible rfl)) ?_; simp only [Act.put, List.setIfInBounds_toArray, List.set_cons_zero, List.set_cons_succ])
  (refine h_take 8 (by assumption) rfl (by decide +kernel) (by decide +kernel) (by decide +kernel) (fun _ _ _ h => h) (by rfl) (by intro w hSw; (try dsimp only at hSw); go_simp; all_goals (with_reducible rfl)) ?_; simp only [Act.put, List.setIfInBounds_toArray, List.set_cons_zero, List.set_cons_succ])
  (refine h_take 9 (by assumption) rfl (by decide +kernel) (by decide +kernel) (by decide +kernel) (fun _ _ _ h => h) (by rfl) (by intro w hSw; (try dsimp only at hSw); go_simp; all_goals (with_reducible rfl)) ?_; simp only [Act.put, List.setIfInBounds_toArray, List.set_cons_zero, List.set_cons_succ])
  (refine h_take 10 (by assumption) rfl (by decide +kernel) (by decide +kernel) (by decide +kernel) (fun _ _ _ h => h) (by rfl) (by intro w hSw; (try dsimp only at hSw); go_simp; all_goals (with_reducible rfl)) ?_; simp only [Act.put, List.setIfInBounds_toArray, List.set_cons_zero, List.set_cons_succ])
  (refine h_one 6 (by kernel_rfl) rfl (by rfl) (fun K hK => ?_); go_simp; (go_at_call 32; obtain ⟨ok_, hp_, hk_⟩ := sep_use2 (sep_l2 (sep_l4 HS.out)); have hx_ := HA.out _ ok_ hp_; (with_reducible refine Calls.mono hx_ ?_); rintro e w1 ⟨rfl, hq_⟩; have n_ := sep_l2 (back2 hk_ hq_); clear hx_ hp_ hk_ hq_ m0 m1 m2 m3 m4; have n0_ := Aside0.mk n_; clear HS n_; have HS := n0_; clear n0_; obtain ⟨m0, m1, m2, m3, m4⟩ := keepV HS.out); clear hHeld; ((first | refine hK.out _ _ (⟨m0, m1, m2, m3, m4⟩) (fun hHeld => ?_) | (go_wp2_with fail; refine hK.out _ _ (⟨m0, m1, m2, m3, m4⟩) (fun hHeld => ?_))); clear hK K; (try simp only [Act.put, List.setIfInBounds_toArray, List.set_cons_zero, List.set_cons_succ])))
  (refine h_take 11 (by assumption) rfl (by decide +kernel) (by decide +kernel) (by decide +kernel) (fun _ _ _ h => h) (by rfl) (by intro w hSw; (try dsimp only at hSw); go_simp; all_goals (with_reducible rfl)) ?_; simp only [Act.put, List.setIfInBounds_toArray, List.set_cons_zero, List.set_cons_succ])
  have z0 := sep_cell (sep_l4 HS.out) 0
  have z1 := sep_cell (sep_l4 HS.out) 1
  have z2 := sep_cell (sep_l4 HS.out) 2
  have z3 := sep_cell (sep_l4 HS.out) 3
  have f0 := sep_frozen (sep_l4 HS.out)
  have f00 := f0 0
  have f01 := f0 1
  have f02 := f0 2
  have f03 := f0 3
  clear f0
  (refine h_one 12 (by kernel_rfl) rfl (by rfl) (fun K hK => ?_); go_simp; skip; clear hHeld; ((first | refine hK.out _ _ (keepV (sep_l1 (sep_set (sep_set (sep_set (sep_set (sep_l4 HS.out) 0 _) 1 _) 2 _) 3 _))) (fun hHeld => ?_) | (go_wp2_with fail; refine hK.out _ _ (keepV (sep_l1 (sep_set (sep_set (sep_set (sep_set (sep_l4 HS.out) 0 _) 1 _) 2 _) 3 _))) (fun hHeld => ?_))); clear hK K; (try simp only [Act.put, List.setIfInBounds_toArray, List.set_cons_zero, List.set_cons_succ])))
  (refine h_take 13 (by assumption) rfl (by decide +kernel) (by decide +kernel) (by decide +kernel) (fun _ _ _ h => h) (by rfl) (by intro w hSw; (try dsimp only at hSw); go_simp; all_goals (with_reducible rfl)) ?_; simp only [Act.put, List.setIfInBounds_toArray, List.set_cons_zero, List.set_cons_succ])
  refine wpAnyH_done (by kernel_rfl) ?_ _
  go_wp2
  have n_ := sep_set (sep_set (sep_set (sep_set (sep_l4 HS.out) 0 (.int .i64 k)) 1 (.int .u32 it.fi)) 2 (.int .u16 it.fp)) 3 (.string it.by_)
  refine bodyPost_ret (results_ct rfl _ _ g6 42 #[.int .i64 k, .int .u32 it.fi, .int .u16 it.fp, .string it.by_] (0, 0) _ rfl (sep_pt n_) Try.underlying42 rfl (by kernel_rfl)) rfl ?_
  exact ⟨rfl, sep_l1 (sep_l2 (sep_drop (sep_drop n_)))⟩
set_option maxRecDepth 100000 in
theorem deliver_none (p pb : Nat) (hs : List Hs) (qs : List Nat) (l l2 : List It) (room now pick er : Int) (it : It) (w : World) (ok : Nat → Prop) (hp : pick ≤ 9223372036854775807) (ha : awayE l now pick = (it, er, l2)) (he : er ≠ 0) (h : (netA p hs qs pb ⋆ bagA pb l room ⋆ emp).H w ok) :
    Calls Try.prog 12 #[.pointer (some ⟨p, 0, none⟩), .int .u64 now, .int .i64 pick] w fun e w' => e = .returned (.tuple #[.agg #[.int .i64 0, .int .u32 0, .int .u16 0, .string ⟨#[]⟩], .int .i64 er]) ∧ Sep w ok (netA p hs qs pb ⋆ bagA pb l2 room ⋆ emp) w' := by
  have HB := Aside0.mk (fun W ok_ hp_ => bag_Take pb l room now pick W ok_ hp hp_)
  rw [ha] at HB
  have HC : Aside0 (∀ (W : World) (ok_ : Nat → Prop), (bagA pb l room ⋆ emp).H W ok_ → Calls Try.prog 31 #[.pointer (some ⟨pb, 0, none⟩), .int .u64 now, .int .i64 pick] W fun e w' => e = .returned (.tuple #[.agg #[.int .u32 it.fi, .int .u16 it.fp, .int .u32 it.ti, .int .u16 it.tp, .string it.by_, .int .u64 it.t], .int .i64 er]) ∧ Sep W ok_ (bagA pb l2 room ⋆ emp) w') := ⟨fun W ok_ hp_ => HB.out W ok_ hp_⟩
  have e1 : (er == 0) = false := beq_eq_false_iff_ne.2 he
  have e2 := eq_false he
  have e3 : (er != 0) = true := by rw [bne, e1]; rfl
  clear HB ha hp he
  obtain ⟨A, c, A', c', hcc, hcc', n_⟩ := net_open (sep_begin h)
  have HS := Aside0.mk n_
  clear h hcc hcc' n_
  go_enter Try.func12, Try.ntmps12
  go_upto_region 1 with (fail)
  have n_ := sep_l4 (sep_l4 (sep_l4 (sep_l4 (sep_allocg HS.out #[.int .i64 0, .int .u32 0, .int .u16 0, .string ⟨#[]⟩] 42 _ rfl))))
  have n0_ := Aside0.mk n_; clear HS n_; have HS := n0_; clear n0_
  generalize hwa_ : World.alloc _ _ = wa at HS ⊢
  clear hwa_
  generalize hg6_ : Array.size (World.heap _) = g6 at HS ⊢
  clear hg6_
  have p2 := sep_cell HS.out 2
  go_upto_region 2 with (go_at_call 31; obtain ⟨ok_, hp_, hk_⟩ := sep_use1 (sep_l3 HS.out); have hx_ := HC.out _ ok_ hp_; (with_reducible refine Calls.mono hx_ ?_); rintro e w1 ⟨rfl, hq_⟩; have n_ := net_mk (sep_l3 (sep_l3 (sep_l3 (back1 hk_ hq_)))); clear hx_ hp_ hk_ hq_ p2; have n0_ := Aside0.mk n_; clear HS n_; have HS := n0_; clear n0_)
  have n_ := sep_allocg HS.out #[.int .u32 it.fi, .int .u16 it.fp, .int .u32 it.ti, .int .u16 it.tp, .string it.by_, .int .u64 it.t] 79 _ rfl
  have n0_ := Aside0.mk n_; clear HS n_; have HS := n0_; clear n0_
  generalize hwa_ : World.alloc _ _ = wb at HS ⊢
  clear hwa_
  generalize hg6_ : Array.size (World.heap _) = g8 at HS ⊢
  clear hg6_
  have z0 := sep_cell (sep_l3 HS.out) 0
  have z1 := sep_cell (sep_l3 HS.out) 1
  have z2 := sep_cell (sep_l3 HS.out) 2
  have z3 := sep_cell (sep_l3 HS.out) 3
  have f0 := sep_frozen (sep_l3 HS.out)
  have f00 := f0 0
  have f01 := f0 1
  have f02 := f0 2
  have f03 := f0 3
  clear f0
  go_wp2
  have n_ := sep_set (sep_set (sep_set (sep_set (sep_l3 HS.out) 0 (.int .i64 0)) 1 (.int .u32 0)) 2 (.int .u16 0)) 3 (.string ⟨#[]⟩)
  refine bodyPost_ret (results_ct rfl _ _ g6 42 #[.int .i64 0, .int .u32 0, .int .u16 0, .string ⟨#[]⟩] (0, 0) _ rfl (sep_pt n_) Try.underlying42 rfl (by kernel_rfl)) rfl ?_
  exact ⟨rfl, sep_drop (sep_drop n_)⟩
end Go.Proofs.Ytobfabfoenldfaa.NW
