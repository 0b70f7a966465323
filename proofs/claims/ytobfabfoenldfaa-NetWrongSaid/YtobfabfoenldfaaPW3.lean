/- Hosts' rows; a plan, walked. Conditions: those that each theorem names. -/
import Derived.Test.YtobfabfoenldfaaPW2
namespace Go.Proofs.Ytobfabfoenldfaa.NW
set_option linter.unusedVariables false
set_option linter.unusedSimpArgs false
open Go Go.RowKit Go.Proofs.YtobfabfoenldfaaS Go.Proofs.YtobfabfoenldfaaS.Asn Go.Proofs.Ytobfabfoenldfaa.PA Go.Proofs.YtobfabfoenldfaaW.PrintWords Go.Proofs.YtobfabfoenldfaaW.PrintLast Go.Proofs.YtobfabfoenldfaaW.PrintMore



open Go.Proofs.Ytobfabfoenldfaa.BG
theorem hosK_Mopen {w : World} {base : Nat} {ok : Nat → Prop} {x : Hs} {cs : List Value} (h : hosK.M w base ok x cs) : cs = x.cells := by
  obtain ⟨_, _, rfl, rfl, ⟨_, _, rfl, rfl, rfl⟩⟩ := h
  rfl
section
variable {e : Nat} {w : World} {ok : Nat → Prop} {g n c : Nat} {xs : List Hs} {cur : Array Value}
theorem hoss_pt (h : (row hosK e (.slice (some ⟨g, 0, none⟩) n c) xs).H w ok) :
    ∃ cur : Array Value, (pt g cur e).H w ok ∧ n = xs.length ∧ n ≤ c ∧ c ≤ maxLen ∧ cur.size = c * 3 ∧ ∀ (j : Nat) (p : Hs), xs[j]? = some p → (cur.toList.drop (j * 3)).take 3 = p.cells := by
  obtain ⟨hok, inner, ⟨hlen, hform⟩, hr1, hr2⟩ := h
  rcases hform with ⟨he, _⟩ | ⟨g', cap, cur, he, hb, hg, hnc, hcm, hcs, htk⟩
  · cases he
  · cases he
    refine ⟨cur, ⟨hok g rfl, hg⟩, rfl, hnc, hcm, hcs, fun j p hp => ?_⟩
    have hj : j < xs.length := (List.getElem?_eq_some_iff.1 hp).1
    have h1 := hosK_Mopen (hr2 j p hp)
    rw [← h1, ← htk, show hosK.sz = 3 from rfl, List.drop_take, List.take_take, show min 3 (xs.length * 3 - j * 3) = 3 by omega]
theorem pt_hoss (h : (pt g cur e).H w ok) (hc : cur.size = c * 3) (hcm : c ≤ maxLen) (hn : xs.length ≤ c) (hx : ∀ (j : Nat) (p : Hs), xs[j]? = some p → (cur.toList.drop (j * 3)).take 3 = p.cells) :
    (row hosK e (.slice (some ⟨g, 0, none⟩) xs.length c) xs).H w ok := by
  refine ⟨fun k hk => ?_, cur.toList.take (xs.length * 3), ⟨?_, .inr ⟨g, c, cur, rfl, Nat.zero_le _, h.2, hn, hcm, hc, rfl⟩⟩, ?_, fun j p hp => ?_⟩
  · have : g = k := by simpa [Value.ownBlock] using hk
    rw [← this]; exact h.1
  · rw [List.length_take, show cur.toList.length = c * 3 from hc, show hosK.sz = 3 from rfl]; omega
  · rw [List.length_take, show cur.toList.length = c * 3 from hc, show hosK.sz = 3 from rfl]; omega
  · have hj : j < xs.length := (List.getElem?_eq_some_iff.1 hp).1
    show hosK.M _ _ _ _ ((List.drop (j * 3) _).take 3)
    rw [List.drop_take, List.take_take, show min 3 (xs.length * 3 - j * 3) = 3 by omega, hx j p hp]
    exact hosK_M _ _ _ _
end
section
variable {e : Nat} {w0 w : World} {ok0 : Nat → Prop} {F : Asn} {g n c : Nat} {xs : List Hs}
/-- A cell of a record set. -/
theorem sep_hos_set (h : Sep w0 ok0 (row hosK e (.slice (some ⟨g, 0, none⟩) n c) xs ⋆ F) w) (k j : Nat) (x x' : Hs) (v : Value) (hx : xs[k]? = some x) (hj : j < 3) (hc : x'.cells = x.cells.set j v) :
    Sep w0 ok0 (row hosK e (.slice (some ⟨g, 0, none⟩) n c) (xs.set k x') ⋆ F) (w.setCell ⟨g, k * 3 + j, none⟩ v) := by
  obtain ⟨cur, hp⟩ : ∃ cur : Array Value, Sep w0 ok0 (pt g cur e ⋆ F) w ∧ n = xs.length ∧ n ≤ c ∧ c ≤ maxLen ∧ cur.size = c * 3 ∧ ∀ (j : Nat) (p : Hs), xs[j]? = some p → (cur.toList.drop (j * 3)).take 3 = p.cells := by
    obtain ⟨o_, ok1, ⟨p1, p2, hr, hF, r⟩, hk⟩ := h
    obtain ⟨cur, hpt, q⟩ := hoss_pt hr
    exact ⟨cur, ⟨o_, ok1, ⟨p1, p2, hpt, hF, r⟩, hk⟩, q⟩
  obtain ⟨hp, rfl, hnc, hcm, hsz, hcells⟩ := hp
  have hs := sep_set hp (k * 3 + j) v
  refine sep_head hs (fun ok hpt => ?_)
  have hl : (xs.set k x').length = xs.length := List.length_set
  rw [← hl]
  refine pt_hoss hpt (by rw [Array.size_setIfInBounds]; exact hsz) hcm (by rw [hl]; exact hnc) (fun i p hip => ?_)
  rw [Array.toList_setIfInBounds]
  by_cases hik : i = k
  · subst hik
    rw [List.getElem?_set_self (by exact (List.getElem?_eq_some_iff.1 hx).1)] at hip
    obtain rfl : x' = p := by simpa using hip
    rw [List.drop_set, if_neg (by omega), List.take_set, show i * 3 + j - i * 3 = j by omega, hcells i x hx, hc]
  · rw [List.getElem?_set_ne (Ne.symm hik)] at hip
    have hh := hcells i p hip
    rcases Nat.lt_or_ge i k with hlt | hge
    · rw [List.drop_set, if_neg (by omega), List.take_set, List.set_eq_of_length_le (by rw [List.length_take]; omega)]
      exact hh
    · rw [List.drop_set, if_pos (by omega)]
      exact hh
theorem hos_frozen (h : Sep w0 ok0 (row hosK e (.slice (some ⟨g, 0, none⟩) n c) xs ⋆ F) w) (j : Nat) : w.frozen? ⟨g, j, none⟩ = false := by
  obtain ⟨o_, ok1, ⟨p1, p2, hr, hF, r⟩, hk⟩ := h
  obtain ⟨cur, hpt, q⟩ := hoss_pt hr
  have hp : Sep w0 ok0 (pt g cur e ⋆ F) w := ⟨o_, ok1, ⟨p1, p2, hpt, hF, r⟩, hk⟩
  exact sep_frozen hp _
/-- A literal of one host. -/
theorem hos_one {x : Hs} (h : Sep w0 ok0 (pt g x.cells.toArray e ⋆ F) w) : Sep w0 ok0 (row hosK e (.slice (some ⟨g, 0, none⟩) 1 1) [x] ⋆ F) w :=
  sep_head h (fun ok hh => pt_hoss (xs := [x]) hh rfl (by decide) (Nat.le_of_ble_eq_true rfl) (fun j p hp => by
    match j, hp with
    | 0, hp =>
      obtain rfl : x = p := by simpa using hp
      rfl
    | j + 1, hp => simp at hp))
end
theorem u8_at {w : World} {A : Option Addr} {l : List Int} (h : (Kd.int .u8).C w A l.length l) (i : Nat) (b : Int) (hx : l[i]? = some b) : ∃ ad, A = some ad ∧ w.cell? (ad.add i) = some (.int .u8 b) := by
  obtain ⟨hi, he⟩ := List.getElem?_eq_some_iff.1 hx
  obtain ⟨h0, h1, h2⟩ := h
  obtain ⟨ad, rfl, hc⟩ := h2 (by omega)
  obtain ⟨c, hl, hk, hcell⟩ := hc i b hx
  refine ⟨ad, rfl, ?_⟩
  have := hcell 0 (.int .u8 b) (by rw [show c = [.int .u8 b] from hk]; rfl)
  rw [show (Kd.int .u8).sz = 1 from rfl, Nat.mul_one, Nat.add_zero] at this
  exact this
def v38 : Value := .agg #[.int .i64 0, .int .i64 0, .int .u32 0, .int .u64 0, .int .i64 0]
theorem info38 : (Try.prog.info? 38).map (fun i => (i.zero, i.size, i.bytes)) = some (some v38, 5, 40) := by kernel_rfl
theorem keepP {w w' : World} {F : Asn} {g1 n1 c1 n2 c2 c i : Nat} {A1 A2 : Option Addr} {ad : Addr} {l : List Int} {b : Int} (hC : (Kd.int .u8).C w (some ad) l.length l) (hx : l[i]? = some b) (h : Sep w (fun _ => False) (pt g1 #[.slice A1 n1 c1, .slice A2 n2 c2, .bool true, .slice (some ad) l.length c] 49 ⋆ F) w') : w'.cell? ⟨g1, 3, none⟩ = some (.slice (some ad) l.length c) ∧ w'.cell? (ad.add i) = some (.int .u8 b) := by
  obtain ⟨ad', had, k0⟩ := u8_at (Kd.C_below hC (sep_below_of h)) i b hx
  cases had
  exact ⟨sep_cell h 3, k0⟩
theorem as_host {w0 w : World} {ok0 : Nat → Prop} {A B C F : Asn} {g : Nat} {t : TypeId} {y : Hs} {a b c : Int} (h : y = ⟨a, b, c⟩) (hS : Sep w0 ok0 (A ⋆ B ⋆ C ⋆ pt g #[.int .u32 a, .int .u16 b, .int .i64 c] t ⋆ F) w) : Sep w0 ok0 (A ⋆ B ⋆ C ⋆ pt g #[.int .u32 y.ip, .int .u16 y.po, .int .i64 y.bx] t ⋆ F) w := by
  subst h
  exact hS
theorem v4 (b : Int) (h : 0 ≤ b ∧ b ≤ 255) : IntKind.i64.wrap ((IntKind.u8.wrap (b.tdiv 4)).tmod 3) = b / 4 % 3 := by
  have e1 : b.tdiv 4 = b / 4 := Int.tdiv_eq_ediv_of_nonneg h.1
  have e2 : IntKind.u8.wrap (b / 4) = b / 4 := by rw [IntKind.wrap_u8]; omega
  rw [e1, e2, Int.tmod_eq_emod_of_nonneg (by omega), IntKind.wrap_i64]
  omega
theorem v12 (b : Int) (h : 0 ≤ b ∧ b ≤ 255) : IntKind.i64.wrap ((IntKind.u8.wrap (b.tdiv 12)).tmod 3) = b / 12 % 3 := by
  have e1 : b.tdiv 12 = b / 12 := Int.tdiv_eq_ediv_of_nonneg h.1
  have e2 : IntKind.u8.wrap (b / 12) = b / 12 := by rw [IntKind.wrap_u8]; omega
  rw [e1, e2, Int.tmod_eq_emod_of_nonneg (by omega), IntKind.wrap_i64]
  omega
theorem v20 (b : Int) (h : 0 ≤ b ∧ b ≤ 255) : IntKind.u64.wrap (5 + IntKind.u64.wrap (b.tmod 20)) = 5 + b % 20 := by
  rw [Int.tmod_eq_emod_of_nonneg h.1, IntKind.wrap_u64, IntKind.wrap_u64]
  omega
set_option maxHeartbeats 4000000 in
set_option maxRecDepth 100000 in
theorem plan_walk (A1 A2 A : Option Addr) (n1 c1 n2 c2 c : Nat) (l : List Int) (w : World) (hb : ∀ (j : Nat) (b : Int), l[j]? = some b → 0 ≤ b ∧ b ≤ 255) (hC : (Kd.int .u8).C w A l.length l) :
    Calls Try.prog 14 #[.agg #[.slice A1 n1 c1, .slice A2 n2 c2, .bool true, .slice A l.length c]] w fun e w' => ∃ v1 v2, e = .returned (.tuple #[v1, v2]) ∧ Sep w (fun _ => False) (row hosK 34 v1 (planH l (min l.length 5)) ⋆ row spK 38 v2 (planS l (min l.length 5)) ⋆ emp) w' := by
  have HS := Aside0.mk (sep_start w)
  have HB := Aside0.mk hb
  have HC := Aside0.mk hC
  clear hb hC
  go_enter Try.func14, Try.ntmps14
  go_upto_region 1 with (fail)
  have n_ := sep_allocg HS.out #[.slice A1 n1 c1, .slice A2 n2 c2, .bool true, .slice A l.length c] 49 _ rfl; have n0_ := Aside0.mk n_; clear HS n_; have HS := n0_; clear n0_; generalize hw_ : World.alloc _ _ = wa at HS ⊢; clear hw_; generalize hp_ : Array.size (World.heap _) = g1 at HS ⊢; clear hp_
  have p2 := sep_cell HS.out 2
  go_upto_region 4 with (fail)
  have n_ := sep_l1 (hos_one (x := ⟨1, 7, 0⟩) (sep_allocg HS.out #[.int .u32 1, .int .u16 7, .int .i64 0] 34 _ rfl))
  clear p2
  have n0_ := Aside0.mk n_; clear HS n_; have HS := n0_; clear n0_
  generalize hw_ : World.alloc _ _ = wb at HS ⊢
  clear hw_
  generalize hp_ : Array.size (World.heap _) = g2 at HS ⊢
  clear hp_
  have n_ := sep_l2 (sep_l2 (sep_row_nil (d := spK) (e := 38) HS.out))
  have n0_ := Aside0.mk n_; clear HS n_; have HS := n0_; clear n0_
  go_upto_region 5 with (fail)
  go_upto_region 6 with (fail)
  go_loopg [6, 4, 5] (min l.length 5) (fun gg s6 s4 s5 wr => ∃ i : Nat, i ≤ min l.length 5 ∧ min l.length 5 - i ≤ gg ∧ s6 = .int .i64 i ∧ Aside0 (Sep w (fun _ => False) (pt g1 #[.slice A1 n1 c1, .slice A2 n2 c2, .bool true, .slice A l.length c] 49 ⋆ row hosK 34 s4 (planH l i) ⋆ row spK 38 s5 (planS l i) ⋆ emp) wr))
  case atStart => exact ⟨0, Nat.zero_le _, Nat.le_refl _, rfl, HS⟩
  case round =>
    clear HS
    obtain ⟨i, hi, hg, rfl, HS⟩ := hrel
    obtain ⟨B4, d4, rfl, hd4, -⟩ := sep_row (sep_l1 HS.out)
    obtain ⟨B5, d5, rfl, hd5, -⟩ := sep_row (sep_l2 HS.out)
    clear hd4 hd5
    obtain ⟨S, hS⟩ : ∃ S, planS l i = S := ⟨_, rfl⟩
    obtain ⟨H, hH⟩ : ∃ H, planH l i = H := ⟨_, rfl⟩
    have hSl := (planS_len l i).1
    have hHl := planH_len l i
    rw [hS] at hSl
    rw [hH] at hHl
    have hs := HS.out
    rw [hS, hH] at hs
    rw [hS, hH]
    have HSH := Aside0.mk (And.intro hS hH)
    have HSL := Aside0.mk (And.intro hSl hHl)
    clear HS hS hH hSl hHl
    have HS := Aside0.mk hs
    clear hs
    (try clear p3); have p3 := sep_cell HS.out 3
    by_cases hlt : i < l.length
    · have c1b : decide ((i : Int) < (l.length : Int)) = true := decide_eq_true (Int.ofNat_lt.2 hlt); have c1n : decide (i < l.length) = true := decide_eq_true hlt; have c1i : ((i : Int) < (l.length : Int)) = True := eq_true (Int.ofNat_lt.2 hlt); have c1q : (i < l.length) = True := eq_true hlt; have p0_ := eq_true (Int.natCast_nonneg i)
      by_cases h5 : i < 5
      · have d5b : decide ((i : Int) < 5) = true := decide_eq_true (by omega)
        have d5i : ((i : Int) < 5) = True := eq_true (by omega)
        have d5n : decide (i < 5) = true := decide_eq_true h5
        have d5q : (i < 5) = True := eq_true h5
        have w1_ : IntKind.u32.wrap (i : Int) = (i : Int) := by rw [IntKind.wrap_u32]; omega
        have w2_ : IntKind.u32.wrap (10 + (i : Int)) = 10 + (i : Int) := by rw [IntKind.wrap_u32]; omega
        have w3_ : IntKind.u32.wrap (50 + (i : Int)) = 50 + (i : Int) := by rw [IntKind.wrap_u32]; omega
        have HI : Aside0 (i < l.length ∧ i < 5 ∧ min l.length 5 - i ≤ gk) := ⟨hlt, h5, hg⟩
        clear hi hg hlt h5
        obtain ⟨b, hbx⟩ : ∃ b, l[i]? = some b := ⟨_, List.getElem?_eq_getElem HI.out.1⟩
        have hbb := HB.out i b hbx
        have hgd : l.getD i 0 = b := by rw [List.getD_eq_getElem?_getD, hbx]; rfl
        obtain ⟨ad, rfl, k0⟩ := u8_at (Kd.C_below HC.out (sep_below_of HS.out)) i b hbx
        have HX := Aside0.mk (And.intro hbx hgd)
        clear hbx hgd
        go_upto_region 9 with (fail)
        have n_ := sep_l3 (sep_l3 (sep_l3 (sep_allocg HS.out #[.int .u32 (10 + (i : Int)), .int .u16 7, .int .i64 0] 34 _ rfl)))
        clear k0 p3
        have n0_ := Aside0.mk n_; clear HS n_; have HS := n0_; clear n0_
        generalize hw_ : World.alloc _ _ = wc at HS ⊢
        clear hw_
        generalize hp_ : Array.size (World.heap _) = g7 at HS ⊢
        clear hp_
        (try clear p3 k0); obtain ⟨p3, k0⟩ := keepP HC.out HX.out.1 (id HS.out)
        by_cases q1 : 0 < b % 4
        · have q2 : decide (0 < b % 4) = true := decide_eq_true q1
          have q3 := eq_true q1
          have q4 : (b % 4 ≤ 0) = False := eq_false (by omega)
          have q5 : decide (b % 4 ≤ 0) = false := decide_eq_false (by omega)
          have hS2 : nxtS i b S = S ++ [⟨b / 4 % 3, b / 12 % 3, 50 + (i : Int), 5 + b % 20, 3⟩] := by unfold nxtS; rw [if_pos (.inl q1)]
          go_upto_region 10 with (fail)
          clear q1 q2 q3 q4 q5
          have n_ := sep_drew HS.out
          have n0_ := Aside0.mk n_; clear HS n_; have HS := n0_; clear n0_
          (try clear p3 k0); obtain ⟨p3, k0⟩ := keepP HC.out HX.out.1 (id HS.out)
          refine wp_region_held_drew (S := (fun w' => w'.cell? ⟨g1, 3, none⟩ = some (.slice (some ad) l.length c) ∧ w'.cell? (ad.add i) = some (.int .u8 b))) (by kernel_rfl) ⟨p3, k0⟩ (fun hHeld => ?_)
          generalize World.drew _ = wd at HS hHeld ⊢
          (try clear p3 k0); obtain ⟨p3, k0⟩ := keepP HC.out HX.out.1 (id HS.out)
          (refine h_take 0 (by assumption) rfl (by decide +kernel) (by decide +kernel) (by decide +kernel) (fun _ _ _ h => h) (by rfl) (by intro w hSw; (try dsimp only at hSw); go_simp; all_goals (with_reducible rfl)) ?_; simp only [Act.put, List.setIfInBounds_toArray, List.set_cons_zero, List.set_cons_succ])
          (refine h_take 1 (by assumption) rfl (by decide +kernel) (by decide +kernel) (by decide +kernel) (fun _ _ _ h => h) (by rfl) (by intro w hSw; (try dsimp only at hSw); go_simp; all_goals (with_reducible rfl)) ?_; simp only [Act.put, List.setIfInBounds_toArray, List.set_cons_zero, List.set_cons_succ])
          (refine h_take 2 (by assumption) rfl (by decide +kernel) (by decide +kernel) (by decide +kernel) (fun _ _ _ h => h) (by rfl) (by intro w hSw; (try dsimp only at hSw); go_simp; all_goals (with_reducible rfl)) ?_; simp only [Act.put, List.setIfInBounds_toArray, List.set_cons_zero, List.set_cons_succ])
          (refine h_take 3 (by assumption) rfl (by decide +kernel) (by decide +kernel) (by decide +kernel) (fun _ _ _ h => h) (by rfl) (by intro w hSw; (try dsimp only at hSw); go_simp; all_goals (with_reducible rfl)) ?_; simp only [Act.put, List.setIfInBounds_toArray, List.set_cons_zero, List.set_cons_succ])
          (refine h_take 4 (by assumption) rfl (by decide +kernel) (by decide +kernel) (by decide +kernel) (fun _ _ _ h => h) (by rfl) (by intro w hSw; (try dsimp only at hSw); go_simp; all_goals (with_reducible rfl)) ?_; simp only [Act.put, List.setIfInBounds_toArray, List.set_cons_zero, List.set_cons_succ])
          (refine h_take 5 (by assumption) rfl (by decide +kernel) (by decide +kernel) (by decide +kernel) (fun _ _ _ h => h) (by rfl) (by intro w hSw; (try dsimp only at hSw); go_simp; all_goals (with_reducible rfl)) ?_; simp only [Act.put, List.setIfInBounds_toArray, List.set_cons_zero, List.set_cons_succ])
          (refine h_take 6 (by assumption) rfl (by decide +kernel) (by decide +kernel) (by decide +kernel) (fun _ _ _ h => h) (by rfl) (by intro w hSw; (try dsimp only at hSw); go_simp; all_goals (with_reducible rfl)) ?_; simp only [Act.put, List.setIfInBounds_toArray, List.set_cons_zero, List.set_cons_succ])
          (refine h_take 7 (by assumption) rfl (by decide +kernel) (by decide +kernel) (by decide +kernel) (fun _ _ _ h => h) (by rfl) (by intro w hSw; (try dsimp only at hSw); go_simp; all_goals (with_reducible rfl)) ?_; simp only [Act.put, List.setIfInBounds_toArray, List.set_cons_zero, List.set_cons_succ])
          (refine h_take 8 (by assumption) rfl (by decide +kernel) (by decide +kernel) (by decide +kernel) (fun _ _ _ h => h) (by rfl) (by intro w hSw; (try dsimp only at hSw); go_simp; all_goals (with_reducible rfl)) ?_; simp only [Act.put, List.setIfInBounds_toArray, List.set_cons_zero, List.set_cons_succ])
          (refine h_take 9 (by assumption) rfl (by decide +kernel) (by decide +kernel) (by decide +kernel) (fun _ _ _ h => h) (by rfl) (by intro w hSw; (try dsimp only at hSw); go_simp; all_goals (with_reducible rfl)) ?_; simp only [Act.put, List.setIfInBounds_toArray, List.set_cons_zero, List.set_cons_succ])
          (refine h_take 10 (by assumption) rfl (by decide +kernel) (by decide +kernel) (by decide +kernel) (fun _ _ _ h => h) (by rfl) (by intro w hSw; (try dsimp only at hSw); go_simp; all_goals (with_reducible rfl)) ?_; simp only [Act.put, List.setIfInBounds_toArray, List.set_cons_zero, List.set_cons_succ])
          (refine h_take 11 (by assumption) rfl (by decide +kernel) (by decide +kernel) (by decide +kernel) (fun _ _ _ h => h) (by rfl) (by intro w hSw; (try dsimp only at hSw); go_simp; all_goals (with_reducible rfl)) ?_; simp only [Act.put, List.setIfInBounds_toArray, List.set_cons_zero, List.set_cons_succ])
          (refine h_take 12 (by assumption) rfl (by decide +kernel) (by decide +kernel) (by decide +kernel) (fun _ _ _ h => h) (by rfl) (by intro w hSw; (try dsimp only at hSw); go_simp; all_goals (with_reducible rfl)) ?_; simp only [Act.put, List.setIfInBounds_toArray, List.set_cons_zero, List.set_cons_succ])
          (refine h_take 13 (by assumption) rfl (by decide +kernel) (by decide +kernel) (by decide +kernel) (fun _ _ _ h => h) (by rfl) (by intro w hSw; (try dsimp only at hSw); go_simp; all_goals (with_reducible rfl)) ?_; simp only [Act.put, List.setIfInBounds_toArray, List.set_cons_zero, List.set_cons_succ])
          (refine h_take 14 (by assumption) rfl (by decide +kernel) (by decide +kernel) (by decide +kernel) (fun _ _ _ h => h) (by rfl) (by intro w hSw; (try dsimp only at hSw); go_simp; all_goals (with_reducible rfl)) ?_; simp only [Act.put, List.setIfInBounds_toArray, List.set_cons_zero, List.set_cons_succ])
          (refine h_take 15 (by assumption) rfl (by decide +kernel) (by decide +kernel) (by decide +kernel) (fun _ _ _ h => h) (by rfl) (by intro w hSw; (try dsimp only at hSw); go_simp; all_goals (with_reducible rfl)) ?_; simp only [Act.put, List.setIfInBounds_toArray, List.set_cons_zero, List.set_cons_succ])
          (refine h_take 16 (by assumption) rfl (by decide +kernel) (by decide +kernel) (by decide +kernel) (fun _ _ _ h => h) (by rfl) (by intro w hSw; (try dsimp only at hSw); go_simp; all_goals (with_reducible rfl)) ?_; simp only [Act.put, List.setIfInBounds_toArray, List.set_cons_zero, List.set_cons_succ])
          (refine h_take 17 (by assumption) rfl (by decide +kernel) (by decide +kernel) (by decide +kernel) (fun _ _ _ h => h) (by rfl) (by intro w hSw; (try dsimp only at hSw); go_simp; all_goals (with_reducible rfl)) ?_; simp only [Act.put, List.setIfInBounds_toArray, List.set_cons_zero, List.set_cons_succ])
          (refine h_take 18 (by assumption) rfl (by decide +kernel) (by decide +kernel) (by decide +kernel) (fun _ _ _ h => h) (by rfl) (by intro w hSw; (try dsimp only at hSw); go_simp; all_goals (with_reducible rfl)) ?_; simp only [Act.put, List.setIfInBounds_toArray, List.set_cons_zero, List.set_cons_succ])
          (refine h_take 19 (by assumption) rfl (by decide +kernel) (by decide +kernel) (by decide +kernel) (fun _ _ _ h => h) (by rfl) (by intro w hSw; (try dsimp only at hSw); go_simp; all_goals (with_reducible rfl)) ?_; simp only [Act.put, List.setIfInBounds_toArray, List.set_cons_zero, List.set_cons_succ])
          (refine h_take 20 (by assumption) rfl (by decide +kernel) (by decide +kernel) (by decide +kernel) (fun _ _ _ h => h) (by rfl) (by intro w hSw; (try dsimp only at hSw); go_simp; all_goals (with_reducible rfl)) ?_; simp only [Act.put, List.setIfInBounds_toArray, List.set_cons_zero, List.set_cons_succ])
          (refine h_take 21 (by assumption) rfl (by decide +kernel) (by decide +kernel) (by decide +kernel) (fun _ _ _ h => h) (by rfl) (by intro w hSw; (try dsimp only at hSw); go_simp; all_goals (with_reducible rfl)) ?_; simp only [Act.put, List.setIfInBounds_toArray, List.set_cons_zero, List.set_cons_succ])
          (refine h_take 22 (by assumption) rfl (by decide +kernel) (by decide +kernel) (by decide +kernel) (fun _ _ _ h => h) (by rfl) (by intro w hSw; (try dsimp only at hSw); go_simp; all_goals (with_reducible rfl)) ?_; simp only [Act.put, List.setIfInBounds_toArray, List.set_cons_zero, List.set_cons_succ])
          (refine h_take 23 (by assumption) rfl (by decide +kernel) (by decide +kernel) (by decide +kernel) (fun _ _ _ h => h) (by rfl) (by intro w hSw; (try dsimp only at hSw); go_simp; all_goals (with_reducible rfl)) ?_; simp only [Act.put, List.setIfInBounds_toArray, List.set_cons_zero, List.set_cons_succ])
          (refine h_take 24 (by assumption) rfl (by decide +kernel) (by decide +kernel) (by decide +kernel) (fun _ _ _ h => h) (by rfl) (by intro w hSw; (try dsimp only at hSw); go_simp; all_goals (with_reducible rfl)) ?_; simp only [Act.put, List.setIfInBounds_toArray, List.set_cons_zero, List.set_cons_succ])
          (refine h_take 25 (by assumption) rfl (by decide +kernel) (by decide +kernel) (by decide +kernel) (fun _ _ _ h => h) (by rfl) (by intro w hSw; (try dsimp only at hSw); go_simp; all_goals (with_reducible rfl)) ?_; simp only [Act.put, List.setIfInBounds_toArray, List.set_cons_zero, List.set_cons_succ])
          (refine h_take 26 (by assumption) rfl (by decide +kernel) (by decide +kernel) (by decide +kernel) (fun _ _ _ h => h) (by rfl) (by intro w hSw; (try dsimp only at hSw); go_simp; all_goals (with_reducible rfl)) ?_; simp only [Act.put, List.setIfInBounds_toArray, List.set_cons_zero, List.set_cons_succ])
          (refine h_take 27 (by assumption) rfl (by decide +kernel) (by decide +kernel) (by decide +kernel) (fun _ _ _ h => h) (by rfl) (by intro w hSw; (try dsimp only at hSw); go_simp; all_goals (with_reducible rfl)) ?_; simp only [Act.put, List.setIfInBounds_toArray, List.set_cons_zero, List.set_cons_succ])
          (refine h_take 28 (by assumption) rfl (by decide +kernel) (by decide +kernel) (by decide +kernel) (fun _ _ _ h => h) (by rfl) (by intro w hSw; (try dsimp only at hSw); go_simp; all_goals (with_reducible rfl)) ?_; simp only [Act.put, List.setIfInBounds_toArray, List.set_cons_zero, List.set_cons_succ])
          (refine h_take 29 (by assumption) rfl (by decide +kernel) (by decide +kernel) (by decide +kernel) (fun _ _ _ h => h) (by rfl) (by intro w hSw; (try dsimp only at hSw); go_simp; all_goals (with_reducible rfl)) ?_; simp only [Act.put, List.setIfInBounds_toArray, List.set_cons_zero, List.set_cons_succ])
          refine h_raw 30 (by kernel_rfl) rfl (fun K hK => ?_)
          go_simp
          rw [v4 b hbb, v12 b hbb, v20 b hbb]
          obtain ⟨x_, hx_⟩ : ∃ x_ : Sp, x_ = ⟨b / 4 % 3, b / 12 % 3, 50 + (i : Int), 5 + b % 20, 3⟩ := ⟨_, rfl⟩
          have hxe : (#[.int .i64 (b / 4 % 3), .int .i64 (b / 12 % 3), .int .u32 (50 + (i : Int)), .int .u64 (5 + b % 20), .int .i64 3] : Array Value) = #[.int .i64 x_.mp, .int .i64 x_.fl, .int .u32 x_.ip, .int .u64 x_.hold, .int .i64 x_.room] := by rw [hx_]
          rw [hxe]
          rw [← hx_] at hS2
          clear hxe hx_
          have n_ := sep_alloc HS.out #[.int .i64 x_.mp, .int .i64 x_.fl, .int .u32 x_.ip, .int .u64 x_.hold, .int .i64 x_.room] 38
          clear hHeld p3 k0
          have n0_ := Aside0.mk n_; clear HS n_; have HS := n0_; clear n0_
          obtain ⟨p3, k0⟩ := keepP HC.out HX.out.1 (sep_drop HS.out)
          ((first | refine hK.out _ _ (⟨p3, k0⟩) (fun hHeld => ?_) | (go_wp2_with fail; refine hK.out _ _ (⟨p3, k0⟩) (fun hHeld => ?_))); clear hK K; (try simp only [Act.put, List.setIfInBounds_toArray, List.set_cons_zero, List.set_cons_succ]))
          clear p3 k0
          generalize hz_ : Array.size (World.heap _) = g9 at HS ⊢
          clear hz_
          generalize World.alloc _ _ = w2 at HS hHeld ⊢
          obtain ⟨p3, k0⟩ := keepP HC.out HX.out.1 (sep_drop HS.out)
          refine h_raw 31 (by kernel_rfl) rfl (fun K hK => ?_)
          refine step_append_rows (w0 := w) (ok0 := fun _ => False) spK (by rfl) (.tmp 46) (.tmp 76) 39 38 v38 40 rfl Try.underlying39 info38 rfl (by decide) (by decide) _ S [x_] (some ⟨g9, 0, none⟩) 1 1 (by rfl) (by rfl) (sep_l3 HS.out) (lit1 x_.cells HS.out rfl rfl (spK_K _ _)) (fun x cs hk => by rw [spK_open hk]; exact spK_M _ _ _ _) (by have := HSL.out; have := HI.out; omega) (fun v9 w5 hs => ?_)
          clear HS p3 k0
          obtain ⟨S2, hM2⟩ : ∃ S2, S ++ [x_] = S2 := ⟨_, rfl⟩
          rw [hM2] at hs
          have HS2 : Aside0 (nxtS i b S = S2 ∧ S2.length ≤ i + 1) := ⟨hS2.trans hM2, by rw [← hM2, List.length_append]; have := HSL.out.1; show S.length + 1 ≤ i + 1; omega⟩
          clear hM2 hS2
          obtain ⟨A9, c9, rfl, hc9, -⟩ := sep_row hs
          clear hc9
          have n_ := sep_l2 (sep_l2 (sep_drop (sep_l1 hs)))
          have HS := Aside0.mk n_
          clear n_ hs hHeld
          (try clear p3 k0); obtain ⟨p3, k0⟩ := keepP HC.out HX.out.1 (id HS.out)
          ((first | refine hK.out _ _ (⟨p3, k0⟩) (fun hHeld => ?_) | (go_wp2_with fail; refine hK.out _ _ (⟨p3, k0⟩) (fun hHeld => ?_))); clear hK K; (try simp only [Act.put, List.setIfInBounds_toArray, List.set_cons_zero, List.set_cons_succ]))
          (refine h_take 32 (by assumption) rfl (by decide +kernel) (by decide +kernel) (by decide +kernel) (fun _ _ _ h => h) (by rfl) (by intro w hSw; (try dsimp only at hSw); go_simp; all_goals (with_reducible rfl)) ?_; simp only [Act.put, List.setIfInBounds_toArray, List.set_cons_zero, List.set_cons_succ])
          refine wpAnyH_done (by kernel_rfl) ?_ _
          clear hHeld
          go_upto_region 11 with (fail)
          have g0 := sep_cell (sep_l3 HS.out) 2
          have f2 := sep_frozen (sep_l3 HS.out) 2
          (try clear p3 k0); obtain ⟨p3, k0⟩ := keepP HC.out HX.out.1 (id HS.out)
          go_upto_region 12 with (fail)
          have n_ := sep_l3 (sep_l3 (sep_l3 (sep_set (sep_l3 HS.out) 2 (.int .i64 S2.length))))
          clear g0 f2 p3 k0
          have n0_ := Aside0.mk n_; clear HS n_; have HS := n0_; clear n0_
          generalize World.setCell _ _ _ = we at HS ⊢
          (try clear p3 k0); obtain ⟨p3, k0⟩ := keepP HC.out HX.out.1 (id HS.out)
          have g0 := sep_cell (sep_l3 HS.out) 2
          have f2 := sep_frozen (sep_l3 HS.out) 2
          by_cases h240 : 240 < b
          · have m1 : decide (240 < b) = true := decide_eq_true h240
            have m2 := eq_true h240
            have hh : nxtH i b S2 = ⟨10 + (i : Int), 7, 0⟩ := by unfold nxtH; rw [if_pos h240]
            go_upto_region 14 with (fail)
            have n_ := sep_l3 (sep_l3 (sep_l3 (sep_set (sep_l3 HS.out) 2 (.int .i64 0))))
            clear g0 f2 p3 k0 m1 m2 h240
            have n0_ := Aside0.mk n_; clear HS n_; have HS := n0_; clear n0_
            generalize World.setCell _ _ _ = wf at HS ⊢
            obtain ⟨y_, hy_⟩ : ∃ y_ : Hs, nxtH i b S2 = y_ := ⟨_, rfl⟩
            rw [hy_] at hh
            have n_ := as_host hh HS.out
            have HY := Aside0.mk hy_
            clear hh hy_
            have n0_ := Aside0.mk n_; clear HS n_; have HS := n0_; clear n0_
            have h0 := sep_cell (sep_l3 HS.out) 0
            have h1 := sep_cell (sep_l3 HS.out) 1
            have h2 := sep_cell (sep_l3 HS.out) 2
            obtain ⟨H2, hH2⟩ : ∃ H2, H ++ [y_] = H2 := ⟨_, rfl⟩
            have HH2 := Aside0.mk hH2
            clear hH2
            go_wp2_with ((with_reducible refine gate_builtin (b := .append) (xs := #[.tmp 88, .tmp 90]) rfl ?_); at_builtin; refine wp_append hosK rfl (.tmp 88) (.tmp 90) 35 34 v34 16 rfl Try.underlying35 info34 rfl (by decide) (by decide) _ H y_ y_.cells (by rfl) (by rfl) (hosK_M _ _ _ _) (sep_l1 HS.out) (by have := HSL.out; have := HI.out; omega) ?_; intro v3 w4 n_; rw [HH2.out] at n_; obtain ⟨A8, c8, rfl, -, -⟩ := sep_row n_; have n_ := sep_l1 n_; have n0_ := Aside0.mk n_; clear HS n_; have HS := n0_; clear n0_)
            go_roundg (min l.length 5 - (i + 1))
            case measure => have := HI.out; omega
            case rel =>
              refine ⟨i + 1, by have := HI.out; omega, Nat.le_refl _, congrArg (Value.int .i64) (by have := HI.out; unfold wrap64; omega), ⟨?_⟩⟩
              have e2 : planS l (i + 1) = S2 := by rw [planS, HX.out.2, HSH.out.1]; exact HS2.out.1
              have e1 : planH l (i + 1) = H2 := by rw [planH, HX.out.2, HSH.out.2, e2, HY.out]; exact HH2.out
              rw [e1, e2]
              exact sep_drop (sep_l3 HS.out)
          · have m1 : decide (240 < b) = false := decide_eq_false h240
            have m2 := eq_false h240
            have hh : nxtH i b S2 = ⟨10 + (i : Int), 7, S2.length⟩ := by unfold nxtH; rw [if_neg h240]
            go_upto_region 14 with (fail)
            clear g0 f2 p3 k0 m1 m2 h240
            obtain ⟨y_, hy_⟩ : ∃ y_ : Hs, nxtH i b S2 = y_ := ⟨_, rfl⟩
            rw [hy_] at hh
            have n_ := as_host hh HS.out
            have HY := Aside0.mk hy_
            clear hh hy_
            have n0_ := Aside0.mk n_; clear HS n_; have HS := n0_; clear n0_
            have h0 := sep_cell (sep_l3 HS.out) 0
            have h1 := sep_cell (sep_l3 HS.out) 1
            have h2 := sep_cell (sep_l3 HS.out) 2
            obtain ⟨H2, hH2⟩ : ∃ H2, H ++ [y_] = H2 := ⟨_, rfl⟩
            have HH2 := Aside0.mk hH2
            clear hH2
            go_wp2_with ((with_reducible refine gate_builtin (b := .append) (xs := #[.tmp 88, .tmp 90]) rfl ?_); at_builtin; refine wp_append hosK rfl (.tmp 88) (.tmp 90) 35 34 v34 16 rfl Try.underlying35 info34 rfl (by decide) (by decide) _ H y_ y_.cells (by rfl) (by rfl) (hosK_M _ _ _ _) (sep_l1 HS.out) (by have := HSL.out; have := HI.out; omega) ?_; intro v3 w4 n_; rw [HH2.out] at n_; obtain ⟨A8, c8, rfl, -, -⟩ := sep_row n_; have n_ := sep_l1 n_; have n0_ := Aside0.mk n_; clear HS n_; have HS := n0_; clear n0_)
            go_roundg (min l.length 5 - (i + 1))
            case measure => have := HI.out; omega
            case rel =>
              refine ⟨i + 1, by have := HI.out; omega, Nat.le_refl _, congrArg (Value.int .i64) (by have := HI.out; unfold wrap64; omega), ⟨?_⟩⟩
              have e2 : planS l (i + 1) = S2 := by rw [planS, HX.out.2, HSH.out.1]; exact HS2.out.1
              have e1 : planH l (i + 1) = H2 := by rw [planH, HX.out.2, HSH.out.2, e2, HY.out]; exact HH2.out
              rw [e1, e2]
              exact sep_drop (sep_l3 HS.out)
        · have q2 : decide (0 < b % 4) = false := decide_eq_false q1
          have q3 := eq_false q1
          have q4 : (b % 4 ≤ 0) = True := eq_true (by omega)
          have q5 : decide (b % 4 ≤ 0) = true := decide_eq_true (by omega)
          by_cases q6 : S.length = 0
          · have q7 : ((S.length : Int) = 0) = True := eq_true (by omega)
            have q8 : ((S.length : Int) == 0) = true := beq_iff_eq.2 (by omega)
            have q9 := eq_true q6
            have hS2 : nxtS i b S = S ++ [⟨b / 4 % 3, b / 12 % 3, 50 + (i : Int), 5 + b % 20, 3⟩] := by unfold nxtS; rw [if_pos (.inr q6)]
            go_upto_region 10 with (fail)
            clear q1 q2 q3 q4 q5 q6 q7 q8 q9
            have n_ := sep_drew HS.out
            have n0_ := Aside0.mk n_; clear HS n_; have HS := n0_; clear n0_
            (try clear p3 k0); obtain ⟨p3, k0⟩ := keepP HC.out HX.out.1 (id HS.out)
            refine wp_region_held_drew (S := (fun w' => w'.cell? ⟨g1, 3, none⟩ = some (.slice (some ad) l.length c) ∧ w'.cell? (ad.add i) = some (.int .u8 b))) (by kernel_rfl) ⟨p3, k0⟩ (fun hHeld => ?_)
            generalize World.drew _ = wd at HS hHeld ⊢
            (try clear p3 k0); obtain ⟨p3, k0⟩ := keepP HC.out HX.out.1 (id HS.out)
            (refine h_take 0 (by assumption) rfl (by decide +kernel) (by decide +kernel) (by decide +kernel) (fun _ _ _ h => h) (by rfl) (by intro w hSw; (try dsimp only at hSw); go_simp; all_goals (with_reducible rfl)) ?_; simp only [Act.put, List.setIfInBounds_toArray, List.set_cons_zero, List.set_cons_succ])
            (refine h_take 1 (by assumption) rfl (by decide +kernel) (by decide +kernel) (by decide +kernel) (fun _ _ _ h => h) (by rfl) (by intro w hSw; (try dsimp only at hSw); go_simp; all_goals (with_reducible rfl)) ?_; simp only [Act.put, List.setIfInBounds_toArray, List.set_cons_zero, List.set_cons_succ])
            (refine h_take 2 (by assumption) rfl (by decide +kernel) (by decide +kernel) (by decide +kernel) (fun _ _ _ h => h) (by rfl) (by intro w hSw; (try dsimp only at hSw); go_simp; all_goals (with_reducible rfl)) ?_; simp only [Act.put, List.setIfInBounds_toArray, List.set_cons_zero, List.set_cons_succ])
            (refine h_take 3 (by assumption) rfl (by decide +kernel) (by decide +kernel) (by decide +kernel) (fun _ _ _ h => h) (by rfl) (by intro w hSw; (try dsimp only at hSw); go_simp; all_goals (with_reducible rfl)) ?_; simp only [Act.put, List.setIfInBounds_toArray, List.set_cons_zero, List.set_cons_succ])
            (refine h_take 4 (by assumption) rfl (by decide +kernel) (by decide +kernel) (by decide +kernel) (fun _ _ _ h => h) (by rfl) (by intro w hSw; (try dsimp only at hSw); go_simp; all_goals (with_reducible rfl)) ?_; simp only [Act.put, List.setIfInBounds_toArray, List.set_cons_zero, List.set_cons_succ])
            (refine h_take 5 (by assumption) rfl (by decide +kernel) (by decide +kernel) (by decide +kernel) (fun _ _ _ h => h) (by rfl) (by intro w hSw; (try dsimp only at hSw); go_simp; all_goals (with_reducible rfl)) ?_; simp only [Act.put, List.setIfInBounds_toArray, List.set_cons_zero, List.set_cons_succ])
            (refine h_take 6 (by assumption) rfl (by decide +kernel) (by decide +kernel) (by decide +kernel) (fun _ _ _ h => h) (by rfl) (by intro w hSw; (try dsimp only at hSw); go_simp; all_goals (with_reducible rfl)) ?_; simp only [Act.put, List.setIfInBounds_toArray, List.set_cons_zero, List.set_cons_succ])
            (refine h_take 7 (by assumption) rfl (by decide +kernel) (by decide +kernel) (by decide +kernel) (fun _ _ _ h => h) (by rfl) (by intro w hSw; (try dsimp only at hSw); go_simp; all_goals (with_reducible rfl)) ?_; simp only [Act.put, List.setIfInBounds_toArray, List.set_cons_zero, List.set_cons_succ])
            (refine h_take 8 (by assumption) rfl (by decide +kernel) (by decide +kernel) (by decide +kernel) (fun _ _ _ h => h) (by rfl) (by intro w hSw; (try dsimp only at hSw); go_simp; all_goals (with_reducible rfl)) ?_; simp only [Act.put, List.setIfInBounds_toArray, List.set_cons_zero, List.set_cons_succ])
            (refine h_take 9 (by assumption) rfl (by decide +kernel) (by decide +kernel) (by decide +kernel) (fun _ _ _ h => h) (by rfl) (by intro w hSw; (try dsimp only at hSw); go_simp; all_goals (with_reducible rfl)) ?_; simp only [Act.put, List.setIfInBounds_toArray, List.set_cons_zero, List.set_cons_succ])
            (refine h_take 10 (by assumption) rfl (by decide +kernel) (by decide +kernel) (by decide +kernel) (fun _ _ _ h => h) (by rfl) (by intro w hSw; (try dsimp only at hSw); go_simp; all_goals (with_reducible rfl)) ?_; simp only [Act.put, List.setIfInBounds_toArray, List.set_cons_zero, List.set_cons_succ])
            (refine h_take 11 (by assumption) rfl (by decide +kernel) (by decide +kernel) (by decide +kernel) (fun _ _ _ h => h) (by rfl) (by intro w hSw; (try dsimp only at hSw); go_simp; all_goals (with_reducible rfl)) ?_; simp only [Act.put, List.setIfInBounds_toArray, List.set_cons_zero, List.set_cons_succ])
            (refine h_take 12 (by assumption) rfl (by decide +kernel) (by decide +kernel) (by decide +kernel) (fun _ _ _ h => h) (by rfl) (by intro w hSw; (try dsimp only at hSw); go_simp; all_goals (with_reducible rfl)) ?_; simp only [Act.put, List.setIfInBounds_toArray, List.set_cons_zero, List.set_cons_succ])
            (refine h_take 13 (by assumption) rfl (by decide +kernel) (by decide +kernel) (by decide +kernel) (fun _ _ _ h => h) (by rfl) (by intro w hSw; (try dsimp only at hSw); go_simp; all_goals (with_reducible rfl)) ?_; simp only [Act.put, List.setIfInBounds_toArray, List.set_cons_zero, List.set_cons_succ])
            (refine h_take 14 (by assumption) rfl (by decide +kernel) (by decide +kernel) (by decide +kernel) (fun _ _ _ h => h) (by rfl) (by intro w hSw; (try dsimp only at hSw); go_simp; all_goals (with_reducible rfl)) ?_; simp only [Act.put, List.setIfInBounds_toArray, List.set_cons_zero, List.set_cons_succ])
            (refine h_take 15 (by assumption) rfl (by decide +kernel) (by decide +kernel) (by decide +kernel) (fun _ _ _ h => h) (by rfl) (by intro w hSw; (try dsimp only at hSw); go_simp; all_goals (with_reducible rfl)) ?_; simp only [Act.put, List.setIfInBounds_toArray, List.set_cons_zero, List.set_cons_succ])
            (refine h_take 16 (by assumption) rfl (by decide +kernel) (by decide +kernel) (by decide +kernel) (fun _ _ _ h => h) (by rfl) (by intro w hSw; (try dsimp only at hSw); go_simp; all_goals (with_reducible rfl)) ?_; simp only [Act.put, List.setIfInBounds_toArray, List.set_cons_zero, List.set_cons_succ])
            (refine h_take 17 (by assumption) rfl (by decide +kernel) (by decide +kernel) (by decide +kernel) (fun _ _ _ h => h) (by rfl) (by intro w hSw; (try dsimp only at hSw); go_simp; all_goals (with_reducible rfl)) ?_; simp only [Act.put, List.setIfInBounds_toArray, List.set_cons_zero, List.set_cons_succ])
            (refine h_take 18 (by assumption) rfl (by decide +kernel) (by decide +kernel) (by decide +kernel) (fun _ _ _ h => h) (by rfl) (by intro w hSw; (try dsimp only at hSw); go_simp; all_goals (with_reducible rfl)) ?_; simp only [Act.put, List.setIfInBounds_toArray, List.set_cons_zero, List.set_cons_succ])
            (refine h_take 19 (by assumption) rfl (by decide +kernel) (by decide +kernel) (by decide +kernel) (fun _ _ _ h => h) (by rfl) (by intro w hSw; (try dsimp only at hSw); go_simp; all_goals (with_reducible rfl)) ?_; simp only [Act.put, List.setIfInBounds_toArray, List.set_cons_zero, List.set_cons_succ])
            (refine h_take 20 (by assumption) rfl (by decide +kernel) (by decide +kernel) (by decide +kernel) (fun _ _ _ h => h) (by rfl) (by intro w hSw; (try dsimp only at hSw); go_simp; all_goals (with_reducible rfl)) ?_; simp only [Act.put, List.setIfInBounds_toArray, List.set_cons_zero, List.set_cons_succ])
            (refine h_take 21 (by assumption) rfl (by decide +kernel) (by decide +kernel) (by decide +kernel) (fun _ _ _ h => h) (by rfl) (by intro w hSw; (try dsimp only at hSw); go_simp; all_goals (with_reducible rfl)) ?_; simp only [Act.put, List.setIfInBounds_toArray, List.set_cons_zero, List.set_cons_succ])
            (refine h_take 22 (by assumption) rfl (by decide +kernel) (by decide +kernel) (by decide +kernel) (fun _ _ _ h => h) (by rfl) (by intro w hSw; (try dsimp only at hSw); go_simp; all_goals (with_reducible rfl)) ?_; simp only [Act.put, List.setIfInBounds_toArray, List.set_cons_zero, List.set_cons_succ])
            (refine h_take 23 (by assumption) rfl (by decide +kernel) (by decide +kernel) (by decide +kernel) (fun _ _ _ h => h) (by rfl) (by intro w hSw; (try dsimp only at hSw); go_simp; all_goals (with_reducible rfl)) ?_; simp only [Act.put, List.setIfInBounds_toArray, List.set_cons_zero, List.set_cons_succ])
            (refine h_take 24 (by assumption) rfl (by decide +kernel) (by decide +kernel) (by decide +kernel) (fun _ _ _ h => h) (by rfl) (by intro w hSw; (try dsimp only at hSw); go_simp; all_goals (with_reducible rfl)) ?_; simp only [Act.put, List.setIfInBounds_toArray, List.set_cons_zero, List.set_cons_succ])
            (refine h_take 25 (by assumption) rfl (by decide +kernel) (by decide +kernel) (by decide +kernel) (fun _ _ _ h => h) (by rfl) (by intro w hSw; (try dsimp only at hSw); go_simp; all_goals (with_reducible rfl)) ?_; simp only [Act.put, List.setIfInBounds_toArray, List.set_cons_zero, List.set_cons_succ])
            (refine h_take 26 (by assumption) rfl (by decide +kernel) (by decide +kernel) (by decide +kernel) (fun _ _ _ h => h) (by rfl) (by intro w hSw; (try dsimp only at hSw); go_simp; all_goals (with_reducible rfl)) ?_; simp only [Act.put, List.setIfInBounds_toArray, List.set_cons_zero, List.set_cons_succ])
            (refine h_take 27 (by assumption) rfl (by decide +kernel) (by decide +kernel) (by decide +kernel) (fun _ _ _ h => h) (by rfl) (by intro w hSw; (try dsimp only at hSw); go_simp; all_goals (with_reducible rfl)) ?_; simp only [Act.put, List.setIfInBounds_toArray, List.set_cons_zero, List.set_cons_succ])
            (refine h_take 28 (by assumption) rfl (by decide +kernel) (by decide +kernel) (by decide +kernel) (fun _ _ _ h => h) (by rfl) (by intro w hSw; (try dsimp only at hSw); go_simp; all_goals (with_reducible rfl)) ?_; simp only [Act.put, List.setIfInBounds_toArray, List.set_cons_zero, List.set_cons_succ])
            (refine h_take 29 (by assumption) rfl (by decide +kernel) (by decide +kernel) (by decide +kernel) (fun _ _ _ h => h) (by rfl) (by intro w hSw; (try dsimp only at hSw); go_simp; all_goals (with_reducible rfl)) ?_; simp only [Act.put, List.setIfInBounds_toArray, List.set_cons_zero, List.set_cons_succ])
            refine h_raw 30 (by kernel_rfl) rfl (fun K hK => ?_)
            go_simp
            rw [v4 b hbb, v12 b hbb, v20 b hbb]
            obtain ⟨x_, hx_⟩ : ∃ x_ : Sp, x_ = ⟨b / 4 % 3, b / 12 % 3, 50 + (i : Int), 5 + b % 20, 3⟩ := ⟨_, rfl⟩
            have hxe : (#[.int .i64 (b / 4 % 3), .int .i64 (b / 12 % 3), .int .u32 (50 + (i : Int)), .int .u64 (5 + b % 20), .int .i64 3] : Array Value) = #[.int .i64 x_.mp, .int .i64 x_.fl, .int .u32 x_.ip, .int .u64 x_.hold, .int .i64 x_.room] := by rw [hx_]
            rw [hxe]
            rw [← hx_] at hS2
            clear hxe hx_
            have n_ := sep_alloc HS.out #[.int .i64 x_.mp, .int .i64 x_.fl, .int .u32 x_.ip, .int .u64 x_.hold, .int .i64 x_.room] 38
            clear hHeld p3 k0
            have n0_ := Aside0.mk n_; clear HS n_; have HS := n0_; clear n0_
            obtain ⟨p3, k0⟩ := keepP HC.out HX.out.1 (sep_drop HS.out)
            ((first | refine hK.out _ _ (⟨p3, k0⟩) (fun hHeld => ?_) | (go_wp2_with fail; refine hK.out _ _ (⟨p3, k0⟩) (fun hHeld => ?_))); clear hK K; (try simp only [Act.put, List.setIfInBounds_toArray, List.set_cons_zero, List.set_cons_succ]))
            clear p3 k0
            generalize hz_ : Array.size (World.heap _) = g9 at HS ⊢
            clear hz_
            generalize World.alloc _ _ = w2 at HS hHeld ⊢
            obtain ⟨p3, k0⟩ := keepP HC.out HX.out.1 (sep_drop HS.out)
            refine h_raw 31 (by kernel_rfl) rfl (fun K hK => ?_)
            refine step_append_rows (w0 := w) (ok0 := fun _ => False) spK (by rfl) (.tmp 46) (.tmp 76) 39 38 v38 40 rfl Try.underlying39 info38 rfl (by decide) (by decide) _ S [x_] (some ⟨g9, 0, none⟩) 1 1 (by rfl) (by rfl) (sep_l3 HS.out) (lit1 x_.cells HS.out rfl rfl (spK_K _ _)) (fun x cs hk => by rw [spK_open hk]; exact spK_M _ _ _ _) (by have := HSL.out; have := HI.out; omega) (fun v9 w5 hs => ?_)
            clear HS p3 k0
            obtain ⟨S2, hM2⟩ : ∃ S2, S ++ [x_] = S2 := ⟨_, rfl⟩
            rw [hM2] at hs
            have HS2 : Aside0 (nxtS i b S = S2 ∧ S2.length ≤ i + 1) := ⟨hS2.trans hM2, by rw [← hM2, List.length_append]; have := HSL.out.1; show S.length + 1 ≤ i + 1; omega⟩
            clear hM2 hS2
            obtain ⟨A9, c9, rfl, hc9, -⟩ := sep_row hs
            clear hc9
            have n_ := sep_l2 (sep_l2 (sep_drop (sep_l1 hs)))
            have HS := Aside0.mk n_
            clear n_ hs hHeld
            (try clear p3 k0); obtain ⟨p3, k0⟩ := keepP HC.out HX.out.1 (id HS.out)
            ((first | refine hK.out _ _ (⟨p3, k0⟩) (fun hHeld => ?_) | (go_wp2_with fail; refine hK.out _ _ (⟨p3, k0⟩) (fun hHeld => ?_))); clear hK K; (try simp only [Act.put, List.setIfInBounds_toArray, List.set_cons_zero, List.set_cons_succ]))
            (refine h_take 32 (by assumption) rfl (by decide +kernel) (by decide +kernel) (by decide +kernel) (fun _ _ _ h => h) (by rfl) (by intro w hSw; (try dsimp only at hSw); go_simp; all_goals (with_reducible rfl)) ?_; simp only [Act.put, List.setIfInBounds_toArray, List.set_cons_zero, List.set_cons_succ])
            refine wpAnyH_done (by kernel_rfl) ?_ _
            clear hHeld
            go_upto_region 11 with (fail)
            have g0 := sep_cell (sep_l3 HS.out) 2
            have f2 := sep_frozen (sep_l3 HS.out) 2
            (try clear p3 k0); obtain ⟨p3, k0⟩ := keepP HC.out HX.out.1 (id HS.out)
            go_upto_region 12 with (fail)
            have n_ := sep_l3 (sep_l3 (sep_l3 (sep_set (sep_l3 HS.out) 2 (.int .i64 S2.length))))
            clear g0 f2 p3 k0
            have n0_ := Aside0.mk n_; clear HS n_; have HS := n0_; clear n0_
            generalize World.setCell _ _ _ = we at HS ⊢
            (try clear p3 k0); obtain ⟨p3, k0⟩ := keepP HC.out HX.out.1 (id HS.out)
            have g0 := sep_cell (sep_l3 HS.out) 2
            have f2 := sep_frozen (sep_l3 HS.out) 2
            by_cases h240 : 240 < b
            · have m1 : decide (240 < b) = true := decide_eq_true h240
              have m2 := eq_true h240
              have hh : nxtH i b S2 = ⟨10 + (i : Int), 7, 0⟩ := by unfold nxtH; rw [if_pos h240]
              go_upto_region 14 with (fail)
              have n_ := sep_l3 (sep_l3 (sep_l3 (sep_set (sep_l3 HS.out) 2 (.int .i64 0))))
              clear g0 f2 p3 k0 m1 m2 h240
              have n0_ := Aside0.mk n_; clear HS n_; have HS := n0_; clear n0_
              generalize World.setCell _ _ _ = wf at HS ⊢
              obtain ⟨y_, hy_⟩ : ∃ y_ : Hs, nxtH i b S2 = y_ := ⟨_, rfl⟩
              rw [hy_] at hh
              have n_ := as_host hh HS.out
              have HY := Aside0.mk hy_
              clear hh hy_
              have n0_ := Aside0.mk n_; clear HS n_; have HS := n0_; clear n0_
              have h0 := sep_cell (sep_l3 HS.out) 0
              have h1 := sep_cell (sep_l3 HS.out) 1
              have h2 := sep_cell (sep_l3 HS.out) 2
              obtain ⟨H2, hH2⟩ : ∃ H2, H ++ [y_] = H2 := ⟨_, rfl⟩
              have HH2 := Aside0.mk hH2
              clear hH2
              go_wp2_with ((with_reducible refine gate_builtin (b := .append) (xs := #[.tmp 88, .tmp 90]) rfl ?_); at_builtin; refine wp_append hosK rfl (.tmp 88) (.tmp 90) 35 34 v34 16 rfl Try.underlying35 info34 rfl (by decide) (by decide) _ H y_ y_.cells (by rfl) (by rfl) (hosK_M _ _ _ _) (sep_l1 HS.out) (by have := HSL.out; have := HI.out; omega) ?_; intro v3 w4 n_; rw [HH2.out] at n_; obtain ⟨A8, c8, rfl, -, -⟩ := sep_row n_; have n_ := sep_l1 n_; have n0_ := Aside0.mk n_; clear HS n_; have HS := n0_; clear n0_)
              go_roundg (min l.length 5 - (i + 1))
              case measure => have := HI.out; omega
              case rel =>
                refine ⟨i + 1, by have := HI.out; omega, Nat.le_refl _, congrArg (Value.int .i64) (by have := HI.out; unfold wrap64; omega), ⟨?_⟩⟩
                have e2 : planS l (i + 1) = S2 := by rw [planS, HX.out.2, HSH.out.1]; exact HS2.out.1
                have e1 : planH l (i + 1) = H2 := by rw [planH, HX.out.2, HSH.out.2, e2, HY.out]; exact HH2.out
                rw [e1, e2]
                exact sep_drop (sep_l3 HS.out)
            · have m1 : decide (240 < b) = false := decide_eq_false h240
              have m2 := eq_false h240
              have hh : nxtH i b S2 = ⟨10 + (i : Int), 7, S2.length⟩ := by unfold nxtH; rw [if_neg h240]
              go_upto_region 14 with (fail)
              clear g0 f2 p3 k0 m1 m2 h240
              obtain ⟨y_, hy_⟩ : ∃ y_ : Hs, nxtH i b S2 = y_ := ⟨_, rfl⟩
              rw [hy_] at hh
              have n_ := as_host hh HS.out
              have HY := Aside0.mk hy_
              clear hh hy_
              have n0_ := Aside0.mk n_; clear HS n_; have HS := n0_; clear n0_
              have h0 := sep_cell (sep_l3 HS.out) 0
              have h1 := sep_cell (sep_l3 HS.out) 1
              have h2 := sep_cell (sep_l3 HS.out) 2
              obtain ⟨H2, hH2⟩ : ∃ H2, H ++ [y_] = H2 := ⟨_, rfl⟩
              have HH2 := Aside0.mk hH2
              clear hH2
              go_wp2_with ((with_reducible refine gate_builtin (b := .append) (xs := #[.tmp 88, .tmp 90]) rfl ?_); at_builtin; refine wp_append hosK rfl (.tmp 88) (.tmp 90) 35 34 v34 16 rfl Try.underlying35 info34 rfl (by decide) (by decide) _ H y_ y_.cells (by rfl) (by rfl) (hosK_M _ _ _ _) (sep_l1 HS.out) (by have := HSL.out; have := HI.out; omega) ?_; intro v3 w4 n_; rw [HH2.out] at n_; obtain ⟨A8, c8, rfl, -, -⟩ := sep_row n_; have n_ := sep_l1 n_; have n0_ := Aside0.mk n_; clear HS n_; have HS := n0_; clear n0_)
              go_roundg (min l.length 5 - (i + 1))
              case measure => have := HI.out; omega
              case rel =>
                refine ⟨i + 1, by have := HI.out; omega, Nat.le_refl _, congrArg (Value.int .i64) (by have := HI.out; unfold wrap64; omega), ⟨?_⟩⟩
                have e2 : planS l (i + 1) = S2 := by rw [planS, HX.out.2, HSH.out.1]; exact HS2.out.1
                have e1 : planH l (i + 1) = H2 := by rw [planH, HX.out.2, HSH.out.2, e2, HY.out]; exact HH2.out
                rw [e1, e2]
                exact sep_drop (sep_l3 HS.out)
          · have q7 : ((S.length : Int) = 0) = False := eq_false (by omega)
            have q8 : ((S.length : Int) == 0) = false := beq_eq_false_iff_ne.2 (by omega)
            have q9 := eq_false q6
            have hS2 : nxtS i b S = S := by unfold nxtS; rw [if_neg (by rintro (h | h); exact q1 h; exact q6 h)]
            go_upto_region 11 with (fail)
            clear q1 q2 q3 q4 q5 q6 q7 q8 q9
            obtain ⟨S2, rfl⟩ : ∃ S2, S2 = S := ⟨_, rfl⟩
            have HS2 := Aside0.mk (And.intro hS2 HSL.out.1)
            clear hS2
            have g0 := sep_cell (sep_l3 HS.out) 2
            have f2 := sep_frozen (sep_l3 HS.out) 2
            (try clear p3 k0); obtain ⟨p3, k0⟩ := keepP HC.out HX.out.1 (id HS.out)
            go_upto_region 12 with (fail)
            have n_ := sep_l3 (sep_l3 (sep_l3 (sep_set (sep_l3 HS.out) 2 (.int .i64 S2.length))))
            clear g0 f2 p3 k0
            have n0_ := Aside0.mk n_; clear HS n_; have HS := n0_; clear n0_
            generalize World.setCell _ _ _ = we at HS ⊢
            (try clear p3 k0); obtain ⟨p3, k0⟩ := keepP HC.out HX.out.1 (id HS.out)
            have g0 := sep_cell (sep_l3 HS.out) 2
            have f2 := sep_frozen (sep_l3 HS.out) 2
            by_cases h240 : 240 < b
            · have m1 : decide (240 < b) = true := decide_eq_true h240
              have m2 := eq_true h240
              have hh : nxtH i b S2 = ⟨10 + (i : Int), 7, 0⟩ := by unfold nxtH; rw [if_pos h240]
              go_upto_region 14 with (fail)
              have n_ := sep_l3 (sep_l3 (sep_l3 (sep_set (sep_l3 HS.out) 2 (.int .i64 0))))
              clear g0 f2 p3 k0 m1 m2 h240
              have n0_ := Aside0.mk n_; clear HS n_; have HS := n0_; clear n0_
              generalize World.setCell _ _ _ = wf at HS ⊢
              obtain ⟨y_, hy_⟩ : ∃ y_ : Hs, nxtH i b S2 = y_ := ⟨_, rfl⟩
              rw [hy_] at hh
              have n_ := as_host hh HS.out
              have HY := Aside0.mk hy_
              clear hh hy_
              have n0_ := Aside0.mk n_; clear HS n_; have HS := n0_; clear n0_
              have h0 := sep_cell (sep_l3 HS.out) 0
              have h1 := sep_cell (sep_l3 HS.out) 1
              have h2 := sep_cell (sep_l3 HS.out) 2
              obtain ⟨H2, hH2⟩ : ∃ H2, H ++ [y_] = H2 := ⟨_, rfl⟩
              have HH2 := Aside0.mk hH2
              clear hH2
              go_wp2_with ((with_reducible refine gate_builtin (b := .append) (xs := #[.tmp 88, .tmp 90]) rfl ?_); at_builtin; refine wp_append hosK rfl (.tmp 88) (.tmp 90) 35 34 v34 16 rfl Try.underlying35 info34 rfl (by decide) (by decide) _ H y_ y_.cells (by rfl) (by rfl) (hosK_M _ _ _ _) (sep_l1 HS.out) (by have := HSL.out; have := HI.out; omega) ?_; intro v3 w4 n_; rw [HH2.out] at n_; obtain ⟨A8, c8, rfl, -, -⟩ := sep_row n_; have n_ := sep_l1 n_; have n0_ := Aside0.mk n_; clear HS n_; have HS := n0_; clear n0_)
              go_roundg (min l.length 5 - (i + 1))
              case measure => have := HI.out; omega
              case rel =>
                refine ⟨i + 1, by have := HI.out; omega, Nat.le_refl _, congrArg (Value.int .i64) (by have := HI.out; unfold wrap64; omega), ⟨?_⟩⟩
                have e2 : planS l (i + 1) = S2 := by rw [planS, HX.out.2, HSH.out.1]; exact HS2.out.1
                have e1 : planH l (i + 1) = H2 := by rw [planH, HX.out.2, HSH.out.2, e2, HY.out]; exact HH2.out
                rw [e1, e2]
                exact sep_drop (sep_l3 HS.out)
            · have m1 : decide (240 < b) = false := decide_eq_false h240
              have m2 := eq_false h240
              have hh : nxtH i b S2 = ⟨10 + (i : Int), 7, S2.length⟩ := by unfold nxtH; rw [if_neg h240]
              go_upto_region 14 with (fail)
              clear g0 f2 p3 k0 m1 m2 h240
              obtain ⟨y_, hy_⟩ : ∃ y_ : Hs, nxtH i b S2 = y_ := ⟨_, rfl⟩
              rw [hy_] at hh
              have n_ := as_host hh HS.out
              have HY := Aside0.mk hy_
              clear hh hy_
              have n0_ := Aside0.mk n_; clear HS n_; have HS := n0_; clear n0_
              have h0 := sep_cell (sep_l3 HS.out) 0
              have h1 := sep_cell (sep_l3 HS.out) 1
              have h2 := sep_cell (sep_l3 HS.out) 2
              obtain ⟨H2, hH2⟩ : ∃ H2, H ++ [y_] = H2 := ⟨_, rfl⟩
              have HH2 := Aside0.mk hH2
              clear hH2
              go_wp2_with ((with_reducible refine gate_builtin (b := .append) (xs := #[.tmp 88, .tmp 90]) rfl ?_); at_builtin; refine wp_append hosK rfl (.tmp 88) (.tmp 90) 35 34 v34 16 rfl Try.underlying35 info34 rfl (by decide) (by decide) _ H y_ y_.cells (by rfl) (by rfl) (hosK_M _ _ _ _) (sep_l1 HS.out) (by have := HSL.out; have := HI.out; omega) ?_; intro v3 w4 n_; rw [HH2.out] at n_; obtain ⟨A8, c8, rfl, -, -⟩ := sep_row n_; have n_ := sep_l1 n_; have n0_ := Aside0.mk n_; clear HS n_; have HS := n0_; clear n0_)
              go_roundg (min l.length 5 - (i + 1))
              case measure => have := HI.out; omega
              case rel =>
                refine ⟨i + 1, by have := HI.out; omega, Nat.le_refl _, congrArg (Value.int .i64) (by have := HI.out; unfold wrap64; omega), ⟨?_⟩⟩
                have e2 : planS l (i + 1) = S2 := by rw [planS, HX.out.2, HSH.out.1]; exact HS2.out.1
                have e1 : planH l (i + 1) = H2 := by rw [planH, HX.out.2, HSH.out.2, e2, HY.out]; exact HH2.out
                rw [e1, e2]
                exact sep_drop (sep_l3 HS.out)
      · have d5b : decide ((i : Int) < 5) = false := decide_eq_false (by omega)
        have d5i : ((i : Int) < 5) = False := eq_false (by omega)
        have d5n : decide (i < 5) = false := decide_eq_false h5
        have d5q : (i < 5) = False := eq_false h5
        have HE : Aside0 (min l.length 5 = i) := ⟨by omega⟩
        clear hi hg hlt h5
        go_wp2
        go_ret2
        refine ⟨_, _, rfl, ?_⟩
        rw [HE.out, HSH.out.1, HSH.out.2]
        exact sep_drop HS.out
    · have hi2 : i = l.length := by omega
      have e1 : decide ((i : Int) < (l.length : Int)) = false := decide_eq_false (by omega)
      have e2 : ((i : Int) < (l.length : Int)) = False := eq_false (by omega)
      have e3 : decide (i < l.length) = false := decide_eq_false hlt
      have e4 : (i < l.length) = False := eq_false hlt
      have HE : Aside0 (min l.length 5 = i) := ⟨by omega⟩
      clear hi hg hlt hi2
      go_wp2
      go_ret2
      refine ⟨_, _, rfl, ?_⟩
      rw [HE.out, HSH.out.1, HSH.out.2]
      exact sep_drop HS.out
end Go.Proofs.Ytobfabfoenldfaa.NW
