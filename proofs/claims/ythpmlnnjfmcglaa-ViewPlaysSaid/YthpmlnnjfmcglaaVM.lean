/- The view: Merge (its closure, slices.IndexFunc, slices.ContainsFunc). Conditions: those that each theorem names. -/
import Derived.Test.YthpmlnnjfmcglaaXD
namespace Go.Proofs.Ythpmlnnjfmcglaa.VW
set_option linter.unusedVariables false
set_option linter.unusedSimpArgs false
open Go Go.RowKit Go.Proofs.YthpmlnnjfmcglaaS Go.Proofs.YthpmlnnjfmcglaaS.Asn Go.Proofs.Ythpmlnnjfmcglaa.PA Go.Proofs.YthpmlnnjfmcglaaW.PrintWords Go.Proofs.YthpmlnnjfmcglaaW.PrintLast Go.Proofs.YthpmlnnjfmcglaaW.PrintMore
theorem rec_at {w : World} {A : Option Addr} {l : List Rec} (h : recK.C w A l.length l) (i : Nat) (x : Rec) (hx : l[i]? = some x) :
    ∃ ad, A = some ad ∧ w.cell? (ad.add (i * 5)) = some (.int .i64 x.id) ∧ w.cell? ⟨(ad.add (i * 5)).block, (ad.add (i * 5)).off + 1, none⟩ = some (.int .i64 x.st) ∧ w.cell? ⟨(ad.add (i * 5)).block, (ad.add (i * 5)).off + 2, none⟩ = some (.int .u32 x.inc) ∧ w.cell? ⟨(ad.add (i * 5)).block, (ad.add (i * 5)).off + 3, none⟩ = some (.int .u32 x.ip) ∧ w.cell? ⟨(ad.add (i * 5)).block, (ad.add (i * 5)).off + 4, none⟩ = some (.int .u16 x.po) := by
  obtain ⟨hi, he⟩ := List.getElem?_eq_some_iff.1 hx
  obtain ⟨ad, c, rfl, hc, hk, hcell⟩ := Kd.C_get h x (i : Int) (Int.natCast_nonneg i) (Int.ofNat_lt.2 hi)
  rw [Int.toNat_natCast, List.getD_eq_getElem?_getD, hx, Option.getD_some] at hk
  rw [recK_open hk, Int.toNat_natCast] at hcell
  refine ⟨ad, rfl, hcell 0 _ rfl, ?_, ?_, ?_, ?_⟩
  · rw [add_f _ _ _ (by decide)]; exact hcell 1 _ rfl
  · rw [add_f _ _ _ (by decide)]; exact hcell 2 _ rfl
  · rw [add_f _ _ _ (by decide)]; exact hcell 3 _ rfl
  · rw [add_f _ _ _ (by decide)]; exact hcell 4 _ rfl
theorem rec_cells {w0 w : World} {ok0 : Nat → Prop} {F : Asn} {g n c : Nat} {l : List Rec} (h : Sep w0 ok0 (row recK 31 (.slice (some ⟨g, 0, none⟩) n c) l ⋆ F) w) (i : Nat) (x : Rec) (hx : l[i]? = some x) :
    w.cell? ⟨g, i * 5, none⟩ = some (.int .i64 x.id) ∧ w.cell? ⟨g, i * 5 + 1, none⟩ = some (.int .i64 x.st) ∧ w.cell? ⟨g, i * 5 + 2, none⟩ = some (.int .u32 x.inc) ∧ w.cell? ⟨g, i * 5 + 3, none⟩ = some (.int .u32 x.ip) ∧ w.cell? ⟨g, i * 5 + 4, none⟩ = some (.int .u16 x.po) := by
  obtain ⟨_, h0, h1, h2, h3, h4, h5⟩ := rec_at (sep_row' h).2.2 i x hx
  cases h0
  rw [add_at] at h1 h2 h3 h4 h5
  exact ⟨h1, h2, h3, h4, h5⟩
/-- Not right. -/
def bad (r : Rec) : Bool := !right r
theorem merge_1 (x : Rec) (W : World) :
    Calls Try.prog 42 #[.agg #[.int .i64 x.id, .int .i64 x.st, .int .u32 x.inc, .int .u32 x.ip, .int .u16 x.po]] W fun e w' => e = .returned (.bool (bad x)) ∧ Below W.heap.size W w' := by
  have HS := Aside0.mk (sep_start W)
  have HF := Aside0.mk (right_f x)
  obtain ⟨b, hb⟩ : ∃ b, right x = b := ⟨_, rfl⟩
  have hbad : bad x = !b := by unfold bad; rw [hb]
  rw [hbad]
  rw [hb] at HF
  clear hb hbad
  go_enter Try.func42, Try.ntmps42
  go_upto_region 1 with (fail)
  have n_ := sep_alloc HS.out #[.int .i64 x.id, .int .i64 x.st, .int .u32 x.inc, .int .u32 x.ip, .int .u16 x.po] 31
  have n0_ := Aside0.mk n_; clear HS n_; have HS := n0_; clear n0_
  generalize W.alloc (.cells #[.int .i64 x.id, .int .i64 x.st, .int .u32 x.inc, .int .u32 x.ip, .int .u16 x.po] 31) = wa at HS ⊢
  generalize W.heap.size = g1 at HS ⊢
  obtain ⟨m1, m2, m3, m4, m5⟩ := facts5 HS.out
  go_wp2_with (go_at_call 29; (with_reducible refine Calls.mono (record_Right.calls x.id x.st x.inc x.ip x.po b _ HF.out) ?_); rintro e w1 ⟨rfl, hb_⟩; have n_ := sep_below HS.out hb_; clear hb_; have n0_ := Aside0.mk n_; clear HS n_; have HS := n0_; clear n0_)
  go_ret
  exact ⟨rfl, sep_below_of HS.out⟩
set_option maxHeartbeats 4000000 in
theorem merge_idx (A : Option Addr) (c : Nat) (l : List Rec) (w : World) (hr : recK.C w A l.length l) :
    Calls Try.prog 50 #[.slice A l.length c, .func (.func 42) #[] #[]] w fun e w' => ∃ r : Int, e = .returned (.int .i64 r) ∧ decide (r ≥ 0) = l.any bad ∧ Below w.heap.size w w' := by
  have HLN := Aside0.mk hr.2.1
  have HR := Aside0.mk hr
  clear hr
  go_enter Try.func50, Try.ntmps50
  go_upto_region 2 with (fail)
  go_loopg [5, 8] l.length (fun gg _ s8 wr => ∃ kk : Nat, kk ≤ l.length ∧ l.length - kk ≤ gg ∧ s8 = .int .i64 kk ∧ Aside0 (Below w.heap.size w wr) ∧ Aside0 ((l.take kk).any bad = false))
  case atStart => exact ⟨0, Nat.zero_le _, by omega, rfl, ⟨Below.refl _ w⟩, ⟨by simp⟩⟩
  case round =>
    obtain ⟨kk, hkk, hg, rfl, BW, HA⟩ := hrel
    by_cases hlt : kk < l.length
    · have c1b : decide ((kk : Int) < (l.length : Int)) = true := decide_eq_true (Int.ofNat_lt.2 hlt); have c1n : decide (kk < l.length) = true := decide_eq_true hlt; have c1q : (kk < l.length) = True := eq_true hlt; have p0_ := eq_true (Int.natCast_nonneg kk)
      obtain ⟨y, hy⟩ : ∃ y, l[kk]? = some y := ⟨_, List.getElem?_eq_getElem hlt⟩
      obtain ⟨ad, rfl, k0, k1, k2, k3, k4⟩ := rec_at HR.out kk y hy
      replace k0 := (BW.out.cell (World.block_lt_of_cell? w _ k0)).trans k0
      replace k1 := (BW.out.cell (World.block_lt_of_cell? w _ k1)).trans k1
      replace k2 := (BW.out.cell (World.block_lt_of_cell? w _ k2)).trans k2
      replace k3 := (BW.out.cell (World.block_lt_of_cell? w _ k3)).trans k3
      replace k4 := (BW.out.cell (World.block_lt_of_cell? w _ k4)).trans k4
      have hcall := merge_1 y wr
      have HI := Aside0.mk (And.intro hlt hg)
      have HL := Aside0.mk hy
      clear hy hlt hkk hg
      cases hq : bad y with
      | true =>
        rw [hq] at hcall
        have HC := Aside0.mk hcall
        have HQ := Aside0.mk hq
        clear hcall hq
        go_wp2_with (go_at_call 42; refine HC.out.mono ?_; rintro e w' ⟨rfl, hb'⟩; have HB' := Aside0.mk hb'; clear hb')
        go_ret
        refine ⟨_, rfl, ?_, BW.out.trans (HB'.out.mono BW.out.size)⟩
        rw [show l.any bad = true from List.any_eq_true.2 ⟨y, List.mem_of_getElem? HL.out, HQ.out⟩]
        exact decide_eq_true (by omega)
      | false =>
        rw [hq] at hcall
        have HC := Aside0.mk hcall
        have HQ := Aside0.mk hq
        clear hcall hq
        go_wp2_with (go_at_call 42; refine HC.out.mono ?_; rintro e w' ⟨rfl, hb'⟩; have HB' := Aside0.mk hb'; clear hb')
        go_roundg (l.length - (kk + 1))
        case measure => have := HI.out; omega
        case rel =>
          refine ⟨kk + 1, by have := HI.out; omega, Nat.le_refl _, congrArg (Value.int .i64) (by have := HI.out; have := HLN.out; unfold wrap64; omega), ⟨BW.out.trans (HB'.out.mono BW.out.size)⟩, ⟨?_⟩⟩
          rw [List.take_add_one, HL.out, List.any_append, HA.out]
          simp [HQ.out]
    · obtain rfl : kk = l.length := by omega
      have c2b : decide ((l.length : Int) < (l.length : Int)) = false := decide_eq_false (by omega)
      go_wp2
      go_ret
      refine ⟨-1, rfl, ?_, BW.out⟩
      have h := HA.out
      rw [List.take_length] at h
      rw [h]
      rfl
theorem merge_has (A : Option Addr) (c : Nat) (l : List Rec) (z : Bool) (w : World) (hz : l.any bad = z) (hr : recK.C w A l.length l) :
    Calls Try.prog 41 #[.slice A l.length c, .func (.func 42) #[] #[]] w fun e w' => e = .returned (.bool z) ∧ Below w.heap.size w w' := by
  have hcall := merge_idx A c l w hr
  clear hr
  go_enter Try.func41, Try.ntmps41
  go_wp2_with (go_at_call 50; refine hcall.mono ?_; rintro e w' ⟨r, rfl, hd, hb'⟩)
  go_ret
  rw [hz] at hd
  exact ⟨by rw [← hd]; rfl, hb'⟩
/-! ## Merge -/
def mgF (x : List Rec × VS) (r : Rec) : List Rec × VS := (if (takeE x.2 r).1 = true then x.1 ++ [r] else x.1, (takeE x.2 r).2.2)
def mg (s : VS) (l : List Rec) : List Rec × VS := l.foldl mgF ([], s)
def mergeE (s : VS) (l : List Rec) : List Rec × Int × VS := if l.any bad = true then ([], 1, s) else ((mg s l).1, 0, (mg s l).2)
theorem mg_snoc (s : VS) (l : List Rec) (r : Rec) : mg s (l ++ [r]) = mgF (mg s l) r := by unfold mg; rw [List.foldl_append]; rfl
theorem mg_ok (s : VS) (l : List Rec) (i : Nat) (h : s.E.length ≤ 128) : (mg s (l.take i)).2.E.length ≤ 128 ∧ (mg s (l.take i)).2.seen ≤ s.seen + i ∧ (mg s (l.take i)).1.length ≤ i := by
  induction i with
  | zero => rw [List.take_zero]; exact ⟨h, Nat.le_refl _, Nat.le_refl _⟩
  | succ i ih =>
    obtain ⟨h1, h2, h3⟩ := ih
    rw [List.take_add_one]
    cases hx : l[i]? with
    | none => rw [Option.toList_none, List.append_nil]; exact ⟨h1, by omega, by omega⟩
    | some x =>
      rw [Option.toList_some, mg_snoc]
      refine ⟨take_len _ _ h1, Nat.le_trans (take_seen _ _) (by omega), ?_⟩
      unfold mgF
      dsimp only
      split
      · rw [List.length_append, List.length_singleton]; omega
      · omega
set_option maxHeartbeats 4000000 in
set_option maxRecDepth 100000 in
theorem view_Merge (p : Nat) (s : VS) (A : Option Addr) (c : Nat) (l : List Rec) (w : World) (ok : Nat → Prop) (hE : s.E.length ≤ 128) (hn : s.seen ≤ 100000000) (hl : l.length ≤ 100000000) (h : (viewA p s ⋆ row recK 31 (.slice A l.length c) l ⋆ emp).H w ok) :
    Calls Try.prog 23 #[.pointer (some ⟨p, 0, none⟩), .slice A l.length c] w fun e w' => ∃ v, e = .returned (.tuple #[v, .int .i64 (mergeE s l).2.1]) ∧ Sep w ok (row recK 31 v (mergeE s l).1 ⋆ viewA p (mergeE s l).2.2 ⋆ row recK 31 (.slice A l.length c) l ⋆ emp) w' := by
  have HS := Aside0.mk (sep_begin h)
  have HLN := Aside0.mk (sep_row' (sep_l1 HS.out)).2.2.2.1
  have HK := Aside0.mk (And.intro hE (And.intro hn hl))
  clear h hE hn hl
  obtain ⟨z, hz⟩ : ∃ z, l.any bad = z := ⟨_, rfl⟩
  have HZ := Aside0.mk hz
  have HC := Aside0.mk (sep_row' (sep_l1 HS.out)).2.2
  obtain ⟨r, hr⟩ : ∃ r, mergeE s l = r := ⟨_, rfl⟩
  rw [hr]
  unfold mergeE at hr
  rw [hz] at hr
  have HR := Aside0.mk hr
  clear hr hz
  have hr := HR.out
  clear HR
  go_enter Try.func23, Try.ntmps23
  cases z with
  | true =>
    rw [if_pos rfl] at hr
    subst hr
    go_wp2_with (go_at_call 41; (with_reducible refine Calls.mono (merge_has A c l true _ HZ.out HC.out) ?_); rintro e w1 ⟨rfl, hb_⟩; have n_ := sep_below HS.out hb_; clear hb_; have n0_ := Aside0.mk n_; clear HS n_; have HS := n0_; clear n0_)
    go_ret2
    exact ⟨_, rfl, sep_row_nil HS.out⟩
  | false =>
    rw [if_neg (by decide)] at hr
    have HR := Aside0.mk hr
    clear hr
    go_upto_region 3 with (go_at_call 41; (with_reducible refine Calls.mono (merge_has A c l false _ HZ.out HC.out) ?_); rintro e w1 ⟨rfl, hb_⟩; have n_ := sep_below HS.out hb_; clear hb_; have n0_ := Aside0.mk n_; clear HS n_; have HS := n0_; clear n0_)
    clear HC
    have n_ := sep_row_nil (d := recK) (e := 31) HS.out
    have n0_ := Aside0.mk n_; clear HS n_; have HS := n0_; clear n0_
    go_upto_region 5 with (fail)
    go_loopg [6, 15] l.length (fun gg v6 v15 wr => ∃ i : Nat, i ≤ l.length ∧ l.length - i ≤ gg ∧ v15 = .int .i64 (i : Int) ∧ Aside0 (Sep w ok (row recK 31 v6 (mg s (l.take i)).1 ⋆ viewA p (mg s (l.take i)).2 ⋆ row recK 31 (.slice A l.length c) l ⋆ emp) wr))
    case atStart => exact ⟨0, Nat.zero_le _, by omega, rfl, HS⟩
    case round =>
      clear HS
      obtain ⟨i, hi, hgi, rfl, HS⟩ := hrel
      by_cases hlt : i < l.length
      · have c1b : decide ((i : Int) < (l.length : Int)) = true := decide_eq_true (Int.ofNat_lt.2 hlt); have c1n : decide (i < l.length) = true := decide_eq_true hlt; have c1q : (i < l.length) = True := eq_true hlt; have p0_ := eq_true (Int.natCast_nonneg i)
        obtain ⟨y, hy⟩ : ∃ y, l[i]? = some y := ⟨_, List.getElem?_eq_getElem hlt⟩
        obtain ⟨ga, rfl⟩ := row_addr (sep_l2 HS.out) (by omega)
        obtain ⟨k0, k1, k2, k3, k4⟩ := rec_cells (sep_l2 HS.out) i y hy
        have hsn : mg s (l.take (i + 1)) = mgF (mg s (l.take i)) y := by rw [List.take_add_one, hy, Option.toList_some, mg_snoc]
        have hmk := mg_ok s l i HK.out.1
        obtain ⟨⟨o, s1⟩, hm⟩ : ∃ x, mg s (l.take i) = x := ⟨_, rfl⟩
        rw [hm] at HS hsn hmk
        dsimp only at HS hmk
        unfold mgF at hsn
        dsimp only at hsn
        obtain ⟨⟨tk, te, s2⟩, ht⟩ : ∃ x, takeE s1 y = x := ⟨_, rfl⟩
        rw [ht] at hsn
        dsimp only at hsn
        have HT := Aside0.mk ht
        have HSN := Aside0.mk hsn
        have HMK := Aside0.mk hmk
        have HI := Aside0.mk (And.intro hlt hgi)
        clear hi hgi hlt hy hsn hm hmk ht
        go_upto_region 7 with (fail)
        have n_ := sep_alloc HS.out #[.int .i64 y.id, .int .i64 y.st, .int .u32 y.inc, .int .u32 y.ip, .int .u16 y.po] 31
        have n0_ := Aside0.mk n_; clear HS n_; have HS := n0_; clear n0_
        generalize wr.alloc (.cells #[.int .i64 y.id, .int .i64 y.st, .int .u32 y.inc, .int .u32 y.ip, .int .u16 y.po] 31) = wa at HS ⊢
        generalize wr.heap.size = g8 at HS ⊢
        clear k0 k1 k2 k3 k4
        obtain ⟨m1, m2, m3, m4, m5⟩ := facts5 HS.out
        go_upto_region 8 with (go_at_call 14; obtain ⟨ok_, hp_, hk_⟩ := sep_use1 (sep_l2 HS.out); have hx_ := view_Take p s1 y _ ok_ HMK.out.1 (by have := HMK.out; have := HK.out; have := HI.out; omega) hp_; rw [HT.out] at hx_; dsimp only at hx_; (with_reducible refine Calls.mono hx_ ?_); rintro e w1 ⟨rfl, hq_⟩; have n_ := sep_l2 (sep_l2 (back1 hk_ hq_)); clear hx_ hp_ hk_ hq_; have n0_ := Aside0.mk n_; clear HS n_; have HS := n0_; clear n0_; clear m1 m2 m3 m4 m5; obtain ⟨m1, m2, m3, m4, m5⟩ := facts5 HS.out)
        have n_ := sep_drop HS.out
        have n0_ := Aside0.mk n_; clear HS n_; have HS := n0_; clear n0_
        have hsn := HSN.out
        cases tk with
        | true =>
          rw [if_pos rfl] at hsn
          go_wp2_with ((with_reducible refine gate_builtin (b := .append) (xs := #[.tmp 26, .tmp 28]) rfl ?_); at_builtin; refine wp_append recK rfl (.tmp 26) (.tmp 28) 47 31 z31 32 rfl Try.underlying47 info31 rfl (by decide) (by decide) _ o y y.cells (by rfl) (by rfl) (recK_M _ _ _ _) HS.out (by have := HMK.out; have := HI.out; have := HK.out; omega) ?_; intro v1_ w4 n_; have n0_ := Aside0.mk n_; clear HS n_; have HS := n0_; clear n0_)
          replace HS : Aside0 (Sep w ok (row recK 31 v1_ (mg s (l.take (i + 1))).1 ⋆ viewA p (mg s (l.take (i + 1))).2 ⋆ row recK 31 (.slice (some ⟨ga, 0, none⟩) l.length c) l ⋆ emp) w4) := by rw [HSN.out]; exact HS
          go_roundg (l.length - (i + 1))
          case measure => have := HI.out; omega
          case rel => exact ⟨i + 1, HI.out.1, Nat.le_refl _, congrArg (Value.int .i64) (by have := HI.out; have := HLN.out; unfold wrap64; omega), HS⟩
        | false =>
          rw [if_neg (by decide)] at hsn
          go_wp2
          replace HS : Aside0 (Sep w ok (row recK 31 u6 (mg s (l.take (i + 1))).1 ⋆ viewA p (mg s (l.take (i + 1))).2 ⋆ row recK 31 (.slice (some ⟨ga, 0, none⟩) l.length c) l ⋆ emp) w1) := by rw [HSN.out]; exact HS
          go_roundg (l.length - (i + 1))
          case measure => have := HI.out; omega
          case rel => exact ⟨i + 1, HI.out.1, Nat.le_refl _, congrArg (Value.int .i64) (by have := HI.out; have := HLN.out; unfold wrap64; omega), HS⟩
      · obtain rfl : i = l.length := by omega
        rw [List.take_length] at HS
        have c2b : decide ((l.length : Int) < (l.length : Int)) = false := decide_eq_false (by omega)
        have hr := HR.out
        subst hr
        go_wp2
        go_ret2
        exact ⟨_, rfl, HS.out⟩
end Go.Proofs.Ythpmlnnjfmcglaa.VW
