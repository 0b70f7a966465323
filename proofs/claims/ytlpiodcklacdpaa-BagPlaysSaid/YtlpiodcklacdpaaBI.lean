/- The bag: slices.Delete of one, away, Take, Drop. Conditions: those that each theorem names. -/
import Derived.Test.YtlpiodcklacdpaaBH
namespace Go.Proofs.Ytlpiodcklacdpaa.BG
set_option linter.unusedVariables false
set_option linter.unusedSimpArgs false
open Go Go.RowKit Go.Proofs.YtlpiodcklacdpaaS Go.Proofs.YtlpiodcklacdpaaS.Asn Go.Proofs.Ytlpiodcklacdpaa.PA Go.Proofs.YtlpiodcklacdpaaW.PrintWords Go.Proofs.YtlpiodcklacdpaaW.PrintLast Go.Proofs.YtlpiodcklacdpaaW.PrintMore
/-- Writing behind a row's end, in its own block, leaves the row. -/
theorem R_spare {α : Type} (d : Kd α) {e : Nat} {W : World} {base : Nat} {ok : Nat → Prop} {g n c : Nat} {xs : List α} (HO : d.R e W base ok (.slice (some ⟨g, 0, none⟩) n c) xs) (o : Nat) (vs : List Value) (ho : n * d.sz ≤ o) (hfit : o + vs.length ≤ c * d.sz) :
    d.R e (W.setCells g o vs) base ok (.slice (some ⟨g, 0, none⟩) n c) xs ∧ W.grownBy (W.setCells g o vs) (some g) := by
  obtain ⟨hn, hnc, _⟩ := Kd.R_reads' HO
  obtain ⟨hok, inner, hown, hr⟩ := HO
  rcases hown.2 with ⟨hv, _⟩ | ⟨g', cap', cur, hv, hb, hh, hnc', hcm, hcs, htake⟩
  · cases hv
  injection hv with ha _ hc
  injection ha with ha
  injection ha with hg
  subst hg; subst hc
  obtain ⟨cur', h3, h4, h5⟩ := setCells_row vs o W cur hh (by omega)
  obtain ⟨s1, s2, s3, s4⟩ := setCells_same g vs o W
  have hfar : ∀ k', k' ≠ g → (W.setCells g o vs).heap[k']? = W.heap[k']? := fun k' hk' => setCells_far vs _ k' hk'
  refine ⟨⟨hok, inner, ⟨hown.1, .inr ⟨g, c, cur', by rw [hn], hb, h3, hnc', hcm, by rw [h4, hcs], ?_⟩⟩, hr.imp_ (fun p q hp => d.M_move (fun k' hk' => hfar k' (fun he => hk'.2 (by rw [he]; rfl))) hp)⟩, ⟨s1, s2, s3, by rw [s4]; exact Nat.le_refl _, fun k' _ hk' => hfar k' (fun he => hk' (by rw [he]))⟩⟩
  rw [h5, ← htake]
  rw [hn] at ho
  have hlen : cur.toList.length = c * d.sz := by rw [Array.length_toList, hcs]
  rw [List.append_assoc, List.take_append_of_le_length (by rw [List.length_take]; omega), List.take_take, Nat.min_eq_left ho]
theorem R_block {α : Type} {d : Kd α} {e : Nat} {W : World} {base : Nat} {ok : Nat → Prop} {g n c : Nat} {xs : List α} (HO : d.R e W base ok (.slice (some ⟨g, 0, none⟩) n c) xs) : ∃ cur, W.heap[g]? = some (.cells cur e (0, 0)) ∧ cur.size = c * d.sz := by
  obtain ⟨hok, inner, hown, hr⟩ := HO
  rcases hown.2 with ⟨hv, _⟩ | ⟨g', cap', cur, hv, hb, hh, hnc', hcm, hcs, htake⟩
  · cases hv
  injection hv with ha _ hc
  injection ha with ha
  injection ha with hg
  subst hg; subst hc
  exact ⟨cur, hh, hcs⟩
theorem zero35 (w : World) : (zeroValue 35).run Try.prog w = .ok z35 w := by kernel_rfl
theorem clear35 (W : World) (ty : TypeId) (g o m : Nat) (cur : Array Value) (hh : W.heap[g]? = some (.cells cur 35 (0, 0))) (hfit : o + 6 ≤ cur.size) :
    (Builtin.clear_ #[45] ty #[.slice (some ⟨g, o, none⟩) 1 m]).run Try.prog W = .ok (.tuple #[]) (W.setCells g o z35.cells.toList) := by
  have hzc : (Builtin.zeroCells z35.cells 1).toList = z35.cells.toList := by kernel_rfl
  have hst := run_storeCells_cells (P := Try.prog) g o z35.cells.toList 0 W (fun j hj => by rw [Nat.add_zero, blk_cell hh]; simp; have : j < 6 := hj; omega) (fun j hj => blk_frozen hh _) (by decide +kernel)
  simp only [Nat.add_zero] at hst
  simp [Builtin.clear_, run_underlying Try.underlying45, zero35]
  show ((Sem.run Try.prog (storeCells ⟨g, o, none⟩ (Builtin.zeroCells z35.cells 1).toList) W).andThen _) = _
  rw [hzc, hst]
  rfl
theorem cut3 (A : Option Addr) (n c : Nat) (lo hi mx : Int) (h0 : 0 ≤ lo) (h1 : lo ≤ hi) (h2 : hi ≤ mx) (h3 : mx ≤ c) : ∃ v, ∀ W : World, (Instr.slice 45 (.slice A n c) (some (.int .i64 lo)) (some (.int .i64 hi)) (some (.int .i64 mx))).run Try.prog W = .ok v W := by
  have hel : Try.prog.elem 45 = 35 := by kernel_rfl
  have hu : Try.prog.underlying 45 = some (.slice (Try.prog.elem 45)) := by rw [hel]; exact Try.underlying45
  obtain ⟨i0, hi0, -⟩ := Option.map_eq_some_iff.1 info35
  refine ⟨sliced A lo.toNat hi.toNat mx.toNat i0.size, fun W => ?_⟩
  rw [run_slice_lhm W 45 A n c hu .i64 .i64 .i64 lo hi mx h0 h1 h2 h3, hel]
  simp [sizeOf, typeInfo, hi0, Result.andThen]
theorem cut_over (t e : TypeId) (kl kh : IntKind) {i : TypeInfo} (ht : Try.prog.underlying t = some (.slice e)) (hi : Try.prog.info? e = some i) (size : Nat) (hsz : i.size = size) (A : Option Addr) (n c : Nat) (lo hi' : Int) (h0 : 0 ≤ lo) (h1 : lo ≤ hi') (hc : hi' ≤ c) :
    ∀ W : World, (Instr.slice t (.slice A n c) (some (.int kl lo)) (some (.int kh hi')) none).run Try.prog W = .ok (.slice (if c = lo.toNat then A else A.map (·.add (lo.toNat * size))) (hi'.toNat - lo.toNat) (c - lo.toNat)) W := by
  intro W
  have hel : Try.prog.elem t = e := by simp [Program.elem, ht]
  have hu : Try.prog.underlying t = some (.slice (Try.prog.elem t)) := by rw [hel]; exact ht
  rw [run_slice_lh W t A n c hu kl kh lo hi' h0 h1 hc, hel]
  simp [sizeOf, typeInfo, hi, hsz, sliced, Result.andThen]
section
variable {P : Program} {ops : Array Oper} {rest : List Oper} {o : Oper} {a : Act} {Q : Exit → Act → World → Prop} {α : Type} {w0 W : World} {ok0 : Nat → Prop} {F : Asn}
theorem step_delete {Kc : Act → World → Prop} (d : Kd α) (hw : Region.wanted o (yielded ops a.tmps) = true) (s x : Operand) (t e : TypeId) (ho : o.op = .call { callee := .builtin .append, args := #[s, x], argTypes := #[t, t] })
    (ht : P.underlying t = some (.slice e)) (hinfo : (P.info? e).map (·.size) = some d.sz) {g n c k m c2 : Nat} {A : Option Addr} {xs : List α}
    (hs : a.eval s = .slice (some ⟨g, 0, none⟩) k c) (hx : a.eval x = .slice A m c2) (hA : A = if c = k + 1 then some ⟨g, 0, none⟩ else (some (⟨g, 0, none⟩ : Addr)).map (·.add ((k + 1) * d.sz))) (hm : m = n - (k + 1))
    (HS : Sep w0 ok0 (row d e (.slice (some ⟨g, 0, none⟩) n c) xs ⋆ F) W) (hk : k < n)
    (h : ∀ w1, Sep w0 ok0 (row d e (.slice (some ⟨g, 0, none⟩) (n - 1) c) (xs.eraseIdx k) ⋆ F) w1 → Kc (a.put o.dst (.slice (some ⟨g, 0, none⟩) (n - 1) c)) w1) :
    if Region.wanted o (yielded ops a.tmps) = true then Oper.wp P o a W Kc Q else Kc (a.put o.dst undef) W := by
  obtain ⟨ok, hr, hh⟩ := sep_grown HS
  exact Kd.R_delete_step d (w0 := W) 0 hw s x t e ho ht hinfo hs hx hA hm hr hk (Below.refl _ _) (Nat.zero_le _) (fun w1 hr1 hb hg => h w1 (hh _ w1 _ (Kd.R_mono hr1 (fun k hk => .inl hk)) hb hg))
theorem sep_spare (d : Kd α) {e g n c : Nat} {xs : List α} (HS : Sep w0 ok0 (row d e (.slice (some ⟨g, 0, none⟩) n c) xs ⋆ F) W) (o : Nat) (vs : List Value) (ho : n * d.sz ≤ o) (hfit : o + vs.length ≤ c * d.sz) :
    Sep w0 ok0 (row d e (.slice (some ⟨g, 0, none⟩) n c) xs ⋆ F) (W.setCells g o vs) := by
  obtain ⟨ok, hr, hh⟩ := sep_grown HS
  obtain ⟨h1, h2⟩ := R_spare d hr o vs ho hfit
  exact hh _ _ _ (Kd.R_mono h1 (fun k hk => .inl hk)) ⟨h2.os, h2.tape, h2.output, h2.size, fun k hk => absurd hk (Nat.not_lt_zero _)⟩ h2
theorem sep_block (d : Kd α) {e g n c : Nat} {xs : List α} (HS : Sep w0 ok0 (row d e (.slice (some ⟨g, 0, none⟩) n c) xs ⋆ F) W) : ∃ cur, W.heap[g]? = some (.cells cur e (0, 0)) ∧ cur.size = c * d.sz := by
  obtain ⟨ok, hr, hh⟩ := sep_grown HS
  exact R_block hr
end
theorem item_Delete (A : Option Addr) (c : Nat) (l : List It) (k : Nat) (j : Int) (w : World) (ok : Nat → Prop) (hj : j = (k : Int) + 1) (hk : k < l.length) (h : (row itK 35 (.slice A l.length c) l ⋆ emp).H w ok) :
    Calls Try.prog 35 #[.slice A l.length c, .int .i64 (k : Int), .int .i64 j] w fun e w' => ∃ v, e = .returned v ∧ Sep w ok (row itK 35 v (l.eraseIdx k) ⋆ emp) w' := by
  have hs := sep_begin h
  obtain ⟨A', c', e', hc, hC⟩ := sep_row hs
  cases e'
  have hlen : l.length ≤ 9223372036854775807 := hC.2.1
  obtain ⟨g, hA⟩ : ∃ g, A = some ⟨g, 0, none⟩ := by
    obtain ⟨_, _, ⟨_, _, hr, _⟩, _⟩ := hs
    obtain ⟨g, cap, he, -⟩ := Kd.R_form hr (by omega)
    cases he
    exact ⟨g, rfl⟩
  subst hA
  obtain ⟨i0, hi0, hz_⟩ := Option.map_eq_some_iff.1 info35
  have hsz0 : i0.size = 6 := by injection hz_ with _ h1; injection h1 
  obtain ⟨v3, hcut3⟩ := cut3 (some ⟨g, 0, none⟩) l.length c (k : Int) j (l.length : Int) (by omega) (by omega) (by omega) (by omega)
  have hcutA : ∀ W : World, (Instr.slice 45 (.slice (some ⟨g, 0, none⟩) l.length c) none (some (.int .i64 (k : Int))) none).run Try.prog W = .ok (.slice (some ⟨g, 0, none⟩) k c) W := cut_to (P := Try.prog) 45 35 .i64 Try.underlying45 hi0 (some ⟨g, 0, none⟩) l.length c (k : Int) (by omega) (by omega) hc
  obtain ⟨A2, hA2⟩ : ∃ A2, A2 = if c = k + 1 then some ⟨g, 0, none⟩ else (some (⟨g, 0, none⟩ : Addr)).map (·.add ((k + 1) * 6)) := ⟨_, rfl⟩
  have hjn : j.toNat = k + 1 := by omega
  have hcutB : ∀ W : World, (Instr.slice 45 (.slice (some ⟨g, 0, none⟩) l.length c) (some (.int .i64 j)) none none).run Try.prog W = .ok (.slice A2 (l.length - (k + 1)) (c - (k + 1))) W := by
    have := cut_from (P := Try.prog) 45 35 .i64 Try.underlying45 hi0 6 hsz0 (some ⟨g, 0, none⟩) l.length c j (by omega) (by omega)
    rw [hjn, ← hA2] at this
    exact this
  have hcutC : ∀ W : World, (Instr.slice 45 (.slice (some ⟨g, 0, none⟩) (l.length - 1) c) (some (.int .i64 ((l.length - 1 : Nat) : Int))) (some (.int .i64 (l.length : Int))) none).run Try.prog W = .ok (.slice (some ⟨g, (l.length - 1) * 6, none⟩) 1 (c - (l.length - 1))) W := by
    have := cut_over 45 35 .i64 .i64 Try.underlying45 hi0 6 hsz0 (some ⟨g, 0, none⟩) (l.length - 1) c ((l.length - 1 : Nat) : Int) (l.length : Int) (by omega) (by omega) (by omega)
    rw [Int.toNat_natCast, Int.toNat_natCast, if_neg (by omega), Option.map_some, add_at, Nat.zero_add, show l.length - (l.length - 1) = 1 by omega] at this
    exact this
  have HA := Aside0.mk hA2
  have HC := Aside0.mk hc
  have HL := Aside0.mk hlen
  have HK := Aside0.mk hk
  have HS := Aside0.mk hs
  have t1 : decide ((k : Int) = j) = false := decide_eq_false (by omega)
  have t2 : ((k : Int) == j) = false := by simp; omega
  have t3 : ((k : Int) = j) = False := eq_false (by omega)
  clear hz_ hsz0 hi0 hA2 hjn hc hlen hk hs hC h hj
  go_enter Try.func35, Try.ntmps35
  go_upto_region 5 with (fail)
  replace HS := Aside0.mk (sep_drew HS.out)
  (first | go_region_held3 (fun _ => True) (exact trivial) (first | (refine step_delete (F := emp) (w0 := w) (ok0 := ok) (n := l.length) (k := k) itK (by rfl) (.tmp 22) (.tmp 25) 45 35 rfl Try.underlying45 (by kernel_rfl) (g := g) (c := c) (m := l.length - (k + 1)) (c2 := c - (k + 1)) (A := A2) rfl rfl HA.out rfl HS.out HK.out (fun w1 hs_ => ?_); clear HS; have HS := Aside0.mk hs_; clear hs_)) | fail)
  obtain ⟨cur, hcur, hcs⟩ := sep_block itK HS.out
  have hclr := fun ty => clear35 w1 ty g ((l.length - 1) * 6) (c - (l.length - 1)) cur hcur (by rw [hcs]; have := HC.out; have := HK.out; show _ ≤ c * 6; omega)
  have HF := Aside0.mk (sep_spare itK HS.out ((l.length - 1) * 6) z35.cells.toList (Nat.le_refl _) (by have := HC.out; have := HK.out; show _ + 6 ≤ c * 6; omega))
  clear hcur hcs HS
  generalize z35.cells.toList = zs at hclr HF
  go_wp2
  go_ret
  exact ⟨_, rfl, HF.out⟩
end Go.Proofs.Ytlpiodcklacdpaa.BG
