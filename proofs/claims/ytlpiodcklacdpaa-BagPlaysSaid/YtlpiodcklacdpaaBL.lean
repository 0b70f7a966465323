/- The bag: Delay, Clone, Items. Conditions: those that each theorem names. -/
import Derived.Test.YtlpiodcklacdpaaBK
namespace Go.Proofs.Ytlpiodcklacdpaa.BG
set_option linter.unusedVariables false
set_option linter.unusedSimpArgs false
open Go Go.RowKit Go.Proofs.YtlpiodcklacdpaaS Go.Proofs.YtlpiodcklacdpaaS.Asn Go.Proofs.Ytlpiodcklacdpaa.PA Go.Proofs.YtlpiodcklacdpaaW.PrintWords Go.Proofs.YtlpiodcklacdpaaW.PrintLast Go.Proofs.YtlpiodcklacdpaaW.PrintMore
def latest : Int := 4611686018427387904
def later (t by_ : Int) : Int := min t latest + min by_ (latest - min t latest)
def It.later (x : It) (by_ : Int) : It := { x with t := BG.later x.t by_ }
def delayE (l : List It) (pick : Int) : Int := (findE l 18446744073709551615 pick).2
def delayL (l : List It) (pick by_ : Int) : List It := if (findE l 18446744073709551615 pick).2 = 0 then l.modify (findE l 18446744073709551615 pick).1.toNat (fun x => x.later by_) else l
theorem elem_addr (g k : Nat) : (⟨((⟨g, 0, none⟩ : Addr).add (k * 6)).block, ((⟨g, 0, none⟩ : Addr).add (k * 6)).off + 5, none⟩ : Addr) = ⟨g, k * 6 + 5, none⟩ := by rw [add_at, Nat.zero_add]
/-- An item of the row gets another time. -/
theorem sep_time {w0 W : World} {ok0 : Nat → Prop} {F : Asn} {g c : Nat} {l : List It} (HS : Sep w0 ok0 (row itK 35 (.slice (some ⟨g, 0, none⟩) l.length c) l ⋆ F) W) (k : Nat) (x : It) (t' : Int) (hx : l[k]? = some x) :
    Sep w0 ok0 (row itK 35 (.slice (some ⟨g, 0, none⟩) l.length c) (l.set k { x with t := t' }) ⋆ F) (W.setCell ⟨g, k * 6 + 5, none⟩ (.int .u64 t')) := by
  obtain ⟨hi, -⟩ := List.getElem?_eq_some_iff.1 hx
  have hC := (sep_row' HS).2.2
  obtain ⟨ok, hr, hh⟩ := sep_grown HS
  obtain ⟨ad, cc, had, hc, hk, hcell⟩ := Kd.C_get hC x (k : Int) (Int.natCast_nonneg k) (Int.ofNat_lt.2 hi)
  cases had
  rw [Int.toNat_natCast, List.getD_eq_getElem?_getD, hx, Option.getD_some] at hk
  rw [itK_open hk, Int.toNat_natCast] at hcell
  obtain ⟨h1, h2⟩ := Kd.R_seg (d := itK) (x' := { x with t := t' }) (seg := [.int .u64 t']) (j := 5) (c := x.cells) (okp := fun _ => False) hr (k : Int) (Int.natCast_nonneg k) (Int.ofNat_lt.2 hi) rfl (fun j u hu => by have := hcell j u hu; rw [add_at, Nat.zero_add] at this; exact this) (Nat.le_refl 6) (itK_M W 0 _ { x with t := t' }) (fun _ h => h.elim)
  exact hh _ _ _ (Kd.R_mono h1 (fun k hk => .inl hk)) ⟨h2.os, h2.tape, h2.output, h2.size, fun k hk => absurd hk (Nat.not_lt_zero _)⟩ h2
theorem modify_at {l : List It} {k : Nat} {x : It} (f : It → It) (hx : l[k]? = some x) : l.modify k f = l.set k (f x) := by
  obtain ⟨hi, rfl⟩ := List.getElem?_eq_some_iff.1 hx
  apply List.ext_getElem
  · simp
  · intro i h1 h2
    rw [List.getElem_modify, List.getElem_set]
    split
    · rename_i h; subst h; rfl
    · rfl
theorem later_val (t b : Int) (ht : 0 ≤ t) (hb : 0 ≤ b) : IntKind.u64.wrap ((if 4611686018427387904 < t then 4611686018427387904 else t) + if IntKind.u64.wrap (4611686018427387904 - if 4611686018427387904 < t then 4611686018427387904 else t) < b then IntKind.u64.wrap (4611686018427387904 - if 4611686018427387904 < t then 4611686018427387904 else t) else b) = later t b := by
  unfold later latest
  have h1 : (if 4611686018427387904 < t then 4611686018427387904 else t) = min t 4611686018427387904 := by omega
  rw [h1]
  have h2 : IntKind.u64.wrap (4611686018427387904 - min t 4611686018427387904) = 4611686018427387904 - min t 4611686018427387904 := by rw [IntKind.wrap_u64]; omega
  rw [h2, IntKind.wrap_u64]
  omega
set_option maxHeartbeats 1000000 in
theorem bag_Delay (p : Nat) (l : List It) (room pick by_ : Int) (w : World) (ok : Nat → Prop) (hp : pick ≤ 9223372036854775807) (hb0 : 0 ≤ by_) (ht : ∀ x ∈ l, 0 ≤ x.t) (h : (bagA p l room ⋆ emp).H w ok) :
    Calls Try.prog 15 #[.pointer (some ⟨p, 0, none⟩), .int .i64 pick, .int .u64 by_] w fun e w' => e = .returned (.int .i64 (delayE l pick)) ∧ Sep w ok (bagA p (delayL l pick by_) room ⋆ emp) w' := by
  have HS := Aside0.mk (sep_begin h)
  have HP := Aside0.mk hp
  have HB0 := Aside0.mk hb0
  have HT := Aside0.mk ht
  clear h hp hb0 ht
  obtain ⟨r1, hr1⟩ : ∃ r, delayE l pick = r := ⟨_, rfl⟩
  obtain ⟨r2, hr2⟩ : ∃ r, delayL l pick by_ = r := ⟨_, rfl⟩
  rw [hr1, hr2]
  unfold delayE at hr1
  unfold delayL at hr2
  have hfl := findE_lt (l := l) (u := 18446744073709551615) (pick := pick)
  obtain ⟨⟨fa, fe⟩, hf1⟩ : ∃ f, findE l 18446744073709551615 pick = f := ⟨_, rfl⟩
  have HF := Aside0.mk hf1
  rw [hf1] at hr1 hr2 hfl
  have HR := Aside0.mk (And.intro hr1 (And.intro hr2 hfl))
  clear hr1 hr2 hfl hf1
  go_enter Try.func15, Try.ntmps15
  go_upto_region 2 with (go_at_call 30; obtain ⟨ok_, hp_, hk_⟩ := sep_use1 HS.out; have hx_ := bag_find p l room 18446744073709551615 pick _ ok_ HP.out hp_; rw [HF.out] at hx_; (with_reducible refine Calls.mono hx_ ?_); rintro e w1 ⟨rfl, hq_⟩; have n_ := back1 hk_ hq_; clear hx_ hp_ hk_ hq_; have n0_ := Aside0.mk n_; clear HS n_; have HS := n0_; clear n0_)
  obtain ⟨hr1, hr2, hfl⟩ := HR.out
  clear HR HF
  by_cases h0 : fe = 0
  · subst h0
    rw [if_pos rfl] at hr2
    obtain ⟨k, hk, hkl⟩ := hfl rfl
    have hk' : fa = k := hk
    subst hk'
    clear hk
    obtain ⟨x, hx⟩ : ∃ x, l[k]? = some x := ⟨_, List.getElem?_eq_getElem hkl⟩
    rw [show ((k : Int)).toNat = k from Int.toNat_natCast k] at hr2
    obtain ⟨v, n_⟩ := bag_open HS.out
    obtain ⟨A, c, rfl, -, hC⟩ := sep_row (sep_l1 n_)
    have HLN := Aside0.mk hC.2.1
    obtain ⟨ad, hA, m1, m2, m3, m4, m5, m6⟩ := it_at hC k x hx
    subst hA
    obtain ⟨g, hg⟩ : ∃ g, ad = ⟨g, 0, none⟩ := by
      obtain ⟨_, _, ⟨_, _, hr, _⟩, _⟩ := sep_l1 n_
      obtain ⟨g, cap, he, -⟩ := Kd.R_form hr (by omega)
      cases he
      exact ⟨g, rfl⟩
    have fz : w1.frozen? ⟨(ad.add (k * 6)).block, (ad.add (k * 6)).off + 5, none⟩ = false := by
      subst hg
      obtain ⟨cur, hcur, -⟩ := sep_block itK (sep_l1 n_)
      rw [elem_addr]
      exact blk_frozen hcur _
    have HG := Aside0.mk hg
    clear hg
    obtain ⟨b1, b2, b3⟩ := facts2 n_
    have c1b : decide ((k : Int) < (l.length : Int)) = true := decide_eq_true (Int.ofNat_lt.2 hkl); have c1n : decide (k < l.length) = true := decide_eq_true hkl; have c1q : (k < l.length) = True := eq_true hkl; have p0_ := eq_true (Int.natCast_nonneg k)
    have HKK := Aside0.mk (And.intro hkl hx)
    clear hfl hC hx hkl
    have n0_ := Aside0.mk n_; clear HS n_; have HS := n0_; clear n0_
    have HRR := Aside0.mk (And.intro hr1 hr2)
    clear hr1 hr2
    go_upto_region 5 with (fail)
    replace fz : w1.drew.frozen? ⟨(ad.add (k * 6)).block, (ad.add (k * 6)).off + 5, none⟩ = false := fz
    replace m6 : w1.drew.cell? ⟨(ad.add (k * 6)).block, (ad.add (k * 6)).off + 5, none⟩ = some (.int .u64 x.t) := m6
    go_region
    all_goals
      clear fz m1 m2 m3 m4 m5 m6 b1 b2 b3
      rw [later_val x.t by_ (HT.out x (List.mem_of_getElem? HKK.out.2)) HB0.out]
      go_wp2
    all_goals
      go_ret
      obtain ⟨hr1, hr2⟩ := HRR.out
      rw [modify_at _ HKK.out.2] at hr2
      have hg := HG.out
      subst hg
      rw [elem_addr]
      have n_ := sep_l1 (sep_drew (sep_time (sep_l1 HS.out) k x (later x.t by_) HKK.out.2))
      subst hr1
      subst hr2
      exact ⟨rfl, bag_mk n_⟩
  · rw [if_neg h0] at hr2
    have t1 : decide (fe = 0) = false := decide_eq_false h0
    have t2 : (fe == 0) = false := by simpa using h0
    have t3 := eq_false h0
    clear hfl
    go_wp2
    go_ret
    subst hr1
    subst hr2
    exact ⟨rfl, HS.out⟩
section
variable {P : Program} {ops : Array Oper} {rest : List Oper} {o : Oper} {a : Act} {Q : Exit → Act → World → Prop} {α : Type} {w0 W : World} {ok0 : Nat → Prop} {F : Asn}
theorem wp_append_rows (d : Kd α) (hgd : o.guard = none) (s x : Operand) (t e : TypeId) (z : Value) (bytes : Nat)
    (ho : o.op = .call { callee := .builtin .append, args := #[s, x], argTypes := #[t, t] })
    (ht : P.underlying t = some (.slice e)) (hinfo : (P.info? e).map (fun i => (i.zero, i.size, i.bytes)) = some (some z, d.sz, bytes)) (hz : z.cells.size = d.sz) (hs0 : 0 < d.sz) (hb0 : 0 < bytes)
    (v : Value) (xs ys : List α) (A : Option Addr) (m c : Nat) (hs : a.eval s = v) (hx : a.eval x = .slice A m c)
    (HS : Sep w0 ok0 (row d e v xs ⋆ F) W) (HR : d.C W A m ys) (hKM : ∀ x cs, d.K W x cs → d.M W 0 (fun _ => False) x cs) (hl : (xs.length + m) * bytes ≤ 140737488355328)
    (h : ∀ v1 w1, Sep w0 ok0 (row d e v1 (xs ++ ys) ⋆ F) w1 → wpList P ops Q rest (a.put o.dst v1) w1) : wpList P ops Q (o :: rest) a W := by
  obtain ⟨ok, hr, hh⟩ := sep_grown HS
  exact Kd.R_append_rows d (Rr := d.K W) (w0 := W) 0 hgd s x t e z bytes ho ht hinfo hz hs0 hb0 v xs ys A m c (fun k => ok k ∨ W.heap.size ≤ k) (fun _ => False) hs hx (Kd.R_mono hr (fun k hk => .inl hk)) HR hKM (fun _ h => h.elim) (fun k hk => .inr hk) (Below.refl _ _) (Nat.zero_le _) hl (fun v1 w1 hr1 hb hg _ => h v1 w1 (hh v1 w1 _ hr1 hb hg))
theorem sep_empty {d : Kd α} {e : Nat} (h : Sep w0 ok0 F W) : Sep w0 ok0 (row d e (.slice (some ⟨W.heap.size, 0, none⟩) 0 0) [] ⋆ F) (W.alloc (.cells #[] e (0, 0))) := by
  refine sep_new (A := row d e _ []) (ok := fun k => k = W.heap.size) h (below_alloc (Below.refl _ _) _) ⟨fun k hk => ?_, [], ⟨by simp, .inr ⟨W.heap.size, 0, #[], rfl, Nat.zero_le _, blk_new W _, Nat.le_refl _, by decide, by simp, by simp⟩⟩, Reps.none _ _⟩ (fun k hk => by omega)
  have : W.heap.size = k := by simpa [Value.ownBlock] using hk
  exact this.symm
end
theorem item_Clone (A : Option Addr) (c : Nat) (l : List It) (w : World) (hC : itK.C w A l.length l) (hc : l.length ≤ c) (hl : l.length ≤ 1000000) :
    Calls Try.prog 31 #[.slice A l.length c] w fun e w' => ∃ v, e = .returned v ∧ Sep w (fun _ => False) (row itK 35 v l ⋆ emp) w' := by
  have HS := Aside0.mk (sep_start w)
  have HC := Aside0.mk hC
  have HL := Aside0.mk hl
  have hnil : ∀ (w : World) (a : Option Addr) (n c n' c' : Nat), (Go.binOp .eql 45 (.slice a n c) (.slice none n' c')).run Try.prog w = .ok (.bool a.isNone) w := fun w a n c n' c' => Lib.run_eql_slice_nil w _ _ a n c n' c' Try.underlying45
  cases A with
  | none =>
    have h0 : l = [] := by
      cases l with
      | nil => rfl
      | cons x r => obtain ⟨ad, h, _⟩ := hC.2.2 (by simp); cases h
    subst h0
    clear hC hc hl
    go_enter Try.func31, Try.ntmps31
    go_wp2
    go_ret
    exact ⟨_, rfl, sep_row_nil HS.out⟩
  | some ad =>
    clear hC hc hl
    go_enter Try.func31, Try.ntmps31
    go_wp2_with ((with_reducible refine gate_builtin (b := .append) (xs := #[.tmp 5, .tmp 6]) rfl ?_); at_builtin; refine wp_append_rows itK rfl (.tmp 5) (.tmp 6) 45 35 z35 40 rfl Try.underlying45 info35 rfl (by decide) (by decide) _ [] l (some ad) l.length c (by rfl) (by rfl) (sep_empty HS.out) (Kd.C_alloc HC.out _) (fun x cs hk => by rw [itK_open hk]; exact itK_M _ _ _ _) (by have := HL.out; simp only [List.length_nil]; omega) ?_; intro v1 w1 n_; clear HS; have HS := Aside0.mk n_; clear n_)
    go_ret
    exact ⟨_, rfl, HS.out⟩
theorem bag_Items (p : Nat) (l : List It) (room : Int) (w : World) (ok : Nat → Prop) (hl : l.length ≤ 1000000) (h : (bagA p l room ⋆ emp).H w ok) :
    Calls Try.prog 16 #[.pointer (some ⟨p, 0, none⟩)] w fun e w' => ∃ v, e = .returned v ∧ Sep w ok (row itK 35 v l ⋆ bagA p l room ⋆ emp) w' := by
  obtain ⟨v, hs⟩ := bag_open (sep_begin h)
  obtain ⟨A, c, rfl, hc, hC⟩ := sep_row (sep_l1 hs)
  have HS := Aside0.mk hs
  have HC := Aside0.mk hC
  have HCC := Aside0.mk hc
  have HL := Aside0.mk hl
  obtain ⟨b1, b2, b3⟩ := facts2 hs
  clear hs hC hc h hl
  go_enter Try.func16, Try.ntmps16
  go_wp2_with (go_at_call 31; have hx_ := item_Clone A c l _ HC.out HCC.out HL.out; (with_reducible refine Calls.mono hx_ ?_); rintro e w5 ⟨v5_, rfl, hq_⟩; have n_ := sep_made_of HS.out (sep_only hq_); clear hx_ hq_ HS; have HS := Aside0.mk n_; clear n_)
  go_ret
  refine ⟨_, rfl, sep_l1 (bag_mk (sep_l2 (sep_l2 HS.out)))⟩
end Go.Proofs.Ytlpiodcklacdpaa.BG
