/- slices.BinarySearch and slices.Insert at []int, out of the kit's proved contracts, over separate blocks. Conditions: those that each theorem names. -/
import Derived.Shelf.Slices.SearchI
import Derived.Shelf.Slices.Empties
import Derived.Shelf.Spec.SlicesInsertGrow
import Derived.Test.YthoppcefadopeaaDB
namespace Go.Proofs.Ythoppcefadopeaa.DW
set_option linter.unusedVariables false
set_option linter.unusedSimpArgs false
open Go Go.RowKit Go.Shelf Go.Proofs Go.Proofs.YthoppcefadopeaaS Go.Proofs.YthoppcefadopeaaS.Asn Go.Proofs.Ythoppcefadopeaa.PA Go.Proofs.YthoppcefadopeaaW.PrintWords Go.Proofs.YthoppcefadopeaaW.PrintLast Go.Proofs.YthoppcefadopeaaW.PrintMore
def laysNm225_ren : Go.Shelf.Ren := ⟨fun | 25 => 25 | 31 => 34 | 32 => 35 | 37 => 39 | n => n, fun | 22 => 51 | 3 => 3 | 4 => 4 | 40 => 34 | 0 => 0 | n => n, fun | n => n⟩
theorem laysNm225 : Go.Proofs.Lays2.n25 Try.prog laysNm225_ren := {
  mixed := by kernel_rfl
  f25 := Try.func25.trans (congrArg some (by kernel_rfl))
  f31 := Try.func34.trans (congrArg some (by kernel_rfl))
  f32 := Try.func35.trans (congrArg some (by kernel_rfl))
  f37 := Try.func39.trans (congrArg some (by kernel_rfl))
  t0 := Try.underlying0
  a0 := Try.isAgg0
  z0 := Try.sizeOf0
  v0 := Try.zeroValue0
  t3 := Try.underlying3
  a3 := Try.isAgg3
  z3 := Try.sizeOf3
  v3 := Try.zeroValue3
  t4 := Try.underlying4
  a4 := Try.isAgg4
  z4 := Try.sizeOf4
  v4 := Try.zeroValue4
  t22 := Try.underlying51
  a22 := Try.isAgg51
  z22 := Try.sizeOf51
  v22 := Try.zeroValue51
  t40 := Try.underlying34
  a40 := Try.isAgg34
  z40 := Try.sizeOf34
  v40 := Try.zeroValue34 }
def laysNm221_ren : Go.Shelf.Ren := ⟨fun | 21 => 26 | 27 => 36 | 28 => 37 | 35 => 40 | 39 => 41 | n => n, fun | 22 => 51 | 3 => 3 | 4 => 4 | 0 => 0 | n => n, fun | n => n⟩
theorem laysNm221 : Go.Proofs.Lays2.n21 Try.prog laysNm221_ren := {
  mixed := by kernel_rfl
  f21 := Try.func26.trans (congrArg some (by kernel_rfl))
  f27 := Try.func36.trans (congrArg some (by kernel_rfl))
  f28 := Try.func37.trans (congrArg some (by kernel_rfl))
  f35 := Try.func40.trans (congrArg some (by kernel_rfl))
  f39 := Try.func41.trans (congrArg some (by kernel_rfl))
  t0 := Try.underlying0
  a0 := Try.isAgg0
  z0 := Try.sizeOf0
  v0 := Try.zeroValue0
  t3 := Try.underlying3
  a3 := Try.isAgg3
  z3 := Try.sizeOf3
  v3 := Try.zeroValue3
  t4 := Try.underlying4
  a4 := Try.isAgg4
  z4 := Try.sizeOf4
  v4 := Try.zeroValue4
  t22 := Try.underlying51
  a22 := Try.isAgg51
  z22 := Try.sizeOf51
  v22 := Try.zeroValue51
  i3 := by kernel_rfl }
/-! ## rows of whole numbers as blocks -/
section
variable {w w1 w0 : World} {ok ok0 : Nat → Prop} {F : Asn} {g n c : Nat} {cur : Array Value} {xs : List Int} {t : TypeId}
theorem ints_pt (h : (row (Kd.int .i64) 3 (.slice (some ⟨g, 0, none⟩) n c) xs).H w ok) :
    ∃ cur : Array Value, (pt g cur 3).H w ok ∧ n = xs.length ∧ n ≤ c ∧ c ≤ maxLen ∧ cur.size = c ∧ cur.toList.take n = xs.map (Value.int .i64) := by
  obtain ⟨hok, inner, ⟨hlen, hform⟩, hr1, hr2⟩ := h
  rcases hform with ⟨he, _⟩ | ⟨g', cap, cur, he, hb, hg, hnc, hcm, hcs, htk⟩
  · cases he
  · cases he
    refine ⟨cur, ⟨hok g rfl, hg⟩, rfl, hnc, hcm, by rw [hcs]; exact Nat.mul_one _, ?_⟩
    rw [show xs.length * (Kd.int .i64).sz = xs.length from Nat.mul_one _] at htk
    rw [htk]
    apply List.ext_getElem?
    intro j
    rw [List.getElem?_map]
    cases hx : xs[j]? with
    | none =>
      have : xs.length ≤ j := List.getElem?_eq_none_iff.1 hx
      rw [List.getElem?_eq_none (by rw [hlen, show xs.length * (Kd.int .i64).sz = xs.length from Nat.mul_one _]; exact this)]
      rfl
    | some x =>
      have h1 : (inner.drop (j * 1)).take 1 = [Value.int .i64 x] := hr2 j x hx
      rw [Nat.mul_one] at h1
      have h2 := congrArg (fun l => l[0]?) h1
      simp only [List.getElem?_take_of_lt Nat.one_pos, List.getElem?_drop, Nat.add_zero] at h2
      rw [h2]
      rfl
theorem pt_ints (h : (pt g cur 3).H w ok) (hc : cur.size = c) (hcm : c ≤ maxLen) (hn : xs.length ≤ c) (hx : cur.toList.take xs.length = xs.map (Value.int .i64)) :
    (row (Kd.int .i64) 3 (.slice (some ⟨g, 0, none⟩) xs.length c) xs).H w ok := by
  refine ⟨fun k hk => ?_, xs.map (Value.int .i64), ⟨by rw [List.length_map]; exact (Nat.mul_one _).symm, .inr ⟨g, c, cur, rfl, Nat.zero_le _, h.2, hn, hcm, hc.trans (Nat.mul_one _).symm, by rw [show xs.length * (Kd.int .i64).sz = xs.length from Nat.mul_one _]; exact hx⟩⟩, by rw [List.length_map]; exact (Nat.mul_one _).symm, fun j p hp => ?_⟩
  · have : g = k := by simpa [Value.ownBlock] using hk
    rw [← this]; exact h.1
  · show _ = [Value.int .i64 p]
    obtain ⟨hj, rfl⟩ := List.getElem?_eq_some_iff.1 hp
    rw [show j * (Kd.int .i64).sz = j from Nat.mul_one _, List.drop_eq_getElem_cons (by simpa using hj)]
    simp [Kd.int, Kd.scalar]
def setL : Array Value → Nat → List Value → Array Value
  | cur, _, [] => cur
  | cur, o, v :: r => setL (cur.setIfInBounds o v) (o + 1) r
theorem sep_setCells : ∀ (vs : List Value) (o : Nat) {w : World} {cur : Array Value}, Sep w0 ok0 (pt g cur t ⋆ F) w → Sep w0 ok0 (pt g (setL cur o vs) t ⋆ F) (w.setCells g o vs)
  | [], _, _, _, h => h
  | v :: r, o, _, _, h => sep_setCells r (o + 1) (sep_set h o v)
theorem setL_list : ∀ (vs : List Value) (o : Nat) (cur : Array Value), o + vs.length ≤ cur.size → (setL cur o vs).toList = cur.toList.take o ++ vs ++ cur.toList.drop (o + vs.length)
  | [], o, cur, h => by
    show cur.toList = _
    rw [List.append_nil, List.length_nil, Nat.add_zero, List.take_append_drop]
  | v :: r, o, cur, h => by
    rw [List.length_cons] at h
    show (setL (cur.setIfInBounds o v) (o + 1) r).toList = _
    rw [setL_list r (o + 1) _ (by rw [Array.size_setIfInBounds]; omega), Array.toList_setIfInBounds, List.set_eq_take_append_cons_drop, if_pos (by rw [Array.length_toList]; omega)]
    have hl : (cur.toList.take o).length = o := by rw [List.length_take, Array.length_toList]; omega
    have e1 : List.take (o + 1) (cur.toList.take o ++ v :: cur.toList.drop (o + 1)) = cur.toList.take o ++ [v] := by
      have := List.take_length_add_append (l₁ := cur.toList.take o) (l₂ := v :: cur.toList.drop (o + 1)) 1
      rw [hl] at this
      rw [this]
      rfl
    have e2 : List.drop (o + 1 + r.length) (cur.toList.take o ++ v :: cur.toList.drop (o + 1)) = cur.toList.drop (o + (v :: r).length) := by
      have := List.drop_length_add_append (l₁ := cur.toList.take o) (l₂ := v :: cur.toList.drop (o + 1)) (1 + r.length)
      rw [hl] at this
      rw [show o + 1 + r.length = o + (1 + r.length) by omega, this, show 1 + r.length = r.length + 1 by omega, List.drop_succ_cons, List.drop_drop, List.length_cons]
      congr 1
      omega
    rw [e1, e2, List.append_assoc, List.append_assoc, List.append_assoc]
    rfl
theorem setL_size : ∀ (vs : List Value) (o : Nat) (cur : Array Value), (setL cur o vs).size = cur.size
  | [], _, _ => rfl
  | v :: r, o, cur => by
    show (setL (cur.setIfInBounds o v) (o + 1) r).size = _
    rw [setL_size r, Array.size_setIfInBounds]
end
theorem add_at (g i : Nat) : (⟨g, 0, none⟩ : Addr).add i = ⟨g, i, none⟩ := by rw [Addr.add_mid, Nat.zero_add]
theorem row_addr {α : Type} {d : Kd α} {e : Nat} {w0 w : World} {ok0 : Nat → Prop} {F : Asn} {A : Option Addr} {n c : Nat} {xs : List α} (h : Sep w0 ok0 (row d e (.slice A n c) xs ⋆ F) w) (hp : 0 < xs.length) : ∃ g, A = some ⟨g, 0, none⟩ := by
  obtain ⟨_, _, ⟨_, _, hr, _⟩, _⟩ := h
  obtain ⟨g, cap, he, -⟩ := Kd.R_form hr (by omega)
  cases he
  exact ⟨g, rfl⟩
theorem bs (A : Option Addr) (c : Nat) (xs : List Int) (x : Int) (w : World) (ok : Nat → Prop) (hs : xs.Pairwise (· < ·)) (hl : xs.length ≤ 1000) (h : (row (Kd.int .i64) 3 (.slice A xs.length c) xs ⋆ emp).H w ok) :
    Calls Try.prog 25 #[.slice A xs.length c, .int .i64 x] w fun e w' => e = .returned (.tuple #[.int .i64 (pos xs x : Nat), .bool (xs.contains x)]) ∧ Below w.heap.size w w' := by
  have HS := sep_begin h
  rcases Nat.eq_zero_or_pos xs.length with h0 | h0
  · obtain rfl := List.eq_nil_of_length_eq_zero h0
    have hx : Calls Try.prog 25 #[.slice A 0 c, .int .i64 x] w fun e w' => e = .returned (.tuple #[.int .i64 0, .bool false]) ∧ w' = w := Any.slices_BinarySearch_int_empty laysNm225 A c x w
    refine hx.mono ?_
    rintro e w' ⟨rfl, rfl⟩
    exact ⟨rfl, Below.refl _ _⟩
  · obtain ⟨g, rfl⟩ := row_addr HS h0
    have hx : Calls Try.prog 25 #[.slice (some ⟨g, 0, none⟩) xs.length c, .int .i64 x] w fun e w' => e = .returned (.tuple #[.int .i64 ((xs.take xs.length).countP (· < x) : Nat), .bool ((xs.take xs.length).contains x)]) ∧ ∃ q, w' = w.drewN q :=
      Any.slices_BinarySearch_int laysNm225 g 0 xs.length c xs x w (Nat.le_refl _) (by omega) (fun j hj => by
        obtain ⟨ad, he, hc⟩ := Kd.at_int (sep_row' HS).2.2 (j : Int) (Int.natCast_nonneg j) (Int.ofNat_lt.2 hj)
        cases he
        rw [Int.toNat_natCast, add_at] at hc
        rw [Nat.zero_add, hc]
        unfold rd
        rw [Int.toNat_natCast]) (by rw [List.take_length]; exact hs.imp (fun h => Int.le_of_lt h))
    refine hx.mono ?_
    rw [List.take_length]
    rintro e w' ⟨rfl, q, rfl⟩
    exact ⟨rfl, pw_below_drewN (Below.refl _ _) q⟩
theorem zeros1 (n : Nat) : (Builtin.zeroCells (Value.int .i64 0).cells n).size = n := by rw [size_zeroCells]; exact Nat.mul_one n
/-- Insert. -/
theorem insert (A : Option Addr) (c : Nat) (xs : List Int) (i : Nat) (x : Int) (vb : Nat) (w : World) (ok : Nat → Prop) (hi : i ≤ xs.length) (hl : xs.length ≤ 1000) (h : (row (Kd.int .i64) 3 (.slice A xs.length c) xs ⋆ pt vb #[.int .i64 x] 3 ⋆ emp).H w ok) :
    Calls Try.prog 26 #[.slice A xs.length c, .int .i64 (i : Int), .slice (some ⟨vb, 0, none⟩) 1 1] w fun e w' => ∃ v, e = .returned v ∧ Sep w ok (row (Kd.int .i64) 3 v (xs.take i ++ [x] ++ xs.drop i) ⋆ emp) w' := by
  have HS := sep_begin h
  have hvc := sep_cell (sep_l1 HS) 0
  have hvp := sep_pt (sep_l1 HS)
  have hvf := fun j => sep_frozen (sep_l1 HS) j
  have hvs : ∀ (j : Nat) (v : Value), [Value.int .i64 x][j]? = some v → w.cell? ⟨vb, 0 + j, none⟩ = some v := by
    intro j v hj
    cases j with
    | zero => rw [Nat.zero_add, hvc]; exact hj
    | succ j => simp at hj
  have h1v : ∀ v ∈ [Value.int .i64 x], v.oneCell' = true := fun v hv => by rw [List.mem_singleton.1 hv]; rfl
  have h1c : ∀ v ∈ xs.map (Value.int .i64), v.oneCell' = true := fun v hv => by obtain ⟨y, -, rfl⟩ := List.mem_map.1 hv; rfl
  have hn0 : (xs.take i ++ [x] ++ xs.drop i).length = xs.length + 1 := by simp only [List.length_append, List.length_take, List.length_drop, List.length_singleton]; omega
  obtain ⟨_, hcx, hCx⟩ := sep_row' HS
  have hcm : c ≤ maxLen := by
    rcases Nat.eq_zero_or_pos xs.length with h0 | h0
    · obtain ⟨_, _, ⟨_, _, hr, _⟩, _⟩ := HS
      obtain ⟨-, inner, ⟨-, hform⟩, -⟩ := hr
      rcases hform with ⟨he, -⟩ | ⟨g', cap, cur, he, -, -, -, hcm, -⟩
      · injection he with _ _ h3; rw [h3]; decide
      · injection he with _ _ h3; rw [h3]; exact hcm
    · obtain ⟨g, rfl⟩ := row_addr HS h0
      obtain ⟨_, _, ⟨_, _, hr, _⟩, _⟩ := HS
      obtain ⟨-, -, -, -, hcm, -⟩ := ints_pt hr
      exact hcm
  by_cases hroom : xs.length + 1 ≤ c
  · have hA : ∃ g, A = some ⟨g, 0, none⟩ := by
      obtain ⟨_, _, ⟨_, _, hr, _⟩, _⟩ := HS
      obtain ⟨-, inner, ⟨-, hform⟩, -⟩ := hr
      rcases hform with ⟨he, -⟩ | ⟨g', cap, cur, he, -⟩
      · injection he with _ _ h3; omega
      · injection he with h1; exact ⟨g', h1⟩
    obtain ⟨g, rfl⟩ := hA
    obtain ⟨o_, ok1, ⟨p1, p2, hr, hF, hd, k1, k2⟩, hk⟩ := HS
    obtain ⟨cur, hpt, -, -, -, hcs, htk⟩ := ints_pt hr
    have HP : Sep w ok (pt g cur 3 ⋆ pt vb #[.int .i64 x] 3 ⋆ emp) w := ⟨o_, ok1, ⟨p1, p2, hpt, hF, hd, k1, k2⟩, hk⟩
    have hne : vb ≠ g := fun he => by subst he; obtain ⟨q1, q2, hq, -, -, hq1, -⟩ := hF; exact hd vb hpt.1 (hq1 _ hq.1)
    have hcell : ∀ (j : Nat) (v : Value), (xs.map (Value.int .i64))[j]? = some v → w.cell? ⟨g, 0 + j, none⟩ = some v := by
      intro j v hj
      rw [← htk] at hj
      have hjn : j < xs.length := by
        rcases Nat.lt_or_ge j xs.length with h | h
        · exact h
        · rw [List.getElem?_take_eq_none h] at hj; cases hj
      rw [List.getElem?_take_of_lt hjn, Array.getElem?_toList] at hj
      rw [Nat.zero_add, sep_cell HP, hj]
    have hsome : ∀ j, j < xs.length + 1 → (w.cell? ⟨g, 0 + j, none⟩).isSome = true := by
      intro j hj
      rw [Nat.zero_add, sep_cell HP, Array.getElem?_eq_getElem (by omega)]
      rfl
    by_cases hin : i < xs.length
    · have hx : Calls Try.prog 26 #[.slice (some ⟨g, 0, none⟩) xs.length c, .int .i64 (i : Int), .slice (some ⟨vb, 0, none⟩) 1 1] w fun e w' =>
          e = .returned (.slice (some ⟨g, 0, none⟩) (xs.length + 1) c) ∧ w' = (w.drew.setCells g (0 + (i + 1)) ((xs.map (Value.int .i64)).drop i)).setCells g (0 + i) [Value.int .i64 x] :=
        Any2.slices_Insert_int_shift laysNm221 g 0 xs.length c i vb 0 1 1 (xs.map (Value.int .i64)) [Value.int .i64 x] w hin (by decide) hroom (by unfold maxLen at hcm; omega) hne (by simp) rfl hcell hsome (fun j _ => sep_frozen HP _) hvs h1c h1v 3 3 1 cur.size
          (by unfold World.shape?; rw [hvp]; rfl) (by unfold World.shape?; rw [sep_pt HP]) (by omega) (hvf 0) (hvf 1)
      refine hx.mono ?_
      rintro e w' ⟨rfl, rfl⟩
      have n1 := sep_setCells [Value.int .i64 x] (0 + i) (sep_setCells ((xs.map (Value.int .i64)).drop i) (0 + (i + 1)) (sep_drew HP))
      refine ⟨_, rfl, ?_⟩
      rw [← hn0]
      have n2 := sep_rest (sep_only n1)
      refine sep_head n2 (fun ok hh => pt_ints hh (by rw [setL_size, setL_size]; exact hcs) hcm (by omega) ?_)
      have hL : cur.toList.length = c := by rw [Array.length_toList]; exact hcs
      have hX : (xs.map (Value.int .i64)).length = xs.length := List.length_map _
      rw [setL_list _ _ _ (by rw [setL_size, List.length_singleton]; omega), setL_list _ _ _ (by rw [List.length_drop, hX]; omega), hn0]
      simp only [Nat.zero_add]
      have hD : ((xs.map (Value.int .i64)).drop i).length = xs.length - i := by rw [List.length_drop, hX]
      have e1 : (List.take (i + 1) cur.toList ++ (xs.map (Value.int .i64)).drop i ++ List.drop (i + 1 + ((xs.map (Value.int .i64)).drop i).length) cur.toList).take i = (xs.map (Value.int .i64)).take i := by
        rw [List.append_assoc, List.take_append_of_le_length (by rw [List.length_take]; omega), List.take_take, ← htk, List.take_take]
        congr 1
        omega
      have e2 : (List.take (i + 1) cur.toList ++ (xs.map (Value.int .i64)).drop i ++ List.drop (i + 1 + ((xs.map (Value.int .i64)).drop i).length) cur.toList).drop (i + [Value.int .i64 x].length) = (xs.map (Value.int .i64)).drop i ++ List.drop (i + 1 + ((xs.map (Value.int .i64)).drop i).length) cur.toList := by
        have := List.drop_length_add_append (l₁ := List.take (i + 1) cur.toList) (l₂ := (xs.map (Value.int .i64)).drop i ++ List.drop (i + 1 + ((xs.map (Value.int .i64)).drop i).length) cur.toList) 0
        rw [List.length_take, Nat.min_eq_left (by omega), Nat.add_zero, List.drop_zero] at this
        rw [List.append_assoc, List.length_singleton]
        exact this
      rw [e1, e2, List.map_append, List.map_append, List.map_take, List.map_drop]
      rw [← List.append_assoc, List.take_append_of_le_length (by simp only [List.length_append, List.length_take, List.length_drop, List.length_singleton, hX]; omega)]
      rw [List.take_of_length_le (by simp only [List.length_append, List.length_take, List.length_drop, List.length_singleton, hX]; omega)]
      rfl
    · obtain rfl : i = xs.length := by omega
      have hx : Calls Try.prog 26 #[.slice (some ⟨g, 0, none⟩) xs.length c, .int .i64 (xs.length : Int), .slice (some ⟨vb, 0, none⟩) 1 1] w fun e w' =>
          e = .returned (.slice (some ⟨g, 0, none⟩) (xs.length + 1) c) ∧ w' = w.setCells g (0 + xs.length) [Value.int .i64 x] :=
        Any2.slices_Insert_int_end_room laysNm221 g 0 xs.length c vb 0 1 1 [Value.int .i64 x] w (by decide) hroom (by unfold maxLen at hcm; omega) rfl (fun j hj => by have := hsome (xs.length + j) (by omega); rw [← Nat.add_assoc] at this; exact this) (fun j _ => sep_frozen HP _) hvs h1v
      refine hx.mono ?_
      rintro e w' ⟨rfl, rfl⟩
      have n1 := sep_setCells [Value.int .i64 x] (0 + xs.length) HP
      refine ⟨_, rfl, ?_⟩
      rw [← hn0]
      have n2 := sep_rest (sep_only n1)
      refine sep_head n2 (fun ok hh => pt_ints hh (by rw [setL_size]; exact hcs) hcm (by omega) ?_)
      rw [setL_list _ _ _ (by rw [List.length_singleton]; omega), hn0, List.take_length, List.drop_length, List.append_nil, Nat.zero_add, htk, List.map_append]
      rw [List.take_append_of_le_length (by simp only [List.length_append, List.length_map, List.length_singleton]; omega)]
      rw [List.take_of_length_le (by simp only [List.length_append, List.length_map, List.length_singleton]; omega)]
      rfl
  · by_cases hin : i < xs.length
    · obtain ⟨g, rfl⟩ := row_addr HS (by omega)
      obtain ⟨o_, ok1, ⟨p1, p2, hr, hF, hd, k1, k2⟩, hk⟩ := HS
      obtain ⟨cur, hpt, -, -, -, hcs, htk⟩ := ints_pt hr
      have HP : Sep w ok (pt g cur 3 ⋆ pt vb #[.int .i64 x] 3 ⋆ emp) w := ⟨o_, ok1, ⟨p1, p2, hpt, hF, hd, k1, k2⟩, hk⟩
      have hcell : ∀ (j : Nat) (v : Value), (xs.map (Value.int .i64))[j]? = some v → w.cell? ⟨g, 0 + j, none⟩ = some v := by
        intro j v hj
        rw [← htk] at hj
        have hjn : j < xs.length := by
          rcases Nat.lt_or_ge j xs.length with h | h
          · exact h
          · rw [List.getElem?_take_eq_none h] at hj; cases hj
        rw [List.getElem?_take_of_lt hjn, Array.getElem?_toList] at hj
        rw [Nat.zero_add, sep_cell HP, hj]
      have hge := grownCap_ge w (xs.length + 1) c 3
      have hgm := grownCap_le_maxLen w (xs.length + 1) c 3 (by unfold maxLen; omega)
      have hx : Calls Try.prog 26 #[.slice (some ⟨g, 0, none⟩) xs.length c, .int .i64 (i : Int), .slice (some ⟨vb, 0, none⟩) 1 1] w fun e w' =>
          e = .returned (.slice (some ⟨w.heap.size, 0, none⟩) (xs.length + 1) (grownCap w (xs.length + 1) c 3)) ∧
          w' = (((w.alloc (.cells (((xs.map (Value.int .i64)).take i).toArray ++ Builtin.zeroCells (Value.int .i64 0).cells (xs.length + 1 - i) ++ Builtin.zeroCells (Value.int .i64 0).cells (grownCap w (xs.length + 1) c 3 - (xs.length + 1))) 3)).drew.setCells w.heap.size i [Value.int .i64 x]).drew).setCells w.heap.size (i + 1) ((xs.map (Value.int .i64)).drop i) :=
        Any2.slices_Insert_int_grow laysNm221 g 0 xs.length c i vb 0 1 1 (xs.map (Value.int .i64)) [Value.int .i64 x] w hin (by decide) hcx (by omega) (by omega) (by simp) rfl hcell hvs h1c h1v
      refine hx.mono ?_
      rintro e w' ⟨rfl, rfl⟩
      generalize grownCap w (xs.length + 1) c 3 = cap at hge hgm ⊢
      have n1 := sep_setCells ((xs.map (Value.int .i64)).drop i) (i + 1) (sep_drew (sep_setCells [Value.int .i64 x] i (sep_drew (sep_alloc HP (((xs.map (Value.int .i64)).take i).toArray ++ Builtin.zeroCells (Value.int .i64 0).cells (xs.length + 1 - i) ++ Builtin.zeroCells (Value.int .i64 0).cells (cap - (xs.length + 1))) 3))))
      have hX : (xs.map (Value.int .i64)).length = xs.length := List.length_map _
      have hsz : (((xs.map (Value.int .i64)).take i).toArray ++ Builtin.zeroCells (Value.int .i64 0).cells (xs.length + 1 - i) ++ Builtin.zeroCells (Value.int .i64 0).cells (cap - (xs.length + 1))).size = cap := by
        rw [Array.size_append, Array.size_append, zeros1, zeros1, List.size_toArray, List.length_take, hX]
        omega
      have n2 := sep_rest (sep_only n1)
      have n3 : Sep w ok (row (Kd.int .i64) 3 (.slice (some ⟨w.heap.size, 0, none⟩) (xs.take i ++ [x] ++ xs.drop i).length cap) (xs.take i ++ [x] ++ xs.drop i) ⋆ emp) _ := sep_head n2 (fun ok hh => pt_ints hh (by rw [setL_size, setL_size]; exact hsz) hgm (by omega) ?_)
      · rw [hn0] at n3; exact ⟨_, rfl, n3⟩
      rw [setL_list _ _ _ (by rw [setL_size, hsz, List.length_drop, hX]; omega), setL_list _ _ _ (by rw [hsz, List.length_singleton]; omega), hn0]
      obtain ⟨Z, hZ⟩ : ∃ Z, (((xs.map (Value.int .i64)).take i).toArray ++ Builtin.zeroCells (Value.int .i64 0).cells (xs.length + 1 - i) ++ Builtin.zeroCells (Value.int .i64 0).cells (cap - (xs.length + 1))).toList = (xs.map (Value.int .i64)).take i ++ Z := ⟨_, by rw [Array.toList_append, Array.toList_append, List.append_assoc]⟩
      rw [hZ]
      have hP : ((xs.map (Value.int .i64)).take i).length = i := by rw [List.length_take, hX]; omega
      have e1 : List.take i (((xs.map (Value.int .i64)).take i) ++ Z) = (xs.map (Value.int .i64)).take i := by
        rw [List.take_append_of_le_length (by omega), List.take_of_length_le (by omega)]
      rw [e1, List.map_append, List.map_append, List.map_take, List.map_drop]
      have e2 : List.take (i + 1) ((xs.map (Value.int .i64)).take i ++ [Value.int .i64 x] ++ List.drop (i + [Value.int .i64 x].length) ((xs.map (Value.int .i64)).take i ++ Z)) = (xs.map (Value.int .i64)).take i ++ [Value.int .i64 x] := by
        rw [List.take_append_of_le_length (by rw [List.length_append, hP, List.length_singleton]; omega), List.take_of_length_le (by rw [List.length_append, hP, List.length_singleton]; omega)]
      rw [e2]
      rw [List.take_append_of_le_length (by simp only [List.length_append, hP, List.length_drop, List.length_singleton, hX]; omega)]
      rw [List.take_of_length_le (by simp only [List.length_append, hP, List.length_drop, List.length_singleton, hX]; omega)]
      rfl
    · obtain rfl : i = xs.length := by omega
      have hge := grownCap_ge w (xs.length + 1) c 3
      have hgm := grownCap_le_maxLen w (xs.length + 1) c 3 (by unfold maxLen; omega)
      have hx : Calls Try.prog 26 #[.slice A xs.length c, .int .i64 (xs.length : Int), .slice (some ⟨vb, 0, none⟩) 1 1] w fun e w' =>
          e = .returned (.slice (some ⟨w.heap.size, 0, none⟩) (xs.length + 1) (grownCap w (xs.length + 1) c 3)) ∧
          w' = w.drew.alloc (.cells ((xs.map (Value.int .i64) ++ [Value.int .i64 x]).toArray ++ Builtin.zeroCells (Value.int .i64 0).cells (grownCap w (xs.length + 1) c 3 - (xs.length + 1))) 3) :=
        Any2.slices_Insert_int_end_grow laysNm221 A xs.length c vb 0 1 1 (xs.map (Value.int .i64)) [Value.int .i64 x] w (by decide) hcx (by omega) (by omega) (by simp) rfl (fun hA => by
          rcases Nat.eq_zero_or_pos xs.length with h0 | h0
          · exact h0
          · obtain ⟨g, he⟩ := row_addr HS h0; rw [hA] at he; cases he) (fun a hA j v hj => by
          rw [List.getElem?_map] at hj
          cases hxj : xs[j]? with
          | none => rw [hxj] at hj; cases hj
          | some y =>
            rw [hxj] at hj
            cases hj
            have hjl := (List.getElem?_eq_some_iff.1 hxj).1
            obtain ⟨ad, he, hc⟩ := Kd.at_int hCx (j : Int) (Int.natCast_nonneg j) (Int.ofNat_lt.2 hjl)
            rw [hA] at he
            cases he
            rw [Int.toNat_natCast] at hc
            rw [hc]
            unfold rd
            rw [Int.toNat_natCast, List.getD_eq_getElem?_getD, hxj]
            rfl) hvs h1v
      refine hx.mono ?_
      rintro e w' ⟨rfl, rfl⟩
      generalize grownCap w (xs.length + 1) c 3 = cap at hge hgm ⊢
      have n1 := sep_alloc (sep_drew HS) ((xs.map (Value.int .i64) ++ [Value.int .i64 x]).toArray ++ Builtin.zeroCells (Value.int .i64 0).cells (cap - (xs.length + 1))) 3
      have n2 := sep_rest (sep_only n1)
      have n3 : Sep w ok (row (Kd.int .i64) 3 (.slice (some ⟨w.heap.size, 0, none⟩) (xs.take xs.length ++ [x] ++ xs.drop xs.length).length cap) (xs.take xs.length ++ [x] ++ xs.drop xs.length) ⋆ emp) _ := sep_head n2 (fun ok hh => pt_ints hh ?_ hgm (by omega) ?_)
      · rw [hn0] at n3; exact ⟨_, rfl, n3⟩
      · rw [Array.size_append, zeros1, List.size_toArray, List.length_append, List.length_map, List.length_singleton]
        omega
      · rw [Array.toList_append, hn0, List.take_length, List.drop_length, List.append_nil, List.map_append]
        rw [List.take_append_of_le_length (by simp only [List.length_append, List.length_map, List.length_singleton]; omega)]
        rw [List.take_of_length_le (by simp only [List.length_append, List.length_map, List.length_singleton]; omega)]
        rfl
end Go.Proofs.Ythoppcefadopeaa.DW
