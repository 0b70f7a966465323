/- Written by xprint.py, a program of this session: Go functions that the laws reach, each as a plain Lean function, and the proof that the Go code comes to what it says. No condition but those that each theorem names. -/
import Derived.Test.YtjlpfmiipicnoaaDoorPAx0
import Derived.WalkSpells
import Derived.WalkLawsBesides
import Derived.Laws.IdiomStrings
import Derived.Laws.BytesArg
import Derived.Test.YtjlpfmiipicnoaaDoorXAux
namespace Go.Proofs.YtjlpfmiipicnoaaDoor.PA
open Go.RowKit Go.Proofs.YtjlpfmiipicnoaaDoorW.PrintWords Go.Proofs.YtjlpfmiipicnoaaDoorW.PrintLast Go.Proofs.YtjlpfmiipicnoaaDoorW.PrintMore
attribute [local go_sem] max2_int min2_int max_two min_two max_three min_three max_four min_four   -- for this text's walks alone
set_option linter.unusedVariables false
set_option linter.unusedSimpArgs false

/-! ### law03_bend: function 21 -/

def bendAt (a1 n : Int) : Int := Int.tmod (if a1 < 0 then wrap64 (-(wrap64 (a1 + 1))) else a1) n
def bendL (a0 : ByteArray) (m : Nat) (a2 : Int) : List Int := (a0.data.toList.map (fun c => (c.toNat : Int))).set m (Go.bits .xor .u8 ((a0.data.toList.map (fun c => (c.toNat : Int))).getD m 0) a2)
theorem bendL_length (a0 : ByteArray) (m : Nat) (a2 : Int) : (bendL a0 m a2).length = a0.size := by
 unfold bendL
 rw [List.length_set, List.length_map, Array.length_toList]
 rfl
theorem bend_x (a0 : ByteArray) (j cap : Nat) (h : j < a0.size) : (bytesRow a0 cap)[j]? = some (.int .u8 ((a0.data.toList.map (fun c => (c.toNat : Int))).getD j 0)) := by
 have hd : j < a0.data.size := h
 rw [bytesRow_at a0 cap j hd, List.getD_eq_getElem?_getD, List.getElem?_map, List.getElem?_eq_getElem (by rw [Array.length_toList]; exact hd)]
 simp
def law03_bend.f (a0 : ByteArray) (a1 : Int) (a2 : Int) : Option ByteArray := if a0.size = 0 then some a0 else if 0 ≤ bendAt a1 a0.size ∧ bendAt a1 a0.size < (a0.size : Int) then some (strOfNums (bendL a0 (bendAt a1 a0.size).toNat a2)) else none
set_option maxHeartbeats 8000000 in
set_option maxRecDepth 100000 in
theorem law03_bend.calls (a0 : ByteArray) (a1 : Int) (a2 : Int) (r : ByteArray) (w : World) (h : law03_bend.f a0 a1 a2 = some r) :
  Calls Tryd.prog 21 #[.string a0, .int .i64 a1, .int .u8 a2] w fun e w' => e = .returned (.string r) ∧ Below w.heap.size w w' := by
 have hconv : ∀ w : World, _ := fun w => run_bytes_of_string (P := Tryd.prog) w 9 35 5 a0 Tryd.underlying9 Tryd.underlying35 Tryd.underlying5
 unfold law03_bend.f at h
 by_cases hz : a0.size = 0
 ·rw [if_pos hz] at h
  obtain rfl := Option.some.inj h
  clear h
  have he : a0.toList = [] := by
   rw [ByteArray.toList_eq]
   exact List.eq_nil_of_length_eq_zero (by rw [Array.length_toList]; exact hz)
  have he1 : a0.toList.isEmpty = true := by rw [he]; rfl
  have he2 : (a0.toList == []) = true := by rw [he]; rfl
  go_enter Tryd.func21, Tryd.ntmps21
  go_wp2
  go_ret
  exact ⟨rfl, Below.refl _ _⟩
 rw [if_neg hz] at h
 have hne : ¬ a0.toList = [] := by
  intro e
  rw [ByteArray.toList_eq] at e
  have : a0.data.toList.length = 0 := by rw [e]; rfl
  rw [Array.length_toList] at this
  exact hz this
 have hn1 : a0.toList.isEmpty = false := by simpa using hne
 have hn2 : (a0.toList == []) = false := by simpa using hne
 by_cases hb : 0 ≤ bendAt a1 a0.size ∧ bendAt a1 a0.size < (a0.size : Int)
 case neg => rw [if_neg hb] at h; cases h
 rw [if_pos hb] at h
 obtain rfl := Option.some.inj h
 obtain ⟨h0, h1⟩ := hb
 clear h hne
 by_cases hn : a1 < 0
 ·have hd : decide (a1 < 0) = true := decide_eq_true hn
  have hM : bendAt a1 a0.size = (wrap64 (-wrap64 (a1 + 1))).tmod (a0.size : Int) := by unfold bendAt; rw [if_pos hn]
  generalize bendAt a1 a0.size = M at h0 h1 hM
  have hM' := hM.symm
  clear hM
  have h0e := eq_true h0
  have h1e := eq_true h1
  have hx := fun cap => bend_x a0 M.toNat cap (by omega)
  have hxs : ∀ i, i < a0.size → i ≠ M.toNat → (bendL a0 M.toNat a2).getD i 0 = (a0.data.toList.map (fun c => (c.toNat : Int))).getD i 0 := fun i hi hne => by
   unfold bendL
   rw [List.getD_eq_getElem?_getD, List.getElem?_set_ne (fun e => hne e.symm), ← List.getD_eq_getElem?_getD]
  have hxm : (bendL a0 M.toNat a2).getD M.toNat 0 = Go.bits .xor .u8 ((a0.data.toList.map (fun c => (c.toNat : Int))).getD M.toNat 0) a2 := by
   unfold bendL
   rw [List.getD_eq_getElem?_getD, List.getElem?_set_self (by rw [List.length_map, Array.length_toList]; exact (by omega : M.toNat < a0.size))]
   rfl
  have hlen := bendL_length a0 M.toNat a2
  generalize bendL a0 M.toNat a2 = xs at hxs hxm hlen
  generalize hx0 : (a0.data.toList.map (fun c => (c.toNat : Int))).getD M.toNat 0 = x at hx hxm
  have hcell : ∀ (w : World) cap fr, (w.alloc (.cells (bytesRow a0 cap) 5 fr)).cell? ⟨w.heap.size, M.toNat, none⟩ = some (.int .u8 x) := fun w cap fr => (World.cell?_alloc_mark w _ 5 fr M.toNat).trans (hx cap)
  have hfz : ∀ (w : World) cap, (w.alloc (.cells (bytesRow a0 cap) 5 ((bytesRow a0 cap).size, (bytesRow a0 cap).size + 1))).frozen? ⟨w.heap.size, M.toNat, none⟩ = false := fun w cap => by
   have hb : M.toNat < (bytesRow a0 cap).size := (Array.getElem?_eq_some_iff.1 (hx cap)).1
   simp only [World.alloc, World.frozen?, Array.getElem?_push_size]
   rw [decide_eq_false (by omega)]
   rfl
  have hput : ∀ (w W : World) cap fr, W.heap = ((w.alloc (.cells (bytesRow a0 cap) 5 fr)).setCell ⟨w.heap.size, M.toNat, none⟩ (.int .u8 (Go.bits .xor .u8 x a2))).heap → (convert 35 9 (.slice (some ⟨w.heap.size, 0, none⟩) a0.size cap)).run Tryd.prog W = .ok (.string (strOfNums xs)) W := fun w W cap fr hW => by
   refine run_convert_bytes_arg W 35 5 Tryd.underlying35 Tryd.underlying5 _ 0 a0.size cap xs hlen (fun i hi => ?_) 9 Tryd.underlying9
   have hWc : ∀ p, W.cell? p = ((w.alloc (.cells (bytesRow a0 cap) 5 fr)).setCell ⟨w.heap.size, M.toNat, none⟩ (.int .u8 (Go.bits .xor .u8 x a2))).cell? p := fun p => by simp only [World.cell?, hW]
   rw [hWc, Nat.zero_add]
   by_cases e : i = M.toNat
   ·subst e
    rw [World.cell?_setCell_same _ _ _ (hcell w cap fr), hxm]
   ·rw [World.cell?_setCell_other _ _ _ _ (by intro e_; injection e_ with _ e_ _; exact e e_.symm), World.cell?_alloc_mark, bend_x a0 i cap hi, hxs i hi e]
  have hp0 := fun (w : World) cap fr => hput w _ cap fr rfl
  have hp1 := fun (w : World) cap fr => hput w ((w.alloc (.cells (bytesRow a0 cap) 5 fr)).setCell ⟨w.heap.size, M.toNat, none⟩ (.int .u8 (Go.bits .xor .u8 x a2))).drew cap fr rfl
  have hp2 := fun (w : World) cap fr => hput w ((w.alloc (.cells (bytesRow a0 cap) 5 fr)).setCell ⟨w.heap.size, M.toNat, none⟩ (.int .u8 (Go.bits .xor .u8 x a2))).drew.drew cap fr rfl
  clear hput hxs hxm
  go_enter Tryd.func21, Tryd.ntmps21
  go_upto_region 6 with (fail)
  go_region
  all_goals (go_upto_region 7 with (fail))
  all_goals go_wp2
  all_goals go_ret
  all_goals exact ⟨rfl, by repeat (first | exact Below.refl _ _ | apply below_alloc | apply below_drew1 | apply pw_below_drewN | refine below_set ?_ (Nat.le_refl _))⟩
 ·have hd : decide (a1 < 0) = false := decide_eq_false hn
  have hM : bendAt a1 a0.size = (a1).tmod (a0.size : Int) := by unfold bendAt; rw [if_neg hn]
  generalize bendAt a1 a0.size = M at h0 h1 hM
  have hM' := hM.symm
  clear hM
  have h0e := eq_true h0
  have h1e := eq_true h1
  have hx := fun cap => bend_x a0 M.toNat cap (by omega)
  have hxs : ∀ i, i < a0.size → i ≠ M.toNat → (bendL a0 M.toNat a2).getD i 0 = (a0.data.toList.map (fun c => (c.toNat : Int))).getD i 0 := fun i hi hne => by
   unfold bendL
   rw [List.getD_eq_getElem?_getD, List.getElem?_set_ne (fun e => hne e.symm), ← List.getD_eq_getElem?_getD]
  have hxm : (bendL a0 M.toNat a2).getD M.toNat 0 = Go.bits .xor .u8 ((a0.data.toList.map (fun c => (c.toNat : Int))).getD M.toNat 0) a2 := by
   unfold bendL
   rw [List.getD_eq_getElem?_getD, List.getElem?_set_self (by rw [List.length_map, Array.length_toList]; exact (by omega : M.toNat < a0.size))]
   rfl
  have hlen := bendL_length a0 M.toNat a2
  generalize bendL a0 M.toNat a2 = xs at hxs hxm hlen
  generalize hx0 : (a0.data.toList.map (fun c => (c.toNat : Int))).getD M.toNat 0 = x at hx hxm
  have hcell : ∀ (w : World) cap fr, (w.alloc (.cells (bytesRow a0 cap) 5 fr)).cell? ⟨w.heap.size, M.toNat, none⟩ = some (.int .u8 x) := fun w cap fr => (World.cell?_alloc_mark w _ 5 fr M.toNat).trans (hx cap)
  have hfz : ∀ (w : World) cap, (w.alloc (.cells (bytesRow a0 cap) 5 ((bytesRow a0 cap).size, (bytesRow a0 cap).size + 1))).frozen? ⟨w.heap.size, M.toNat, none⟩ = false := fun w cap => by
   have hb : M.toNat < (bytesRow a0 cap).size := (Array.getElem?_eq_some_iff.1 (hx cap)).1
   simp only [World.alloc, World.frozen?, Array.getElem?_push_size]
   rw [decide_eq_false (by omega)]
   rfl
  have hput : ∀ (w W : World) cap fr, W.heap = ((w.alloc (.cells (bytesRow a0 cap) 5 fr)).setCell ⟨w.heap.size, M.toNat, none⟩ (.int .u8 (Go.bits .xor .u8 x a2))).heap → (convert 35 9 (.slice (some ⟨w.heap.size, 0, none⟩) a0.size cap)).run Tryd.prog W = .ok (.string (strOfNums xs)) W := fun w W cap fr hW => by
   refine run_convert_bytes_arg W 35 5 Tryd.underlying35 Tryd.underlying5 _ 0 a0.size cap xs hlen (fun i hi => ?_) 9 Tryd.underlying9
   have hWc : ∀ p, W.cell? p = ((w.alloc (.cells (bytesRow a0 cap) 5 fr)).setCell ⟨w.heap.size, M.toNat, none⟩ (.int .u8 (Go.bits .xor .u8 x a2))).cell? p := fun p => by simp only [World.cell?, hW]
   rw [hWc, Nat.zero_add]
   by_cases e : i = M.toNat
   ·subst e
    rw [World.cell?_setCell_same _ _ _ (hcell w cap fr), hxm]
   ·rw [World.cell?_setCell_other _ _ _ _ (by intro e_; injection e_ with _ e_ _; exact e e_.symm), World.cell?_alloc_mark, bend_x a0 i cap hi, hxs i hi e]
  have hp0 := fun (w : World) cap fr => hput w _ cap fr rfl
  have hp1 := fun (w : World) cap fr => hput w ((w.alloc (.cells (bytesRow a0 cap) 5 fr)).setCell ⟨w.heap.size, M.toNat, none⟩ (.int .u8 (Go.bits .xor .u8 x a2))).drew cap fr rfl
  have hp2 := fun (w : World) cap fr => hput w ((w.alloc (.cells (bytesRow a0 cap) 5 fr)).setCell ⟨w.heap.size, M.toNat, none⟩ (.int .u8 (Go.bits .xor .u8 x a2))).drew.drew cap fr rfl
  clear hput hxs hxm
  go_enter Tryd.func21, Tryd.ntmps21
  go_upto_region 6 with (fail)
  go_region
  all_goals (go_upto_region 7 with (fail))
  all_goals go_wp2
  all_goals go_ret
  all_goals exact ⟨rfl, by repeat (first | exact Below.refl _ _ | apply below_alloc | apply below_drew1 | apply pw_below_drewN | refine below_set ?_ (Nat.le_refl _))⟩

end Go.Proofs.YtjlpfmiipicnoaaDoor.PA
