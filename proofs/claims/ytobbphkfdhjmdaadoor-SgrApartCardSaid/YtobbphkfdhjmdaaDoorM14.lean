/-
  Actions of the call's own that are written one by one. SgrKnown: the walk.
-/
import Derived.Test.YtobbphkfdhjmdaaDoorRows
import Derived.Test.YtobbphkfdhjmdaaDoorM1
import Derived.Test.YtobbphkfdhjmdaaDoorM9
import Derived.Test.YtobbphkfdhjmdaaDoorM10
import Derived.Test.YtobbphkfdhjmdaaDoorM12
import Derived.WalkKit
import Derived.WalkSpells
import Derived.WalkLawsBesides
import Derived.Handy
import Derived.Laws.Rows
import Derived.Great.BuildSlice
import Derived.Deep.Heap
import Derived.IntWalk
import Derived.Lib.Hide
import Derived.Outline
import Derived.Deep.Light
import Derived.Deep.LoopGhost
import Derived.BigGuardPart
import Derived.BigQuiet
import Derived.Deep.QuietTactic
import Derived.Deep.RegionHeld3
import Derived.Deep.DeepCutAuto
import Derived.Laws.MakeOwn
import Derived.Deep.MidRow
import Derived.Test.YtobbphkfdhjmdaaDoorM13
import Derived.Laws.Concat
namespace Go.Proofs.YtobbphkfdhjmdaaDoor
open Go.RowKit

/-- A block of actions that the call may write. -/
structure MutA (W : World) (g : Nat) (l : List ActV) : Prop where
  lt : g < W.heap.size
  cells : ∀ i, i < l.length → W.rangeAt g (i * 6) (actC (l[i]?.getD actD))
  free : ∀ j, W.frozen? ⟨g, j, none⟩ = false
theorem setCells_size (g : Nat) : ∀ (vs : List Value) (o : Nat) (W : World), (W.setCells g o vs).heap.size = W.heap.size
  | [], _, _ => rfl
  | v :: vs, o, W => by
    rw [World.setCells, setCells_size g vs]
    simp
theorem setCells_grows {w W : World} (g : Nat) (hg : w.heap.size ≤ g) : ∀ (vs : List Value) (o : Nat), Grows w W → Grows w (W.setCells g o vs)
  | [], _, h => h
  | v :: vs, o, h => by
    have key : ∀ (vs : List Value) (o : Nat) (X : World), Grows w X → Grows w (X.setCells g o vs) := by
      intro vs
      induction vs with
      | nil => exact fun _ _ h => h
      | cons v vs ih =>
        intro o X h
        rw [World.setCells]
        exact ih _ _ (h.setCell hg v)
    exact key _ _ _ h
theorem MutA.grows {W W' : World} {g : Nat} {l : List ActV} (h : MutA W g l) (hg : Grows W W') : MutA W' g l := by
  refine ⟨Nat.lt_of_lt_of_le h.lt hg.size, fun i hi j v hv => (hg.cellOf h.lt).trans (h.cells i hi j v hv), fun j => ?_⟩
  obtain ⟨e, d, rfl⟩ := hg
  rw [ext_frozen _ _ _ _ _ h.lt]
  exact h.free j
theorem actC_len (a : ActV) : (actC a).length = 6 := rfl
theorem MutA.there {W : World} {g : Nat} {l : List ActV} (h : MutA W g l) {k : Nat} (hk : k < l.length) : W.there g (k * 6) 6 := fun j hj => by
  have h1 : j < (actC (l[k]?.getD actD)).length := by rw [actC_len]; exact hj
  have := h.cells k hk j _ (List.getElem?_eq_getElem h1)
  exact ⟨by rw [this]; rfl, h.free _⟩
theorem MutA.set {W : World} {g : Nat} {l : List ActV} (h : MutA W g l) {k : Nat} (hk : k < l.length) (a : ActV) : MutA (W.setCells g (k * 6) (actC a)) g (l.set k a) := by
  refine ⟨by rw [setCells_size]; exact h.lt, fun i hi => ?_, fun j => by rw [World.frozen?_setCells]; exact h.free j⟩
  rw [List.length_set] at hi
  by_cases e : i = k
  · subst e
    have : (l.set i a)[i]?.getD actD = a := by simp [hi]
    rw [this]
    exact World.rangeAt_setCells_same W g (i * 6) (actC a) (h.there hi)
  · have : (l.set k a)[i]?.getD actD = l[i]?.getD actD := by rw [List.getElem?_set_ne (fun e' => e e'.symm)]
    rw [this]
    refine World.rangeAt_setCells_apart (h.cells i hi) g (k * 6) (actC a) (.inr ?_)
    rw [actC_len, actC_len]
    omega
theorem MutA.at_ {W : World} {g : Nat} {l : List ActV} (h : MutA W g l) {cap : Nat} (hc : l.length ≤ cap) : ActsAt W (.slice (some ⟨g, 0, none⟩) l.length cap) l := by
  refine ⟨_, cap, rfl, hc, fun _ => ⟨g, 0, rfl, h.lt, fun i hi => ?_⟩⟩
  have hx := h.cells i hi
  have hat : ∀ j v, (actC (l[i]?.getD actD))[j]? = some v → W.cell? ⟨g, 0 + i * 6 + j, none⟩ = some v := fun j v hv => by rw [Nat.zero_add]; exact hx j v hv
  exact ⟨hat 0 _ rfl, hat 1 _ rfl, hat 2 _ rfl, hat 3 _ rfl, hat 4 _ rfl, hat 5 _ rfl⟩
theorem MutA.new {W : World} {g : Nat} {l : List ActV} (h : W.heap[g]? = some (.cells (actsC l).toArray 26 (0, 0))) : MutA W g l := by
  refine ⟨(Array.getElem?_eq_some_iff.1 h).1, fun i hi j v hv => ?_, fun j => frozen_of_row W g j _ 26 h⟩
  have hj : j < 6 := by
    have := (List.getElem?_eq_some_iff.1 hv).1
    rwa [actC_len] at this
  rw [cell_of_row W g _ _ 26 (0, 0) h]
  have := (actsC_get l i j hi hj).trans hv
  simpa using this
theorem cell_other {W : World} {g o o' : Nat} {v : Value} (h : o ≠ o') : (W.setCell ⟨g, o, none⟩ v).cell? ⟨g, o', none⟩ = W.cell? ⟨g, o', none⟩ := by
  refine World.cell?_setCell_other _ _ _ _ ?_
  intro e
  injection e with e1 e2
  exact h e2
theorem MutA.setM {W : World} {g : Nat} {l : List ActV} (h : MutA W g l) {k : Nat} (hk : k < l.length) (x : Int) : MutA (W.setCell ⟨g, k * 6 + 2, none⟩ (.int .i64 x)) g (l.set k { (l[k]?.getD actD) with m := x }) := by
  have hk2 := h.cells k hk 2 _ (show (actC (l[k]?.getD actD))[2]? = some (.int .i64 (l[k]?.getD actD).m) from rfl)
  refine ⟨by simpa using h.lt, fun i hi j v hv => ?_, fun j => by rw [World.frozen?_setCell]; exact h.free j⟩
  rw [List.length_set] at hi
  by_cases e : i = k
  · subst e
    have e2 : (l.set i { (l[i]?.getD actD) with m := x })[i]?.getD actD = { (l[i]?.getD actD) with m := x } := by simp [hi]
    rw [e2] at hv
    by_cases ej : j = 2
    · subst ej
      obtain rfl : Value.int .i64 x = v := by simpa [actC] using hv
      exact World.cell?_setCell_same' _ _ _ (by rw [hk2]; rfl)
    · rw [cell_other (by omega)]
      refine h.cells i hi j v ?_
      have hj : j < 6 := by
        have := (List.getElem?_eq_some_iff.1 hv).1
        rwa [actC_len] at this
      obtain rfl | rfl | rfl | rfl | rfl : j = 0 ∨ j = 1 ∨ j = 3 ∨ j = 4 ∨ j = 5 := by omega
      all_goals exact hv
  · have e2 : (l.set k { (l[k]?.getD actD) with m := x })[i]?.getD actD = l[i]?.getD actD := by rw [List.getElem?_set_ne (fun e' => e e'.symm)]
    rw [e2] at hv
    have hj : j < 6 := by
      have := (List.getElem?_eq_some_iff.1 hv).1
      rwa [actC_len] at this
    rw [cell_other (by omega)]
    exact h.cells i hi j v hv
def Z17 : Array Value := (actsC (List.replicate 17 actD)).toArray
theorem make17 (W : World) : (Instr.makeSlice 33 (.int .i64 17) (.int .i64 17)).run Tryd.prog W = .ok (.slice (some ⟨W.heap.size, 0, none⟩) 17 17) (W.alloc (.cells Z17 26)) := by
  obtain ⟨i0, hi, hz0, hz1, hz2⟩ := info_parts infoAct
  have := run_make (P := Tryd.prog) W 33 26 i0 _ Tryd.underlying33 hi hz0 .i64 .i64 17 17 (by omega) (by omega) (by rw [hz2]; omega) (by omega)
  rw [hz1] at this
  have hz : madeCells (Value.agg #[.int .i64 0, .int .i64 0, .int .i64 0, .int .i64 0, .int .i64 0, .string ⟨#[]⟩]).cells (Int.toNat 17 * 6) = Z17 := by kernel_rfl
  rw [hz] at this
  exact this
theorem act_one (a b c d e : Int) (s : ByteArray) : (#[Value.int .i64 a, .int .i64 b, .int .i64 c, .int .i64 d, .int .i64 e, .string s] : Array Value).all (·.oneCell') = true := by simp [Value.oneCell']
theorem row_one {W : World} {b1 b2 : Nat} (h1 : W.heap[b1]? = some (.cells #[.int .i64 (-1)] 3 (0, 0))) (h2 : W.heap[b2]? = some (.cells #[.slice (some ⟨b1, 0, none⟩) 1 1] 38 (0, 0))) : RowAt W (.slice (some ⟨b2, 0, none⟩) 1 1) [[-1]] :=
  ⟨_, 1, rfl, Nat.le_refl _, fun _ => ⟨b2, 0, rfl, (Array.getElem?_eq_some_iff.1 h2).1, fun i hi => by
    obtain rfl : i = 0 := by simpa using hi
    exact ⟨_, (cell_of_row W b2 0 _ 38 (0, 0) h2).trans rfl, told_ints (l := [-1]) h1⟩⟩⟩
end Go.Proofs.YtobbphkfdhjmdaaDoor

namespace Go.Proofs.YtobbphkfdhjmdaaDoor
open Go.RowKit

theorem sy_k1 : saysB ⟨#[49, 59, 50, 59, 51, 59, 53, 59, 54, 59, 55, 59, 56, 59, 57, 59, 53, 51]⟩ [pen 1 1, pen 1 2, pen 1 4, pen 1 8, pen 1 8, pen 1 16, pen 1 32, pen 1 64, pen 1 128] = true := by decide +kernel
theorem sy_k2 : saysB ⟨#[50, 50, 59, 50, 51, 59, 50, 53, 59, 50, 55, 59, 50, 56, 59, 50, 57, 59, 53, 53]⟩ [pen 2 3, pen 2 4, pen 2 8, pen 2 16, pen 2 32, pen 2 64, pen 2 128] = true := by decide +kernel
theorem sy_k3 : saysB ⟨#[52, 59, 52, 58, 48, 59, 52, 58, 53, 59, 50, 52, 59, 52, 58, 54, 59, 52, 58]⟩ [pen 3 1, pen 3 0, pen 3 5, pen 3 0] = true := by decide +kernel
theorem sy_k4 : saysB ⟨#[51, 48, 59, 51, 55, 59, 57, 48, 59, 52, 48, 59, 52, 55, 59, 49, 48, 48, 59, 51, 57, 59, 52, 57, 59, 53, 57]⟩ [colored 4 1 0, colored 4 1 7, colored 4 1 8, colored 5 1 0, colored 5 1 7, colored 5 1 8, pen 4 0, pen 5 0, pen 6 0] = true := by decide +kernel
theorem sy_k5 : saysB ⟨#[53, 56, 59, 53, 59, 59, 53, 56, 58, 53, 58, 50, 53, 53, 59, 52, 56, 59, 50, 59, 50, 53, 53, 59, 48, 59, 49]⟩ [colored 6 1 0, colored 6 1 255, colored 5 2 16711681] = true := by decide +kernel
theorem sy_k6 : saysB ⟨#[51, 56]⟩ [] = true := by decide +kernel
theorem sy_k7 : saysB ⟨#[51, 56, 59, 53]⟩ [] = true := by decide +kernel
theorem sy_k8 : saysB ⟨#[51, 56, 59, 50, 59, 49, 59, 50, 59, 51]⟩ [colored 4 2 66051] = true := by decide +kernel
theorem sy_k9 : saysB ⟨#[51, 56, 59, 50, 59, 49, 59, 50, 59, 50, 53, 54, 59, 49]⟩ [pen 1 1] = true := by decide +kernel
theorem sy_k10 : saysB ⟨#[51, 56, 58, 53, 59, 49]⟩ [pen 1 1] = true := by decide +kernel
theorem sy_k11 : saysB ⟨#[51, 56, 59, 53, 58, 49, 59, 49]⟩ [pen 1 1] = true := by decide +kernel
theorem sy_k12 : saysB ⟨#[51, 56, 59, 53, 59, 49, 58, 50, 59, 51]⟩ [pen 1 4] = true := by decide +kernel
theorem sy_k13 : saysB ⟨#[51, 56, 59, 50, 59, 49, 59, 49, 58, 49, 59, 49, 59, 49, 59, 49]⟩ [pen 1 1, pen 1 1] = true := by decide +kernel
theorem sy_k14 : saysB ⟨#[51, 56, 58, 50, 58, 49, 58, 50]⟩ [] = true := by decide +kernel
theorem sy_k15 : saysB ⟨#[49, 48, 59, 54, 48, 59, 49, 49, 48, 59, 49, 48, 48, 48]⟩ [] = true := by decide +kernel
theorem sy_k16 : saysB ⟨#[49, 58, 50, 59, 48, 58, 48]⟩ [] = true := by decide +kernel
theorem heap_new2 (W : World) (o1 o2 : Obj) : ((W.alloc o1).alloc o2).heap[W.heap.size + 1]? = some o2 := by
  have := heap_alloc_new (W.alloc o1) o2
  rwa [World.size_alloc] at this
theorem params_nil (w : World) (hg : GL w) : Calls Tryd.prog 13 #[.slice none 0 0] w (fun e w' => ∃ a cap, e = .returned (.tuple #[.slice a 0 cap, .int .i64 0]) ∧ Grows w w') := by
  refine (params_ok _ [] w (ActsAt.nil w) (by simp) (by simp) hg).mono ?_
  rintro e w' ⟨x, rfl, ⟨a, cap, rfl, -, -⟩, hG⟩
  exact ⟨a, cap, rfl, hG⟩
theorem in_pens {l : List ActV} (h : (l.all fun a => decide (-9223372036854775808 ≤ a.m) && decide (a.m ≤ 9223372036854775807)) = true) : ∀ a ∈ l, In64 a.m := by
  intro a ha
  have := List.all_eq_true.1 h a ha
  simp at this
  unfold In64
  omega
set_option maxRecDepth 100000 in
set_option maxHeartbeats 20000000 in
theorem known_true (w : World) (hg : GL w) (ht : GT w) : Calls Tryd.prog 3 #[] w (Ret (.bool true) w) := by
  have HW := Lib.hid (Grows.refl w)
  have e6 : errOf [actP (pen 1 3)] = 141 := by decide +kernel
  have HGL := Lib.hid hg
  have HGT := Lib.hid ht
  clear hg ht
  go_enter Tryd.func3, Tryd.ntmps3
  go_upto_region 1 with fail
  go_cut [1] (fun s wx => s = .bool true ∧ Grows w wx)
  case first =>
    go_wp2_with (first | (go_at_call 10; (with_reducible refine (says_true ⟨#[49, 59, 50, 59, 51, 59, 53, 59, 54, 59, 55, 59, 56, 59, 57, 59, 53, 51]⟩ _ [pen 1 1, pen 1 2, pen 1 4, pen 1 8, pen 1 8, pen 1 16, pen 1 32, pen 1 64, pen 1 128] _ sy_k1 ?hack1 (HGL.out.grows ?hglk1)).mono ?hmaink1); (case hglk1 => exact (by repeat' (first | (with_reducible exact Grows.refl _) | (with_reducible refine Grows.alloc ?_ _) | (with_reducible refine Grows.drew ?_) | (with_reducible refine Grows.ext ?_ _ _)))); (case hack1 => exact acts_new (by simp) rfl rfl (by simp)); rintro e w' ⟨rfl, hk1, dk1, rfl⟩) | (go_at_call 10; (with_reducible refine (says_true ⟨#[50, 50, 59, 50, 51, 59, 50, 53, 59, 50, 55, 59, 50, 56, 59, 50, 57, 59, 53, 53]⟩ _ [pen 2 3, pen 2 4, pen 2 8, pen 2 16, pen 2 32, pen 2 64, pen 2 128] _ sy_k2 ?hack2 (HGL.out.grows ?hglk2)).mono ?hmaink2); (case hglk2 => exact (by repeat' (first | (with_reducible exact Grows.refl _) | (with_reducible refine Grows.alloc ?_ _) | (with_reducible refine Grows.drew ?_) | (with_reducible refine Grows.ext ?_ _ _)))); (case hack2 => exact acts_new (by simp) rfl rfl (by simp)); rintro e w' ⟨rfl, hk2, dk2, rfl⟩) | (go_at_call 11; (with_reducible refine (pen11_any 1 1 _).mono ?_); rintro e w' ⟨rfl, h99, d99, rfl⟩) | (go_at_call 11; (with_reducible refine (pen11_any 1 2 _).mono ?_); rintro e w' ⟨rfl, h100, d100, rfl⟩) | (go_at_call 11; (with_reducible refine (pen11_any 1 4 _).mono ?_); rintro e w' ⟨rfl, h101, d101, rfl⟩) | (go_at_call 11; (with_reducible refine (pen11_any 1 8 _).mono ?_); rintro e w' ⟨rfl, h102, d102, rfl⟩) | (go_at_call 11; (with_reducible refine (pen11_any 1 16 _).mono ?_); rintro e w' ⟨rfl, h103, d103, rfl⟩) | (go_at_call 11; (with_reducible refine (pen11_any 1 32 _).mono ?_); rintro e w' ⟨rfl, h104, d104, rfl⟩) | (go_at_call 11; (with_reducible refine (pen11_any 1 64 _).mono ?_); rintro e w' ⟨rfl, h105, d105, rfl⟩) | (go_at_call 11; (with_reducible refine (pen11_any 1 128 _).mono ?_); rintro e w' ⟨rfl, h106, d106, rfl⟩) | (go_at_call 11; (with_reducible refine (pen11_any 2 3 _).mono ?_); rintro e w' ⟨rfl, h107, d107, rfl⟩) | (go_at_call 11; (with_reducible refine (pen11_any 2 4 _).mono ?_); rintro e w' ⟨rfl, h108, d108, rfl⟩) | (go_at_call 11; (with_reducible refine (pen11_any 2 8 _).mono ?_); rintro e w' ⟨rfl, h109, d109, rfl⟩) | (go_at_call 11; (with_reducible refine (pen11_any 2 16 _).mono ?_); rintro e w' ⟨rfl, h110, d110, rfl⟩) | (go_at_call 11; (with_reducible refine (pen11_any 2 32 _).mono ?_); rintro e w' ⟨rfl, h111, d111, rfl⟩) | (go_at_call 11; (with_reducible refine (pen11_any 2 64 _).mono ?_); rintro e w' ⟨rfl, h112, d112, rfl⟩) | (go_at_call 11; (with_reducible refine (pen11_any 2 128 _).mono ?_); rintro e w' ⟨rfl, h113, d113, rfl⟩))
    go_meet
    exact ⟨rfl, (by repeat' (first | (with_reducible exact Grows.refl _) | (with_reducible refine Grows.alloc ?_ _) | (with_reducible refine Grows.drew ?_) | (with_reducible refine Grows.ext ?_ _ _)))⟩
  obtain ⟨rfl, hGc0⟩ := hcut
  rename World => wz0
  have HW0 := Lib.hid (HW.out.trans hGc0)
  have HGL0 := Lib.hid (HGL.out.grows hGc0)
  have HGT0 := Lib.hid (HGT.out.grows hGc0)
  clear hGc0 HW HGL HGT
  go_upto_region 2 with fail
  go_cut [2] (fun s wx => s = .bool true ∧ Grows wz0 wx)
  case first =>
    go_wp2_with (first | (go_at_call 10; (with_reducible refine (says_true ⟨#[52, 59, 52, 58, 48, 59, 52, 58, 53, 59, 50, 52, 59, 52, 58, 54, 59, 52, 58]⟩ _ [pen 3 1, pen 3 0, pen 3 5, pen 3 0] _ sy_k3 ?hack3 (HGL0.out.grows ?hglk3)).mono ?hmaink3); (case hglk3 => exact (by repeat' (first | (with_reducible exact Grows.refl _) | (with_reducible refine Grows.alloc ?_ _) | (with_reducible refine Grows.drew ?_) | (with_reducible refine Grows.ext ?_ _ _)))); (case hack3 => exact acts_new (by simp) rfl rfl (by simp)); rintro e w' ⟨rfl, hk3, dk3, rfl⟩) | (go_at_call 11; (with_reducible refine (pen11_any 3 1 _).mono ?_); rintro e w' ⟨rfl, h114, d114, rfl⟩) | (go_at_call 11; (with_reducible refine (pen11_any 3 0 _).mono ?_); rintro e w' ⟨rfl, h115, d115, rfl⟩) | (go_at_call 11; (with_reducible refine (pen11_any 3 5 _).mono ?_); rintro e w' ⟨rfl, h116, d116, rfl⟩))
    go_meet
    exact ⟨rfl, (by repeat' (first | (with_reducible exact Grows.refl _) | (with_reducible refine Grows.alloc ?_ _) | (with_reducible refine Grows.drew ?_) | (with_reducible refine Grows.ext ?_ _ _)))⟩
  obtain ⟨rfl, hGc1⟩ := hcut
  rename World => wz1
  have HW1 := Lib.hid (HW0.out.trans hGc1)
  have HGL1 := Lib.hid (HGL0.out.grows hGc1)
  have HGT1 := Lib.hid (HGT0.out.grows hGc1)
  clear hGc1 HW0 HGL0 HGT0
  go_upto_region 3 with fail
  go_cut [3] (fun s wx => s = .bool true ∧ Grows wz1 wx)
  case first =>
    go_wp2_with (first | (go_at_call 10; (with_reducible refine (says_true ⟨#[51, 48, 59, 51, 55, 59, 57, 48, 59, 52, 48, 59, 52, 55, 59, 49, 48, 48, 59, 51, 57, 59, 52, 57, 59, 53, 57]⟩ _ [colored 4 1 0, colored 4 1 7, colored 4 1 8, colored 5 1 0, colored 5 1 7, colored 5 1 8, pen 4 0, pen 5 0, pen 6 0] _ sy_k4 ?hack4 (HGL1.out.grows ?hglk4)).mono ?hmaink4); (case hglk4 => exact (by repeat' (first | (with_reducible exact Grows.refl _) | (with_reducible refine Grows.alloc ?_ _) | (with_reducible refine Grows.drew ?_) | (with_reducible refine Grows.ext ?_ _ _)))); (case hack4 => exact acts_new (by simp) rfl rfl (by simp)); rintro e w' ⟨rfl, hk4, dk4, rfl⟩) | (go_at_call 10; (with_reducible refine (says_true ⟨#[53, 56, 59, 53, 59, 59, 53, 56, 58, 53, 58, 50, 53, 53, 59, 52, 56, 59, 50, 59, 50, 53, 53, 59, 48, 59, 49]⟩ _ [colored 6 1 0, colored 6 1 255, colored 5 2 16711681] _ sy_k5 ?hack5 (HGL1.out.grows ?hglk5)).mono ?hmaink5); (case hglk5 => exact (by repeat' (first | (with_reducible exact Grows.refl _) | (with_reducible refine Grows.alloc ?_ _) | (with_reducible refine Grows.drew ?_) | (with_reducible refine Grows.ext ?_ _ _)))); (case hack5 => exact acts_new (by simp) rfl rfl (by simp)); rintro e w' ⟨rfl, hk5, dk5, rfl⟩) | (go_at_call 12; (with_reducible refine (col12_any 4 1 0 _).mono ?_); rintro e w' ⟨rfl, h117, d117, rfl⟩) | (go_at_call 12; (with_reducible refine (col12_any 4 1 7 _).mono ?_); rintro e w' ⟨rfl, h118, d118, rfl⟩) | (go_at_call 12; (with_reducible refine (col12_any 4 1 8 _).mono ?_); rintro e w' ⟨rfl, h119, d119, rfl⟩) | (go_at_call 12; (with_reducible refine (col12_any 5 1 0 _).mono ?_); rintro e w' ⟨rfl, h120, d120, rfl⟩) | (go_at_call 12; (with_reducible refine (col12_any 5 1 7 _).mono ?_); rintro e w' ⟨rfl, h121, d121, rfl⟩) | (go_at_call 12; (with_reducible refine (col12_any 5 1 8 _).mono ?_); rintro e w' ⟨rfl, h122, d122, rfl⟩) | (go_at_call 11; (with_reducible refine (pen11_any 4 0 _).mono ?_); rintro e w' ⟨rfl, h123, d123, rfl⟩) | (go_at_call 11; (with_reducible refine (pen11_any 5 0 _).mono ?_); rintro e w' ⟨rfl, h124, d124, rfl⟩) | (go_at_call 11; (with_reducible refine (pen11_any 6 0 _).mono ?_); rintro e w' ⟨rfl, h125, d125, rfl⟩) | (go_at_call 12; (with_reducible refine (col12_any 6 1 0 _).mono ?_); rintro e w' ⟨rfl, h126, d126, rfl⟩) | (go_at_call 12; (with_reducible refine (col12_any 6 1 255 _).mono ?_); rintro e w' ⟨rfl, h127, d127, rfl⟩) | (go_at_call 12; (with_reducible refine (col12_any 5 2 16711681 _).mono ?_); rintro e w' ⟨rfl, h128, d128, rfl⟩))
    go_meet
    exact ⟨rfl, (by repeat' (first | (with_reducible exact Grows.refl _) | (with_reducible refine Grows.alloc ?_ _) | (with_reducible refine Grows.drew ?_) | (with_reducible refine Grows.ext ?_ _ _)))⟩
  obtain ⟨rfl, hGc2⟩ := hcut
  rename World => wz2
  have HW2 := Lib.hid (HW1.out.trans hGc2)
  have HGL2 := Lib.hid (HGL1.out.grows hGc2)
  have HGT2 := Lib.hid (HGT1.out.grows hGc2)
  clear hGc2 HW1 HGL1 HGT1
  go_upto_region 4 with fail
  go_cut [4] (fun s wx => s = .bool true ∧ Grows wz2 wx)
  case first =>
    go_wp2_with (first | (go_at_call 10; (with_reducible refine (says_true ⟨#[51, 56]⟩ (.slice none 0 0) [] _ sy_k6 (ActsAt.nil _) (HGL2.out.grows ?hglk6)).mono ?hmaink6); (case hglk6 => exact (by repeat' (first | (with_reducible exact Grows.refl _) | (with_reducible refine Grows.alloc ?_ _) | (with_reducible refine Grows.drew ?_) | (with_reducible refine Grows.ext ?_ _ _)))); rintro e w' ⟨rfl, hk6, dk6, rfl⟩) | (go_at_call 10; (with_reducible refine (says_true ⟨#[51, 56, 59, 53]⟩ (.slice none 0 0) [] _ sy_k7 (ActsAt.nil _) (HGL2.out.grows ?hglk7)).mono ?hmaink7); (case hglk7 => exact (by repeat' (first | (with_reducible exact Grows.refl _) | (with_reducible refine Grows.alloc ?_ _) | (with_reducible refine Grows.drew ?_) | (with_reducible refine Grows.ext ?_ _ _)))); rintro e w' ⟨rfl, hk7, dk7, rfl⟩) | (go_at_call 10; (with_reducible refine (says_true ⟨#[51, 56, 59, 50, 59, 49, 59, 50, 59, 51]⟩ _ [colored 4 2 66051] _ sy_k8 ?hack8 (HGL2.out.grows ?hglk8)).mono ?hmaink8); (case hglk8 => exact (by repeat' (first | (with_reducible exact Grows.refl _) | (with_reducible refine Grows.alloc ?_ _) | (with_reducible refine Grows.drew ?_) | (with_reducible refine Grows.ext ?_ _ _)))); (case hack8 => exact acts_new (by simp) rfl rfl (by simp)); rintro e w' ⟨rfl, hk8, dk8, rfl⟩) | (go_at_call 10; (with_reducible refine (says_true ⟨#[51, 56, 59, 50, 59, 49, 59, 50, 59, 50, 53, 54, 59, 49]⟩ _ [pen 1 1] _ sy_k9 ?hack9 (HGL2.out.grows ?hglk9)).mono ?hmaink9); (case hglk9 => exact (by repeat' (first | (with_reducible exact Grows.refl _) | (with_reducible refine Grows.alloc ?_ _) | (with_reducible refine Grows.drew ?_) | (with_reducible refine Grows.ext ?_ _ _)))); (case hack9 => exact acts_new (by simp) rfl rfl (by simp)); rintro e w' ⟨rfl, hk9, dk9, rfl⟩) | (go_at_call 10; (with_reducible refine (says_true ⟨#[51, 56, 58, 53, 59, 49]⟩ _ [pen 1 1] _ sy_k10 ?hack10 (HGL2.out.grows ?hglk10)).mono ?hmaink10); (case hglk10 => exact (by repeat' (first | (with_reducible exact Grows.refl _) | (with_reducible refine Grows.alloc ?_ _) | (with_reducible refine Grows.drew ?_) | (with_reducible refine Grows.ext ?_ _ _)))); (case hack10 => exact acts_new (by simp) rfl rfl (by simp)); rintro e w' ⟨rfl, hk10, dk10, rfl⟩) | (go_at_call 10; (with_reducible refine (says_true ⟨#[51, 56, 59, 53, 58, 49, 59, 49]⟩ _ [pen 1 1] _ sy_k11 ?hack11 (HGL2.out.grows ?hglk11)).mono ?hmaink11); (case hglk11 => exact (by repeat' (first | (with_reducible exact Grows.refl _) | (with_reducible refine Grows.alloc ?_ _) | (with_reducible refine Grows.drew ?_) | (with_reducible refine Grows.ext ?_ _ _)))); (case hack11 => exact acts_new (by simp) rfl rfl (by simp)); rintro e w' ⟨rfl, hk11, dk11, rfl⟩) | (go_at_call 10; (with_reducible refine (says_true ⟨#[51, 56, 59, 53, 59, 49, 58, 50, 59, 51]⟩ _ [pen 1 4] _ sy_k12 ?hack12 (HGL2.out.grows ?hglk12)).mono ?hmaink12); (case hglk12 => exact (by repeat' (first | (with_reducible exact Grows.refl _) | (with_reducible refine Grows.alloc ?_ _) | (with_reducible refine Grows.drew ?_) | (with_reducible refine Grows.ext ?_ _ _)))); (case hack12 => exact acts_new (by simp) rfl rfl (by simp)); rintro e w' ⟨rfl, hk12, dk12, rfl⟩) | (go_at_call 10; (with_reducible refine (says_true ⟨#[51, 56, 59, 50, 59, 49, 59, 49, 58, 49, 59, 49, 59, 49, 59, 49]⟩ _ [pen 1 1, pen 1 1] _ sy_k13 ?hack13 (HGL2.out.grows ?hglk13)).mono ?hmaink13); (case hglk13 => exact (by repeat' (first | (with_reducible exact Grows.refl _) | (with_reducible refine Grows.alloc ?_ _) | (with_reducible refine Grows.drew ?_) | (with_reducible refine Grows.ext ?_ _ _)))); (case hack13 => exact acts_new (by simp) rfl rfl (by simp)); rintro e w' ⟨rfl, hk13, dk13, rfl⟩) | (go_at_call 10; (with_reducible refine (says_true ⟨#[51, 56, 58, 50, 58, 49, 58, 50]⟩ (.slice none 0 0) [] _ sy_k14 (ActsAt.nil _) (HGL2.out.grows ?hglk14)).mono ?hmaink14); (case hglk14 => exact (by repeat' (first | (with_reducible exact Grows.refl _) | (with_reducible refine Grows.alloc ?_ _) | (with_reducible refine Grows.drew ?_) | (with_reducible refine Grows.ext ?_ _ _)))); rintro e w' ⟨rfl, hk14, dk14, rfl⟩) | (go_at_call 10; (with_reducible refine (says_true ⟨#[49, 48, 59, 54, 48, 59, 49, 49, 48, 59, 49, 48, 48, 48]⟩ (.slice none 0 0) [] _ sy_k15 (ActsAt.nil _) (HGL2.out.grows ?hglk15)).mono ?hmaink15); (case hglk15 => exact (by repeat' (first | (with_reducible exact Grows.refl _) | (with_reducible refine Grows.alloc ?_ _) | (with_reducible refine Grows.drew ?_) | (with_reducible refine Grows.ext ?_ _ _)))); rintro e w' ⟨rfl, hk15, dk15, rfl⟩) | (go_at_call 10; (with_reducible refine (says_true ⟨#[49, 58, 50, 59, 48, 58, 48]⟩ (.slice none 0 0) [] _ sy_k16 (ActsAt.nil _) (HGL2.out.grows ?hglk16)).mono ?hmaink16); (case hglk16 => exact (by repeat' (first | (with_reducible exact Grows.refl _) | (with_reducible refine Grows.alloc ?_ _) | (with_reducible refine Grows.drew ?_) | (with_reducible refine Grows.ext ?_ _ _)))); rintro e w' ⟨rfl, hk16, dk16, rfl⟩) | (go_at_call 12; (with_reducible refine (col12_any 4 2 66051 _).mono ?_); rintro e w' ⟨rfl, h129, d129, rfl⟩) | (go_at_call 11; (with_reducible refine (pen11_any 1 1 _).mono ?_); rintro e w' ⟨rfl, h130, d130, rfl⟩) | (go_at_call 11; (with_reducible refine (pen11_any 1 4 _).mono ?_); rintro e w' ⟨rfl, h131, d131, rfl⟩))
    go_meet
    exact ⟨rfl, (by repeat' (first | (with_reducible exact Grows.refl _) | (with_reducible refine Grows.alloc ?_ _) | (with_reducible refine Grows.drew ?_) | (with_reducible refine Grows.ext ?_ _ _)))⟩
  obtain ⟨rfl, hGc3⟩ := hcut
  rename World => wz3
  have HW3 := Lib.hid (HW2.out.trans hGc3)
  have HGL3 := Lib.hid (HGL2.out.grows hGc3)
  have HGT3 := Lib.hid (HGT2.out.grows hGc3)
  clear hGc3 HW2 HGL2 HGT2
  have hmk := make17
  go_upto_region 8 with (first | (go_at_call 13; (with_reducible refine (params_nil _ (HGL3.out.grows ?hg5)).mono ?hm5); (case hg5 => exact (by repeat' (first | (with_reducible exact Grows.refl _) | (with_reducible refine Grows.alloc ?_ _) | (with_reducible refine Grows.drew ?_) | (with_reducible refine Grows.ext ?_ _ _)))); rintro e w5 ⟨a5, cap5, rfl, hG5⟩; have hG5' : Grows wz3 w5 := Grows.trans (by repeat' (first | (with_reducible exact Grows.refl _) | (with_reducible refine Grows.alloc ?_ _) | (with_reducible refine Grows.drew ?_) | (with_reducible refine Grows.ext ?_ _ _))) hG5) | (go_at_call 13; (with_reducible refine (params_err _ [actP (pen 1 3)] _ ?hac6 ?hin6 ?hml6 ?her6).mono ?hm6); (case hac6 => exact acts_new (by simp) rfl rfl (by simp)); (case hin6 => exact in_pens (by decide)); (case hml6 => unfold maxLen; simp); (case her6 => exact .inl (by decide +kernel)); rintro e w6 ⟨rfl, hG6⟩; have hG6' : Grows wz3 w6 := Grows.trans (by repeat' (first | (with_reducible exact hG5') | (with_reducible refine Grows.alloc ?_ _) | (with_reducible refine Grows.ext ?_ _ _))) hG6) | (go_at_call 11; (with_reducible refine (pen11_any 1 3 _).mono ?_); rintro e w' ⟨rfl, h132, d132, rfl⟩))
  refine abs_worldM (fun W => Grows wz3 W ∧ MutA W w6.heap.size (List.replicate 17 actD)) ⟨hG6'.alloc _, MutA.new (heap_alloc_new w6 _)⟩ ?_
  rintro wa ⟨hGa, hMa⟩
  have hgs : wz3.heap.size ≤ w6.heap.size := hG6'.size
  have HGa := Lib.hid hGa
  have HMa := Lib.hid hMa
  clear hmk hG5 hG5' hG6 hG6' hGa hMa
  generalize w6.heap.size = g at *
  go_wp2_with fail
  go_loopw [10] (fun i wr' => ∃ (wv : World) (k : Nat) (l : List ActV), wv = wr' ∧ k ≤ 17 ∧ i = .int .i64 k ∧ Grows wz3 wv ∧ MutA wv g l ∧ l.length = 17 ∧ ∀ j, j < k → l[j]? = some (actP (pen 0 0))) (fun i _ => 17 - (intOf i).toNat)
  case atStart => exact ⟨_, 0, _, rfl, Nat.zero_le _, rfl, HGa.out, HMa.out, by simp, fun j hj => by omega⟩
  case round =>
    obtain ⟨wb, k, l, rfl, hk, rfl, hG, hM, hll, hl⟩ := hrel
    by_cases hlt : k < 17
    · have e1 : decide (k < 17) = true := by simpa using hlt
      have HG := Lib.hid hG
      have HL := Lib.hid hl
      clear hG hl
      go_wp2_with (first | (go_at_call 11; (with_reducible refine (pen11_any 0 0 _).mono ?_); rintro e w' ⟨rfl, h133, d133, rfl⟩) | ((with_reducible refine wpList_store_mid (op := ⟨none, .store 26 (.tmp 125) (.tmp 124), 0, _, _, none⟩) ?st1 26 (.tmp 125) (.tmp 124) ?st2 g (k * 6) #[.int .i64 39, .int .i64 0, .int .i64 0, .int .i64 0, .int .i64 0, .string ⟨#[]⟩] ?st3 ?st4 ?st5 ?st8 ?st6 ?st7); (case st1 => rfl); (case st2 => rfl); (case st3 => rfl); (case st4 => rfl); (case st5 => exact (hM.grows (by repeat' (first | (with_reducible exact Grows.refl _) | (with_reducible refine Grows.alloc ?_ _) | (with_reducible refine Grows.drew ?_) | (with_reducible refine Grows.ext ?_ _ _)))).there (by rw [hll]; exact hlt)); (case st6 => exact act_one _ _ _ _ _ _); (case st8 => exact info26)))
      go_roundw
      case rel =>
        refine ⟨_, k + 1, l.set k (actP (pen 0 0)), rfl, by omega, by go_num, setCells_grows g hgs _ _ (HG.out.trans (by repeat' (first | (with_reducible exact Grows.refl _) | (with_reducible refine Grows.alloc ?_ _) | (with_reducible refine Grows.drew ?_) | (with_reducible refine Grows.ext ?_ _ _)))), (hM.grows (by repeat' (first | (with_reducible exact Grows.refl _) | (with_reducible refine Grows.alloc ?_ _) | (with_reducible refine Grows.drew ?_) | (with_reducible refine Grows.ext ?_ _ _)))).set (by rw [hll]; exact hlt) (actP (pen 0 0)), by rw [List.length_set]; exact hll, fun j hj => ?_⟩
        by_cases e : j = k
        · subst e
          simp [hll, hlt]
        · rw [List.getElem?_set_ne (fun e' => e e'.symm)]
          exact HL.out j (by omega)
      case measure => simp [intOf]; omega
    · have e1 : decide (k < 17) = false := by simpa using hlt
      obtain rfl : k = 17 := by omega
      have hl17 : l = List.replicate 17 (actP (pen 0 0)) := by
        apply List.ext_getElem?
        intro j
        by_cases hj : j < 17
        · rw [hl j hj, List.getElem?_replicate, if_pos hj]
        · rw [List.getElem?_eq_none (by omega), List.getElem?_replicate, if_neg hj]
      subst hl17
      obtain ⟨l17, hq⟩ : ∃ l17, List.replicate 17 (actP (pen 0 0)) = l17 := ⟨_, rfl⟩
      have hin17 : ∀ a ∈ l17, In64 a.m := by rw [← hq]; exact in_pens (by decide)
      have hl17 : l17.length = 17 := by rw [← hq]; rfl
      have er17 : errOf l17 = 3 := by rw [← hq]; decide +kernel
      obtain ⟨l18, hq18⟩ : ∃ l18, l17.set 16 { (l17[16]?.getD actD) with m := 1 } = l18 := ⟨_, rfl⟩
      have hr18 : errs l18 ≠ 0 := by rw [← hq18, ← hq]; decide +kernel
      have er18 : errOf l18 = 141 := by rw [← hq18, ← hq]; decide +kernel
      have hl18 : l18.length = 17 := by rw [← hq18, List.length_set]; exact hl17
      have hin18 : ∀ a ∈ l18, In64 a.m := by rw [← hq18, ← hq]; exact in_pens (by decide)
      rw [hq] at hM
      have hMs := fun (W : World) (hW : Grows wb W) => (hM.grows hW).setM (k := 16) (by rw [hl17]; omega) 1
      rw [hq18] at hMs
      have hA17 : ActsAt wb (.slice (some ⟨g, 0, none⟩) 17 17) l17 := by
        have := hM.at_ (cap := 17) (by omega)
        rwa [hl17] at this
      have HA17 := Lib.hid hA17
      have HMs := Lib.hid hMs
      have c98 : ∀ (W : World), Grows wb W → ∃ x, W.cell? ⟨g, 98, none⟩ = some (.int .i64 x) := fun W hW => ⟨_, (hM.grows hW).cells 16 (by rw [hl17]; omega) 2 _ (show (actC (l17[16]?.getD actD))[2]? = some (.int .i64 (l17[16]?.getD actD).m) from rfl)⟩
      have HC98 := Lib.hid c98
      have HF98 := Lib.hid fun (W : World) (hW : Grows wb W) => (hM.grows hW).free 98
      have HG := Lib.hid hG
      clear hM hMs c98 hG hl hll hq hq18 hA17
      go_upto_region 13 with (go_at_call 13; (with_reducible refine (params_err _ l17 _ HA17.out ?hi12 ?hl12 ?he12).mono ?hm12); (case hi12 => exact hin17); (case hl12 => unfold maxLen; rw [hl17]; omega); (case he12 => exact .inr (by rw [hl17]; omega)); rintro e w12 ⟨rfl, hG12⟩)
      have hGb : Grows wb w12 := hG12
      obtain ⟨x98, hx98⟩ := HC98.out _ hGb
      have hf98 := HF98.out _ hGb
      go_upto_region 14 with fail
      have hM18 : MutA (w12.setCell ⟨g, 98, none⟩ (.int .i64 1)) g l18 := HMs.out _ hGb
      have hA18 : ActsAt (w12.setCell ⟨g, 98, none⟩ (.int .i64 1)) (.slice (some ⟨g, 0, none⟩) 17 17) l18 := by
        have := hM18.at_ (cap := 17) (by omega)
        rwa [hl18] at this
      have hGc : Grows wz3 (w12.setCell ⟨g, 98, none⟩ (.int .i64 1)) := (HG.out.trans hGb).setCell hgs _
      generalize w12.setCell ⟨g, 98, none⟩ (.int .i64 1) = wd at *
      have HA18 := Lib.hid hA18
      have HGL9 := Lib.hid (HGL3.out.grows hGc)
      have HGT9 := Lib.hid (HGT3.out.grows hGc)
      have HW9 := Lib.hid (HW3.out.trans hGc)
      clear hM18 hA18 hGc hx98 hf98 hGb hG12 HC98 HF98 HMs HG
      go_upto_region 15 with (go_at_call 13; (with_reducible refine (params_err _ l18 _ HA18.out ?hi14 ?hl14 ?he14).mono ?hm14); (case hi14 => exact hin18); (case hl14 => unfold maxLen; rw [hl18]; omega); (case he14 => exact .inl hr18); rintro e w14 ⟨rfl, hG14⟩)
      have HGL8 := Lib.hid (HGL9.out.grows hG14)
      have HGT8 := Lib.hid (HGT9.out.grows hG14)
      have HW8 := Lib.hid (HW9.out.trans hG14)
      clear hG14 HGL9 HGT9 HW9
      go_wp2_with (first | (go_at_call 14; (with_reducible refine (pens_bad _ [[-1]] (by simp) (by simp) _ (by decide) ?hr15).mono ?hm15); (case hr15 => exact row_one ((Below.heap_alloc _ _ _ (by simp)).trans (heap_alloc_new w14 _)) (heap_new2 w14 _ _)); rintro e w' ⟨rfl, h15, d15, rfl⟩) | (go_at_call 15; (with_reducible refine (works_true _ (HGL8.out.grows ?hg16) (HGT8.out.grows ?hg17)).mono ?hm16); (case hg16 => exact (by repeat' (first | (with_reducible exact Grows.refl _) | (with_reducible refine Grows.alloc ?_ _) | (with_reducible refine Grows.drew ?_) | (with_reducible refine Grows.ext ?_ _ _)))); (case hg17 => exact (by repeat' (first | (with_reducible exact Grows.refl _) | (with_reducible refine Grows.alloc ?_ _) | (with_reducible refine Grows.drew ?_) | (with_reducible refine Grows.ext ?_ _ _)))); rintro e w' ⟨rfl, h16, d16, rfl⟩))
      go_returns
      exact ⟨rfl, HW8.out.trans (by repeat' (first | (with_reducible exact Grows.refl _) | (with_reducible refine Grows.alloc ?_ _) | (with_reducible refine Grows.drew ?_) | (with_reducible refine Grows.ext ?_ _ _)))⟩
end Go.Proofs.YtobbphkfdhjmdaaDoor

