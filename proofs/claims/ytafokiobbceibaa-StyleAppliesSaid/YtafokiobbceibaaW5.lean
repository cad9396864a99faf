/-
  Walk: CheckPen.
-/
import Derived.Test.YtafokiobbceibaaRows
import Derived.Test.YtafokiobbceibaaLt
import Derived.Test.YtafokiobbceibaaDefs
import Derived.Test.YtafokiobbceibaaBits
import Derived.Test.YtafokiobbceibaaMaps
import Derived.Test.YtafokiobbceibaaW1
import Derived.Test.YtafokiobbceibaaW2
import Derived.Test.YtafokiobbceibaaW3
import Derived.Test.YtafokiobbceibaaW4
import Derived.WalkKit
import Derived.WalkSpells
import Derived.WalkLawsBesides
import Derived.Handy
import Derived.Laws.EntriesVeiled
import Derived.Lib.Hide
import Derived.Deep.Light
import Derived.Deep.LoopGhost
import Derived.BigGuardPart
import Derived.BigQuiet
import Derived.Deep.QuietTactic
import Derived.Deep.RegionHeld3
import Derived.Test.YtafokiobbceibaaReg
import Derived.Test.YtafokiobbceibaaReg3
import Derived.Test.YtafokiobbceibaaReg4
namespace Go.Proofs.Ytafokiobbceibaa
open Go.RowKit


theorem look67 (w : World) (r : Nat) (k : Int) (h : isMap w r = true) (hf : intKeys (mapEs w r).toList = true) : (Instr.lookup 67 (.map (some r)) (.int .i64 k) true).run Try.prog w = .ok (.tuple #[(findV (.agg #[.nilFunc, .bool false, .nilFunc]) k (mapEs w r).toList).1, .bool (findV (.agg #[.nilFunc, .bool false, .nilFunc]) k (mapEs w r).toList).2]) w :=
  run_look Try.underlying67 Try.underlying3 (fun w => by kernel_rfl) w r k true h hf
theorem pens_look (k : Int) (w : World) : Calls Try.prog 31 #[] w (fun e w' => ∃ (B C1 C2 C3 : Nat) (h : Array Obj) (d : Nat), e = .returned (.map (some B)) ∧ w' = ext w h d ∧
    (Instr.lookup 67 (.map (some B)) (.int .i64 k) true).run Try.prog (ext w h d) = .ok (.tuple #[(findV (.agg #[.nilFunc, .bool false, .nilFunc]) k (penEs C1 C2 C3).toList).1, .bool (findV (.agg #[.nilFunc, .bool false, .nilFunc]) k (penEs C1 C2 C3).toList).2]) (ext w h d) ∧
    (∀ o, (Instr.lookup 67 (.map (some B)) (.int .i64 k) true).run Try.prog ((ext w h d).alloc o) = .ok (.tuple #[(findV (.agg #[.nilFunc, .bool false, .nilFunc]) k (penEs C1 C2 C3).toList).1, .bool (findV (.agg #[.nilFunc, .bool false, .nilFunc]) k (penEs C1 C2 C3).toList).2]) ((ext w h d).alloc o))) := by
  refine (pens_any w).mono ?_
  rintro e w' ⟨B, C1, C2, C3, rfl, ⟨b0, b1, b2, b3, b4, b5⟩, ⟨h1, d1, rfl⟩, hle⟩
  refine ⟨B, C1, C2, C3, h1, d1, rfl, rfl, ?_, fun o => ?_⟩
  · have := look67 (ext w h1 d1) B k b1 (by rw [b2]; rfl)
    rw [b2] at this
    exact this
  · have := look67 ((ext w h1 d1).alloc o) B k (by rw [isMap_alloc _ _ _ b0]; exact b1) (by rw [mapEs_alloc _ _ _ b0, b2]; rfl)
    rw [mapEs_alloc _ _ _ b0, b2] at this
    exact this
@[go_sem] theorem intKeys_pen (C1 C2 C3 : Nat) : intKeys (penEs C1 C2 C3).toList = true := rfl
@[go_sem] theorem findV_pen0 (z : Value) (C1 C2 C3 : Nat) : findV z 0 (penEs C1 C2 C3).toList = (.agg #[.func (.func 36) #[] #[], .bool false, .func (.func 38) #[] #[]], true) := rfl
@[go_sem] theorem findV_pen1 (z : Value) (C1 C2 C3 : Nat) : findV z 1 (penEs C1 C2 C3).toList = (.agg #[.func (.func 39) #[] #[], .bool false, .func (.func 40) #[] #[]], true) := rfl
@[go_sem] theorem findV_pen2 (z : Value) (C1 C2 C3 : Nat) : findV z 2 (penEs C1 C2 C3).toList = (.agg #[.func (.func 41) #[] #[], .bool false, .func (.func 42) #[] #[]], true) := rfl
@[go_sem] theorem findV_pen3 (z : Value) (C1 C2 C3 : Nat) : findV z 3 (penEs C1 C2 C3).toList = (.agg #[.func (.func 43) #[] #[], .bool false, .func (.func 44) #[] #[]], true) := rfl
@[go_sem] theorem findV_pen4 (z : Value) (C1 C2 C3 : Nat) : findV z 4 (penEs C1 C2 C3).toList = (.agg #[.func (.func 36) #[] #[], .bool true, .func (.func 37) #[] #[.pointer (some ⟨C1, 0, none⟩)]], true) := rfl
@[go_sem] theorem findV_pen5 (z : Value) (C1 C2 C3 : Nat) : findV z 5 (penEs C1 C2 C3).toList = (.agg #[.func (.func 36) #[] #[], .bool true, .func (.func 37) #[] #[.pointer (some ⟨C2, 0, none⟩)]], true) := rfl
@[go_sem] theorem findV_pen6 (z : Value) (C1 C2 C3 : Nat) : findV z 6 (penEs C1 C2 C3).toList = (.agg #[.func (.func 36) #[] #[], .bool true, .func (.func 37) #[] #[.pointer (some ⟨C3, 0, none⟩)]], true) := rfl
theorem findV_pen_no (z : Value) (C1 C2 C3 : Nat) (k : Int) (h : ¬ (0 ≤ k ∧ k ≤ 6)) : findV z k (penEs C1 C2 C3).toList = (z, false) := by
  have e : ∀ j : Int, 0 ≤ j → j ≤ 6 → (k == j) = false := fun j h1 h2 => by simp; omega
  show findV z k [_, _, _, _, _, _, _] = _
  simp only [findV, e 0 (by omega) (by omega), e 1 (by omega) (by omega), e 2 (by omega) (by omega), e 3 (by omega) (by omega), e 4 (by omega) (by omega), e 5 (by omega) (by omega), e 6 (by omega) (by omega), Bool.false_eq_true, if_false]
def ActAt (w : World) (B : Nat) (kd n m ck cn : Int) (s : ByteArray) : Prop := B < w.heap.size ∧ w.cell? ⟨B, 0, none⟩ = some (.int .i64 kd) ∧ w.cell? ⟨B, 1, none⟩ = some (.int .i64 n) ∧ w.cell? ⟨B, 2, none⟩ = some (.int .i64 m) ∧ w.cell? ⟨B, 3, none⟩ = some (.int .i64 ck) ∧ w.cell? ⟨B, 4, none⟩ = some (.int .i64 cn) ∧ w.cell? ⟨B, 5, none⟩ = some (.string s)
def EntAt (w : World) (C : Nat) (x y : Value) : Prop := C < w.heap.size ∧ w.cell? ⟨C, 0, none⟩ = some x ∧ w.cell? ⟨C, 1, none⟩ = some y
def mayB (n m : Int) : Bool := if n = 0 then m == 0 else if n = 1 then oneB m else if n = 2 then clrB m else if n = 3 then undB m else m == 0
def colB (n ck cn : Int) : Bool := if n < 4 then (ck == 0 && cn == 0) else clOk ck cn
/-- A pen is valid. -/
def pnB (kd n m ck cn : Int) (s : ByteArray) : Bool := (kd == 39) && (s.toList.isEmpty && (decide (0 ≤ n ∧ n ≤ 6) && (mayB n m && colB n ck cn)))
def pnErr (kd n m ck cn : Int) (s : ByteArray) : Int := if pnB kd n m ck cn s then 0 else 141
end Go.Proofs.Ytafokiobbceibaa
