/-
  Walk: works.
-/
import Derived.Test.YtkkhcpddpnhemaaRows
import Derived.Test.YtkkhcpddpnhemaaLt
import Derived.Test.YtkkhcpddpnhemaaDefs
import Derived.Test.YtkkhcpddpnhemaaOwn
import Derived.Test.YtkkhcpddpnhemaaVis
import Derived.Test.YtkkhcpddpnhemaaW1
import Derived.Test.YtkkhcpddpnhemaaW2
import Derived.Test.YtkkhcpddpnhemaaW3
import Derived.Test.YtkkhcpddpnhemaaW4
import Derived.Test.YtkkhcpddpnhemaaW5
import Derived.Test.YtkkhcpddpnhemaaW6
import Derived.Test.YtkkhcpddpnhemaaW7
import Derived.Test.YtkkhcpddpnhemaaW8
import Derived.Test.YtkkhcpddpnhemaaW11
import Derived.Test.YtkkhcpddpnhemaaW12
import Derived.Test.YtkkhcpddpnhemaaW13
import Derived.WalkKit
import Derived.OwnWalk
import Derived.WalkSpells
import Derived.WalkLawsBesides
import Derived.Handy
import Derived.Outline
import Derived.Lib.Hide
import Derived.Deep.Light
import Derived.Deep.LoopGhost
import Derived.BigGuardPart
import Derived.BigQuiet
import Derived.Deep.QuietTactic
import Derived.Deep.DeepCutAuto
import Derived.Test.YtkkhcpddpnhemaaReg
namespace Go.Proofs.Ytkkhcpddpnhemaa
open Go.RowKit


theorem n20 (col k r : Nat) (hr : nxt (newL 20) k col = r) (hc : col < 20) (hk : k < 9223372036854775808) (a : Option Addr) (cp : Nat) (W : World) (h : Bs W a (newL 20)) : Calls Try.prog 24 #[.slice a 20 cp, .int .i64 col, .int .i64 k] W (Ret (.int .i64 r) W) := by
  rw [← hr]
  exact lnext_ok a 20 cp col k (newL 20) (by simp) W h (by omega) hc hk

theorem b20 (col k r : Nat) (hr : bck (newL 20) k col = r) (hc : col < 20) (hk : k < 9223372036854775808) (a : Option Addr) (cp : Nat) (W : World) (h : Bs W a (newL 20)) : Calls Try.prog 25 #[.slice a 20 cp, .int .i64 col, .int .i64 k] W (Ret (.int .i64 r) W) := by
  rw [← hr]
  exact lback_ok a 20 cp col k (newL 20) (by simp) W h (by omega) hc hk

theorem pst (l : List Bool) (n : Nat) (ys : List Nat) (k : Nat) (hv : vis (fw 0) l n = ys) (hk : ys.length = k) (hl : l.length = n) (hn : n ≤ 90) (a : Option Addr) (cap : Nat) (W : World) (h : Bs W a l) :
    Calls Try.prog 31 #[.slice a n cap] W fun e W' => ∃ b c, e = .returned (.slice b k c) ∧ Is W' b (toI ys) ∧ Grows W W' := by
  subst hk
  rw [← hv]
  exact pstops_any a n cap l hl hn W h
theorem ints_eq (a b : Option Addr) (n ca cb : Nat) (l : List Int) (hl : l.length = n) (hn : n ≤ 90) (W : World) (ha : Is W a l) (hb : Is W b l) : Calls Try.prog 30 #[.slice a n ca, .slice b n cb] W (Ret (.bool true) W) := by
  subst hl
  have := ints_any a b ca cb l l W ha hb (by omega) (by omega)
  rwa [decide_eq_true rfl] at this
theorem is_lit2 (w : World) (x y : Int) : Is (w.alloc (.cells #[.int .i64 x, .int .i64 y] 3)) (some ⟨w.heap.size, 0, none⟩) [x, y] := by
  refine .inr ⟨w.heap.size, 0, rfl, by simp, fun j hj => ?_⟩
  rw [cell_of_row _ _ _ _ _ _ (World.alloc_heap_new w _)]
  match j, hj with
  | 0, _ => rfl
  | 1, _ => rfl
theorem is_lit1 (w : World) (x : Int) : Is (w.alloc (.cells #[.int .i64 x] 3)) (some ⟨w.heap.size, 0, none⟩) [x] := by
  refine .inr ⟨w.heap.size, 0, rfl, by simp, fun j hj => ?_⟩
  rw [cell_of_row _ _ _ _ _ _ (World.alloc_heap_new w _)]
  match j, hj with
  | 0, _ => rfl
set_option maxRecDepth 100000 in
set_option maxHeartbeats 8000000 in
theorem works_true (w : World) : Calls Try.prog 15 #[] w (Ret (.bool true) w) := by
  have Hnew : Hid (∀ W, Calls Try.prog 26 #[.int .i64 20] W fun e w' => ∃ a cap, e = .returned (.tuple #[.slice a 20 cap, .int .i64 0]) ∧ Own W.heap.size w' a (newL 20) ∧ Grows W w') := Lib.hid fun W => new_ok 20 W (by omega) (by omega)
  have HS1 : Hid (∀ a cap W, Bs W a (newL 20) → Calls Try.prog 19 #[.slice a 20 cap, .int .i64 3, .bool true] W fun e w' => ∃ b cp, e = .returned (.tuple #[.slice b 20 cp, .int .i64 0]) ∧ Own W.heap.size w' b ((newL 20).set 3 true) ∧ Grows W w') := Lib.hid fun a cap W h => set_ok a 20 cap 3 true (newL 20) (by simp) W h (by omega) (by omega) (by omega)
  have HS2 : Hid (∀ a cap W, Bs W a ((newL 20).set 3 true) → Calls Try.prog 19 #[.slice a 20 cap, .int .i64 8, .bool false] W fun e w' => ∃ b cp, e = .returned (.tuple #[.slice b 20 cp, .int .i64 0]) ∧ Own W.heap.size w' b (((newL 20).set 3 true).set 8 false) ∧ Grows W w') := Lib.hid fun a cap W h => set_ok a 20 cap 8 false _ (by simp) W h (by omega) (by omega) (by omega)
  have HN : Hid (∀ a cap W, Calls Try.prog 16 #[.slice a 20 cap] W fun e w' => ∃ b c, e = .returned (.tuple #[.slice b 20 c, .int .i64 0]) ∧ Own W.heap.size w' b (List.replicate 20 false) ∧ Grows W w') := Lib.hid fun a cap W => none_ok a 20 cap W (by omega)
  have HR1 : Hid (∀ a cap W, Bs W a (List.replicate 20 false) → Calls Try.prog 21 #[.slice a 20 cap, .int .i64 30] W fun e w' => ∃ b cp, e = .returned (.tuple #[.slice b 30 cp, .int .i64 0]) ∧ Own W.heap.size w' b (rsL (List.replicate 20 false) 30) ∧ Grows W w') := Lib.hid fun a cap W h => resize_ok a 20 cap 30 _ (by simp) W h (by omega) (by omega)
  have HR2 : Hid (∀ a cap W, Bs W a (newL 20) → Calls Try.prog 21 #[.slice a 20 cap, .int .i64 9] W fun e w' => ∃ b cp, e = .returned (.tuple #[.slice b 9 cp, .int .i64 0]) ∧ Own W.heap.size w' b (rsL (newL 20) 9) ∧ Grows W w') := Lib.hid fun a cap W h => resize_ok a 20 cap 9 _ (by simp) W h (by omega) (by omega)
  have HX0 : Hid (∀ a cap W, Bs W a (newL 20) → Calls Try.prog 24 #[.slice a 20 cap, .int .i64 0, .int .i64 1] W (Ret (.int .i64 8) W)) := Lib.hid fun a cap W h => n20 0 1 8 (by decide) (by omega) (by omega) a cap W h
  have HX1 : Hid (∀ a cap W, Bs W a (newL 20) → Calls Try.prog 24 #[.slice a 20 cap, .int .i64 8, .int .i64 1] W (Ret (.int .i64 16) W)) := Lib.hid fun a cap W h => n20 8 1 16 (by decide) (by omega) (by omega) a cap W h
  have HX2 : Hid (∀ a cap W, Bs W a (newL 20) → Calls Try.prog 24 #[.slice a 20 cap, .int .i64 16, .int .i64 1] W (Ret (.int .i64 19) W)) := Lib.hid fun a cap W h => n20 16 1 19 (by decide) (by omega) (by omega) a cap W h
  have HX3 : Hid (∀ a cap W, Bs W a (newL 20) → Calls Try.prog 24 #[.slice a 20 cap, .int .i64 3, .int .i64 2] W (Ret (.int .i64 16) W)) := Lib.hid fun a cap W h => n20 3 2 16 (by decide) (by omega) (by omega) a cap W h
  have HX4 : Hid (∀ a cap W, Bs W a (newL 20) → Calls Try.prog 24 #[.slice a 20 cap, .int .i64 5, .int .i64 0] W (Ret (.int .i64 5) W)) := Lib.hid fun a cap W h => n20 5 0 5 (by decide) (by omega) (by omega) a cap W h
  have HB0 : Hid (∀ a cap W, Bs W a (newL 20) → Calls Try.prog 25 #[.slice a 20 cap, .int .i64 19, .int .i64 1] W (Ret (.int .i64 16) W)) := Lib.hid fun a cap W h => b20 19 1 16 (by decide) (by omega) (by omega) a cap W h
  have HB1 : Hid (∀ a cap W, Bs W a (newL 20) → Calls Try.prog 25 #[.slice a 20 cap, .int .i64 8, .int .i64 1] W (Ret (.int .i64 0) W)) := Lib.hid fun a cap W h => b20 8 1 0 (by decide) (by omega) (by omega) a cap W h
  have HB2 : Hid (∀ a cap W, Bs W a (newL 20) → Calls Try.prog 25 #[.slice a 20 cap, .int .i64 19, .int .i64 3] W (Ret (.int .i64 0) W)) := Lib.hid fun a cap W h => b20 19 3 0 (by decide) (by omega) (by omega) a cap W h
  have HB3 : Hid (∀ a cap W, Bs W a (newL 20) → Calls Try.prog 25 #[.slice a 20 cap, .int .i64 17, .int .i64 2] W (Ret (.int .i64 8) W)) := Lib.hid fun a cap W h => b20 17 2 8 (by decide) (by omega) (by omega) a cap W h
  have HP0 : Hid (∀ a cap W, Bs W a (newL 20) → Calls Try.prog 31 #[.slice a 20 cap] W fun e W' => ∃ b c, e = .returned (.slice b 2 c) ∧ Is W' b [8, 16] ∧ Grows W W') := Lib.hid fun a cap W h => pst (newL 20) 20 [8, 16] 2 (by decide) rfl (by simp) (by omega) a cap W h
  have HP1 : Hid (∀ a cap W, Bs W a (((newL 20).set 3 true).set 8 false) → Calls Try.prog 31 #[.slice a 20 cap] W fun e W' => ∃ b c, e = .returned (.slice b 2 c) ∧ Is W' b [3, 16] ∧ Grows W W') := Lib.hid fun a cap W h => pst (((newL 20).set 3 true).set 8 false) 20 [3, 16] 2 (by decide) rfl (by simp) (by omega) a cap W h
  have HP2 : Hid (∀ a cap W, Bs W a (List.replicate 20 false) → Calls Try.prog 31 #[.slice a 20 cap] W fun e W' => ∃ b c, e = .returned (.slice b 0 c) ∧ Is W' b [] ∧ Grows W W') := Lib.hid fun a cap W h => pst (List.replicate 20 false) 20 [] 0 (by decide) rfl (by simp) (by omega) a cap W h
  have HP3 : Hid (∀ a cap W, Bs W a (rsL (List.replicate 20 false) 30) → Calls Try.prog 31 #[.slice a 30 cap] W fun e W' => ∃ b c, e = .returned (.slice b 1 c) ∧ Is W' b [24] ∧ Grows W W') := Lib.hid fun a cap W h => pst (rsL (List.replicate 20 false) 30) 30 [24] 1 (by decide) rfl (by simp) (by omega) a cap W h
  have HP4 : Hid (∀ a cap W, Bs W a (rsL (newL 20) 9) → Calls Try.prog 31 #[.slice a 9 cap] W fun e W' => ∃ b c, e = .returned (.slice b 1 c) ∧ Is W' b [8] ∧ Grows W W') := Lib.hid fun a cap W h => pst (rsL (newL 20) 9) 9 [8] 1 (by decide) rfl (by simp) (by omega) a cap W h
  go_enter Try.func15, Try.ntmps15
  go_upto_region 8 with (first | (go_at_call 26; refine (Hnew.out _).mono ?_; rintro e w1 ⟨t, cp, rfl, HO1, G1⟩; have BT := Lib.hid (fun W (g : Grows w1 W) => HO1.bs.grows g)) | (go_at_call 19; (with_reducible refine (HS1.out _ _ _ (BT.out _ (by repeat' (first | (with_reducible exact Grows.refl _) | (with_reducible assumption) | (with_reducible refine Grows.alloc ?_ _) | (with_reducible refine Grows.drew ?_) | (with_reducible refine Grows.ext ?_ _ _))))).mono ?_); rintro e w2 ⟨a1, cp1, rfl, HO2, G2⟩; have hg2 := Grows.trans (Grows.refl w1) G2) | (go_at_call 19; (with_reducible refine (HS2.out _ _ _ HO2.bs).mono ?_); rintro e w3 ⟨a2, cp2, rfl, HO3, G3⟩; have hg3 := Grows.trans hg2 G3) | (go_at_call 16; (with_reducible refine (HN.out _ _ _).mono ?_); rintro e w4 ⟨a3, cp3, rfl, HO4, G4⟩; have hg4 := Grows.trans hg3 G4) | (go_at_call 21; (with_reducible refine (HR1.out _ _ _ HO4.bs).mono ?_); rintro e w5 ⟨a4, cp4, rfl, HO5, G5⟩; have hg5 := Grows.trans hg4 G5) | (go_at_call 21; (with_reducible refine (HR2.out _ _ _ (BT.out _ hg5)).mono ?_); rintro e w6 ⟨a5, cp5, rfl, HO6, G6⟩; have hg6 := Grows.trans hg5 G6))
  have g36 := Grows.trans G4 (Grows.trans G5 G6)
  have g46 := Grows.trans G5 G6
  have B1 := Lib.hid (HO1.bs.grows hg6)
  have B3 := Lib.hid (HO3.bs.grows g36)
  have B4 := Lib.hid (HO4.bs.grows g46)
  have B5 := Lib.hid (HO5.bs.grows G6)
  have B6 := Lib.hid HO6.bs
  have gw := Lib.hid (Grows.trans G1 hg6)
  clear HO1 HO2 HO3 HO4 HO5 HO6 G1 G2 G3 G4 G5 G6 hg2 hg3 hg4 hg5 hg6 g36 g46 BT HS1 HS2 HN HR1 HR2 Hnew
  go_upto_region 10 with (first | (go_at_call 24; (with_reducible refine (HX0.out _ _ _ (B1.out.grows (by repeat' (first | (with_reducible exact Grows.refl _) | (with_reducible assumption) | (with_reducible refine Grows.alloc ?_ _) | (with_reducible refine Grows.drew ?_) | (with_reducible refine Grows.ext ?_ _ _))))).mono ?_); rintro e w' ⟨rfl, h10, d10, rfl⟩) | (go_at_call 24; (with_reducible refine (HX1.out _ _ _ (B1.out.grows (by repeat' (first | (with_reducible exact Grows.refl _) | (with_reducible assumption) | (with_reducible refine Grows.alloc ?_ _) | (with_reducible refine Grows.drew ?_) | (with_reducible refine Grows.ext ?_ _ _))))).mono ?_); rintro e w' ⟨rfl, h11, d11, rfl⟩) | (go_at_call 24; (with_reducible refine (HX2.out _ _ _ (B1.out.grows (by repeat' (first | (with_reducible exact Grows.refl _) | (with_reducible assumption) | (with_reducible refine Grows.alloc ?_ _) | (with_reducible refine Grows.drew ?_) | (with_reducible refine Grows.ext ?_ _ _))))).mono ?_); rintro e w' ⟨rfl, h12, d12, rfl⟩) | (go_at_call 24; (with_reducible refine (HX3.out _ _ _ (B1.out.grows (by repeat' (first | (with_reducible exact Grows.refl _) | (with_reducible assumption) | (with_reducible refine Grows.alloc ?_ _) | (with_reducible refine Grows.drew ?_) | (with_reducible refine Grows.ext ?_ _ _))))).mono ?_); rintro e w' ⟨rfl, h13, d13, rfl⟩) | (go_at_call 24; (with_reducible refine (HX4.out _ _ _ (B1.out.grows (by repeat' (first | (with_reducible exact Grows.refl _) | (with_reducible assumption) | (with_reducible refine Grows.alloc ?_ _) | (with_reducible refine Grows.drew ?_) | (with_reducible refine Grows.ext ?_ _ _))))).mono ?_); rintro e w' ⟨rfl, h14, d14, rfl⟩) | (go_at_call 25; (with_reducible refine (HB0.out _ _ _ (B1.out.grows (by repeat' (first | (with_reducible exact Grows.refl _) | (with_reducible assumption) | (with_reducible refine Grows.alloc ?_ _) | (with_reducible refine Grows.drew ?_) | (with_reducible refine Grows.ext ?_ _ _))))).mono ?_); rintro e w' ⟨rfl, h20, d20, rfl⟩) | (go_at_call 25; (with_reducible refine (HB1.out _ _ _ (B1.out.grows (by repeat' (first | (with_reducible exact Grows.refl _) | (with_reducible assumption) | (with_reducible refine Grows.alloc ?_ _) | (with_reducible refine Grows.drew ?_) | (with_reducible refine Grows.ext ?_ _ _))))).mono ?_); rintro e w' ⟨rfl, h21, d21, rfl⟩) | (go_at_call 25; (with_reducible refine (HB2.out _ _ _ (B1.out.grows (by repeat' (first | (with_reducible exact Grows.refl _) | (with_reducible assumption) | (with_reducible refine Grows.alloc ?_ _) | (with_reducible refine Grows.drew ?_) | (with_reducible refine Grows.ext ?_ _ _))))).mono ?_); rintro e w' ⟨rfl, h22, d22, rfl⟩) | (go_at_call 25; (with_reducible refine (HB3.out _ _ _ (B1.out.grows (by repeat' (first | (with_reducible exact Grows.refl _) | (with_reducible assumption) | (with_reducible refine Grows.alloc ?_ _) | (with_reducible refine Grows.drew ?_) | (with_reducible refine Grows.ext ?_ _ _))))).mono ?_); rintro e w' ⟨rfl, h23, d23, rfl⟩))
  obtain ⟨w7, hw7, g7⟩ : ∃ w7, ext w6 (h10 ++ (h11 ++ (h12 ++ (h13 ++ (h14 ++ (h20 ++ (h21 ++ (h22 ++ h23)))))))) d23 = w7 ∧ Grows w6 w7 := ⟨_, rfl, ⟨_, _, rfl⟩⟩
  rw [hw7]
  clear hw7
  go_wp2_with (first | (go_at_call 31; (with_reducible refine (HP0.out _ _ _ (B1.out.grows (by repeat' (first | (with_reducible exact Grows.refl _) | (with_reducible assumption) | (with_reducible refine Grows.alloc ?_ _) | (with_reducible refine Grows.drew ?_) | (with_reducible refine Grows.ext ?_ _ _))))).mono ?_); rintro e v0 ⟨b0, c0, rfl, HI0, k0⟩; have q0 : Grows w6 v0 := Grows.trans (by repeat' (first | (with_reducible exact Grows.refl _) | (with_reducible assumption) | (with_reducible refine Grows.alloc ?_ _) | (with_reducible refine Grows.drew ?_) | (with_reducible refine Grows.ext ?_ _ _))) k0) | (go_at_call 30; (with_reducible refine (ints_eq _ _ 2 _ _ [8, 16] rfl (by omega) _ (HI0.grows (by repeat' (first | (with_reducible exact Grows.refl _) | (with_reducible assumption) | (with_reducible refine Grows.alloc ?_ _) | (with_reducible refine Grows.drew ?_) | (with_reducible refine Grows.ext ?_ _ _)))) (is_lit2 _ 8 16)).mono ?_); rintro e w' ⟨rfl, h30, d30, rfl⟩) | (go_at_call 31; (with_reducible refine (HP1.out _ _ _ (B3.out.grows (by repeat' (first | (with_reducible exact Grows.refl _) | (with_reducible assumption) | (with_reducible refine Grows.alloc ?_ _) | (with_reducible refine Grows.drew ?_) | (with_reducible refine Grows.ext ?_ _ _))))).mono ?_); rintro e v1 ⟨b1, c1, rfl, HI1, k1⟩; have q1 : Grows w6 v1 := Grows.trans (by repeat' (first | (with_reducible exact Grows.refl _) | (with_reducible assumption) | (with_reducible refine Grows.alloc ?_ _) | (with_reducible refine Grows.drew ?_) | (with_reducible refine Grows.ext ?_ _ _))) k1) | (go_at_call 30; (with_reducible refine (ints_eq _ _ 2 _ _ [3, 16] rfl (by omega) _ (HI1.grows (by repeat' (first | (with_reducible exact Grows.refl _) | (with_reducible assumption) | (with_reducible refine Grows.alloc ?_ _) | (with_reducible refine Grows.drew ?_) | (with_reducible refine Grows.ext ?_ _ _)))) (is_lit2 _ 3 16)).mono ?_); rintro e w' ⟨rfl, h31, d31, rfl⟩) | (go_at_call 31; (with_reducible refine (HP2.out _ _ _ (B4.out.grows (by repeat' (first | (with_reducible exact Grows.refl _) | (with_reducible assumption) | (with_reducible refine Grows.alloc ?_ _) | (with_reducible refine Grows.drew ?_) | (with_reducible refine Grows.ext ?_ _ _))))).mono ?_); rintro e v2 ⟨b2, c2, rfl, HI2, k2⟩; have q2 : Grows w6 v2 := Grows.trans (by repeat' (first | (with_reducible exact Grows.refl _) | (with_reducible assumption) | (with_reducible refine Grows.alloc ?_ _) | (with_reducible refine Grows.drew ?_) | (with_reducible refine Grows.ext ?_ _ _))) k2) | (go_at_call 31; (with_reducible refine (HP3.out _ _ _ (B5.out.grows (by repeat' (first | (with_reducible exact Grows.refl _) | (with_reducible assumption) | (with_reducible refine Grows.alloc ?_ _) | (with_reducible refine Grows.drew ?_) | (with_reducible refine Grows.ext ?_ _ _))))).mono ?_); rintro e v3 ⟨b3, c3, rfl, HI3, k3⟩; have q3 : Grows w6 v3 := Grows.trans (by repeat' (first | (with_reducible exact Grows.refl _) | (with_reducible assumption) | (with_reducible refine Grows.alloc ?_ _) | (with_reducible refine Grows.drew ?_) | (with_reducible refine Grows.ext ?_ _ _))) k3) | (go_at_call 30; (with_reducible refine (ints_eq _ _ 1 _ _ [24] rfl (by omega) _ (HI3.grows (by repeat' (first | (with_reducible exact Grows.refl _) | (with_reducible assumption) | (with_reducible refine Grows.alloc ?_ _) | (with_reducible refine Grows.drew ?_) | (with_reducible refine Grows.ext ?_ _ _)))) (is_lit1 _ 24)).mono ?_); rintro e w' ⟨rfl, h33, d33, rfl⟩) | (go_at_call 31; (with_reducible refine (HP4.out _ _ _ (B6.out.grows (by repeat' (first | (with_reducible exact Grows.refl _) | (with_reducible assumption) | (with_reducible refine Grows.alloc ?_ _) | (with_reducible refine Grows.drew ?_) | (with_reducible refine Grows.ext ?_ _ _))))).mono ?_); rintro e v4 ⟨b4, c4, rfl, HI4, k4⟩; have q4 : Grows w6 v4 := Grows.trans (by repeat' (first | (with_reducible exact Grows.refl _) | (with_reducible assumption) | (with_reducible refine Grows.alloc ?_ _) | (with_reducible refine Grows.drew ?_) | (with_reducible refine Grows.ext ?_ _ _))) k4) | (go_at_call 30; (with_reducible refine (ints_eq _ _ 1 _ _ [8] rfl (by omega) _ (HI4.grows (by repeat' (first | (with_reducible exact Grows.refl _) | (with_reducible assumption) | (with_reducible refine Grows.alloc ?_ _) | (with_reducible refine Grows.drew ?_) | (with_reducible refine Grows.ext ?_ _ _)))) (is_lit1 _ 8)).mono ?_); rintro e w' ⟨rfl, h34, d34, rfl⟩))
  go_returns
  exact ⟨rfl, Grows.trans gw.out (by repeat' (first | (with_reducible exact Grows.refl _) | (with_reducible assumption) | (with_reducible refine Grows.alloc ?_ _) | (with_reducible refine Grows.drew ?_) | (with_reducible refine Grows.ext ?_ _ _)))⟩
end Go.Proofs.Ytkkhcpddpnhemaa
