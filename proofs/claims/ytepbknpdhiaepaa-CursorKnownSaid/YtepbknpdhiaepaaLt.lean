/-
  Sums of sizes, held below one another: the side conditions of the walk's rules on worlds. No program in sight.
-/
import Derived.Test.YtepbknpdhiaepaaExt
namespace Go.Proofs.Ytepbknpdhiaepaa
@[go_sem] theorem lt_self1 (a c0 : Nat) : a < a + 1 + c0 := by omega
@[go_sem] theorem lt_up1 (a b c0 : Nat) (h : a < b) : a < b + c0 := by omega
@[go_sem] theorem lt_self2 (a c0 c1 : Nat) : a < a + 1 + c0 + c1 := by omega
@[go_sem] theorem lt_up2 (a b c0 c1 : Nat) (h : a < b) : a < b + c0 + c1 := by omega
@[go_sem] theorem lt_self3 (a c0 c1 c2 : Nat) : a < a + 1 + c0 + c1 + c2 := by omega
@[go_sem] theorem lt_up3 (a b c0 c1 c2 : Nat) (h : a < b) : a < b + c0 + c1 + c2 := by omega
@[go_sem] theorem lt_self4 (a c0 c1 c2 c3 : Nat) : a < a + 1 + c0 + c1 + c2 + c3 := by omega
@[go_sem] theorem lt_up4 (a b c0 c1 c2 c3 : Nat) (h : a < b) : a < b + c0 + c1 + c2 + c3 := by omega
@[go_sem] theorem lt_self5 (a c0 c1 c2 c3 c4 : Nat) : a < a + 1 + c0 + c1 + c2 + c3 + c4 := by omega
@[go_sem] theorem lt_up5 (a b c0 c1 c2 c3 c4 : Nat) (h : a < b) : a < b + c0 + c1 + c2 + c3 + c4 := by omega
@[go_sem] theorem lt_self6 (a c0 c1 c2 c3 c4 c5 : Nat) : a < a + 1 + c0 + c1 + c2 + c3 + c4 + c5 := by omega
@[go_sem] theorem lt_up6 (a b c0 c1 c2 c3 c4 c5 : Nat) (h : a < b) : a < b + c0 + c1 + c2 + c3 + c4 + c5 := by omega
@[go_sem] theorem lt_self7 (a c0 c1 c2 c3 c4 c5 c6 : Nat) : a < a + 1 + c0 + c1 + c2 + c3 + c4 + c5 + c6 := by omega
@[go_sem] theorem lt_up7 (a b c0 c1 c2 c3 c4 c5 c6 : Nat) (h : a < b) : a < b + c0 + c1 + c2 + c3 + c4 + c5 + c6 := by omega
@[go_sem] theorem lt_self8 (a c0 c1 c2 c3 c4 c5 c6 c7 : Nat) : a < a + 1 + c0 + c1 + c2 + c3 + c4 + c5 + c6 + c7 := by omega
@[go_sem] theorem lt_up8 (a b c0 c1 c2 c3 c4 c5 c6 c7 : Nat) (h : a < b) : a < b + c0 + c1 + c2 + c3 + c4 + c5 + c6 + c7 := by omega
@[go_sem] theorem lt_self9 (a c0 c1 c2 c3 c4 c5 c6 c7 c8 : Nat) : a < a + 1 + c0 + c1 + c2 + c3 + c4 + c5 + c6 + c7 + c8 := by omega
@[go_sem] theorem lt_up9 (a b c0 c1 c2 c3 c4 c5 c6 c7 c8 : Nat) (h : a < b) : a < b + c0 + c1 + c2 + c3 + c4 + c5 + c6 + c7 + c8 := by omega
@[go_sem] theorem lt_self10 (a c0 c1 c2 c3 c4 c5 c6 c7 c8 c9 : Nat) : a < a + 1 + c0 + c1 + c2 + c3 + c4 + c5 + c6 + c7 + c8 + c9 := by omega
@[go_sem] theorem lt_up10 (a b c0 c1 c2 c3 c4 c5 c6 c7 c8 c9 : Nat) (h : a < b) : a < b + c0 + c1 + c2 + c3 + c4 + c5 + c6 + c7 + c8 + c9 := by omega
@[go_sem] theorem lt_self11 (a c0 c1 c2 c3 c4 c5 c6 c7 c8 c9 c10 : Nat) : a < a + 1 + c0 + c1 + c2 + c3 + c4 + c5 + c6 + c7 + c8 + c9 + c10 := by omega
@[go_sem] theorem lt_up11 (a b c0 c1 c2 c3 c4 c5 c6 c7 c8 c9 c10 : Nat) (h : a < b) : a < b + c0 + c1 + c2 + c3 + c4 + c5 + c6 + c7 + c8 + c9 + c10 := by omega
@[go_sem] theorem lt_self12 (a c0 c1 c2 c3 c4 c5 c6 c7 c8 c9 c10 c11 : Nat) : a < a + 1 + c0 + c1 + c2 + c3 + c4 + c5 + c6 + c7 + c8 + c9 + c10 + c11 := by omega
@[go_sem] theorem lt_up12 (a b c0 c1 c2 c3 c4 c5 c6 c7 c8 c9 c10 c11 : Nat) (h : a < b) : a < b + c0 + c1 + c2 + c3 + c4 + c5 + c6 + c7 + c8 + c9 + c10 + c11 := by omega
@[go_sem] theorem lt_self13 (a c0 c1 c2 c3 c4 c5 c6 c7 c8 c9 c10 c11 c12 : Nat) : a < a + 1 + c0 + c1 + c2 + c3 + c4 + c5 + c6 + c7 + c8 + c9 + c10 + c11 + c12 := by omega
@[go_sem] theorem lt_up13 (a b c0 c1 c2 c3 c4 c5 c6 c7 c8 c9 c10 c11 c12 : Nat) (h : a < b) : a < b + c0 + c1 + c2 + c3 + c4 + c5 + c6 + c7 + c8 + c9 + c10 + c11 + c12 := by omega
@[go_sem] theorem lt_self14 (a c0 c1 c2 c3 c4 c5 c6 c7 c8 c9 c10 c11 c12 c13 : Nat) : a < a + 1 + c0 + c1 + c2 + c3 + c4 + c5 + c6 + c7 + c8 + c9 + c10 + c11 + c12 + c13 := by omega
@[go_sem] theorem lt_up14 (a b c0 c1 c2 c3 c4 c5 c6 c7 c8 c9 c10 c11 c12 c13 : Nat) (h : a < b) : a < b + c0 + c1 + c2 + c3 + c4 + c5 + c6 + c7 + c8 + c9 + c10 + c11 + c12 + c13 := by omega
@[go_sem] theorem lt_self15 (a c0 c1 c2 c3 c4 c5 c6 c7 c8 c9 c10 c11 c12 c13 c14 : Nat) : a < a + 1 + c0 + c1 + c2 + c3 + c4 + c5 + c6 + c7 + c8 + c9 + c10 + c11 + c12 + c13 + c14 := by omega
@[go_sem] theorem lt_up15 (a b c0 c1 c2 c3 c4 c5 c6 c7 c8 c9 c10 c11 c12 c13 c14 : Nat) (h : a < b) : a < b + c0 + c1 + c2 + c3 + c4 + c5 + c6 + c7 + c8 + c9 + c10 + c11 + c12 + c13 + c14 := by omega
@[go_sem] theorem lt_self16 (a c0 c1 c2 c3 c4 c5 c6 c7 c8 c9 c10 c11 c12 c13 c14 c15 : Nat) : a < a + 1 + c0 + c1 + c2 + c3 + c4 + c5 + c6 + c7 + c8 + c9 + c10 + c11 + c12 + c13 + c14 + c15 := by omega
@[go_sem] theorem lt_up16 (a b c0 c1 c2 c3 c4 c5 c6 c7 c8 c9 c10 c11 c12 c13 c14 c15 : Nat) (h : a < b) : a < b + c0 + c1 + c2 + c3 + c4 + c5 + c6 + c7 + c8 + c9 + c10 + c11 + c12 + c13 + c14 + c15 := by omega
@[go_sem] theorem lt_self17 (a c0 c1 c2 c3 c4 c5 c6 c7 c8 c9 c10 c11 c12 c13 c14 c15 c16 : Nat) : a < a + 1 + c0 + c1 + c2 + c3 + c4 + c5 + c6 + c7 + c8 + c9 + c10 + c11 + c12 + c13 + c14 + c15 + c16 := by omega
@[go_sem] theorem lt_up17 (a b c0 c1 c2 c3 c4 c5 c6 c7 c8 c9 c10 c11 c12 c13 c14 c15 c16 : Nat) (h : a < b) : a < b + c0 + c1 + c2 + c3 + c4 + c5 + c6 + c7 + c8 + c9 + c10 + c11 + c12 + c13 + c14 + c15 + c16 := by omega
@[go_sem] theorem lt_self18 (a c0 c1 c2 c3 c4 c5 c6 c7 c8 c9 c10 c11 c12 c13 c14 c15 c16 c17 : Nat) : a < a + 1 + c0 + c1 + c2 + c3 + c4 + c5 + c6 + c7 + c8 + c9 + c10 + c11 + c12 + c13 + c14 + c15 + c16 + c17 := by omega
@[go_sem] theorem lt_up18 (a b c0 c1 c2 c3 c4 c5 c6 c7 c8 c9 c10 c11 c12 c13 c14 c15 c16 c17 : Nat) (h : a < b) : a < b + c0 + c1 + c2 + c3 + c4 + c5 + c6 + c7 + c8 + c9 + c10 + c11 + c12 + c13 + c14 + c15 + c16 + c17 := by omega
@[go_sem] theorem lt_self19 (a c0 c1 c2 c3 c4 c5 c6 c7 c8 c9 c10 c11 c12 c13 c14 c15 c16 c17 c18 : Nat) : a < a + 1 + c0 + c1 + c2 + c3 + c4 + c5 + c6 + c7 + c8 + c9 + c10 + c11 + c12 + c13 + c14 + c15 + c16 + c17 + c18 := by omega
@[go_sem] theorem lt_up19 (a b c0 c1 c2 c3 c4 c5 c6 c7 c8 c9 c10 c11 c12 c13 c14 c15 c16 c17 c18 : Nat) (h : a < b) : a < b + c0 + c1 + c2 + c3 + c4 + c5 + c6 + c7 + c8 + c9 + c10 + c11 + c12 + c13 + c14 + c15 + c16 + c17 + c18 := by omega
@[go_sem] theorem lt_self20 (a c0 c1 c2 c3 c4 c5 c6 c7 c8 c9 c10 c11 c12 c13 c14 c15 c16 c17 c18 c19 : Nat) : a < a + 1 + c0 + c1 + c2 + c3 + c4 + c5 + c6 + c7 + c8 + c9 + c10 + c11 + c12 + c13 + c14 + c15 + c16 + c17 + c18 + c19 := by omega
@[go_sem] theorem lt_up20 (a b c0 c1 c2 c3 c4 c5 c6 c7 c8 c9 c10 c11 c12 c13 c14 c15 c16 c17 c18 c19 : Nat) (h : a < b) : a < b + c0 + c1 + c2 + c3 + c4 + c5 + c6 + c7 + c8 + c9 + c10 + c11 + c12 + c13 + c14 + c15 + c16 + c17 + c18 + c19 := by omega
@[go_sem] theorem lt_self21 (a c0 c1 c2 c3 c4 c5 c6 c7 c8 c9 c10 c11 c12 c13 c14 c15 c16 c17 c18 c19 c20 : Nat) : a < a + 1 + c0 + c1 + c2 + c3 + c4 + c5 + c6 + c7 + c8 + c9 + c10 + c11 + c12 + c13 + c14 + c15 + c16 + c17 + c18 + c19 + c20 := by omega
@[go_sem] theorem lt_up21 (a b c0 c1 c2 c3 c4 c5 c6 c7 c8 c9 c10 c11 c12 c13 c14 c15 c16 c17 c18 c19 c20 : Nat) (h : a < b) : a < b + c0 + c1 + c2 + c3 + c4 + c5 + c6 + c7 + c8 + c9 + c10 + c11 + c12 + c13 + c14 + c15 + c16 + c17 + c18 + c19 + c20 := by omega
@[go_sem] theorem lt_self22 (a c0 c1 c2 c3 c4 c5 c6 c7 c8 c9 c10 c11 c12 c13 c14 c15 c16 c17 c18 c19 c20 c21 : Nat) : a < a + 1 + c0 + c1 + c2 + c3 + c4 + c5 + c6 + c7 + c8 + c9 + c10 + c11 + c12 + c13 + c14 + c15 + c16 + c17 + c18 + c19 + c20 + c21 := by omega
@[go_sem] theorem lt_up22 (a b c0 c1 c2 c3 c4 c5 c6 c7 c8 c9 c10 c11 c12 c13 c14 c15 c16 c17 c18 c19 c20 c21 : Nat) (h : a < b) : a < b + c0 + c1 + c2 + c3 + c4 + c5 + c6 + c7 + c8 + c9 + c10 + c11 + c12 + c13 + c14 + c15 + c16 + c17 + c18 + c19 + c20 + c21 := by omega
@[go_sem] theorem lt_self23 (a c0 c1 c2 c3 c4 c5 c6 c7 c8 c9 c10 c11 c12 c13 c14 c15 c16 c17 c18 c19 c20 c21 c22 : Nat) : a < a + 1 + c0 + c1 + c2 + c3 + c4 + c5 + c6 + c7 + c8 + c9 + c10 + c11 + c12 + c13 + c14 + c15 + c16 + c17 + c18 + c19 + c20 + c21 + c22 := by omega
@[go_sem] theorem lt_up23 (a b c0 c1 c2 c3 c4 c5 c6 c7 c8 c9 c10 c11 c12 c13 c14 c15 c16 c17 c18 c19 c20 c21 c22 : Nat) (h : a < b) : a < b + c0 + c1 + c2 + c3 + c4 + c5 + c6 + c7 + c8 + c9 + c10 + c11 + c12 + c13 + c14 + c15 + c16 + c17 + c18 + c19 + c20 + c21 + c22 := by omega
@[go_sem] theorem lt_self24 (a c0 c1 c2 c3 c4 c5 c6 c7 c8 c9 c10 c11 c12 c13 c14 c15 c16 c17 c18 c19 c20 c21 c22 c23 : Nat) : a < a + 1 + c0 + c1 + c2 + c3 + c4 + c5 + c6 + c7 + c8 + c9 + c10 + c11 + c12 + c13 + c14 + c15 + c16 + c17 + c18 + c19 + c20 + c21 + c22 + c23 := by omega
@[go_sem] theorem lt_up24 (a b c0 c1 c2 c3 c4 c5 c6 c7 c8 c9 c10 c11 c12 c13 c14 c15 c16 c17 c18 c19 c20 c21 c22 c23 : Nat) (h : a < b) : a < b + c0 + c1 + c2 + c3 + c4 + c5 + c6 + c7 + c8 + c9 + c10 + c11 + c12 + c13 + c14 + c15 + c16 + c17 + c18 + c19 + c20 + c21 + c22 + c23 := by omega
end Go.Proofs.Ytepbknpdhiaepaa
