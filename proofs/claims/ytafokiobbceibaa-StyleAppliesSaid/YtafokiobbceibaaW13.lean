/-
  Walk: the law StyleTurns.
-/
import Derived.Test.YtafokiobbceibaaRows
import Derived.Test.YtafokiobbceibaaLt
import Derived.Test.YtafokiobbceibaaDefs
import Derived.Test.YtafokiobbceibaaBits
import Derived.Test.YtafokiobbceibaaMaps
import Derived.Test.YtafokiobbceibaaW5
import Derived.Test.YtafokiobbceibaaW6
import Derived.Test.YtafokiobbceibaaW7
import Derived.Test.YtafokiobbceibaaRun
import Derived.Test.YtafokiobbceibaaW8
import Derived.Test.YtafokiobbceibaaW9
import Derived.Test.YtafokiobbceibaaW10
import Derived.Test.YtafokiobbceibaaW11
import Derived.Test.YtafokiobbceibaaW12
import Derived.WalkKit
import Derived.WalkSpells
import Derived.WalkLawsBesides
import Derived.Handy
import Derived.Laws.EntriesVeiled
import Derived.Lib.Hide
import Derived.Deep.Light
import Derived.Deep.LoopGhost
import Derived.BigGuardPart
import Derived.BigQuiet
import Derived.Deep.QuietTactic
import Derived.Deep.RegionHeld3
import Derived.Test.YtafokiobbceibaaReg
import Derived.Test.YtafokiobbceibaaReg3
import Derived.Test.YtafokiobbceibaaReg4
namespace Go.Proofs.Ytafokiobbceibaa
open Go.RowKit


theorem bv_xx (b m : BitVec 64) : b ^^^ m ^^^ m = b := by rw [BitVec.xor_assoc, BitVec.xor_self, BitVec.xor_zero]
theorem xor_xor {a m : Int} (ha : In64 a) : bits .xor .i64 (bits .xor .i64 a m) m = a := by
  rw [xor_eq, xor_eq, of_toInt, bv_xx, toInt_of ha]
theorem xor_ne {a : Int} (_ha : In64 a) : (bits .xor .i64 a 16 == a) = false := by
  rw [beq_eq_false_iff_ne]
  intro h
  rw [xor_eq] at h
  have h2 := congrArg (BitVec.ofInt 64) h
  rw [of_toInt] at h2
  have h3 : BitVec.ofInt 64 16 = 0#64 := by
    have := congrArg (fun x => BitVec.ofInt 64 a ^^^ x) h2
    simp only [← BitVec.xor_assoc, BitVec.xor_self, BitVec.zero_xor] at this
    exact this
  exact absurd h3 (by decide)
theorem and_ne_iff (x m : Int) : (bits .and .i64 x m != 0) = (BitVec.ofInt 64 x &&& BitVec.ofInt 64 m != 0#64) := by
  rw [and_eq]
  rw [Bool.eq_iff_iff, bne_iff_ne, bne_iff_ne]
  apply not_congr
  constructor
  · intro h
    have := congrArg (BitVec.ofInt 64) h
    rw [of_toInt] at this
    rw [this]
    rfl
  · intro h
    rw [h]
    rfl
theorem inv_xor (a : Int) : invB (bits .xor .i64 a 16) = !invB a := by
  unfold invB
  rw [and_ne_iff, and_ne_iff, xor_eq, of_toInt]
  generalize BitVec.ofInt 64 a = b
  rw [show BitVec.ofInt 64 16 = 16#64 by decide]
  have h1 : ∀ c : BitVec 64, (c &&& 16#64 != 0#64) = c[4] := by
    intro c
    cases hc : c[4]
    · simp only [bne_eq_false_iff_eq]
      apply BitVec.eq_of_getLsbD_eq
      intro i hi
      by_cases h4 : i = 4
      · subst h4; simp [hc]
      · have : (16#64).getLsbD i = false := by
          have h6 : i < 64 := hi
          revert h4
          revert i
          decide
        simp [this]
    · simp only [bne_iff_ne, ne_eq]
      intro h
      have := congrArg (fun x => x.getLsbD 4) h
      simp [hc] at this
  rw [h1, h1]
  simp
theorem hid_xor (a : Int) : hidB (bits .xor .i64 a 16) = hidB a := by
  unfold hidB
  rw [and_ne_iff, and_ne_iff, xor_eq, of_toInt]
  generalize BitVec.ofInt 64 a = b
  rw [show BitVec.ofInt 64 16 = 16#64 by decide, show BitVec.ofInt 64 32 = 32#64 by decide]
  have h : (b ^^^ 16#64) &&& 32#64 = b &&& 32#64 := by
    apply BitVec.eq_of_getLsbD_eq
    intro i hi
    simp only [BitVec.getLsbD_and, BitVec.getLsbD_xor]
    have h6 : (32#64).getLsbD i = true → (16#64).getLsbD i = false := by
      revert i
      decide
    cases h32 : (32#64).getLsbD i
    · simp
    · rw [h6 h32]
      simp
  rw [h]

set_option maxHeartbeats 2000000 in
theorem inv_any (a u fk fn bk bn lk ln : Int) (w : World) : Calls Try.prog 26 #[.agg #[.int .i64 a, .int .i64 u, .int .i64 fk, .int .i64 fn, .int .i64 bk, .int .i64 bn, .int .i64 lk, .int .i64 ln]] w (Ret (.agg #[.int .i64 (bits .xor .i64 a 16), .int .i64 u, .int .i64 fk, .int .i64 fn, .int .i64 bk, .int .i64 bn, .int .i64 lk, .int .i64 ln]) w) := by
  go_enter Try.func26, Try.ntmps26
  go_wp2
  go_returns
  exact ⟨rfl, (by repeat' (first | (with_reducible exact Grows.refl _) | (with_reducible refine Grows.alloc ?_ _) | (with_reducible refine Grows.drew ?_) | (with_reducible refine Grows.ext ?_ _ _)))⟩

set_option maxRecDepth 100000 in
set_option maxHeartbeats 8000000 in
theorem turns_a (a u fk fn bk bn lk ln : Int) (hi : In64 a) (e1 : invB a = false) (e2 : hidB a = false) (w : World) : Calls Try.prog 9 #[.agg #[.int .i64 a, .int .i64 u, .int .i64 fk, .int .i64 fn, .int .i64 bk, .int .i64 bn, .int .i64 lk, .int .i64 ln]] w (Ret (.bool true) w) := by
  have hs1 := fun W => seen_any a u fk fn bk bn lk ln W
  have hs2 := fun W => seen_any (bits .xor .i64 a 16) u fk fn bk bn lk ln W
  have hv1 := fun W => inv_any a u fk fn bk bn lk ln W
  have hv2 := fun W => inv_any (bits .xor .i64 a 16) u fk fn bk bn lk ln W
  unfold seenV at hs1 hs2
  rw [inv_xor, hid_xor, e1, e2] at hs2
  rw [e1, e2] at hs1
  rw [xor_xor hi] at hv2
  simp only [pick2, beq_self_eq_true, Bool.true_beq, Bool.not_false, Bool.false_eq_true, if_true, if_false] at hs1 hs2
  have hne := xor_ne hi
  have hh : (bits .and .i64 a 32 != 0) = false := e2
  clear e1 e2 hi
  generalize bits .xor .i64 a 16 = a2 at *
  have Hs1 := Lib.hid hs1
  have Hs2 := Lib.hid hs2
  have Hv1 := Lib.hid hv1
  have Hv2 := Lib.hid hv2
  clear hs1 hs2 hv1 hv2
  go_enter Try.func9, Try.ntmps9
  go_wp2_with (first | (go_at_call 16; (with_reducible refine (works_true _).mono ?_); rintro e w' ⟨rfl, h1, d1, rfl⟩) | (go_at_call 26; (with_reducible refine (Hv1.out _).mono ?_); rintro e w' ⟨rfl, h2, d2, rfl⟩) | (go_at_call 24; (with_reducible refine (Hs1.out _).mono ?_); rintro e w' ⟨rfl, h3, d3, rfl⟩) | (go_at_call 24; (with_reducible refine (Hs2.out _).mono ?_); rintro e w' ⟨rfl, h4, d4, rfl⟩))
  refine wp_region_grow (by kernel_rfl) (by kernel_rfl) ?_
  repeat (first | go_big_quiet_step ((first | (rename_i xg; go_at_call 26; (with_reducible refine (Hv2.out _).mono ?_); rintro _ _ ⟨rfl, h0, d0, rfl⟩; exact ⟨rfl, Gr.mk (xg.h ++ h0) d0, by simp only [ext_ext, Gr.h_mk, Gr.d_mk]⟩))) | quiet_step ((first | (rename_i xg; go_at_call 26; (with_reducible refine (Hv2.out _).mono ?_); rintro _ _ ⟨rfl, h0, d0, rfl⟩; exact ⟨rfl, Gr.mk (xg.h ++ h0) d0, by simp only [ext_ext, Gr.h_mk, Gr.d_mk, Array.append_assoc]⟩))))
  refine wpQuiet_nil ?_
  rintro _ ⟨g29, rfl⟩
  go_wp2
  all_goals (go_returns; exact ⟨rfl, (by repeat' (first | (with_reducible exact Grows.refl _) | (with_reducible refine Grows.alloc ?_ _) | (with_reducible refine Grows.drew ?_) | (with_reducible refine Grows.ext ?_ _ _)))⟩)

set_option maxRecDepth 100000 in
set_option maxHeartbeats 8000000 in
theorem turns_b (a u fk fn bk bn lk ln : Int) (hi : In64 a) (e1 : invB a = true) (e2 : hidB a = false) (w : World) : Calls Try.prog 9 #[.agg #[.int .i64 a, .int .i64 u, .int .i64 fk, .int .i64 fn, .int .i64 bk, .int .i64 bn, .int .i64 lk, .int .i64 ln]] w (Ret (.bool true) w) := by
  have hs1 := fun W => seen_any a u fk fn bk bn lk ln W
  have hs2 := fun W => seen_any (bits .xor .i64 a 16) u fk fn bk bn lk ln W
  have hv1 := fun W => inv_any a u fk fn bk bn lk ln W
  have hv2 := fun W => inv_any (bits .xor .i64 a 16) u fk fn bk bn lk ln W
  unfold seenV at hs1 hs2
  rw [inv_xor, hid_xor, e1, e2] at hs2
  rw [e1, e2] at hs1
  rw [xor_xor hi] at hv2
  simp only [pick2, beq_self_eq_true, Bool.true_beq, Bool.not_true, Bool.false_eq_true, if_true, if_false] at hs1 hs2
  have hne := xor_ne hi
  have hh : (bits .and .i64 a 32 != 0) = false := e2
  clear e1 e2 hi
  generalize bits .xor .i64 a 16 = a2 at *
  have Hs1 := Lib.hid hs1
  have Hs2 := Lib.hid hs2
  have Hv1 := Lib.hid hv1
  have Hv2 := Lib.hid hv2
  clear hs1 hs2 hv1 hv2
  go_enter Try.func9, Try.ntmps9
  go_wp2_with (first | (go_at_call 16; (with_reducible refine (works_true _).mono ?_); rintro e w' ⟨rfl, h1, d1, rfl⟩) | (go_at_call 26; (with_reducible refine (Hv1.out _).mono ?_); rintro e w' ⟨rfl, h2, d2, rfl⟩) | (go_at_call 24; (with_reducible refine (Hs1.out _).mono ?_); rintro e w' ⟨rfl, h3, d3, rfl⟩) | (go_at_call 24; (with_reducible refine (Hs2.out _).mono ?_); rintro e w' ⟨rfl, h4, d4, rfl⟩))
  refine wp_region_grow (by kernel_rfl) (by kernel_rfl) ?_
  repeat (first | go_big_quiet_step ((first | (rename_i xg; go_at_call 26; (with_reducible refine (Hv2.out _).mono ?_); rintro _ _ ⟨rfl, h0, d0, rfl⟩; exact ⟨rfl, Gr.mk (xg.h ++ h0) d0, by simp only [ext_ext, Gr.h_mk, Gr.d_mk]⟩))) | quiet_step ((first | (rename_i xg; go_at_call 26; (with_reducible refine (Hv2.out _).mono ?_); rintro _ _ ⟨rfl, h0, d0, rfl⟩; exact ⟨rfl, Gr.mk (xg.h ++ h0) d0, by simp only [ext_ext, Gr.h_mk, Gr.d_mk, Array.append_assoc]⟩))))
  refine wpQuiet_nil ?_
  rintro _ ⟨g30, rfl⟩
  go_wp2
  all_goals (go_returns; exact ⟨rfl, (by repeat' (first | (with_reducible exact Grows.refl _) | (with_reducible refine Grows.alloc ?_ _) | (with_reducible refine Grows.drew ?_) | (with_reducible refine Grows.ext ?_ _ _)))⟩)

set_option maxRecDepth 100000 in
set_option maxHeartbeats 8000000 in
theorem turns_c (a u fk fn bk bn lk ln : Int) (hi : In64 a) (e1 : invB a = false) (e2 : hidB a = true) (w : World) : Calls Try.prog 9 #[.agg #[.int .i64 a, .int .i64 u, .int .i64 fk, .int .i64 fn, .int .i64 bk, .int .i64 bn, .int .i64 lk, .int .i64 ln]] w (Ret (.bool true) w) := by
  have hs1 := fun W => seen_any a u fk fn bk bn lk ln W
  have hs2 := fun W => seen_any (bits .xor .i64 a 16) u fk fn bk bn lk ln W
  have hv1 := fun W => inv_any a u fk fn bk bn lk ln W
  have hv2 := fun W => inv_any (bits .xor .i64 a 16) u fk fn bk bn lk ln W
  unfold seenV at hs1 hs2
  rw [inv_xor, hid_xor, e1, e2] at hs2
  rw [e1, e2] at hs1
  rw [xor_xor hi] at hv2
  simp only [pick2, beq_self_eq_true, Bool.false_beq, Bool.not_true, Bool.not_false, Bool.false_eq_true, if_true, if_false] at hs1 hs2
  have hne := xor_ne hi
  have hh : (bits .and .i64 a 32 != 0) = true := e2
  clear e1 e2 hi
  generalize bits .xor .i64 a 16 = a2 at *
  have Hs1 := Lib.hid hs1
  have Hs2 := Lib.hid hs2
  have Hv1 := Lib.hid hv1
  have Hv2 := Lib.hid hv2
  clear hs1 hs2 hv1 hv2
  go_enter Try.func9, Try.ntmps9
  go_wp2_with (first | (go_at_call 16; (with_reducible refine (works_true _).mono ?_); rintro e w' ⟨rfl, h1, d1, rfl⟩) | (go_at_call 26; (with_reducible refine (Hv1.out _).mono ?_); rintro e w' ⟨rfl, h2, d2, rfl⟩) | (go_at_call 24; (with_reducible refine (Hs1.out _).mono ?_); rintro e w' ⟨rfl, h3, d3, rfl⟩) | (go_at_call 24; (with_reducible refine (Hs2.out _).mono ?_); rintro e w' ⟨rfl, h4, d4, rfl⟩))
  refine wp_region_grow (by kernel_rfl) (by kernel_rfl) ?_
  repeat (first | go_big_quiet_step ((first | (rename_i xg; go_at_call 26; (with_reducible refine (Hv2.out _).mono ?_); rintro _ _ ⟨rfl, h0, d0, rfl⟩; exact ⟨rfl, Gr.mk (xg.h ++ h0) d0, by simp only [ext_ext, Gr.h_mk, Gr.d_mk]⟩))) | quiet_step ((first | (rename_i xg; go_at_call 26; (with_reducible refine (Hv2.out _).mono ?_); rintro _ _ ⟨rfl, h0, d0, rfl⟩; exact ⟨rfl, Gr.mk (xg.h ++ h0) d0, by simp only [ext_ext, Gr.h_mk, Gr.d_mk, Array.append_assoc]⟩))))
  refine wpQuiet_nil ?_
  rintro _ ⟨g31, rfl⟩
  go_wp2
  all_goals (go_returns; exact ⟨rfl, (by repeat' (first | (with_reducible exact Grows.refl _) | (with_reducible refine Grows.alloc ?_ _) | (with_reducible refine Grows.drew ?_) | (with_reducible refine Grows.ext ?_ _ _)))⟩)

set_option maxRecDepth 100000 in
set_option maxHeartbeats 8000000 in
theorem turns_d (a u fk fn bk bn lk ln : Int) (hi : In64 a) (e1 : invB a = true) (e2 : hidB a = true) (hk : fk = bk) (hn : fn = bn) (w : World) : Calls Try.prog 9 #[.agg #[.int .i64 a, .int .i64 u, .int .i64 fk, .int .i64 fn, .int .i64 bk, .int .i64 bn, .int .i64 lk, .int .i64 ln]] w (Ret (.bool true) w) := by
  have hs1 := fun W => seen_any a u fk fn bk bn lk ln W
  have hs2 := fun W => seen_any (bits .xor .i64 a 16) u fk fn bk bn lk ln W
  have hv1 := fun W => inv_any a u fk fn bk bn lk ln W
  have hv2 := fun W => inv_any (bits .xor .i64 a 16) u fk fn bk bn lk ln W
  unfold seenV at hs1 hs2
  rw [inv_xor, hid_xor, e1, e2] at hs2
  rw [e1, e2] at hs1
  rw [xor_xor hi] at hv2
  simp only [pick2, beq_self_eq_true, Bool.false_beq, Bool.not_true, Bool.false_eq_true, if_true, if_false] at hs1 hs2
  have hne := xor_ne hi
  have hh : (bits .and .i64 a 32 != 0) = true := e2
  clear e1 e2 hi
  generalize bits .xor .i64 a 16 = a2 at *
  have Hs1 := Lib.hid hs1
  have Hs2 := Lib.hid hs2
  have Hv1 := Lib.hid hv1
  have Hv2 := Lib.hid hv2
  clear hs1 hs2 hv1 hv2
  subst hk
  subst hn
  go_enter Try.func9, Try.ntmps9
  go_wp2_with (first | (go_at_call 16; (with_reducible refine (works_true _).mono ?_); rintro e w' ⟨rfl, h1, d1, rfl⟩) | (go_at_call 26; (with_reducible refine (Hv1.out _).mono ?_); rintro e w' ⟨rfl, h2, d2, rfl⟩) | (go_at_call 24; (with_reducible refine (Hs1.out _).mono ?_); rintro e w' ⟨rfl, h3, d3, rfl⟩) | (go_at_call 24; (with_reducible refine (Hs2.out _).mono ?_); rintro e w' ⟨rfl, h4, d4, rfl⟩))
  refine wp_region_grow (by kernel_rfl) (by kernel_rfl) ?_
  repeat (first | go_big_quiet_step ((first | (rename_i xg; go_at_call 26; (with_reducible refine (Hv2.out _).mono ?_); rintro _ _ ⟨rfl, h0, d0, rfl⟩; exact ⟨rfl, Gr.mk (xg.h ++ h0) d0, by simp only [ext_ext, Gr.h_mk, Gr.d_mk]⟩))) | quiet_step ((first | (rename_i xg; go_at_call 26; (with_reducible refine (Hv2.out _).mono ?_); rintro _ _ ⟨rfl, h0, d0, rfl⟩; exact ⟨rfl, Gr.mk (xg.h ++ h0) d0, by simp only [ext_ext, Gr.h_mk, Gr.d_mk, Array.append_assoc]⟩))))
  refine wpQuiet_nil ?_
  rintro _ ⟨g32, rfl⟩
  go_wp2
  all_goals (go_returns; exact ⟨rfl, (by repeat' (first | (with_reducible exact Grows.refl _) | (with_reducible refine Grows.alloc ?_ _) | (with_reducible refine Grows.drew ?_) | (with_reducible refine Grows.ext ?_ _ _)))⟩)

set_option maxRecDepth 100000 in
set_option maxHeartbeats 8000000 in
theorem turns_e (a u fk fn bk bn lk ln : Int) (hi : In64 a) (e1 : invB a = true) (e2 : hidB a = true) (hk : fk = bk) (hn : ¬ fn = bn) (w : World) : Calls Try.prog 9 #[.agg #[.int .i64 a, .int .i64 u, .int .i64 fk, .int .i64 fn, .int .i64 bk, .int .i64 bn, .int .i64 lk, .int .i64 ln]] w (Ret (.bool true) w) := by
  have hs1 := fun W => seen_any a u fk fn bk bn lk ln W
  have hs2 := fun W => seen_any (bits .xor .i64 a 16) u fk fn bk bn lk ln W
  have hv1 := fun W => inv_any a u fk fn bk bn lk ln W
  have hv2 := fun W => inv_any (bits .xor .i64 a 16) u fk fn bk bn lk ln W
  unfold seenV at hs1 hs2
  rw [inv_xor, hid_xor, e1, e2] at hs2
  rw [e1, e2] at hs1
  rw [xor_xor hi] at hv2
  simp only [pick2, beq_self_eq_true, Bool.false_beq, Bool.not_true, Bool.false_eq_true, if_true, if_false] at hs1 hs2
  have hne := xor_ne hi
  have hh : (bits .and .i64 a 32 != 0) = true := e2
  clear e1 e2 hi
  generalize bits .xor .i64 a 16 = a2 at *
  have Hs1 := Lib.hid hs1
  have Hs2 := Lib.hid hs2
  have Hv1 := Lib.hid hv1
  have Hv2 := Lib.hid hv2
  clear hs1 hs2 hv1 hv2
  subst hk
  have n1 : (fn == bn) = false := by simpa using hn
  have n2 : (bn == fn) = false := by simpa using fun e => hn e.symm
  go_enter Try.func9, Try.ntmps9
  go_wp2_with (first | (go_at_call 16; (with_reducible refine (works_true _).mono ?_); rintro e w' ⟨rfl, h1, d1, rfl⟩) | (go_at_call 26; (with_reducible refine (Hv1.out _).mono ?_); rintro e w' ⟨rfl, h2, d2, rfl⟩) | (go_at_call 24; (with_reducible refine (Hs1.out _).mono ?_); rintro e w' ⟨rfl, h3, d3, rfl⟩) | (go_at_call 24; (with_reducible refine (Hs2.out _).mono ?_); rintro e w' ⟨rfl, h4, d4, rfl⟩))
  refine wp_region_grow (by kernel_rfl) (by kernel_rfl) ?_
  repeat (first | go_big_quiet_step ((first | (rename_i xg; go_at_call 26; (with_reducible refine (Hv2.out _).mono ?_); rintro _ _ ⟨rfl, h0, d0, rfl⟩; exact ⟨rfl, Gr.mk (xg.h ++ h0) d0, by simp only [ext_ext, Gr.h_mk, Gr.d_mk]⟩))) | quiet_step ((first | (rename_i xg; go_at_call 26; (with_reducible refine (Hv2.out _).mono ?_); rintro _ _ ⟨rfl, h0, d0, rfl⟩; exact ⟨rfl, Gr.mk (xg.h ++ h0) d0, by simp only [ext_ext, Gr.h_mk, Gr.d_mk, Array.append_assoc]⟩))))
  refine wpQuiet_nil ?_
  rintro _ ⟨g33, rfl⟩
  go_wp2
  all_goals (go_returns; exact ⟨rfl, (by repeat' (first | (with_reducible exact Grows.refl _) | (with_reducible refine Grows.alloc ?_ _) | (with_reducible refine Grows.drew ?_) | (with_reducible refine Grows.ext ?_ _ _)))⟩)

set_option maxRecDepth 100000 in
set_option maxHeartbeats 8000000 in
theorem turns_f (a u fk fn bk bn lk ln : Int) (hi : In64 a) (e1 : invB a = true) (e2 : hidB a = true) (hk : ¬ fk = bk) (w : World) : Calls Try.prog 9 #[.agg #[.int .i64 a, .int .i64 u, .int .i64 fk, .int .i64 fn, .int .i64 bk, .int .i64 bn, .int .i64 lk, .int .i64 ln]] w (Ret (.bool true) w) := by
  have hs1 := fun W => seen_any a u fk fn bk bn lk ln W
  have hs2 := fun W => seen_any (bits .xor .i64 a 16) u fk fn bk bn lk ln W
  have hv1 := fun W => inv_any a u fk fn bk bn lk ln W
  have hv2 := fun W => inv_any (bits .xor .i64 a 16) u fk fn bk bn lk ln W
  unfold seenV at hs1 hs2
  rw [inv_xor, hid_xor, e1, e2] at hs2
  rw [e1, e2] at hs1
  rw [xor_xor hi] at hv2
  simp only [pick2, beq_self_eq_true, Bool.false_beq, Bool.not_true, Bool.false_eq_true, if_true, if_false] at hs1 hs2
  have hne := xor_ne hi
  have hh : (bits .and .i64 a 32 != 0) = true := e2
  clear e1 e2 hi
  generalize bits .xor .i64 a 16 = a2 at *
  have Hs1 := Lib.hid hs1
  have Hs2 := Lib.hid hs2
  have Hv1 := Lib.hid hv1
  have Hv2 := Lib.hid hv2
  clear hs1 hs2 hv1 hv2
  have n1 : (fk == bk) = false := by simpa using hk
  have n2 : (bk == fk) = false := by simpa using fun e => hk e.symm
  go_enter Try.func9, Try.ntmps9
  go_wp2_with (first | (go_at_call 16; (with_reducible refine (works_true _).mono ?_); rintro e w' ⟨rfl, h1, d1, rfl⟩) | (go_at_call 26; (with_reducible refine (Hv1.out _).mono ?_); rintro e w' ⟨rfl, h2, d2, rfl⟩) | (go_at_call 24; (with_reducible refine (Hs1.out _).mono ?_); rintro e w' ⟨rfl, h3, d3, rfl⟩) | (go_at_call 24; (with_reducible refine (Hs2.out _).mono ?_); rintro e w' ⟨rfl, h4, d4, rfl⟩))
  refine wp_region_grow (by kernel_rfl) (by kernel_rfl) ?_
  repeat (first | go_big_quiet_step ((first | (rename_i xg; go_at_call 26; (with_reducible refine (Hv2.out _).mono ?_); rintro _ _ ⟨rfl, h0, d0, rfl⟩; exact ⟨rfl, Gr.mk (xg.h ++ h0) d0, by simp only [ext_ext, Gr.h_mk, Gr.d_mk]⟩))) | quiet_step ((first | (rename_i xg; go_at_call 26; (with_reducible refine (Hv2.out _).mono ?_); rintro _ _ ⟨rfl, h0, d0, rfl⟩; exact ⟨rfl, Gr.mk (xg.h ++ h0) d0, by simp only [ext_ext, Gr.h_mk, Gr.d_mk, Array.append_assoc]⟩))))
  refine wpQuiet_nil ?_
  rintro _ ⟨g34, rfl⟩
  go_wp2
  all_goals (go_returns; exact ⟨rfl, (by repeat' (first | (with_reducible exact Grows.refl _) | (with_reducible refine Grows.alloc ?_ _) | (with_reducible refine Grows.drew ?_) | (with_reducible refine Grows.ext ?_ _ _)))⟩)

theorem lawTurns_true (a u fk fn bk bn lk ln : Int) (hi : In64 a) (w : World) : Calls Try.prog 9 #[.agg #[.int .i64 a, .int .i64 u, .int .i64 fk, .int .i64 fn, .int .i64 bk, .int .i64 bn, .int .i64 lk, .int .i64 ln]] w (Ret (.bool true) w) := by
  cases e1 : invB a <;> cases e2 : hidB a
  · exact turns_a a u fk fn bk bn lk ln hi e1 e2 w
  · exact turns_c a u fk fn bk bn lk ln hi e1 e2 w
  · exact turns_b a u fk fn bk bn lk ln hi e1 e2 w
  · by_cases hk : fk = bk
    · by_cases hn : fn = bn
      · exact turns_d a u fk fn bk bn lk ln hi e1 e2 hk hn w
      · exact turns_e a u fk fn bk bn lk ln hi e1 e2 hk hn w
    · exact turns_f a u fk fn bk bn lk ln hi e1 e2 hk w
end Go.Proofs.Ytafokiobbceibaa
