/-
  Walk: Run, of a slice.
-/
import Derived.Test.YtafokiobbceibaaRows
import Derived.Test.YtafokiobbceibaaLt
import Derived.Test.YtafokiobbceibaaDefs
import Derived.Test.YtafokiobbceibaaBits
import Derived.Test.YtafokiobbceibaaMaps
import Derived.Test.YtafokiobbceibaaW2
import Derived.Test.YtafokiobbceibaaW3
import Derived.Test.YtafokiobbceibaaW4
import Derived.Test.YtafokiobbceibaaW5
import Derived.Test.YtafokiobbceibaaW6
import Derived.Test.YtafokiobbceibaaW7
import Derived.Test.YtafokiobbceibaaRun
import Derived.Test.YtafokiobbceibaaW8
import Derived.WalkKit
import Derived.WalkSpells
import Derived.WalkLawsBesides
import Derived.Handy
import Derived.Laws.EntriesVeiled
import Derived.Lib.Hide
import Derived.Deep.Light
import Derived.Deep.LoopGhost
import Derived.BigGuardPart
import Derived.BigQuiet
import Derived.Deep.QuietTactic
import Derived.Deep.RegionHeld3
import Derived.Test.YtafokiobbceibaaReg
import Derived.Test.YtafokiobbceibaaReg3
import Derived.Test.YtafokiobbceibaaReg4
namespace Go.Proofs.Ytafokiobbceibaa
open Go.RowKit


set_option maxRecDepth 100000 in
set_option maxHeartbeats 20000000 in
theorem run_any (a u fk fn bk bn lk ln : Int) (hi : In64 a) (l : List Pen) (bl off cap : Nat) (w : World) (hl : l.length ≤ 9223372036854775807) (hb : bl < w.heap.size) (hc : PensIn w bl off l) : Calls Try.prog 17 #[.agg #[.int .i64 a, .int .i64 u, .int .i64 fk, .int .i64 fn, .int .i64 bk, .int .i64 bn, .int .i64 lk, .int .i64 ln], .slice (some ⟨bl, off, none⟩) l.length cap] w (Ret (runV ⟨a, u, fk, fn, bk, bn, lk, ln⟩ l) w) := by
  have hck := fun V => check_any a u fk fn bk bn lk ln hi V
  have hres : runV ⟨a, u, fk, fn, bk, bn, lk, ln⟩ l = if stErr a u fk fn bk bn lk ln != 0 then .tuple #[styV zeroS, .int .i64 (stErr a u fk fn bk bn lk ln)] else match runS ⟨a, u, fk, fn, bk, bn, lk, ln⟩ l with | some y => .tuple #[styV y, .int .i64 0] | none => .tuple #[styV zeroS, .int .i64 141] := rfl
  have hst : stErr a u fk fn bk bn lk ln = 0 ∨ (stErr a u fk fn bk bn lk ln != 0) = true := by
    by_cases h : stErr a u fk fn bk bn lk ln = 0
    · exact Or.inl h
    · exact Or.inr (by simpa using h)
  generalize stErr a u fk fn bk bn lk ln = E at *
  rw [hres]
  have Hck := Lib.hid hck
  clear hck hi hres
  rcases hst with rfl | hE
  · simp only [bne_self_eq_false, Bool.false_eq_true, if_false]
    obtain ⟨V, hV⟩ : ∃ V, V = (match runS ⟨a, u, fk, fn, bk, bn, lk, ln⟩ l with | some y => Value.tuple #[styV y, .int .i64 0] | none => .tuple #[styV zeroS, .int .i64 141]) := ⟨_, rfl⟩
    rw [← hV]
    have HV := Lib.hid hV
    clear hV
    have Hc := Lib.hid hc
    clear hc
    have hfl := fld65
    go_enter Try.func17, Try.ntmps17
    go_wp2_with (first | (go_at_call 12; (with_reducible refine (Hck.out _).mono ?_); rintro e w' ⟨rfl, h1, d1, rfl⟩) | (go_at_call 31; (with_reducible refine (pens_run _).mono ?_); rintro e w' ⟨B, C1, C2, C3, h2, d2, rfl, rfl, hP, hle⟩))
    refine abs_world (F := fun W => StyAt W w.heap.size a u fk fn bk bn lk ln ∧ StyAt W (w.heap.size + 1) 0 0 0 0 0 0 0 0 ∧ PensAt W B C1 C2 C3 ∧ Grows w W) ⟨⟨by simp [go_sem], by simp [go_sem], by simp [go_sem], by simp [go_sem], by simp [go_sem], by simp [go_sem], by simp [go_sem], by simp [go_sem], by simp [go_sem], by simp [go_sem], by simp [go_sem], by simp [go_sem], by simp [go_sem], by simp [go_sem], by simp [go_sem], by simp [go_sem], by simp [go_sem]⟩, ⟨by simp [go_sem], by simp [go_sem], by simp [go_sem], by simp [go_sem], by simp [go_sem], by simp [go_sem], by simp [go_sem], by simp [go_sem], by simp [go_sem], by simp [go_sem], by simp [go_sem], by simp [go_sem], by simp [go_sem], by simp [go_sem], by simp [go_sem], by simp [go_sem], by simp [go_sem]⟩, (by simp only [ext_ext] at hP ⊢; exact hP), (by repeat' (first | (with_reducible exact Grows.refl _) | (with_reducible refine Grows.alloc ?_ _) | (with_reducible refine Grows.drew ?_) | (with_reducible refine Grows.ext ?_ _ _)))⟩ ?_
    clear hP
    rintro wo ⟨hS, hO, hP, hG⟩
    have hle2 : w.heap.size + 1 < B ∧ w.heap.size + 1 < C1 ∧ w.heap.size + 1 < C2 ∧ w.heap.size + 1 < C3 := by simp only [ext_size, World.size_alloc] at hle; omega
    have hne : w.heap.size + 1 ≠ w.heap.size := by omega
    have hle2s : w.heap.size < B ∧ w.heap.size < C1 ∧ w.heap.size < C2 ∧ w.heap.size < C3 := by omega
    clear hle
    have hle3 : w.heap.size < w.heap.size + 1 := by omega
    generalize hBo : w.heap.size + 1 = Bo at *
    generalize hBs : w.heap.size = Bs at *
    have hwo : w.heap.size ≤ Bo := by omega
    have hwo2 : w.heap.size ≤ Bs := by omega
    have hb : bl < w.heap.size := by omega
    clear hBo hBs
    go_loopw [20] (fun i wr' => ∃ (wv : World) (k : Nat) (x : Sty), wv = wr' ∧ k ≤ l.length ∧ i = .int .i64 k ∧ runS ⟨a, u, fk, fn, bk, bn, lk, ln⟩ l = runS x (l.drop k) ∧ StyAt wv Bs x.a x.u x.fk x.fn x.bk x.bn x.lk x.ln ∧ StyAt wv Bo 0 0 0 0 0 0 0 0 ∧ PensAt wv B C1 C2 C3 ∧ Grows w wv) (fun i _ => l.length - (intOf i).toNat)
    case atStart => exact ⟨_, 0, ⟨a, u, fk, fn, bk, bn, lk, ln⟩, rfl, by omega, rfl, rfl, hS, hO, hP, hG⟩
    case round =>
      clear hS hO hP hG
      obtain ⟨wv, k, x, rfl, hk, rfl, hrun, hS, hO, hP, hG⟩ := hrel
      have hS0 := hS
      have hO0 := hO
      obtain ⟨t0, j0, j1, j2, j3, j4, j5, j6, j7, g0, g1, g2, g3, g4, g5, g6, g7⟩ := hS
      obtain ⟨t1, i0, i1, i2, i3, i4, i5, i6, i7, o0, o1, o2, o3, o4, o5, o6, o7⟩ := hO
      have hP0 := hP
      obtain ⟨b0, b1, b2, b3, b4, b5⟩ := hP
      by_cases hkl : k < l.length
      · have hl1 : decide ((k : Int) < (l.length : Int)) = true := by simp; omega
        obtain ⟨p, hp⟩ : ∃ p, l[k]? = some p := ⟨l[k], by simp [hkl]⟩
        obtain ⟨him, z0, z1, z2, z3, z4, z5⟩ := Hc.out k p hp
        have s0 := (Grows.cell hG bl (off + k * 6) hb).1.trans z0
        have s1 := (Grows.cell hG bl (off + k * 6 + 1) hb).1.trans z1
        have s2 := (Grows.cell hG bl (off + k * 6 + 2) hb).1.trans z2
        have s3 := (Grows.cell hG bl (off + k * 6 + 3) hb).1.trans z3
        have s4 := (Grows.cell hG bl (off + k * 6 + 4) hb).1.trans z4
        have s5 := (Grows.cell hG bl (off + k * 6 + 5) hb).1.trans z5
        have hb0 := (Grows.cell hG bl 0 hb).2
        clear z0 z1 z2 z3 z4 z5
        have hcp := fun V => checkPen_any p.kd p.n p.m p.ck p.cn p.s him V
        unfold pnErr at hcp
        cases hv : okP p
        · have hv' : pnB p.kd p.n p.m p.ck p.cn p.s = false := hv
          simp only [hv', Bool.false_eq_true, if_false] at hcp
          have Hcp := Lib.hid hcp
          have HR := Lib.hid (run_stop hrun hp hv)
          clear hcp hv hv' hrun hp him
          go_wp2_with (go_at_call 14; (with_reducible refine (Hcp.out _).mono ?_); rintro e w' ⟨rfl, h3, d3, rfl⟩)
          (try simp only [Exit.inBlock, Exit.then])
          refine bodyPost_ret (by simp [results, Try.results17, go_sem, t1, i0, i1, i2, i3, i4, i5, i6, i7]; try rfl) rfl ?_
          refine ⟨?_, (by repeat' (first | (with_reducible exact hG) | (with_reducible refine Grows.setCell ?_ hwo2 _) | (with_reducible refine Grows.setCell ?_ hwo _) | (with_reducible exact Grows.refl _) | (with_reducible refine Grows.alloc ?_ _) | (with_reducible refine Grows.drew ?_) | (with_reducible refine Grows.ext ?_ _ _)))⟩
          rw [HV.out, HR.out]
          rfl
        · have hv' : pnB p.kd p.n p.m p.ck p.cn p.s = true := hv
          simp only [hv', if_true] at hcp
          have HR := Lib.hid (run_next hrun hp hv)
          have hn : 0 ≤ p.n ∧ p.n ≤ 6 := by
            unfold pnB at hv'
            simp only [Bool.and_eq_true, decide_eq_true_eq] at hv'
            exact hv'.2.2.1
          clear hv hv' hrun hp him
          obtain ⟨kd, n, m, ck, cn, s⟩ := p
          simp only at s0 s1 s2 s3 s4 s5 hcp hn
          have Hcp := Lib.hid hcp
          clear hcp
          have hlq : ∀ (o : Obj) (h : Array Obj) (d : Nat), (Instr.lookup 67 (.map (some B)) (.int .i64 n) false).run Try.prog (ext (wv.alloc o) h d) = .ok (findV (.agg #[.nilFunc, .bool false, .nilFunc]) n (penEs C1 C2 C3).toList).1 (ext (wv.alloc o) h d) := fun o h d => by
            have hq := hP0.grows (show Grows wv (ext (wv.alloc o) h d) from (by repeat' (first | (with_reducible exact Grows.refl _) | (with_reducible refine Grows.alloc ?_ _) | (with_reducible refine Grows.drew ?_) | (with_reducible refine Grows.ext ?_ _ _))))
            have := look67f (ext (wv.alloc o) h d) B n hq.2.1 (by rw [hq.2.2.1]; rfl)
            rw [hq.2.2.1] at this
            exact this
          have h7 : n = 0 ∨ n = 1 ∨ n = 2 ∨ n = 3 ∨ n = 4 ∨ n = 5 ∨ n = 6 := by omega
          clear hn
          rcases h7 with rfl | rfl | rfl | rfl | rfl | rfl | rfl
          · go_wp2_with (go_at_call 14; (with_reducible refine (Hcp.out _).mono ?_); rintro e w' ⟨rfl, h3, d3, rfl⟩)
            refine Calls.mono (make_reset _ _ _ _ _ _ _ _ _ _ _ _ _ _ _ _ (hS0.grows (by repeat' (first | (with_reducible exact Grows.refl _) | (with_reducible refine Grows.alloc ?_ _) | (with_reducible refine Grows.drew ?_) | (with_reducible refine Grows.ext ?_ _ _))))) ?_
            rintro e w' ⟨rfl, h4, d4, rfl⟩
            go_wp2_with fail
            go_roundw
            case rel => exact ⟨_, k + 1, _, rfl, by omega, by go_num, HR.out, StyAt.grows (hS0.setAll 0 0 0 0 0 0 0 0) (by repeat' (first | (with_reducible exact Grows.refl _) | (with_reducible refine Grows.alloc ?_ _) | (with_reducible refine Grows.drew ?_) | (with_reducible refine Grows.ext ?_ _ _))), StyAt.grows ((((((((hO0.other hne).other hne).other hne).other hne).other hne).other hne).other hne).other hne) (by repeat' (first | (with_reducible exact Grows.refl _) | (with_reducible refine Grows.alloc ?_ _) | (with_reducible refine Grows.drew ?_) | (with_reducible refine Grows.ext ?_ _ _))), PensAt.grows ((((((((hP0.set hle2s).set hle2s).set hle2s).set hle2s).set hle2s).set hle2s).set hle2s).set hle2s) (by repeat' (first | (with_reducible exact Grows.refl _) | (with_reducible refine Grows.alloc ?_ _) | (with_reducible refine Grows.drew ?_) | (with_reducible refine Grows.ext ?_ _ _))), (by repeat' (first | (with_reducible exact hG) | (with_reducible refine Grows.setCell ?_ hwo2 _) | (with_reducible refine Grows.setCell ?_ hwo _) | (with_reducible exact Grows.refl _) | (with_reducible refine Grows.alloc ?_ _) | (with_reducible refine Grows.drew ?_) | (with_reducible refine Grows.ext ?_ _ _)))⟩
            case measure => simp [intOf]; omega
          · go_wp2_with (go_at_call 14; (with_reducible refine (Hcp.out _).mono ?_); rintro e w' ⟨rfl, h3, d3, rfl⟩)
            refine Calls.mono (make_set _ _ _ _ _ _ _ _ _ _ _ _ _ _ _ _ (hS0.grows (by repeat' (first | (with_reducible exact Grows.refl _) | (with_reducible refine Grows.alloc ?_ _) | (with_reducible refine Grows.drew ?_) | (with_reducible refine Grows.ext ?_ _ _))))) ?_
            rintro e w' ⟨rfl, h4, d4, rfl⟩
            go_wp2_with fail
            go_roundw
            case rel => exact ⟨_, k + 1, _, rfl, by omega, by go_num, HR.out, StyAt.grows (hS0.setA (bits .or .i64 x.a m)) (by repeat' (first | (with_reducible exact Grows.refl _) | (with_reducible refine Grows.alloc ?_ _) | (with_reducible refine Grows.drew ?_) | (with_reducible refine Grows.ext ?_ _ _))), StyAt.grows (hO0.other hne) (by repeat' (first | (with_reducible exact Grows.refl _) | (with_reducible refine Grows.alloc ?_ _) | (with_reducible refine Grows.drew ?_) | (with_reducible refine Grows.ext ?_ _ _))), PensAt.grows (hP0.set hle2s) (by repeat' (first | (with_reducible exact Grows.refl _) | (with_reducible refine Grows.alloc ?_ _) | (with_reducible refine Grows.drew ?_) | (with_reducible refine Grows.ext ?_ _ _))), (by repeat' (first | (with_reducible exact hG) | (with_reducible refine Grows.setCell ?_ hwo2 _) | (with_reducible refine Grows.setCell ?_ hwo _) | (with_reducible exact Grows.refl _) | (with_reducible refine Grows.alloc ?_ _) | (with_reducible refine Grows.drew ?_) | (with_reducible refine Grows.ext ?_ _ _)))⟩
            case measure => simp [intOf]; omega
          · go_wp2_with (go_at_call 14; (with_reducible refine (Hcp.out _).mono ?_); rintro e w' ⟨rfl, h3, d3, rfl⟩)
            refine Calls.mono (make_clear _ _ _ _ _ _ _ _ _ _ _ _ _ _ _ _ (hS0.grows (by repeat' (first | (with_reducible exact Grows.refl _) | (with_reducible refine Grows.alloc ?_ _) | (with_reducible refine Grows.drew ?_) | (with_reducible refine Grows.ext ?_ _ _))))) ?_
            rintro e w' ⟨rfl, h4, d4, rfl⟩
            go_wp2_with fail
            go_roundw
            case rel => exact ⟨_, k + 1, _, rfl, by omega, by go_num, HR.out, StyAt.grows (hS0.setA (bits .andNot .i64 x.a m)) (by repeat' (first | (with_reducible exact Grows.refl _) | (with_reducible refine Grows.alloc ?_ _) | (with_reducible refine Grows.drew ?_) | (with_reducible refine Grows.ext ?_ _ _))), StyAt.grows (hO0.other hne) (by repeat' (first | (with_reducible exact Grows.refl _) | (with_reducible refine Grows.alloc ?_ _) | (with_reducible refine Grows.drew ?_) | (with_reducible refine Grows.ext ?_ _ _))), PensAt.grows (hP0.set hle2s) (by repeat' (first | (with_reducible exact Grows.refl _) | (with_reducible refine Grows.alloc ?_ _) | (with_reducible refine Grows.drew ?_) | (with_reducible refine Grows.ext ?_ _ _))), (by repeat' (first | (with_reducible exact hG) | (with_reducible refine Grows.setCell ?_ hwo2 _) | (with_reducible refine Grows.setCell ?_ hwo _) | (with_reducible exact Grows.refl _) | (with_reducible refine Grows.alloc ?_ _) | (with_reducible refine Grows.drew ?_) | (with_reducible refine Grows.ext ?_ _ _)))⟩
            case measure => simp [intOf]; omega
          · go_wp2_with (go_at_call 14; (with_reducible refine (Hcp.out _).mono ?_); rintro e w' ⟨rfl, h3, d3, rfl⟩)
            refine Calls.mono (make_under _ _ _ _ _ _ _ _ _ _ _ _ _ _ _ _ (hS0.grows (by repeat' (first | (with_reducible exact Grows.refl _) | (with_reducible refine Grows.alloc ?_ _) | (with_reducible refine Grows.drew ?_) | (with_reducible refine Grows.ext ?_ _ _))))) ?_
            rintro e w' ⟨rfl, h4, d4, rfl⟩
            go_wp2_with fail
            go_roundw
            case rel => exact ⟨_, k + 1, _, rfl, by omega, by go_num, HR.out, StyAt.grows (hS0.setU m) (by repeat' (first | (with_reducible exact Grows.refl _) | (with_reducible refine Grows.alloc ?_ _) | (with_reducible refine Grows.drew ?_) | (with_reducible refine Grows.ext ?_ _ _))), StyAt.grows (hO0.other hne) (by repeat' (first | (with_reducible exact Grows.refl _) | (with_reducible refine Grows.alloc ?_ _) | (with_reducible refine Grows.drew ?_) | (with_reducible refine Grows.ext ?_ _ _))), PensAt.grows (hP0.set hle2s) (by repeat' (first | (with_reducible exact Grows.refl _) | (with_reducible refine Grows.alloc ?_ _) | (with_reducible refine Grows.drew ?_) | (with_reducible refine Grows.ext ?_ _ _))), (by repeat' (first | (with_reducible exact hG) | (with_reducible refine Grows.setCell ?_ hwo2 _) | (with_reducible refine Grows.setCell ?_ hwo _) | (with_reducible exact Grows.refl _) | (with_reducible refine Grows.alloc ?_ _) | (with_reducible refine Grows.drew ?_) | (with_reducible refine Grows.ext ?_ _ _)))⟩
            case measure => simp [intOf]; omega
          · go_wp2_with (go_at_call 14; (with_reducible refine (Hcp.out _).mono ?_); rintro e w' ⟨rfl, h3, d3, rfl⟩)
            refine Calls.mono (make_col0 _ _ _ _ _ _ _ _ _ _ _ _ _ _ _ _ (hS0.grows (by repeat' (first | (with_reducible exact Grows.refl _) | (with_reducible refine Grows.alloc ?_ _) | (with_reducible refine Grows.drew ?_) | (with_reducible refine Grows.ext ?_ _ _)))) _ ((hP0.2.2.2.1).grows (by repeat' (first | (with_reducible exact Grows.refl _) | (with_reducible refine Grows.alloc ?_ _) | (with_reducible refine Grows.drew ?_) | (with_reducible refine Grows.ext ?_ _ _))))) ?_
            rintro e w' ⟨rfl, h4, d4, rfl⟩
            go_wp2_with fail
            go_roundw
            case rel => exact ⟨_, k + 1, _, rfl, by omega, by go_num, HR.out, StyAt.grows (hS0.setF ck cn) (by repeat' (first | (with_reducible exact Grows.refl _) | (with_reducible refine Grows.alloc ?_ _) | (with_reducible refine Grows.drew ?_) | (with_reducible refine Grows.ext ?_ _ _))), StyAt.grows ((hO0.other hne).other hne) (by repeat' (first | (with_reducible exact Grows.refl _) | (with_reducible refine Grows.alloc ?_ _) | (with_reducible refine Grows.drew ?_) | (with_reducible refine Grows.ext ?_ _ _))), PensAt.grows ((hP0.set hle2s).set hle2s) (by repeat' (first | (with_reducible exact Grows.refl _) | (with_reducible refine Grows.alloc ?_ _) | (with_reducible refine Grows.drew ?_) | (with_reducible refine Grows.ext ?_ _ _))), (by repeat' (first | (with_reducible exact hG) | (with_reducible refine Grows.setCell ?_ hwo2 _) | (with_reducible refine Grows.setCell ?_ hwo _) | (with_reducible exact Grows.refl _) | (with_reducible refine Grows.alloc ?_ _) | (with_reducible refine Grows.drew ?_) | (with_reducible refine Grows.ext ?_ _ _)))⟩
            case measure => simp [intOf]; omega
          · go_wp2_with (go_at_call 14; (with_reducible refine (Hcp.out _).mono ?_); rintro e w' ⟨rfl, h3, d3, rfl⟩)
            refine Calls.mono (make_col1 _ _ _ _ _ _ _ _ _ _ _ _ _ _ _ _ (hS0.grows (by repeat' (first | (with_reducible exact Grows.refl _) | (with_reducible refine Grows.alloc ?_ _) | (with_reducible refine Grows.drew ?_) | (with_reducible refine Grows.ext ?_ _ _)))) _ ((hP0.2.2.2.2.1).grows (by repeat' (first | (with_reducible exact Grows.refl _) | (with_reducible refine Grows.alloc ?_ _) | (with_reducible refine Grows.drew ?_) | (with_reducible refine Grows.ext ?_ _ _))))) ?_
            rintro e w' ⟨rfl, h4, d4, rfl⟩
            go_wp2_with fail
            go_roundw
            case rel => exact ⟨_, k + 1, _, rfl, by omega, by go_num, HR.out, StyAt.grows (hS0.setB ck cn) (by repeat' (first | (with_reducible exact Grows.refl _) | (with_reducible refine Grows.alloc ?_ _) | (with_reducible refine Grows.drew ?_) | (with_reducible refine Grows.ext ?_ _ _))), StyAt.grows ((hO0.other hne).other hne) (by repeat' (first | (with_reducible exact Grows.refl _) | (with_reducible refine Grows.alloc ?_ _) | (with_reducible refine Grows.drew ?_) | (with_reducible refine Grows.ext ?_ _ _))), PensAt.grows ((hP0.set hle2s).set hle2s) (by repeat' (first | (with_reducible exact Grows.refl _) | (with_reducible refine Grows.alloc ?_ _) | (with_reducible refine Grows.drew ?_) | (with_reducible refine Grows.ext ?_ _ _))), (by repeat' (first | (with_reducible exact hG) | (with_reducible refine Grows.setCell ?_ hwo2 _) | (with_reducible refine Grows.setCell ?_ hwo _) | (with_reducible exact Grows.refl _) | (with_reducible refine Grows.alloc ?_ _) | (with_reducible refine Grows.drew ?_) | (with_reducible refine Grows.ext ?_ _ _)))⟩
            case measure => simp [intOf]; omega
          · go_wp2_with (go_at_call 14; (with_reducible refine (Hcp.out _).mono ?_); rintro e w' ⟨rfl, h3, d3, rfl⟩)
            refine Calls.mono (make_col2 _ _ _ _ _ _ _ _ _ _ _ _ _ _ _ _ (hS0.grows (by repeat' (first | (with_reducible exact Grows.refl _) | (with_reducible refine Grows.alloc ?_ _) | (with_reducible refine Grows.drew ?_) | (with_reducible refine Grows.ext ?_ _ _)))) _ ((hP0.2.2.2.2.2).grows (by repeat' (first | (with_reducible exact Grows.refl _) | (with_reducible refine Grows.alloc ?_ _) | (with_reducible refine Grows.drew ?_) | (with_reducible refine Grows.ext ?_ _ _))))) ?_
            rintro e w' ⟨rfl, h4, d4, rfl⟩
            go_wp2_with fail
            go_roundw
            case rel => exact ⟨_, k + 1, _, rfl, by omega, by go_num, HR.out, StyAt.grows (hS0.setL ck cn) (by repeat' (first | (with_reducible exact Grows.refl _) | (with_reducible refine Grows.alloc ?_ _) | (with_reducible refine Grows.drew ?_) | (with_reducible refine Grows.ext ?_ _ _))), StyAt.grows ((hO0.other hne).other hne) (by repeat' (first | (with_reducible exact Grows.refl _) | (with_reducible refine Grows.alloc ?_ _) | (with_reducible refine Grows.drew ?_) | (with_reducible refine Grows.ext ?_ _ _))), PensAt.grows ((hP0.set hle2s).set hle2s) (by repeat' (first | (with_reducible exact Grows.refl _) | (with_reducible refine Grows.alloc ?_ _) | (with_reducible refine Grows.drew ?_) | (with_reducible refine Grows.ext ?_ _ _))), (by repeat' (first | (with_reducible exact hG) | (with_reducible refine Grows.setCell ?_ hwo2 _) | (with_reducible refine Grows.setCell ?_ hwo _) | (with_reducible exact Grows.refl _) | (with_reducible refine Grows.alloc ?_ _) | (with_reducible refine Grows.drew ?_) | (with_reducible refine Grows.ext ?_ _ _)))⟩
            case measure => simp [intOf]; omega
      · have hl1 : decide ((k : Int) < (l.length : Int)) = false := by simp; omega
        have HR := Lib.hid (run_done hrun (by omega))
        clear hrun
        go_wp2
        (try simp only [Exit.inBlock, Exit.then])
        refine bodyPost_ret (by simp [results, Try.results17, go_sem, i0, i1, i2, i3, i4, i5, i6, i7]; try rfl) rfl ?_
        refine ⟨?_, (by repeat' (first | (with_reducible exact hG) | (with_reducible refine Grows.setCell ?_ hwo2 _) | (with_reducible refine Grows.setCell ?_ hwo _) | (with_reducible exact Grows.refl _) | (with_reducible refine Grows.alloc ?_ _) | (with_reducible refine Grows.drew ?_) | (with_reducible refine Grows.ext ?_ _ _)))⟩
        rw [HV.out, HR.out]
        rfl
  · simp only [hE, if_true]
    go_enter Try.func17, Try.ntmps17
    go_wp2_with (go_at_call 12; (with_reducible refine (Hck.out _).mono ?_); rintro e w' ⟨rfl, h1, d1, rfl⟩)
    go_returns
    exact ⟨rfl, (by repeat' (first | (with_reducible exact Grows.refl _) | (with_reducible refine Grows.alloc ?_ _) | (with_reducible refine Grows.drew ?_) | (with_reducible refine Grows.ext ?_ _ _)))⟩
end Go.Proofs.Ytafokiobbceibaa
