/-
  Walk: the run of the reference.
-/
import Derived.Test.YtafokiobbceibaaRows
import Derived.Test.YtafokiobbceibaaLt
import Derived.Test.YtafokiobbceibaaDefs
import Derived.Test.YtafokiobbceibaaBits
import Derived.Test.YtafokiobbceibaaMaps
import Derived.Test.YtafokiobbceibaaW1
import Derived.Test.YtafokiobbceibaaW2
import Derived.Test.YtafokiobbceibaaW4
import Derived.Test.YtafokiobbceibaaW5
import Derived.Test.YtafokiobbceibaaW6
import Derived.Test.YtafokiobbceibaaW7
import Derived.Test.YtafokiobbceibaaRun
import Derived.Test.YtafokiobbceibaaW8
import Derived.Test.YtafokiobbceibaaW9
import Derived.Test.YtafokiobbceibaaW10
import Derived.Test.YtafokiobbceibaaW11
import Derived.Test.YtafokiobbceibaaW14
import Derived.Test.YtafokiobbceibaaW18
import Derived.Test.YtafokiobbceibaaD0
import Derived.Test.YtafokiobbceibaaD1
import Derived.Test.YtafokiobbceibaaD2
import Derived.Test.YtafokiobbceibaaD3
import Derived.Test.YtafokiobbceibaaD4
import Derived.Test.YtafokiobbceibaaD5
import Derived.Test.YtafokiobbceibaaD6
import Derived.Test.YtafokiobbceibaaD7
import Derived.Test.YtafokiobbceibaaSty
import Derived.Test.YtafokiobbceibaaW21
import Derived.Test.YtafokiobbceibaaPR
import Derived.Test.YtafokiobbceibaaW22
import Derived.Test.YtafokiobbceibaaW23
import Derived.WalkKit
import Derived.WalkSpells
import Derived.WalkLawsBesides
import Derived.Handy
import Derived.Laws.EntriesVeiled
import Derived.Lib.Hide
import Derived.Deep.Light
import Derived.Deep.LoopGhost
import Derived.BigGuardPart
import Derived.BigQuiet
import Derived.Deep.QuietTactic
import Derived.Deep.RegionHeld3
import Derived.Deep.DeepCutAuto
import Derived.Outline
import Derived.Test.YtafokiobbceibaaReg
import Derived.Test.YtafokiobbceibaaReg3
import Derived.Test.YtafokiobbceibaaReg4
namespace Go.Proofs.Ytafokiobbceibaa
open Go.RowKit


/-- The pens of a slice, or of none. -/
def PensOf (w : World) (oa : Option Addr) (l : List Pen) : Prop := ∀ (i : Nat) (p : Pen), l[i]? = some p → ∃ bl off, oa = some ⟨bl, off, none⟩ ∧ bl < w.heap.size ∧ In64 p.m ∧ w.cell? ⟨bl, off + i * 6, none⟩ = some (.int .i64 p.kd) ∧ w.cell? ⟨bl, off + i * 6 + 1, none⟩ = some (.int .i64 p.n) ∧ w.cell? ⟨bl, off + i * 6 + 2, none⟩ = some (.int .i64 p.m) ∧ w.cell? ⟨bl, off + i * 6 + 3, none⟩ = some (.int .i64 p.ck) ∧ w.cell? ⟨bl, off + i * 6 + 4, none⟩ = some (.int .i64 p.cn) ∧ w.cell? ⟨bl, off + i * 6 + 5, none⟩ = some (.string p.s)
theorem PensOf.nil {w : World} {oa : Option Addr} : PensOf w oa [] := fun i p h => by simp at h
theorem PensOf.of {w : World} {bl off : Nat} {l : List Pen} (hb : bl < w.heap.size) (h : PensIn w bl off l) : PensOf w (some ⟨bl, off, none⟩) l := fun i p hp => ⟨bl, off, rfl, hb, h i p hp⟩
theorem PensOf.grows {w w' : World} {oa : Option Addr} {l : List Pen} (h : PensOf w oa l) (g : Grows w w') : PensOf w' oa l := fun i p hp => by
  obtain ⟨bl, off, e, hb, hm, c0, c1, c2, c3, c4, c5⟩ := h i p hp
  exact ⟨bl, off, e, (Grows.cell g bl 0 hb).2, hm, (Grows.cell g bl _ hb).1.trans c0, (Grows.cell g bl _ hb).1.trans c1, (Grows.cell g bl _ hb).1.trans c2, (Grows.cell g bl _ hb).1.trans c3, (Grows.cell g bl _ hb).1.trans c4, (Grows.cell g bl _ hb).1.trans c5⟩
theorem rpen_l (a u fk fn bk bn lk ln kd n m ck cn : Int) (s : ByteArray) (ax ux fkx fnx bkx bnx lkx lnx : Int) (hx : okS ⟨a, u, fk, fn, bk, bn, lk, ln⟩) (hp : okP ⟨kd, n, m, ck, cn, s⟩ = true) (hy : (⟨ax, ux, fkx, fnx, bkx, bnx, lkx, lnx⟩ : Sty) = apS ⟨a, u, fk, fn, bk, bn, lk, ln⟩ ⟨kd, n, m, ck, cn, s⟩) (w : World) : Calls Try.prog 33 #[.agg #[.int .i64 a, .int .i64 u, .int .i64 fk, .int .i64 fn, .int .i64 bk, .int .i64 bn, .int .i64 lk, .int .i64 ln], .agg #[.int .i64 kd, .int .i64 n, .int .i64 m, .int .i64 ck, .int .i64 cn, .string s]] w (Ret (.agg #[.int .i64 ax, .int .i64 ux, .int .i64 fkx, .int .i64 fnx, .int .i64 bkx, .int .i64 bnx, .int .i64 lkx, .int .i64 lnx]) w) := by
  have h := rpen_any ⟨a, u, fk, fn, bk, bn, lk, ln⟩ hx ⟨kd, n, m, ck, cn, s⟩ hp w
  rw [← hy] at h
  exact h
set_option maxRecDepth 100000 in
set_option maxHeartbeats 20000000 in
theorem rrun_any (a u fk fn bk bn lk ln : Int) (hi : In64 a) (l : List Pen) (oa : Option Addr) (cap : Nat) (w : World) (hl : l.length ≤ 9223372036854775807) (hc : PensOf w oa l) : Calls Try.prog 18 #[.agg #[.int .i64 a, .int .i64 u, .int .i64 fk, .int .i64 fn, .int .i64 bk, .int .i64 bn, .int .i64 lk, .int .i64 ln], .slice oa l.length cap] w (Ret (runV ⟨a, u, fk, fn, bk, bn, lk, ln⟩ l) w) := by
  have hck := fun V => rcheck_any a u fk fn bk bn lk ln hi V
  have hok : stErr a u fk fn bk bn lk ln = 0 → okS ⟨a, u, fk, fn, bk, bn, lk, ln⟩ := okS_of_err
  have hres : runV ⟨a, u, fk, fn, bk, bn, lk, ln⟩ l = if stErr a u fk fn bk bn lk ln != 0 then .tuple #[styV zeroS, .int .i64 (stErr a u fk fn bk bn lk ln)] else match runS ⟨a, u, fk, fn, bk, bn, lk, ln⟩ l with | some y => .tuple #[styV y, .int .i64 0] | none => .tuple #[styV zeroS, .int .i64 141] := rfl
  have hst : stErr a u fk fn bk bn lk ln = 0 ∨ (stErr a u fk fn bk bn lk ln != 0) = true := by
    by_cases h : stErr a u fk fn bk bn lk ln = 0
    · exact Or.inl h
    · exact Or.inr (by simpa using h)
  generalize stErr a u fk fn bk bn lk ln = E at *
  rw [hres]
  have Hck := Lib.hid hck
  have Hc := Lib.hid hc
  clear hck hi hres hc
  rcases hst with rfl | hE
  · simp only [bne_self_eq_false, Bool.false_eq_true, if_false]
    obtain ⟨V, hV⟩ : ∃ V, V = (match runS ⟨a, u, fk, fn, bk, bn, lk, ln⟩ l with | some y => Value.tuple #[styV y, .int .i64 0] | none => .tuple #[styV zeroS, .int .i64 141]) := ⟨_, rfl⟩
    rw [← hV]
    have HV := Lib.hid hV
    have hx := hok rfl
    clear hV hok
    go_enter Try.func18, Try.ntmps18
    go_wp2_with (go_at_call 13; (with_reducible refine (Hck.out _).mono ?_); rintro e w' ⟨rfl, h1, d1, rfl⟩)
    refine abs_world (F := fun W => StyAt W w.heap.size a u fk fn bk bn lk ln ∧ StyAt W (w.heap.size + 1) 0 0 0 0 0 0 0 0 ∧ Grows w W) ⟨⟨by simp [go_sem], by simp [go_sem], by simp [go_sem], by simp [go_sem], by simp [go_sem], by simp [go_sem], by simp [go_sem], by simp [go_sem], by simp [go_sem], by simp [go_sem], by simp [go_sem], by simp [go_sem], by simp [go_sem], by simp [go_sem], by simp [go_sem], by simp [go_sem], by simp [go_sem]⟩, ⟨by simp [go_sem], by simp [go_sem], by simp [go_sem], by simp [go_sem], by simp [go_sem], by simp [go_sem], by simp [go_sem], by simp [go_sem], by simp [go_sem], by simp [go_sem], by simp [go_sem], by simp [go_sem], by simp [go_sem], by simp [go_sem], by simp [go_sem], by simp [go_sem], by simp [go_sem]⟩, (by repeat' (first | (with_reducible exact Grows.refl _) | (with_reducible refine Grows.alloc ?_ _) | (with_reducible refine Grows.drew ?_) | (with_reducible refine Grows.ext ?_ _ _)))⟩ ?_
    rintro wo ⟨hS, hO, hG⟩
    have hne : w.heap.size + 1 ≠ w.heap.size := by omega
    have hne' : w.heap.size ≠ w.heap.size + 1 := by omega
    generalize hBo : w.heap.size + 1 = Bo at *
    generalize hBs : w.heap.size = Bs at *
    have hwo : w.heap.size ≤ Bo := by omega
    have hwo2 : w.heap.size ≤ Bs := by omega
    clear hBo hBs
    go_loopw [7] (fun i wr' => ∃ (wv : World) (k : Nat) (x : Sty), wv = wr' ∧ k ≤ l.length ∧ i = .int .i64 k ∧ runS ⟨a, u, fk, fn, bk, bn, lk, ln⟩ l = runS x (l.drop k) ∧ okS x ∧ StyAt wv Bs x.a x.u x.fk x.fn x.bk x.bn x.lk x.ln ∧ StyAt wv Bo 0 0 0 0 0 0 0 0 ∧ Grows w wv) (fun i _ => l.length - (intOf i).toNat)
    case atStart => exact ⟨_, 0, ⟨a, u, fk, fn, bk, bn, lk, ln⟩, rfl, by omega, rfl, rfl, hx, hS, hO, hG⟩
    case round =>
      clear hS hO hG hx
      obtain ⟨wv, k, ⟨ax, ux, fkx, fnx, bkx, bnx, lkx, lnx⟩, rfl, hk, rfl, hrun, hx, hS, hO, hG⟩ := hrel
      simp only at hS
      have hS0 := hS
      have hO0 := hO
      obtain ⟨as0, as1, as2, as3, as4, as5, as6, as7, as8, af0, af1, af2, af3, af4, af5, af6, af7⟩ := hS
      obtain ⟨bs0, bs1, bs2, bs3, bs4, bs5, bs6, bs7, bs8, bf0, bf1, bf2, bf3, bf4, bf5, bf6, bf7⟩ := hO
      by_cases hkl : k < l.length
      · have hl1 : decide ((k : Int) < (l.length : Int)) = true := by simp; omega
        have hl2 : (k : Int) < (l.length : Int) := by omega
        obtain ⟨p, hp⟩ : ∃ p, l[k]? = some p := ⟨l[k], by simp [hkl]⟩
        obtain ⟨bl, off, rfl, hb0, him, z0, z1, z2, z3, z4, z5⟩ := (PensOf.grows Hc.out hG) k p hp
        have hcp := fun V => rchkPen_any p.kd p.n p.m p.ck p.cn p.s V
        cases hv : okP p
        · rw [show pnErr p.kd p.n p.m p.ck p.cn p.s = 141 from if_neg (by rw [show pnB p.kd p.n p.m p.ck p.cn p.s = false from hv]; exact Bool.false_ne_true)] at hcp
          have Hcp := Lib.hid hcp
          have HR := Lib.hid (run_stop hrun hp hv)
          clear hcp hv hrun hp him hx
          go_wp2_with (go_at_call 15; (with_reducible refine (Hcp.out _).mono ?_); rintro e w' ⟨rfl, h3, d3, rfl⟩)
          (try simp only [Exit.inBlock, Exit.then])
          refine bodyPost_ret (by simp [results, Try.results18, go_sem, bs0, bs1, bs2, bs3, bs4, bs5, bs6, bs7, bs8]; try rfl) rfl ?_
          refine ⟨?_, (by repeat' (first | (with_reducible exact hG) | (with_reducible refine Grows.setCell ?_ hwo2 _) | (with_reducible refine Grows.setCell ?_ hwo _) | (with_reducible exact Grows.refl _) | (with_reducible refine Grows.alloc ?_ _) | (with_reducible refine Grows.drew ?_) | (with_reducible refine Grows.ext ?_ _ _)))⟩
          rw [HV.out, HR.out]
          rfl
        · rw [show pnErr p.kd p.n p.m p.ck p.cn p.s = 0 from if_pos hv] at hcp
          have HR0 := run_next hrun hp hv
          obtain ⟨kd, n, m, ck, cn, s⟩ := p
          simp only at z0 z1 z2 z3 z4 z5 hcp
          obtain ⟨⟨ay, uy, fky, fny, bky, bny, lky, lny⟩, hy⟩ : ∃ y, y = apS (⟨ax, ux, fkx, fnx, bkx, bnx, lkx, lnx⟩ : Sty) (⟨kd, n, m, ck, cn, s⟩ : Pen) := ⟨_, rfl⟩
          rw [← hy] at HR0
          have HR := Lib.hid HR0
          have HX := Lib.hid (show okS (⟨ay, uy, fky, fny, bky, bny, lky, lny⟩ : Sty) from hy ▸ (ap_ok hx hv).1)
          have HPn := Lib.hid fun W => rpen_l ax ux fkx fnx bkx bnx lkx lnx kd n m ck cn s ay uy fky fny bky bny lky lny hx hv hy W
          have Hcp := Lib.hid hcp
          clear hcp hv hrun hp him hx hy HR0
          go_upto_region 9 with (go_at_call 15; (with_reducible refine (Hcp.out _).mono ?_); rintro e w' ⟨rfl, h3, d3, rfl⟩)
          refine wp_region_grow_tail 6 (by kernel_rfl) (by kernel_rfl) ?_
          simp only [List.take_succ_cons, List.take_zero, List.drop_succ_cons, List.drop_zero]
          repeat (first | go_big_quiet_step ((first | (rename_i xg; go_at_call 33; (with_reducible refine (HPn.out _).mono ?_); rintro _ _ ⟨rfl, h0, d0, rfl⟩; exact ⟨rfl, Gr.mk (xg.h ++ h0) d0, by simp only [ext_ext, Gr.h_mk, Gr.d_mk, Array.append_assoc]⟩))) | quiet_step ((first | (rename_i xg; go_at_call 33; (with_reducible refine (HPn.out _).mono ?_); rintro _ _ ⟨rfl, h0, d0, rfl⟩; exact ⟨rfl, Gr.mk (xg.h ++ h0) d0, by simp only [ext_ext, Gr.h_mk, Gr.d_mk, Array.append_assoc]⟩))))
          refine wpQuiet_nil ?_
          rintro _ ⟨g42, rfl⟩
          go_wp2_with fail
          go_roundw
          case rel => exact ⟨_, k + 1, _, rfl, by omega, by go_num, HR.out, HX.out, StyAt.grows (hS0.setAll ay uy fky fny bky bny lky lny) (by repeat' (first | (with_reducible exact Grows.refl _) | (with_reducible refine Grows.alloc ?_ _) | (with_reducible refine Grows.drew ?_) | (with_reducible refine Grows.ext ?_ _ _))), StyAt.grows (((((((((hO0).other hne).other hne).other hne).other hne).other hne).other hne).other hne).other hne) (by repeat' (first | (with_reducible exact Grows.refl _) | (with_reducible refine Grows.alloc ?_ _) | (with_reducible refine Grows.drew ?_) | (with_reducible refine Grows.ext ?_ _ _))), (by repeat' (first | (with_reducible exact hG) | (with_reducible refine Grows.setCell ?_ hwo2 _) | (with_reducible refine Grows.setCell ?_ hwo _) | (with_reducible exact Grows.refl _) | (with_reducible refine Grows.alloc ?_ _) | (with_reducible refine Grows.drew ?_) | (with_reducible refine Grows.ext ?_ _ _)))⟩
          case measure => simp [intOf]; omega
      · have hl1 : decide ((k : Int) < (l.length : Int)) = false := by simp; omega
        have HR := Lib.hid (run_done hrun (by omega))
        clear hrun hx
        go_wp2
        (try simp only [Exit.inBlock, Exit.then])
        refine bodyPost_ret (by simp [results, Try.results18, go_sem, bs1, bs2, bs3, bs4, bs5, bs6, bs7, bs8]; try rfl) rfl ?_
        refine ⟨?_, (by repeat' (first | (with_reducible exact hG) | (with_reducible refine Grows.setCell ?_ hwo2 _) | (with_reducible refine Grows.setCell ?_ hwo _) | (with_reducible exact Grows.refl _) | (with_reducible refine Grows.alloc ?_ _) | (with_reducible refine Grows.drew ?_) | (with_reducible refine Grows.ext ?_ _ _)))⟩
        rw [HV.out, HR.out]
        rfl
  · simp only [hE, if_true]
    clear hok
    go_enter Try.func18, Try.ntmps18
    go_wp2_with (go_at_call 13; (with_reducible refine (Hck.out _).mono ?_); rintro e w' ⟨rfl, h1, d1, rfl⟩)
    go_returns
    exact ⟨rfl, (by repeat' (first | (with_reducible exact Grows.refl _) | (with_reducible refine Grows.alloc ?_ _) | (with_reducible refine Grows.drew ?_) | (with_reducible refine Grows.ext ?_ _ _)))⟩
end Go.Proofs.Ytafokiobbceibaa
