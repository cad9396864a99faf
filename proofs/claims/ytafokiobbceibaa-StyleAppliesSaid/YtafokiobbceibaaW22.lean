/-
  Walk: the law StyleBits.
-/
import Derived.Test.YtafokiobbceibaaRows
import Derived.Test.YtafokiobbceibaaLt
import Derived.Test.YtafokiobbceibaaDefs
import Derived.Test.YtafokiobbceibaaBits
import Derived.Test.YtafokiobbceibaaMaps
import Derived.Test.YtafokiobbceibaaW1
import Derived.Test.YtafokiobbceibaaW2
import Derived.Test.YtafokiobbceibaaW4
import Derived.Test.YtafokiobbceibaaW5
import Derived.Test.YtafokiobbceibaaW6
import Derived.Test.YtafokiobbceibaaW7
import Derived.Test.YtafokiobbceibaaRun
import Derived.Test.YtafokiobbceibaaW8
import Derived.Test.YtafokiobbceibaaW9
import Derived.Test.YtafokiobbceibaaW10
import Derived.Test.YtafokiobbceibaaW11
import Derived.Test.YtafokiobbceibaaW12
import Derived.Test.YtafokiobbceibaaW13
import Derived.Test.YtafokiobbceibaaW14
import Derived.Test.YtafokiobbceibaaW17
import Derived.Test.YtafokiobbceibaaW19
import Derived.Test.YtafokiobbceibaaSty
import Derived.Test.YtafokiobbceibaaW21
import Derived.Test.YtafokiobbceibaaPR
import Derived.Test.YtafokiobbceibaaDrf
import Derived.WalkKit
import Derived.WalkSpells
import Derived.WalkLawsBesides
import Derived.Handy
import Derived.Laws.EntriesVeiled
import Derived.Lib.Hide
import Derived.Deep.Light
import Derived.Deep.LoopGhost
import Derived.BigGuardPart
import Derived.BigQuiet
import Derived.Deep.QuietTactic
import Derived.Deep.RegionHeld3
import Derived.Deep.DeepCutAuto
import Derived.OwnWalk
import Derived.Outline
import Derived.Test.YtafokiobbceibaaReg
import Derived.Test.YtafokiobbceibaaReg3
import Derived.Test.YtafokiobbceibaaReg4
namespace Go.Proofs.Ytafokiobbceibaa
open Go.RowKit


theorem wpAnyH_takeD {P : Program} {md : Region.Mode} {ops : Array Oper} {Q : Exit → Act → World → Prop} {S : World → Prop} {i d : Nat} {oi : Oper} {v : Value} {fuel : Nat} {listed : Array Bool} {a : Act} {w : World} (hi : ops[i]? = some oi) (hd : oi.dst = some d)
    (hs : Region.noSelect ops = true) (hf : Region.free md ops listed i = true) (hr : (Region.ready md ops listed).contains i = true)
    (hQ : ∀ c a w, Q (.panic c) (a.put oi.dst v) w → Q (.panic c) a w) (hy : YieldsIf P ops S oi v a) (hS : S w)
    (h : wpAnyH P md ops Q S fuel (listed.setIfInBounds i true) (a.put (some d) v) w) : wpAnyH P md ops Q S (fuel + 1) listed a w :=
  wpAnyH_take hi hs hf hr hQ hy hS (by rw [hd]; exact h)
theorem info27 : (Try.prog.info? 27).map (fun i => (i.zero, i.size, i.bytes)) = some (some (.agg #[.int .i64 0, .int .i64 0, .int .i64 0, .int .i64 0, .int .i64 0, .string ⟨#[]⟩]), 6, 56) := by kernel_rfl
theorem pen_new (w : World) (g : Nat) (hg : g = w.heap.size) (p : Pen) : ∀ j u, (penC p)[j]? = some u → (w.alloc (.cells #[.int .i64 p.kd, .int .i64 p.n, .int .i64 p.m, .int .i64 p.ck, .int .i64 p.cn, .string p.s] 27)).cell? ((⟨g, 0, none⟩ : Addr).add j) = some u := by
  subst hg
  intro j u h
  rw [Addr.add_lit, Nat.zero_add]
  have : j < 6 := by
    rcases Nat.lt_or_ge j 6 with h' | h'
    · exact h'
    · rw [List.getElem?_eq_none (by simpa [penC] using h')] at h
      cases h
  refine (cell_of_row _ w.heap.size j _ 27 (0, 0) (heap_alloc_new w _)).trans ?_
  simpa [penC] using h
/-- The slice's drafts. -/
def Drfs (w : World) (oa : Option Addr) (n : Nat) : Prop := n ≤ 9223372036854775807 ∧ ∀ i, i < n → ∃ bl off d, oa = some ⟨bl, off, none⟩ ∧ d.Ok ∧ DrfAt w bl (off + i * 8) d
theorem Drfs.grows {w w' : World} {oa : Option Addr} {n : Nat} (h : Drfs w oa n) (g : Grows w w') : Drfs w' oa n :=
  ⟨h.1, fun i hi => by obtain ⟨bl, off, d, h1, h2, h3⟩ := h.2 i hi; exact ⟨bl, off, d, h1, h2, h3.grows g⟩⟩
theorem shl_m (b : Int) (_hb : 0 ≤ b ∧ b < 256) : ∃ m : Int, In64 m ∧ oneB m = true ∧ wrap64 (2 ^ (b % 8).toNat) = m := by
  have hq : b % 8 = 0 ∨ b % 8 = 1 ∨ b % 8 = 2 ∨ b % 8 = 3 ∨ b % 8 = 4 ∨ b % 8 = 5 ∨ b % 8 = 6 ∨ b % 8 = 7 := by omega
  rcases hq with h | h | h | h | h | h | h | h <;> rw [h]
  · exact ⟨1, by unfold In64; omega, by decide +kernel, by decide +kernel⟩
  · exact ⟨2, by unfold In64; omega, by decide +kernel, by decide +kernel⟩
  · exact ⟨4, by unfold In64; omega, by decide +kernel, by decide +kernel⟩
  · exact ⟨8, by unfold In64; omega, by decide +kernel, by decide +kernel⟩
  · exact ⟨16, by unfold In64; omega, by decide +kernel, by decide +kernel⟩
  · exact ⟨32, by unfold In64; omega, by decide +kernel, by decide +kernel⟩
  · exact ⟨64, by unfold In64; omega, by decide +kernel, by decide +kernel⟩
  · exact ⟨128, by unfold In64; omega, by decide +kernel, by decide +kernel⟩
theorem dpen_d (d : Drf) (h : d.Ok) : ∃ n m ck cn : Int, In64 m ∧ okP ⟨39, n, m, ck, cn, ⟨#[]⟩⟩ = true ∧ ∀ W, Calls Try.prog 11 #[.agg #[.int .u8 d.dA, .int .u8 d.dU, .int .u8 d.dW, .int .u8 d.dM, .int .u32 d.d0, .int .u32 d.d1, .int .u32 d.d2, .int .u32 d.d3]] W (Ret (.agg #[.int .i64 39, .int .i64 n, .int .i64 m, .int .i64 ck, .int .i64 cn, .string ⟨#[]⟩]) W) := by
  obtain ⟨h0, h1, h2, h3, h4, h5, h6, h7⟩ := h
  exact dpen_ok _ _ _ _ _ _ _ _ h0 h1 h2 h3 h4 h5 h6 h7
/-- The pens behind the reset: k of them, all valid. -/
def Lok (k : Nat) (qs : List Pen) : Prop := qs.length = k ∧ ∀ p ∈ qs, okP p = true ∧ In64 p.m
theorem Lok.snoc {k : Nat} {qs : List Pen} {p : Pen} (h : Lok k qs) (hp : okP p = true) (hm : In64 p.m) : Lok (k + 1) (qs ++ [p]) := by
  refine ⟨by rw [List.length_append, h.1]; rfl, fun q hq => ?_⟩
  rcases List.mem_append.1 hq with hq | hq
  · exact h.2 q hq
  · obtain rfl := List.mem_singleton.1 hq
    exact ⟨hp, hm⟩
theorem Lok.reset {k : Nat} {qs : List Pen} (h : Lok k qs) : ∀ p ∈ ((⟨39, 0, 0, 0, 0, ⟨#[]⟩⟩ : Pen) :: qs), In64 p.m := by
  intro p hp
  rcases List.mem_cons.1 hp with rfl | hp
  · show In64 0; unfold In64; omega
  · exact (h.2 p hp).2
theorem run_row1 (a u fk fn bk bn lk ln : Int) (hx : okS ⟨a, u, fk, fn, bk, bn, lk, ln⟩) (k : Nat) (hk : k ≤ 15) (qs : List Pen) (hq : Lok k qs) (ax ux fkx fnx bkx bnx lkx lnx : Int) (hy : runS zeroS qs = some ⟨ax, ux, fkx, fnx, bkx, bnx, lkx, lnx⟩) (g cap : Nat) (w W : World) (hg : g < w.heap.size) (hp : PensIn w g 0 ((⟨39, 0, 0, 0, 0, ⟨#[]⟩⟩ : Pen) :: qs)) (gW : Grows w W) : Calls Try.prog 17 #[.agg #[.int .i64 a, .int .i64 u, .int .i64 fk, .int .i64 fn, .int .i64 bk, .int .i64 bn, .int .i64 lk, .int .i64 ln], .slice (some ⟨g, 0, none⟩) (k + 1) cap] W (Ret (.tuple #[.agg #[.int .i64 ax, .int .i64 ux, .int .i64 fkx, .int .i64 fnx, .int .i64 bkx, .int .i64 bnx, .int .i64 lkx, .int .i64 lnx], .int .i64 0]) W) := by
  have hl : ((⟨39, 0, 0, 0, 0, ⟨#[]⟩⟩ : Pen) :: qs).length = k + 1 := by rw [List.length_cons, hq.1]
  have h := run_any a u fk fn bk bn lk ln (okS_in hx) ((⟨39, 0, 0, 0, 0, ⟨#[]⟩⟩ : Pen) :: qs) g 0 cap W (by rw [hl]; omega) (Nat.lt_of_lt_of_le hg gW.below.size) (hp.grows hg gW)
  rw [hl, runV_ok hx ((run_reset (_y := zeroS)).trans hy)] at h
  exact h
theorem run_row2 (k : Nat) (hk : k ≤ 15) (qs : List Pen) (hq : Lok k qs) (ax ux fkx fnx bkx bnx lkx lnx : Int) (hy : runS zeroS qs = some ⟨ax, ux, fkx, fnx, bkx, bnx, lkx, lnx⟩) (g cap : Nat) (w W : World) (hg : g < w.heap.size) (hp : PensIn w g 0 ((⟨39, 0, 0, 0, 0, ⟨#[]⟩⟩ : Pen) :: qs)) (gW : Grows w W) (off : Nat) (ho : off = 6 ∨ k = 0) : Calls Try.prog 17 #[.agg #[.int .i64 0, .int .i64 0, .int .i64 0, .int .i64 0, .int .i64 0, .int .i64 0, .int .i64 0, .int .i64 0], .slice (some ⟨g, off, none⟩) k cap] W (Ret (.tuple #[.agg #[.int .i64 ax, .int .i64 ux, .int .i64 fkx, .int .i64 fnx, .int .i64 bkx, .int .i64 bnx, .int .i64 lkx, .int .i64 lnx], .int .i64 0]) W) := by
  have hr : runV zeroS qs = .tuple #[.agg #[.int .i64 ax, .int .i64 ux, .int .i64 fkx, .int .i64 fnx, .int .i64 bkx, .int .i64 bnx, .int .i64 lkx, .int .i64 lnx], .int .i64 0] := runV_ok okS_zero hy
  rcases ho with rfl | rfl
  · have h := run_tail 0 0 0 0 0 0 0 0 (okS_in okS_zero) (⟨39, 0, 0, 0, 0, ⟨#[]⟩⟩ : Pen) qs (fun p hp => (hq.2 p hp).2) (by rw [hq.1]; omega) g cap W (Nat.lt_of_lt_of_le hg gW.below.size) (fun _ => hp.grows hg gW) (by show In64 0; unfold In64; omega)
    rw [hq.1] at h
    have e : runV ⟨0, 0, 0, 0, 0, 0, 0, 0⟩ qs = _ := hr
    rw [e] at h
    exact h
  · obtain rfl := List.length_eq_zero_iff.1 hq.1
    have h := run_nil 0 0 0 0 0 0 0 0 (okS_in okS_zero) (some ⟨g, off, none⟩) cap W
    have e : runV ⟨0, 0, 0, 0, 0, 0, 0, 0⟩ [] = _ := hr
    rw [e] at h
    exact h
theorem OwnP.alloc {w : World} {base : Nat} {v : Value} {l : List Pen} (h : OwnP w base v l) (o : Obj) : (w.alloc o).ownsRow base 27 6 v l.length (pensC l) := World.ownsRow.alloc h o
theorem pen_one (p : Pen) : ∀ u ∈ penC p, u.oneCell' = true := by simp [penC, Value.oneCell']
theorem mk_reset (a u fk fn bk bn lk ln : Int) (hx : okS ⟨a, u, fk, fn, bk, bn, lk, ln⟩) (B : Nat) (w : World) (hb : B < w.heap.size) (c0 : w.cell? ⟨B, 0, none⟩ = some (.int .i64 39)) (c1 : w.cell? ⟨B, 1, none⟩ = some (.int .i64 0)) (c2 : w.cell? ⟨B, 2, none⟩ = some (.int .i64 0)) (c3 : w.cell? ⟨B, 3, none⟩ = some (.int .i64 0)) (c4 : w.cell? ⟨B, 4, none⟩ = some (.int .i64 0)) (c5 : w.cell? ⟨B, 5, none⟩ = some (.string ⟨#[]⟩)) : Calls Try.prog 22 #[.agg #[.int .i64 a, .int .i64 u, .int .i64 fk, .int .i64 fn, .int .i64 bk, .int .i64 bn, .int .i64 lk, .int .i64 ln], .agg #[.int .i64 0, .int .i64 0, .int .i64 0, .int .i64 0, .int .i64 0, .int .i64 0, .int .i64 0, .int .i64 0], .slice (some ⟨B, 0, none⟩) 1 1] w (Ret (.bool true) w) :=
  makes_l a u fk fn bk bn lk ln 0 0 0 0 0 0 0 0 (okS_in hx) [(⟨39, 0, 0, 0, 0, ⟨#[]⟩⟩ : Pen)] 1 rfl B 1 w hb (pensIn1 (by show In64 0; unfold In64; omega) c0 c1 c2 c3 c4 c5) (by simp) (runV_ok (y := zeroS) hx ((run_reset (_y := zeroS)).trans rfl))
set_option maxRecDepth 100000 in
set_option maxHeartbeats 40000000 in
theorem lawBits_true (dA dU dW dM d0 d1 d2 d3 : Int) (hdA : 0 ≤ dA ∧ dA < 256) (hdU : 0 ≤ dU ∧ dU < 256) (hdW : 0 ≤ dW ∧ dW < 256) (hdM : 0 ≤ dM ∧ dM < 256) (hd0 : 0 ≤ d0 ∧ d0 < 4294967296) (hd1 : 0 ≤ d1 ∧ d1 < 4294967296) (hd2 : 0 ≤ d2 ∧ d2 < 4294967296) (hd3 : 0 ≤ d3 ∧ d3 < 4294967296) (bit : Int) (hbit : 0 ≤ bit ∧ bit < 256) (oa : Option Addr) (len cap : Nat) (w : World) (hd : Drfs w oa len) : Calls Try.prog 6 #[.agg #[.int .u8 dA, .int .u8 dU, .int .u8 dW, .int .u8 dM, .int .u32 d0, .int .u32 d1, .int .u32 d2, .int .u32 d3], .int .u8 bit, .slice oa len cap] w (Ret (.bool true) w) := by
  obtain ⟨a, u, fk, fn, bk, bn, lk, ln, hx, hdr⟩ := dstyle_ok dA dU dW dM d0 d1 d2 d3 hdA hdU hdW hdM hd0 hd1 hd2 hd3
  obtain ⟨m, hm, hone, hsh⟩ := shl_m bit hbit
  have hi := okS_in hx
  have Hd := Lib.hid hdr
  have r1 : runV (⟨a, u, fk, fn, bk, bn, lk, ln⟩ : Sty) [(⟨39, 1, m, 0, 0, ⟨#[]⟩⟩ : Pen)] = .tuple #[.agg #[.int .i64 (bits .or .i64 a m), .int .i64 u, .int .i64 fk, .int .i64 fn, .int .i64 bk, .int .i64 bn, .int .i64 lk, .int .i64 ln], .int .i64 0] := by
    rw [runV_ok hx (run1 (by simp [okP, pnB, mayB, colB, hone]))]
    rfl
  obtain ⟨m', hm', hclr, hcase⟩ : ∃ m' : Int, In64 m' ∧ clrB m' = true ∧ ((m ≤ 2 ∧ 3 = m') ∨ (¬ m ≤ 2 ∧ m = m')) := by
    by_cases hle : m ≤ 2
    · exact ⟨3, by unfold In64; omega, by decide +kernel, .inl ⟨hle, rfl⟩⟩
    · refine ⟨m, hm, ?_, .inr ⟨hle, rfl⟩⟩
      have h1 : (m == 1) = false := by simp; omega
      have h2 : (m == 2) = false := by simp; omega
      simp [clrB, hone, h1, h2]
  have r2 : runV (⟨a, u, fk, fn, bk, bn, lk, ln⟩ : Sty) [(⟨39, 2, m', 0, 0, ⟨#[]⟩⟩ : Pen)] = .tuple #[.agg #[.int .i64 (bits .andNot .i64 a m'), .int .i64 u, .int .i64 fk, .int .i64 fn, .int .i64 bk, .int .i64 bn, .int .i64 lk, .int .i64 ln], .int .i64 0] := by
    rw [runV_ok hx (run1 (by simp [okP, pnB, mayB, colB, hclr]))]
    rfl
  have Hap2 := Lib.hid fun W => apply_l a u fk fn bk bn lk ln 39 2 m' 0 0 ⟨#[]⟩ (bits .andNot .i64 a m') u fk fn bk bn lk ln 0 hi hm' r2 W
  have Hap := Lib.hid fun W => apply_l a u fk fn bk bn lk ln 39 1 m 0 0 ⟨#[]⟩ (bits .or .i64 a m) u fk fn bk bn lk ln 0 hi hm r1 W
  have Hx := Lib.hid hx
  have Hi := Lib.hid hi
  have Hm := Lib.hid hm
  have Hone := Lib.hid hone
  have HD := Lib.hid hd
  clear hdA hdU hdW hdM hd0 hd1 hd2 hd3 hx hi hm hone hdr r1 hd hm' hclr r2
  obtain ⟨i0, hi0, hz0, hz1, hz2⟩ := info_parts info27
  go_enter Try.func6, Try.ntmps6
  go_upto_region 5 with (first | (go_at_call 16; (with_reducible refine (works_true _).mono ?_); rintro e w' ⟨rfl, h1, k1, rfl⟩) | (go_at_call 10; (with_reducible refine (Hd.out _).mono ?_); rintro e w' ⟨rfl, h2, k2, rfl⟩))
  clear Hd
  try simp only [ext_ext]
  first | (refine wp_region_fill_ext 7 8 (.cells #[.int .i64 0, .int .i64 0, .int .i64 0, .int .i64 0, .int .i64 0, .int .i64 0, .int .i64 0, .int .i64 0] 25) (O' := ?ob41a) (by kernel_rfl) (by kernel_rfl) rfl rfl rfl rfl rfl (fun _ _ => by simp [go_sem]) ?_) | (refine wp_region_fill 7 8 (.cells #[.int .i64 0, .int .i64 0, .int .i64 0, .int .i64 0, .int .i64 0, .int .i64 0, .int .i64 0, .int .i64 0] 25) (O' := ?ob41b) (by kernel_rfl) (by kernel_rfl) rfl rfl rfl rfl rfl (fun _ _ => by simp [go_sem]) ?_)
  rotate_left
  repeat (first | (refine xWalk_make rfl ?_) | (refine xWalk_op (by decide) (by decide) (fun K hK => ?_); go_simp; (try go_ints); first | (refine hK _ ?_; clear hK K) | (apply Exists.intro; refine ⟨fun xg => ?_, hK _ ?_⟩; (first | (go_at_call 21; exact pen_any _ _ _) | (go_at_call 19; exact Hap.out _)); clear hK K)) | (refine xWalk_fill (by decide) rfl ?_ ?_; (intro xf yf; simp [go_sem, newPtr]; rfl)))
  refine xWalk_nil ?_
  intro x41 y41
  simp only [newPtr, ext_size, World.size_alloc, Array.size_append]
  simp only [Act.put, List.setIfInBounds_toArray, List.set_cons_zero, List.set_cons_succ]
  have l0 : w.heap.size ≤ (w.heap.size + 1 + (h1.size + h2.size)) := by omega
  have l1 : (w.heap.size + 1 + (h1.size + h2.size)) < (w.heap.size + 1 + (h1.size + h2.size) + 1 + x41.h.size) := by omega
  have l2 : (w.heap.size + 1 + (h1.size + h2.size) + 1 + x41.h.size) < (w.heap.size + 1 + (h1.size + h2.size) + 1 + x41.h.size + 1 + y41.h.size) := by omega
  rcases hcase with ⟨hle, rfl⟩ | ⟨hle, rfl⟩
  · have e0 : decide (m ≤ 2) = true := by simpa using hle
    clear hle
    go_upto_region 12 with fail
    refine abs_world (fun W => Grows w W ∧ StyAt W (w.heap.size + 1 + (h1.size + h2.size)) a u fk fn bk bn lk ln ∧ StyAt W (w.heap.size + 1 + (h1.size + h2.size) + 1 + x41.h.size) (bits .or .i64 a m) u fk fn bk bn lk ln ∧ StyAt W (w.heap.size + 1 + (h1.size + h2.size) + 1 + x41.h.size + 1 + y41.h.size) (bits .or .i64 a m) u fk fn bk bn lk ln) ⟨(by repeat' (first | (with_reducible exact Grows.refl _) | (with_reducible refine Grows.alloc ?_ _) | (with_reducible refine Grows.drew ?_) | (with_reducible refine Grows.ext ?_ _ _))), ⟨by simp [go_sem], by simp [go_sem], by simp [go_sem], by simp [go_sem], by simp [go_sem], by simp [go_sem], by simp [go_sem], by simp [go_sem], by simp [go_sem], by simp [go_sem], by simp [go_sem], by simp [go_sem], by simp [go_sem], by simp [go_sem], by simp [go_sem], by simp [go_sem], by simp [go_sem]⟩, ⟨by simp [go_sem], by simp [go_sem], by simp [go_sem], by simp [go_sem], by simp [go_sem], by simp [go_sem], by simp [go_sem], by simp [go_sem], by simp [go_sem], by simp [go_sem], by simp [go_sem], by simp [go_sem], by simp [go_sem], by simp [go_sem], by simp [go_sem], by simp [go_sem], by simp [go_sem]⟩, ⟨by simp [go_sem], by simp [go_sem], by simp [go_sem], by simp [go_sem], by simp [go_sem], by simp [go_sem], by simp [go_sem], by simp [go_sem], by simp [go_sem], by simp [go_sem], by simp [go_sem], by simp [go_sem], by simp [go_sem], by simp [go_sem], by simp [go_sem], by simp [go_sem], by simp [go_sem]⟩⟩ ?_
    rintro W0 ⟨G0, HS, HT, HU⟩
    generalize (w.heap.size + 1 + (h1.size + h2.size) + 1 + x41.h.size + 1 + y41.h.size) = N11 at *
    generalize (w.heap.size + 1 + (h1.size + h2.size) + 1 + x41.h.size) = N9 at *
    generalize (w.heap.size + 1 + (h1.size + h2.size)) = N7 at *
    have l09 : w.heap.size ≤ N9 := Nat.le_of_lt (Nat.lt_of_le_of_lt l0 l1)
    have l011 : w.heap.size ≤ N11 := Nat.le_of_lt (Nat.lt_of_le_of_lt l09 l2)
    have n1 : N7 ≠ N9 := Nat.ne_of_lt l1
    have n2 : N9 ≠ N7 := Nat.ne_of_gt l1
    have n3 : N9 ≠ N11 := Nat.ne_of_lt l2
    have n4 : N11 ≠ N9 := Nat.ne_of_gt l2
    have n5 : N7 ≠ N11 := by omega
    have n6 : N11 ≠ N7 := by omega
    have HS0 := HS
    have HT0 := HT
    have HU0 := HU
    obtain ⟨as0, as1, as2, as3, as4, as5, as6, as7, as8, af0, af1, af2, af3, af4, af5, af6, af7⟩ := HS0
    obtain ⟨bs0, bs1, bs2, bs3, bs4, bs5, bs6, bs7, bs8, bf0, bf1, bf2, bf3, bf4, bf5, bf6, bf7⟩ := HT0
    obtain ⟨cs0, cs1, cs2, cs3, cs4, cs5, cs6, cs7, cs8, cf0, cf1, cf2, cf3, cf4, cf5, cf6, cf7⟩ := HU0
    refine wp_region_held_drew (S := fun w' => StyAt w' N7 a u fk fn bk bn lk ln) (by kernel_rfl) ?_ (fun hHeld => ?_)
    · exact StyAt.grows HS (by repeat' (first | (with_reducible exact Grows.refl _) | (with_reducible refine Grows.alloc ?_ _) | (with_reducible refine Grows.drew ?_) | (with_reducible refine Grows.ext ?_ _ _)))
    refine wpAnyH_takeD (i := 0) (v := ?v109_0) rfl rfl (by kernel_rfl) (by kernel_rfl) (by kernel_rfl) (fun _ _ _ h => h) (Or.inl ⟨by kernel_rfl, ?y109_0⟩) (by assumption) ?r109_0
    case y109_0 => (intro wS hSw; obtain ⟨s0, s1, s2, s3, s4, s5, s6, s7, s8, f0, f1, f2, f3, f4, f5, f6, f7⟩ := hSw; go_simp; (try with_reducible rfl))
    try simp only [Act.put, List.setIfInBounds_toArray, List.set_cons_zero, List.set_cons_succ]
    refine wpAnyH_takeD (i := 1) (v := ?v110_1) rfl rfl (by kernel_rfl) (by kernel_rfl) (by kernel_rfl) (fun _ _ _ h => h) (Or.inl ⟨by kernel_rfl, ?y110_1⟩) (by assumption) ?r110_1
    case y110_1 => (intro wS hSw; obtain ⟨s0, s1, s2, s3, s4, s5, s6, s7, s8, f0, f1, f2, f3, f4, f5, f6, f7⟩ := hSw; go_simp; (try with_reducible rfl))
    try simp only [Act.put, List.setIfInBounds_toArray, List.set_cons_zero, List.set_cons_succ]
    refine wpAnyH_ready (rs := [2]) (by kernel_rfl) (by simp) ?_
    refine AllReadyH.cons rfl (fun K hK => ?_) AllReadyH.nil
    simp only [List.getElem_toArray, List.getElem_cons_succ, List.getElem_cons_zero]
    go_simp
    (go_at_call 21; (with_reducible refine (pen_any _ _ _).mono ?_); rintro e w' ⟨rfl, h6, k6, rfl⟩)
    refine hK.out _ _ ?_ ?_
    · exact StyAt.grows HS (by repeat' (first | (with_reducible exact Grows.refl _) | (with_reducible refine Grows.alloc ?_ _) | (with_reducible refine Grows.drew ?_) | (with_reducible refine Grows.ext ?_ _ _)))
    clear hK K hHeld
    intro hHeld
    try simp only [Act.put, List.setIfInBounds_toArray, List.set_cons_zero, List.set_cons_succ]
    refine wpAnyH_ready (rs := [3]) (by kernel_rfl) (by simp) ?_
    refine AllReadyH.cons rfl (fun K hK => ?_) AllReadyH.nil
    simp only [List.getElem_toArray, List.getElem_cons_succ, List.getElem_cons_zero]
    go_simp
    (go_at_call 19; (with_reducible refine (Hap2.out _).mono ?_); rintro e w' ⟨rfl, h7, k7, rfl⟩)
    refine hK.out _ _ ?_ ?_
    · exact StyAt.grows HS (by repeat' (first | (with_reducible exact Grows.refl _) | (with_reducible refine Grows.alloc ?_ _) | (with_reducible refine Grows.drew ?_) | (with_reducible refine Grows.ext ?_ _ _)))
    clear hK K hHeld
    intro hHeld
    try simp only [Act.put, List.setIfInBounds_toArray, List.set_cons_zero, List.set_cons_succ]
    refine wpAnyH_takeD (i := 4) (v := ?v113_4) rfl rfl (by kernel_rfl) (by kernel_rfl) (by kernel_rfl) (fun _ _ _ h => h) (Or.inl ⟨by kernel_rfl, ?y113_4⟩) (by assumption) ?r113_4
    case y113_4 => (intro wS hSw; obtain ⟨s0, s1, s2, s3, s4, s5, s6, s7, s8, f0, f1, f2, f3, f4, f5, f6, f7⟩ := hSw; go_simp; (try with_reducible rfl))
    try simp only [Act.put, List.setIfInBounds_toArray, List.set_cons_zero, List.set_cons_succ]
    refine wpAnyH_takeD (i := 5) (v := ?v114_5) rfl rfl (by kernel_rfl) (by kernel_rfl) (by kernel_rfl) (fun _ _ _ h => h) (Or.inl ⟨by kernel_rfl, ?y114_5⟩) (by assumption) ?r114_5
    case y114_5 => (intro wS hSw; obtain ⟨s0, s1, s2, s3, s4, s5, s6, s7, s8, f0, f1, f2, f3, f4, f5, f6, f7⟩ := hSw; go_simp; (try with_reducible rfl))
    try simp only [Act.put, List.setIfInBounds_toArray, List.set_cons_zero, List.set_cons_succ]
    refine wpAnyH_takeD (i := 6) (v := ?v115_6) rfl rfl (by kernel_rfl) (by kernel_rfl) (by kernel_rfl) (fun _ _ _ h => h) (Or.inl ⟨by kernel_rfl, ?y115_6⟩) (by assumption) ?r115_6
    case y115_6 => (intro wS hSw; obtain ⟨s0, s1, s2, s3, s4, s5, s6, s7, s8, f0, f1, f2, f3, f4, f5, f6, f7⟩ := hSw; go_simp; (try with_reducible rfl))
    try simp only [Act.put, List.setIfInBounds_toArray, List.set_cons_zero, List.set_cons_succ]
    refine wpAnyH_ready (rs := [7]) (by kernel_rfl) (by simp) ?_
    refine AllReadyH.cons rfl (fun K hK => ?_) AllReadyH.nil
    simp only [List.getElem_toArray, List.getElem_cons_succ, List.getElem_cons_zero]
    go_simp
    skip
    refine hK.out _ _ ?_ ?_
    · exact StyAt.grows (((((((((HS).other n1).other n1).other n1).other n1).other n1).other n1).other n1).other n1) (by repeat' (first | (with_reducible exact Grows.refl _) | (with_reducible refine Grows.alloc ?_ _) | (with_reducible refine Grows.drew ?_) | (with_reducible refine Grows.ext ?_ _ _)))
    clear hK K hHeld
    intro hHeld
    try simp only [Act.put, List.setIfInBounds_toArray, List.set_cons_zero, List.set_cons_succ]
    refine wpAnyH_takeD (i := 8) (v := ?v117_8) rfl rfl (by kernel_rfl) (by kernel_rfl) (by kernel_rfl) (fun _ _ _ h => h) (Or.inl ⟨by kernel_rfl, ?y117_8⟩) (by assumption) ?r117_8
    case y117_8 => (intro wS hSw; obtain ⟨s0, s1, s2, s3, s4, s5, s6, s7, s8, f0, f1, f2, f3, f4, f5, f6, f7⟩ := hSw; go_simp; (try with_reducible rfl))
    try simp only [Act.put, List.setIfInBounds_toArray, List.set_cons_zero, List.set_cons_succ]
    refine wpAnyH_done (by kernel_rfl) ?_ _
    clear hHeld
    go_upto_region 13 with fail
    refine abs_world (fun W => Grows w W ∧ StyAt W N7 a u fk fn bk bn lk ln ∧ (∃ x9, StyAt W N9 x9 u fk fn bk bn lk ln ∧ x9 = bits .andNot .i64 a 3) ∧ StyAt W N11 (bits .or .i64 a m) u fk fn bk bn lk ln) ⟨(by repeat' (first | (with_reducible exact G0) | (with_reducible refine Grows.setCell ?_ l09 _) | (with_reducible exact Grows.refl _) | (with_reducible refine Grows.alloc ?_ _) | (with_reducible refine Grows.drew ?_) | (with_reducible refine Grows.ext ?_ _ _))), StyAt.grows (((((((((HS).other n1).other n1).other n1).other n1).other n1).other n1).other n1).other n1) (by repeat' (first | (with_reducible exact Grows.refl _) | (with_reducible refine Grows.alloc ?_ _) | (with_reducible refine Grows.drew ?_) | (with_reducible refine Grows.ext ?_ _ _))), ⟨_, StyAt.grows (HT.setAll _ _ _ _ _ _ _ _) (by repeat' (first | (with_reducible exact Grows.refl _) | (with_reducible refine Grows.alloc ?_ _) | (with_reducible refine Grows.drew ?_) | (with_reducible refine Grows.ext ?_ _ _))), rfl⟩, StyAt.grows (((((((((HU).other n4).other n4).other n4).other n4).other n4).other n4).other n4).other n4) (by repeat' (first | (with_reducible exact Grows.refl _) | (with_reducible refine Grows.alloc ?_ _) | (with_reducible refine Grows.drew ?_) | (with_reducible refine Grows.ext ?_ _ _)))⟩ ?_
    clear as0 as1 as2 as3 as4 as5 as6 as7 as8 af0 af1 af2 af3 af4 af5 af6 af7 bs0 bs1 bs2 bs3 bs4 bs5 bs6 bs7 bs8 bf0 bf1 bf2 bf3 bf4 bf5 bf6 bf7 cs0 cs1 cs2 cs3 cs4 cs5 cs6 cs7 cs8 cf0 cf1 cf2 cf3 cf4 cf5 cf6 cf7 HS HT HU G0
    rintro W1 ⟨G1, HS, ⟨x9, HT, e9⟩, HU⟩
    have HS0 := HS
    obtain ⟨as0, as1, as2, as3, as4, as5, as6, as7, as8, af0, af1, af2, af3, af4, af5, af6, af7⟩ := HS0
    obtain ⟨bs0, bs1, bs2, bs3, bs4, bs5, bs6, bs7, bs8, bf0, bf1, bf2, bf3, bf4, bf5, bf6, bf7⟩ := HT
    obtain ⟨cs0, cs1, cs2, cs3, cs4, cs5, cs6, cs7, cs8, cf0, cf1, cf2, cf3, cf4, cf5, cf6, cf7⟩ := HU
    subst e9
    go_upto_region 16 with fail
    refine abs_world (fun W => Grows w W ∧ StyAt W N7 a u fk fn bk bn lk ln) ⟨(by repeat' (first | (with_reducible exact G1) | (with_reducible refine Grows.setCell ?_ l011 _) | (with_reducible exact Grows.refl _) | (with_reducible refine Grows.alloc ?_ _) | (with_reducible refine Grows.drew ?_) | (with_reducible refine Grows.ext ?_ _ _))), StyAt.grows (HS.other n5) (by repeat' (first | (with_reducible exact Grows.refl _) | (with_reducible refine Grows.alloc ?_ _) | (with_reducible refine Grows.drew ?_) | (with_reducible refine Grows.ext ?_ _ _)))⟩ ?_
    clear as0 as1 as2 as3 as4 as5 as6 as7 as8 af0 af1 af2 af3 af4 af5 af6 af7 bs0 bs1 bs2 bs3 bs4 bs5 bs6 bs7 bs8 bf0 bf1 bf2 bf3 bf4 bf5 bf6 bf7 cs0 cs1 cs2 cs3 cs4 cs5 cs6 cs7 cs8 cf0 cf1 cf2 cf3 cf4 cf5 cf6 cf7 HS G1
    rintro W0 ⟨G0, HS⟩
    go_upto_region 17 with (go_at_call 21; (with_reducible refine (pen_any _ _ _).mono ?_); rintro e w' ⟨rfl, h5, k5, rfl⟩)
    refine abs_world (fun W => Grows W0 W ∧ OwnP W W0.heap.size (.slice (some ⟨W0.heap.size + h5.size, 0, none⟩) 1 1) [(⟨39, 0, 0, 0, 0, ⟨#[]⟩⟩ : Pen)]) ⟨(by repeat' (first | (with_reducible exact Grows.refl _) | (with_reducible refine Grows.alloc ?_ _) | (with_reducible refine Grows.drew ?_) | (with_reducible refine Grows.ext ?_ _ _))), OwnP.one (by rw [← ext_size W0 h5 k5]; exact heap_alloc_new _ _) (by omega)⟩ ?_
    rintro W1 ⟨G1, HO⟩
    generalize W0.heap.size + h5.size = g0 at *
    have HD0 := Lib.hid (HD.out.grows G0)
    have HSh := Lib.hid HS
    clear HS HD
    go_wp2
    go_loopw [12, 13] (fun v i wr => ∃ (k : Nat) (qs : List Pen), k ≤ len ∧ k ≤ 15 ∧ i = .int .i64 k ∧ Lok k qs ∧ OwnP wr W0.heap.size v ((⟨39, 0, 0, 0, 0, ⟨#[]⟩⟩ : Pen) :: qs) ∧ Grows W0 wr) (fun _ i _ => len - (intOf i).toNat)
    case atStart => exact ⟨0, [], by omega, by omega, rfl, ⟨rfl, fun p hp => by cases hp⟩, HO, G1⟩
    case round =>
      clear HO G1
      obtain ⟨k, qs, hk, hk15, rfl, hL, hO, hG⟩ := hrel
      have HL := Lib.hid hL
      clear hL
      have hlen := HD0.out.1
      by_cases hc : k < len ∧ k < 15
      · obtain ⟨hc1, hc2⟩ := hc
        obtain ⟨bl, off, d, hoa, hdo, hda⟩ := HD0.out.2 k hc1
        subst hoa
        obtain ⟨n, m2, ck, cn, hm2, hp, hP⟩ := dpen_d d hdo
        have ha := hda.grows hG
        obtain ⟨q0, q1, q2, q3, q4, q5, q6, q7⟩ := d
        obtain ⟨c0, c1, c2, c3, c4, c5, c6, c7⟩ := ha
        simp only at c0 c1 c2 c3 c4 c5 c6 c7 hP
        have HP := Lib.hid hP
        have HL2 := Lib.hid (HL.out.snoc hp hm2)
        have e1 : decide ((k : Int) < len) = true := by simp; omega
        have e2 : decide ((k : Int) < 15) = true := by simp; omega
        have hb1 : (k : Int) < len := by omega
        clear hP hp hm2 hdo hda
        go_wp2_with (first | (go_at_call 11; (with_reducible refine (HP.out _).mono ?_); rintro e w' ⟨rfl, h6, k6, rfl⟩) | (at_builtin; refine wpList_append_own _ rfl (.tmp 78) (.tmp 84) 43 rfl W0.heap.size 27 i0 (.agg #[.int .i64 0, .int .i64 0, .int .i64 0, .int .i64 0, .int .i64 0, .string ⟨#[]⟩]) 6 56 Try.underlying43 hi0 hz0 hz1 hz2 rfl (by decide) _ _ _ rfl (OwnP.alloc (OwnP.grows hO (Grows.ext (Grows.refl _) h6 k6)) _) ⟨wr.heap.size + h6.size, 0, none⟩ 1 1 (penC ⟨39, n, m2, ck, cn, ⟨#[]⟩⟩) rfl rfl (pen_new (ext wr h6 k6) _ (by simp) ⟨39, n, m2, ck, cn, ⟨#[]⟩⟩) (pen_one _) (by have := HL.out.1; simp only [List.length_cons]; unfold maxLen; omega) (by have := HL.out.1; simp only [List.length_cons]; omega) (by have := hG.below.size; simp; omega) ?_; intro v' w1 hown' hgrow _))
        have hO' := OwnP.snoc (l := (⟨39, 0, 0, 0, 0, ⟨#[]⟩⟩ : Pen) :: qs) hown'
        have hG' := Grows.appended ((hG.ext h6 k6).alloc _) hgrow (fun q e => (World.ownsRow.lt hO q e).1)
        clear hown' hgrow hO hG
        go_wp2
        go_roundw
        case rel => exact ⟨k + 1, _, by omega, by omega, by go_num, HL2.out, hO', hG'⟩
        case measure => simp [intOf]; omega
      · rcases (by omega : ¬ k < len ∨ (k < len ∧ ¬ k < 15)) with h | ⟨h, h'⟩
        · have e1 : decide ((k : Int) < len) = false := by simp; omega
          obtain ⟨⟨ax, ux, fkx, fnx, bkx, bnx, lkx, lnx⟩, hy⟩ := run_all (l := qs) (fun p hp => (HL.out.2 p hp).1) (x := zeroS)
          obtain ⟨g, cap', hv, hcap, hbg, hgs, hPI, -⟩ := OwnP.at hO (by simp)
          have hPn := hPI HL.out.reset
          rw [show ((⟨39, 0, 0, 0, 0, ⟨#[]⟩⟩ : Pen) :: qs).length = k + 1 by rw [List.length_cons, HL.out.1]] at hv hcap
          subst hv
          have H1 := Lib.hid fun W gW => run_row1 a u fk fn bk bn lk ln Hx.out k hk15 qs HL.out ax ux fkx fnx bkx bnx lkx lnx hy g cap' wr W hgs hPn gW
          have H2 := Lib.hid fun off ho cap W gW => run_row2 k hk15 qs HL.out ax ux fkx fnx bkx bnx lkx lnx hy g cap wr W hgs hPn gW off ho
          have hc0 := hPn 0 _ rfl
          simp only [Nat.zero_add, Nat.zero_mul] at hc0
          obtain ⟨-, c0, c1, c2, c3, c4, c5⟩ := hc0
          have HSr := HSh.out.grows hG
          obtain ⟨s0, s1, s2, s3, s4, s5, s6, s7, s8, f0, f1, f2, f3, f4, f5, f6, f7⟩ := HSr
          have GWr := Lib.hid (G0.trans hG)
          clear hPI hPn hy hO HL hc
          go_upto_region 22 with (go_at_call 17; (with_reducible refine (H1.out _ (by repeat' (first | (with_reducible exact Grows.refl _) | (with_reducible refine Grows.alloc ?_ _) | (with_reducible refine Grows.drew ?_) | (with_reducible refine Grows.ext ?_ _ _)))).mono ?_); rintro e w' ⟨rfl, h7, k7, rfl⟩)
          by_cases hc1 : cap' = 1
          · obtain rfl : k = 0 := by omega
            subst hc1
            go_upto_region 23 with (go_at_call 17; (with_reducible refine (H2.out _ (.inr rfl) _ _ (by repeat' (first | (with_reducible exact Grows.refl _) | (with_reducible refine Grows.alloc ?_ _) | (with_reducible refine Grows.drew ?_) | (with_reducible refine Grows.ext ?_ _ _)))).mono ?_); rintro e w' ⟨rfl, h8, k8, rfl⟩)
            refine abs_world (fun W => Grows w W ∧ StyAt W N7 a u fk fn bk bn lk ln ∧ StyAt W (wr.heap.size + h7.size) ax ux fkx fnx bkx bnx lkx lnx ∧ StyAt W (wr.heap.size + h7.size + 1 + h8.size) ax ux fkx fnx bkx bnx lkx lnx ∧ ActAt W g 39 0 0 0 0 ⟨#[]⟩) ⟨GWr.out.trans (by repeat' (first | (with_reducible exact Grows.refl _) | (with_reducible refine Grows.alloc ?_ _) | (with_reducible refine Grows.drew ?_) | (with_reducible refine Grows.ext ?_ _ _))), HSh.out.grows (hG.trans (by repeat' (first | (with_reducible exact Grows.refl _) | (with_reducible refine Grows.alloc ?_ _) | (with_reducible refine Grows.drew ?_) | (with_reducible refine Grows.ext ?_ _ _)))), ⟨by simp [go_sem], by simp [go_sem], by simp [go_sem], by simp [go_sem], by simp [go_sem], by simp [go_sem], by simp [go_sem], by simp [go_sem], by simp [go_sem], by simp [go_sem], by simp [go_sem], by simp [go_sem], by simp [go_sem], by simp [go_sem], by simp [go_sem], by simp [go_sem], by simp [go_sem]⟩, ⟨by simp [go_sem], by simp [go_sem], by simp [go_sem], by simp [go_sem], by simp [go_sem], by simp [go_sem], by simp [go_sem], by simp [go_sem], by simp [go_sem], by simp [go_sem], by simp [go_sem], by simp [go_sem], by simp [go_sem], by simp [go_sem], by simp [go_sem], by simp [go_sem], by simp [go_sem]⟩, ⟨Nat.lt_of_lt_of_le hgs (Grows.below (w := wr) (by repeat' (first | (with_reducible exact Grows.refl _) | (with_reducible refine Grows.alloc ?_ _) | (with_reducible refine Grows.drew ?_) | (with_reducible refine Grows.ext ?_ _ _)))).size, by simp [go_sem, hgs, c0], by simp [go_sem, hgs, c1], by simp [go_sem, hgs, c2], by simp [go_sem, hgs, c3], by simp [go_sem, hgs, c4], by simp [go_sem, hgs, c5]⟩⟩ ?_
            rintro WZ ⟨GZ, HA, HB, HC, HE⟩
            generalize wr.heap.size + h7.size + 1 + h8.size = N16 at *
            generalize wr.heap.size + h7.size = N14 at *
            clear s0 s1 s2 s3 s4 s5 s6 s7 s8 f0 f1 f2 f3 f4 f5 f6 f7 c0 c1 c2 c3 c4 c5 hgs
            obtain ⟨as0, as1, as2, as3, as4, as5, as6, as7, as8, af0, af1, af2, af3, af4, af5, af6, af7⟩ := HA
            obtain ⟨bs0, bs1, bs2, bs3, bs4, bs5, bs6, bs7, bs8, bf0, bf1, bf2, bf3, bf4, bf5, bf6, bf7⟩ := HB
            obtain ⟨cs0, cs1, cs2, cs3, cs4, cs5, cs6, cs7, cs8, cf0, cf1, cf2, cf3, cf4, cf5, cf6, cf7⟩ := HC
            obtain ⟨p0, p1, p2, p3, p4, p5, p6⟩ := HE
            refine wp_region_held_drew (S := fun w' => Grows WZ w') (by kernel_rfl) ?_ (fun hHeld => ?_)
            · exact (by repeat' (first | (with_reducible exact Grows.refl _) | (with_reducible refine Grows.alloc ?_ _) | (with_reducible refine Grows.drew ?_) | (with_reducible refine Grows.ext ?_ _ _)))
            refine wpAnyH_takeD (i := 0) (v := ?v127_0) rfl rfl (by kernel_rfl) (by kernel_rfl) (by kernel_rfl) (fun _ _ _ h => h) (Or.inl ⟨by kernel_rfl, ?y127_0⟩) (by assumption) ?r127_0
            case y127_0 => (intro wS hSw; obtain ⟨hhS, ddS, rfl⟩ := hSw; go_simp; (try with_reducible rfl))
            try simp only [Act.put, List.setIfInBounds_toArray, List.set_cons_zero, List.set_cons_succ]
            refine wpAnyH_takeD (i := 1) (v := ?v128_1) rfl rfl (by kernel_rfl) (by kernel_rfl) (by kernel_rfl) (fun _ _ _ h => h) (Or.inl ⟨by kernel_rfl, ?y128_1⟩) (by assumption) ?r128_1
            case y128_1 => (intro wS hSw; obtain ⟨hhS, ddS, rfl⟩ := hSw; go_simp; (try with_reducible rfl))
            try simp only [Act.put, List.setIfInBounds_toArray, List.set_cons_zero, List.set_cons_succ]
            refine wpAnyH_takeD (i := 2) (v := ?v129_2) rfl rfl (by kernel_rfl) (by kernel_rfl) (by kernel_rfl) (fun _ _ _ h => h) (Or.inl ⟨by kernel_rfl, ?y129_2⟩) (by assumption) ?r129_2
            case y129_2 => (intro wS hSw; obtain ⟨hhS, ddS, rfl⟩ := hSw; go_simp; (try with_reducible rfl))
            try simp only [Act.put, List.setIfInBounds_toArray, List.set_cons_zero, List.set_cons_succ]
            refine wpAnyH_takeD (i := 3) (v := ?v130_3) rfl rfl (by kernel_rfl) (by kernel_rfl) (by kernel_rfl) (fun _ _ _ h => h) (Or.inl ⟨by kernel_rfl, ?y130_3⟩) (by assumption) ?r130_3
            case y130_3 => (intro wS hSw; obtain ⟨hhS, ddS, rfl⟩ := hSw; go_simp; (try with_reducible rfl))
            try simp only [Act.put, List.setIfInBounds_toArray, List.set_cons_zero, List.set_cons_succ]
            refine wpAnyH_takeD (i := 4) (v := ?v131_4) rfl rfl (by kernel_rfl) (by kernel_rfl) (by kernel_rfl) (fun _ _ _ h => h) (Or.inl ⟨by kernel_rfl, ?y131_4⟩) (by assumption) ?r131_4
            case y131_4 => (intro wS hSw; obtain ⟨hhS, ddS, rfl⟩ := hSw; go_simp; (try with_reducible rfl))
            try simp only [Act.put, List.setIfInBounds_toArray, List.set_cons_zero, List.set_cons_succ]
            refine wpAnyH_takeD (i := 5) (v := ?v132_5) rfl rfl (by kernel_rfl) (by kernel_rfl) (by kernel_rfl) (fun _ _ _ h => h) (Or.inl ⟨by kernel_rfl, ?y132_5⟩) (by assumption) ?r132_5
            case y132_5 => (intro wS hSw; obtain ⟨hhS, ddS, rfl⟩ := hSw; go_simp; (try with_reducible rfl))
            try simp only [Act.put, List.setIfInBounds_toArray, List.set_cons_zero, List.set_cons_succ]
            refine wpAnyH_takeD (i := 6) (v := ?v133_6) rfl rfl (by kernel_rfl) (by kernel_rfl) (by kernel_rfl) (fun _ _ _ h => h) (Or.inl ⟨by kernel_rfl, ?y133_6⟩) (by assumption) ?r133_6
            case y133_6 => (intro wS hSw; obtain ⟨hhS, ddS, rfl⟩ := hSw; go_simp; (try with_reducible rfl))
            try simp only [Act.put, List.setIfInBounds_toArray, List.set_cons_zero, List.set_cons_succ]
            refine wpAnyH_takeD (i := 7) (v := ?v134_7) rfl rfl (by kernel_rfl) (by kernel_rfl) (by kernel_rfl) (fun _ _ _ h => h) (Or.inl ⟨by kernel_rfl, ?y134_7⟩) (by assumption) ?r134_7
            case y134_7 => (intro wS hSw; obtain ⟨hhS, ddS, rfl⟩ := hSw; go_simp; (try with_reducible rfl))
            try simp only [Act.put, List.setIfInBounds_toArray, List.set_cons_zero, List.set_cons_succ]
            refine wpAnyH_takeD (i := 8) (v := ?v135_8) rfl rfl (by kernel_rfl) (by kernel_rfl) (by kernel_rfl) (fun _ _ _ h => h) (Or.inl ⟨by kernel_rfl, ?y135_8⟩) (by assumption) ?r135_8
            case y135_8 => (intro wS hSw; obtain ⟨hhS, ddS, rfl⟩ := hSw; go_simp; (try with_reducible rfl))
            try simp only [Act.put, List.setIfInBounds_toArray, List.set_cons_zero, List.set_cons_succ]
            refine wpAnyH_takeD (i := 9) (v := ?v136_9) rfl rfl (by kernel_rfl) (by kernel_rfl) (by kernel_rfl) (fun _ _ _ h => h) (Or.inl ⟨by kernel_rfl, ?y136_9⟩) (by assumption) ?r136_9
            case y136_9 => (intro wS hSw; obtain ⟨hhS, ddS, rfl⟩ := hSw; go_simp; (try with_reducible rfl))
            try simp only [Act.put, List.setIfInBounds_toArray, List.set_cons_zero, List.set_cons_succ]
            refine wpAnyH_takeD (i := 10) (v := ?v137_10) rfl rfl (by kernel_rfl) (by kernel_rfl) (by kernel_rfl) (fun _ _ _ h => h) (Or.inl ⟨by kernel_rfl, ?y137_10⟩) (by assumption) ?r137_10
            case y137_10 => (intro wS hSw; obtain ⟨hhS, ddS, rfl⟩ := hSw; go_simp; (try with_reducible rfl))
            try simp only [Act.put, List.setIfInBounds_toArray, List.set_cons_zero, List.set_cons_succ]
            refine wpAnyH_takeD (i := 11) (v := ?v138_11) rfl rfl (by kernel_rfl) (by kernel_rfl) (by kernel_rfl) (fun _ _ _ h => h) (Or.inl ⟨by kernel_rfl, ?y138_11⟩) (by assumption) ?r138_11
            case y138_11 => (intro wS hSw; obtain ⟨hhS, ddS, rfl⟩ := hSw; go_simp; (try with_reducible rfl))
            try simp only [Act.put, List.setIfInBounds_toArray, List.set_cons_zero, List.set_cons_succ]
            refine wpAnyH_takeD (i := 12) (v := ?v139_12) rfl rfl (by kernel_rfl) (by kernel_rfl) (by kernel_rfl) (fun _ _ _ h => h) (Or.inl ⟨by kernel_rfl, ?y139_12⟩) (by assumption) ?r139_12
            case y139_12 => (intro wS hSw; obtain ⟨hhS, ddS, rfl⟩ := hSw; go_simp; (try with_reducible rfl))
            try simp only [Act.put, List.setIfInBounds_toArray, List.set_cons_zero, List.set_cons_succ]
            refine wpAnyH_takeD (i := 13) (v := ?v140_13) rfl rfl (by kernel_rfl) (by kernel_rfl) (by kernel_rfl) (fun _ _ _ h => h) (Or.inl ⟨by kernel_rfl, ?y140_13⟩) (by assumption) ?r140_13
            case y140_13 => (intro wS hSw; obtain ⟨hhS, ddS, rfl⟩ := hSw; go_simp; (try with_reducible rfl))
            try simp only [Act.put, List.setIfInBounds_toArray, List.set_cons_zero, List.set_cons_succ]
            refine wpAnyH_takeD (i := 14) (v := ?v141_14) rfl rfl (by kernel_rfl) (by kernel_rfl) (by kernel_rfl) (fun _ _ _ h => h) (Or.inl ⟨by kernel_rfl, ?y141_14⟩) (by assumption) ?r141_14
            case y141_14 => (intro wS hSw; obtain ⟨hhS, ddS, rfl⟩ := hSw; go_simp; (try with_reducible rfl))
            try simp only [Act.put, List.setIfInBounds_toArray, List.set_cons_zero, List.set_cons_succ]
            refine wpAnyH_takeD (i := 15) (v := ?v142_15) rfl rfl (by kernel_rfl) (by kernel_rfl) (by kernel_rfl) (fun _ _ _ h => h) (Or.inl ⟨by kernel_rfl, ?y142_15⟩) (by assumption) ?r142_15
            case y142_15 => (intro wS hSw; obtain ⟨hhS, ddS, rfl⟩ := hSw; go_simp; (try with_reducible rfl))
            try simp only [Act.put, List.setIfInBounds_toArray, List.set_cons_zero, List.set_cons_succ]
            refine wpAnyH_takeD (i := 16) (v := ?v143_16) rfl rfl (by kernel_rfl) (by kernel_rfl) (by kernel_rfl) (fun _ _ _ h => h) (Or.inl ⟨by kernel_rfl, ?y143_16⟩) (by assumption) ?r143_16
            case y143_16 => (intro wS hSw; obtain ⟨hhS, ddS, rfl⟩ := hSw; go_simp; (try with_reducible rfl))
            try simp only [Act.put, List.setIfInBounds_toArray, List.set_cons_zero, List.set_cons_succ]
            refine wpAnyH_ready (rs := [17]) (by kernel_rfl) (by simp) ?_
            refine AllReadyH.cons rfl (fun K hK => ?_) AllReadyH.nil
            simp only [List.getElem_toArray, List.getElem_cons_succ, List.getElem_cons_zero]
            go_simp
            skip
            refine hK.out _ _ ?_ ?_
            · exact (by repeat' (first | (with_reducible exact Grows.refl _) | (with_reducible refine Grows.alloc ?_ _) | (with_reducible refine Grows.drew ?_) | (with_reducible refine Grows.ext ?_ _ _)))
            clear hK K hHeld
            intro hHeld
            try simp only [Act.put, List.setIfInBounds_toArray, List.set_cons_zero, List.set_cons_succ]
            refine wpAnyH_ready (rs := [18]) (by kernel_rfl) (by simp) ?_
            refine AllReadyH.cons rfl (fun K hK => ?_) AllReadyH.nil
            simp only [List.getElem_toArray, List.getElem_cons_succ, List.getElem_cons_zero]
            go_simp
            (go_at_call 22; (with_reducible refine (mk_reset a u fk fn bk bn lk ln Hx.out _ _ (by simp [go_sem]) (by simp [go_sem]) (by simp [go_sem]) (by simp [go_sem]) (by simp [go_sem]) (by simp [go_sem]) (by simp [go_sem])).mono ?_); rintro e w' ⟨rfl, h9, k9, rfl⟩)
            refine hK.out _ _ ?_ ?_
            · exact (by repeat' (first | (with_reducible exact Grows.refl _) | (with_reducible refine Grows.alloc ?_ _) | (with_reducible refine Grows.drew ?_) | (with_reducible refine Grows.ext ?_ _ _)))
            clear hK K hHeld
            intro hHeld
            try simp only [Act.put, List.setIfInBounds_toArray, List.set_cons_zero, List.set_cons_succ]
            refine wpAnyH_takeD (i := 19) (v := ?v146_19) rfl rfl (by kernel_rfl) (by kernel_rfl) (by kernel_rfl) (fun _ _ _ h => h) (Or.inl ⟨by kernel_rfl, ?y146_19⟩) (by assumption) ?r146_19
            case y146_19 => (intro wS hSw; obtain ⟨hhS, ddS, rfl⟩ := hSw; go_simp; (try with_reducible rfl))
            try simp only [Act.put, List.setIfInBounds_toArray, List.set_cons_zero, List.set_cons_succ]
            refine wpAnyH_takeD (i := 20) (v := ?v147_20) rfl rfl (by kernel_rfl) (by kernel_rfl) (by kernel_rfl) (fun _ _ _ h => h) (Or.inl ⟨by kernel_rfl, ?y147_20⟩) (by assumption) ?r147_20
            case y147_20 => (intro wS hSw; obtain ⟨hhS, ddS, rfl⟩ := hSw; go_simp; (try with_reducible rfl))
            try simp only [Act.put, List.setIfInBounds_toArray, List.set_cons_zero, List.set_cons_succ]
            refine wpAnyH_done (by kernel_rfl) ?_ _
            clear hHeld
            go_wp2
            go_returns
            exact ⟨rfl, (by repeat' (first | (with_reducible exact GZ) | (with_reducible exact Grows.refl _) | (with_reducible refine Grows.alloc ?_ _) | (with_reducible refine Grows.drew ?_) | (with_reducible refine Grows.ext ?_ _ _)))⟩
          · go_upto_region 23 with (go_at_call 17; (with_reducible refine (H2.out _ (.inl rfl) _ _ (by repeat' (first | (with_reducible exact Grows.refl _) | (with_reducible refine Grows.alloc ?_ _) | (with_reducible refine Grows.drew ?_) | (with_reducible refine Grows.ext ?_ _ _)))).mono ?_); rintro e w' ⟨rfl, h8, k8, rfl⟩)
            refine abs_world (fun W => Grows w W ∧ StyAt W N7 a u fk fn bk bn lk ln ∧ StyAt W (wr.heap.size + h7.size) ax ux fkx fnx bkx bnx lkx lnx ∧ StyAt W (wr.heap.size + h7.size + 1 + h8.size) ax ux fkx fnx bkx bnx lkx lnx ∧ ActAt W g 39 0 0 0 0 ⟨#[]⟩) ⟨GWr.out.trans (by repeat' (first | (with_reducible exact Grows.refl _) | (with_reducible refine Grows.alloc ?_ _) | (with_reducible refine Grows.drew ?_) | (with_reducible refine Grows.ext ?_ _ _))), HSh.out.grows (hG.trans (by repeat' (first | (with_reducible exact Grows.refl _) | (with_reducible refine Grows.alloc ?_ _) | (with_reducible refine Grows.drew ?_) | (with_reducible refine Grows.ext ?_ _ _)))), ⟨by simp [go_sem], by simp [go_sem], by simp [go_sem], by simp [go_sem], by simp [go_sem], by simp [go_sem], by simp [go_sem], by simp [go_sem], by simp [go_sem], by simp [go_sem], by simp [go_sem], by simp [go_sem], by simp [go_sem], by simp [go_sem], by simp [go_sem], by simp [go_sem], by simp [go_sem]⟩, ⟨by simp [go_sem], by simp [go_sem], by simp [go_sem], by simp [go_sem], by simp [go_sem], by simp [go_sem], by simp [go_sem], by simp [go_sem], by simp [go_sem], by simp [go_sem], by simp [go_sem], by simp [go_sem], by simp [go_sem], by simp [go_sem], by simp [go_sem], by simp [go_sem], by simp [go_sem]⟩, ⟨Nat.lt_of_lt_of_le hgs (Grows.below (w := wr) (by repeat' (first | (with_reducible exact Grows.refl _) | (with_reducible refine Grows.alloc ?_ _) | (with_reducible refine Grows.drew ?_) | (with_reducible refine Grows.ext ?_ _ _)))).size, by simp [go_sem, hgs, c0], by simp [go_sem, hgs, c1], by simp [go_sem, hgs, c2], by simp [go_sem, hgs, c3], by simp [go_sem, hgs, c4], by simp [go_sem, hgs, c5]⟩⟩ ?_
            rintro WZ ⟨GZ, HA, HB, HC, HE⟩
            generalize wr.heap.size + h7.size + 1 + h8.size = N16 at *
            generalize wr.heap.size + h7.size = N14 at *
            clear s0 s1 s2 s3 s4 s5 s6 s7 s8 f0 f1 f2 f3 f4 f5 f6 f7 c0 c1 c2 c3 c4 c5 hgs
            obtain ⟨as0, as1, as2, as3, as4, as5, as6, as7, as8, af0, af1, af2, af3, af4, af5, af6, af7⟩ := HA
            obtain ⟨bs0, bs1, bs2, bs3, bs4, bs5, bs6, bs7, bs8, bf0, bf1, bf2, bf3, bf4, bf5, bf6, bf7⟩ := HB
            obtain ⟨cs0, cs1, cs2, cs3, cs4, cs5, cs6, cs7, cs8, cf0, cf1, cf2, cf3, cf4, cf5, cf6, cf7⟩ := HC
            obtain ⟨p0, p1, p2, p3, p4, p5, p6⟩ := HE
            refine wp_region_held_drew (S := fun w' => Grows WZ w') (by kernel_rfl) ?_ (fun hHeld => ?_)
            · exact (by repeat' (first | (with_reducible exact Grows.refl _) | (with_reducible refine Grows.alloc ?_ _) | (with_reducible refine Grows.drew ?_) | (with_reducible refine Grows.ext ?_ _ _)))
            refine wpAnyH_takeD (i := 0) (v := ?v148_0) rfl rfl (by kernel_rfl) (by kernel_rfl) (by kernel_rfl) (fun _ _ _ h => h) (Or.inl ⟨by kernel_rfl, ?y148_0⟩) (by assumption) ?r148_0
            case y148_0 => (intro wS hSw; obtain ⟨hhS, ddS, rfl⟩ := hSw; go_simp; (try with_reducible rfl))
            try simp only [Act.put, List.setIfInBounds_toArray, List.set_cons_zero, List.set_cons_succ]
            refine wpAnyH_takeD (i := 1) (v := ?v149_1) rfl rfl (by kernel_rfl) (by kernel_rfl) (by kernel_rfl) (fun _ _ _ h => h) (Or.inl ⟨by kernel_rfl, ?y149_1⟩) (by assumption) ?r149_1
            case y149_1 => (intro wS hSw; obtain ⟨hhS, ddS, rfl⟩ := hSw; go_simp; (try with_reducible rfl))
            try simp only [Act.put, List.setIfInBounds_toArray, List.set_cons_zero, List.set_cons_succ]
            refine wpAnyH_takeD (i := 2) (v := ?v150_2) rfl rfl (by kernel_rfl) (by kernel_rfl) (by kernel_rfl) (fun _ _ _ h => h) (Or.inl ⟨by kernel_rfl, ?y150_2⟩) (by assumption) ?r150_2
            case y150_2 => (intro wS hSw; obtain ⟨hhS, ddS, rfl⟩ := hSw; go_simp; (try with_reducible rfl))
            try simp only [Act.put, List.setIfInBounds_toArray, List.set_cons_zero, List.set_cons_succ]
            refine wpAnyH_takeD (i := 3) (v := ?v151_3) rfl rfl (by kernel_rfl) (by kernel_rfl) (by kernel_rfl) (fun _ _ _ h => h) (Or.inl ⟨by kernel_rfl, ?y151_3⟩) (by assumption) ?r151_3
            case y151_3 => (intro wS hSw; obtain ⟨hhS, ddS, rfl⟩ := hSw; go_simp; (try with_reducible rfl))
            try simp only [Act.put, List.setIfInBounds_toArray, List.set_cons_zero, List.set_cons_succ]
            refine wpAnyH_takeD (i := 4) (v := ?v152_4) rfl rfl (by kernel_rfl) (by kernel_rfl) (by kernel_rfl) (fun _ _ _ h => h) (Or.inl ⟨by kernel_rfl, ?y152_4⟩) (by assumption) ?r152_4
            case y152_4 => (intro wS hSw; obtain ⟨hhS, ddS, rfl⟩ := hSw; go_simp; (try with_reducible rfl))
            try simp only [Act.put, List.setIfInBounds_toArray, List.set_cons_zero, List.set_cons_succ]
            refine wpAnyH_takeD (i := 5) (v := ?v153_5) rfl rfl (by kernel_rfl) (by kernel_rfl) (by kernel_rfl) (fun _ _ _ h => h) (Or.inl ⟨by kernel_rfl, ?y153_5⟩) (by assumption) ?r153_5
            case y153_5 => (intro wS hSw; obtain ⟨hhS, ddS, rfl⟩ := hSw; go_simp; (try with_reducible rfl))
            try simp only [Act.put, List.setIfInBounds_toArray, List.set_cons_zero, List.set_cons_succ]
            refine wpAnyH_takeD (i := 6) (v := ?v154_6) rfl rfl (by kernel_rfl) (by kernel_rfl) (by kernel_rfl) (fun _ _ _ h => h) (Or.inl ⟨by kernel_rfl, ?y154_6⟩) (by assumption) ?r154_6
            case y154_6 => (intro wS hSw; obtain ⟨hhS, ddS, rfl⟩ := hSw; go_simp; (try with_reducible rfl))
            try simp only [Act.put, List.setIfInBounds_toArray, List.set_cons_zero, List.set_cons_succ]
            refine wpAnyH_takeD (i := 7) (v := ?v155_7) rfl rfl (by kernel_rfl) (by kernel_rfl) (by kernel_rfl) (fun _ _ _ h => h) (Or.inl ⟨by kernel_rfl, ?y155_7⟩) (by assumption) ?r155_7
            case y155_7 => (intro wS hSw; obtain ⟨hhS, ddS, rfl⟩ := hSw; go_simp; (try with_reducible rfl))
            try simp only [Act.put, List.setIfInBounds_toArray, List.set_cons_zero, List.set_cons_succ]
            refine wpAnyH_takeD (i := 8) (v := ?v156_8) rfl rfl (by kernel_rfl) (by kernel_rfl) (by kernel_rfl) (fun _ _ _ h => h) (Or.inl ⟨by kernel_rfl, ?y156_8⟩) (by assumption) ?r156_8
            case y156_8 => (intro wS hSw; obtain ⟨hhS, ddS, rfl⟩ := hSw; go_simp; (try with_reducible rfl))
            try simp only [Act.put, List.setIfInBounds_toArray, List.set_cons_zero, List.set_cons_succ]
            refine wpAnyH_takeD (i := 9) (v := ?v157_9) rfl rfl (by kernel_rfl) (by kernel_rfl) (by kernel_rfl) (fun _ _ _ h => h) (Or.inl ⟨by kernel_rfl, ?y157_9⟩) (by assumption) ?r157_9
            case y157_9 => (intro wS hSw; obtain ⟨hhS, ddS, rfl⟩ := hSw; go_simp; (try with_reducible rfl))
            try simp only [Act.put, List.setIfInBounds_toArray, List.set_cons_zero, List.set_cons_succ]
            refine wpAnyH_takeD (i := 10) (v := ?v158_10) rfl rfl (by kernel_rfl) (by kernel_rfl) (by kernel_rfl) (fun _ _ _ h => h) (Or.inl ⟨by kernel_rfl, ?y158_10⟩) (by assumption) ?r158_10
            case y158_10 => (intro wS hSw; obtain ⟨hhS, ddS, rfl⟩ := hSw; go_simp; (try with_reducible rfl))
            try simp only [Act.put, List.setIfInBounds_toArray, List.set_cons_zero, List.set_cons_succ]
            refine wpAnyH_takeD (i := 11) (v := ?v159_11) rfl rfl (by kernel_rfl) (by kernel_rfl) (by kernel_rfl) (fun _ _ _ h => h) (Or.inl ⟨by kernel_rfl, ?y159_11⟩) (by assumption) ?r159_11
            case y159_11 => (intro wS hSw; obtain ⟨hhS, ddS, rfl⟩ := hSw; go_simp; (try with_reducible rfl))
            try simp only [Act.put, List.setIfInBounds_toArray, List.set_cons_zero, List.set_cons_succ]
            refine wpAnyH_takeD (i := 12) (v := ?v160_12) rfl rfl (by kernel_rfl) (by kernel_rfl) (by kernel_rfl) (fun _ _ _ h => h) (Or.inl ⟨by kernel_rfl, ?y160_12⟩) (by assumption) ?r160_12
            case y160_12 => (intro wS hSw; obtain ⟨hhS, ddS, rfl⟩ := hSw; go_simp; (try with_reducible rfl))
            try simp only [Act.put, List.setIfInBounds_toArray, List.set_cons_zero, List.set_cons_succ]
            refine wpAnyH_takeD (i := 13) (v := ?v161_13) rfl rfl (by kernel_rfl) (by kernel_rfl) (by kernel_rfl) (fun _ _ _ h => h) (Or.inl ⟨by kernel_rfl, ?y161_13⟩) (by assumption) ?r161_13
            case y161_13 => (intro wS hSw; obtain ⟨hhS, ddS, rfl⟩ := hSw; go_simp; (try with_reducible rfl))
            try simp only [Act.put, List.setIfInBounds_toArray, List.set_cons_zero, List.set_cons_succ]
            refine wpAnyH_takeD (i := 14) (v := ?v162_14) rfl rfl (by kernel_rfl) (by kernel_rfl) (by kernel_rfl) (fun _ _ _ h => h) (Or.inl ⟨by kernel_rfl, ?y162_14⟩) (by assumption) ?r162_14
            case y162_14 => (intro wS hSw; obtain ⟨hhS, ddS, rfl⟩ := hSw; go_simp; (try with_reducible rfl))
            try simp only [Act.put, List.setIfInBounds_toArray, List.set_cons_zero, List.set_cons_succ]
            refine wpAnyH_takeD (i := 15) (v := ?v163_15) rfl rfl (by kernel_rfl) (by kernel_rfl) (by kernel_rfl) (fun _ _ _ h => h) (Or.inl ⟨by kernel_rfl, ?y163_15⟩) (by assumption) ?r163_15
            case y163_15 => (intro wS hSw; obtain ⟨hhS, ddS, rfl⟩ := hSw; go_simp; (try with_reducible rfl))
            try simp only [Act.put, List.setIfInBounds_toArray, List.set_cons_zero, List.set_cons_succ]
            refine wpAnyH_takeD (i := 16) (v := ?v164_16) rfl rfl (by kernel_rfl) (by kernel_rfl) (by kernel_rfl) (fun _ _ _ h => h) (Or.inl ⟨by kernel_rfl, ?y164_16⟩) (by assumption) ?r164_16
            case y164_16 => (intro wS hSw; obtain ⟨hhS, ddS, rfl⟩ := hSw; go_simp; (try with_reducible rfl))
            try simp only [Act.put, List.setIfInBounds_toArray, List.set_cons_zero, List.set_cons_succ]
            refine wpAnyH_ready (rs := [17]) (by kernel_rfl) (by simp) ?_
            refine AllReadyH.cons rfl (fun K hK => ?_) AllReadyH.nil
            simp only [List.getElem_toArray, List.getElem_cons_succ, List.getElem_cons_zero]
            go_simp
            skip
            refine hK.out _ _ ?_ ?_
            · exact (by repeat' (first | (with_reducible exact Grows.refl _) | (with_reducible refine Grows.alloc ?_ _) | (with_reducible refine Grows.drew ?_) | (with_reducible refine Grows.ext ?_ _ _)))
            clear hK K hHeld
            intro hHeld
            try simp only [Act.put, List.setIfInBounds_toArray, List.set_cons_zero, List.set_cons_succ]
            refine wpAnyH_ready (rs := [18]) (by kernel_rfl) (by simp) ?_
            refine AllReadyH.cons rfl (fun K hK => ?_) AllReadyH.nil
            simp only [List.getElem_toArray, List.getElem_cons_succ, List.getElem_cons_zero]
            go_simp
            (go_at_call 22; (with_reducible refine (mk_reset a u fk fn bk bn lk ln Hx.out _ _ (by simp [go_sem]) (by simp [go_sem]) (by simp [go_sem]) (by simp [go_sem]) (by simp [go_sem]) (by simp [go_sem]) (by simp [go_sem])).mono ?_); rintro e w' ⟨rfl, h9, k9, rfl⟩)
            refine hK.out _ _ ?_ ?_
            · exact (by repeat' (first | (with_reducible exact Grows.refl _) | (with_reducible refine Grows.alloc ?_ _) | (with_reducible refine Grows.drew ?_) | (with_reducible refine Grows.ext ?_ _ _)))
            clear hK K hHeld
            intro hHeld
            try simp only [Act.put, List.setIfInBounds_toArray, List.set_cons_zero, List.set_cons_succ]
            refine wpAnyH_takeD (i := 19) (v := ?v167_19) rfl rfl (by kernel_rfl) (by kernel_rfl) (by kernel_rfl) (fun _ _ _ h => h) (Or.inl ⟨by kernel_rfl, ?y167_19⟩) (by assumption) ?r167_19
            case y167_19 => (intro wS hSw; obtain ⟨hhS, ddS, rfl⟩ := hSw; go_simp; (try with_reducible rfl))
            try simp only [Act.put, List.setIfInBounds_toArray, List.set_cons_zero, List.set_cons_succ]
            refine wpAnyH_takeD (i := 20) (v := ?v168_20) rfl rfl (by kernel_rfl) (by kernel_rfl) (by kernel_rfl) (fun _ _ _ h => h) (Or.inl ⟨by kernel_rfl, ?y168_20⟩) (by assumption) ?r168_20
            case y168_20 => (intro wS hSw; obtain ⟨hhS, ddS, rfl⟩ := hSw; go_simp; (try with_reducible rfl))
            try simp only [Act.put, List.setIfInBounds_toArray, List.set_cons_zero, List.set_cons_succ]
            refine wpAnyH_done (by kernel_rfl) ?_ _
            clear hHeld
            go_wp2
            go_returns
            exact ⟨rfl, (by repeat' (first | (with_reducible exact GZ) | (with_reducible exact Grows.refl _) | (with_reducible refine Grows.alloc ?_ _) | (with_reducible refine Grows.drew ?_) | (with_reducible refine Grows.ext ?_ _ _)))⟩
        · have e1 : decide ((k : Int) < len) = true := by simp; omega
          have e2 : decide ((k : Int) < 15) = false := by simp; omega
          obtain ⟨⟨ax, ux, fkx, fnx, bkx, bnx, lkx, lnx⟩, hy⟩ := run_all (l := qs) (fun p hp => (HL.out.2 p hp).1) (x := zeroS)
          obtain ⟨g, cap', hv, hcap, hbg, hgs, hPI, -⟩ := OwnP.at hO (by simp)
          have hPn := hPI HL.out.reset
          rw [show ((⟨39, 0, 0, 0, 0, ⟨#[]⟩⟩ : Pen) :: qs).length = k + 1 by rw [List.length_cons, HL.out.1]] at hv hcap
          subst hv
          have H1 := Lib.hid fun W gW => run_row1 a u fk fn bk bn lk ln Hx.out k hk15 qs HL.out ax ux fkx fnx bkx bnx lkx lnx hy g cap' wr W hgs hPn gW
          have H2 := Lib.hid fun off ho cap W gW => run_row2 k hk15 qs HL.out ax ux fkx fnx bkx bnx lkx lnx hy g cap wr W hgs hPn gW off ho
          have hc0 := hPn 0 _ rfl
          simp only [Nat.zero_add, Nat.zero_mul] at hc0
          obtain ⟨-, c0, c1, c2, c3, c4, c5⟩ := hc0
          have HSr := HSh.out.grows hG
          obtain ⟨s0, s1, s2, s3, s4, s5, s6, s7, s8, f0, f1, f2, f3, f4, f5, f6, f7⟩ := HSr
          have GWr := Lib.hid (G0.trans hG)
          clear hPI hPn hy hO HL hc
          go_upto_region 22 with (go_at_call 17; (with_reducible refine (H1.out _ (by repeat' (first | (with_reducible exact Grows.refl _) | (with_reducible refine Grows.alloc ?_ _) | (with_reducible refine Grows.drew ?_) | (with_reducible refine Grows.ext ?_ _ _)))).mono ?_); rintro e w' ⟨rfl, h7, k7, rfl⟩)
          by_cases hc1 : cap' = 1
          · exfalso; omega
          · go_upto_region 23 with (go_at_call 17; (with_reducible refine (H2.out _ (.inl rfl) _ _ (by repeat' (first | (with_reducible exact Grows.refl _) | (with_reducible refine Grows.alloc ?_ _) | (with_reducible refine Grows.drew ?_) | (with_reducible refine Grows.ext ?_ _ _)))).mono ?_); rintro e w' ⟨rfl, h8, k8, rfl⟩)
            refine abs_world (fun W => Grows w W ∧ StyAt W N7 a u fk fn bk bn lk ln ∧ StyAt W (wr.heap.size + h7.size) ax ux fkx fnx bkx bnx lkx lnx ∧ StyAt W (wr.heap.size + h7.size + 1 + h8.size) ax ux fkx fnx bkx bnx lkx lnx ∧ ActAt W g 39 0 0 0 0 ⟨#[]⟩) ⟨GWr.out.trans (by repeat' (first | (with_reducible exact Grows.refl _) | (with_reducible refine Grows.alloc ?_ _) | (with_reducible refine Grows.drew ?_) | (with_reducible refine Grows.ext ?_ _ _))), HSh.out.grows (hG.trans (by repeat' (first | (with_reducible exact Grows.refl _) | (with_reducible refine Grows.alloc ?_ _) | (with_reducible refine Grows.drew ?_) | (with_reducible refine Grows.ext ?_ _ _)))), ⟨by simp [go_sem], by simp [go_sem], by simp [go_sem], by simp [go_sem], by simp [go_sem], by simp [go_sem], by simp [go_sem], by simp [go_sem], by simp [go_sem], by simp [go_sem], by simp [go_sem], by simp [go_sem], by simp [go_sem], by simp [go_sem], by simp [go_sem], by simp [go_sem], by simp [go_sem]⟩, ⟨by simp [go_sem], by simp [go_sem], by simp [go_sem], by simp [go_sem], by simp [go_sem], by simp [go_sem], by simp [go_sem], by simp [go_sem], by simp [go_sem], by simp [go_sem], by simp [go_sem], by simp [go_sem], by simp [go_sem], by simp [go_sem], by simp [go_sem], by simp [go_sem], by simp [go_sem]⟩, ⟨Nat.lt_of_lt_of_le hgs (Grows.below (w := wr) (by repeat' (first | (with_reducible exact Grows.refl _) | (with_reducible refine Grows.alloc ?_ _) | (with_reducible refine Grows.drew ?_) | (with_reducible refine Grows.ext ?_ _ _)))).size, by simp [go_sem, hgs, c0], by simp [go_sem, hgs, c1], by simp [go_sem, hgs, c2], by simp [go_sem, hgs, c3], by simp [go_sem, hgs, c4], by simp [go_sem, hgs, c5]⟩⟩ ?_
            rintro WZ ⟨GZ, HA, HB, HC, HE⟩
            generalize wr.heap.size + h7.size + 1 + h8.size = N16 at *
            generalize wr.heap.size + h7.size = N14 at *
            clear s0 s1 s2 s3 s4 s5 s6 s7 s8 f0 f1 f2 f3 f4 f5 f6 f7 c0 c1 c2 c3 c4 c5 hgs
            obtain ⟨as0, as1, as2, as3, as4, as5, as6, as7, as8, af0, af1, af2, af3, af4, af5, af6, af7⟩ := HA
            obtain ⟨bs0, bs1, bs2, bs3, bs4, bs5, bs6, bs7, bs8, bf0, bf1, bf2, bf3, bf4, bf5, bf6, bf7⟩ := HB
            obtain ⟨cs0, cs1, cs2, cs3, cs4, cs5, cs6, cs7, cs8, cf0, cf1, cf2, cf3, cf4, cf5, cf6, cf7⟩ := HC
            obtain ⟨p0, p1, p2, p3, p4, p5, p6⟩ := HE
            refine wp_region_held_drew (S := fun w' => Grows WZ w') (by kernel_rfl) ?_ (fun hHeld => ?_)
            · exact (by repeat' (first | (with_reducible exact Grows.refl _) | (with_reducible refine Grows.alloc ?_ _) | (with_reducible refine Grows.drew ?_) | (with_reducible refine Grows.ext ?_ _ _)))
            refine wpAnyH_takeD (i := 0) (v := ?v169_0) rfl rfl (by kernel_rfl) (by kernel_rfl) (by kernel_rfl) (fun _ _ _ h => h) (Or.inl ⟨by kernel_rfl, ?y169_0⟩) (by assumption) ?r169_0
            case y169_0 => (intro wS hSw; obtain ⟨hhS, ddS, rfl⟩ := hSw; go_simp; (try with_reducible rfl))
            try simp only [Act.put, List.setIfInBounds_toArray, List.set_cons_zero, List.set_cons_succ]
            refine wpAnyH_takeD (i := 1) (v := ?v170_1) rfl rfl (by kernel_rfl) (by kernel_rfl) (by kernel_rfl) (fun _ _ _ h => h) (Or.inl ⟨by kernel_rfl, ?y170_1⟩) (by assumption) ?r170_1
            case y170_1 => (intro wS hSw; obtain ⟨hhS, ddS, rfl⟩ := hSw; go_simp; (try with_reducible rfl))
            try simp only [Act.put, List.setIfInBounds_toArray, List.set_cons_zero, List.set_cons_succ]
            refine wpAnyH_takeD (i := 2) (v := ?v171_2) rfl rfl (by kernel_rfl) (by kernel_rfl) (by kernel_rfl) (fun _ _ _ h => h) (Or.inl ⟨by kernel_rfl, ?y171_2⟩) (by assumption) ?r171_2
            case y171_2 => (intro wS hSw; obtain ⟨hhS, ddS, rfl⟩ := hSw; go_simp; (try with_reducible rfl))
            try simp only [Act.put, List.setIfInBounds_toArray, List.set_cons_zero, List.set_cons_succ]
            refine wpAnyH_takeD (i := 3) (v := ?v172_3) rfl rfl (by kernel_rfl) (by kernel_rfl) (by kernel_rfl) (fun _ _ _ h => h) (Or.inl ⟨by kernel_rfl, ?y172_3⟩) (by assumption) ?r172_3
            case y172_3 => (intro wS hSw; obtain ⟨hhS, ddS, rfl⟩ := hSw; go_simp; (try with_reducible rfl))
            try simp only [Act.put, List.setIfInBounds_toArray, List.set_cons_zero, List.set_cons_succ]
            refine wpAnyH_takeD (i := 4) (v := ?v173_4) rfl rfl (by kernel_rfl) (by kernel_rfl) (by kernel_rfl) (fun _ _ _ h => h) (Or.inl ⟨by kernel_rfl, ?y173_4⟩) (by assumption) ?r173_4
            case y173_4 => (intro wS hSw; obtain ⟨hhS, ddS, rfl⟩ := hSw; go_simp; (try with_reducible rfl))
            try simp only [Act.put, List.setIfInBounds_toArray, List.set_cons_zero, List.set_cons_succ]
            refine wpAnyH_takeD (i := 5) (v := ?v174_5) rfl rfl (by kernel_rfl) (by kernel_rfl) (by kernel_rfl) (fun _ _ _ h => h) (Or.inl ⟨by kernel_rfl, ?y174_5⟩) (by assumption) ?r174_5
            case y174_5 => (intro wS hSw; obtain ⟨hhS, ddS, rfl⟩ := hSw; go_simp; (try with_reducible rfl))
            try simp only [Act.put, List.setIfInBounds_toArray, List.set_cons_zero, List.set_cons_succ]
            refine wpAnyH_takeD (i := 6) (v := ?v175_6) rfl rfl (by kernel_rfl) (by kernel_rfl) (by kernel_rfl) (fun _ _ _ h => h) (Or.inl ⟨by kernel_rfl, ?y175_6⟩) (by assumption) ?r175_6
            case y175_6 => (intro wS hSw; obtain ⟨hhS, ddS, rfl⟩ := hSw; go_simp; (try with_reducible rfl))
            try simp only [Act.put, List.setIfInBounds_toArray, List.set_cons_zero, List.set_cons_succ]
            refine wpAnyH_takeD (i := 7) (v := ?v176_7) rfl rfl (by kernel_rfl) (by kernel_rfl) (by kernel_rfl) (fun _ _ _ h => h) (Or.inl ⟨by kernel_rfl, ?y176_7⟩) (by assumption) ?r176_7
            case y176_7 => (intro wS hSw; obtain ⟨hhS, ddS, rfl⟩ := hSw; go_simp; (try with_reducible rfl))
            try simp only [Act.put, List.setIfInBounds_toArray, List.set_cons_zero, List.set_cons_succ]
            refine wpAnyH_takeD (i := 8) (v := ?v177_8) rfl rfl (by kernel_rfl) (by kernel_rfl) (by kernel_rfl) (fun _ _ _ h => h) (Or.inl ⟨by kernel_rfl, ?y177_8⟩) (by assumption) ?r177_8
            case y177_8 => (intro wS hSw; obtain ⟨hhS, ddS, rfl⟩ := hSw; go_simp; (try with_reducible rfl))
            try simp only [Act.put, List.setIfInBounds_toArray, List.set_cons_zero, List.set_cons_succ]
            refine wpAnyH_takeD (i := 9) (v := ?v178_9) rfl rfl (by kernel_rfl) (by kernel_rfl) (by kernel_rfl) (fun _ _ _ h => h) (Or.inl ⟨by kernel_rfl, ?y178_9⟩) (by assumption) ?r178_9
            case y178_9 => (intro wS hSw; obtain ⟨hhS, ddS, rfl⟩ := hSw; go_simp; (try with_reducible rfl))
            try simp only [Act.put, List.setIfInBounds_toArray, List.set_cons_zero, List.set_cons_succ]
            refine wpAnyH_takeD (i := 10) (v := ?v179_10) rfl rfl (by kernel_rfl) (by kernel_rfl) (by kernel_rfl) (fun _ _ _ h => h) (Or.inl ⟨by kernel_rfl, ?y179_10⟩) (by assumption) ?r179_10
            case y179_10 => (intro wS hSw; obtain ⟨hhS, ddS, rfl⟩ := hSw; go_simp; (try with_reducible rfl))
            try simp only [Act.put, List.setIfInBounds_toArray, List.set_cons_zero, List.set_cons_succ]
            refine wpAnyH_takeD (i := 11) (v := ?v180_11) rfl rfl (by kernel_rfl) (by kernel_rfl) (by kernel_rfl) (fun _ _ _ h => h) (Or.inl ⟨by kernel_rfl, ?y180_11⟩) (by assumption) ?r180_11
            case y180_11 => (intro wS hSw; obtain ⟨hhS, ddS, rfl⟩ := hSw; go_simp; (try with_reducible rfl))
            try simp only [Act.put, List.setIfInBounds_toArray, List.set_cons_zero, List.set_cons_succ]
            refine wpAnyH_takeD (i := 12) (v := ?v181_12) rfl rfl (by kernel_rfl) (by kernel_rfl) (by kernel_rfl) (fun _ _ _ h => h) (Or.inl ⟨by kernel_rfl, ?y181_12⟩) (by assumption) ?r181_12
            case y181_12 => (intro wS hSw; obtain ⟨hhS, ddS, rfl⟩ := hSw; go_simp; (try with_reducible rfl))
            try simp only [Act.put, List.setIfInBounds_toArray, List.set_cons_zero, List.set_cons_succ]
            refine wpAnyH_takeD (i := 13) (v := ?v182_13) rfl rfl (by kernel_rfl) (by kernel_rfl) (by kernel_rfl) (fun _ _ _ h => h) (Or.inl ⟨by kernel_rfl, ?y182_13⟩) (by assumption) ?r182_13
            case y182_13 => (intro wS hSw; obtain ⟨hhS, ddS, rfl⟩ := hSw; go_simp; (try with_reducible rfl))
            try simp only [Act.put, List.setIfInBounds_toArray, List.set_cons_zero, List.set_cons_succ]
            refine wpAnyH_takeD (i := 14) (v := ?v183_14) rfl rfl (by kernel_rfl) (by kernel_rfl) (by kernel_rfl) (fun _ _ _ h => h) (Or.inl ⟨by kernel_rfl, ?y183_14⟩) (by assumption) ?r183_14
            case y183_14 => (intro wS hSw; obtain ⟨hhS, ddS, rfl⟩ := hSw; go_simp; (try with_reducible rfl))
            try simp only [Act.put, List.setIfInBounds_toArray, List.set_cons_zero, List.set_cons_succ]
            refine wpAnyH_takeD (i := 15) (v := ?v184_15) rfl rfl (by kernel_rfl) (by kernel_rfl) (by kernel_rfl) (fun _ _ _ h => h) (Or.inl ⟨by kernel_rfl, ?y184_15⟩) (by assumption) ?r184_15
            case y184_15 => (intro wS hSw; obtain ⟨hhS, ddS, rfl⟩ := hSw; go_simp; (try with_reducible rfl))
            try simp only [Act.put, List.setIfInBounds_toArray, List.set_cons_zero, List.set_cons_succ]
            refine wpAnyH_takeD (i := 16) (v := ?v185_16) rfl rfl (by kernel_rfl) (by kernel_rfl) (by kernel_rfl) (fun _ _ _ h => h) (Or.inl ⟨by kernel_rfl, ?y185_16⟩) (by assumption) ?r185_16
            case y185_16 => (intro wS hSw; obtain ⟨hhS, ddS, rfl⟩ := hSw; go_simp; (try with_reducible rfl))
            try simp only [Act.put, List.setIfInBounds_toArray, List.set_cons_zero, List.set_cons_succ]
            refine wpAnyH_ready (rs := [17]) (by kernel_rfl) (by simp) ?_
            refine AllReadyH.cons rfl (fun K hK => ?_) AllReadyH.nil
            simp only [List.getElem_toArray, List.getElem_cons_succ, List.getElem_cons_zero]
            go_simp
            skip
            refine hK.out _ _ ?_ ?_
            · exact (by repeat' (first | (with_reducible exact Grows.refl _) | (with_reducible refine Grows.alloc ?_ _) | (with_reducible refine Grows.drew ?_) | (with_reducible refine Grows.ext ?_ _ _)))
            clear hK K hHeld
            intro hHeld
            try simp only [Act.put, List.setIfInBounds_toArray, List.set_cons_zero, List.set_cons_succ]
            refine wpAnyH_ready (rs := [18]) (by kernel_rfl) (by simp) ?_
            refine AllReadyH.cons rfl (fun K hK => ?_) AllReadyH.nil
            simp only [List.getElem_toArray, List.getElem_cons_succ, List.getElem_cons_zero]
            go_simp
            (go_at_call 22; (with_reducible refine (mk_reset a u fk fn bk bn lk ln Hx.out _ _ (by simp [go_sem]) (by simp [go_sem]) (by simp [go_sem]) (by simp [go_sem]) (by simp [go_sem]) (by simp [go_sem]) (by simp [go_sem])).mono ?_); rintro e w' ⟨rfl, h9, k9, rfl⟩)
            refine hK.out _ _ ?_ ?_
            · exact (by repeat' (first | (with_reducible exact Grows.refl _) | (with_reducible refine Grows.alloc ?_ _) | (with_reducible refine Grows.drew ?_) | (with_reducible refine Grows.ext ?_ _ _)))
            clear hK K hHeld
            intro hHeld
            try simp only [Act.put, List.setIfInBounds_toArray, List.set_cons_zero, List.set_cons_succ]
            refine wpAnyH_takeD (i := 19) (v := ?v188_19) rfl rfl (by kernel_rfl) (by kernel_rfl) (by kernel_rfl) (fun _ _ _ h => h) (Or.inl ⟨by kernel_rfl, ?y188_19⟩) (by assumption) ?r188_19
            case y188_19 => (intro wS hSw; obtain ⟨hhS, ddS, rfl⟩ := hSw; go_simp; (try with_reducible rfl))
            try simp only [Act.put, List.setIfInBounds_toArray, List.set_cons_zero, List.set_cons_succ]
            refine wpAnyH_takeD (i := 20) (v := ?v189_20) rfl rfl (by kernel_rfl) (by kernel_rfl) (by kernel_rfl) (fun _ _ _ h => h) (Or.inl ⟨by kernel_rfl, ?y189_20⟩) (by assumption) ?r189_20
            case y189_20 => (intro wS hSw; obtain ⟨hhS, ddS, rfl⟩ := hSw; go_simp; (try with_reducible rfl))
            try simp only [Act.put, List.setIfInBounds_toArray, List.set_cons_zero, List.set_cons_succ]
            refine wpAnyH_done (by kernel_rfl) ?_ _
            clear hHeld
            go_wp2
            go_returns
            exact ⟨rfl, (by repeat' (first | (with_reducible exact GZ) | (with_reducible exact Grows.refl _) | (with_reducible refine Grows.alloc ?_ _) | (with_reducible refine Grows.drew ?_) | (with_reducible refine Grows.ext ?_ _ _)))⟩
  · have e0 : decide (m ≤ 2) = false := by simpa using hle
    clear hle
    go_upto_region 12 with fail
    refine abs_world (fun W => Grows w W ∧ StyAt W (w.heap.size + 1 + (h1.size + h2.size)) a u fk fn bk bn lk ln ∧ StyAt W (w.heap.size + 1 + (h1.size + h2.size) + 1 + x41.h.size) (bits .or .i64 a m) u fk fn bk bn lk ln ∧ StyAt W (w.heap.size + 1 + (h1.size + h2.size) + 1 + x41.h.size + 1 + y41.h.size) (bits .or .i64 a m) u fk fn bk bn lk ln) ⟨(by repeat' (first | (with_reducible exact Grows.refl _) | (with_reducible refine Grows.alloc ?_ _) | (with_reducible refine Grows.drew ?_) | (with_reducible refine Grows.ext ?_ _ _))), ⟨by simp [go_sem], by simp [go_sem], by simp [go_sem], by simp [go_sem], by simp [go_sem], by simp [go_sem], by simp [go_sem], by simp [go_sem], by simp [go_sem], by simp [go_sem], by simp [go_sem], by simp [go_sem], by simp [go_sem], by simp [go_sem], by simp [go_sem], by simp [go_sem], by simp [go_sem]⟩, ⟨by simp [go_sem], by simp [go_sem], by simp [go_sem], by simp [go_sem], by simp [go_sem], by simp [go_sem], by simp [go_sem], by simp [go_sem], by simp [go_sem], by simp [go_sem], by simp [go_sem], by simp [go_sem], by simp [go_sem], by simp [go_sem], by simp [go_sem], by simp [go_sem], by simp [go_sem]⟩, ⟨by simp [go_sem], by simp [go_sem], by simp [go_sem], by simp [go_sem], by simp [go_sem], by simp [go_sem], by simp [go_sem], by simp [go_sem], by simp [go_sem], by simp [go_sem], by simp [go_sem], by simp [go_sem], by simp [go_sem], by simp [go_sem], by simp [go_sem], by simp [go_sem], by simp [go_sem]⟩⟩ ?_
    rintro W0 ⟨G0, HS, HT, HU⟩
    generalize (w.heap.size + 1 + (h1.size + h2.size) + 1 + x41.h.size + 1 + y41.h.size) = N11 at *
    generalize (w.heap.size + 1 + (h1.size + h2.size) + 1 + x41.h.size) = N9 at *
    generalize (w.heap.size + 1 + (h1.size + h2.size)) = N7 at *
    have l09 : w.heap.size ≤ N9 := Nat.le_of_lt (Nat.lt_of_le_of_lt l0 l1)
    have l011 : w.heap.size ≤ N11 := Nat.le_of_lt (Nat.lt_of_le_of_lt l09 l2)
    have n1 : N7 ≠ N9 := Nat.ne_of_lt l1
    have n2 : N9 ≠ N7 := Nat.ne_of_gt l1
    have n3 : N9 ≠ N11 := Nat.ne_of_lt l2
    have n4 : N11 ≠ N9 := Nat.ne_of_gt l2
    have n5 : N7 ≠ N11 := by omega
    have n6 : N11 ≠ N7 := by omega
    have HS0 := HS
    have HT0 := HT
    have HU0 := HU
    obtain ⟨as0, as1, as2, as3, as4, as5, as6, as7, as8, af0, af1, af2, af3, af4, af5, af6, af7⟩ := HS0
    obtain ⟨bs0, bs1, bs2, bs3, bs4, bs5, bs6, bs7, bs8, bf0, bf1, bf2, bf3, bf4, bf5, bf6, bf7⟩ := HT0
    obtain ⟨cs0, cs1, cs2, cs3, cs4, cs5, cs6, cs7, cs8, cf0, cf1, cf2, cf3, cf4, cf5, cf6, cf7⟩ := HU0
    refine wp_region_held_drew (S := fun w' => StyAt w' N7 a u fk fn bk bn lk ln) (by kernel_rfl) ?_ (fun hHeld => ?_)
    · exact StyAt.grows HS (by repeat' (first | (with_reducible exact Grows.refl _) | (with_reducible refine Grows.alloc ?_ _) | (with_reducible refine Grows.drew ?_) | (with_reducible refine Grows.ext ?_ _ _)))
    refine wpAnyH_takeD (i := 0) (v := ?v118_0) rfl rfl (by kernel_rfl) (by kernel_rfl) (by kernel_rfl) (fun _ _ _ h => h) (Or.inl ⟨by kernel_rfl, ?y118_0⟩) (by assumption) ?r118_0
    case y118_0 => (intro wS hSw; obtain ⟨s0, s1, s2, s3, s4, s5, s6, s7, s8, f0, f1, f2, f3, f4, f5, f6, f7⟩ := hSw; go_simp; (try with_reducible rfl))
    try simp only [Act.put, List.setIfInBounds_toArray, List.set_cons_zero, List.set_cons_succ]
    refine wpAnyH_takeD (i := 1) (v := ?v119_1) rfl rfl (by kernel_rfl) (by kernel_rfl) (by kernel_rfl) (fun _ _ _ h => h) (Or.inl ⟨by kernel_rfl, ?y119_1⟩) (by assumption) ?r119_1
    case y119_1 => (intro wS hSw; obtain ⟨s0, s1, s2, s3, s4, s5, s6, s7, s8, f0, f1, f2, f3, f4, f5, f6, f7⟩ := hSw; go_simp; (try with_reducible rfl))
    try simp only [Act.put, List.setIfInBounds_toArray, List.set_cons_zero, List.set_cons_succ]
    refine wpAnyH_ready (rs := [2]) (by kernel_rfl) (by simp) ?_
    refine AllReadyH.cons rfl (fun K hK => ?_) AllReadyH.nil
    simp only [List.getElem_toArray, List.getElem_cons_succ, List.getElem_cons_zero]
    go_simp
    (go_at_call 21; (with_reducible refine (pen_any _ _ _).mono ?_); rintro e w' ⟨rfl, h6, k6, rfl⟩)
    refine hK.out _ _ ?_ ?_
    · exact StyAt.grows HS (by repeat' (first | (with_reducible exact Grows.refl _) | (with_reducible refine Grows.alloc ?_ _) | (with_reducible refine Grows.drew ?_) | (with_reducible refine Grows.ext ?_ _ _)))
    clear hK K hHeld
    intro hHeld
    try simp only [Act.put, List.setIfInBounds_toArray, List.set_cons_zero, List.set_cons_succ]
    refine wpAnyH_ready (rs := [3]) (by kernel_rfl) (by simp) ?_
    refine AllReadyH.cons rfl (fun K hK => ?_) AllReadyH.nil
    simp only [List.getElem_toArray, List.getElem_cons_succ, List.getElem_cons_zero]
    go_simp
    (go_at_call 19; (with_reducible refine (Hap2.out _).mono ?_); rintro e w' ⟨rfl, h7, k7, rfl⟩)
    refine hK.out _ _ ?_ ?_
    · exact StyAt.grows HS (by repeat' (first | (with_reducible exact Grows.refl _) | (with_reducible refine Grows.alloc ?_ _) | (with_reducible refine Grows.drew ?_) | (with_reducible refine Grows.ext ?_ _ _)))
    clear hK K hHeld
    intro hHeld
    try simp only [Act.put, List.setIfInBounds_toArray, List.set_cons_zero, List.set_cons_succ]
    refine wpAnyH_takeD (i := 4) (v := ?v122_4) rfl rfl (by kernel_rfl) (by kernel_rfl) (by kernel_rfl) (fun _ _ _ h => h) (Or.inl ⟨by kernel_rfl, ?y122_4⟩) (by assumption) ?r122_4
    case y122_4 => (intro wS hSw; obtain ⟨s0, s1, s2, s3, s4, s5, s6, s7, s8, f0, f1, f2, f3, f4, f5, f6, f7⟩ := hSw; go_simp; (try with_reducible rfl))
    try simp only [Act.put, List.setIfInBounds_toArray, List.set_cons_zero, List.set_cons_succ]
    refine wpAnyH_takeD (i := 5) (v := ?v123_5) rfl rfl (by kernel_rfl) (by kernel_rfl) (by kernel_rfl) (fun _ _ _ h => h) (Or.inl ⟨by kernel_rfl, ?y123_5⟩) (by assumption) ?r123_5
    case y123_5 => (intro wS hSw; obtain ⟨s0, s1, s2, s3, s4, s5, s6, s7, s8, f0, f1, f2, f3, f4, f5, f6, f7⟩ := hSw; go_simp; (try with_reducible rfl))
    try simp only [Act.put, List.setIfInBounds_toArray, List.set_cons_zero, List.set_cons_succ]
    refine wpAnyH_takeD (i := 6) (v := ?v124_6) rfl rfl (by kernel_rfl) (by kernel_rfl) (by kernel_rfl) (fun _ _ _ h => h) (Or.inl ⟨by kernel_rfl, ?y124_6⟩) (by assumption) ?r124_6
    case y124_6 => (intro wS hSw; obtain ⟨s0, s1, s2, s3, s4, s5, s6, s7, s8, f0, f1, f2, f3, f4, f5, f6, f7⟩ := hSw; go_simp; (try with_reducible rfl))
    try simp only [Act.put, List.setIfInBounds_toArray, List.set_cons_zero, List.set_cons_succ]
    refine wpAnyH_ready (rs := [7]) (by kernel_rfl) (by simp) ?_
    refine AllReadyH.cons rfl (fun K hK => ?_) AllReadyH.nil
    simp only [List.getElem_toArray, List.getElem_cons_succ, List.getElem_cons_zero]
    go_simp
    skip
    refine hK.out _ _ ?_ ?_
    · exact StyAt.grows (((((((((HS).other n1).other n1).other n1).other n1).other n1).other n1).other n1).other n1) (by repeat' (first | (with_reducible exact Grows.refl _) | (with_reducible refine Grows.alloc ?_ _) | (with_reducible refine Grows.drew ?_) | (with_reducible refine Grows.ext ?_ _ _)))
    clear hK K hHeld
    intro hHeld
    try simp only [Act.put, List.setIfInBounds_toArray, List.set_cons_zero, List.set_cons_succ]
    refine wpAnyH_takeD (i := 8) (v := ?v126_8) rfl rfl (by kernel_rfl) (by kernel_rfl) (by kernel_rfl) (fun _ _ _ h => h) (Or.inl ⟨by kernel_rfl, ?y126_8⟩) (by assumption) ?r126_8
    case y126_8 => (intro wS hSw; obtain ⟨s0, s1, s2, s3, s4, s5, s6, s7, s8, f0, f1, f2, f3, f4, f5, f6, f7⟩ := hSw; go_simp; (try with_reducible rfl))
    try simp only [Act.put, List.setIfInBounds_toArray, List.set_cons_zero, List.set_cons_succ]
    refine wpAnyH_done (by kernel_rfl) ?_ _
    clear hHeld
    go_upto_region 13 with fail
    refine abs_world (fun W => Grows w W ∧ StyAt W N7 a u fk fn bk bn lk ln ∧ (∃ x9, StyAt W N9 x9 u fk fn bk bn lk ln ∧ x9 = bits .andNot .i64 a m) ∧ StyAt W N11 (bits .or .i64 a m) u fk fn bk bn lk ln) ⟨(by repeat' (first | (with_reducible exact G0) | (with_reducible refine Grows.setCell ?_ l09 _) | (with_reducible exact Grows.refl _) | (with_reducible refine Grows.alloc ?_ _) | (with_reducible refine Grows.drew ?_) | (with_reducible refine Grows.ext ?_ _ _))), StyAt.grows (((((((((HS).other n1).other n1).other n1).other n1).other n1).other n1).other n1).other n1) (by repeat' (first | (with_reducible exact Grows.refl _) | (with_reducible refine Grows.alloc ?_ _) | (with_reducible refine Grows.drew ?_) | (with_reducible refine Grows.ext ?_ _ _))), ⟨_, StyAt.grows (HT.setAll _ _ _ _ _ _ _ _) (by repeat' (first | (with_reducible exact Grows.refl _) | (with_reducible refine Grows.alloc ?_ _) | (with_reducible refine Grows.drew ?_) | (with_reducible refine Grows.ext ?_ _ _))), rfl⟩, StyAt.grows (((((((((HU).other n4).other n4).other n4).other n4).other n4).other n4).other n4).other n4) (by repeat' (first | (with_reducible exact Grows.refl _) | (with_reducible refine Grows.alloc ?_ _) | (with_reducible refine Grows.drew ?_) | (with_reducible refine Grows.ext ?_ _ _)))⟩ ?_
    clear as0 as1 as2 as3 as4 as5 as6 as7 as8 af0 af1 af2 af3 af4 af5 af6 af7 bs0 bs1 bs2 bs3 bs4 bs5 bs6 bs7 bs8 bf0 bf1 bf2 bf3 bf4 bf5 bf6 bf7 cs0 cs1 cs2 cs3 cs4 cs5 cs6 cs7 cs8 cf0 cf1 cf2 cf3 cf4 cf5 cf6 cf7 HS HT HU G0
    rintro W1 ⟨G1, HS, ⟨x9, HT, e9⟩, HU⟩
    have HS0 := HS
    obtain ⟨as0, as1, as2, as3, as4, as5, as6, as7, as8, af0, af1, af2, af3, af4, af5, af6, af7⟩ := HS0
    obtain ⟨bs0, bs1, bs2, bs3, bs4, bs5, bs6, bs7, bs8, bf0, bf1, bf2, bf3, bf4, bf5, bf6, bf7⟩ := HT
    obtain ⟨cs0, cs1, cs2, cs3, cs4, cs5, cs6, cs7, cs8, cf0, cf1, cf2, cf3, cf4, cf5, cf6, cf7⟩ := HU
    subst e9
    go_upto_region 16 with fail
    refine abs_world (fun W => Grows w W ∧ StyAt W N7 a u fk fn bk bn lk ln) ⟨(by repeat' (first | (with_reducible exact G1) | (with_reducible refine Grows.setCell ?_ l011 _) | (with_reducible exact Grows.refl _) | (with_reducible refine Grows.alloc ?_ _) | (with_reducible refine Grows.drew ?_) | (with_reducible refine Grows.ext ?_ _ _))), StyAt.grows (HS.other n5) (by repeat' (first | (with_reducible exact Grows.refl _) | (with_reducible refine Grows.alloc ?_ _) | (with_reducible refine Grows.drew ?_) | (with_reducible refine Grows.ext ?_ _ _)))⟩ ?_
    clear as0 as1 as2 as3 as4 as5 as6 as7 as8 af0 af1 af2 af3 af4 af5 af6 af7 bs0 bs1 bs2 bs3 bs4 bs5 bs6 bs7 bs8 bf0 bf1 bf2 bf3 bf4 bf5 bf6 bf7 cs0 cs1 cs2 cs3 cs4 cs5 cs6 cs7 cs8 cf0 cf1 cf2 cf3 cf4 cf5 cf6 cf7 HS G1
    rintro W0 ⟨G0, HS⟩
    go_upto_region 17 with (go_at_call 21; (with_reducible refine (pen_any _ _ _).mono ?_); rintro e w' ⟨rfl, h5, k5, rfl⟩)
    refine abs_world (fun W => Grows W0 W ∧ OwnP W W0.heap.size (.slice (some ⟨W0.heap.size + h5.size, 0, none⟩) 1 1) [(⟨39, 0, 0, 0, 0, ⟨#[]⟩⟩ : Pen)]) ⟨(by repeat' (first | (with_reducible exact Grows.refl _) | (with_reducible refine Grows.alloc ?_ _) | (with_reducible refine Grows.drew ?_) | (with_reducible refine Grows.ext ?_ _ _))), OwnP.one (by rw [← ext_size W0 h5 k5]; exact heap_alloc_new _ _) (by omega)⟩ ?_
    rintro W1 ⟨G1, HO⟩
    generalize W0.heap.size + h5.size = g0 at *
    have HD0 := Lib.hid (HD.out.grows G0)
    have HSh := Lib.hid HS
    clear HS HD
    go_wp2
    go_loopw [12, 13] (fun v i wr => ∃ (k : Nat) (qs : List Pen), k ≤ len ∧ k ≤ 15 ∧ i = .int .i64 k ∧ Lok k qs ∧ OwnP wr W0.heap.size v ((⟨39, 0, 0, 0, 0, ⟨#[]⟩⟩ : Pen) :: qs) ∧ Grows W0 wr) (fun _ i _ => len - (intOf i).toNat)
    case atStart => exact ⟨0, [], by omega, by omega, rfl, ⟨rfl, fun p hp => by cases hp⟩, HO, G1⟩
    case round =>
      clear HO G1
      obtain ⟨k, qs, hk, hk15, rfl, hL, hO, hG⟩ := hrel
      have HL := Lib.hid hL
      clear hL
      have hlen := HD0.out.1
      by_cases hc : k < len ∧ k < 15
      · obtain ⟨hc1, hc2⟩ := hc
        obtain ⟨bl, off, d, hoa, hdo, hda⟩ := HD0.out.2 k hc1
        subst hoa
        obtain ⟨n, m2, ck, cn, hm2, hp, hP⟩ := dpen_d d hdo
        have ha := hda.grows hG
        obtain ⟨q0, q1, q2, q3, q4, q5, q6, q7⟩ := d
        obtain ⟨c0, c1, c2, c3, c4, c5, c6, c7⟩ := ha
        simp only at c0 c1 c2 c3 c4 c5 c6 c7 hP
        have HP := Lib.hid hP
        have HL2 := Lib.hid (HL.out.snoc hp hm2)
        have e1 : decide ((k : Int) < len) = true := by simp; omega
        have e2 : decide ((k : Int) < 15) = true := by simp; omega
        have hb1 : (k : Int) < len := by omega
        clear hP hp hm2 hdo hda
        go_wp2_with (first | (go_at_call 11; (with_reducible refine (HP.out _).mono ?_); rintro e w' ⟨rfl, h6, k6, rfl⟩) | (at_builtin; refine wpList_append_own _ rfl (.tmp 78) (.tmp 84) 43 rfl W0.heap.size 27 i0 (.agg #[.int .i64 0, .int .i64 0, .int .i64 0, .int .i64 0, .int .i64 0, .string ⟨#[]⟩]) 6 56 Try.underlying43 hi0 hz0 hz1 hz2 rfl (by decide) _ _ _ rfl (OwnP.alloc (OwnP.grows hO (Grows.ext (Grows.refl _) h6 k6)) _) ⟨wr.heap.size + h6.size, 0, none⟩ 1 1 (penC ⟨39, n, m2, ck, cn, ⟨#[]⟩⟩) rfl rfl (pen_new (ext wr h6 k6) _ (by simp) ⟨39, n, m2, ck, cn, ⟨#[]⟩⟩) (pen_one _) (by have := HL.out.1; simp only [List.length_cons]; unfold maxLen; omega) (by have := HL.out.1; simp only [List.length_cons]; omega) (by have := hG.below.size; simp; omega) ?_; intro v' w1 hown' hgrow _))
        have hO' := OwnP.snoc (l := (⟨39, 0, 0, 0, 0, ⟨#[]⟩⟩ : Pen) :: qs) hown'
        have hG' := Grows.appended ((hG.ext h6 k6).alloc _) hgrow (fun q e => (World.ownsRow.lt hO q e).1)
        clear hown' hgrow hO hG
        go_wp2
        go_roundw
        case rel => exact ⟨k + 1, _, by omega, by omega, by go_num, HL2.out, hO', hG'⟩
        case measure => simp [intOf]; omega
      · rcases (by omega : ¬ k < len ∨ (k < len ∧ ¬ k < 15)) with h | ⟨h, h'⟩
        · have e1 : decide ((k : Int) < len) = false := by simp; omega
          obtain ⟨⟨ax, ux, fkx, fnx, bkx, bnx, lkx, lnx⟩, hy⟩ := run_all (l := qs) (fun p hp => (HL.out.2 p hp).1) (x := zeroS)
          obtain ⟨g, cap', hv, hcap, hbg, hgs, hPI, -⟩ := OwnP.at hO (by simp)
          have hPn := hPI HL.out.reset
          rw [show ((⟨39, 0, 0, 0, 0, ⟨#[]⟩⟩ : Pen) :: qs).length = k + 1 by rw [List.length_cons, HL.out.1]] at hv hcap
          subst hv
          have H1 := Lib.hid fun W gW => run_row1 a u fk fn bk bn lk ln Hx.out k hk15 qs HL.out ax ux fkx fnx bkx bnx lkx lnx hy g cap' wr W hgs hPn gW
          have H2 := Lib.hid fun off ho cap W gW => run_row2 k hk15 qs HL.out ax ux fkx fnx bkx bnx lkx lnx hy g cap wr W hgs hPn gW off ho
          have hc0 := hPn 0 _ rfl
          simp only [Nat.zero_add, Nat.zero_mul] at hc0
          obtain ⟨-, c0, c1, c2, c3, c4, c5⟩ := hc0
          have HSr := HSh.out.grows hG
          obtain ⟨s0, s1, s2, s3, s4, s5, s6, s7, s8, f0, f1, f2, f3, f4, f5, f6, f7⟩ := HSr
          have GWr := Lib.hid (G0.trans hG)
          clear hPI hPn hy hO HL hc
          go_upto_region 22 with (go_at_call 17; (with_reducible refine (H1.out _ (by repeat' (first | (with_reducible exact Grows.refl _) | (with_reducible refine Grows.alloc ?_ _) | (with_reducible refine Grows.drew ?_) | (with_reducible refine Grows.ext ?_ _ _)))).mono ?_); rintro e w' ⟨rfl, h7, k7, rfl⟩)
          by_cases hc1 : cap' = 1
          · obtain rfl : k = 0 := by omega
            subst hc1
            go_upto_region 23 with (go_at_call 17; (with_reducible refine (H2.out _ (.inr rfl) _ _ (by repeat' (first | (with_reducible exact Grows.refl _) | (with_reducible refine Grows.alloc ?_ _) | (with_reducible refine Grows.drew ?_) | (with_reducible refine Grows.ext ?_ _ _)))).mono ?_); rintro e w' ⟨rfl, h8, k8, rfl⟩)
            refine abs_world (fun W => Grows w W ∧ StyAt W N7 a u fk fn bk bn lk ln ∧ StyAt W (wr.heap.size + h7.size) ax ux fkx fnx bkx bnx lkx lnx ∧ StyAt W (wr.heap.size + h7.size + 1 + h8.size) ax ux fkx fnx bkx bnx lkx lnx ∧ ActAt W g 39 0 0 0 0 ⟨#[]⟩) ⟨GWr.out.trans (by repeat' (first | (with_reducible exact Grows.refl _) | (with_reducible refine Grows.alloc ?_ _) | (with_reducible refine Grows.drew ?_) | (with_reducible refine Grows.ext ?_ _ _))), HSh.out.grows (hG.trans (by repeat' (first | (with_reducible exact Grows.refl _) | (with_reducible refine Grows.alloc ?_ _) | (with_reducible refine Grows.drew ?_) | (with_reducible refine Grows.ext ?_ _ _)))), ⟨by simp [go_sem], by simp [go_sem], by simp [go_sem], by simp [go_sem], by simp [go_sem], by simp [go_sem], by simp [go_sem], by simp [go_sem], by simp [go_sem], by simp [go_sem], by simp [go_sem], by simp [go_sem], by simp [go_sem], by simp [go_sem], by simp [go_sem], by simp [go_sem], by simp [go_sem]⟩, ⟨by simp [go_sem], by simp [go_sem], by simp [go_sem], by simp [go_sem], by simp [go_sem], by simp [go_sem], by simp [go_sem], by simp [go_sem], by simp [go_sem], by simp [go_sem], by simp [go_sem], by simp [go_sem], by simp [go_sem], by simp [go_sem], by simp [go_sem], by simp [go_sem], by simp [go_sem]⟩, ⟨Nat.lt_of_lt_of_le hgs (Grows.below (w := wr) (by repeat' (first | (with_reducible exact Grows.refl _) | (with_reducible refine Grows.alloc ?_ _) | (with_reducible refine Grows.drew ?_) | (with_reducible refine Grows.ext ?_ _ _)))).size, by simp [go_sem, hgs, c0], by simp [go_sem, hgs, c1], by simp [go_sem, hgs, c2], by simp [go_sem, hgs, c3], by simp [go_sem, hgs, c4], by simp [go_sem, hgs, c5]⟩⟩ ?_
            rintro WZ ⟨GZ, HA, HB, HC, HE⟩
            generalize wr.heap.size + h7.size + 1 + h8.size = N16 at *
            generalize wr.heap.size + h7.size = N14 at *
            clear s0 s1 s2 s3 s4 s5 s6 s7 s8 f0 f1 f2 f3 f4 f5 f6 f7 c0 c1 c2 c3 c4 c5 hgs
            obtain ⟨as0, as1, as2, as3, as4, as5, as6, as7, as8, af0, af1, af2, af3, af4, af5, af6, af7⟩ := HA
            obtain ⟨bs0, bs1, bs2, bs3, bs4, bs5, bs6, bs7, bs8, bf0, bf1, bf2, bf3, bf4, bf5, bf6, bf7⟩ := HB
            obtain ⟨cs0, cs1, cs2, cs3, cs4, cs5, cs6, cs7, cs8, cf0, cf1, cf2, cf3, cf4, cf5, cf6, cf7⟩ := HC
            obtain ⟨p0, p1, p2, p3, p4, p5, p6⟩ := HE
            refine wp_region_held_drew (S := fun w' => Grows WZ w') (by kernel_rfl) ?_ (fun hHeld => ?_)
            · exact (by repeat' (first | (with_reducible exact Grows.refl _) | (with_reducible refine Grows.alloc ?_ _) | (with_reducible refine Grows.drew ?_) | (with_reducible refine Grows.ext ?_ _ _)))
            refine wpAnyH_takeD (i := 0) (v := ?v190_0) rfl rfl (by kernel_rfl) (by kernel_rfl) (by kernel_rfl) (fun _ _ _ h => h) (Or.inl ⟨by kernel_rfl, ?y190_0⟩) (by assumption) ?r190_0
            case y190_0 => (intro wS hSw; obtain ⟨hhS, ddS, rfl⟩ := hSw; go_simp; (try with_reducible rfl))
            try simp only [Act.put, List.setIfInBounds_toArray, List.set_cons_zero, List.set_cons_succ]
            refine wpAnyH_takeD (i := 1) (v := ?v191_1) rfl rfl (by kernel_rfl) (by kernel_rfl) (by kernel_rfl) (fun _ _ _ h => h) (Or.inl ⟨by kernel_rfl, ?y191_1⟩) (by assumption) ?r191_1
            case y191_1 => (intro wS hSw; obtain ⟨hhS, ddS, rfl⟩ := hSw; go_simp; (try with_reducible rfl))
            try simp only [Act.put, List.setIfInBounds_toArray, List.set_cons_zero, List.set_cons_succ]
            refine wpAnyH_takeD (i := 2) (v := ?v192_2) rfl rfl (by kernel_rfl) (by kernel_rfl) (by kernel_rfl) (fun _ _ _ h => h) (Or.inl ⟨by kernel_rfl, ?y192_2⟩) (by assumption) ?r192_2
            case y192_2 => (intro wS hSw; obtain ⟨hhS, ddS, rfl⟩ := hSw; go_simp; (try with_reducible rfl))
            try simp only [Act.put, List.setIfInBounds_toArray, List.set_cons_zero, List.set_cons_succ]
            refine wpAnyH_takeD (i := 3) (v := ?v193_3) rfl rfl (by kernel_rfl) (by kernel_rfl) (by kernel_rfl) (fun _ _ _ h => h) (Or.inl ⟨by kernel_rfl, ?y193_3⟩) (by assumption) ?r193_3
            case y193_3 => (intro wS hSw; obtain ⟨hhS, ddS, rfl⟩ := hSw; go_simp; (try with_reducible rfl))
            try simp only [Act.put, List.setIfInBounds_toArray, List.set_cons_zero, List.set_cons_succ]
            refine wpAnyH_takeD (i := 4) (v := ?v194_4) rfl rfl (by kernel_rfl) (by kernel_rfl) (by kernel_rfl) (fun _ _ _ h => h) (Or.inl ⟨by kernel_rfl, ?y194_4⟩) (by assumption) ?r194_4
            case y194_4 => (intro wS hSw; obtain ⟨hhS, ddS, rfl⟩ := hSw; go_simp; (try with_reducible rfl))
            try simp only [Act.put, List.setIfInBounds_toArray, List.set_cons_zero, List.set_cons_succ]
            refine wpAnyH_takeD (i := 5) (v := ?v195_5) rfl rfl (by kernel_rfl) (by kernel_rfl) (by kernel_rfl) (fun _ _ _ h => h) (Or.inl ⟨by kernel_rfl, ?y195_5⟩) (by assumption) ?r195_5
            case y195_5 => (intro wS hSw; obtain ⟨hhS, ddS, rfl⟩ := hSw; go_simp; (try with_reducible rfl))
            try simp only [Act.put, List.setIfInBounds_toArray, List.set_cons_zero, List.set_cons_succ]
            refine wpAnyH_takeD (i := 6) (v := ?v196_6) rfl rfl (by kernel_rfl) (by kernel_rfl) (by kernel_rfl) (fun _ _ _ h => h) (Or.inl ⟨by kernel_rfl, ?y196_6⟩) (by assumption) ?r196_6
            case y196_6 => (intro wS hSw; obtain ⟨hhS, ddS, rfl⟩ := hSw; go_simp; (try with_reducible rfl))
            try simp only [Act.put, List.setIfInBounds_toArray, List.set_cons_zero, List.set_cons_succ]
            refine wpAnyH_takeD (i := 7) (v := ?v197_7) rfl rfl (by kernel_rfl) (by kernel_rfl) (by kernel_rfl) (fun _ _ _ h => h) (Or.inl ⟨by kernel_rfl, ?y197_7⟩) (by assumption) ?r197_7
            case y197_7 => (intro wS hSw; obtain ⟨hhS, ddS, rfl⟩ := hSw; go_simp; (try with_reducible rfl))
            try simp only [Act.put, List.setIfInBounds_toArray, List.set_cons_zero, List.set_cons_succ]
            refine wpAnyH_takeD (i := 8) (v := ?v198_8) rfl rfl (by kernel_rfl) (by kernel_rfl) (by kernel_rfl) (fun _ _ _ h => h) (Or.inl ⟨by kernel_rfl, ?y198_8⟩) (by assumption) ?r198_8
            case y198_8 => (intro wS hSw; obtain ⟨hhS, ddS, rfl⟩ := hSw; go_simp; (try with_reducible rfl))
            try simp only [Act.put, List.setIfInBounds_toArray, List.set_cons_zero, List.set_cons_succ]
            refine wpAnyH_takeD (i := 9) (v := ?v199_9) rfl rfl (by kernel_rfl) (by kernel_rfl) (by kernel_rfl) (fun _ _ _ h => h) (Or.inl ⟨by kernel_rfl, ?y199_9⟩) (by assumption) ?r199_9
            case y199_9 => (intro wS hSw; obtain ⟨hhS, ddS, rfl⟩ := hSw; go_simp; (try with_reducible rfl))
            try simp only [Act.put, List.setIfInBounds_toArray, List.set_cons_zero, List.set_cons_succ]
            refine wpAnyH_takeD (i := 10) (v := ?v200_10) rfl rfl (by kernel_rfl) (by kernel_rfl) (by kernel_rfl) (fun _ _ _ h => h) (Or.inl ⟨by kernel_rfl, ?y200_10⟩) (by assumption) ?r200_10
            case y200_10 => (intro wS hSw; obtain ⟨hhS, ddS, rfl⟩ := hSw; go_simp; (try with_reducible rfl))
            try simp only [Act.put, List.setIfInBounds_toArray, List.set_cons_zero, List.set_cons_succ]
            refine wpAnyH_takeD (i := 11) (v := ?v201_11) rfl rfl (by kernel_rfl) (by kernel_rfl) (by kernel_rfl) (fun _ _ _ h => h) (Or.inl ⟨by kernel_rfl, ?y201_11⟩) (by assumption) ?r201_11
            case y201_11 => (intro wS hSw; obtain ⟨hhS, ddS, rfl⟩ := hSw; go_simp; (try with_reducible rfl))
            try simp only [Act.put, List.setIfInBounds_toArray, List.set_cons_zero, List.set_cons_succ]
            refine wpAnyH_takeD (i := 12) (v := ?v202_12) rfl rfl (by kernel_rfl) (by kernel_rfl) (by kernel_rfl) (fun _ _ _ h => h) (Or.inl ⟨by kernel_rfl, ?y202_12⟩) (by assumption) ?r202_12
            case y202_12 => (intro wS hSw; obtain ⟨hhS, ddS, rfl⟩ := hSw; go_simp; (try with_reducible rfl))
            try simp only [Act.put, List.setIfInBounds_toArray, List.set_cons_zero, List.set_cons_succ]
            refine wpAnyH_takeD (i := 13) (v := ?v203_13) rfl rfl (by kernel_rfl) (by kernel_rfl) (by kernel_rfl) (fun _ _ _ h => h) (Or.inl ⟨by kernel_rfl, ?y203_13⟩) (by assumption) ?r203_13
            case y203_13 => (intro wS hSw; obtain ⟨hhS, ddS, rfl⟩ := hSw; go_simp; (try with_reducible rfl))
            try simp only [Act.put, List.setIfInBounds_toArray, List.set_cons_zero, List.set_cons_succ]
            refine wpAnyH_takeD (i := 14) (v := ?v204_14) rfl rfl (by kernel_rfl) (by kernel_rfl) (by kernel_rfl) (fun _ _ _ h => h) (Or.inl ⟨by kernel_rfl, ?y204_14⟩) (by assumption) ?r204_14
            case y204_14 => (intro wS hSw; obtain ⟨hhS, ddS, rfl⟩ := hSw; go_simp; (try with_reducible rfl))
            try simp only [Act.put, List.setIfInBounds_toArray, List.set_cons_zero, List.set_cons_succ]
            refine wpAnyH_takeD (i := 15) (v := ?v205_15) rfl rfl (by kernel_rfl) (by kernel_rfl) (by kernel_rfl) (fun _ _ _ h => h) (Or.inl ⟨by kernel_rfl, ?y205_15⟩) (by assumption) ?r205_15
            case y205_15 => (intro wS hSw; obtain ⟨hhS, ddS, rfl⟩ := hSw; go_simp; (try with_reducible rfl))
            try simp only [Act.put, List.setIfInBounds_toArray, List.set_cons_zero, List.set_cons_succ]
            refine wpAnyH_takeD (i := 16) (v := ?v206_16) rfl rfl (by kernel_rfl) (by kernel_rfl) (by kernel_rfl) (fun _ _ _ h => h) (Or.inl ⟨by kernel_rfl, ?y206_16⟩) (by assumption) ?r206_16
            case y206_16 => (intro wS hSw; obtain ⟨hhS, ddS, rfl⟩ := hSw; go_simp; (try with_reducible rfl))
            try simp only [Act.put, List.setIfInBounds_toArray, List.set_cons_zero, List.set_cons_succ]
            refine wpAnyH_ready (rs := [17]) (by kernel_rfl) (by simp) ?_
            refine AllReadyH.cons rfl (fun K hK => ?_) AllReadyH.nil
            simp only [List.getElem_toArray, List.getElem_cons_succ, List.getElem_cons_zero]
            go_simp
            skip
            refine hK.out _ _ ?_ ?_
            · exact (by repeat' (first | (with_reducible exact Grows.refl _) | (with_reducible refine Grows.alloc ?_ _) | (with_reducible refine Grows.drew ?_) | (with_reducible refine Grows.ext ?_ _ _)))
            clear hK K hHeld
            intro hHeld
            try simp only [Act.put, List.setIfInBounds_toArray, List.set_cons_zero, List.set_cons_succ]
            refine wpAnyH_ready (rs := [18]) (by kernel_rfl) (by simp) ?_
            refine AllReadyH.cons rfl (fun K hK => ?_) AllReadyH.nil
            simp only [List.getElem_toArray, List.getElem_cons_succ, List.getElem_cons_zero]
            go_simp
            (go_at_call 22; (with_reducible refine (mk_reset a u fk fn bk bn lk ln Hx.out _ _ (by simp [go_sem]) (by simp [go_sem]) (by simp [go_sem]) (by simp [go_sem]) (by simp [go_sem]) (by simp [go_sem]) (by simp [go_sem])).mono ?_); rintro e w' ⟨rfl, h9, k9, rfl⟩)
            refine hK.out _ _ ?_ ?_
            · exact (by repeat' (first | (with_reducible exact Grows.refl _) | (with_reducible refine Grows.alloc ?_ _) | (with_reducible refine Grows.drew ?_) | (with_reducible refine Grows.ext ?_ _ _)))
            clear hK K hHeld
            intro hHeld
            try simp only [Act.put, List.setIfInBounds_toArray, List.set_cons_zero, List.set_cons_succ]
            refine wpAnyH_takeD (i := 19) (v := ?v209_19) rfl rfl (by kernel_rfl) (by kernel_rfl) (by kernel_rfl) (fun _ _ _ h => h) (Or.inl ⟨by kernel_rfl, ?y209_19⟩) (by assumption) ?r209_19
            case y209_19 => (intro wS hSw; obtain ⟨hhS, ddS, rfl⟩ := hSw; go_simp; (try with_reducible rfl))
            try simp only [Act.put, List.setIfInBounds_toArray, List.set_cons_zero, List.set_cons_succ]
            refine wpAnyH_takeD (i := 20) (v := ?v210_20) rfl rfl (by kernel_rfl) (by kernel_rfl) (by kernel_rfl) (fun _ _ _ h => h) (Or.inl ⟨by kernel_rfl, ?y210_20⟩) (by assumption) ?r210_20
            case y210_20 => (intro wS hSw; obtain ⟨hhS, ddS, rfl⟩ := hSw; go_simp; (try with_reducible rfl))
            try simp only [Act.put, List.setIfInBounds_toArray, List.set_cons_zero, List.set_cons_succ]
            refine wpAnyH_done (by kernel_rfl) ?_ _
            clear hHeld
            go_wp2
            go_returns
            exact ⟨rfl, (by repeat' (first | (with_reducible exact GZ) | (with_reducible exact Grows.refl _) | (with_reducible refine Grows.alloc ?_ _) | (with_reducible refine Grows.drew ?_) | (with_reducible refine Grows.ext ?_ _ _)))⟩
          · go_upto_region 23 with (go_at_call 17; (with_reducible refine (H2.out _ (.inl rfl) _ _ (by repeat' (first | (with_reducible exact Grows.refl _) | (with_reducible refine Grows.alloc ?_ _) | (with_reducible refine Grows.drew ?_) | (with_reducible refine Grows.ext ?_ _ _)))).mono ?_); rintro e w' ⟨rfl, h8, k8, rfl⟩)
            refine abs_world (fun W => Grows w W ∧ StyAt W N7 a u fk fn bk bn lk ln ∧ StyAt W (wr.heap.size + h7.size) ax ux fkx fnx bkx bnx lkx lnx ∧ StyAt W (wr.heap.size + h7.size + 1 + h8.size) ax ux fkx fnx bkx bnx lkx lnx ∧ ActAt W g 39 0 0 0 0 ⟨#[]⟩) ⟨GWr.out.trans (by repeat' (first | (with_reducible exact Grows.refl _) | (with_reducible refine Grows.alloc ?_ _) | (with_reducible refine Grows.drew ?_) | (with_reducible refine Grows.ext ?_ _ _))), HSh.out.grows (hG.trans (by repeat' (first | (with_reducible exact Grows.refl _) | (with_reducible refine Grows.alloc ?_ _) | (with_reducible refine Grows.drew ?_) | (with_reducible refine Grows.ext ?_ _ _)))), ⟨by simp [go_sem], by simp [go_sem], by simp [go_sem], by simp [go_sem], by simp [go_sem], by simp [go_sem], by simp [go_sem], by simp [go_sem], by simp [go_sem], by simp [go_sem], by simp [go_sem], by simp [go_sem], by simp [go_sem], by simp [go_sem], by simp [go_sem], by simp [go_sem], by simp [go_sem]⟩, ⟨by simp [go_sem], by simp [go_sem], by simp [go_sem], by simp [go_sem], by simp [go_sem], by simp [go_sem], by simp [go_sem], by simp [go_sem], by simp [go_sem], by simp [go_sem], by simp [go_sem], by simp [go_sem], by simp [go_sem], by simp [go_sem], by simp [go_sem], by simp [go_sem], by simp [go_sem]⟩, ⟨Nat.lt_of_lt_of_le hgs (Grows.below (w := wr) (by repeat' (first | (with_reducible exact Grows.refl _) | (with_reducible refine Grows.alloc ?_ _) | (with_reducible refine Grows.drew ?_) | (with_reducible refine Grows.ext ?_ _ _)))).size, by simp [go_sem, hgs, c0], by simp [go_sem, hgs, c1], by simp [go_sem, hgs, c2], by simp [go_sem, hgs, c3], by simp [go_sem, hgs, c4], by simp [go_sem, hgs, c5]⟩⟩ ?_
            rintro WZ ⟨GZ, HA, HB, HC, HE⟩
            generalize wr.heap.size + h7.size + 1 + h8.size = N16 at *
            generalize wr.heap.size + h7.size = N14 at *
            clear s0 s1 s2 s3 s4 s5 s6 s7 s8 f0 f1 f2 f3 f4 f5 f6 f7 c0 c1 c2 c3 c4 c5 hgs
            obtain ⟨as0, as1, as2, as3, as4, as5, as6, as7, as8, af0, af1, af2, af3, af4, af5, af6, af7⟩ := HA
            obtain ⟨bs0, bs1, bs2, bs3, bs4, bs5, bs6, bs7, bs8, bf0, bf1, bf2, bf3, bf4, bf5, bf6, bf7⟩ := HB
            obtain ⟨cs0, cs1, cs2, cs3, cs4, cs5, cs6, cs7, cs8, cf0, cf1, cf2, cf3, cf4, cf5, cf6, cf7⟩ := HC
            obtain ⟨p0, p1, p2, p3, p4, p5, p6⟩ := HE
            refine wp_region_held_drew (S := fun w' => Grows WZ w') (by kernel_rfl) ?_ (fun hHeld => ?_)
            · exact (by repeat' (first | (with_reducible exact Grows.refl _) | (with_reducible refine Grows.alloc ?_ _) | (with_reducible refine Grows.drew ?_) | (with_reducible refine Grows.ext ?_ _ _)))
            refine wpAnyH_takeD (i := 0) (v := ?v211_0) rfl rfl (by kernel_rfl) (by kernel_rfl) (by kernel_rfl) (fun _ _ _ h => h) (Or.inl ⟨by kernel_rfl, ?y211_0⟩) (by assumption) ?r211_0
            case y211_0 => (intro wS hSw; obtain ⟨hhS, ddS, rfl⟩ := hSw; go_simp; (try with_reducible rfl))
            try simp only [Act.put, List.setIfInBounds_toArray, List.set_cons_zero, List.set_cons_succ]
            refine wpAnyH_takeD (i := 1) (v := ?v212_1) rfl rfl (by kernel_rfl) (by kernel_rfl) (by kernel_rfl) (fun _ _ _ h => h) (Or.inl ⟨by kernel_rfl, ?y212_1⟩) (by assumption) ?r212_1
            case y212_1 => (intro wS hSw; obtain ⟨hhS, ddS, rfl⟩ := hSw; go_simp; (try with_reducible rfl))
            try simp only [Act.put, List.setIfInBounds_toArray, List.set_cons_zero, List.set_cons_succ]
            refine wpAnyH_takeD (i := 2) (v := ?v213_2) rfl rfl (by kernel_rfl) (by kernel_rfl) (by kernel_rfl) (fun _ _ _ h => h) (Or.inl ⟨by kernel_rfl, ?y213_2⟩) (by assumption) ?r213_2
            case y213_2 => (intro wS hSw; obtain ⟨hhS, ddS, rfl⟩ := hSw; go_simp; (try with_reducible rfl))
            try simp only [Act.put, List.setIfInBounds_toArray, List.set_cons_zero, List.set_cons_succ]
            refine wpAnyH_takeD (i := 3) (v := ?v214_3) rfl rfl (by kernel_rfl) (by kernel_rfl) (by kernel_rfl) (fun _ _ _ h => h) (Or.inl ⟨by kernel_rfl, ?y214_3⟩) (by assumption) ?r214_3
            case y214_3 => (intro wS hSw; obtain ⟨hhS, ddS, rfl⟩ := hSw; go_simp; (try with_reducible rfl))
            try simp only [Act.put, List.setIfInBounds_toArray, List.set_cons_zero, List.set_cons_succ]
            refine wpAnyH_takeD (i := 4) (v := ?v215_4) rfl rfl (by kernel_rfl) (by kernel_rfl) (by kernel_rfl) (fun _ _ _ h => h) (Or.inl ⟨by kernel_rfl, ?y215_4⟩) (by assumption) ?r215_4
            case y215_4 => (intro wS hSw; obtain ⟨hhS, ddS, rfl⟩ := hSw; go_simp; (try with_reducible rfl))
            try simp only [Act.put, List.setIfInBounds_toArray, List.set_cons_zero, List.set_cons_succ]
            refine wpAnyH_takeD (i := 5) (v := ?v216_5) rfl rfl (by kernel_rfl) (by kernel_rfl) (by kernel_rfl) (fun _ _ _ h => h) (Or.inl ⟨by kernel_rfl, ?y216_5⟩) (by assumption) ?r216_5
            case y216_5 => (intro wS hSw; obtain ⟨hhS, ddS, rfl⟩ := hSw; go_simp; (try with_reducible rfl))
            try simp only [Act.put, List.setIfInBounds_toArray, List.set_cons_zero, List.set_cons_succ]
            refine wpAnyH_takeD (i := 6) (v := ?v217_6) rfl rfl (by kernel_rfl) (by kernel_rfl) (by kernel_rfl) (fun _ _ _ h => h) (Or.inl ⟨by kernel_rfl, ?y217_6⟩) (by assumption) ?r217_6
            case y217_6 => (intro wS hSw; obtain ⟨hhS, ddS, rfl⟩ := hSw; go_simp; (try with_reducible rfl))
            try simp only [Act.put, List.setIfInBounds_toArray, List.set_cons_zero, List.set_cons_succ]
            refine wpAnyH_takeD (i := 7) (v := ?v218_7) rfl rfl (by kernel_rfl) (by kernel_rfl) (by kernel_rfl) (fun _ _ _ h => h) (Or.inl ⟨by kernel_rfl, ?y218_7⟩) (by assumption) ?r218_7
            case y218_7 => (intro wS hSw; obtain ⟨hhS, ddS, rfl⟩ := hSw; go_simp; (try with_reducible rfl))
            try simp only [Act.put, List.setIfInBounds_toArray, List.set_cons_zero, List.set_cons_succ]
            refine wpAnyH_takeD (i := 8) (v := ?v219_8) rfl rfl (by kernel_rfl) (by kernel_rfl) (by kernel_rfl) (fun _ _ _ h => h) (Or.inl ⟨by kernel_rfl, ?y219_8⟩) (by assumption) ?r219_8
            case y219_8 => (intro wS hSw; obtain ⟨hhS, ddS, rfl⟩ := hSw; go_simp; (try with_reducible rfl))
            try simp only [Act.put, List.setIfInBounds_toArray, List.set_cons_zero, List.set_cons_succ]
            refine wpAnyH_takeD (i := 9) (v := ?v220_9) rfl rfl (by kernel_rfl) (by kernel_rfl) (by kernel_rfl) (fun _ _ _ h => h) (Or.inl ⟨by kernel_rfl, ?y220_9⟩) (by assumption) ?r220_9
            case y220_9 => (intro wS hSw; obtain ⟨hhS, ddS, rfl⟩ := hSw; go_simp; (try with_reducible rfl))
            try simp only [Act.put, List.setIfInBounds_toArray, List.set_cons_zero, List.set_cons_succ]
            refine wpAnyH_takeD (i := 10) (v := ?v221_10) rfl rfl (by kernel_rfl) (by kernel_rfl) (by kernel_rfl) (fun _ _ _ h => h) (Or.inl ⟨by kernel_rfl, ?y221_10⟩) (by assumption) ?r221_10
            case y221_10 => (intro wS hSw; obtain ⟨hhS, ddS, rfl⟩ := hSw; go_simp; (try with_reducible rfl))
            try simp only [Act.put, List.setIfInBounds_toArray, List.set_cons_zero, List.set_cons_succ]
            refine wpAnyH_takeD (i := 11) (v := ?v222_11) rfl rfl (by kernel_rfl) (by kernel_rfl) (by kernel_rfl) (fun _ _ _ h => h) (Or.inl ⟨by kernel_rfl, ?y222_11⟩) (by assumption) ?r222_11
            case y222_11 => (intro wS hSw; obtain ⟨hhS, ddS, rfl⟩ := hSw; go_simp; (try with_reducible rfl))
            try simp only [Act.put, List.setIfInBounds_toArray, List.set_cons_zero, List.set_cons_succ]
            refine wpAnyH_takeD (i := 12) (v := ?v223_12) rfl rfl (by kernel_rfl) (by kernel_rfl) (by kernel_rfl) (fun _ _ _ h => h) (Or.inl ⟨by kernel_rfl, ?y223_12⟩) (by assumption) ?r223_12
            case y223_12 => (intro wS hSw; obtain ⟨hhS, ddS, rfl⟩ := hSw; go_simp; (try with_reducible rfl))
            try simp only [Act.put, List.setIfInBounds_toArray, List.set_cons_zero, List.set_cons_succ]
            refine wpAnyH_takeD (i := 13) (v := ?v224_13) rfl rfl (by kernel_rfl) (by kernel_rfl) (by kernel_rfl) (fun _ _ _ h => h) (Or.inl ⟨by kernel_rfl, ?y224_13⟩) (by assumption) ?r224_13
            case y224_13 => (intro wS hSw; obtain ⟨hhS, ddS, rfl⟩ := hSw; go_simp; (try with_reducible rfl))
            try simp only [Act.put, List.setIfInBounds_toArray, List.set_cons_zero, List.set_cons_succ]
            refine wpAnyH_takeD (i := 14) (v := ?v225_14) rfl rfl (by kernel_rfl) (by kernel_rfl) (by kernel_rfl) (fun _ _ _ h => h) (Or.inl ⟨by kernel_rfl, ?y225_14⟩) (by assumption) ?r225_14
            case y225_14 => (intro wS hSw; obtain ⟨hhS, ddS, rfl⟩ := hSw; go_simp; (try with_reducible rfl))
            try simp only [Act.put, List.setIfInBounds_toArray, List.set_cons_zero, List.set_cons_succ]
            refine wpAnyH_takeD (i := 15) (v := ?v226_15) rfl rfl (by kernel_rfl) (by kernel_rfl) (by kernel_rfl) (fun _ _ _ h => h) (Or.inl ⟨by kernel_rfl, ?y226_15⟩) (by assumption) ?r226_15
            case y226_15 => (intro wS hSw; obtain ⟨hhS, ddS, rfl⟩ := hSw; go_simp; (try with_reducible rfl))
            try simp only [Act.put, List.setIfInBounds_toArray, List.set_cons_zero, List.set_cons_succ]
            refine wpAnyH_takeD (i := 16) (v := ?v227_16) rfl rfl (by kernel_rfl) (by kernel_rfl) (by kernel_rfl) (fun _ _ _ h => h) (Or.inl ⟨by kernel_rfl, ?y227_16⟩) (by assumption) ?r227_16
            case y227_16 => (intro wS hSw; obtain ⟨hhS, ddS, rfl⟩ := hSw; go_simp; (try with_reducible rfl))
            try simp only [Act.put, List.setIfInBounds_toArray, List.set_cons_zero, List.set_cons_succ]
            refine wpAnyH_ready (rs := [17]) (by kernel_rfl) (by simp) ?_
            refine AllReadyH.cons rfl (fun K hK => ?_) AllReadyH.nil
            simp only [List.getElem_toArray, List.getElem_cons_succ, List.getElem_cons_zero]
            go_simp
            skip
            refine hK.out _ _ ?_ ?_
            · exact (by repeat' (first | (with_reducible exact Grows.refl _) | (with_reducible refine Grows.alloc ?_ _) | (with_reducible refine Grows.drew ?_) | (with_reducible refine Grows.ext ?_ _ _)))
            clear hK K hHeld
            intro hHeld
            try simp only [Act.put, List.setIfInBounds_toArray, List.set_cons_zero, List.set_cons_succ]
            refine wpAnyH_ready (rs := [18]) (by kernel_rfl) (by simp) ?_
            refine AllReadyH.cons rfl (fun K hK => ?_) AllReadyH.nil
            simp only [List.getElem_toArray, List.getElem_cons_succ, List.getElem_cons_zero]
            go_simp
            (go_at_call 22; (with_reducible refine (mk_reset a u fk fn bk bn lk ln Hx.out _ _ (by simp [go_sem]) (by simp [go_sem]) (by simp [go_sem]) (by simp [go_sem]) (by simp [go_sem]) (by simp [go_sem]) (by simp [go_sem])).mono ?_); rintro e w' ⟨rfl, h9, k9, rfl⟩)
            refine hK.out _ _ ?_ ?_
            · exact (by repeat' (first | (with_reducible exact Grows.refl _) | (with_reducible refine Grows.alloc ?_ _) | (with_reducible refine Grows.drew ?_) | (with_reducible refine Grows.ext ?_ _ _)))
            clear hK K hHeld
            intro hHeld
            try simp only [Act.put, List.setIfInBounds_toArray, List.set_cons_zero, List.set_cons_succ]
            refine wpAnyH_takeD (i := 19) (v := ?v230_19) rfl rfl (by kernel_rfl) (by kernel_rfl) (by kernel_rfl) (fun _ _ _ h => h) (Or.inl ⟨by kernel_rfl, ?y230_19⟩) (by assumption) ?r230_19
            case y230_19 => (intro wS hSw; obtain ⟨hhS, ddS, rfl⟩ := hSw; go_simp; (try with_reducible rfl))
            try simp only [Act.put, List.setIfInBounds_toArray, List.set_cons_zero, List.set_cons_succ]
            refine wpAnyH_takeD (i := 20) (v := ?v231_20) rfl rfl (by kernel_rfl) (by kernel_rfl) (by kernel_rfl) (fun _ _ _ h => h) (Or.inl ⟨by kernel_rfl, ?y231_20⟩) (by assumption) ?r231_20
            case y231_20 => (intro wS hSw; obtain ⟨hhS, ddS, rfl⟩ := hSw; go_simp; (try with_reducible rfl))
            try simp only [Act.put, List.setIfInBounds_toArray, List.set_cons_zero, List.set_cons_succ]
            refine wpAnyH_done (by kernel_rfl) ?_ _
            clear hHeld
            go_wp2
            go_returns
            exact ⟨rfl, (by repeat' (first | (with_reducible exact GZ) | (with_reducible exact Grows.refl _) | (with_reducible refine Grows.alloc ?_ _) | (with_reducible refine Grows.drew ?_) | (with_reducible refine Grows.ext ?_ _ _)))⟩
        · have e1 : decide ((k : Int) < len) = true := by simp; omega
          have e2 : decide ((k : Int) < 15) = false := by simp; omega
          obtain ⟨⟨ax, ux, fkx, fnx, bkx, bnx, lkx, lnx⟩, hy⟩ := run_all (l := qs) (fun p hp => (HL.out.2 p hp).1) (x := zeroS)
          obtain ⟨g, cap', hv, hcap, hbg, hgs, hPI, -⟩ := OwnP.at hO (by simp)
          have hPn := hPI HL.out.reset
          rw [show ((⟨39, 0, 0, 0, 0, ⟨#[]⟩⟩ : Pen) :: qs).length = k + 1 by rw [List.length_cons, HL.out.1]] at hv hcap
          subst hv
          have H1 := Lib.hid fun W gW => run_row1 a u fk fn bk bn lk ln Hx.out k hk15 qs HL.out ax ux fkx fnx bkx bnx lkx lnx hy g cap' wr W hgs hPn gW
          have H2 := Lib.hid fun off ho cap W gW => run_row2 k hk15 qs HL.out ax ux fkx fnx bkx bnx lkx lnx hy g cap wr W hgs hPn gW off ho
          have hc0 := hPn 0 _ rfl
          simp only [Nat.zero_add, Nat.zero_mul] at hc0
          obtain ⟨-, c0, c1, c2, c3, c4, c5⟩ := hc0
          have HSr := HSh.out.grows hG
          obtain ⟨s0, s1, s2, s3, s4, s5, s6, s7, s8, f0, f1, f2, f3, f4, f5, f6, f7⟩ := HSr
          have GWr := Lib.hid (G0.trans hG)
          clear hPI hPn hy hO HL hc
          go_upto_region 22 with (go_at_call 17; (with_reducible refine (H1.out _ (by repeat' (first | (with_reducible exact Grows.refl _) | (with_reducible refine Grows.alloc ?_ _) | (with_reducible refine Grows.drew ?_) | (with_reducible refine Grows.ext ?_ _ _)))).mono ?_); rintro e w' ⟨rfl, h7, k7, rfl⟩)
          by_cases hc1 : cap' = 1
          · exfalso; omega
          · go_upto_region 23 with (go_at_call 17; (with_reducible refine (H2.out _ (.inl rfl) _ _ (by repeat' (first | (with_reducible exact Grows.refl _) | (with_reducible refine Grows.alloc ?_ _) | (with_reducible refine Grows.drew ?_) | (with_reducible refine Grows.ext ?_ _ _)))).mono ?_); rintro e w' ⟨rfl, h8, k8, rfl⟩)
            refine abs_world (fun W => Grows w W ∧ StyAt W N7 a u fk fn bk bn lk ln ∧ StyAt W (wr.heap.size + h7.size) ax ux fkx fnx bkx bnx lkx lnx ∧ StyAt W (wr.heap.size + h7.size + 1 + h8.size) ax ux fkx fnx bkx bnx lkx lnx ∧ ActAt W g 39 0 0 0 0 ⟨#[]⟩) ⟨GWr.out.trans (by repeat' (first | (with_reducible exact Grows.refl _) | (with_reducible refine Grows.alloc ?_ _) | (with_reducible refine Grows.drew ?_) | (with_reducible refine Grows.ext ?_ _ _))), HSh.out.grows (hG.trans (by repeat' (first | (with_reducible exact Grows.refl _) | (with_reducible refine Grows.alloc ?_ _) | (with_reducible refine Grows.drew ?_) | (with_reducible refine Grows.ext ?_ _ _)))), ⟨by simp [go_sem], by simp [go_sem], by simp [go_sem], by simp [go_sem], by simp [go_sem], by simp [go_sem], by simp [go_sem], by simp [go_sem], by simp [go_sem], by simp [go_sem], by simp [go_sem], by simp [go_sem], by simp [go_sem], by simp [go_sem], by simp [go_sem], by simp [go_sem], by simp [go_sem]⟩, ⟨by simp [go_sem], by simp [go_sem], by simp [go_sem], by simp [go_sem], by simp [go_sem], by simp [go_sem], by simp [go_sem], by simp [go_sem], by simp [go_sem], by simp [go_sem], by simp [go_sem], by simp [go_sem], by simp [go_sem], by simp [go_sem], by simp [go_sem], by simp [go_sem], by simp [go_sem]⟩, ⟨Nat.lt_of_lt_of_le hgs (Grows.below (w := wr) (by repeat' (first | (with_reducible exact Grows.refl _) | (with_reducible refine Grows.alloc ?_ _) | (with_reducible refine Grows.drew ?_) | (with_reducible refine Grows.ext ?_ _ _)))).size, by simp [go_sem, hgs, c0], by simp [go_sem, hgs, c1], by simp [go_sem, hgs, c2], by simp [go_sem, hgs, c3], by simp [go_sem, hgs, c4], by simp [go_sem, hgs, c5]⟩⟩ ?_
            rintro WZ ⟨GZ, HA, HB, HC, HE⟩
            generalize wr.heap.size + h7.size + 1 + h8.size = N16 at *
            generalize wr.heap.size + h7.size = N14 at *
            clear s0 s1 s2 s3 s4 s5 s6 s7 s8 f0 f1 f2 f3 f4 f5 f6 f7 c0 c1 c2 c3 c4 c5 hgs
            obtain ⟨as0, as1, as2, as3, as4, as5, as6, as7, as8, af0, af1, af2, af3, af4, af5, af6, af7⟩ := HA
            obtain ⟨bs0, bs1, bs2, bs3, bs4, bs5, bs6, bs7, bs8, bf0, bf1, bf2, bf3, bf4, bf5, bf6, bf7⟩ := HB
            obtain ⟨cs0, cs1, cs2, cs3, cs4, cs5, cs6, cs7, cs8, cf0, cf1, cf2, cf3, cf4, cf5, cf6, cf7⟩ := HC
            obtain ⟨p0, p1, p2, p3, p4, p5, p6⟩ := HE
            refine wp_region_held_drew (S := fun w' => Grows WZ w') (by kernel_rfl) ?_ (fun hHeld => ?_)
            · exact (by repeat' (first | (with_reducible exact Grows.refl _) | (with_reducible refine Grows.alloc ?_ _) | (with_reducible refine Grows.drew ?_) | (with_reducible refine Grows.ext ?_ _ _)))
            refine wpAnyH_takeD (i := 0) (v := ?v232_0) rfl rfl (by kernel_rfl) (by kernel_rfl) (by kernel_rfl) (fun _ _ _ h => h) (Or.inl ⟨by kernel_rfl, ?y232_0⟩) (by assumption) ?r232_0
            case y232_0 => (intro wS hSw; obtain ⟨hhS, ddS, rfl⟩ := hSw; go_simp; (try with_reducible rfl))
            try simp only [Act.put, List.setIfInBounds_toArray, List.set_cons_zero, List.set_cons_succ]
            refine wpAnyH_takeD (i := 1) (v := ?v233_1) rfl rfl (by kernel_rfl) (by kernel_rfl) (by kernel_rfl) (fun _ _ _ h => h) (Or.inl ⟨by kernel_rfl, ?y233_1⟩) (by assumption) ?r233_1
            case y233_1 => (intro wS hSw; obtain ⟨hhS, ddS, rfl⟩ := hSw; go_simp; (try with_reducible rfl))
            try simp only [Act.put, List.setIfInBounds_toArray, List.set_cons_zero, List.set_cons_succ]
            refine wpAnyH_takeD (i := 2) (v := ?v234_2) rfl rfl (by kernel_rfl) (by kernel_rfl) (by kernel_rfl) (fun _ _ _ h => h) (Or.inl ⟨by kernel_rfl, ?y234_2⟩) (by assumption) ?r234_2
            case y234_2 => (intro wS hSw; obtain ⟨hhS, ddS, rfl⟩ := hSw; go_simp; (try with_reducible rfl))
            try simp only [Act.put, List.setIfInBounds_toArray, List.set_cons_zero, List.set_cons_succ]
            refine wpAnyH_takeD (i := 3) (v := ?v235_3) rfl rfl (by kernel_rfl) (by kernel_rfl) (by kernel_rfl) (fun _ _ _ h => h) (Or.inl ⟨by kernel_rfl, ?y235_3⟩) (by assumption) ?r235_3
            case y235_3 => (intro wS hSw; obtain ⟨hhS, ddS, rfl⟩ := hSw; go_simp; (try with_reducible rfl))
            try simp only [Act.put, List.setIfInBounds_toArray, List.set_cons_zero, List.set_cons_succ]
            refine wpAnyH_takeD (i := 4) (v := ?v236_4) rfl rfl (by kernel_rfl) (by kernel_rfl) (by kernel_rfl) (fun _ _ _ h => h) (Or.inl ⟨by kernel_rfl, ?y236_4⟩) (by assumption) ?r236_4
            case y236_4 => (intro wS hSw; obtain ⟨hhS, ddS, rfl⟩ := hSw; go_simp; (try with_reducible rfl))
            try simp only [Act.put, List.setIfInBounds_toArray, List.set_cons_zero, List.set_cons_succ]
            refine wpAnyH_takeD (i := 5) (v := ?v237_5) rfl rfl (by kernel_rfl) (by kernel_rfl) (by kernel_rfl) (fun _ _ _ h => h) (Or.inl ⟨by kernel_rfl, ?y237_5⟩) (by assumption) ?r237_5
            case y237_5 => (intro wS hSw; obtain ⟨hhS, ddS, rfl⟩ := hSw; go_simp; (try with_reducible rfl))
            try simp only [Act.put, List.setIfInBounds_toArray, List.set_cons_zero, List.set_cons_succ]
            refine wpAnyH_takeD (i := 6) (v := ?v238_6) rfl rfl (by kernel_rfl) (by kernel_rfl) (by kernel_rfl) (fun _ _ _ h => h) (Or.inl ⟨by kernel_rfl, ?y238_6⟩) (by assumption) ?r238_6
            case y238_6 => (intro wS hSw; obtain ⟨hhS, ddS, rfl⟩ := hSw; go_simp; (try with_reducible rfl))
            try simp only [Act.put, List.setIfInBounds_toArray, List.set_cons_zero, List.set_cons_succ]
            refine wpAnyH_takeD (i := 7) (v := ?v239_7) rfl rfl (by kernel_rfl) (by kernel_rfl) (by kernel_rfl) (fun _ _ _ h => h) (Or.inl ⟨by kernel_rfl, ?y239_7⟩) (by assumption) ?r239_7
            case y239_7 => (intro wS hSw; obtain ⟨hhS, ddS, rfl⟩ := hSw; go_simp; (try with_reducible rfl))
            try simp only [Act.put, List.setIfInBounds_toArray, List.set_cons_zero, List.set_cons_succ]
            refine wpAnyH_takeD (i := 8) (v := ?v240_8) rfl rfl (by kernel_rfl) (by kernel_rfl) (by kernel_rfl) (fun _ _ _ h => h) (Or.inl ⟨by kernel_rfl, ?y240_8⟩) (by assumption) ?r240_8
            case y240_8 => (intro wS hSw; obtain ⟨hhS, ddS, rfl⟩ := hSw; go_simp; (try with_reducible rfl))
            try simp only [Act.put, List.setIfInBounds_toArray, List.set_cons_zero, List.set_cons_succ]
            refine wpAnyH_takeD (i := 9) (v := ?v241_9) rfl rfl (by kernel_rfl) (by kernel_rfl) (by kernel_rfl) (fun _ _ _ h => h) (Or.inl ⟨by kernel_rfl, ?y241_9⟩) (by assumption) ?r241_9
            case y241_9 => (intro wS hSw; obtain ⟨hhS, ddS, rfl⟩ := hSw; go_simp; (try with_reducible rfl))
            try simp only [Act.put, List.setIfInBounds_toArray, List.set_cons_zero, List.set_cons_succ]
            refine wpAnyH_takeD (i := 10) (v := ?v242_10) rfl rfl (by kernel_rfl) (by kernel_rfl) (by kernel_rfl) (fun _ _ _ h => h) (Or.inl ⟨by kernel_rfl, ?y242_10⟩) (by assumption) ?r242_10
            case y242_10 => (intro wS hSw; obtain ⟨hhS, ddS, rfl⟩ := hSw; go_simp; (try with_reducible rfl))
            try simp only [Act.put, List.setIfInBounds_toArray, List.set_cons_zero, List.set_cons_succ]
            refine wpAnyH_takeD (i := 11) (v := ?v243_11) rfl rfl (by kernel_rfl) (by kernel_rfl) (by kernel_rfl) (fun _ _ _ h => h) (Or.inl ⟨by kernel_rfl, ?y243_11⟩) (by assumption) ?r243_11
            case y243_11 => (intro wS hSw; obtain ⟨hhS, ddS, rfl⟩ := hSw; go_simp; (try with_reducible rfl))
            try simp only [Act.put, List.setIfInBounds_toArray, List.set_cons_zero, List.set_cons_succ]
            refine wpAnyH_takeD (i := 12) (v := ?v244_12) rfl rfl (by kernel_rfl) (by kernel_rfl) (by kernel_rfl) (fun _ _ _ h => h) (Or.inl ⟨by kernel_rfl, ?y244_12⟩) (by assumption) ?r244_12
            case y244_12 => (intro wS hSw; obtain ⟨hhS, ddS, rfl⟩ := hSw; go_simp; (try with_reducible rfl))
            try simp only [Act.put, List.setIfInBounds_toArray, List.set_cons_zero, List.set_cons_succ]
            refine wpAnyH_takeD (i := 13) (v := ?v245_13) rfl rfl (by kernel_rfl) (by kernel_rfl) (by kernel_rfl) (fun _ _ _ h => h) (Or.inl ⟨by kernel_rfl, ?y245_13⟩) (by assumption) ?r245_13
            case y245_13 => (intro wS hSw; obtain ⟨hhS, ddS, rfl⟩ := hSw; go_simp; (try with_reducible rfl))
            try simp only [Act.put, List.setIfInBounds_toArray, List.set_cons_zero, List.set_cons_succ]
            refine wpAnyH_takeD (i := 14) (v := ?v246_14) rfl rfl (by kernel_rfl) (by kernel_rfl) (by kernel_rfl) (fun _ _ _ h => h) (Or.inl ⟨by kernel_rfl, ?y246_14⟩) (by assumption) ?r246_14
            case y246_14 => (intro wS hSw; obtain ⟨hhS, ddS, rfl⟩ := hSw; go_simp; (try with_reducible rfl))
            try simp only [Act.put, List.setIfInBounds_toArray, List.set_cons_zero, List.set_cons_succ]
            refine wpAnyH_takeD (i := 15) (v := ?v247_15) rfl rfl (by kernel_rfl) (by kernel_rfl) (by kernel_rfl) (fun _ _ _ h => h) (Or.inl ⟨by kernel_rfl, ?y247_15⟩) (by assumption) ?r247_15
            case y247_15 => (intro wS hSw; obtain ⟨hhS, ddS, rfl⟩ := hSw; go_simp; (try with_reducible rfl))
            try simp only [Act.put, List.setIfInBounds_toArray, List.set_cons_zero, List.set_cons_succ]
            refine wpAnyH_takeD (i := 16) (v := ?v248_16) rfl rfl (by kernel_rfl) (by kernel_rfl) (by kernel_rfl) (fun _ _ _ h => h) (Or.inl ⟨by kernel_rfl, ?y248_16⟩) (by assumption) ?r248_16
            case y248_16 => (intro wS hSw; obtain ⟨hhS, ddS, rfl⟩ := hSw; go_simp; (try with_reducible rfl))
            try simp only [Act.put, List.setIfInBounds_toArray, List.set_cons_zero, List.set_cons_succ]
            refine wpAnyH_ready (rs := [17]) (by kernel_rfl) (by simp) ?_
            refine AllReadyH.cons rfl (fun K hK => ?_) AllReadyH.nil
            simp only [List.getElem_toArray, List.getElem_cons_succ, List.getElem_cons_zero]
            go_simp
            skip
            refine hK.out _ _ ?_ ?_
            · exact (by repeat' (first | (with_reducible exact Grows.refl _) | (with_reducible refine Grows.alloc ?_ _) | (with_reducible refine Grows.drew ?_) | (with_reducible refine Grows.ext ?_ _ _)))
            clear hK K hHeld
            intro hHeld
            try simp only [Act.put, List.setIfInBounds_toArray, List.set_cons_zero, List.set_cons_succ]
            refine wpAnyH_ready (rs := [18]) (by kernel_rfl) (by simp) ?_
            refine AllReadyH.cons rfl (fun K hK => ?_) AllReadyH.nil
            simp only [List.getElem_toArray, List.getElem_cons_succ, List.getElem_cons_zero]
            go_simp
            (go_at_call 22; (with_reducible refine (mk_reset a u fk fn bk bn lk ln Hx.out _ _ (by simp [go_sem]) (by simp [go_sem]) (by simp [go_sem]) (by simp [go_sem]) (by simp [go_sem]) (by simp [go_sem]) (by simp [go_sem])).mono ?_); rintro e w' ⟨rfl, h9, k9, rfl⟩)
            refine hK.out _ _ ?_ ?_
            · exact (by repeat' (first | (with_reducible exact Grows.refl _) | (with_reducible refine Grows.alloc ?_ _) | (with_reducible refine Grows.drew ?_) | (with_reducible refine Grows.ext ?_ _ _)))
            clear hK K hHeld
            intro hHeld
            try simp only [Act.put, List.setIfInBounds_toArray, List.set_cons_zero, List.set_cons_succ]
            refine wpAnyH_takeD (i := 19) (v := ?v251_19) rfl rfl (by kernel_rfl) (by kernel_rfl) (by kernel_rfl) (fun _ _ _ h => h) (Or.inl ⟨by kernel_rfl, ?y251_19⟩) (by assumption) ?r251_19
            case y251_19 => (intro wS hSw; obtain ⟨hhS, ddS, rfl⟩ := hSw; go_simp; (try with_reducible rfl))
            try simp only [Act.put, List.setIfInBounds_toArray, List.set_cons_zero, List.set_cons_succ]
            refine wpAnyH_takeD (i := 20) (v := ?v252_20) rfl rfl (by kernel_rfl) (by kernel_rfl) (by kernel_rfl) (fun _ _ _ h => h) (Or.inl ⟨by kernel_rfl, ?y252_20⟩) (by assumption) ?r252_20
            case y252_20 => (intro wS hSw; obtain ⟨hhS, ddS, rfl⟩ := hSw; go_simp; (try with_reducible rfl))
            try simp only [Act.put, List.setIfInBounds_toArray, List.set_cons_zero, List.set_cons_succ]
            refine wpAnyH_done (by kernel_rfl) ?_ _
            clear hHeld
            go_wp2
            go_returns
            exact ⟨rfl, (by repeat' (first | (with_reducible exact GZ) | (with_reducible exact Grows.refl _) | (with_reducible refine Grows.alloc ?_ _) | (with_reducible refine Grows.drew ?_) | (with_reducible refine Grows.ext ?_ _ _)))⟩
end Go.Proofs.Ytafokiobbceibaa
