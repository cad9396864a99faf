/-
  What StyleApplies walks over.
-/
import Derived.Test.YtafokiobbceibaaRows
import Derived.Test.YtafokiobbceibaaLt
import Derived.Test.YtafokiobbceibaaDefs
import Derived.Test.YtafokiobbceibaaBits
import Derived.Test.YtafokiobbceibaaMaps
import Derived.Test.YtafokiobbceibaaW1
import Derived.Test.YtafokiobbceibaaW2
import Derived.Test.YtafokiobbceibaaW4
import Derived.Test.YtafokiobbceibaaW5
import Derived.Test.YtafokiobbceibaaW6
import Derived.Test.YtafokiobbceibaaW7
import Derived.Test.YtafokiobbceibaaRun
import Derived.Test.YtafokiobbceibaaW8
import Derived.Test.YtafokiobbceibaaW9
import Derived.Test.YtafokiobbceibaaW10
import Derived.Test.YtafokiobbceibaaW11
import Derived.Test.YtafokiobbceibaaW14
import Derived.Test.YtafokiobbceibaaW18
import Derived.Test.YtafokiobbceibaaD0
import Derived.Test.YtafokiobbceibaaD1
import Derived.Test.YtafokiobbceibaaD2
import Derived.Test.YtafokiobbceibaaD3
import Derived.Test.YtafokiobbceibaaD4
import Derived.Test.YtafokiobbceibaaD5
import Derived.Test.YtafokiobbceibaaD6
import Derived.Test.YtafokiobbceibaaD7
import Derived.Test.YtafokiobbceibaaSty
import Derived.Test.YtafokiobbceibaaW21
import Derived.Test.YtafokiobbceibaaPR
import Derived.Test.YtafokiobbceibaaW22
import Derived.Test.YtafokiobbceibaaW17
import Derived.Test.YtafokiobbceibaaW23
import Derived.Test.YtafokiobbceibaaW24
import Derived.WalkKit
import Derived.WalkSpells
import Derived.WalkLawsBesides
import Derived.Handy
import Derived.Laws.EntriesVeiled
import Derived.Lib.Hide
import Derived.Deep.Light
import Derived.Deep.LoopGhost
import Derived.BigGuardPart
import Derived.BigQuiet
import Derived.Deep.QuietTactic
import Derived.Deep.RegionHeld3
import Derived.OwnWalk
import Derived.Laws.IdiomCopy
import Derived.Test.YtafokiobbceibaaReg
import Derived.Test.YtafokiobbceibaaReg3
import Derived.Test.YtafokiobbceibaaReg4
namespace Go.Proofs.Ytafokiobbceibaa
open Go.RowKit

theorem idx44_0 (x0 x1 x2 x3 x4 x5 x6 x7 x8 x9 x10 x11 x12 x13 x14 x15 : Value) (w : World) : (Instr.index 44 (.agg #[x0, x1, x2, x3, x4, x5, x6, x7, x8, x9, x10, x11, x12, x13, x14, x15]) (.int .i64 0)).run Try.prog w = .ok (.agg #[x0, x1, x2, x3, x4, x5, x6, x7]) w := by kernel_rfl
theorem idx44_1 (x0 x1 x2 x3 x4 x5 x6 x7 x8 x9 x10 x11 x12 x13 x14 x15 : Value) (w : World) : (Instr.index 44 (.agg #[x0, x1, x2, x3, x4, x5, x6, x7, x8, x9, x10, x11, x12, x13, x14, x15]) (.int .i64 1)).run Try.prog w = .ok (.agg #[x8, x9, x10, x11, x12, x13, x14, x15]) w := by kernel_rfl
theorem idx45_0 (x0 x1 x2 : Value) (w : World) : (Instr.index 45 (.agg #[x0, x1, x2]) (.int .i64 0)).run Try.prog w = .ok x0 w := by kernel_rfl
theorem idx45_1 (x0 x1 x2 : Value) (w : World) : (Instr.index 45 (.agg #[x0, x1, x2]) (.int .i64 1)).run Try.prog w = .ok x1 w := by kernel_rfl
theorem idx45_2 (x0 x1 x2 : Value) (w : World) : (Instr.index 45 (.agg #[x0, x1, x2]) (.int .i64 2)).run Try.prog w = .ok x2 w := by kernel_rfl

theorem index44 (a u fk fn bk bn lk ln b0 b1 b2 b3 b4 b5 b6 b7 : Int) (ha : In64 a) (hb : In64 b0) (k : Nat) (hk : k < 2) : ∃ ax ux fkx fnx bkx bnx lkx lnx : Int, In64 ax ∧ ∀ w, (Instr.index 44 (.agg #[.int .i64 a, .int .i64 u, .int .i64 fk, .int .i64 fn, .int .i64 bk, .int .i64 bn, .int .i64 lk, .int .i64 ln, .int .i64 b0, .int .i64 b1, .int .i64 b2, .int .i64 b3, .int .i64 b4, .int .i64 b5, .int .i64 b6, .int .i64 b7]) (.int .i64 k)).run Try.prog w = .ok (.agg #[.int .i64 ax, .int .i64 ux, .int .i64 fkx, .int .i64 fnx, .int .i64 bkx, .int .i64 bnx, .int .i64 lkx, .int .i64 lnx]) w := by
  have hk : k = 0 ∨ k = 1 := by omega
  rcases hk with rfl | rfl
  · exact ⟨a, u, fk, fn, bk, bn, lk, ln, ha, fun w => idx44_0 _ _ _ _ _ _ _ _ _ _ _ _ _ _ _ _ w⟩
  · exact ⟨b0, b1, b2, b3, b4, b5, b6, b7, hb, fun w => idx44_1 _ _ _ _ _ _ _ _ _ _ _ _ _ _ _ _ w⟩
theorem index45 {w0 : World} (o1 o2 o3 : Option Addr) (l1 l2 l3 : List Pen) (n1 n2 n3 c1 c2 c3 : Nat) (e1 : n1 = l1.length) (e2 : n2 = l2.length) (e3 : n3 = l3.length) (m1 : n1 ≤ 20) (m2 : n2 ≤ 20) (m3 : n3 ≤ 20) (h1 : PensOf w0 o1 l1) (h2 : PensOf w0 o2 l2) (h3 : PensOf w0 o3 l3) (k : Nat) (hk : k < 3) : ∃ (o : Option Addr) (l : List Pen) (n c : Nat), (n = l.length ∧ n ≤ 20 ∧ PensOf w0 o l) ∧ ∀ w, (Instr.index 45 (.agg #[.slice o1 n1 c1, .slice o2 n2 c2, .slice o3 n3 c3]) (.int .i64 k)).run Try.prog w = .ok (.slice o n c) w := by
  have hk : k = 0 ∨ k = 1 ∨ k = 2 := by omega
  rcases hk with rfl | rfl | rfl
  · exact ⟨o1, l1, n1, c1, ⟨e1, m1, h1⟩, fun w => idx45_0 _ _ _ w⟩
  · exact ⟨o2, l2, n2, c2, ⟨e2, m2, h2⟩, fun w => idx45_1 _ _ _ w⟩
  · exact ⟨o3, l3, n3, c3, ⟨e3, m3, h3⟩, fun w => idx45_2 _ _ _ w⟩
theorem StyAt.heap {w w' : World} {B : Nat} {a u fk fn bk bn lk ln : Int} (h : StyAt w B a u fk fn bk bn lk ln) (e : w'.heap[B]? = w.heap[B]?) : StyAt w' B a u fk fn bk bn lk ln := by
  obtain ⟨k0, c0, c1, c2, c3, c4, c5, c6, c7, f0, f1, f2, f3, f4, f5, f6, f7⟩ := h
  have hc : ∀ j, w'.cell? ⟨B, j, none⟩ = w.cell? ⟨B, j, none⟩ := fun j => World.cell?_of_block e
  have hf : ∀ j, w'.frozen? ⟨B, j, none⟩ = w.frozen? ⟨B, j, none⟩ := fun j => World.frozen?_of_block e
  refine ⟨?_, ?_, ?_, ?_, ?_, ?_, ?_, ?_, ?_, ?_, ?_, ?_, ?_, ?_, ?_, ?_, ?_⟩
  · rcases Nat.lt_or_ge B w'.heap.size with h' | h'
    · exact h'
    · rw [Array.getElem?_eq_none h', Array.getElem?_eq_getElem k0] at e
      cases e
  all_goals first | (rw [hc]; assumption) | (rw [hf]; assumption)
theorem ActAt.heap {w w' : World} {B : Nat} {kd n m ck cn : Int} {s : ByteArray} (h : ActAt w B kd n m ck cn s) (e : w'.heap[B]? = w.heap[B]?) : ActAt w' B kd n m ck cn s := by
  obtain ⟨k0, c0, c1, c2, c3, c4, c5⟩ := h
  have hc : ∀ j, w'.cell? ⟨B, j, none⟩ = w.cell? ⟨B, j, none⟩ := fun j => World.cell?_of_block e
  refine ⟨?_, ?_, ?_, ?_, ?_, ?_, ?_⟩
  · rcases Nat.lt_or_ge B w'.heap.size with h' | h'
    · exact h'
    · rw [Array.getElem?_eq_none h', Array.getElem?_eq_getElem k0] at e
      cases e
  all_goals (rw [hc]; assumption)
theorem ActAt.grows' {w w' : World} {B : Nat} {kd n m ck cn : Int} {s : ByteArray} (h : ActAt w B kd n m ck cn s) (g : Grows w w') : ActAt w' B kd n m ck cn s := h.heap (g.below.block B h.1)
theorem OwnP.set {w : World} {base N i : Nat} {u v : Value} {l : List Pen} (h : OwnP w base v l) (hn : N < base) : OwnP (w.setCell ⟨N, i, none⟩ u) base v l := by
  obtain ⟨hl, h | ⟨b, cap, cur, rfl, hb, hh, hc, hm, hs, ht⟩⟩ := h
  · exact ⟨hl, .inl h⟩
  · exact ⟨hl, .inr ⟨b, cap, cur, rfl, hb, (heap_set (by omega)).trans hh, hc, hm, hs, ht⟩⟩
theorem OwnP.of {w : World} {base : Nat} {v : Value} {l : List Pen} (h : OwnP w base v l) (hm : ∀ p ∈ l, In64 p.m) : ∃ oa c, v = .slice oa l.length c ∧ PensOf w oa l ∧ (l = [] ∨ ∃ g, oa = some ⟨g, 0, none⟩ ∧ base ≤ g ∧ g < w.heap.size ∧ l.length ≤ c ∧ PensIn w g 0 l ∧ ∀ j, w.frozen? ⟨g, j, none⟩ = false) := by
  by_cases hn : l = []
  · subst hn
    rcases h.2 with ⟨rfl, -⟩ | ⟨g, cap, cur, rfl, -⟩
    · exact ⟨none, 0, rfl, PensOf.nil, .inl rfl⟩
    · exact ⟨_, cap, rfl, PensOf.nil, .inl rfl⟩
  · obtain ⟨g, cap, rfl, hc, hb, hg, hp, hf⟩ := h.at hn
    exact ⟨_, cap, rfl, PensOf.of hg (hp hm), .inr ⟨g, rfl, hb, hg, hc, hp hm, hf⟩⟩
/-- A run's result: a style and a number. -/
theorem runV_form (x : Sty) (l : List Pen) : ∃ (ax ux fkx fnx bkx bnx lkx lnx : Int) (e : Int), runV x l = .tuple #[.agg #[.int .i64 ax, .int .i64 ux, .int .i64 fkx, .int .i64 fnx, .int .i64 bkx, .int .i64 bnx, .int .i64 lkx, .int .i64 lnx], .int .i64 e] := by
  unfold runV
  split
  · exact ⟨0, 0, 0, 0, 0, 0, 0, 0, _, rfl⟩
  · cases h : runS x l with
    | none => exact ⟨0, 0, 0, 0, 0, 0, 0, 0, _, rfl⟩
    | some y => exact ⟨y.a, y.u, y.fk, y.fn, y.bk, y.bn, y.lk, y.ln, _, rfl⟩
theorem run_of (a u fk fn bk bn lk ln : Int) (hi : In64 a) (l : List Pen) (oa : Option Addr) (n cap : Nat) (w : World) (hn : n = l.length) (hl : n ≤ 20) (h : PensOf w oa l) : Calls Try.prog 17 #[.agg #[.int .i64 a, .int .i64 u, .int .i64 fk, .int .i64 fn, .int .i64 bk, .int .i64 bn, .int .i64 lk, .int .i64 ln], .slice oa n cap] w (Ret (runV ⟨a, u, fk, fn, bk, bn, lk, ln⟩ l) w) := by
  subst hn
  by_cases hn : l = []
  · subst hn
    exact run_nil a u fk fn bk bn lk ln hi oa cap w
  · obtain ⟨p, hp⟩ : ∃ p, l[0]? = some p := ⟨l[0]'(List.length_pos_iff.2 hn), by simp [List.length_pos_iff.2 hn]⟩
    obtain ⟨bl, off, rfl, hb, -⟩ := h 0 p hp
    refine run_any a u fk fn bk bn lk ln hi l bl off cap w (by omega) hb fun i q hq => ?_
    obtain ⟨bl', off', e, -, h⟩ := h i q hq
    cases e
    exact h
set_option maxHeartbeats 2000000 in
theorem rapply_l (a u fk fn bk bn lk ln kd n m ck cn : Int) (s : ByteArray) (ax ux fkx fnx bkx bnx lkx lnx e : Int) (hi : In64 a) (hm : In64 m) (hv : runV ⟨a, u, fk, fn, bk, bn, lk, ln⟩ [⟨kd, n, m, ck, cn, s⟩] = .tuple #[.agg #[.int .i64 ax, .int .i64 ux, .int .i64 fkx, .int .i64 fnx, .int .i64 bkx, .int .i64 bnx, .int .i64 lkx, .int .i64 lnx], .int .i64 e]) (w : World) : Calls Try.prog 20 #[.agg #[.int .i64 a, .int .i64 u, .int .i64 fk, .int .i64 fn, .int .i64 bk, .int .i64 bn, .int .i64 lk, .int .i64 ln], .agg #[.int .i64 kd, .int .i64 n, .int .i64 m, .int .i64 ck, .int .i64 cn, .string s]] w (Ret (.tuple #[.agg #[.int .i64 ax, .int .i64 ux, .int .i64 fkx, .int .i64 fnx, .int .i64 bkx, .int .i64 bnx, .int .i64 lkx, .int .i64 lnx], .int .i64 e]) w) := by
  have hr := fun (B : Nat) (W : World) (hb : B < W.heap.size) (hp : PensIn W B 0 [⟨kd, n, m, ck, cn, s⟩]) => rrun_any a u fk fn bk bn lk ln hi [⟨kd, n, m, ck, cn, s⟩] (some ⟨B, 0, none⟩) 1 W (by simp) (PensOf.of hb hp)
  rw [hv] at hr
  have Hr := Lib.hid hr
  have Hm := Lib.hid hm
  clear hr hv hi hm
  go_enter Try.func20, Try.ntmps20
  go_wp2_with fail
  refine Calls.mono (Hr.out _ _ (by simp [go_sem]) (pensIn1 Hm.out (by simp [go_sem]) (by simp [go_sem]) (by simp [go_sem]) (by simp [go_sem]) (by simp [go_sem]) (by simp [go_sem]))) ?_
  rintro e w' ⟨rfl, h1, d1, rfl⟩
  go_wp2
  go_returns
  exact ⟨rfl, (by repeat' (first | (with_reducible exact Grows.refl _) | (with_reducible refine Grows.alloc ?_ _) | (with_reducible refine Grows.drew ?_) | (with_reducible refine Grows.ext ?_ _ _)))⟩
theorem pens_set {w : World} {g m : Nat} {l : List Pen} {p : Pen} (hm : m < l.length) (hp : In64 p.m) (h : PensIn w g 0 l) : PensIn (w.setCells g (m * 6) (penC p)) g 0 (l.set m p) := by
  have hcells : ∀ j, j < 6 → (w.cell? ⟨g, m * 6 + j, none⟩).isSome = true := by
    obtain ⟨q, hq⟩ : ∃ q, l[m]? = some q := ⟨l[m], by simp [hm]⟩
    have := h m q hq
    simp only [Nat.zero_add] at this
    obtain ⟨-, c0, c1, c2, c3, c4, c5⟩ := this
    intro j hj
    rcases (by omega : j = 0 ∨ j = 1 ∨ j = 2 ∨ j = 3 ∨ j = 4 ∨ j = 5) with rfl | rfl | rfl | rfl | rfl | rfl
    · simp [c0]
    · simp [c1]
    · simp [c2]
    · simp [c3]
    · simp [c4]
    · simp [c5]
  intro i q hq
  by_cases him : i = m
  · subst him
    rw [List.getElem?_set_self hm] at hq
    cases hq
    have hin : ∀ j (hj : j < 6), (w.setCells g (i * 6) (penC p)).cell? ⟨g, i * 6 + j, none⟩ = some ((penC p)[j]'(by simpa [penC] using hj)) := fun j hj => World.cell?_setCells_in g (penC p) (i * 6) w (by simpa [penC] using hcells) j (by simpa [penC] using hj)
    simp only [Nat.zero_add]
    exact ⟨hp, hin 0 (by omega), hin 1 (by omega), hin 2 (by omega), hin 3 (by omega), hin 4 (by omega), hin 5 (by omega)⟩
  · rw [List.getElem?_set_ne (fun e => him e.symm)] at hq
    obtain ⟨h0, c0, c1, c2, c3, c4, c5⟩ := h i q hq
    have hout : ∀ j, j < 6 → (w.setCells g (m * 6) (penC p)).cell? ⟨g, 0 + i * 6 + j, none⟩ = w.cell? ⟨g, 0 + i * 6 + j, none⟩ := fun j hj => World.cell?_setCells_out g (penC p) (m * 6) w _ (fun _ _ => by simp only [penC, List.length_cons, List.length_nil]; omega)
    exact ⟨h0, (hout 0 (by omega)).trans c0, (hout 1 (by omega)).trans c1, (hout 2 (by omega)).trans c2, (hout 3 (by omega)).trans c3, (hout 4 (by omega)).trans c4, (hout 5 (by omega)).trans c5⟩
end Go.Proofs.Ytafokiobbceibaa
