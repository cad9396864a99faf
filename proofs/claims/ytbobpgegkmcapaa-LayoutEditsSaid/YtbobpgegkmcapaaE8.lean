/-
  Walks: with. Walks: replace.
-/
import Derived.Test.YtbobpgegkmcapaaRows
import Derived.Test.YtbobpgegkmcapaaE1
import Derived.Test.YtbobpgegkmcapaaE2
import Derived.WalkKit
import Derived.WalkSpells
import Derived.WalkLawsBesides
import Derived.Handy
import Derived.Laws.Rows
import Derived.Great.BuildSlice
import Derived.Deep.Heap
import Derived.IntWalk
import Derived.Lib.Hide
import Derived.Outline
import Derived.Deep.Light
import Derived.Deep.LoopGhost
import Derived.BigGuardPart
import Derived.BigQuiet
import Derived.Deep.QuietTactic
import Derived.Deep.RegionHeld3
import Derived.Deep.DeepCutAuto
import Derived.Deep.CutBlock
import Derived.OwnWalk
import Derived.Maps.AppendAt
import Derived.Test.YtbobpgegkmcapaaE3
namespace Go.Proofs.Ytbobpgegkmcapaa
open Go.RowKit

theorem IntsIn.take_ {S : Nat → Prop} {w : World} {b off : Nat} {l : List Int} (h : IntsIn S w (some ⟨b, off, none⟩) l) (n : Nat) : IntsIn S w (some ⟨b, off, none⟩) (l.take n) := by
  intro hne
  have hl : l ≠ [] := by rintro rfl; simp at hne
  obtain ⟨b', off', e, hb, hs, hc⟩ := h hl
  refine ⟨b', off', e, hb, hs, fun i x hi => hc i x ?_⟩
  by_cases hin : i < n
  · rwa [List.getElem?_take_of_lt hin] at hi
  · rw [List.getElem?_eq_none (by rw [List.length_take]; omega)] at hi
    cases hi
theorem IntsIn.drop_ {S : Nat → Prop} {w : World} {b off : Nat} {l : List Int} (h : IntsIn S w (some ⟨b, off, none⟩) l) (n : Nat) : IntsIn S w (some ⟨b, off + n, none⟩) (l.drop n) := by
  intro hne
  have hl : l ≠ [] := by rintro rfl; simp at hne
  obtain ⟨b', off', e, hb, hs, hc⟩ := h hl
  cases e
  refine ⟨b, off + n, rfl, hb, hs, fun i x hi => ?_⟩
  rw [List.getElem?_drop] at hi
  rw [show off + n + i = off + (n + i) by omega]
  exact hc _ x hi
theorem KidsIn.take_ {S : Nat → Prop} {w : World} {b off : Nat} {ks : List Lay} {G : Nat → Value × Value} (h : KidsIn S w (some ⟨b, off, none⟩) ks G) (n : Nat) : KidsIn S w (some ⟨b, off, none⟩) (ks.take n) G := by
  have key : ∀ (i : Nat) (x : Lay), (ks.take n)[i]? = some x → ks[i]? = some x := by
    intro i x hi
    by_cases hin : i < n
    · rwa [List.getElem?_take_of_lt hin] at hi
    · rw [List.getElem?_eq_none (by rw [List.length_take]; omega)] at hi
      cases hi
  refine ⟨fun hne => ?_, fun i x hi => h.kids i x (key i x hi)⟩
  have hl : ks ≠ [] := by rintro rfl; simp at hne
  obtain ⟨b', off', e, hb, hs, hc⟩ := h.head hl
  exact ⟨b', off', e, hb, hs, fun i x hi => hc i x (key i x hi)⟩
theorem KidsIn.drop_ {S : Nat → Prop} {w : World} {b off : Nat} {ks : List Lay} {G : Nat → Value × Value} (h : KidsIn S w (some ⟨b, off, none⟩) ks G) (n : Nat) : KidsIn S w (some ⟨b, off + n * 4, none⟩) (ks.drop n) (fun i => G (n + i)) := by
  refine ⟨fun hne => ?_, fun i x (hi : (ks.drop n)[i]? = some x) => h.kids (n + i) x (by rwa [List.getElem?_drop] at hi)⟩
  have hl : ks ≠ [] := by rintro rfl; simp at hne
  obtain ⟨b', off', e, hb, hs, hc⟩ := h.head hl
  cases e
  refine ⟨b, off + n * 4, rfl, hb, hs, fun i x hi => ?_⟩
  rw [List.getElem?_drop] at hi
  have := hc _ x hi
  rw [show off + (n + i) * 4 = off + n * 4 + i * 4 by omega] at this
  exact this
set_option maxRecDepth 100000 in
set_option maxHeartbeats 4000000 in
theorem with_ints {S : Nat → Prop} (l f : List Int) (i many : Nat) (vl vf : Value) (w : World) (hS : ∀ b, w.heap.size ≤ b → S b) (hl : l ≠ []) (hi : i + many ≤ l.length) (hln : l.length ≤ 2000) (hfn2 : f.length ≤ 2000) (h : IntsAt S w vl l) (hf : IntsAt S w vf f) :
    Calls Try.prog 59 #[vl, .int .i64 i, .int .i64 many, vf] w (fun e w' => ∃ v, e = .returned v ∧ IntsAt S w' v (withL l i many f) ∧ Grows w w') := by
  obtain ⟨i0, hi0, hz0, hz1, hz2⟩ := info_parts info3
  obtain ⟨a, cap, rfl, hcap, hmx, hin⟩ := h.open_ rfl
  obtain ⟨b, off, rfl, hb, hs, -⟩ := hin hl
  obtain ⟨fn, hfn⟩ : ∃ z, f.length = z := ⟨_, rfl⟩
  obtain ⟨fa, fc, rfl, hfc, hfm, -⟩ := hf.open_ hfn
  have h1 : CellsAt 1 w (.slice (some ⟨b, off, none⟩) i i) i (intC (l.take i)) := by
    have := ((hin.take_ i).shut (n := i) (c := i) (by rw [List.length_take]; omega) (Nat.le_refl _) (by omega)).cells
    rwa [List.length_take, Nat.min_eq_left (by omega)] at this
  have h2 : ∀ a' c, (a' = some ⟨b, off + (i + many), none⟩ ∨ l.length = i + many) → l.length - (i + many) ≤ c → CellsAt 1 w (.slice a' (l.length - (i + many)) c) (l.length - (i + many)) (intC (l.drop (i + many))) := by
    intro a' c ha hc
    rcases ha with rfl | ha
    case inr =>
      rw [List.drop_of_length_le (by omega), ha, Nat.sub_self]
      exact ⟨rfl, _, _, rfl, Nat.zero_le _, fun h => absurd rfl h⟩
    have := ((hin.drop_ (i + many)).shut (n := l.length - (i + many)) (c := c) (by rw [List.length_drop]) hc (by omega)).cells
    rwa [List.length_drop] at this
  have hfc0 := hf.cells
  rw [hfn] at hfc0 hfn2
  have hfC := Lib.hid hfc0
  have HFN := Lib.hid hfn
  have HA := Lib.hid h1
  have HB := Lib.hid h2
  clear h hf h1 h2 hin hfn hfc0
  rcases Nat.lt_or_ge (i + many) cap with hz | hz
  all_goals
    go_enter Try.func59, Try.ntmps59
    go_wp2_with (first | (at_builtin; refine wpList_app _ rfl (.tmp 13) (.tmp 14) 23 rfl w.heap.size 3 i0 _ 1 8 Try.underlying23 hi0 hz0 hz1 hz2 rfl (by decide) i fn (intC (l.take i)) (intC f) (.inr ⟨HA.out, _, rfl⟩) hfC.out (intC_one _) (by unfold maxLen; omega) (by omega) (Nat.le_refl _) ?_; intro v3 w3 row3 q1 q2 q3 q4; have hg3 : Grows w w3 := appended_grows (Grows.refl w) q2 (fun k e => (q3 k e).1)) | (at_builtin; refine wpList_app _ rfl (.tmp 16) (.tmp 21) 23 rfl w.heap.size 3 i0 _ 1 8 Try.underlying23 hi0 hz0 hz1 hz2 rfl (by decide) (i + fn) (l.length - (i + many)) _ (intC (l.drop (i + many))) q1 ((HB.out _ _ (by first | exact .inl rfl | exact .inr (by omega) | exact .inl (by simp; omega)) (by omega)).grows hg3) (intC_one _) (by unfold maxLen; omega) (by omega) hg3.size ?_; intro v4 w4 row4 r1 r2 r3 r4; have hg4 : Grows w w4 := appended_grows hg3 r2 (fun k e => (r3 k e).1)))
  all_goals
    go_ret
    refine ⟨_, rfl, ints_of_cells (n := i + fn + (l.length - (i + many))) ?_ ?_ ?_ ?_, hg4⟩
    · simp only [withL, List.length_append, List.length_take, List.length_drop, HFN.out]
      omega
    · have := r1.cells
      rwa [intC_append, intC_append] at this
    · intro b' e _
      rcases r4 with r | ⟨x, g1, -, g3⟩
      · rcases q4 with q | ⟨x, g1, -, g3⟩
        · have e2 : some b = some b' := (q.symm.trans (r.symm.trans e))
          cases e2
          exact hs
        · have e2 := (g3.symm.trans (r.symm.trans e))
          cases e2
          exact hS _ g1
      · have e2 := (g3.symm.trans e)
        cases e2
        exact hS _ (Nat.le_trans hg3.size g1)
    · simp only [withL, List.length_append, List.length_take, List.length_drop, HFN.out]
      omega
theorem take_key {α : Type} {l : List α} {n i : Nat} {x : α} (hi : (l.take n)[i]? = some x) : l[i]? = some x := by
  by_cases hin : i < n
  · rwa [List.getElem?_take_of_lt hin] at hi
  · rw [List.getElem?_eq_none (by rw [List.length_take]; omega)] at hi
    cases hi
set_option maxRecDepth 100000 in
set_option maxHeartbeats 4000000 in
theorem with_kids {S : Nat → Prop} (l f : List Lay) (i many : Nat) (vl vf : Value) (w : World) (hS : ∀ b, w.heap.size ≤ b → S b) (hl : l ≠ []) (hi : i + many ≤ l.length) (hln : l.length ≤ 2000) (hfn2 : f.length ≤ 2000) (h : KidsAt S w vl l) (hf : KidsAt S w vf f) :
    Calls Try.prog 65 #[vl, .int .i64 i, .int .i64 many, vf] w (fun e w' => ∃ v, e = .returned v ∧ KidsAt S w' v (withL l i many f) ∧ Grows w w') := by
  obtain ⟨i0, hi0, hz0, hz1, hz2⟩ := info_parts info25
  obtain ⟨a, cap, G, rfl, hcap, hmx, hin⟩ := h.open_ rfl
  obtain ⟨b, off, rfl, hb, hs, -⟩ := hin.head hl
  obtain ⟨fn, hfn⟩ : ∃ z, f.length = z := ⟨_, rfl⟩
  obtain ⟨fa, fc, F, rfl, hfc, hfm, hfi⟩ := hf.open_ hfn
  have h1 : CellsAt 4 w (.slice (some ⟨b, off, none⟩) i i) i (kidC (l.take i) G) := by
    have := ((hin.take_ i).shut (n := i) (c := i) (by rw [List.length_take]; omega) (Nat.le_refl _) (by omega)).cells
    rwa [List.length_take, Nat.min_eq_left (by omega)] at this
  have h2 : ∀ a' c, (a' = some ⟨b, off + (i + many) * 4, none⟩ ∨ l.length = i + many) → l.length - (i + many) ≤ c → CellsAt 4 w (.slice a' (l.length - (i + many)) c) (l.length - (i + many)) (kidC (l.drop (i + many)) (fun j => G (i + many + j))) := by
    intro a' c ha hc
    rcases ha with rfl | ha
    case inr =>
      rw [List.drop_of_length_le (by omega), ha, Nat.sub_self]
      exact ⟨rfl, _, _, rfl, Nat.zero_le _, fun h => absurd rfl h⟩
    have := ((hin.drop_ (i + many)).shut (n := l.length - (i + many)) (c := c) (by rw [List.length_drop]) hc (by omega)).cells
    rwa [List.length_drop] at this
  have hfc0 := (hfi.shut hfn hfc hfm).cells
  rw [hfn] at hfc0 hfn2
  have hfC := Lib.hid hfc0
  have HFN := Lib.hid hfn
  have HA := Lib.hid h1
  have HB := Lib.hid h2
  have HO1 := Lib.hid (kidC_one hfi.kids)
  have HO2 := Lib.hid (kidC_one (hin.drop_ (i + many)).kids)
  have HLY := Lib.hid fun W (g : Grows w W) => join_lay (join_lay (fun j x hj => (hin.kids j x (take_key (n := i) hj)).grows g) (fun j x hj => (hfi.kids j x hj).grows g)) (fun j x hj => ((hin.drop_ (i + many)).kids j x hj).grows g)
  clear h hf h1 h2 hin hfn hfc0 hfi
  rcases Nat.lt_or_ge (i + many) cap with hz | hz
  all_goals
    go_enter Try.func65, Try.ntmps65
    go_wp2_with (first | (at_builtin; refine wpList_app _ rfl (.tmp 13) (.tmp 14) 22 rfl w.heap.size 25 i0 _ 4 64 Try.underlying22 hi0 hz0 hz1 hz2 rfl (by decide) i fn (kidC (l.take i) G) (kidC f F) (.inr ⟨HA.out, _, rfl⟩) hfC.out HO1.out (by unfold maxLen; omega) (by omega) (Nat.le_refl _) ?_; intro v3 w3 row3 q1 q2 q3 q4; have hg3 : Grows w w3 := appended_grows (Grows.refl w) q2 (fun k e => (q3 k e).1)) | (at_builtin; refine wpList_app _ rfl (.tmp 16) (.tmp 21) 22 rfl w.heap.size 25 i0 _ 4 64 Try.underlying22 hi0 hz0 hz1 hz2 rfl (by decide) (i + fn) (l.length - (i + many)) _ (kidC (l.drop (i + many)) (fun j => G (i + many + j))) q1 ((HB.out _ _ (by first | exact .inl rfl | exact .inr (by omega) | exact .inl (by simp; omega)) (by omega)).grows hg3) HO2.out (by unfold maxLen; omega) (by omega) hg3.size ?_; intro v4 w4 row4 r1 r2 r3 r4; have hg4 : Grows w w4 := appended_grows hg3 r2 (fun k e => (r3 k e).1)))
  all_goals
    go_ret
    refine ⟨_, rfl, ⟨_, kids_of_cells (n := i + fn + (l.length - (i + many))) (G := joinG (l.take i ++ f).length (joinG (l.take i).length G F) (fun j => G (i + many + j))) ?_ ?_ ?_ ?_ (HLY.out _ hg4)⟩, hg4⟩
    · simp only [withL, List.length_append, List.length_take, List.length_drop, HFN.out]
      omega
    · have := r1.cells
      rwa [kidC_append, kidC_append] at this
    · intro b' e _
      rcases r4 with r | ⟨x, g1, -, g3⟩
      · rcases q4 with q | ⟨x, g1, -, g3⟩
        · have e2 : some b = some b' := (q.symm.trans (r.symm.trans e))
          cases e2
          exact hs
        · have e2 := (g3.symm.trans (r.symm.trans e))
          cases e2
          exact hS _ g1
      · have e2 := (g3.symm.trans e)
        cases e2
        exact hS _ (Nat.le_trans hg3.size g1)
    · simp only [withL, List.length_append, List.length_take, List.length_drop, HFN.out]
      omega
theorem with_intsJ {S : Nat → Prop} (l f : List Int) (i many : Nat) (ji jm : Int) (e1 : ji = i) (e2 : jm = many) (vl vf : Value) (w : World) (hS : ∀ b, w.heap.size ≤ b → S b) (hl : l ≠ []) (hi : i + many ≤ l.length) (hln : l.length ≤ 2000) (hfn2 : f.length ≤ 2000) (h : IntsAt S w vl l) (hf : IntsAt S w vf f) :
    Calls Try.prog 59 #[vl, .int .i64 ji, .int .i64 jm, vf] w (fun e w' => ∃ v, e = .returned v ∧ IntsAt S w' v (withL l i many f) ∧ Grows w w') := by
  subst e1 e2
  exact with_ints l f i many vl vf w hS hl hi hln hfn2 h hf
theorem with_kidsJ {S : Nat → Prop} (l f : List Lay) (i many : Nat) (ji jm : Int) (e1 : ji = i) (e2 : jm = many) (vl vf : Value) (w : World) (hS : ∀ b, w.heap.size ≤ b → S b) (hl : l ≠ []) (hi : i + many ≤ l.length) (hln : l.length ≤ 2000) (hfn2 : f.length ≤ 2000) (h : KidsAt S w vl l) (hf : KidsAt S w vf f) :
    Calls Try.prog 65 #[vl, .int .i64 ji, .int .i64 jm, vf] w (fun e w' => ∃ v, e = .returned v ∧ KidsAt S w' v (withL l i many f) ∧ Grows w w') := by
  subst e1 e2
  exact with_kids l f i many vl vf w hS hl hi hln hfn2 h hf
end Go.Proofs.Ytbobpgegkmcapaa

namespace Go.Proofs.Ytbobpgegkmcapaa
open Go.RowKit

/-- What an edit returns. -/
def EdRes (S : Nat → Prop) (w w' : World) (q : Lay × Bool) (e : Ending) : Prop := ∃ vk vw, e = .returned (.tuple #[.agg #[.int .i64 q.1.kind, .int .i64 q.1.pane, vk, vw], .bool q.2]) ∧ LayAt S w' q.1 vk vw ∧ Grows w w'
theorem EdRes.open_ {S : Nat → Prop} {w w' : World} {y : Lay} {t : Bool} {e : Ending} (h : EdRes S w w' (y, t) e) : ∃ vk vw, e = .returned (.tuple #[.agg #[.int .i64 y.kind, .int .i64 y.pane, vk, vw], .bool t]) ∧ LayAt S w' y vk vw ∧ Grows w w' := h
/-- The blocks of S but the two next ones. -/
def But (n : Nat) (S : Nat → Prop) (b : Nat) : Prop := S b ∧ (b < n ∨ n + 2 ≤ b)
theorem but_fresh {n m : Nat} {S : Nat → Prop} (h : ∀ b, n ≤ b → S b) (hm : n + 2 ≤ m) : ∀ b, m ≤ b → But n S b := fun b hb => ⟨h b (by omega), .inr (by omega)⟩
theorem LayAt.but {S : Nat → Prop} {w : World} {l : Lay} {vk vw : Value} (h : LayAt S w l vk vw) : LayAt (But w.heap.size S) w l vk vw := h.mono fun _ hb hs => ⟨hs, .inl hb⟩
theorem KidsIn.but {S : Nat → Prop} {w : World} {a : Option Addr} {ks : List Lay} {G : Nat → Value × Value} (h : KidsIn S w a ks G) : KidsIn (But w.heap.size S) w a ks G := by
  refine ⟨fun hne => ?_, fun i x hx => (h.kids i x hx).but⟩
  obtain ⟨b, off, ha, hb, hs, hc⟩ := h.head hne
  exact ⟨b, off, ha, hb, ⟨hs, .inl hb⟩, hc⟩
theorem IntsAt.but {S : Nat → Prop} {w : World} {v : Value} {l : List Int} (h : IntsAt S w v l) : IntsAt (But w.heap.size S) w v l := h.mono fun _ hb hs => ⟨hs, .inl hb⟩
theorem LayAt.unbut {n : Nat} {S : Nat → Prop} {w : World} {l : Lay} {vk vw : Value} (h : LayAt (But n S) w l vk vw) : LayAt S w l vk vw := h.mono fun _ _ hs => hs.1
theorem but_set0 {n : Nat} {S : Nat → Prop} {w : World} {i : Nat} {v : Value} : Same (But n S) w (w.setCell ⟨n, i, none⟩ v) := same_set fun h => by have := h.2; omega
theorem but_set1 {n : Nat} {S : Nat → Prop} {w : World} {i : Nat} {v : Value} : Same (But n S) w (w.setCell ⟨n + 1, i, none⟩ v) := same_set fun h => by have := h.2; omega
theorem kids_one {S : Nat → Prop} {w : World} {l : Lay} {vk vw : Value} {n : Nat} (hn : w.heap.size = n) (hs : S n) (h : LayAt S w l vk vw) : KidsAt S (w.alloc (.cells #[.int .i64 l.kind, .int .i64 l.pane, vk, vw] 25)) (.slice (some ⟨n, 0, none⟩) 1 1) [l] := by
  subst hn
  have hb : Blk (w.alloc (.cells #[.int .i64 l.kind, .int .i64 l.pane, vk, vw] 25)) w.heap.size 25 _ := Blk.new rfl
  obtain ⟨c0, c1, c2, c3⟩ := hb.four
  refine ⟨fun _ => (vk, vw), some ⟨w.heap.size, 0, none⟩, 1, rfl, Nat.le_refl _, Nat.le_trans (show 1 ≤ 2 by decide) (by decide), fun _ => ⟨_, 0, rfl, hb.lt, hs, fun i x hi => ?_⟩, fun i x hi => ?_⟩
  · match i, hi with
    | 0, hi =>
      obtain rfl : l = x := by simpa using hi
      exact ⟨c0, c1, c2, c3⟩
  · match i, hi with
    | 0, hi =>
      obtain rfl : l = x := by simpa using hi
      exact h.grows ((Grows.refl w).alloc _)
theorem Grows.set4 {w0 w : World} (g : Grows w0 w) {n : Nat} (hn : w0.heap.size ≤ n) (a b c d : Value) : Grows w0 ((((w.setCell ⟨n, 0, none⟩ a).setCell ⟨n, 1, none⟩ b).setCell ⟨n, 2, none⟩ c).setCell ⟨n, 3, none⟩ d) := (((g.setCell hn _).setCell hn _).setCell hn _).setCell hn _
theorem Blk.set4 {w : World} {n : Nat} {t : TypeId} {a b c d a' b' c' d' : Value} (h : Blk w n t #[a, b, c, d]) : Blk ((((w.setCell ⟨n, 0, none⟩ a').setCell ⟨n, 1, none⟩ b').setCell ⟨n, 2, none⟩ c').setCell ⟨n, 3, none⟩ d') n t #[a', b', c', d'] := (((h.set 0 _).set 1 _).set 2 _).set 3 _
theorem but_set4 {n : Nat} {S : Nat → Prop} {w : World} (a b c d : Value) : Same (But n S) w ((((w.setCell ⟨n + 1, 0, none⟩ a).setCell ⟨n + 1, 1, none⟩ b).setCell ⟨n + 1, 2, none⟩ c).setCell ⟨n + 1, 3, none⟩ d) := ((but_set1.trans but_set1).trans but_set1).trans but_set1
def EdAt64 (c1 c2 c3 : Value) (S0 : Nat → Prop) (w : World) (ed : Lay → Nat → Lay × Bool) : Prop := ∀ (S : Nat → Prop) (x : Lay) (i : Nat) (vk vw : Value) (W : World), Grows w W → (∀ b, b < w.heap.size → S0 b → S b) → (∀ b, W.heap.size ≤ b → S b) → okTree x = true → (panesL x).length ≤ 1000 → i < x.kids.length → LayAt S W x vk vw → Calls Try.prog 64 #[.agg #[.int .i64 x.kind, .int .i64 x.pane, vk, vw], .int .i64 i, c1, c2, c3] W (fun e w' => EdRes S W w' (ed x i) e)
theorem EdAt64.sub {c1 c2 c3 : Value} {S0 S1 : Nat → Prop} {w w1 : World} {ed : Lay → Nat → Lay × Bool} (h : EdAt64 c1 c2 c3 S0 w ed) (g : Grows w w1) (hs : ∀ b, b < w.heap.size → S0 b → S1 b) : EdAt64 c1 c2 c3 S1 w1 ed := fun S x i vk vw W g1 h1 h2 => h S x i vk vw W (g.trans g1) (fun b hb h0 => h1 b (Nat.lt_of_lt_of_le hb g.size) (hs b hb h0)) h2
def EdAt58 (c1 c2 : Value) (S0 : Nat → Prop) (w : World) (ed : Lay → Nat → Lay × Bool) : Prop := ∀ (S : Nat → Prop) (x : Lay) (i : Nat) (vk vw : Value) (W : World), Grows w W → (∀ b, b < w.heap.size → S0 b → S b) → (∀ b, W.heap.size ≤ b → S b) → okTree x = true → (panesL x).length ≤ 1000 → i < x.kids.length → LayAt S W x vk vw → Calls Try.prog 58 #[.agg #[.int .i64 x.kind, .int .i64 x.pane, vk, vw], .int .i64 i, c1, c2] W (fun e w' => EdRes S W w' (ed x i) e)
theorem EdAt58.sub {c1 c2 : Value} {S0 S1 : Nat → Prop} {w w1 : World} {ed : Lay → Nat → Lay × Bool} (h : EdAt58 c1 c2 S0 w ed) (g : Grows w w1) (hs : ∀ b, b < w.heap.size → S0 b → S1 b) : EdAt58 c1 c2 S1 w1 ed := fun S x i vk vw W g1 h1 h2 => h S x i vk vw W (g.trans g1) (fun b hb h0 => h1 b (Nat.lt_of_lt_of_le hb g.size) (hs b hb h0)) h2
set_option maxRecDepth 100000 in
set_option maxHeartbeats 4000000 in
theorem replace_58 (ed : Lay → Nat → Lay × Bool) (pane : Int) (c1 c2 : Value) (L : Lay) : okTree L = true → (panesL L).length ≤ 1000 → ∀ (S : Nat → Prop) (vk vw : Value) (w : World), (∀ b, w.heap.size ≤ b → S b) → LayAt S w L vk vw → EdAt58 c1 c2 S w ed → Calls Try.prog 57 #[.agg #[.int .i64 L.kind, .int .i64 L.pane, vk, vw], .int .i64 pane, .func (.func 58) #[] #[c1, c2]] w (fun e w' => EdRes S w w' (replL ed pane L) e) := by
  induction L using Lay.ind with | h k p ks ws ih => ?_
  intro hok hn S vk vw w hS h he
  obtain ⟨hv, hkok⟩ := okTree_iff.1 hok
  dsimp only [Lay.kids] at hkok
  have hlen : ∀ x ∈ ks, (panesL x).length ≤ 1000 := by
    intro x hx
    by_cases hk : k = 1
    · have hz : ks = [] := (validN_leaf hv hk).2.2.1
      rw [hz] at hx
      cases hx
    · rw [panesL_mk, if_neg hk] at hn
      have := len_mem hx
      omega
  have hks : ks.length ≤ 1000 := by
    by_cases hk : k = 1
    · have hz : ks = [] := (validN_leaf hv hk).2.2.1
      rw [hz]
      exact Nat.zero_le _
    · rw [panesL_mk, if_neg hk] at hn
      have := len_kids (ks := ks) hkok
      omega
  obtain ⟨a, cap, G, rfl, hcap, hmx, hin⟩ := h.kids.open_ rfl
  obtain ⟨wa, wc, rfl, -, -, hiw⟩ := h.ints.open_ rfl
  dsimp only [Lay.kids, Lay.ws, Lay.kind, Lay.pane] at hcap hmx hin hiw h ⊢
  have Hin := Lib.hid hin.but
  have HH := Lib.hid h.but
  have HK := Lib.hid h.kids
  have HE := Lib.hid he
  have HI := Lib.hid ih
  have HOK := Lib.hid hok
  have HKO := Lib.hid hkok
  have HL := Lib.hid hlen
  have HS := Lib.hid hS
  have HN := Lib.hid hn
  clear ih hok hn hS h he hv hkok hlen hin hiw
  generalize hwn : ws.length = wn at *
  have HWN := Lib.hid hwn
  clear hwn
  go_enter Try.func57, Try.ntmps57
  go_upto_region 1 with fail
  refine abs_worldM (fun W => Grows w W ∧ Blk W w.heap.size 25 #[.int .i64 k, .int .i64 p, .slice a ks.length cap, .slice wa wn wc] ∧ Blk W (w.heap.size + 1) 25 #[.int .i64 0, .int .i64 0, .slice none 0 0, .slice none 0 0]) (boxes2 _ _ _) ?_
  rintro W0 ⟨hg0, hb0, hb1⟩
  obtain ⟨a0, a1, a2, a3⟩ := hb0.four
  have hl0 := hb0.lt
  have hl1 := hb1.lt
  have HB0 := Lib.hid hb0
  have HB1 := Lib.hid hb1
  have HG0 := Lib.hid hg0
  clear hb0 hb1 hg0
  go_wp2_with fail
  go_loopw [15] (fun i wr => ∃ m : Nat, ∃ wv : World, wv = wr ∧ m ≤ ks.length ∧ i = .int .i64 m ∧ (∀ (j : Nat) (y : Lay), j < m → ks[j]? = some y → pane ∉ panesL y) ∧ Grows W0 wv) (fun i _ => ks.length - (intOf i).toNat)
  case atStart => exact ⟨0, _, rfl, Nat.zero_le _, rfl, fun j y hj => by omega, Grows.refl _⟩
  case round =>
    obtain ⟨m, wv, rfl, hm, rfl, hno, hg⟩ := hrel
    have HG := Lib.hid hg
    have HNO := Lib.hid hno
    have hsz := hg.size
    obtain ⟨a0, a1, a2, a3⟩ := (HB0.out.grows hg).four
    obtain ⟨f0, f1, f2, f3⟩ := (HB0.out.grows hg).four'
    obtain ⟨b0, b1, b2, b3⟩ := (HB1.out.grows hg).four
    obtain ⟨d0, d1, d2, d3⟩ := (HB1.out.grows hg).four'
    have hl0 := (HB0.out.grows hg).lt
    have hl1 := (HB1.out.grows hg).lt
    clear hno
    by_cases hlt : m < ks.length
    · obtain ⟨b, off, x, ka, kn, kc, xa, xn, xc, rfl, hb, -, hx, hmem, -, -, e0, e1, e4, e3, hL⟩ := (Hin.out.grows (HG0.out.trans hg)).at_ hlt
      have HX := Lib.hid hx
      have HMEM := Lib.hid hmem
      have HLX := Lib.hid hL
      have HP := Lib.hid fun W (g : Grows wv W) => panes_any x (HKO.out x hmem) (HL.out x hmem) _ _ W (hL.grows g)
      clear hg hx hmem hL
      go_upto_region 4 with fail
      refine abs_worldM (fun W => Grows wv W ∧ Blk W wv.heap.size 25 #[.int .i64 x.kind, .int .i64 x.pane, .slice ka kn kc, .slice xa xn xc]) ⟨(by repeat' (first | (with_reducible exact Grows.refl _) | (with_reducible refine Grows.alloc ?_ _) | (with_reducible refine Grows.drew ?_) | (with_reducible refine Grows.ext ?_ _ _))), Blk.new (by simp)⟩ ?_
      rintro W1 ⟨hg1, hbk⟩
      obtain ⟨k0, k1, k2, k3⟩ := hbk.four
      have hlk := hbk.lt
      have HG1 := Lib.hid hg1
      have HBK := Lib.hid hbk
      have hs1 := hg1.size
      clear hg1 hbk hsz
      by_cases hp : pane ∈ panesL x
      · go_upto_region 5 with (first | (go_at_call 48; (with_reducible refine (HP.out _ (HG1.out.trans (by repeat' (first | (with_reducible exact Grows.refl _) | (with_reducible refine Grows.alloc ?_ _) | (with_reducible refine Grows.drew ?_) | (with_reducible refine Grows.ext ?_ _ _))))).mono ?_); rintro e w2 ⟨v2, rfl, hv2, hg2⟩) | (go_at_call 55; (with_reducible refine (contains_any _ _ _ _ hv2).mono ?_); rintro e w3 ⟨rfl, rfl⟩))
        have hgW : Grows W0 w2 := (HG.out.trans HG1.out).trans hg2
        have hs2 := hg2.size
        have hs0 := HG0.out.size
        obtain ⟨y, t, hq⟩ : ∃ y t, replL ed pane x = (y, t) := ⟨_, _, rfl⟩
        have HC := Lib.hid fun W (g : Grows w2 W) => HI.out x HMEM.out (HKO.out x HMEM.out) (HL.out x HMEM.out) (But w.heap.size S) _ _ W (but_fresh HS.out (by have := g.size; omega)) (HLX.out.grows ((HG1.out.trans hg2).trans g)) (HE.out.sub (HG0.out.trans (hgW.trans g)) (fun b hb h => ⟨h, .inl hb⟩))
        rw [hq] at HC
        have HQ := Lib.hid hq
        obtain ⟨k0, k1, k2, k3⟩ := (HBK.out.grows hg2).four
        have hlk := (HBK.out.grows hg2).lt
        clear hq
        go_upto_region 6 with (go_at_call 57; (with_reducible refine (HC.out _ (by repeat' (first | (with_reducible exact Grows.refl _) | (with_reducible refine Grows.alloc ?_ _) | (with_reducible refine Grows.drew ?_) | (with_reducible refine Grows.ext ?_ _ _)))).mono ?_); rintro e w4 hE; obtain ⟨vk4, vw4, rfl, hl4, hg4⟩ := hE.open_; clear hE; obtain ⟨ka4, kc4, rfl, -⟩ := hl4.kids.shape rfl; obtain ⟨wa4, wc4, rfl, -⟩ := hl4.ints.shape rfl)
        have HL4 := Lib.hid hl4
        have HG4 := Lib.hid hg4
        clear hl4
        refine abs_worldM (fun W => Grows w4 W ∧ Blk W w4.heap.size 25 #[.int .i64 y.kind, .int .i64 y.pane, .slice ka4 y.kids.length kc4, .slice wa4 y.ws.length wc4]) ⟨(by repeat' (first | (with_reducible exact Grows.refl _) | (with_reducible refine Grows.alloc ?_ _) | (with_reducible refine Grows.drew ?_) | (with_reducible refine Grows.ext ?_ _ _))), Blk.new (by simp)⟩ ?_
        rintro W5 ⟨hg5, hb5⟩
        have hgW5 : Grows W0 W5 := (hgW.trans HG4.out).trans hg5
        have hs4 := HG4.out.size
        have hs5 := hg5.size
        have HB5 := Lib.hid (HB0.out.grows hgW5)
        have HB6 := Lib.hid (HB1.out.grows hgW5)
        have HL5 := Lib.hid (HL4.out.grows hg5)
        obtain ⟨a0, a1, a2, a3⟩ := HB5.out.four
        obtain ⟨f0, f1, f2, f3⟩ := HB5.out.four'
        obtain ⟨b0, b1, b2, b3⟩ := HB6.out.four
        obtain ⟨d0, d1, d2, d3⟩ := HB6.out.four'
        have hl0 := HB5.out.lt
        have hl1 := HB6.out.lt
        obtain ⟨m0, m1, m2, m3⟩ := hb5.four
        have hlm := hb5.lt
        have HGW := Lib.hid hgW5
        clear hg5 hb5 hgW hgW5 k0 k1 k2 k3 hg4 hg2 hv2
        generalize y.kids.length = qn at *
        generalize y.ws.length = qw at *
        cases t with
        | true =>
          have HKW := Lib.hid fun W (g : Grows W5 W) vf (hvf : KidsAt (But w.heap.size S) W vf [y]) => with_kidsJ (S := But w.heap.size S) ks [y] m 1 m 1 rfl rfl (.slice (some ⟨b, off, none⟩) ks.length cap) vf W (but_fresh HS.out (by have := g.size; omega)) (by rintro rfl; simp at hlt) (by omega) (by omega) (by simp) ⟨G, (Hin.out.shut rfl hcap hmx).grows (HG0.out.trans (HGW.out.trans g))⟩ hvf
          go_upto_region 8 with (go_at_call 65; (go_must (with_reducible refine (HKW.out _ (by repeat' (first | (with_reducible exact Grows.refl _) | (with_reducible refine Grows.alloc ?_ _) | (with_reducible refine Grows.drew ?_) | (with_reducible refine Grows.ext ?_ _ _))) _ (kids_one rfl (but_fresh (m := w.heap.size + 2) HS.out (Nat.le_refl _) _ (by (try simp); omega)) HL5.out)).mono ?_)); rintro e w7 ⟨v7, rfl, hv7, hg7⟩; obtain ⟨a7, c7, rfl, -⟩ := hv7.shape rfl; have hg57 : Grows W5 w7 := Grows.trans (by repeat' (first | (with_reducible exact Grows.refl _) | (with_reducible refine Grows.alloc ?_ _) | (with_reducible refine Grows.drew ?_) | (with_reducible refine Grows.ext ?_ _ _))) hg7; obtain ⟨a0, a1, a2, a3⟩ := (HB5.out.grows hg57).four; obtain ⟨f0, f1, f2, f3⟩ := (HB5.out.grows hg57).four'; have hl0 := (HB5.out.grows hg57).lt)
          refine abs_worldM (fun W => Grows w W ∧ Blk W w.heap.size 25 #[.int .i64 k, .int .i64 p, .slice a7 (withL ks m 1 [y]).length c7, .slice wa wn wc] ∧ Blk W (w.heap.size + 1) 25 #[.int .i64 0, .int .i64 0, .slice none 0 0, .slice none 0 0] ∧ Same (But w.heap.size S) w7 W) ?_ ?_
          · exact ⟨((HG0.out.trans HGW.out).trans hg57).setCell (Nat.le_refl _) _, (HB5.out.grows hg57).set 2 _, (HB6.out.grows hg57).other (by omega), but_set0⟩
          rintro W8 ⟨hg8, hb8, hb9, hsm⟩
          have hin8 := (HH.out.ints.grows ((HG0.out.trans HGW.out).trans hg57)).same hsm
          have hv8 := hv7.same hsm
          have HB8 := Lib.hid hb8
          have HB9 := Lib.hid hb9
          have HG8 := Lib.hid hg8
          have HV8 := Lib.hid hv8
          have HI8 := Lib.hid hin8
          obtain ⟨a0, a1, a2, a3⟩ := hb8.four
          obtain ⟨b0, b1, b2, b3⟩ := hb9.four
          obtain ⟨d0, d1, d2, d3⟩ := hb9.four'
          have hl0 := hb8.lt
          have hl1 := hb9.lt
          have e2 : replL ed pane (.mk k p ks ws) = (.mk k p (withL ks m 1 [y]) ws, true) := by
            have := repl_in (ed := ed) (k := k) (p := p) (ws := ws) HX.out hp HNO.out (by rw [HQ.out])
            rwa [HQ.out] at this
          have E2 := Lib.hid e2
          clear hg8 hb8 hb9 hsm hin8 hv8 hv7 hg7 hg57 e2
          generalize (withL ks m 1 [y]).length = kl at *
          go_wp2_with fail
          refine ret_cell_tmp (t := 25) (n := w.heap.size + 1) (cs := #[.int .i64 k, .int .i64 p, .slice a7 kl c7, .slice wa wn wc]) rfl rfl rfl ?_ Try.underlying25 rfl (by kernel_rfl) rfl ?_
          · exact HB9.out.set4
          · rw [E2.out]
            exact ⟨_, _, rfl, ((LayAt_mk.2 ⟨HI8.out, HV8.out⟩).same (but_set4 _ _ _ _)).unbut, HG8.out.set4 (by omega) _ _ _ _⟩
        | false =>
          have e2 : replL ed pane (.mk k p ks ws) = ed (.mk k p ks ws) m := repl_at HX.out hp HNO.out (by rw [HQ.out])
          have HED := Lib.hid fun W (g : Grows W5 W) => HE.out (But w.heap.size S) (.mk k p ks ws) m _ _ W (HG0.out.trans (HGW.out.trans g)) (fun b hb h => ⟨h, .inl hb⟩) (but_fresh HS.out (by have := g.size; omega)) HOK.out HN.out hlt (HH.out.grows (HG0.out.trans (HGW.out.trans g)))
          obtain ⟨z, t2, hz⟩ : ∃ y t, ed (.mk k p ks ws) m = (y, t) := ⟨_, _, rfl⟩
          rw [hz] at HED
          dsimp only [Lay.kind, Lay.pane] at HED
          have E2 := Lib.hid (e2.trans hz)
          clear hz e2
          go_wp2_with (go_at_call 58; (go_must (with_reducible refine (HED.out _ (by repeat' (first | (with_reducible exact Grows.refl _) | (with_reducible refine Grows.alloc ?_ _) | (with_reducible refine Grows.drew ?_) | (with_reducible refine Grows.ext ?_ _ _)))).mono ?_)); rintro e w7 hE; obtain ⟨vk7, vw7, rfl, hl7, hg7⟩ := hE.open_; clear hE; obtain ⟨ka7, kc7, rfl, -⟩ := hl7.kids.shape rfl; obtain ⟨wa7, wc7, rfl, -⟩ := hl7.ints.shape rfl; obtain ⟨b0, b1, b2, b3⟩ := (HB6.out.grows hg7).four; obtain ⟨d0, d1, d2, d3⟩ := (HB6.out.grows hg7).four'; have hl1 := (HB6.out.grows hg7).lt)
          refine ret_cell_tmp (t := 25) (n := w.heap.size + 1) (cs := #[.int .i64 z.kind, .int .i64 z.pane, .slice ka7 z.kids.length kc7, .slice wa7 z.ws.length wc7]) rfl rfl rfl ?_ Try.underlying25 rfl (by kernel_rfl) rfl ?_
          · exact (HB6.out.grows hg7).set4
          · rw [E2.out]
            exact ⟨_, _, rfl, (hl7.same (but_set4 _ _ _ _)).unbut, ((HG0.out.trans HGW.out).trans hg7).set4 (by omega) _ _ _ _⟩
      · go_wp2_with (first | (go_at_call 48; (with_reducible refine (HP.out _ (HG1.out.trans (by repeat' (first | (with_reducible exact Grows.refl _) | (with_reducible refine Grows.alloc ?_ _) | (with_reducible refine Grows.drew ?_) | (with_reducible refine Grows.ext ?_ _ _))))).mono ?_); rintro e w2 ⟨v2, rfl, hv2, hg2⟩) | (go_at_call 55; (with_reducible refine (contains_any _ _ _ _ hv2).mono ?_); rintro e w3 ⟨rfl, rfl⟩))
        go_roundw
        case rel =>
          refine ⟨m + 1, _, rfl, by omega, by go_num, fun j y hj hy => ?_, (HG.out.trans HG1.out).trans hg2⟩
          rcases Nat.lt_succ_iff_lt_or_eq.1 hj with hj | rfl
          · exact HNO.out j y hj hy
          · obtain rfl : x = y := Option.some.inj (HX.out.symm.trans hy)
            exact hp
        case measure => simp [intOf]; omega
    · have e : m = ks.length := by omega
      subst e
      clear hg
      go_wp2_with fail
      refine ret_cell_tmp (t := 25) (n := w.heap.size + 1) (cs := #[.int .i64 k, .int .i64 p, .slice a ks.length cap, .slice wa wn wc]) rfl rfl rfl ?_ Try.underlying25 rfl (by kernel_rfl) rfl ?_
      · exact (HB1.out.grows HG.out).set4
      · rw [repl_none fun j y hy => HNO.out j y (List.getElem?_eq_some_iff.1 hy).1 hy]
        exact ⟨_, _, rfl, ((HH.out.grows (HG0.out.trans HG.out)).same (but_set4 _ _ _ _)).unbut, (HG0.out.trans HG.out).set4 (by omega) _ _ _ _⟩
set_option maxRecDepth 100000 in
set_option maxHeartbeats 4000000 in
theorem replace_64 (ed : Lay → Nat → Lay × Bool) (pane : Int) (c1 c2 c3 : Value) (L : Lay) : okTree L = true → (panesL L).length ≤ 1000 → ∀ (S : Nat → Prop) (vk vw : Value) (w : World), (∀ b, w.heap.size ≤ b → S b) → LayAt S w L vk vw → EdAt64 c1 c2 c3 S w ed → Calls Try.prog 57 #[.agg #[.int .i64 L.kind, .int .i64 L.pane, vk, vw], .int .i64 pane, .func (.func 64) #[] #[c1, c2, c3]] w (fun e w' => EdRes S w w' (replL ed pane L) e) := by
  induction L using Lay.ind with | h k p ks ws ih => ?_
  intro hok hn S vk vw w hS h he
  obtain ⟨hv, hkok⟩ := okTree_iff.1 hok
  dsimp only [Lay.kids] at hkok
  have hlen : ∀ x ∈ ks, (panesL x).length ≤ 1000 := by
    intro x hx
    by_cases hk : k = 1
    · have hz : ks = [] := (validN_leaf hv hk).2.2.1
      rw [hz] at hx
      cases hx
    · rw [panesL_mk, if_neg hk] at hn
      have := len_mem hx
      omega
  have hks : ks.length ≤ 1000 := by
    by_cases hk : k = 1
    · have hz : ks = [] := (validN_leaf hv hk).2.2.1
      rw [hz]
      exact Nat.zero_le _
    · rw [panesL_mk, if_neg hk] at hn
      have := len_kids (ks := ks) hkok
      omega
  obtain ⟨a, cap, G, rfl, hcap, hmx, hin⟩ := h.kids.open_ rfl
  obtain ⟨wa, wc, rfl, -, -, hiw⟩ := h.ints.open_ rfl
  dsimp only [Lay.kids, Lay.ws, Lay.kind, Lay.pane] at hcap hmx hin hiw h ⊢
  have Hin := Lib.hid hin.but
  have HH := Lib.hid h.but
  have HK := Lib.hid h.kids
  have HE := Lib.hid he
  have HI := Lib.hid ih
  have HOK := Lib.hid hok
  have HKO := Lib.hid hkok
  have HL := Lib.hid hlen
  have HS := Lib.hid hS
  have HN := Lib.hid hn
  clear ih hok hn hS h he hv hkok hlen hin hiw
  generalize hwn : ws.length = wn at *
  have HWN := Lib.hid hwn
  clear hwn
  go_enter Try.func57, Try.ntmps57
  go_upto_region 1 with fail
  refine abs_worldM (fun W => Grows w W ∧ Blk W w.heap.size 25 #[.int .i64 k, .int .i64 p, .slice a ks.length cap, .slice wa wn wc] ∧ Blk W (w.heap.size + 1) 25 #[.int .i64 0, .int .i64 0, .slice none 0 0, .slice none 0 0]) (boxes2 _ _ _) ?_
  rintro W0 ⟨hg0, hb0, hb1⟩
  obtain ⟨a0, a1, a2, a3⟩ := hb0.four
  have hl0 := hb0.lt
  have hl1 := hb1.lt
  have HB0 := Lib.hid hb0
  have HB1 := Lib.hid hb1
  have HG0 := Lib.hid hg0
  clear hb0 hb1 hg0
  go_wp2_with fail
  go_loopw [15] (fun i wr => ∃ m : Nat, ∃ wv : World, wv = wr ∧ m ≤ ks.length ∧ i = .int .i64 m ∧ (∀ (j : Nat) (y : Lay), j < m → ks[j]? = some y → pane ∉ panesL y) ∧ Grows W0 wv) (fun i _ => ks.length - (intOf i).toNat)
  case atStart => exact ⟨0, _, rfl, Nat.zero_le _, rfl, fun j y hj => by omega, Grows.refl _⟩
  case round =>
    obtain ⟨m, wv, rfl, hm, rfl, hno, hg⟩ := hrel
    have HG := Lib.hid hg
    have HNO := Lib.hid hno
    have hsz := hg.size
    obtain ⟨a0, a1, a2, a3⟩ := (HB0.out.grows hg).four
    obtain ⟨f0, f1, f2, f3⟩ := (HB0.out.grows hg).four'
    obtain ⟨b0, b1, b2, b3⟩ := (HB1.out.grows hg).four
    obtain ⟨d0, d1, d2, d3⟩ := (HB1.out.grows hg).four'
    have hl0 := (HB0.out.grows hg).lt
    have hl1 := (HB1.out.grows hg).lt
    clear hno
    by_cases hlt : m < ks.length
    · obtain ⟨b, off, x, ka, kn, kc, xa, xn, xc, rfl, hb, -, hx, hmem, -, -, e0, e1, e4, e3, hL⟩ := (Hin.out.grows (HG0.out.trans hg)).at_ hlt
      have HX := Lib.hid hx
      have HMEM := Lib.hid hmem
      have HLX := Lib.hid hL
      have HP := Lib.hid fun W (g : Grows wv W) => panes_any x (HKO.out x hmem) (HL.out x hmem) _ _ W (hL.grows g)
      clear hg hx hmem hL
      go_upto_region 4 with fail
      refine abs_worldM (fun W => Grows wv W ∧ Blk W wv.heap.size 25 #[.int .i64 x.kind, .int .i64 x.pane, .slice ka kn kc, .slice xa xn xc]) ⟨(by repeat' (first | (with_reducible exact Grows.refl _) | (with_reducible refine Grows.alloc ?_ _) | (with_reducible refine Grows.drew ?_) | (with_reducible refine Grows.ext ?_ _ _))), Blk.new (by simp)⟩ ?_
      rintro W1 ⟨hg1, hbk⟩
      obtain ⟨k0, k1, k2, k3⟩ := hbk.four
      have hlk := hbk.lt
      have HG1 := Lib.hid hg1
      have HBK := Lib.hid hbk
      have hs1 := hg1.size
      clear hg1 hbk hsz
      by_cases hp : pane ∈ panesL x
      · go_upto_region 5 with (first | (go_at_call 48; (with_reducible refine (HP.out _ (HG1.out.trans (by repeat' (first | (with_reducible exact Grows.refl _) | (with_reducible refine Grows.alloc ?_ _) | (with_reducible refine Grows.drew ?_) | (with_reducible refine Grows.ext ?_ _ _))))).mono ?_); rintro e w2 ⟨v2, rfl, hv2, hg2⟩) | (go_at_call 55; (with_reducible refine (contains_any _ _ _ _ hv2).mono ?_); rintro e w3 ⟨rfl, rfl⟩))
        have hgW : Grows W0 w2 := (HG.out.trans HG1.out).trans hg2
        have hs2 := hg2.size
        have hs0 := HG0.out.size
        obtain ⟨y, t, hq⟩ : ∃ y t, replL ed pane x = (y, t) := ⟨_, _, rfl⟩
        have HC := Lib.hid fun W (g : Grows w2 W) => HI.out x HMEM.out (HKO.out x HMEM.out) (HL.out x HMEM.out) (But w.heap.size S) _ _ W (but_fresh HS.out (by have := g.size; omega)) (HLX.out.grows ((HG1.out.trans hg2).trans g)) (HE.out.sub (HG0.out.trans (hgW.trans g)) (fun b hb h => ⟨h, .inl hb⟩))
        rw [hq] at HC
        have HQ := Lib.hid hq
        obtain ⟨k0, k1, k2, k3⟩ := (HBK.out.grows hg2).four
        have hlk := (HBK.out.grows hg2).lt
        clear hq
        go_upto_region 6 with (go_at_call 57; (with_reducible refine (HC.out _ (by repeat' (first | (with_reducible exact Grows.refl _) | (with_reducible refine Grows.alloc ?_ _) | (with_reducible refine Grows.drew ?_) | (with_reducible refine Grows.ext ?_ _ _)))).mono ?_); rintro e w4 hE; obtain ⟨vk4, vw4, rfl, hl4, hg4⟩ := hE.open_; clear hE; obtain ⟨ka4, kc4, rfl, -⟩ := hl4.kids.shape rfl; obtain ⟨wa4, wc4, rfl, -⟩ := hl4.ints.shape rfl)
        have HL4 := Lib.hid hl4
        have HG4 := Lib.hid hg4
        clear hl4
        refine abs_worldM (fun W => Grows w4 W ∧ Blk W w4.heap.size 25 #[.int .i64 y.kind, .int .i64 y.pane, .slice ka4 y.kids.length kc4, .slice wa4 y.ws.length wc4]) ⟨(by repeat' (first | (with_reducible exact Grows.refl _) | (with_reducible refine Grows.alloc ?_ _) | (with_reducible refine Grows.drew ?_) | (with_reducible refine Grows.ext ?_ _ _))), Blk.new (by simp)⟩ ?_
        rintro W5 ⟨hg5, hb5⟩
        have hgW5 : Grows W0 W5 := (hgW.trans HG4.out).trans hg5
        have hs4 := HG4.out.size
        have hs5 := hg5.size
        have HB5 := Lib.hid (HB0.out.grows hgW5)
        have HB6 := Lib.hid (HB1.out.grows hgW5)
        have HL5 := Lib.hid (HL4.out.grows hg5)
        obtain ⟨a0, a1, a2, a3⟩ := HB5.out.four
        obtain ⟨f0, f1, f2, f3⟩ := HB5.out.four'
        obtain ⟨b0, b1, b2, b3⟩ := HB6.out.four
        obtain ⟨d0, d1, d2, d3⟩ := HB6.out.four'
        have hl0 := HB5.out.lt
        have hl1 := HB6.out.lt
        obtain ⟨m0, m1, m2, m3⟩ := hb5.four
        have hlm := hb5.lt
        have HGW := Lib.hid hgW5
        clear hg5 hb5 hgW hgW5 k0 k1 k2 k3 hg4 hg2 hv2
        generalize y.kids.length = qn at *
        generalize y.ws.length = qw at *
        cases t with
        | true =>
          have HKW := Lib.hid fun W (g : Grows W5 W) vf (hvf : KidsAt (But w.heap.size S) W vf [y]) => with_kidsJ (S := But w.heap.size S) ks [y] m 1 m 1 rfl rfl (.slice (some ⟨b, off, none⟩) ks.length cap) vf W (but_fresh HS.out (by have := g.size; omega)) (by rintro rfl; simp at hlt) (by omega) (by omega) (by simp) ⟨G, (Hin.out.shut rfl hcap hmx).grows (HG0.out.trans (HGW.out.trans g))⟩ hvf
          go_upto_region 8 with (go_at_call 65; (go_must (with_reducible refine (HKW.out _ (by repeat' (first | (with_reducible exact Grows.refl _) | (with_reducible refine Grows.alloc ?_ _) | (with_reducible refine Grows.drew ?_) | (with_reducible refine Grows.ext ?_ _ _))) _ (kids_one rfl (but_fresh (m := w.heap.size + 2) HS.out (Nat.le_refl _) _ (by (try simp); omega)) HL5.out)).mono ?_)); rintro e w7 ⟨v7, rfl, hv7, hg7⟩; obtain ⟨a7, c7, rfl, -⟩ := hv7.shape rfl; have hg57 : Grows W5 w7 := Grows.trans (by repeat' (first | (with_reducible exact Grows.refl _) | (with_reducible refine Grows.alloc ?_ _) | (with_reducible refine Grows.drew ?_) | (with_reducible refine Grows.ext ?_ _ _))) hg7; obtain ⟨a0, a1, a2, a3⟩ := (HB5.out.grows hg57).four; obtain ⟨f0, f1, f2, f3⟩ := (HB5.out.grows hg57).four'; have hl0 := (HB5.out.grows hg57).lt)
          refine abs_worldM (fun W => Grows w W ∧ Blk W w.heap.size 25 #[.int .i64 k, .int .i64 p, .slice a7 (withL ks m 1 [y]).length c7, .slice wa wn wc] ∧ Blk W (w.heap.size + 1) 25 #[.int .i64 0, .int .i64 0, .slice none 0 0, .slice none 0 0] ∧ Same (But w.heap.size S) w7 W) ?_ ?_
          · exact ⟨((HG0.out.trans HGW.out).trans hg57).setCell (Nat.le_refl _) _, (HB5.out.grows hg57).set 2 _, (HB6.out.grows hg57).other (by omega), but_set0⟩
          rintro W8 ⟨hg8, hb8, hb9, hsm⟩
          have hin8 := (HH.out.ints.grows ((HG0.out.trans HGW.out).trans hg57)).same hsm
          have hv8 := hv7.same hsm
          have HB8 := Lib.hid hb8
          have HB9 := Lib.hid hb9
          have HG8 := Lib.hid hg8
          have HV8 := Lib.hid hv8
          have HI8 := Lib.hid hin8
          obtain ⟨a0, a1, a2, a3⟩ := hb8.four
          obtain ⟨b0, b1, b2, b3⟩ := hb9.four
          obtain ⟨d0, d1, d2, d3⟩ := hb9.four'
          have hl0 := hb8.lt
          have hl1 := hb9.lt
          have e2 : replL ed pane (.mk k p ks ws) = (.mk k p (withL ks m 1 [y]) ws, true) := by
            have := repl_in (ed := ed) (k := k) (p := p) (ws := ws) HX.out hp HNO.out (by rw [HQ.out])
            rwa [HQ.out] at this
          have E2 := Lib.hid e2
          clear hg8 hb8 hb9 hsm hin8 hv8 hv7 hg7 hg57 e2
          generalize (withL ks m 1 [y]).length = kl at *
          go_wp2_with fail
          refine ret_cell_tmp (t := 25) (n := w.heap.size + 1) (cs := #[.int .i64 k, .int .i64 p, .slice a7 kl c7, .slice wa wn wc]) rfl rfl rfl ?_ Try.underlying25 rfl (by kernel_rfl) rfl ?_
          · exact HB9.out.set4
          · rw [E2.out]
            exact ⟨_, _, rfl, ((LayAt_mk.2 ⟨HI8.out, HV8.out⟩).same (but_set4 _ _ _ _)).unbut, HG8.out.set4 (by omega) _ _ _ _⟩
        | false =>
          have e2 : replL ed pane (.mk k p ks ws) = ed (.mk k p ks ws) m := repl_at HX.out hp HNO.out (by rw [HQ.out])
          have HED := Lib.hid fun W (g : Grows W5 W) => HE.out (But w.heap.size S) (.mk k p ks ws) m _ _ W (HG0.out.trans (HGW.out.trans g)) (fun b hb h => ⟨h, .inl hb⟩) (but_fresh HS.out (by have := g.size; omega)) HOK.out HN.out hlt (HH.out.grows (HG0.out.trans (HGW.out.trans g)))
          obtain ⟨z, t2, hz⟩ : ∃ y t, ed (.mk k p ks ws) m = (y, t) := ⟨_, _, rfl⟩
          rw [hz] at HED
          dsimp only [Lay.kind, Lay.pane] at HED
          have E2 := Lib.hid (e2.trans hz)
          clear hz e2
          go_wp2_with (go_at_call 64; (go_must (with_reducible refine (HED.out _ (by repeat' (first | (with_reducible exact Grows.refl _) | (with_reducible refine Grows.alloc ?_ _) | (with_reducible refine Grows.drew ?_) | (with_reducible refine Grows.ext ?_ _ _)))).mono ?_)); rintro e w7 hE; obtain ⟨vk7, vw7, rfl, hl7, hg7⟩ := hE.open_; clear hE; obtain ⟨ka7, kc7, rfl, -⟩ := hl7.kids.shape rfl; obtain ⟨wa7, wc7, rfl, -⟩ := hl7.ints.shape rfl; obtain ⟨b0, b1, b2, b3⟩ := (HB6.out.grows hg7).four; obtain ⟨d0, d1, d2, d3⟩ := (HB6.out.grows hg7).four'; have hl1 := (HB6.out.grows hg7).lt)
          refine ret_cell_tmp (t := 25) (n := w.heap.size + 1) (cs := #[.int .i64 z.kind, .int .i64 z.pane, .slice ka7 z.kids.length kc7, .slice wa7 z.ws.length wc7]) rfl rfl rfl ?_ Try.underlying25 rfl (by kernel_rfl) rfl ?_
          · exact (HB6.out.grows hg7).set4
          · rw [E2.out]
            exact ⟨_, _, rfl, (hl7.same (but_set4 _ _ _ _)).unbut, ((HG0.out.trans HGW.out).trans hg7).set4 (by omega) _ _ _ _⟩
      · go_wp2_with (first | (go_at_call 48; (with_reducible refine (HP.out _ (HG1.out.trans (by repeat' (first | (with_reducible exact Grows.refl _) | (with_reducible refine Grows.alloc ?_ _) | (with_reducible refine Grows.drew ?_) | (with_reducible refine Grows.ext ?_ _ _))))).mono ?_); rintro e w2 ⟨v2, rfl, hv2, hg2⟩) | (go_at_call 55; (with_reducible refine (contains_any _ _ _ _ hv2).mono ?_); rintro e w3 ⟨rfl, rfl⟩))
        go_roundw
        case rel =>
          refine ⟨m + 1, _, rfl, by omega, by go_num, fun j y hj hy => ?_, (HG.out.trans HG1.out).trans hg2⟩
          rcases Nat.lt_succ_iff_lt_or_eq.1 hj with hj | rfl
          · exact HNO.out j y hj hy
          · obtain rfl : x = y := Option.some.inj (HX.out.symm.trans hy)
            exact hp
        case measure => simp [intOf]; omega
    · have e : m = ks.length := by omega
      subst e
      clear hg
      go_wp2_with fail
      refine ret_cell_tmp (t := 25) (n := w.heap.size + 1) (cs := #[.int .i64 k, .int .i64 p, .slice a ks.length cap, .slice wa wn wc]) rfl rfl rfl ?_ Try.underlying25 rfl (by kernel_rfl) rfl ?_
      · exact (HB1.out.grows HG.out).set4
      · rw [repl_none fun j y hy => HNO.out j y (List.getElem?_eq_some_iff.1 hy).1 hy]
        exact ⟨_, _, rfl, ((HH.out.grows (HG0.out.trans HG.out)).same (but_set4 _ _ _ _)).unbut, (HG0.out.trans HG.out).set4 (by omega) _ _ _ _⟩
end Go.Proofs.Ytbobpgegkmcapaa

