/-
  Two rows of the call's own: several layouts at once; a cell beside them written. The reference's add. No program in sight. Layouts: the reference's Split, Close and Resize, as functions. No program in sight. Layouts: the reference's Split answers as the program's. No program in sight. Layouts: the reference's Close and Resize answer as the program's. No program in sight. Two rows of the call's own: one of their elements written. No program in sight. Walks: the reference's leaf and add. Walks: the reference's Even. Walks: the reference's Swap.
-/
import Derived.Test.YtbobpgegkmcapaaE1
import Derived.Test.YtbobpgegkmcapaaE17
import Derived.OneCell
import Derived.Test.YtbobpgegkmcapaaE8
import Derived.Laws.OwnMore
import Derived.Test.YtbobpgegkmcapaaRows
import Derived.Test.YtbobpgegkmcapaaE2
import Derived.Test.YtbobpgegkmcapaaE3
import Derived.Test.YtbobpgegkmcapaaE5
import Derived.Test.YtbobpgegkmcapaaE9
import Derived.Test.YtbobpgegkmcapaaE10
import Derived.WalkKit
import Derived.WalkSpells
import Derived.WalkLawsBesides
import Derived.Handy
import Derived.Laws.Rows
import Derived.Great.BuildSlice
import Derived.Deep.Heap
import Derived.IntWalk
import Derived.Lib.Hide
import Derived.Outline
import Derived.Deep.Light
import Derived.Deep.LoopGhost
import Derived.BigGuardPart
import Derived.BigQuiet
import Derived.Deep.QuietTactic
import Derived.Deep.RegionHeld3
import Derived.Deep.DeepCutAuto
import Derived.Deep.CutBlock
import Derived.OwnWalk
import Derived.Maps.AppendAt
namespace Go.Proofs.Ytbobpgegkmcapaa
open Go.RowKit
/-- The reference's add. -/
def addL (l x : Lay) (g : Int) : Lay := if x.kind = l.kind then .mk l.kind l.pane (l.kids ++ x.kids) (l.ws ++ x.ws) else .mk l.kind l.pane (l.kids ++ [x]) (l.ws ++ [g])
theorem addL_same {k p k' p' g : Int} {ks ks' : List Lay} {ws ws' : List Int} (h : k' = k) : addL (.mk k p ks ws) (.mk k' p' ks' ws') g = .mk k p (ks ++ ks') (ws ++ ws') := by
  have e : (Lay.mk k' p' ks' ws').kind = (Lay.mk k p ks ws).kind := h
  rw [addL, if_pos e]
  rfl
theorem addL_other {k p k' p' g : Int} {ks ks' : List Lay} {ws ws' : List Int} (h : ¬ k' = k) : addL (.mk k p ks ws) (.mk k' p' ks' ws') g = .mk k p (ks ++ [.mk k' p' ks' ws']) (ws ++ [g]) := by
  have e : ¬ (Lay.mk k' p' ks' ws').kind = (Lay.mk k p ks ws).kind := h
  rw [addL, if_neg e]
  rfl
/-- All blocks of S but three. -/
def But3 (n : Nat) (S : Nat → Prop) (b : Nat) : Prop := S b ∧ (b < n ∨ n + 3 ≤ b)
theorem but3_fresh {n m : Nat} {S : Nat → Prop} (h : ∀ b, n ≤ b → S b) (hm : n + 3 ≤ m) : ∀ b, m ≤ b → But3 n S b := fun b hb => ⟨h b (by omega), .inr (by omega)⟩
theorem LayAt.but3 {S : Nat → Prop} {w : World} {l : Lay} {vk vw : Value} (h : LayAt S w l vk vw) : LayAt (But3 w.heap.size S) w l vk vw := h.mono fun _ hb hs => ⟨hs, .inl hb⟩
theorem IntsAt.but3 {S : Nat → Prop} {w : World} {n : Nat} {v : Value} {l : List Int} (h : IntsAt (fun b => S b ∧ b < n) w v l) : IntsAt (But3 n S) w v l := h.mono fun _ _ hb => ⟨hb.1, .inl hb.2⟩
theorem LayAt.unbut3 {n : Nat} {S : Nat → Prop} {w : World} {l : Lay} {vk vw : Value} (h : LayAt (But3 n S) w l vk vw) : LayAt S w l vk vw := h.mono fun _ _ hs => hs.1
theorem but3_not {n k : Nat} {S : Nat → Prop} (hk : n ≤ k ∧ k < n + 3) : ¬ But3 n S k := fun h => by have := h.2; omega
theorem but3_set {n k i : Nat} {S : Nat → Prop} {w : World} {v : Value} (hk : n ≤ k ∧ k < n + 3) : Same (But3 n S) w (w.setCell ⟨k, i, none⟩ v) := same_set (but3_not hk)
theorem but3_set4 {n m : Nat} {S : Nat → Prop} {w : World} (hk : n ≤ m ∧ m < n + 3) (a b c d : Value) : Same (But3 n S) w ((((w.setCell ⟨m, 0, none⟩ a).setCell ⟨m, 1, none⟩ b).setCell ⟨m, 2, none⟩ c).setCell ⟨m, 3, none⟩ d) := (((but3_set hk).trans (but3_set hk)).trans (but3_set hk)).trans (but3_set hk)
theorem cells_kid {w : World} {b : Nat} {x : Lay} {vk vw : Value} {t : TypeId} (hb : w.heap.size = b) : CellsAt 4 (w.alloc (.cells #[.int .i64 x.kind, .int .i64 x.pane, vk, vw] t)) (.slice (some ⟨b, 0, none⟩) 1 1) 1 (kidC [x] (fun _ => (vk, vw))) := by
  rw [kidC_single]
  exact cells_new4 hb
section
variable {S : Nat → Prop} {B : Nat} {w w' : World} {v3 v4 v' : Value} {ks : List Lay} {ws : List Int} {G : Nat → Value × Value} {row : Option Nat}
theorem KRow.addKs {xs : List Lay} {G' : Nat → Value × Value} {n : Nat} (h : KRow S B w v3 v4 ks ws G) (hx : ∀ i x, xs[i]? = some x → LayAt (Off S v3 v4) w x (G' i).1 (G' i).2) (hn : n = ks.length + xs.length) (q1 : w'.ownsRow B 25 4 v' n (kidC ks G ++ kidC xs G')) (q2 : w.grownBy w' row) (q3 : ∀ k, row = some k → B ≤ k ∧ k < w.heap.size ∧ v3.ownBlock = some k) (q4 : v'.ownBlock = v3.ownBlock ∨ ∃ k, w.heap.size ≤ k ∧ k < w'.heap.size ∧ v'.ownBlock = some k) :
    KRow S B w' v' v4 (ks ++ xs) ws (joinG ks.length G G') := by
  subst hn
  refine ⟨?_, fun i y hy => ?_, own_beside h.i q2 (fun k e => (q3 k e).2.2) h.a, apart_after (fun b e => (h.i.lt b e).2) h.a q4⟩
  · rw [kidC_append] at q1
    rw [List.length_append]
    exact q1
  · exact lay_off (join_lay h.l hx i y hy) q2 (fun k e => .inl (q3 k e).2.2) (q4.imp id fun ⟨k, g1, _, g3⟩ => ⟨k, g1, g3⟩) (.inl rfl)
theorem KRow.addWs {ys : List Int} {n : Nat} (h : KRow S B w v3 v4 ks ws G) (hn : n = ws.length + ys.length) (q1 : w'.ownsRow B 3 1 v' n (intC ws ++ intC ys)) (q2 : w.grownBy w' row) (q3 : ∀ k, row = some k → B ≤ k ∧ k < w.heap.size ∧ v4.ownBlock = some k) (q4 : v'.ownBlock = v4.ownBlock ∨ ∃ k, w.heap.size ≤ k ∧ k < w'.heap.size ∧ v'.ownBlock = some k) :
    KRow S B w' v3 v' ks (ws ++ ys) G := by
  subst hn
  refine ⟨own_beside h.k q2 (fun k e => (q3 k e).2.2) h.a.symm, fun i x hx => ?_, ?_, (apart_after (fun b e => (h.k.lt b e).2) h.a.symm q4).symm⟩
  · exact lay_off (h.l i x hx) q2 (fun k e => .inr (q3 k e).2.2) (.inl rfl) (q4.imp id fun ⟨k, g1, _, g3⟩ => ⟨k, g1, g3⟩)
  · rw [intC_append] at q1
    rw [List.length_append]
    exact q1
/-- A cell beside the rows is written. -/
theorem KRow.set {n i : Nat} {x : Value} (h : KRow S B w v3 v4 ks ws G) (hn : n < B) (hs : ¬ S n) : KRow S B (w.setCell ⟨n, i, none⟩ x) v3 v4 ks ws G :=
  ⟨ownsRow_setCell_other h.k (a := ⟨n, i, none⟩) (fun e => by have := (h.k.lt n e).1; omega) x, fun j y hy => (h.l j y hy).same (same_set fun hb => hs hb.1), ownsRow_setCell_other h.i (a := ⟨n, i, none⟩) (fun e => by have := (h.i.lt n e).1; omega) x, h.a⟩
/-- Older layouts are none of the rows'. -/
theorem KRow.olds {n0 : Nat} {a : Option Addr} {xs : List Lay} {G' : Nat → Value × Value} {T : Nat → Prop} (h : KRow (But3 n0 T) B w v3 v4 ks ws G) (hB : n0 ≤ B) (hin : KidsIn (fun b => T b ∧ b < n0) w a xs G') : ∀ i x, xs[i]? = some x → LayAt (Off (But3 n0 T) v3 v4) w x (G' i).1 (G' i).2 :=
  fun i x hx => (hin.kids i x hx).mono fun b _ hb => h.old b (by have := hb.2; omega) ⟨hb.1, .inl hb.2⟩
theorem KRow.rowK {n : Nat} {a : Option Addr} {c : Nat} (h : KRow S B w (.slice a n c) v4 ks ws G) : w.ownsRow B 25 4 (.slice a n c) ks.length (kidC ks G) := h.k
theorem KRow.rowW {n : Nat} {a : Option Addr} {c : Nat} (h : KRow S B w v3 (.slice a n c) ks ws G) : w.ownsRow B 3 1 (.slice a n c) ws.length (intC ws) := h.i
theorem KRow.lay_old {n0 : Nat} {T : Nat → Prop} {x : Lay} {vk vw : Value} (h : KRow (But3 n0 T) B w v3 v4 ks ws G) (hB : n0 ≤ B) (hx : LayAt (fun b => T b ∧ b < n0) w x vk vw) : LayAt (Off (But3 n0 T) v3 v4) w x vk vw :=
  hx.mono fun b _ hb => h.old b (by have := hb.2; omega) ⟨hb.1, .inl hb.2⟩
end
end Go.Proofs.Ytbobpgegkmcapaa

namespace Go.Proofs.Ytbobpgegkmcapaa
/-- One round of the reference's Split. -/
def stepS (pane kind fresh k : Int) (out x r : Lay) (g : Int) : Lay := if x.kind = 1 ∧ x.pane = pane ∧ k = kind then addL (addL out x g) (leafL fresh) g else addL out r g
def rsplitL (pane kind fresh : Int) : Lay → Lay := Lay.fold fun k p ks ws rs =>
  if k = 1 then (if p = pane then pairL kind pane fresh else .mk k p ks ws)
  else (ks.zip (rs.zip ws)).foldl (fun out q => stepS pane kind fresh k out q.1 q.2.1 q.2.2) (.mk k 0 [] [])
theorem fold_zip {α : Type} (f : Lay → Lay) (g : α → Lay → Lay → Int → α) : ∀ (ks : List Lay) (ws : List Int) (out : α), (ks.zip ((ks.map f).zip ws)).foldl (fun out q => g out q.1 q.2.1 q.2.2) out = (ks.zip ws).foldl (fun out q => g out q.1 (f q.1) q.2) out
  | [], _, _ => rfl
  | _ :: _, [], _ => rfl
  | x :: ks, y :: ws, out => by
    rw [List.map_cons, List.zip_cons_cons, List.zip_cons_cons, List.zip_cons_cons, List.foldl_cons, List.foldl_cons]
    exact fold_zip f g ks ws _
/-- The rounds of the reference's Split. -/
def outS (pane kind fresh k : Int) (l : List (Lay × Int)) : Lay := l.foldl (fun out q => stepS pane kind fresh k out q.1 (rsplitL pane kind fresh q.1) q.2) (.mk k 0 [] [])
theorem rsplitL_mk (pane kind fresh k p : Int) (ks : List Lay) (ws : List Int) : rsplitL pane kind fresh (.mk k p ks ws) = if k = 1 then (if p = pane then pairL kind pane fresh else .mk k p ks ws) else outS pane kind fresh k (ks.zip ws) := by
  rw [rsplitL, Lay.fold_mk]
  by_cases hk : k = 1
  · rw [if_pos hk, if_pos hk]
  · rw [if_neg hk, if_neg hk, outS]
    exact fold_zip (rsplitL pane kind fresh) (fun out x r g => stepS pane kind fresh k out x r g) ks ws _
theorem outS_snoc (pane kind fresh k : Int) (l : List (Lay × Int)) (q : Lay × Int) : outS pane kind fresh k (l ++ [q]) = stepS pane kind fresh k (outS pane kind fresh k l) q.1 (rsplitL pane kind fresh q.1) q.2 := by
  rw [outS, List.foldl_append]
  rfl
theorem zip_at {ks : List Lay} {ws : List Int} {m : Nat} {x : Lay} {y : Int} (hx : ks[m]? = some x) (hy : ws[m]? = some y) : (ks.zip ws)[m]? = some (x, y) := by
  rw [List.getElem?_zip_eq_some]
  exact ⟨hx, hy⟩
/-- The reference's Close. -/
def stepC (pane : Int) (out x r : Lay) (g : Int) : Lay := if x.kind = 1 ∧ x.pane = pane then out else addL out r g
def lastC (l : Lay) : Lay := if l.kids.length = 1 then (l.kids[0]?).getD l else l
def rdropL (pane : Int) : Lay → Lay := Lay.fold fun k p ks ws rs =>
  if k = 1 then .mk k p ks ws else lastC ((ks.zip (rs.zip ws)).foldl (fun out q => stepC pane out q.1 q.2.1 q.2.2) (.mk k 0 [] []))
def outC (pane k : Int) (l : List (Lay × Int)) : Lay := l.foldl (fun out q => stepC pane out q.1 (rdropL pane q.1) q.2) (.mk k 0 [] [])
theorem rdropL_mk (pane k p : Int) (ks : List Lay) (ws : List Int) : rdropL pane (.mk k p ks ws) = if k = 1 then .mk k p ks ws else lastC (outC pane k (ks.zip ws)) := by
  rw [rdropL, Lay.fold_mk]
  by_cases hk : k = 1
  · rw [if_pos hk, if_pos hk]
  · rw [if_neg hk, if_neg hk, outC]
    exact congrArg lastC (fold_zip (rdropL pane) (fun out x r g => stepC pane out x r g) ks ws _)
theorem outC_snoc (pane k : Int) (l : List (Lay × Int)) (q : Lay × Int) : outC pane k (l ++ [q]) = stepC pane (outC pane k l) q.1 (rdropL pane q.1) q.2 := by
  rw [outC, List.foldl_append]
  rfl
/-- The reference's edit of Resize: the weight's turn is held in ±2000. -/
def resizeE2 (kind delta : Int) (l : Lay) (i : Nat) : Lay × Bool :=
  if l.kind ≠ kind then (l, false)
  else (.mk l.kind l.pane l.kids (withL l.ws i 1 [min (max ((l.ws[i]?).getD 0 + min (max delta (-2000)) 2000) 1) 1000]), true)
/-- How many children, and weights, a layout has at most. -/
def Wid (l : Lay) (n : Nat) : Prop := l.kids.length ≤ n ∧ l.ws.length ≤ n
theorem wid_add {l x : Lay} {g : Int} {n m : Nat} (h : Wid l n) (hx : Wid x m) (hm : 1 ≤ m) : Wid (addL l x g) (n + m) := by
  obtain ⟨h1, h2⟩ := h
  obtain ⟨h3, h4⟩ := hx
  by_cases hk : x.kind = l.kind
  · rw [addL, if_pos hk]
    exact ⟨by show (l.kids ++ x.kids).length ≤ _; rw [List.length_append]; omega, by show (l.ws ++ x.ws).length ≤ _; rw [List.length_append]; omega⟩
  · rw [addL, if_neg hk]
    exact ⟨by show (l.kids ++ [x]).length ≤ _; rw [List.length_append, List.length_singleton]; omega, by show (l.ws ++ [g]).length ≤ _; rw [List.length_append, List.length_singleton]; omega⟩
theorem wid_le {l : Lay} {n m : Nat} (h : Wid l n) (hm : n ≤ m) : Wid l m := ⟨by have := h.1; omega, by have := h.2; omega⟩
theorem wid_leaf (p : Int) : Wid (leafL p) 0 := ⟨Nat.le_refl _, Nat.le_refl _⟩
theorem wid_ok {l : Lay} (hok : okTree l = true) : Wid l (panesL l).length := by
  obtain ⟨k, p, ks, ws⟩ := l
  obtain ⟨hv, hkok⟩ := okTree_iff.1 hok
  dsimp only [Lay.kids] at hkok
  by_cases hk : k = 1
  · obtain ⟨-, -, h3, h4⟩ := validN_leaf hv hk
    subst h3 h4
    exact ⟨Nat.zero_le _, Nat.zero_le _⟩
  · obtain ⟨-, -, h2, hwl, -, -⟩ := split_facts hok hk
    rw [panesL_mk, if_neg hk]
    have := len_kids (ks := ks) hkok
    exact ⟨this, by show ws.length ≤ _; omega⟩
/-- How many panes the first of the children have. -/
def pansN (l : List (Lay × Int)) : Nat := ((l.map fun q => panesL q.1).flatten).length
theorem pansN_snoc (l : List (Lay × Int)) (q : Lay × Int) : pansN (l ++ [q]) = pansN l + (panesL q.1).length := by simp [pansN]
theorem wid_split (pane kind fresh : Int) (L : Lay) : okTree L = true → Wid (rsplitL pane kind fresh L) (2 * (panesL L).length) := by
  induction L using Lay.ind with | h k p ks ws ih => ?_
  intro hok
  obtain ⟨hv, hkok⟩ := okTree_iff.1 hok
  dsimp only [Lay.kids] at hkok
  rw [rsplitL_mk]
  by_cases hk : k = 1
  · rw [if_pos hk]
    by_cases hp : p = pane
    · rw [if_pos hp, panesL_mk, if_pos hk]
      exact ⟨Nat.le_refl _, Nat.le_refl _⟩
    · rw [if_neg hp]
      exact wid_le (wid_ok hok) (by omega)
  · rw [if_neg hk, panesL_mk, if_neg hk]
    have hwl := (split_facts hok hk).2.2.2.1
    have key : ∀ m, m ≤ ks.length → Wid (outS pane kind fresh k ((ks.zip ws).take m)) (2 * ((ks.take m).map panesL).flatten.length) := by
      intro m
      induction m with
      | zero => intro _; exact ⟨Nat.zero_le _, Nat.zero_le _⟩
      | succ m ihm =>
        intro hm
        have hx : ks[m]? = some ks[m] := List.getElem?_eq_getElem (by omega)
        have hy : ws[m]? = some ws[m] := List.getElem?_eq_getElem (by omega)
        have hmem := List.mem_of_getElem? hx
        have hpos := panes_pos ks[m] (hkok _ hmem)
        have h1 := ihm (by omega)
        rw [take_snoc (zip_at hx hy), outS_snoc, take_snoc hx, List.map_append, List.flatten_append, List.length_append, Nat.mul_add]
        rw [show ([ks[m]].map panesL).flatten.length = (panesL ks[m]).length by simp]
        unfold stepS
        split
        · next hc =>
          refine wid_le (wid_add (m := 1) (wid_add (m := 1) h1 ?_ (Nat.le_refl _)) (wid_le (wid_leaf _) (by omega)) (Nat.le_refl _)) (by omega)
          have := leaf_of (hkok _ hmem) hc.1
          dsimp only
          rw [this]
          exact wid_le (wid_leaf _) (by omega)
        · exact wid_add h1 (ih _ hmem (hkok _ hmem)) (by omega)
    have := key ks.length (Nat.le_refl _)
    rw [List.take_of_length_le (by rw [List.length_zip]; omega), List.take_length] at this
    exact this
theorem wid_outS (pane kind fresh : Int) {k p : Int} {ks : List Lay} {ws : List Int} (hok : okTree (.mk k p ks ws) = true) (hk : ¬ k = 1) : ∀ m, m ≤ ks.length → Wid (outS pane kind fresh k ((ks.zip ws).take m)) (2 * ((ks.take m).map panesL).flatten.length) := by
  obtain ⟨-, -, -, hwl, -, -, hkok⟩ := split_facts hok hk
  intro m
  induction m with
  | zero => intro _; exact ⟨Nat.zero_le _, Nat.zero_le _⟩
  | succ m ihm =>
    intro hm
    have hx : ks[m]? = some ks[m] := List.getElem?_eq_getElem (by omega)
    have hy : ws[m]? = some ws[m] := List.getElem?_eq_getElem (by omega)
    have hmem := List.mem_of_getElem? hx
    have hpos := panes_pos ks[m] (hkok _ hmem)
    have h1 := ihm (by omega)
    rw [take_snoc (zip_at hx hy), outS_snoc, take_snoc hx, List.map_append, List.flatten_append, List.length_append, Nat.mul_add]
    rw [show ([ks[m]].map panesL).flatten.length = (panesL ks[m]).length by simp]
    unfold stepS
    split
    · next hc =>
      refine wid_le (wid_add (m := 1) (wid_add (m := 1) h1 ?_ (Nat.le_refl _)) (wid_le (wid_leaf _) (by omega)) (Nat.le_refl _)) (by omega)
      have := leaf_of (hkok _ hmem) hc.1
      dsimp only
      rw [this]
      exact wid_le (wid_leaf _) (by omega)
    · exact wid_add h1 (wid_split pane kind fresh _ (hkok _ hmem)) (by omega)
theorem take_panes (ks : List Lay) (m : Nat) : ((ks.take m).map panesL).flatten.length ≤ (ks.map panesL).flatten.length := by
  have := congrArg (fun l : List Lay => (l.map panesL).flatten.length) (List.take_append_drop m ks)
  simp only [List.map_append, List.flatten_append, List.length_append] at this
  omega
end Go.Proofs.Ytbobpgegkmcapaa

namespace Go.Proofs.Ytbobpgegkmcapaa
theorem addL_app {k p g : Int} {a : List Lay} {b : List Int} {x : Lay} (h : x.kind ≠ k) : addL (.mk k p a b) x g = .mk k p (a ++ [x]) (b ++ [g]) := by
  have e : ¬ x.kind = (Lay.mk k p a b).kind := h
  rw [addL, if_neg e]
  rfl
theorem addL_in {k p g : Int} {a : List Lay} {b : List Int} {x : Lay} (h : x.kind = k) : addL (.mk k p a b) x g = .mk k p (a ++ x.kids) (b ++ x.ws) := by
  have e : x.kind = (Lay.mk k p a b).kind := h
  rw [addL, if_pos e]
  rfl
theorem fold_keep {k p : Int} {step : Lay → Lay × Int → Lay} : ∀ (l : List (Lay × Int)) (a : List Lay) (b : List Int), (∀ q ∈ l, ∀ out, step out q = addL out q.1 q.2) → (∀ q ∈ l, q.1.kind ≠ k) → l.foldl step (.mk k p a b) = .mk k p (a ++ l.map Prod.fst) (b ++ l.map Prod.snd)
  | [], a, b, _, _ => by simp
  | q :: l, a, b, h, hk => by
    rw [List.foldl_cons, h q List.mem_cons_self, addL_app (hk q List.mem_cons_self), fold_keep l _ _ (fun r hr => h r (List.mem_cons_of_mem _ hr)) (fun r hr => hk r (List.mem_cons_of_mem _ hr))]
    simp
theorem zip_fst {A : List Lay} {B : List Int} (h : B.length = A.length) : (A.zip B).map Prod.fst = A := List.map_fst_zip (by omega)
theorem zip_snd {A : List Lay} {B : List Int} (h : B.length = A.length) : (A.zip B).map Prod.snd = B := List.map_snd_zip (by omega)
theorem zip_mem {A : List Lay} {B : List Int} {q : Lay × Int} (h : q ∈ A.zip B) : q.1 ∈ A := (List.of_mem_zip (a := q.1) (b := q.2) h).1
theorem split_at {A B : List Lay} {x : Lay} {ws : List Int} (hl : ws.length = (A ++ x :: B).length) : ∃ WA y WB, ws = WA ++ y :: WB ∧ WA.length = A.length ∧ WB.length = B.length ∧ (A ++ x :: B).zip ws = A.zip WA ++ (x, y) :: B.zip WB := by
  have hi : A.length < ws.length := by rw [hl]; simp
  obtain ⟨WA, WB, h1, h2⟩ := cut_ex (List.getElem?_eq_getElem hi)
  refine ⟨WA, _, WB, h1, h2, ?_, ?_⟩
  · rw [h1] at hl
    simp at hl
    omega
  · conv => lhs; rw [h1]
    rw [List.zip_append h2.symm]
    rfl
theorem stepS_other {pane kind fresh k g : Int} {out x r : Lay} (h : ¬ (x.kind = 1 ∧ x.pane = pane ∧ k = kind)) : stepS pane kind fresh k out x r g = addL out r g := by rw [stepS, if_neg h]
theorem leaf_in {x : Lay} (hok : okTree x = true) (h : x.kind = 1) : x.pane ∈ panesL x := by
  have := leaf_of hok h
  rw [this, leaf_panes]
  exact List.mem_singleton.2 rfl
theorem stepS_keep {pane kind fresh k g : Int} {out x r : Lay} (hok : okTree x = true) (hn : pane ∉ panesL x) : stepS pane kind fresh k out x r g = addL out r g := stepS_other (fun h => hn (h.2.1 ▸ leaf_in hok h.1))
theorem rsplit_no {pane kind fresh : Int} (L : Lay) : okTree L = true → pane ∉ panesL L → rsplitL pane kind fresh L = L := by
  induction L using Lay.ind with | h k p ks ws ih => ?_
  intro hok hp
  rw [rsplitL_mk]
  by_cases hk : k = 1
  · rw [if_pos hk]
    rw [panesL_mk, if_pos hk] at hp
    rw [if_neg (fun e => hp (by rw [e]; exact List.mem_singleton.2 rfl))]
  · rw [if_neg hk]
    obtain ⟨-, hp0, -, hwl, hkk, -, hkok⟩ := split_facts hok hk
    rw [panesL_mk, if_neg hk] at hp
    have hn := not_mem_kids.1 hp
    rw [outS, fold_keep _ _ _ (fun q hq out => ?_) (fun q hq => hkk _ (zip_mem hq)), zip_fst hwl, zip_snd hwl, List.nil_append, List.nil_append, hp0]
    have hm := zip_mem hq
    try dsimp only
    rw [stepS_keep (hkok _ hm) (hn _ hm), ih _ hm (hkok _ hm) (hn _ hm)]
theorem keepS {pane kind fresh k : Int} {A : List Lay} {W : List Int} (hok : ∀ x ∈ A, okTree x = true) (hn : ∀ x ∈ A, pane ∉ panesL x) (hk : ∀ x ∈ A, x.kind ≠ k) (hl : W.length = A.length) (a : List Lay) (b : List Int) :
    (A.zip W).foldl (fun out q => stepS pane kind fresh k out q.1 (rsplitL pane kind fresh q.1) q.2) (.mk k 0 a b) = .mk k 0 (a ++ A) (b ++ W) := by
  rw [fold_keep _ _ _ (fun q hq out => ?_) (fun q hq => hk _ (zip_mem hq)), zip_fst hl, zip_snd hl]
  have hm := zip_mem hq
  try dsimp only
  rw [stepS_keep (hok _ hm) (hn _ hm), rsplit_no _ (hok _ hm) (hn _ hm)]
theorem rsplit_eq {pane kind fresh : Int} (L : Lay) : okTree L = true → ¬ L.kind = 1 → pane ∈ panesL L → (panesL L).Nodup →
    (rsplitL pane kind fresh L, true) = replL (splitE kind fresh pane) pane L ∧ (rsplitL pane kind fresh L).kind = L.kind := by
  induction L using Lay.ind with | h k p ks ws ih => ?_
  intro hok hkind hp hnd
  have hk : ¬ k = 1 := hkind
  obtain ⟨-, hp0, -, hwl, hkk, -, hkok⟩ := split_facts hok hk
  subst hp0
  rw [panesL_mk, if_neg hk] at hp hnd
  obtain ⟨A, x, B, rfl, hpx, hA⟩ := hold_cut hp
  obtain ⟨-, hB, hx⟩ := hold_out hnd hpx
  have hB := not_mem_kids.1 hB
  obtain ⟨WA, y, WB, rfl, hwa, hwb, hz⟩ := split_at hwl
  have hmx : x ∈ A ++ x :: B := by simp
  have hmA : ∀ z ∈ A, z ∈ A ++ x :: B := fun z hz => by simp [hz]
  have hmB : ∀ z ∈ B, z ∈ A ++ x :: B := fun z hz => by simp [hz]
  have hkx := hkk x hmx
  have hkB : ∀ z ∈ B, z.kind ≠ k := fun z hz => hkk z (hmB z hz)
  rw [rsplitL_mk, if_neg hk, outS, hz, List.foldl_append, keepS (fun z h => hkok z (hmA z h)) hA (fun z h => hkk z (hmA z h)) hwa, List.foldl_cons]
  dsimp only
  rw [List.nil_append, List.nil_append]
  by_cases h1 : x.kind = 1
  · obtain ⟨q, rfl⟩ : ∃ q, x = leafL q := ⟨_, leaf_of (hkok x hmx) h1⟩
    rw [leaf_panes, List.mem_singleton] at hpx
    subst hpx
    have hf : (replL (splitE kind fresh pane) pane (leafL pane)).2 = false := by
      rw [leafL, repl_none (fun j y h => by simp at h)]
    rw [repl_at' (by rw [leaf_panes]; exact List.mem_singleton.2 rfl) hA hf]
    by_cases h2 : k = kind
    · subst h2
      rw [splitE_same (y := y) (by rw [← hwa]; simp), with_cut0, ← hwa, with_cut0, stepS, if_pos ⟨rfl, rfl, rfl⟩, addL_app hkx, addL_app (show (leafL fresh).kind ≠ k from fun e => hk e.symm), keepS (fun z h => hkok z (hmB z h)) hB hkB hwb]
      simp [Lay.kind]
    · rw [splitE_other h2, with_cut1, stepS_other (fun h => h2 h.2.2), show rsplitL pane kind fresh (leafL pane) = pairL kind pane fresh by rw [leafL, rsplitL_mk, if_pos rfl, if_pos rfl], addL_app (show (pairL kind pane fresh).kind ≠ k from fun e => h2 e.symm), keepS (fun z h => hkok z (hmB z h)) hB hkB hwb]
      simp [Lay.kind, pairL]
  · obtain ⟨e1, e2⟩ := ih x hmx (hkok x hmx) h1 hpx hx
    have e3 : (replL (splitE kind fresh pane) pane x).2 = true := by rw [← e1]
    have e4 : (replL (splitE kind fresh pane) pane x).1 = rsplitL pane kind fresh x := by rw [← e1]
    rw [repl_in' hpx hA e3, e4, stepS_other (fun h => h1 h.1), addL_app (by rw [e2]; exact hkx), keepS (fun z h => hkok z (hmB z h)) hB hkB hwb]
    simp [Lay.kind]
/-- The reference's Split of a right tree is the program's. -/
theorem rsplit_split {pane kind fresh : Int} {L : Lay} (hok : okTree L = true) (hp : pane ∈ panesL L) (hnd : (panesL L).Nodup) : rsplitL pane kind fresh L = splitR pane kind fresh L := by
  by_cases h1 : L.kind = 1
  · obtain ⟨q, rfl⟩ : ∃ q, L = leafL q := ⟨_, leaf_of hok h1⟩
    rw [leaf_panes, List.mem_singleton] at hp
    subst hp
    have hf : (replL (splitE kind fresh pane) pane (leafL pane)).2 = false := by
      rw [leafL, repl_none (fun j y h => by simp at h)]
    rw [splitR, if_neg (by rw [hf]; decide), leafL, rsplitL_mk, if_pos rfl, if_pos rfl]
  · obtain ⟨e1, -⟩ := rsplit_eq (kind := kind) (fresh := fresh) L hok h1 hp hnd
    rw [splitR, ← e1, if_pos rfl]
end Go.Proofs.Ytbobpgegkmcapaa

namespace Go.Proofs.Ytbobpgegkmcapaa
theorem stepC_keep {pane g : Int} {out x r : Lay} (hok : okTree x = true) (hn : pane ∉ panesL x) : stepC pane out x r g = addL out r g := by
  have e : ¬ (x.kind = 1 ∧ x.pane = pane) := fun h => hn (h.2 ▸ leaf_in hok h.1)
  rw [stepC, if_neg e]
theorem lastC_two {l : Lay} (h : 2 ≤ l.kids.length) : lastC l = l := by rw [lastC, if_neg (by omega)]
theorem rdrop_no {pane : Int} (L : Lay) : okTree L = true → pane ∉ panesL L → rdropL pane L = L := by
  induction L using Lay.ind with | h k p ks ws ih => ?_
  intro hok hp
  rw [rdropL_mk]
  by_cases hk : k = 1
  · rw [if_pos hk]
  · rw [if_neg hk]
    obtain ⟨-, hp0, h2, hwl, hkk, -, hkok⟩ := split_facts hok hk
    rw [panesL_mk, if_neg hk] at hp
    have hn := not_mem_kids.1 hp
    rw [outC, fold_keep _ _ _ (fun q hq out => ?_) (fun q hq => hkk _ (zip_mem hq)), zip_fst hwl, zip_snd hwl, List.nil_append, List.nil_append, hp0]
    · exact lastC_two h2
    · have hm := zip_mem hq
      rw [stepC_keep (hkok _ hm) (hn _ hm), ih _ hm (hkok _ hm) (hn _ hm)]
theorem keepC {pane k : Int} {A : List Lay} {W : List Int} (hok : ∀ x ∈ A, okTree x = true) (hn : ∀ x ∈ A, pane ∉ panesL x) (hk : ∀ x ∈ A, x.kind ≠ k) (hl : W.length = A.length) (a : List Lay) (b : List Int) :
    (A.zip W).foldl (fun out q => stepC pane out q.1 (rdropL pane q.1) q.2) (.mk k 0 a b) = .mk k 0 (a ++ A) (b ++ W) := by
  rw [fold_keep _ _ _ (fun q hq out => ?_) (fun q hq => hk _ (zip_mem hq)), zip_fst hl, zip_snd hl]
  have hm := zip_mem hq
  rw [stepC_keep (hok _ hm) (hn _ hm), rdrop_no _ (hok _ hm) (hn _ hm)]
theorem joinS_no {k : Int} {i : Nat} {q : List Lay × List Int} (h : ∀ x, q.1[i]? = some x → x.kind ≠ k) : joinS k i q = q := by
  unfold joinS
  cases e : q.1[i]? with
  | none => rfl
  | some x => exact if_neg (h x e)
theorem joinU_no {k : Int} {q : List Lay × List Int} : ∀ (n i : Nat), (∀ j x, i ≤ j → q.1[j]? = some x → x.kind ≠ k) → joinU k n i q = q
  | 0, _, _ => rfl
  | n + 1, i, h => by
    rw [joinU]
    split
    · rw [joinS_no (h i · (Nat.le_refl _)), joinU_no n (i + 1) (fun j x hj => h j x (by omega))]
    · rfl
theorem joinU_skip {k : Int} {q : List Lay × List Int} : ∀ (m n : Nat), m ≤ q.1.length → (∀ j x, j < m → q.1[j]? = some x → x.kind ≠ k) → joinU k (n + m) 0 q = joinU k n m q
  | 0, _, _, _ => rfl
  | m + 1, n, hm, h => by
    rw [show n + (m + 1) = (n + 1) + m by omega, joinU_skip m (n + 1) (by omega) (fun j x hj => h j x (by omega)), joinU, if_pos (by omega), joinS_no (h m · (by omega))]
theorem join_no {k p : Int} {ks : List Lay} {ws : List Int} (h : ∀ x ∈ ks, x.kind ≠ k) : joinL (.mk k p ks ws) = lastC (.mk k p ks ws) := by
  rw [joinL_of (joinU_no _ _ fun j x _ hx => h x (List.mem_of_getElem? hx))]
  rfl
theorem join_mid {k p : Int} {A B : List Lay} {y : Lay} {WA WB : List Int} {g : Int} (hl : WA.length = A.length) (hA : ∀ x ∈ A, x.kind ≠ k) (hB : ∀ x ∈ B, x.kind ≠ k) (hy : ∀ x ∈ y.kids, x.kind ≠ k) (hk : y.kind = k) (hn : A.length ≤ (((A ++ y :: B).map panesL).flatten).length) : joinL (.mk k p (A ++ y :: B) (WA ++ g :: WB)) = lastC (.mk k p (A ++ y.kids ++ B) (WA ++ y.ws ++ WB)) := by
  obtain ⟨n, hne⟩ : ∃ n, (((A ++ y :: B).map panesL).flatten).length + 1 = (n + 1) + A.length := ⟨(((A ++ y :: B).map panesL).flatten).length - A.length, by omega⟩
  have hj : joinU k ((((A ++ y :: B).map panesL).flatten).length + 1) 0 (A ++ y :: B, WA ++ g :: WB) = (A ++ y.kids ++ B, WA ++ y.ws ++ WB) := by
    rw [hne, joinU_skip A.length (n + 1) (by simp) (fun j x hj hx => hA x (by
      dsimp only at hx
      rw [List.getElem?_append_left hj] at hx
      exact List.mem_of_getElem? hx)), joinU, if_pos (by simp)]
    have e : joinS k A.length (A ++ y :: B, WA ++ g :: WB) = (A ++ y.kids ++ B, WA ++ y.ws ++ WB) := by
      unfold joinS
      simp only [show (A ++ y :: B)[A.length]? = some y by simp]
      rw [if_pos hk, with_cut1, ← hl, with_cut1]
    rw [e]
    refine joinU_no _ _ fun j x hj hx => ?_
    dsimp only at hx
    have hm := List.mem_of_getElem? hx
    rw [List.append_assoc, List.getElem?_append_right (by omega)] at hx
    have := List.mem_of_getElem? hx
    rcases List.mem_append.1 this with h | h
    · exact hy x h
    · exact hB x h
  rw [joinL_of hj]
  rfl
theorem rdrop_eq {pane : Int} (L : Lay) : okTree L = true → ¬ L.kind = 1 → pane ∈ panesL L → (panesL L).Nodup → (panesL L).length ≤ 1000 → rdropL pane L = dropL pane L := by
  induction L using Lay.ind with | h k p ks ws ih => ?_
  intro hok hkind hp hnd hP
  have hk : ¬ k = 1 := hkind
  obtain ⟨-, hp0, -, hwl, hkk, -, hkok⟩ := split_facts hok hk
  subst hp0
  rw [panesL_mk, if_neg hk] at hp hnd hP
  obtain ⟨A, x, B, rfl, hpx, hA⟩ := hold_cut hp
  obtain ⟨-, hB, hx⟩ := hold_out hnd hpx
  have hB := not_mem_kids.1 hB
  obtain ⟨WA, y, WB, rfl, hwa, hwb, hz⟩ := split_at hwl
  have hmx : x ∈ A ++ x :: B := by simp
  have hmA : ∀ z ∈ A, z ∈ A ++ x :: B := fun z hz => by simp [hz]
  have hmB : ∀ z ∈ B, z ∈ A ++ x :: B := fun z hz => by simp [hz]
  have hkA : ∀ z ∈ A, z.kind ≠ k := fun z hz => hkk z (hmA z hz)
  have hkB : ∀ z ∈ B, z.kind ≠ k := fun z hz => hkk z (hmB z hz)
  have hhold : holdI pane (A ++ x :: B) = some A.length := holdI_some (i := A.length) (x := x) (by simp) hpx (fun j y hj hy => hA y (by rw [List.getElem?_append_left hj] at hy; exact List.mem_of_getElem? hy))
  rw [rdropL_mk, if_neg hk, outC, hz, List.foldl_append, keepC (fun z h => hkok z (hmA z h)) hA hkA hwa, List.foldl_cons, dropL_mk, hhold]
  simp only [show (A ++ x :: B)[A.length]? = some x by simp]
  rw [List.nil_append, List.nil_append]
  by_cases h1 : x.kind = 1
  · obtain ⟨q, rfl⟩ : ∃ q, x = leafL q := ⟨_, leaf_of (hkok x hmx) h1⟩
    rw [leaf_panes, List.mem_singleton] at hpx
    subst hpx
    rw [if_pos h1, with_cut1, ← hwa, with_cut1, stepC, if_pos ⟨rfl, rfl⟩, keepC (fun z h => hkok z (hmB z h)) hB hkB hwb, List.append_nil, List.append_nil]
    rw [join_no fun z hz => (List.mem_append.1 hz).elim (hkA z) (hkB z)]
  · have hxo := hkok x hmx
    have hxl : (panesL x).length ≤ 1000 := by
      rw [flat_cut] at hP
      simp only [List.length_append] at hP
      omega
    obtain ⟨hd1, hd2⟩ := drop_tree x hxo h1 hpx hxl
    have e := ih x hmx hxo h1 hpx hx hxl
    rw [if_neg h1, with_cut1, e, stepC, if_neg (fun h => h1 h.1)]
    obtain ⟨d, hd⟩ : ∃ d, dropL pane x = d := ⟨_, rfl⟩
    rw [hd] at hd1 ⊢
    by_cases hdk : d.kind = k
    · have hdk1 : ¬ d.kind = 1 := fun h => hk (hdk ▸ h)
      have hdkk : ∀ z ∈ d.kids, z.kind ≠ k := by
        have := (validN_split (okTree_iff.1 hd1).1 hdk1).2.2.2.2.1
        rwa [hdk] at this
      have hle : A.length ≤ (((A ++ d :: B).map panesL).flatten).length := by
        have := len_kids (ks := A) (fun z h => hkok z (hmA z h))
        rw [flat_cut, List.length_append]
        omega
      rw [addL_in hdk, keepC (fun z h => hkok z (hmB z h)) hB hkB hwb]
      rw [show A ++ [d] ++ B = A ++ d :: B by simp, join_mid hwa hkA hkB hdkk hdk hle]
    · rw [addL_app hdk, keepC (fun z h => hkok z (hmB z h)) hB hkB hwb]
      rw [join_no fun z hz => ?_]
      · simp
      · simp only [List.mem_append, List.mem_singleton] at hz
        rcases hz with (hz | rfl) | hz
        · exact hkA z hz
        · exact hdk
        · exact hkB z hz
theorem rdrop_ok {pane : Int} {x : Lay} (hok : okTree x = true) (hx1 : ¬ (x.kind = 1 ∧ x.pane = pane)) (hnd : (panesL x).Nodup) (hP : (panesL x).length ≤ 1000) : okTree (rdropL pane x) = true ∧ (panesL (rdropL pane x)).length ≤ (panesL x).length := by
  by_cases hp : pane ∈ panesL x
  · by_cases h1 : x.kind = 1
    · have := leaf_of hok h1
      rw [this, leaf_panes, List.mem_singleton] at hp
      exact absurd ⟨h1, hp.symm⟩ hx1
    · rw [rdrop_eq x hok h1 hp hnd hP]
      obtain ⟨h2, h3⟩ := drop_tree x hok h1 hp hP
      rw [h3]
      exact ⟨h2, List.length_erase_le⟩
  · rw [rdrop_no x hok hp]
    exact ⟨hok, Nat.le_refl _⟩
theorem wid_outC (pane : Int) {k p : Int} {ks : List Lay} {ws : List Int} (hok : okTree (.mk k p ks ws) = true) (hk : ¬ k = 1) (hnd : ((ks.map panesL).flatten).Nodup) (hP : ((ks.map panesL).flatten).length ≤ 1000) : ∀ m, m ≤ ks.length → Wid (outC pane k ((ks.zip ws).take m)) ((ks.take m).map panesL).flatten.length := by
  obtain ⟨-, -, -, hwl, -, -, hkok⟩ := split_facts hok hk
  intro m
  induction m with
  | zero => intro _; exact ⟨Nat.zero_le _, Nat.zero_le _⟩
  | succ m ihm =>
    intro hm
    have hx : ks[m]? = some ks[m] := List.getElem?_eq_getElem (by omega)
    have hy : ws[m]? = some ws[m] := List.getElem?_eq_getElem (by omega)
    have hmem := List.mem_of_getElem? hx
    have hpos := panes_pos ks[m] (hkok _ hmem)
    have h1 := ihm (by omega)
    have hle := len_mem hmem
    have hnx : (panesL ks[m]).Nodup := by
      obtain ⟨A, B, h2, -⟩ := cut_ex hx
      rw [h2, flat_cut] at hnd
      exact (List.nodup_append.1 (List.nodup_append.1 hnd).2.1).1
    rw [take_snoc (zip_at hx hy), outC_snoc, take_snoc hx, List.map_append, List.flatten_append, List.length_append]
    rw [show ([ks[m]].map panesL).flatten.length = (panesL ks[m]).length by simp]
    unfold stepC
    split
    · exact wid_le h1 (by omega)
    · next hc =>
      obtain ⟨h2, h3⟩ := rdrop_ok (hkok _ hmem) hc hnx (by omega)
      exact wid_add h1 (wid_le (wid_ok h2) h3) hpos
/-- The weight's turn may be held in ±1000 or ±2000. -/
theorem clamp_same {y d : Int} (hy : 1 ≤ y ∧ y ≤ 1000) : min (max (y + min (max d (-2000)) 2000) 1) 1000 = min (max (y + min (max d (-1000)) 1000) 1) 1000 := by omega
theorem resize_same (kind delta pane : Int) (L : Lay) : okTree L = true → replL (resizeE2 kind delta) pane L = replL (resizeE kind delta) pane L := by
  induction L using Lay.ind with | h k p ks ws ih => ?_
  intro hok
  by_cases hk : k = 1
  · obtain ⟨-, -, h3, h4⟩ := validN_leaf (okTree_iff.1 hok).1 hk
    have h3 : ks = [] := h3
    subst h3
    rw [repl_none (fun j y h => by simp at h), repl_none (fun j y h => by simp at h)]
  · obtain ⟨-, -, -, hwl, -, hwr, hkok⟩ := split_facts hok hk
    rw [replL_mk, replL_mk]
    cases e : holdI pane ks with
    | none => rfl
    | some i =>
      have hi : i < ks.length := by
        rw [holdI, List.findIdx?_eq_some_iff_getElem] at e
        exact e.1
      have hx : ks[i]? = some ks[i] := List.getElem?_eq_getElem hi
      have hy : ws[i]? = some ws[i] := List.getElem?_eq_getElem (by omega)
      have he : resizeE2 kind delta (.mk k p ks ws) i = resizeE kind delta (.mk k p ks ws) i := by
        unfold resizeE2 resizeE
        by_cases h : k = kind
        · have h' : ¬ (Lay.mk k p ks ws).kind ≠ kind := fun g => g h
          rw [if_neg h', if_neg h']
          show (Lay.mk k p ks (withL ws i 1 [min (max ((ws[i]?).getD 0 + min (max delta (-2000)) 2000) 1) 1000]), true) = (Lay.mk k p ks (withL ws i 1 [min (max ((ws[i]?).getD 0 + min (max delta (-1000)) 1000) 1) 1000]), true)
          rw [hy]
          dsimp only [Option.getD_some]
          rw [clamp_same (hwr _ (List.mem_of_getElem? hy))]
        · have h' : (Lay.mk k p ks ws).kind ≠ kind := h
          rw [if_pos h', if_pos h']
      simp only [hx, Option.map_some]
      rw [ih _ (List.mem_of_getElem? hx) (hkok _ (List.mem_of_getElem? hx)), he]
end Go.Proofs.Ytbobpgegkmcapaa

namespace Go.Proofs.Ytbobpgegkmcapaa
open Go.RowKit
theorem with_set {α : Type} {l : List α} {i : Nat} {x y : α} (h : l[i]? = some x) : withL l i 1 [y] = l.set i y := by
  have hi := (List.getElem?_eq_some_iff.1 h).1
  rw [withL, List.set_eq_take_append_cons_drop, if_pos hi, List.append_assoc]
  rfl
/-- One kid's two slices turned. -/
def setG (i : Nat) (G : Nat → Value × Value) (q : Value × Value) : Nat → Value × Value := fun j => if j = i then q else G j
theorem setG_at (i : Nat) (G : Nat → Value × Value) (q : Value × Value) : setG i G q i = q := if_pos rfl
theorem setG_other {i j : Nat} (G : Nat → Value × Value) (q : Value × Value) (h : j ≠ i) : setG i G q j = G j := if_neg h
theorem kidC_set {ks : List Lay} {G : Nat → Value × Value} {i : Nat} {x y : Lay} {vk vw : Value} (h : ks[i]? = some x) :
    ((((kidC ks G).set (i * 4) (.int .i64 y.kind)).set (i * 4 + 1) (.int .i64 y.pane)).set (i * 4 + 2) vk).set (i * 4 + 3) vw = kidC (ks.set i y) (setG i G (vk, vw)) := by
  have hi := (List.getElem?_eq_some_iff.1 h).1
  have hl1 := kidC_len ks G
  have hl2 := kidC_len (ks.set i y) (setG i G (vk, vw))
  rw [List.length_set] at hl2
  apply List.ext_getElem?
  intro m
  by_cases hm : m < ks.length * 4
  · have hr : m % 4 = 0 ∨ m % 4 = 1 ∨ m % 4 = 2 ∨ m % 4 = 3 := by omega
    obtain ⟨q, hq⟩ : ∃ q, q = m / 4 := ⟨_, rfl⟩
    have hqk : q < ks.length := by omega
    have hz : (ks.set i y)[q]? = some (if i = q then y else ks[q]) := by
      rw [List.getElem?_set]
      by_cases e : i = q
      · rw [if_pos e, if_pos hi, if_pos e]
      · rw [if_neg e, if_neg e, List.getElem?_eq_getElem hqk]
    obtain ⟨c0, c1, c2, c3⟩ := kidC_at (G := G) (List.getElem?_eq_getElem hqk)
    obtain ⟨d0, d1, d2, d3⟩ := kidC_at (G := setG i G (vk, vw)) hz
    simp only [List.getElem?_set, List.length_set, hl1]
    by_cases e : i = q
    · subst e
      rw [if_pos rfl] at d0 d1
      rw [setG_at] at d2 d3
      rcases hr with hr | hr | hr | hr
      · obtain rfl : m = i * 4 := by omega
        rw [d0, if_neg (by omega), if_neg (by omega), if_neg (by omega), if_pos rfl, if_pos hm]
      · obtain rfl : m = i * 4 + 1 := by omega
        rw [d1, if_neg (by omega), if_neg (by omega), if_pos rfl, if_pos hm]
      · obtain rfl : m = i * 4 + 2 := by omega
        rw [d2, if_neg (by omega), if_pos rfl, if_pos hm]
      · obtain rfl : m = i * 4 + 3 := by omega
        rw [d3, if_pos rfl, if_pos hm]
    · rw [if_neg e] at d0 d1
      rw [setG_other _ _ (fun h => e h.symm)] at d2 d3
      rw [if_neg (by omega), if_neg (by omega), if_neg (by omega), if_neg (by omega)]
      rcases hr with hr | hr | hr | hr
      · obtain rfl : m = q * 4 := by omega
        rw [d0, c0]
      · obtain rfl : m = q * 4 + 1 := by omega
        rw [d1, c1]
      · obtain rfl : m = q * 4 + 2 := by omega
        rw [d2, c2]
      · obtain rfl : m = q * 4 + 3 := by omega
        rw [d3, c3]
  · rw [List.getElem?_eq_none (by simp only [List.length_set]; omega), List.getElem?_eq_none (by omega)]
theorem intC_set {ws : List Int} {i : Nat} {y : Int} : (intC ws).set i (.int .i64 y) = intC (ws.set i y) := by
  rw [intC, intC, List.map_set]
section
variable {S : Nat → Prop} {B : Nat} {w : World} {v3 v4 : Value} {ks : List Lay} {ws : List Int} {G : Nat → Value × Value}
/-- Older layouts are none of the rows', whatever S. -/
theorem KRow.olds2 {n0 : Nat} {a : Option Addr} {xs : List Lay} {G' : Nat → Value × Value} {T : Nat → Prop} (h : KRow (But n0 T) B w v3 v4 ks ws G) (hB : n0 ≤ B) (hin : KidsIn (fun b => T b ∧ b < n0) w a xs G') : ∀ i x, xs[i]? = some x → LayAt (Off (But n0 T) v3 v4) w x (G' i).1 (G' i).2 :=
  fun i x hx => (hin.kids i x hx).mono fun b _ hb => h.old b (by have := hb.2; omega) ⟨hb.1, .inl hb.2⟩
theorem KRow.lay_old2 {n0 : Nat} {T : Nat → Prop} {x : Lay} {vk vw : Value} (h : KRow (But n0 T) B w v3 v4 ks ws G) (hB : n0 ≤ B) (hx : LayAt (fun b => T b ∧ b < n0) w x vk vw) : LayAt (Off (But n0 T) v3 v4) w x vk vw :=
  hx.mono fun b _ hb => h.old b (by have := hb.2; omega) ⟨hb.1, .inl hb.2⟩
/-- The i-th kid's cells, and what it is to write them. -/
theorem KRow.putK {i : Nat} {x : Lay} (h : KRow S B w v3 v4 ks ws G) (hx : ks[i]? = some x) : ∃ g off rc, v3 = .slice (some ⟨g, off, none⟩) ks.length rc ∧ v3.ownBlock = some g ∧ B ≤ g ∧ g < w.heap.size ∧
    (∃ c0, w.cell? ⟨g, off + i * 4, none⟩ = some c0) ∧ (∃ c1, w.cell? ⟨g, off + i * 4 + 1, none⟩ = some c1) ∧ (∃ c2, w.cell? ⟨g, off + i * 4 + 2, none⟩ = some c2) ∧ (∃ c3, w.cell? ⟨g, off + i * 4 + 3, none⟩ = some c3) ∧
    w.frozen? ⟨g, off + i * 4, none⟩ = false ∧ w.frozen? ⟨g, off + i * 4 + 1, none⟩ = false ∧ w.frozen? ⟨g, off + i * 4 + 2, none⟩ = false ∧ w.frozen? ⟨g, off + i * 4 + 3, none⟩ = false ∧
    ∀ (y : Lay) (vk vw : Value), LayAt (Off S v3 v4) w y vk vw → KRow S B ((((w.setCell ⟨g, off + i * 4, none⟩ (.int .i64 y.kind)).setCell ⟨g, off + i * 4 + 1, none⟩ (.int .i64 y.pane)).setCell ⟨g, off + i * 4 + 2, none⟩ vk).setCell ⟨g, off + i * 4 + 3, none⟩ vw) v3 v4 (withL ks i 1 [y]) ws (setG i G (vk, vw)) := by
  have hi := (List.getElem?_eq_some_iff.1 hx).1
  have hk := h.k
  rcases hk.2 with ⟨-, h0⟩ | ⟨g, cap, cur, rfl, hB, hg, -⟩
  · omega
  obtain ⟨d0, d1, d2, d3⟩ := kidC_at (G := G) hx
  have hl := kidC_len ks G
  refine ⟨g, 0, cap, rfl, rfl, hB, (Array.getElem?_eq_some_iff.1 hg).1, ?_⟩
  simp only [Nat.zero_add]
  refine ⟨⟨_, (hk.cellAt _ (by omega)).trans d0⟩, ⟨_, (hk.cellAt _ (by omega)).trans d1⟩, ⟨_, (hk.cellAt _ (by omega)).trans d2⟩, ⟨_, (hk.cellAt _ (by omega)).trans d3⟩, hk.frozenAt _, hk.frozenAt _, hk.frozenAt _, hk.frozenAt _, fun y vk vw hy => ?_⟩
  have hsm : ∀ (j : Nat) (u : Value) (W : World), Same (Off S (.slice (some ⟨g, 0, none⟩) ks.length cap) v4) W (W.setCell ⟨g, j, none⟩ u) := fun j u W => same_set fun hb => hb.2.1 rfl
  have hs4 := ((((hsm (i * 4) (.int .i64 y.kind) w).trans (hsm (i * 4 + 1) (.int .i64 y.pane) _)).trans (hsm (i * 4 + 2) vk _)).trans (hsm (i * 4 + 3) vw _))
  have hne : v4.ownBlock ≠ some g := fun e => h.a g e rfl
  refine ⟨?_, fun j z hz => ?_, ?_, h.a⟩
  · have := ((((hk.stored (i * 4) (.int .i64 y.kind)).1.stored (i * 4 + 1) (.int .i64 y.pane)).1.stored (i * 4 + 2) vk).1.stored (i * 4 + 3) vw).1
    rw [kidC_set hx] at this
    rw [with_set hx, List.length_set]
    exact this
  · rw [with_set hx, List.getElem?_set] at hz
    by_cases e : i = j
    · subst e
      rw [if_pos rfl, if_pos hi] at hz
      injection hz with hz
      subst hz
      rw [setG_at]
      exact hy.same hs4
    · rw [if_neg e] at hz
      rw [setG_other _ _ (fun h => e h.symm)]
      exact (h.l j z hz).same hs4
  · exact ownsRow_setCell_other (ownsRow_setCell_other (ownsRow_setCell_other (ownsRow_setCell_other h.i (a := ⟨g, _, none⟩) hne _) (a := ⟨g, _, none⟩) hne _) (a := ⟨g, _, none⟩) hne _) (a := ⟨g, _, none⟩) hne _
/-- The i-th weight's cell, and what it is to write it. -/
theorem KRow.putW {i : Nat} {x : Int} (h : KRow S B w v3 v4 ks ws G) (hx : ws[i]? = some x) : ∃ g off rc, v4 = .slice (some ⟨g, off, none⟩) ws.length rc ∧ v4.ownBlock = some g ∧ B ≤ g ∧ g < w.heap.size ∧
    w.cell? ⟨g, off + i, none⟩ = some (.int .i64 x) ∧ w.frozen? ⟨g, off + i, none⟩ = false ∧
    ∀ (y : Int), KRow S B (w.setCell ⟨g, off + i, none⟩ (.int .i64 y)) v3 v4 ks (withL ws i 1 [y]) G := by
  have hi := (List.getElem?_eq_some_iff.1 hx).1
  have hk := h.i
  rcases hk.2 with ⟨-, h0⟩ | ⟨g, cap, cur, rfl, hB, hg, -⟩
  · omega
  refine ⟨g, 0, cap, rfl, rfl, hB, (Array.getElem?_eq_some_iff.1 hg).1, ?_⟩
  simp only [Nat.zero_add]
  have hxi : (intC ws)[i]? = some (.int .i64 x) := by rw [intC, List.getElem?_map, hx]; rfl
  refine ⟨(hk.cellAt _ (by omega)).trans hxi, hk.frozenAt _, fun y => ?_⟩
  have hs : Same (Off S v3 (.slice (some ⟨g, 0, none⟩) ws.length cap)) w (w.setCell ⟨g, i, none⟩ (.int .i64 y)) := same_set fun hb => hb.2.2 rfl
  have hne : v3.ownBlock ≠ some g := h.a g rfl
  refine ⟨ownsRow_setCell_other h.k (a := ⟨g, _, none⟩) hne _, fun j z hz => (h.l j z hz).same hs, ?_, h.a⟩
  have := (hk.stored i (.int .i64 y)).1
  rw [intC_set] at this
  rw [with_set hx, List.length_set]
  exact this
end
theorem resizeE2_other {k p kind delta : Int} {ks : List Lay} {ws : List Int} {i : Nat} (h : ¬ k = kind) : resizeE2 kind delta (.mk k p ks ws) i = (.mk k p ks ws, false) := by
  have e : (Lay.mk k p ks ws).kind ≠ kind := h
  rw [resizeE2, if_pos e]
theorem resizeE2_same {k p delta : Int} {ks : List Lay} {ws : List Int} {i : Nat} {y : Int} (hy : ws[i]? = some y) : resizeE2 k delta (.mk k p ks ws) i = (.mk k p ks (withL ws i 1 [min (max (y + min (max delta (-2000)) 2000) 1) 1000]), true) := by
  have e : ¬ (Lay.mk k p ks ws).kind ≠ k := fun h => h rfl
  rw [resizeE2, if_neg e]
  show (Lay.mk k p ks (withL ws i 1 [min (max ((ws[i]?).getD 0 + min (max delta (-2000)) 2000) 1) 1000]), true) = _
  rw [hy]
  rfl
end Go.Proofs.Ytbobpgegkmcapaa

namespace Go.Proofs.Ytbobpgegkmcapaa
open Go.RowKit

set_option maxRecDepth 100000 in
set_option maxHeartbeats 4000000 in
theorem radd_any {S : Nat → Prop} (L X : Lay) (g : Int) (vk vw xk xw : Value) (w : World) (hS : ∀ b, w.heap.size ≤ b → S b) (h : LayAt S w L vk vw) (hX : LayAt S w X xk xw) (n1 : L.kids.length ≤ 1000) (n2 : L.ws.length ≤ 1000) (n3 : X.kids.length ≤ 1000) (n4 : X.ws.length ≤ 1000) :
    Calls Try.prog 76 #[.agg #[.int .i64 L.kind, .int .i64 L.pane, vk, vw], .agg #[.int .i64 X.kind, .int .i64 X.pane, xk, xw], .int .i64 g] w (fun e w' => LRes S w w' (addL L X g) e) := by
  obtain ⟨i25, hi25, hz25, hs25, hb25⟩ := info_parts info25
  obtain ⟨i3, hi3, hz3, hs3, hb3⟩ := info_parts info3
  obtain ⟨k, p, ks, ws⟩ := L
  obtain ⟨k', p', ks', ws'⟩ := X
  obtain ⟨a, cap, G, rfl, hcap, hmx, hin⟩ := h.lt.kids.open_ rfl
  obtain ⟨wa, wc, rfl, hwc, hwm, hiw⟩ := h.lt.ints.open_ rfl
  obtain ⟨a', cap', G', rfl, hcap', hmx', hin'⟩ := hX.lt.kids.open_ rfl
  obtain ⟨wa', wc', rfl, hwc', hwm', hiw'⟩ := hX.lt.ints.open_ rfl
  dsimp only [Lay.kids, Lay.ws, Lay.kind, Lay.pane] at *
  have Hin := Lib.hid hin
  have Hiw := Lib.hid hiw
  have Hin' := Lib.hid hin'
  have Hiw' := Lib.hid hiw'
  have HX := Lib.hid hX.lt
  have HS := Lib.hid hS
  clear hin hiw hin' hiw' h hX hS
  by_cases hk : k' = k
  · have kk : (k' == k) = true := by simpa using hk
    rw [addL_same hk]
    clear hk HX
    go_enter Try.func76, Try.ntmps76
    go_upto_region 1 with fail
    refine abs_worldM (fun W => Grows w W ∧ Blk W (w.heap.size) 25 #[.int .i64 k, .int .i64 p, .slice a ks.length cap, .slice wa ws.length wc] ∧ Blk W (w.heap.size + 1) 25 #[.int .i64 k', .int .i64 p', .slice a' ks'.length cap', .slice wa' ws'.length wc'] ∧ Blk W (w.heap.size + 1 + 1) 25 #[.int .i64 0, .int .i64 0, .slice none 0 0, .slice none 0 0]) (boxes3 _ _ _ _) ?_
    rintro W0 ⟨hg0, hb0, hb1, hb2⟩
    have HB0 := Lib.hid hb0
    have HB1 := Lib.hid hb1
    have HB2 := Lib.hid hb2
    have HG0 := Lib.hid hg0
    have hs0 : w.heap.size + 3 ≤ W0.heap.size := by have := hb2.lt; omega
    clear hb0 hb1 hb2 hg0
    obtain ⟨B, hBe⟩ : ∃ z, W0.heap.size = z := ⟨_, rfl⟩
    have hBw : w.heap.size ≤ B := by omega
    have hB3 : w.heap.size + 3 ≤ B := by omega
    have hzB : B ≤ W0.heap.size := by omega
    obtain ⟨a0, a1, a2, a3⟩ := HB0.out.four
    obtain ⟨f0, f1, f2, f3⟩ := HB0.out.four'
    obtain ⟨b0, b1, b2, b3⟩ := HB1.out.four
    have hl0 := HB0.out.lt
    have hl1 := HB1.out.lt
    go_upto_region 5 with (first | (at_builtin; ((refine wpList_appO _ rfl (.tmp 9) (.tmp 11) 22 rfl B 25 i25 _ 4 64 Try.underlying22 hi25 hz25 hs25 hb25 rfl (by decide) 0 ks.length (kidC [] noG) (kidC ks G) (World.ownsRow_nil _ _ _ _) ((Hin.out.grows HG0.out).shut rfl hcap hmx).cells (kidC_one (Hin.out.grows HG0.out).kids) (by unfold maxLen; omega) (by omega) (by omega) ?_)); (go_must (intro v3 w8 row8 q1 q2 q3 q4; have hrk := (KRow.nil (But3 w.heap.size S) B W0).addKs ((KRow.nil (But3 w.heap.size S) B W0).olds hBw (Hin.out.grows HG0.out)) (by simp) q1 q2 q3 q4; have hg8 : Grows W0 w8 := appended_grows (Grows.refl W0) q2 (fun k e => by cases (q3 k e).2.2); clear q1 q2 q3 q4; obtain ⟨a0, a1, a2, a3⟩ := (HB0.out.grows hg8).four; obtain ⟨f0, f1, f2, f3⟩ := (HB0.out.grows hg8).four'; obtain ⟨b0, b1, b2, b3⟩ := (HB1.out.grows hg8).four; have hl0 := (HB0.out.grows hg8).lt; have hl1 := (HB1.out.grows hg8).lt))) | (at_builtin; (go_must (refine wpList_appO _ rfl (.tmp 13) (.tmp 15) 23 rfl B 3 i3 _ 1 8 Try.underlying23 hi3 hz3 hs3 hb3 rfl (by decide) 0 ws.length (intC []) (intC ws) (World.ownsRow_nil _ _ _ _) ((Hiw.out.grows (HG0.out.trans hg8)).shut rfl hwc hwm).cells (intC_one _) (by unfold maxLen; omega) (by omega) (by have := hg8.size; omega) ?_)); (go_must (intro v4 w9 row9 q1 q2 q3 q4; have hrw := hrk.addWs (by simp) q1 q2 q3 q4; have hg9 : Grows W0 w9 := appended_grows hg8 q2 (fun k e => by cases (q3 k e).2.2); clear q1 q2 q3 q4; obtain ⟨a0, a1, a2, a3⟩ := (HB0.out.grows hg9).four; obtain ⟨f0, f1, f2, f3⟩ := (HB0.out.grows hg9).four'; obtain ⟨b0, b1, b2, b3⟩ := (HB1.out.grows hg9).four; have hl0 := (HB0.out.grows hg9).lt; have hl1 := (HB1.out.grows hg9).lt))))
    refine abs_worldM (fun W => Grows w W ∧ KRow (But3 w.heap.size S) B W v3 v4 ks ws (joinG 0 noG G) ∧ Blk W (w.heap.size) 25 #[.int .i64 k, .int .i64 p, .slice a ks.length cap, .slice wa ws.length wc] ∧ Blk W (w.heap.size + 1) 25 #[.int .i64 k', .int .i64 p', .slice a' ks'.length cap', .slice wa' ws'.length wc'] ∧ Blk W (w.heap.size + 1 + 1) 25 #[.int .i64 0, .int .i64 0, .slice none 0 0, .slice none 0 0] ∧ B ≤ W.heap.size) ⟨HG0.out.trans hg9, hrw, HB0.out.grows hg9, HB1.out.grows hg9, HB2.out.grows hg9, by have := hg9.size; omega⟩ ?_
    clear a0 a1 a2 a3 f0 f1 f2 f3 b0 b1 b2 b3 hl0 hl1 HB0 HB1 HB2 HG0 hzB hrk hrw hg8 hg9 hBe hs0
    rintro W0 ⟨hg0, hro, hb0, hb1, hb2, hzB⟩
    have HG0 := Lib.hid hg0
    have HRO := Lib.hid hro
    have HB0 := Lib.hid hb0
    have HB1 := Lib.hid hb1
    have HB2 := Lib.hid hb2
    clear hg0 hro hb0 hb1 hb2
    obtain ⟨a0, a1, a2, a3⟩ := HB0.out.four
    obtain ⟨f0, f1, f2, f3⟩ := HB0.out.four'
    obtain ⟨b0, b1, b2, b3⟩ := HB1.out.four
    have hl0 := HB0.out.lt
    have hl1 := HB1.out.lt
    go_upto_region 7 with (at_builtin; (go_must (refine wpList_appO _ rfl (.tmp 22) (.tmp 24) 22 rfl B 25 i25 _ 4 64 Try.underlying22 hi25 hz25 hs25 hb25 rfl (by decide) ks.length ks'.length (kidC ks (joinG 0 noG G)) (kidC ks' G') HRO.out.k ((Hin'.out.grows HG0.out).shut rfl hcap' hmx').cells (kidC_one (Hin'.out.grows HG0.out).kids) (by unfold maxLen; omega) (by omega) (by omega) ?_)); (go_must (intro v5 w8 row8 q1 q2 q3 q4; have hrk := HRO.out.addKs (HRO.out.olds hBw (Hin'.out.grows HG0.out)) rfl q1 q2 q3 q4; have hg8 : Grows w w8 := appended_grows HG0.out q2 (fun k e => by have := (q3 k e).1; omega); have hne : ∀ n, n < B → row8 ≠ some n := (fun n hn e => by have := (q3 n e).1; omega); have hb0 := HB0.out.kept q2 (hne _ (by omega)); have hb1 := HB1.out.kept q2 (hne _ (by omega)); have hb2 := HB2.out.kept q2 (hne _ (by omega)); have hz8 : B ≤ w8.heap.size := Nat.le_trans hzB q2.size; clear q1 q2 q3 q4; obtain ⟨⟨ra, rc, e5⟩, -⟩ := hrk.slices; generalize (ks ++ ks').length = n5 at e5; subst e5; obtain ⟨a0, a1, a2, a3⟩ := hb0.four; obtain ⟨f0, f1, f2, f3⟩ := hb0.four'; have hl0 := hb0.lt)))
    refine abs_worldM (fun W => Grows w W ∧ KRow (But3 w.heap.size S) B W (.slice ra n5 rc) v4 (ks ++ ks') ws (joinG ks.length (joinG 0 noG G) G') ∧ Blk W (w.heap.size) 25 #[.int .i64 k, .int .i64 p, .slice ra n5 rc, .slice wa ws.length wc] ∧ Blk W (w.heap.size + 1) 25 #[.int .i64 k', .int .i64 p', .slice a' ks'.length cap', .slice wa' ws'.length wc'] ∧ Blk W (w.heap.size + 1 + 1) 25 #[.int .i64 0, .int .i64 0, .slice none 0 0, .slice none 0 0] ∧ B ≤ W.heap.size) ⟨hg8.setCell (Nat.le_refl _) _, hrk.set (by omega) (but3_not (by omega)), hb0.set 2 _, hb1.other (by omega), hb2.other (by omega), Nat.le_trans hz8 (but3_set (n := w.heap.size) (S := S) (by omega)).size⟩ ?_
    clear a0 a1 a2 a3 f0 f1 f2 f3 b0 b1 b2 b3 hl0 hl1 HB0 HB1 HB2 HG0 hzB hrk hg8 hb0 hb1 hb2 hne hz8 HRO
    rintro W0 ⟨hg0, hro, hb0, hb1, hb2, hzB⟩
    have HG0 := Lib.hid hg0
    have HRO := Lib.hid hro
    have HB0 := Lib.hid hb0
    have HB1 := Lib.hid hb1
    have HB2 := Lib.hid hb2
    clear hg0 hro hb0 hb1 hb2
    obtain ⟨a0, a1, a2, a3⟩ := HB0.out.four
    obtain ⟨f0, f1, f2, f3⟩ := HB0.out.four'
    obtain ⟨b0, b1, b2, b3⟩ := HB1.out.four
    have hl0 := HB0.out.lt
    have hl1 := HB1.out.lt
    go_upto_region 8 with (at_builtin; (go_must (refine wpList_appO _ rfl (.tmp 27) (.tmp 29) 23 rfl B 3 i3 _ 1 8 Try.underlying23 hi3 hz3 hs3 hb3 rfl (by decide) ws.length ws'.length (intC ws) (intC ws') HRO.out.i ((Hiw'.out.grows HG0.out).shut rfl hwc' hwm').cells (intC_one _) (by unfold maxLen; omega) (by omega) (by omega) ?_)); (go_must (intro v6 w8 row8 q1 q2 q3 q4; have hrk := HRO.out.addWs rfl q1 q2 q3 q4; have hg8 : Grows w w8 := appended_grows HG0.out q2 (fun k e => by have := (q3 k e).1; omega); have hne : ∀ n, n < B → row8 ≠ some n := (fun n hn e => by have := (q3 n e).1; omega); have hb0 := HB0.out.kept q2 (hne _ (by omega)); have hb1 := HB1.out.kept q2 (hne _ (by omega)); have hb2 := HB2.out.kept q2 (hne _ (by omega)); have hz8 : B ≤ w8.heap.size := Nat.le_trans hzB q2.size; clear q1 q2 q3 q4; obtain ⟨-, ⟨rb, rd, e6⟩⟩ := hrk.slices; generalize (ws ++ ws').length = n6 at e6; subst e6; obtain ⟨a0, a1, a2, a3⟩ := hb0.four; obtain ⟨f0, f1, f2, f3⟩ := hb0.four'; have hl0 := hb0.lt)))
    refine abs_worldM (fun W => Grows w W ∧ KRow (But3 w.heap.size S) B W (.slice ra n5 rc) (.slice rb n6 rd) (ks ++ ks') (ws ++ ws') (joinG ks.length (joinG 0 noG G) G') ∧ Blk W (w.heap.size) 25 #[.int .i64 k, .int .i64 p, .slice ra n5 rc, .slice rb n6 rd] ∧ Blk W (w.heap.size + 1) 25 #[.int .i64 k', .int .i64 p', .slice a' ks'.length cap', .slice wa' ws'.length wc'] ∧ Blk W (w.heap.size + 1 + 1) 25 #[.int .i64 0, .int .i64 0, .slice none 0 0, .slice none 0 0] ∧ B ≤ W.heap.size) ⟨hg8.setCell (Nat.le_refl _) _, hrk.set (by omega) (but3_not (by omega)), hb0.set 3 _, hb1.other (by omega), hb2.other (by omega), Nat.le_trans hz8 (but3_set (n := w.heap.size) (S := S) (by omega)).size⟩ ?_
    clear a0 a1 a2 a3 f0 f1 f2 f3 b0 b1 b2 b3 hl0 hl1 HB0 HB1 HB2 HG0 hzB hrk hg8 hb0 hb1 hb2 hne hz8 HRO
    rintro W0 ⟨hg0, hro, hb0, hb1, hb2, hzB⟩
    have HG0 := Lib.hid hg0
    have HRO := Lib.hid hro
    have HB0 := Lib.hid hb0
    have HB1 := Lib.hid hb1
    have HB2 := Lib.hid hb2
    clear hg0 hro hb0 hb1 hb2
    obtain ⟨a0, a1, a2, a3⟩ := HB0.out.four
    obtain ⟨f0, f1, f2, f3⟩ := HB0.out.four'
    obtain ⟨b0, b1, b2, b3⟩ := HB1.out.four
    have hl0 := HB0.out.lt
    have hl1 := HB1.out.lt
    obtain ⟨z0, z1, z2, z3⟩ := HB2.out.four
    obtain ⟨y0, y1, y2, y3⟩ := HB2.out.four'
    have hl2 := HB2.out.lt
    go_wp2_with fail
    refine ret_cell (t := 25) (n := w.heap.size + 1 + 1) (cs := #[.int .i64 k, .int .i64 p, .slice ra n5 rc, .slice rb n6 rd]) rfl rfl ?_ Try.underlying25 rfl (by kernel_rfl) rfl ?_
    · exact HB2.out.set4
    · exact ⟨_, _, rfl, ((HRO.out.shut (but3_fresh HS.out hB3) (by simp; omega) (by simp; omega)).same (but3_set4 (by omega) _ _ _ _)).unbut3, HG0.out.set4 (by omega) _ _ _ _⟩
  · have kk : (k' == k) = false := by simpa using hk
    rw [addL_other hk]
    clear hk
    go_enter Try.func76, Try.ntmps76
    go_upto_region 1 with fail
    refine abs_worldM (fun W => Grows w W ∧ Blk W (w.heap.size) 25 #[.int .i64 k, .int .i64 p, .slice a ks.length cap, .slice wa ws.length wc] ∧ Blk W (w.heap.size + 1) 25 #[.int .i64 k', .int .i64 p', .slice a' ks'.length cap', .slice wa' ws'.length wc'] ∧ Blk W (w.heap.size + 1 + 1) 25 #[.int .i64 0, .int .i64 0, .slice none 0 0, .slice none 0 0]) (boxes3 _ _ _ _) ?_
    rintro W0 ⟨hg0, hb0, hb1, hb2⟩
    have HB0 := Lib.hid hb0
    have HB1 := Lib.hid hb1
    have HB2 := Lib.hid hb2
    have HG0 := Lib.hid hg0
    have hs0 : w.heap.size + 3 ≤ W0.heap.size := by have := hb2.lt; omega
    clear hb0 hb1 hb2 hg0
    obtain ⟨B, hBe⟩ : ∃ z, W0.heap.size = z := ⟨_, rfl⟩
    have hBw : w.heap.size ≤ B := by omega
    have hB3 : w.heap.size + 3 ≤ B := by omega
    have hzB : B ≤ W0.heap.size := by omega
    obtain ⟨a0, a1, a2, a3⟩ := HB0.out.four
    obtain ⟨f0, f1, f2, f3⟩ := HB0.out.four'
    obtain ⟨b0, b1, b2, b3⟩ := HB1.out.four
    have hl0 := HB0.out.lt
    have hl1 := HB1.out.lt
    go_upto_region 5 with (first | (at_builtin; ((refine wpList_appO _ rfl (.tmp 9) (.tmp 11) 22 rfl B 25 i25 _ 4 64 Try.underlying22 hi25 hz25 hs25 hb25 rfl (by decide) 0 ks.length (kidC [] noG) (kidC ks G) (World.ownsRow_nil _ _ _ _) ((Hin.out.grows HG0.out).shut rfl hcap hmx).cells (kidC_one (Hin.out.grows HG0.out).kids) (by unfold maxLen; omega) (by omega) (by omega) ?_)); (go_must (intro v3 w8 row8 q1 q2 q3 q4; have hrk := (KRow.nil (But3 w.heap.size S) B W0).addKs ((KRow.nil (But3 w.heap.size S) B W0).olds hBw (Hin.out.grows HG0.out)) (by simp) q1 q2 q3 q4; have hg8 : Grows W0 w8 := appended_grows (Grows.refl W0) q2 (fun k e => by cases (q3 k e).2.2); clear q1 q2 q3 q4; obtain ⟨a0, a1, a2, a3⟩ := (HB0.out.grows hg8).four; obtain ⟨f0, f1, f2, f3⟩ := (HB0.out.grows hg8).four'; obtain ⟨b0, b1, b2, b3⟩ := (HB1.out.grows hg8).four; have hl0 := (HB0.out.grows hg8).lt; have hl1 := (HB1.out.grows hg8).lt))) | (at_builtin; (go_must (refine wpList_appO _ rfl (.tmp 13) (.tmp 15) 23 rfl B 3 i3 _ 1 8 Try.underlying23 hi3 hz3 hs3 hb3 rfl (by decide) 0 ws.length (intC []) (intC ws) (World.ownsRow_nil _ _ _ _) ((Hiw.out.grows (HG0.out.trans hg8)).shut rfl hwc hwm).cells (intC_one _) (by unfold maxLen; omega) (by omega) (by have := hg8.size; omega) ?_)); (go_must (intro v4 w9 row9 q1 q2 q3 q4; have hrw := hrk.addWs (by simp) q1 q2 q3 q4; have hg9 : Grows W0 w9 := appended_grows hg8 q2 (fun k e => by cases (q3 k e).2.2); clear q1 q2 q3 q4; obtain ⟨a0, a1, a2, a3⟩ := (HB0.out.grows hg9).four; obtain ⟨f0, f1, f2, f3⟩ := (HB0.out.grows hg9).four'; obtain ⟨b0, b1, b2, b3⟩ := (HB1.out.grows hg9).four; have hl0 := (HB0.out.grows hg9).lt; have hl1 := (HB1.out.grows hg9).lt))))
    refine abs_worldM (fun W => Grows w W ∧ KRow (But3 w.heap.size S) B W v3 v4 ks ws (joinG 0 noG G) ∧ Blk W (w.heap.size) 25 #[.int .i64 k, .int .i64 p, .slice a ks.length cap, .slice wa ws.length wc] ∧ Blk W (w.heap.size + 1) 25 #[.int .i64 k', .int .i64 p', .slice a' ks'.length cap', .slice wa' ws'.length wc'] ∧ Blk W (w.heap.size + 1 + 1) 25 #[.int .i64 0, .int .i64 0, .slice none 0 0, .slice none 0 0] ∧ B ≤ W.heap.size) ⟨HG0.out.trans hg9, hrw, HB0.out.grows hg9, HB1.out.grows hg9, HB2.out.grows hg9, by have := hg9.size; omega⟩ ?_
    clear a0 a1 a2 a3 f0 f1 f2 f3 b0 b1 b2 b3 hl0 hl1 HB0 HB1 HB2 HG0 hzB hrk hrw hg8 hg9 hBe hs0
    rintro W0 ⟨hg0, hro, hb0, hb1, hb2, hzB⟩
    have HG0 := Lib.hid hg0
    have HRO := Lib.hid hro
    have HB0 := Lib.hid hb0
    have HB1 := Lib.hid hb1
    have HB2 := Lib.hid hb2
    clear hg0 hro hb0 hb1 hb2
    obtain ⟨a0, a1, a2, a3⟩ := HB0.out.four
    obtain ⟨f0, f1, f2, f3⟩ := HB0.out.four'
    obtain ⟨b0, b1, b2, b3⟩ := HB1.out.four
    have hl0 := HB0.out.lt
    have hl1 := HB1.out.lt
    go_upto_region 10 with (at_builtin; (go_must (refine wpList_appO _ rfl (.tmp 33) (.tmp 35) 22 rfl B 25 i25 _ 4 64 Try.underlying22 hi25 hz25 hs25 hb25 rfl (by decide) ks.length 1 (kidC ks (joinG 0 noG G)) (kidC [.mk k' p' ks' ws'] (fun _ => (.slice a' ks'.length cap', .slice wa' ws'.length wc'))) (HRO.out.grows (by repeat' (first | (with_reducible exact Grows.refl _) | (with_reducible refine Grows.alloc ?_ _) | (with_reducible refine Grows.drew ?_) | (with_reducible refine Grows.ext ?_ _ _)))).k (by rw [kidC_single]; exact cells_new4 rfl) (kid_one HX.out) (by unfold maxLen; omega) (by omega) (Nat.le_trans hzB (Grows.size (w := W0) (by repeat' (first | (with_reducible exact Grows.refl _) | (with_reducible refine Grows.alloc ?_ _) | (with_reducible refine Grows.drew ?_) | (with_reducible refine Grows.ext ?_ _ _))))) ?_)); (go_must (intro v5 w8 row8 q1 q2 q3 q4; have hrk := (HRO.out.grows (by repeat' (first | (with_reducible exact Grows.refl _) | (with_reducible refine Grows.alloc ?_ _) | (with_reducible refine Grows.drew ?_) | (with_reducible refine Grows.ext ?_ _ _)))).addK ((HRO.out.grows (by repeat' (first | (with_reducible exact Grows.refl _) | (with_reducible refine Grows.alloc ?_ _) | (with_reducible refine Grows.drew ?_) | (with_reducible refine Grows.ext ?_ _ _)))).lay_old hBw (HX.out.grows (HG0.out.trans (by repeat' (first | (with_reducible exact Grows.refl _) | (with_reducible refine Grows.alloc ?_ _) | (with_reducible refine Grows.drew ?_) | (with_reducible refine Grows.ext ?_ _ _)))))) rfl q1 q2 q3 q4; have hg8 : Grows w w8 := appended_grows (HG0.out.trans (by repeat' (first | (with_reducible exact Grows.refl _) | (with_reducible refine Grows.alloc ?_ _) | (with_reducible refine Grows.drew ?_) | (with_reducible refine Grows.ext ?_ _ _)))) q2 (fun k e => by have := (q3 k e).1; omega); have hne : ∀ n, n < B → row8 ≠ some n := (fun n hn e => by have := (q3 n e).1; omega); have hb0 := (HB0.out.grows (by repeat' (first | (with_reducible exact Grows.refl _) | (with_reducible refine Grows.alloc ?_ _) | (with_reducible refine Grows.drew ?_) | (with_reducible refine Grows.ext ?_ _ _)))).kept q2 (hne _ (by omega)); have hb1 := (HB1.out.grows (by repeat' (first | (with_reducible exact Grows.refl _) | (with_reducible refine Grows.alloc ?_ _) | (with_reducible refine Grows.drew ?_) | (with_reducible refine Grows.ext ?_ _ _)))).kept q2 (hne _ (by omega)); have hb2 := (HB2.out.grows (by repeat' (first | (with_reducible exact Grows.refl _) | (with_reducible refine Grows.alloc ?_ _) | (with_reducible refine Grows.drew ?_) | (with_reducible refine Grows.ext ?_ _ _)))).kept q2 (hne _ (by omega)); have hz8 : B ≤ w8.heap.size := Nat.le_trans (Nat.le_trans hzB (Grows.size (w := W0) (by repeat' (first | (with_reducible exact Grows.refl _) | (with_reducible refine Grows.alloc ?_ _) | (with_reducible refine Grows.drew ?_) | (with_reducible refine Grows.ext ?_ _ _))))) q2.size; clear q1 q2 q3 q4; obtain ⟨⟨ra, rc, e5⟩, -⟩ := hrk.slices; generalize (ks ++ [Lay.mk k' p' ks' ws']).length = n5 at e5; subst e5; obtain ⟨a0, a1, a2, a3⟩ := hb0.four; obtain ⟨f0, f1, f2, f3⟩ := hb0.four'; have hl0 := hb0.lt)))
    refine abs_worldM (fun W => Grows w W ∧ KRow (But3 w.heap.size S) B W (.slice ra n5 rc) v4 (ks ++ [.mk k' p' ks' ws']) ws (joinG ks.length (joinG 0 noG G) (fun _ => (.slice a' ks'.length cap', .slice wa' ws'.length wc'))) ∧ Blk W (w.heap.size) 25 #[.int .i64 k, .int .i64 p, .slice ra n5 rc, .slice wa ws.length wc] ∧ Blk W (w.heap.size + 1) 25 #[.int .i64 k', .int .i64 p', .slice a' ks'.length cap', .slice wa' ws'.length wc'] ∧ Blk W (w.heap.size + 1 + 1) 25 #[.int .i64 0, .int .i64 0, .slice none 0 0, .slice none 0 0] ∧ B ≤ W.heap.size) ⟨hg8.setCell (Nat.le_refl _) _, hrk.set (by omega) (but3_not (by omega)), hb0.set 2 _, hb1.other (by omega), hb2.other (by omega), Nat.le_trans hz8 (but3_set (n := w.heap.size) (S := S) (by omega)).size⟩ ?_
    clear a0 a1 a2 a3 f0 f1 f2 f3 b0 b1 b2 b3 hl0 hl1 HB0 HB1 HB2 HG0 hzB hrk hg8 hb0 hb1 hb2 hne hz8 HRO
    rintro W0 ⟨hg0, hro, hb0, hb1, hb2, hzB⟩
    have HG0 := Lib.hid hg0
    have HRO := Lib.hid hro
    have HB0 := Lib.hid hb0
    have HB1 := Lib.hid hb1
    have HB2 := Lib.hid hb2
    clear hg0 hro hb0 hb1 hb2
    obtain ⟨a0, a1, a2, a3⟩ := HB0.out.four
    obtain ⟨f0, f1, f2, f3⟩ := HB0.out.four'
    obtain ⟨b0, b1, b2, b3⟩ := HB1.out.four
    have hl0 := HB0.out.lt
    have hl1 := HB1.out.lt
    go_upto_region 11 with (at_builtin; (go_must (refine wpList_appO _ rfl (.tmp 38) (.tmp 40) 23 rfl B 3 i3 _ 1 8 Try.underlying23 hi3 hz3 hs3 hb3 rfl (by decide) ws.length 1 (intC ws) (intC [g]) (HRO.out.grows (by repeat' (first | (with_reducible exact Grows.refl _) | (with_reducible refine Grows.alloc ?_ _) | (with_reducible refine Grows.drew ?_) | (with_reducible refine Grows.ext ?_ _ _)))).i (cells_int1 rfl) (intC_one _) (by unfold maxLen; omega) (by omega) (Nat.le_trans hzB (Grows.size (w := W0) (by repeat' (first | (with_reducible exact Grows.refl _) | (with_reducible refine Grows.alloc ?_ _) | (with_reducible refine Grows.drew ?_) | (with_reducible refine Grows.ext ?_ _ _))))) ?_)); (go_must (intro v6 w8 row8 q1 q2 q3 q4; have hrk := (HRO.out.grows (by repeat' (first | (with_reducible exact Grows.refl _) | (with_reducible refine Grows.alloc ?_ _) | (with_reducible refine Grows.drew ?_) | (with_reducible refine Grows.ext ?_ _ _)))).addW rfl q1 q2 q3 q4; have hg8 : Grows w w8 := appended_grows (HG0.out.trans (by repeat' (first | (with_reducible exact Grows.refl _) | (with_reducible refine Grows.alloc ?_ _) | (with_reducible refine Grows.drew ?_) | (with_reducible refine Grows.ext ?_ _ _)))) q2 (fun k e => by have := (q3 k e).1; omega); have hne : ∀ n, n < B → row8 ≠ some n := (fun n hn e => by have := (q3 n e).1; omega); have hb0 := (HB0.out.grows (by repeat' (first | (with_reducible exact Grows.refl _) | (with_reducible refine Grows.alloc ?_ _) | (with_reducible refine Grows.drew ?_) | (with_reducible refine Grows.ext ?_ _ _)))).kept q2 (hne _ (by omega)); have hb1 := (HB1.out.grows (by repeat' (first | (with_reducible exact Grows.refl _) | (with_reducible refine Grows.alloc ?_ _) | (with_reducible refine Grows.drew ?_) | (with_reducible refine Grows.ext ?_ _ _)))).kept q2 (hne _ (by omega)); have hb2 := (HB2.out.grows (by repeat' (first | (with_reducible exact Grows.refl _) | (with_reducible refine Grows.alloc ?_ _) | (with_reducible refine Grows.drew ?_) | (with_reducible refine Grows.ext ?_ _ _)))).kept q2 (hne _ (by omega)); have hz8 : B ≤ w8.heap.size := Nat.le_trans (Nat.le_trans hzB (Grows.size (w := W0) (by repeat' (first | (with_reducible exact Grows.refl _) | (with_reducible refine Grows.alloc ?_ _) | (with_reducible refine Grows.drew ?_) | (with_reducible refine Grows.ext ?_ _ _))))) q2.size; clear q1 q2 q3 q4; obtain ⟨-, ⟨rb, rd, e6⟩⟩ := hrk.slices; generalize (ws ++ [g]).length = n6 at e6; subst e6; obtain ⟨a0, a1, a2, a3⟩ := hb0.four; obtain ⟨f0, f1, f2, f3⟩ := hb0.four'; have hl0 := hb0.lt)))
    refine abs_worldM (fun W => Grows w W ∧ KRow (But3 w.heap.size S) B W (.slice ra n5 rc) (.slice rb n6 rd) (ks ++ [.mk k' p' ks' ws']) (ws ++ [g]) (joinG ks.length (joinG 0 noG G) (fun _ => (.slice a' ks'.length cap', .slice wa' ws'.length wc'))) ∧ Blk W (w.heap.size) 25 #[.int .i64 k, .int .i64 p, .slice ra n5 rc, .slice rb n6 rd] ∧ Blk W (w.heap.size + 1) 25 #[.int .i64 k', .int .i64 p', .slice a' ks'.length cap', .slice wa' ws'.length wc'] ∧ Blk W (w.heap.size + 1 + 1) 25 #[.int .i64 0, .int .i64 0, .slice none 0 0, .slice none 0 0] ∧ B ≤ W.heap.size) ⟨hg8.setCell (Nat.le_refl _) _, hrk.set (by omega) (but3_not (by omega)), hb0.set 3 _, hb1.other (by omega), hb2.other (by omega), Nat.le_trans hz8 (but3_set (n := w.heap.size) (S := S) (by omega)).size⟩ ?_
    clear a0 a1 a2 a3 f0 f1 f2 f3 b0 b1 b2 b3 hl0 hl1 HB0 HB1 HB2 HG0 hzB hrk hg8 hb0 hb1 hb2 hne hz8 HRO
    rintro W0 ⟨hg0, hro, hb0, hb1, hb2, hzB⟩
    have HG0 := Lib.hid hg0
    have HRO := Lib.hid hro
    have HB0 := Lib.hid hb0
    have HB1 := Lib.hid hb1
    have HB2 := Lib.hid hb2
    clear hg0 hro hb0 hb1 hb2
    obtain ⟨a0, a1, a2, a3⟩ := HB0.out.four
    obtain ⟨f0, f1, f2, f3⟩ := HB0.out.four'
    obtain ⟨b0, b1, b2, b3⟩ := HB1.out.four
    have hl0 := HB0.out.lt
    have hl1 := HB1.out.lt
    obtain ⟨z0, z1, z2, z3⟩ := HB2.out.four
    obtain ⟨y0, y1, y2, y3⟩ := HB2.out.four'
    have hl2 := HB2.out.lt
    go_wp2_with fail
    refine ret_cell (t := 25) (n := w.heap.size + 1 + 1) (cs := #[.int .i64 k, .int .i64 p, .slice ra n5 rc, .slice rb n6 rd]) rfl rfl ?_ Try.underlying25 rfl (by kernel_rfl) rfl ?_
    · exact HB2.out.set4
    · exact ⟨_, _, rfl, ((HRO.out.shut (but3_fresh HS.out hB3) (by simp; omega) (by simp; omega)).same (but3_set4 (by omega) _ _ _ _)).unbut3, HG0.out.set4 (by omega) _ _ _ _⟩
end Go.Proofs.Ytbobpgegkmcapaa

namespace Go.Proofs.Ytbobpgegkmcapaa
open Go.RowKit

set_option maxRecDepth 100000 in
set_option maxHeartbeats 4000000 in
theorem reven_any (L : Lay) : okTree L = true → (panesL L).length ≤ 1000 → ∀ (S : Nat → Prop) (vk vw : Value) (w : World), (∀ b, w.heap.size ≤ b → S b) → LayAt S w L vk vw → Calls Try.prog 49 #[.agg #[.int .i64 L.kind, .int .i64 L.pane, vk, vw]] w (fun e w' => LRes S w w' (evenL L) e) := by
  induction L using Lay.ind with | h k p ks ws ih => ?_
  intro hok hn S vk vw w hS h
  obtain ⟨hv, hkok⟩ := okTree_iff.1 hok
  dsimp only [Lay.kids] at hkok
  have hks : ks.length ≤ 1000 ∧ ∀ x ∈ ks, (panesL x).length ≤ 1000 := by
    by_cases hk : k = 1
    · have hz : ks = [] := (validN_leaf hv hk).2.2.1
      rw [hz]
      exact ⟨Nat.zero_le _, fun x hx => by cases hx⟩
    · rw [panesL_mk, if_neg hk] at hn
      have := len_kids (ks := ks) hkok
      exact ⟨by omega, fun x hx => by have := len_mem hx; omega⟩
  obtain ⟨i25, hi25, hz25, hs25, hb25⟩ := info_parts info25
  obtain ⟨i3, hi3, hz3, hs3, hb3⟩ := info_parts info3
  obtain ⟨a, cap, G, rfl, hcap, hmx, hin⟩ := h.lt.kids.open_ rfl
  obtain ⟨wa, wc, rfl, -, -, hiw⟩ := h.ints.open_ rfl
  dsimp only [Lay.kids, Lay.ws, Lay.kind, Lay.pane] at hcap hmx hin hiw h ⊢
  rw [evenL_mk]
  have Hin := Lib.hid hin
  have HI := Lib.hid fun (x : Lay) (hx : x ∈ ks) => ih x hx (hkok x hx) (hks.2 x hx)
  have HS := Lib.hid hS
  have hkn := hks.1
  clear ih hok hn hS h hv hkok hin hiw hks
  generalize ws.length = wn at *
  go_enter Try.func49, Try.ntmps49
  go_upto_region 2 with fail
  refine abs_worldM (fun W => Grows w W ∧ Blk W w.heap.size 25 #[.int .i64 k, .int .i64 p, .slice a ks.length cap, .slice wa wn wc] ∧ Blk W (w.heap.size + 1) 25 #[.int .i64 0, .int .i64 0, .slice none 0 0, .slice none 0 0] ∧ Blk W (w.heap.size + 1 + 1) 25 #[.int .i64 k, .int .i64 p, .slice none 0 0, .slice none 0 0]) (boxes3 _ _ _ _) ?_
  rintro W0 ⟨hg0, hb0, hb1, hbo⟩
  have HB0 := Lib.hid hb0
  have HB1 := Lib.hid hb1
  have HBO := Lib.hid hbo
  have HG0 := Lib.hid hg0
  obtain ⟨B, hBe⟩ : ∃ z, W0.heap.size = z := ⟨_, rfl⟩
  have hB3 : w.heap.size + 3 ≤ B := by have := hbo.lt; omega
  have hzB : B ≤ W0.heap.size := by omega
  clear hb0 hb1 hbo hg0 hBe
  go_wp2_with fail
  go_loopw [4] (fun i wr => ∃ (m : Nat) (wv : World) (G : Nat → Value × Value) (ys : List Lay) (zs : List Int) (ra rb : Option Addr) (yn rc zn rd : Nat), wv = wr ∧ m ≤ ks.length ∧ i = .int .i64 m ∧ KRow (But3 w.heap.size S) B wv (.slice ra yn rc) (.slice rb zn rd) ys zs G ∧ ys = (ks.take m).map evenL ∧ zs = (ks.take m).map (fun _ => 1) ∧ Grows w wv ∧ Blk wv w.heap.size 25 #[.int .i64 k, .int .i64 p, .slice a ks.length cap, .slice wa wn wc] ∧ Blk wv (w.heap.size + 1) 25 #[.int .i64 0, .int .i64 0, .slice none 0 0, .slice none 0 0] ∧ Blk wv (w.heap.size + 1 + 1) 25 #[.int .i64 k, .int .i64 p, .slice ra yn rc, .slice rb zn rd] ∧ B ≤ wv.heap.size) (fun i _ => ks.length - (intOf i).toNat)
  case atStart => exact ⟨0, _, noG, [], [], none, none, 0, 0, 0, 0, rfl, Nat.zero_le _, rfl, KRow.nil _ _ _, rfl, rfl, HG0.out, HB0.out, HB1.out, HBO.out, hzB⟩
  case round =>
    clear HB0 HB1 HBO HG0 hzB W0
    obtain ⟨m, wv, G2, ys, zs, ra, rb, yn, rc, zn, rd, rfl, hm, rfl, hro, hys, hzs, hg, hb0, hb1, hbo, hzB⟩ := hrel
    have HG := Lib.hid hg
    have HRO := Lib.hid hro
    have HB0 := Lib.hid hb0
    have HB1 := Lib.hid hb1
    have HBO := Lib.hid hbo
    obtain ⟨a0, a1, a2, a3⟩ := hb0.four
    obtain ⟨b0, b1, b2, b3⟩ := hbo.four
    have hl0 := hb0.lt
    have hlo := hbo.lt
    have hyl : ys.length ≤ m := by rw [hys, List.length_map, List.length_take]; omega
    have hzl : zs.length ≤ m := by rw [hzs, List.length_map, List.length_take]; omega
    have HYZ := Lib.hid (And.intro hys hzs)
    clear hys hzs hb0 hb1 hbo
    by_cases hlt : m < ks.length
    · obtain ⟨b, off, x, ka, kn, kc, xa, xn, xc, rfl, hb, hbn, hx, hmem, -, -, e0, e1, e4, e3, hL⟩ := (Hin.out.grows hg).at_ hlt
      have hLx := hL.mono (S' := Off (But3 w.heap.size S) (.slice ra yn rc) (.slice rb zn rd)) fun b _ hb => hro.old b (by have := hb.2; omega) ⟨hb.1, .inl hb.2⟩
      have HC := Lib.hid fun W (g : Grows wv W) => HI.out x hmem (Off (But3 w.heap.size S) (.slice ra yn rc) (.slice rb zn rd)) _ _ W ((hro.grows g).fresh (but3_fresh HS.out (by have := g.size; omega))) (hLx.grows g)
      have hYS : ys ++ [evenL x] = (ks.take (m + 1)).map evenL := by rw [take_snoc hx, List.map_append, ← HYZ.out.1]; rfl
      have hZS : zs ++ [1] = (ks.take (m + 1)).map (fun _ => 1) := by rw [take_snoc hx, List.map_append, ← HYZ.out.2]; rfl
      obtain ⟨y, hy⟩ : ∃ z, evenL x = z := ⟨_, rfl⟩
      rw [hy] at HC hYS
      have HYS := Lib.hid (And.intro hYS hZS)
      have HE := Lib.hid (⟨hb, by have := hbn.2; omega, e0, e1, e4, e3⟩ : b < wv.heap.size ∧ b < w.heap.size + 3 ∧ wv.cell? ⟨b, off + m * 4, none⟩ = some (.int .i64 x.kind) ∧ wv.cell? ⟨b, off + m * 4 + 1, none⟩ = some (.int .i64 x.pane) ∧ wv.cell? ⟨b, off + m * 4 + 2, none⟩ = some (.slice ka kn kc) ∧ wv.cell? ⟨b, off + m * 4 + 3, none⟩ = some (.slice xa xn xc))
      have HOO : w.heap.size + 1 + 1 < w.heap.size + 3 := by omega
      clear hro hg hx hmem hL hLx hYS hZS hy e0 e1 e4 e3
      go_upto_region 5 with fail
      have HFS432 := Lib.hid fun w' (hSw : Same (fun b => b < w.heap.size + 3) wv w') => And.intro ((HB0.out.same hSw (by omega)).four) (And.intro ((HBO.out.same hSw (by omega)).four) (And.intro ((HB0.out.same hSw (by omega)).lt) (And.intro ((HBO.out.same hSw (by omega)).lt) (And.intro ((hSw.cell (i := off + m * 4) HE.out.1 HE.out.2.1).trans HE.out.2.2.1) (And.intro ((hSw.cell (i := off + m * 4 + 1) HE.out.1 HE.out.2.1).trans HE.out.2.2.2.1) (And.intro ((hSw.cell (i := off + m * 4 + 2) HE.out.1 HE.out.2.1).trans HE.out.2.2.2.2.1) (And.intro ((hSw.cell (i := off + m * 4 + 3) HE.out.1 HE.out.2.1).trans HE.out.2.2.2.2.2) (Nat.lt_of_lt_of_le HE.out.1 hSw.size))))))))
      have hgS := Grows.refl wv
      refine wp_region_B [11] (fun w' => Same (fun b => b < w.heap.size + 3 ∧ b ≠ w.heap.size + 1 + 1) wv w') (fun w' => Same (fun b => b < w.heap.size + 3) wv w') (by kernel_rfl) ⟨Grows.same (hgS.trans (by repeat' (first | (with_reducible exact hgc) | (with_reducible exact Grows.refl _) | (with_reducible refine Grows.alloc ?_ _) | (with_reducible refine Grows.drew ?_) | (with_reducible refine Grows.ext ?_ _ _)))) _, Grows.same (hgS.trans (by repeat' (first | (with_reducible exact hgc) | (with_reducible exact Grows.refl _) | (with_reducible refine Grows.alloc ?_ _) | (with_reducible refine Grows.drew ?_) | (with_reducible refine Grows.ext ?_ _ _)))) _⟩ (fun hHeld => ?_)
      refine abs_anyB (fun W' => Grows wv W' ∧ True) ⟨(by repeat' (first | (with_reducible exact hgc) | (with_reducible exact Grows.refl _) | (with_reducible refine Grows.alloc ?_ _) | (with_reducible refine Grows.drew ?_) | (with_reducible refine Grows.ext ?_ _ _))), trivial⟩ ?_
      clear hHeld
      rintro X433 ⟨hgn, hex⟩
      have hgS := hgS.trans hgn
      have hsS := hgS.size
      clear hgn hex
      have hHeld := And.intro (Grows.same hgS (fun b => b < w.heap.size + 3 ∧ b ≠ w.heap.size + 1 + 1)) (Grows.same hgS (fun b => b < w.heap.size + 3))
      refine anyB_take (i := 0) (v := ?v434_0) rfl (by kernel_rfl) (by kernel_rfl) (by kernel_rfl) (by kernel_rfl) (fun _ _ _ h => h) (Or.inl ⟨by kernel_rfl, ?y434_0⟩) (by kernel_rfl) hHeld ?r434_0
      case y434_0 => ((rintro w ⟨hTw, hSw⟩; obtain ⟨⟨a0, a1, a2, a3⟩, ⟨b0, b1, b2, b3⟩, hl0, hlo, e0', e1', e2', e3', hbw⟩ := HFS432.out _ hSw; clear hSw hTw; go_simp); (try go_ints); (try with_reducible rfl))
      try simp only [Act.put, List.getElem_toArray, List.getElem_cons_zero, List.setIfInBounds_toArray, List.set_cons_zero, List.set_cons_succ]
      refine anyB_take (i := 1) (v := ?v435_1) rfl (by kernel_rfl) (by kernel_rfl) (by kernel_rfl) (by kernel_rfl) (fun _ _ _ h => h) (Or.inl ⟨by kernel_rfl, ?y435_1⟩) (by kernel_rfl) hHeld ?r435_1
      case y435_1 => ((rintro w ⟨hTw, hSw⟩; obtain ⟨⟨a0, a1, a2, a3⟩, ⟨b0, b1, b2, b3⟩, hl0, hlo, e0', e1', e2', e3', hbw⟩ := HFS432.out _ hSw; clear hSw hTw; go_simp); (try go_ints); (try with_reducible rfl))
      try simp only [Act.put, List.getElem_toArray, List.getElem_cons_succ, List.getElem_cons_zero, List.setIfInBounds_toArray, List.set_cons_zero, List.set_cons_succ]
      refine anyB_take (i := 2) (v := ?v436_2) rfl (by kernel_rfl) (by kernel_rfl) (by kernel_rfl) (by kernel_rfl) (fun _ _ _ h => h) (Or.inl ⟨by kernel_rfl, ?y436_2⟩) (by kernel_rfl) hHeld ?r436_2
      case y436_2 => ((rintro w ⟨hTw, hSw⟩; obtain ⟨⟨a0, a1, a2, a3⟩, ⟨b0, b1, b2, b3⟩, hl0, hlo, e0', e1', e2', e3', hbw⟩ := HFS432.out _ hSw; clear hSw hTw; go_simp); (try go_ints); (try with_reducible rfl))
      try simp only [Act.put, List.getElem_toArray, List.getElem_cons_succ, List.getElem_cons_zero, List.setIfInBounds_toArray, List.set_cons_zero, List.set_cons_succ]
      refine anyB_take (i := 3) (v := ?v437_3) rfl (by kernel_rfl) (by kernel_rfl) (by kernel_rfl) (by kernel_rfl) (fun _ _ _ h => h) (Or.inl ⟨by kernel_rfl, ?y437_3⟩) (by kernel_rfl) hHeld ?r437_3
      case y437_3 => ((rintro w ⟨hTw, hSw⟩; obtain ⟨⟨a0, a1, a2, a3⟩, ⟨b0, b1, b2, b3⟩, hl0, hlo, e0', e1', e2', e3', hbw⟩ := HFS432.out _ hSw; clear hSw hTw; go_simp); (try go_ints); (try with_reducible rfl))
      try simp only [Act.put, List.getElem_toArray, List.getElem_cons_succ, List.getElem_cons_zero, List.setIfInBounds_toArray, List.set_cons_zero, List.set_cons_succ]
      refine anyB_take (i := 4) (v := ?v438_4) rfl (by kernel_rfl) (by kernel_rfl) (by kernel_rfl) (by kernel_rfl) (fun _ _ _ h => h) (Or.inl ⟨by kernel_rfl, ?y438_4⟩) (by kernel_rfl) hHeld ?r438_4
      case y438_4 => ((rintro w ⟨hTw, hSw⟩; obtain ⟨⟨a0, a1, a2, a3⟩, ⟨b0, b1, b2, b3⟩, hl0, hlo, e0', e1', e2', e3', hbw⟩ := HFS432.out _ hSw; clear hSw hTw; go_simp); (try go_ints); (try with_reducible rfl))
      try simp only [Act.put, List.getElem_toArray, List.getElem_cons_succ, List.getElem_cons_zero, List.setIfInBounds_toArray, List.set_cons_zero, List.set_cons_succ]
      refine anyB_take (i := 5) (v := ?v439_5) rfl (by kernel_rfl) (by kernel_rfl) (by kernel_rfl) (by kernel_rfl) (fun _ _ _ h => h) (Or.inl ⟨by kernel_rfl, ?y439_5⟩) (by kernel_rfl) hHeld ?r439_5
      case y439_5 => ((rintro w ⟨hTw, hSw⟩; obtain ⟨⟨a0, a1, a2, a3⟩, ⟨b0, b1, b2, b3⟩, hl0, hlo, e0', e1', e2', e3', hbw⟩ := HFS432.out _ hSw; clear hSw hTw; go_simp); (try go_ints); (try with_reducible rfl))
      try simp only [Act.put, List.getElem_toArray, List.getElem_cons_succ, List.getElem_cons_zero, List.setIfInBounds_toArray, List.set_cons_zero, List.set_cons_succ]
      refine anyB_take (i := 6) (v := ?v440_6) rfl (by kernel_rfl) (by kernel_rfl) (by kernel_rfl) (by kernel_rfl) (fun _ _ _ h => h) (Or.inl ⟨by kernel_rfl, ?y440_6⟩) (by kernel_rfl) hHeld ?r440_6
      case y440_6 => ((rintro w ⟨hTw, hSw⟩; obtain ⟨⟨a0, a1, a2, a3⟩, ⟨b0, b1, b2, b3⟩, hl0, hlo, e0', e1', e2', e3', hbw⟩ := HFS432.out _ hSw; clear hSw hTw; go_simp); (try go_ints); (try with_reducible rfl))
      try simp only [Act.put, List.getElem_toArray, List.getElem_cons_succ, List.getElem_cons_zero, List.setIfInBounds_toArray, List.set_cons_zero, List.set_cons_succ]
      refine anyB_ready (i := 7) (by kernel_rfl) rfl (fun K hK => ?_)
      simp only [List.getElem_toArray, List.getElem_cons_succ, List.getElem_cons_zero]
      go_simp
      (go_at_call 49; (go_must (with_reducible refine (HC.out _ hgS).mono ?_)); rintro e w7 hE; obtain ⟨ka7, kc7, wa7, wc7, rfl, hl7, hgc⟩ := hE.open_)
      refine hK.out _ _ ⟨?_, ?_⟩ ?_
      · ((try dsimp only); exact Grows.same (hgS.trans (by repeat' (first | (with_reducible exact hgc) | (with_reducible exact Grows.refl _) | (with_reducible refine Grows.alloc ?_ _) | (with_reducible refine Grows.drew ?_) | (with_reducible refine Grows.ext ?_ _ _)))) _)
      · ((try dsimp only); exact Grows.same (hgS.trans (by repeat' (first | (with_reducible exact hgc) | (with_reducible exact Grows.refl _) | (with_reducible refine Grows.alloc ?_ _) | (with_reducible refine Grows.drew ?_) | (with_reducible refine Grows.ext ?_ _ _)))) _)
      clear hK K hHeld
      intro hHeld
      try simp only [Act.put, List.getElem_toArray, List.getElem_cons_succ, List.getElem_cons_zero, List.setIfInBounds_toArray, List.set_cons_zero, List.set_cons_succ]
      refine abs_anyB (fun W' => Grows X433 W' ∧ LayAt (Off (But3 w.heap.size S) (.slice ra yn rc) (.slice rb zn rd)) W' y (.slice ka7 y.kids.length kc7) (.slice wa7 y.ws.length wc7)) ⟨(by repeat' (first | (with_reducible exact hgc) | (with_reducible exact Grows.refl _) | (with_reducible refine Grows.alloc ?_ _) | (with_reducible refine Grows.drew ?_) | (with_reducible refine Grows.ext ?_ _ _))), hl7⟩ ?_
      clear hHeld
      rintro X441 ⟨hgn, hex⟩
      have HL7 := Lib.hid hex
      have hgS := hgS.trans hgn
      have hsS := hgS.size
      clear hgn hex
      have hHeld := And.intro (Grows.same hgS (fun b => b < w.heap.size + 3 ∧ b ≠ w.heap.size + 1 + 1)) (Grows.same hgS (fun b => b < w.heap.size + 3))
      refine anyB_ready (i := 8) (by kernel_rfl) rfl (fun K hK => ?_)
      simp only [List.getElem_toArray, List.getElem_cons_succ, List.getElem_cons_zero]
      go_simp
      skip
      refine hK.out _ _ ⟨?_, ?_⟩ ?_
      · ((try dsimp only); exact Grows.same (hgS.trans (by repeat' (first | (with_reducible exact hgc) | (with_reducible exact Grows.refl _) | (with_reducible refine Grows.alloc ?_ _) | (with_reducible refine Grows.drew ?_) | (with_reducible refine Grows.ext ?_ _ _)))) _)
      · ((try dsimp only); exact Grows.same (hgS.trans (by repeat' (first | (with_reducible exact hgc) | (with_reducible exact Grows.refl _) | (with_reducible refine Grows.alloc ?_ _) | (with_reducible refine Grows.drew ?_) | (with_reducible refine Grows.ext ?_ _ _)))) _)
      clear hK K hHeld
      intro hHeld
      try simp only [Act.put, List.getElem_toArray, List.getElem_cons_succ, List.getElem_cons_zero, List.setIfInBounds_toArray, List.set_cons_zero, List.set_cons_succ]
      refine abs_anyB (fun W' => Grows X441 W' ∧ CellsAt 4 W' _ 1 (kidC [y] (fun _ => (.slice ka7 y.kids.length kc7, .slice wa7 y.ws.length wc7)))) ⟨(by repeat' (first | (with_reducible exact hgc) | (with_reducible exact Grows.refl _) | (with_reducible refine Grows.alloc ?_ _) | (with_reducible refine Grows.drew ?_) | (with_reducible refine Grows.ext ?_ _ _))), cells_kid rfl⟩ ?_
      clear hHeld
      rintro X442 ⟨hgn, hex⟩
      have HL7 := Lib.hid (HL7.out.grows hgn)
      have HCE := Lib.hid hex
      have hgS := hgS.trans hgn
      have hsS := hgS.size
      clear hgn hex
      have hHeld := And.intro (Grows.same hgS (fun b => b < w.heap.size + 3 ∧ b ≠ w.heap.size + 1 + 1)) (Grows.same hgS (fun b => b < w.heap.size + 3))
      refine anyB_ready (i := 9) (by kernel_rfl) rfl (fun K hK => ?_)
      simp only [List.getElem_toArray, List.getElem_cons_succ, List.getElem_cons_zero]
      rw [if_pos (by kernel_rfl)]
      (go_must (refine wp_appO _ (.tmp 18) (.tmp 25) 22 rfl B 25 i25 _ 4 64 Try.underlying22 hi25 hz25 hs25 hb25 rfl (by decide) ys.length 1 (kidC ys G2) (kidC [y] (fun _ => (.slice ka7 y.kids.length kc7, .slice wa7 y.ws.length wc7))) (KRow.rowK (HRO.out.grows hgS)) HCE.out (kid_one HL7.out) (by unfold maxLen; omega) (by omega) (by omega) ?_)); (go_must (intro v8 w8 row8 q1 q2 q3 q4; have hrk := (HRO.out.grows hgS).addK HL7.out rfl q1 q2 q3 q4; have hg8 : Grows w w8 := appended_grows (HG.out.trans hgS) q2 (fun k e => by have := (q3 k e).1; omega); have hne : ∀ n, n < B → row8 ≠ some n := (fun n hn e => by have := (q3 n e).1; omega); have hb0 := (HB0.out.grows hgS).kept q2 (hne _ (by omega)); have hb1 := (HB1.out.grows hgS).kept q2 (hne _ (by omega)); have hbo := (HBO.out.grows hgS).kept q2 (hne _ (by omega)); have hz8 : B ≤ w8.heap.size := Nat.le_trans (show B ≤ _ by omega) q2.size; have hT8 : Same (fun b => b < w.heap.size + 3 ∧ b ≠ w.heap.size + 1 + 1) wv w8 := (Grows.same hgS _).trans (same_grown q2 fun k e hb => by have := (q3 k e).1; have := hb.1; omega); have hS8 : Same (fun b => b < w.heap.size + 3) wv w8 := (Grows.same hgS _).trans (same_grown q2 fun k e hb => by have := (q3 k e).1; omega); clear q1 q2 q3 q4; obtain ⟨⟨rx, cx, e5⟩, -⟩ := hrk.slices; generalize (ys ++ [y]).length = n5 at e5; subst e5))
      refine hK.out _ _ ⟨hT8, hS8⟩ ?_
      clear hK K hHeld
      intro hHeld
      try simp only [Act.put, List.setIfInBounds_toArray, List.set_cons_zero, List.set_cons_succ]
      refine anyB_takeT (i := 10) (v := ?v443_10) rfl (by kernel_rfl) (by kernel_rfl) (by kernel_rfl) (by kernel_rfl) (fun _ _ _ h => h) (Or.inl ⟨by kernel_rfl, ?y443_10⟩) hHeld.1 (fun _ => hHeld.2) ?r443_10
      case y443_10 => ((intro w hTw; skip; clear hTw; go_simp); (try go_ints); (try with_reducible rfl))
      try simp only [Act.put, List.getElem_toArray, List.getElem_cons_succ, List.getElem_cons_zero, List.setIfInBounds_toArray, List.set_cons_zero, List.set_cons_succ]
      refine anyB_over (i := 11) (by kernel_rfl) rfl (by kernel_rfl) (fun K hK => ?_)
      simp only [List.getElem_toArray, List.getElem_cons_succ, List.getElem_cons_zero]
      obtain ⟨b0, b1, b2, b3⟩ := hbo.four
      obtain ⟨f0, f1, f2, f3⟩ := hbo.four'
      have hlo := hbo.lt
      go_simp
      skip
      refine hK.out _ _ ?_ ?_
      · ((try dsimp only); exact (by repeat' (first | (with_reducible exact hT8) | (with_reducible exact Grows.same hgS _) | (with_reducible exact Grows.same (hgS.trans hgc) _) | (with_reducible refine Same.trans ?_ (same_set (fun h => Ne.irrefl h.2))))))
      clear hK K hHeld
      intro hHeld
      try simp only [Act.put, List.getElem_toArray, List.getElem_cons_succ, List.getElem_cons_zero, List.setIfInBounds_toArray, List.set_cons_zero, List.set_cons_succ]
      refine anyB_done (by kernel_rfl) ?_ _
      try clear hHeld
      refine abs_exit (fun W => Grows w W ∧ KRow (But3 w.heap.size S) B W (.slice rx n5 cx) (.slice rb zn rd) (ys ++ [y]) zs _ ∧ Blk W w.heap.size 25 #[.int .i64 k, .int .i64 p, .slice (some ⟨b, off, none⟩) ks.length cap, .slice wa wn wc] ∧ Blk W (w.heap.size + 1) 25 #[.int .i64 0, .int .i64 0, .slice none 0 0, .slice none 0 0] ∧ Blk W (w.heap.size + 1 + 1) 25 #[.int .i64 k, .int .i64 p, .slice rx n5 cx, .slice rb zn rd] ∧ B ≤ W.heap.size) ⟨hg8.setCell (by omega) _, hrk.set (by omega) (but3_not (by omega)), hb0.other (by omega), hb1.other (by omega), hbo.set 2 _, Nat.le_trans hz8 (but3_set (n := w.heap.size) (S := S) (by omega)).size⟩ ?_
      clear hg8 hrk hb0 hb1 hbo hz8 hT8 hS8 hne a0 a1 a2 a3 b0 b1 b2 b3 f0 f1 f2 f3 hl0 hlo
      rintro W5 ⟨hg5, hr5, hb5, hb6, hb7, hz5⟩
      have HG5 := Lib.hid hg5
      have HR5 := Lib.hid hr5
      have HB5 := Lib.hid hb5
      have HB6 := Lib.hid hb6
      have HB7 := Lib.hid hb7
      obtain ⟨a0, a1, a2, a3⟩ := hb5.four
      obtain ⟨b0, b1, b2, b3⟩ := hb7.four
      have hl0 := hb5.lt
      have hlo := hb7.lt
      clear hg5 hr5 hb5 hb6 hb7
      go_wp2_with (at_builtin; (go_must (refine wpList_appO _ rfl (.tmp 29) (.tmp 30) 23 rfl B 3 i3 _ 1 8 Try.underlying23 hi3 hz3 hs3 hb3 rfl (by decide) zs.length 1 (intC zs) (intC [1]) (KRow.rowW (HR5.out.grows (by repeat' (first | (with_reducible exact Grows.refl _) | (with_reducible refine Grows.alloc ?_ _) | (with_reducible refine Grows.drew ?_) | (with_reducible refine Grows.ext ?_ _ _))))) (cells_int1 rfl) (intC_one _) (by unfold maxLen; omega) (by omega) (Nat.le_trans hz5 (Grows.size (w := W5) (by repeat' (first | (with_reducible exact Grows.refl _) | (with_reducible refine Grows.alloc ?_ _) | (with_reducible refine Grows.drew ?_) | (with_reducible refine Grows.ext ?_ _ _))))) ?_)); (go_must (intro v9 w9 row9 q1 q2 q3 q4; have hrk := (HR5.out.grows (by repeat' (first | (with_reducible exact Grows.refl _) | (with_reducible refine Grows.alloc ?_ _) | (with_reducible refine Grows.drew ?_) | (with_reducible refine Grows.ext ?_ _ _)))).addW rfl q1 q2 q3 q4; have hg9 : Grows w w9 := appended_grows (HG5.out.trans (by repeat' (first | (with_reducible exact Grows.refl _) | (with_reducible refine Grows.alloc ?_ _) | (with_reducible refine Grows.drew ?_) | (with_reducible refine Grows.ext ?_ _ _)))) q2 (fun k e => by have := (q3 k e).1; omega); have hne : ∀ n, n < B → row9 ≠ some n := (fun n hn e => by have := (q3 n e).1; omega); have hb0 := (HB5.out.grows (by repeat' (first | (with_reducible exact Grows.refl _) | (with_reducible refine Grows.alloc ?_ _) | (with_reducible refine Grows.drew ?_) | (with_reducible refine Grows.ext ?_ _ _)))).kept q2 (hne _ (by omega)); have hb1 := (HB6.out.grows (by repeat' (first | (with_reducible exact Grows.refl _) | (with_reducible refine Grows.alloc ?_ _) | (with_reducible refine Grows.drew ?_) | (with_reducible refine Grows.ext ?_ _ _)))).kept q2 (hne _ (by omega)); have hbo := (HB7.out.grows (by repeat' (first | (with_reducible exact Grows.refl _) | (with_reducible refine Grows.alloc ?_ _) | (with_reducible refine Grows.drew ?_) | (with_reducible refine Grows.ext ?_ _ _)))).kept q2 (hne _ (by omega)); have hz9 : B ≤ w9.heap.size := Nat.le_trans (Nat.le_trans hz5 (Grows.size (w := W5) (by repeat' (first | (with_reducible exact Grows.refl _) | (with_reducible refine Grows.alloc ?_ _) | (with_reducible refine Grows.drew ?_) | (with_reducible refine Grows.ext ?_ _ _))))) q2.size; clear q1 q2 q3 q4; obtain ⟨-, ⟨ry, cy, e6⟩⟩ := hrk.slices; generalize (zs ++ [1]).length = n6 at e6; subst e6; obtain ⟨b0, b1, b2, b3⟩ := hbo.four; obtain ⟨f0, f1, f2, f3⟩ := hbo.four'; have hlo := hbo.lt)))
      go_roundw
      case rel => exact ⟨m + 1, _, _, ys ++ [y], zs ++ [1], _, _, _, _, _, _, rfl, by omega, by go_num, hrk.set (by omega) (but3_not (by omega)), HYS.out.1, HYS.out.2, hg9.setCell (by omega) _, hb0.other (by omega), hb1.other (by omega), hbo.set 3 _, Nat.le_trans hz9 (but3_set (n := w.heap.size) (S := S) (by omega)).size⟩
      case measure => simp [intOf]; omega
    · have e : m = ks.length := by omega
      subst e
      have hY : (ks.take ks.length).map evenL = ks.map evenL := by rw [List.take_length]
      have hZ : (ks.take ks.length).map (fun _ => (1 : Int)) = ks.map (fun _ => 1) := by rw [List.take_length]
      have hsh := hro.shut (k := k) (p := p) (but3_fresh HS.out hB3) (by omega) (by omega)
      rw [HYZ.out.1, HYZ.out.2, hY, hZ] at hsh
      have HSH := Lib.hid hsh
      obtain ⟨d0, d1, d2, d3⟩ := HB1.out.four
      obtain ⟨f0, f1, f2, f3⟩ := HB1.out.four'
      have hl1 := HB1.out.lt
      clear hro hsh hY hZ hg
      go_wp2_with fail
      refine ret_cell (t := 25) (n := w.heap.size + 1) (cs := #[.int .i64 k, .int .i64 p, .slice ra yn rc, .slice rb zn rd]) rfl rfl ?_ Try.underlying25 rfl (by kernel_rfl) rfl ?_
      · exact HB1.out.set4
      · exact ⟨_, _, rfl, (HSH.out.same (but3_set4 (by omega) _ _ _ _)).unbut3, HG.out.set4 (by omega) _ _ _ _⟩
end Go.Proofs.Ytbobpgegkmcapaa

namespace Go.Proofs.Ytbobpgegkmcapaa
open Go.RowKit

theorem swapP_1 {x y p : Int} (h : p = x) : swapP x y p = y := by rw [swapP, if_pos h]
theorem swapP_2 {x y p : Int} (h : ¬ p = x) (h2 : p = y) : swapP x y p = x := by rw [swapP, if_neg h, if_pos h2]
theorem swapP_3 {x y p : Int} (h : ¬ p = x) (h2 : ¬ p = y) : swapP x y p = p := by rw [swapP, if_neg h, if_neg h2]
set_option maxRecDepth 100000 in
set_option maxHeartbeats 4000000 in
theorem rswap_leaf1 {S : Nat → Prop} (x y p : Int) (px : (p == x) = true) (py : (p == y) = true) (a wa : Option Addr) (cap wc : Nat) (w : World) (hi : IntsAt S w (.slice wa 0 wc) []) : Calls Try.prog 53 #[.agg #[.int .i64 1, .int .i64 p, .slice a 0 cap, .slice wa 0 wc], .int .i64 x, .int .i64 y] w (fun e w' => LRes S w w' (leafL x) e) := by
  have HI := Lib.hid hi
  clear hi
  go_enter Try.func53, Try.ntmps53
  go_upto_region 2 with fail
  refine abs_worldM (fun W => Grows w W ∧ Blk W w.heap.size 25 #[.int .i64 1, .int .i64 p, .slice a 0 cap, .slice wa 0 wc] ∧ Blk W (w.heap.size + 1) 25 #[.int .i64 0, .int .i64 0, .slice none 0 0, .slice none 0 0] ∧ Blk W (w.heap.size + 1 + 1) 25 #[.int .i64 1, .int .i64 p, .slice none 0 0, .slice wa 0 wc]) (boxes3 _ _ _ _) ?_
  rintro W0 ⟨hg0, hb0, hb1, hbo⟩
  obtain ⟨a0, a1, a2, a3⟩ := hb0.four
  obtain ⟨b0, b1, b2, b3⟩ := hbo.four
  obtain ⟨f0, f1, f2, f3⟩ := hbo.four'
  have hl0 := hb0.lt
  have hlo := hbo.lt
  have HB0 := Lib.hid hb0
  have HB1 := Lib.hid hb1
  have HBO := Lib.hid hbo
  have HG0 := Lib.hid hg0
  clear hb0 hb1 hbo hg0
  go_upto_block 0 with fail
  refine abs_worldM (fun W => Grows w W ∧ Blk W w.heap.size 25 #[.int .i64 1, .int .i64 p, .slice a 0 cap, .slice wa 0 wc] ∧ Blk W (w.heap.size + 1) 25 #[.int .i64 0, .int .i64 0, .slice none 0 0, .slice none 0 0] ∧ Blk W (w.heap.size + 1 + 1) 25 #[.int .i64 1, .int .i64 x, .slice none 0 0, .slice wa 0 wc]) ⟨((HG0.out).setCell (by omega) _).setCell (by omega) _, ((HB0.out).other (by omega)).other (by omega), ((HB1.out).other (by omega)).other (by omega), ((HBO.out).set 1 _).set 1 _⟩ ?_
  clear a0 a1 a2 a3 b0 b1 b2 b3 f0 f1 f2 f3 hl0 hlo HB0 HB1 HBO HG0
  rintro W1 ⟨hg0, hb0, hb1, hbo⟩
  have HB0 := Lib.hid hb0
  have HB1 := Lib.hid hb1
  have HBO := Lib.hid hbo
  have HG0 := Lib.hid hg0
  clear hb0 hb1 hbo hg0
  go_wp2_with fail
  go_loopw [8] (fun i wr => ∃ (wv : World), wv = wr ∧ i = .int .i64 0 ∧ wv = W1) (fun i _ => 0)
  case atStart => exact ⟨_, rfl, rfl, rfl⟩
  case round =>
    obtain ⟨wv, rfl, rfl, rfl⟩ := hrel
    obtain ⟨a0, a1, a2, a3⟩ := HB0.out.four
    obtain ⟨b0, b1, b2, b3⟩ := HBO.out.four
    obtain ⟨d0, d1, d2, d3⟩ := HB1.out.four
    obtain ⟨f0, f1, f2, f3⟩ := HB1.out.four'
    have hl0 := HB0.out.lt
    have hl1 := HB1.out.lt
    have hlo := HBO.out.lt
    go_wp2_with fail
    refine ret_cell (t := 25) (n := w.heap.size + 1) (cs := #[.int .i64 1, .int .i64 x, .slice none 0 0, .slice wa 0 wc]) rfl rfl ?_ Try.underlying25 rfl (by kernel_rfl) rfl ?_
    · exact HB1.out.set4
    · have hg9 := HG0.out.set4 (n := w.heap.size + 1) (by omega) (.int .i64 1) (.int .i64 x) (.slice none 0 0) (.slice wa 0 wc)
      exact ⟨_, _, rfl, LayAt_mk.2 ⟨HI.out.grows hg9, KidsAt.nil _ _ _ _⟩, hg9⟩
set_option maxRecDepth 100000 in
set_option maxHeartbeats 4000000 in
theorem rswap_leaf2 {S : Nat → Prop} (x y p : Int) (px : (p == x) = true) (py : (p == y) = false) (a wa : Option Addr) (cap wc : Nat) (w : World) (hi : IntsAt S w (.slice wa 0 wc) []) : Calls Try.prog 53 #[.agg #[.int .i64 1, .int .i64 p, .slice a 0 cap, .slice wa 0 wc], .int .i64 x, .int .i64 y] w (fun e w' => LRes S w w' (leafL y) e) := by
  have HI := Lib.hid hi
  clear hi
  go_enter Try.func53, Try.ntmps53
  go_upto_region 2 with fail
  refine abs_worldM (fun W => Grows w W ∧ Blk W w.heap.size 25 #[.int .i64 1, .int .i64 p, .slice a 0 cap, .slice wa 0 wc] ∧ Blk W (w.heap.size + 1) 25 #[.int .i64 0, .int .i64 0, .slice none 0 0, .slice none 0 0] ∧ Blk W (w.heap.size + 1 + 1) 25 #[.int .i64 1, .int .i64 p, .slice none 0 0, .slice wa 0 wc]) (boxes3 _ _ _ _) ?_
  rintro W0 ⟨hg0, hb0, hb1, hbo⟩
  obtain ⟨a0, a1, a2, a3⟩ := hb0.four
  obtain ⟨b0, b1, b2, b3⟩ := hbo.four
  obtain ⟨f0, f1, f2, f3⟩ := hbo.four'
  have hl0 := hb0.lt
  have hlo := hbo.lt
  have HB0 := Lib.hid hb0
  have HB1 := Lib.hid hb1
  have HBO := Lib.hid hbo
  have HG0 := Lib.hid hg0
  clear hb0 hb1 hbo hg0
  go_upto_block 0 with fail
  refine abs_worldM (fun W => Grows w W ∧ Blk W w.heap.size 25 #[.int .i64 1, .int .i64 p, .slice a 0 cap, .slice wa 0 wc] ∧ Blk W (w.heap.size + 1) 25 #[.int .i64 0, .int .i64 0, .slice none 0 0, .slice none 0 0] ∧ Blk W (w.heap.size + 1 + 1) 25 #[.int .i64 1, .int .i64 y, .slice none 0 0, .slice wa 0 wc]) ⟨(HG0.out).setCell (by omega) _, (HB0.out).other (by omega), (HB1.out).other (by omega), (HBO.out).set 1 _⟩ ?_
  clear a0 a1 a2 a3 b0 b1 b2 b3 f0 f1 f2 f3 hl0 hlo HB0 HB1 HBO HG0
  rintro W1 ⟨hg0, hb0, hb1, hbo⟩
  have HB0 := Lib.hid hb0
  have HB1 := Lib.hid hb1
  have HBO := Lib.hid hbo
  have HG0 := Lib.hid hg0
  clear hb0 hb1 hbo hg0
  go_wp2_with fail
  go_loopw [8] (fun i wr => ∃ (wv : World), wv = wr ∧ i = .int .i64 0 ∧ wv = W1) (fun i _ => 0)
  case atStart => exact ⟨_, rfl, rfl, rfl⟩
  case round =>
    obtain ⟨wv, rfl, rfl, rfl⟩ := hrel
    obtain ⟨a0, a1, a2, a3⟩ := HB0.out.four
    obtain ⟨b0, b1, b2, b3⟩ := HBO.out.four
    obtain ⟨d0, d1, d2, d3⟩ := HB1.out.four
    obtain ⟨f0, f1, f2, f3⟩ := HB1.out.four'
    have hl0 := HB0.out.lt
    have hl1 := HB1.out.lt
    have hlo := HBO.out.lt
    go_wp2_with fail
    refine ret_cell (t := 25) (n := w.heap.size + 1) (cs := #[.int .i64 1, .int .i64 y, .slice none 0 0, .slice wa 0 wc]) rfl rfl ?_ Try.underlying25 rfl (by kernel_rfl) rfl ?_
    · exact HB1.out.set4
    · have hg9 := HG0.out.set4 (n := w.heap.size + 1) (by omega) (.int .i64 1) (.int .i64 y) (.slice none 0 0) (.slice wa 0 wc)
      exact ⟨_, _, rfl, LayAt_mk.2 ⟨HI.out.grows hg9, KidsAt.nil _ _ _ _⟩, hg9⟩
set_option maxRecDepth 100000 in
set_option maxHeartbeats 4000000 in
theorem rswap_leaf3 {S : Nat → Prop} (x y p : Int) (px : (p == x) = false) (py : (p == y) = true) (a wa : Option Addr) (cap wc : Nat) (w : World) (hi : IntsAt S w (.slice wa 0 wc) []) : Calls Try.prog 53 #[.agg #[.int .i64 1, .int .i64 p, .slice a 0 cap, .slice wa 0 wc], .int .i64 x, .int .i64 y] w (fun e w' => LRes S w w' (leafL x) e) := by
  have HI := Lib.hid hi
  clear hi
  go_enter Try.func53, Try.ntmps53
  go_upto_region 2 with fail
  refine abs_worldM (fun W => Grows w W ∧ Blk W w.heap.size 25 #[.int .i64 1, .int .i64 p, .slice a 0 cap, .slice wa 0 wc] ∧ Blk W (w.heap.size + 1) 25 #[.int .i64 0, .int .i64 0, .slice none 0 0, .slice none 0 0] ∧ Blk W (w.heap.size + 1 + 1) 25 #[.int .i64 1, .int .i64 p, .slice none 0 0, .slice wa 0 wc]) (boxes3 _ _ _ _) ?_
  rintro W0 ⟨hg0, hb0, hb1, hbo⟩
  obtain ⟨a0, a1, a2, a3⟩ := hb0.four
  obtain ⟨b0, b1, b2, b3⟩ := hbo.four
  obtain ⟨f0, f1, f2, f3⟩ := hbo.four'
  have hl0 := hb0.lt
  have hlo := hbo.lt
  have HB0 := Lib.hid hb0
  have HB1 := Lib.hid hb1
  have HBO := Lib.hid hbo
  have HG0 := Lib.hid hg0
  clear hb0 hb1 hbo hg0
  go_upto_block 0 with fail
  refine abs_worldM (fun W => Grows w W ∧ Blk W w.heap.size 25 #[.int .i64 1, .int .i64 p, .slice a 0 cap, .slice wa 0 wc] ∧ Blk W (w.heap.size + 1) 25 #[.int .i64 0, .int .i64 0, .slice none 0 0, .slice none 0 0] ∧ Blk W (w.heap.size + 1 + 1) 25 #[.int .i64 1, .int .i64 x, .slice none 0 0, .slice wa 0 wc]) ⟨(HG0.out).setCell (by omega) _, (HB0.out).other (by omega), (HB1.out).other (by omega), (HBO.out).set 1 _⟩ ?_
  clear a0 a1 a2 a3 b0 b1 b2 b3 f0 f1 f2 f3 hl0 hlo HB0 HB1 HBO HG0
  rintro W1 ⟨hg0, hb0, hb1, hbo⟩
  have HB0 := Lib.hid hb0
  have HB1 := Lib.hid hb1
  have HBO := Lib.hid hbo
  have HG0 := Lib.hid hg0
  clear hb0 hb1 hbo hg0
  go_wp2_with fail
  go_loopw [8] (fun i wr => ∃ (wv : World), wv = wr ∧ i = .int .i64 0 ∧ wv = W1) (fun i _ => 0)
  case atStart => exact ⟨_, rfl, rfl, rfl⟩
  case round =>
    obtain ⟨wv, rfl, rfl, rfl⟩ := hrel
    obtain ⟨a0, a1, a2, a3⟩ := HB0.out.four
    obtain ⟨b0, b1, b2, b3⟩ := HBO.out.four
    obtain ⟨d0, d1, d2, d3⟩ := HB1.out.four
    obtain ⟨f0, f1, f2, f3⟩ := HB1.out.four'
    have hl0 := HB0.out.lt
    have hl1 := HB1.out.lt
    have hlo := HBO.out.lt
    go_wp2_with fail
    refine ret_cell (t := 25) (n := w.heap.size + 1) (cs := #[.int .i64 1, .int .i64 x, .slice none 0 0, .slice wa 0 wc]) rfl rfl ?_ Try.underlying25 rfl (by kernel_rfl) rfl ?_
    · exact HB1.out.set4
    · have hg9 := HG0.out.set4 (n := w.heap.size + 1) (by omega) (.int .i64 1) (.int .i64 x) (.slice none 0 0) (.slice wa 0 wc)
      exact ⟨_, _, rfl, LayAt_mk.2 ⟨HI.out.grows hg9, KidsAt.nil _ _ _ _⟩, hg9⟩
set_option maxRecDepth 100000 in
set_option maxHeartbeats 4000000 in
theorem rswap_leaf4 {S : Nat → Prop} (x y p : Int) (px : (p == x) = false) (py : (p == y) = false) (a wa : Option Addr) (cap wc : Nat) (w : World) (hi : IntsAt S w (.slice wa 0 wc) []) : Calls Try.prog 53 #[.agg #[.int .i64 1, .int .i64 p, .slice a 0 cap, .slice wa 0 wc], .int .i64 x, .int .i64 y] w (fun e w' => LRes S w w' (leafL p) e) := by
  have HI := Lib.hid hi
  clear hi
  go_enter Try.func53, Try.ntmps53
  go_upto_region 2 with fail
  refine abs_worldM (fun W => Grows w W ∧ Blk W w.heap.size 25 #[.int .i64 1, .int .i64 p, .slice a 0 cap, .slice wa 0 wc] ∧ Blk W (w.heap.size + 1) 25 #[.int .i64 0, .int .i64 0, .slice none 0 0, .slice none 0 0] ∧ Blk W (w.heap.size + 1 + 1) 25 #[.int .i64 1, .int .i64 p, .slice none 0 0, .slice wa 0 wc]) (boxes3 _ _ _ _) ?_
  rintro W0 ⟨hg0, hb0, hb1, hbo⟩
  obtain ⟨a0, a1, a2, a3⟩ := hb0.four
  obtain ⟨b0, b1, b2, b3⟩ := hbo.four
  obtain ⟨f0, f1, f2, f3⟩ := hbo.four'
  have hl0 := hb0.lt
  have hlo := hbo.lt
  have HB0 := Lib.hid hb0
  have HB1 := Lib.hid hb1
  have HBO := Lib.hid hbo
  have HG0 := Lib.hid hg0
  clear hb0 hb1 hbo hg0
  go_upto_block 0 with fail
  refine abs_worldM (fun W => Grows w W ∧ Blk W w.heap.size 25 #[.int .i64 1, .int .i64 p, .slice a 0 cap, .slice wa 0 wc] ∧ Blk W (w.heap.size + 1) 25 #[.int .i64 0, .int .i64 0, .slice none 0 0, .slice none 0 0] ∧ Blk W (w.heap.size + 1 + 1) 25 #[.int .i64 1, .int .i64 p, .slice none 0 0, .slice wa 0 wc]) ⟨HG0.out, HB0.out, HB1.out, HBO.out⟩ ?_
  clear a0 a1 a2 a3 b0 b1 b2 b3 f0 f1 f2 f3 hl0 hlo HB0 HB1 HBO HG0
  rintro W1 ⟨hg0, hb0, hb1, hbo⟩
  have HB0 := Lib.hid hb0
  have HB1 := Lib.hid hb1
  have HBO := Lib.hid hbo
  have HG0 := Lib.hid hg0
  clear hb0 hb1 hbo hg0
  go_wp2_with fail
  go_loopw [8] (fun i wr => ∃ (wv : World), wv = wr ∧ i = .int .i64 0 ∧ wv = W1) (fun i _ => 0)
  case atStart => exact ⟨_, rfl, rfl, rfl⟩
  case round =>
    obtain ⟨wv, rfl, rfl, rfl⟩ := hrel
    obtain ⟨a0, a1, a2, a3⟩ := HB0.out.four
    obtain ⟨b0, b1, b2, b3⟩ := HBO.out.four
    obtain ⟨d0, d1, d2, d3⟩ := HB1.out.four
    obtain ⟨f0, f1, f2, f3⟩ := HB1.out.four'
    have hl0 := HB0.out.lt
    have hl1 := HB1.out.lt
    have hlo := HBO.out.lt
    go_wp2_with fail
    refine ret_cell (t := 25) (n := w.heap.size + 1) (cs := #[.int .i64 1, .int .i64 p, .slice none 0 0, .slice wa 0 wc]) rfl rfl ?_ Try.underlying25 rfl (by kernel_rfl) rfl ?_
    · exact HB1.out.set4
    · have hg9 := HG0.out.set4 (n := w.heap.size + 1) (by omega) (.int .i64 1) (.int .i64 p) (.slice none 0 0) (.slice wa 0 wc)
      exact ⟨_, _, rfl, LayAt_mk.2 ⟨HI.out.grows hg9, KidsAt.nil _ _ _ _⟩, hg9⟩
theorem rswap_leaf {S : Nat → Prop} (x y p : Int) (a wa : Option Addr) (cap wc : Nat) (w : World) (hi : IntsAt S w (.slice wa 0 wc) []) : Calls Try.prog 53 #[.agg #[.int .i64 1, .int .i64 p, .slice a 0 cap, .slice wa 0 wc], .int .i64 x, .int .i64 y] w (fun e w' => LRes S w w' (leafL (swapP x y p)) e) := by
  by_cases hx : p = x
  · rw [swapP_1 hx]
    by_cases hy : p = y
    · have e : y = x := by omega
      rw [e]
      exact rswap_leaf1 x x p (by simpa using hx) (by simpa using hx) a wa cap wc w hi
    · exact rswap_leaf2 x y p (by simpa using hx) (by simpa using hy) a wa cap wc w hi
  · by_cases hy : p = y
    · rw [swapP_2 hx hy]
      exact rswap_leaf3 x y p (by simpa using hx) (by simpa using hy) a wa cap wc w hi
    · rw [swapP_3 hx hy]
      exact rswap_leaf4 x y p (by simpa using hx) (by simpa using hy) a wa cap wc w hi
set_option maxRecDepth 100000 in
set_option maxHeartbeats 4000000 in
theorem rswap_any (x y : Int) (L : Lay) : okTree L = true → (panesL L).length ≤ 1000 → ∀ (S : Nat → Prop) (vk vw : Value) (w : World), (∀ b, w.heap.size ≤ b → S b) → LayAt S w L vk vw → Calls Try.prog 53 #[.agg #[.int .i64 L.kind, .int .i64 L.pane, vk, vw], .int .i64 x, .int .i64 y] w (fun e w' => LRes S w w' (swapL x y L) e) := by
  induction L using Lay.ind with | h k p ks ws ih => ?_
  intro hok hn S vk vw w hS h
  by_cases hk : k = 1
  · have hf := leaf_of hok hk
    obtain ⟨rfl, -, rfl, rfl⟩ : k = 1 ∧ p = p ∧ ks = [] ∧ ws = [] := by
      unfold leafL at hf
      injection hf with e1 e2 e3 e4
      exact ⟨e1, rfl, e3, e4⟩
    obtain ⟨a, cap, rfl, -⟩ := h.kids.shape rfl
    obtain ⟨wa, wc, rfl, -⟩ := h.ints.shape rfl
    rw [swapL_mk, if_pos rfl]
    exact rswap_leaf x y p _ _ _ _ w h.ints
  have kk : (k == 1) = false := by simpa using hk
  obtain ⟨hv, hkok⟩ := okTree_iff.1 hok
  dsimp only [Lay.kids] at hkok
  have hks : ks.length ≤ 1000 ∧ ∀ x ∈ ks, (panesL x).length ≤ 1000 := by
    by_cases hk : k = 1
    · have hz : ks = [] := (validN_leaf hv hk).2.2.1
      rw [hz]
      exact ⟨Nat.zero_le _, fun x hx => by cases hx⟩
    · rw [panesL_mk, if_neg hk] at hn
      have := len_kids (ks := ks) hkok
      exact ⟨by omega, fun x hx => by have := len_mem hx; omega⟩
  obtain ⟨i25, hi25, hz25, hs25, hb25⟩ := info_parts info25
  obtain ⟨i3, hi3, hz3, hs3, hb3⟩ := info_parts info3
  obtain ⟨a, cap, G, rfl, hcap, hmx, hin⟩ := h.lt.kids.open_ rfl
  obtain ⟨wa, wc, rfl, -, -, hiw⟩ := h.ints.open_ rfl
  have hwi := h.lt.ints
  dsimp only [Lay.kids, Lay.ws, Lay.kind, Lay.pane] at hcap hmx hin hiw h hwi ⊢
  rw [swapL_mk, if_neg hk]
  have Hin := Lib.hid hin
  have HWI := Lib.hid hwi
  have HI := Lib.hid fun (x : Lay) (hx : x ∈ ks) => ih x hx (hkok x hx) (hks.2 x hx)
  have HS := Lib.hid hS
  have hkn := hks.1
  clear ih hok hn hS h hv hkok hin hiw hks hwi
  generalize ws.length = wn at *
  go_enter Try.func53, Try.ntmps53
  go_upto_region 2 with fail
  refine abs_worldM (fun W => Grows w W ∧ Blk W w.heap.size 25 #[.int .i64 k, .int .i64 p, .slice a ks.length cap, .slice wa wn wc] ∧ Blk W (w.heap.size + 1) 25 #[.int .i64 0, .int .i64 0, .slice none 0 0, .slice none 0 0] ∧ Blk W (w.heap.size + 1 + 1) 25 #[.int .i64 k, .int .i64 p, .slice none 0 0, .slice wa wn wc]) (boxes3 _ _ _ _) ?_
  rintro W0 ⟨hg0, hb0, hb1, hbo⟩
  have HB0 := Lib.hid hb0
  have HB1 := Lib.hid hb1
  have HBO := Lib.hid hbo
  have HG0 := Lib.hid hg0
  obtain ⟨a0, a1, a2, a3⟩ := hb0.four
  have hl0 := hb0.lt
  obtain ⟨B, hBe⟩ : ∃ z, W0.heap.size = z := ⟨_, rfl⟩
  have hB3 : w.heap.size + 3 ≤ B := by have := hbo.lt; omega
  have hzB : B ≤ W0.heap.size := by omega
  clear hb0 hb1 hbo hg0 hBe
  go_wp2_with fail
  clear a0 a1 a2 a3 hl0
  go_loopw [8] (fun i wr => ∃ (m : Nat) (wv : World) (G : Nat → Value × Value) (ys : List Lay) (ra : Option Addr) (yn rc : Nat), wv = wr ∧ m ≤ ks.length ∧ i = .int .i64 m ∧ KRow (But3 w.heap.size S) B wv (.slice ra yn rc) (.slice none 0 0) ys [] G ∧ ys = (ks.take m).map (swapL x y) ∧ Grows w wv ∧ Blk wv w.heap.size 25 #[.int .i64 k, .int .i64 p, .slice a ks.length cap, .slice wa wn wc] ∧ Blk wv (w.heap.size + 1) 25 #[.int .i64 0, .int .i64 0, .slice none 0 0, .slice none 0 0] ∧ Blk wv (w.heap.size + 1 + 1) 25 #[.int .i64 k, .int .i64 p, .slice ra yn rc, .slice wa wn wc] ∧ B ≤ wv.heap.size) (fun i _ => ks.length - (intOf i).toNat)
  case atStart => exact ⟨0, _, noG, [], none, 0, 0, rfl, Nat.zero_le _, rfl, KRow.nil _ _ _, rfl, HG0.out, HB0.out, HB1.out, HBO.out, hzB⟩
  case round =>
    clear HB0 HB1 HBO HG0 hzB W0
    obtain ⟨m, wv, G2, ys, ra, yn, rc, rfl, hm, rfl, hro, hys, hg, hb0, hb1, hbo, hzB⟩ := hrel
    have HG := Lib.hid hg
    have HRO := Lib.hid hro
    have HB0 := Lib.hid hb0
    have HB1 := Lib.hid hb1
    have HBO := Lib.hid hbo
    obtain ⟨a0, a1, a2, a3⟩ := hb0.four
    obtain ⟨b0, b1, b2, b3⟩ := hbo.four
    have hl0 := hb0.lt
    have hlo := hbo.lt
    have hyl : ys.length ≤ m := by rw [hys, List.length_map, List.length_take]; omega
    have HYZ := Lib.hid hys
    clear hys hb0 hb1 hbo
    by_cases hlt : m < ks.length
    · obtain ⟨b, off, q, ka, kn, kc, xa, xn, xc, rfl, hb, hbn, hx, hmem, -, -, e0, e1, e4, e3, hL⟩ := (Hin.out.grows hg).at_ hlt
      have hLx := hL.mono (S' := Off (But3 w.heap.size S) (.slice ra yn rc) (.slice none 0 0)) fun b _ hb => hro.old b (by have := hb.2; omega) ⟨hb.1, .inl hb.2⟩
      have HC := Lib.hid fun W (g : Grows wv W) => HI.out q hmem (Off (But3 w.heap.size S) (.slice ra yn rc) (.slice none 0 0)) _ _ W ((hro.grows g).fresh (but3_fresh HS.out (by have := g.size; omega))) (hLx.grows g)
      have hYS : ys ++ [swapL x y q] = (ks.take (m + 1)).map (swapL x y) := by rw [take_snoc hx, List.map_append, ← HYZ.out]; rfl
      obtain ⟨z, hy⟩ : ∃ z, swapL x y q = z := ⟨_, rfl⟩
      rw [hy] at HC hYS
      have HYS := Lib.hid hYS
      have HE := Lib.hid (⟨hb, by have := hbn.2; omega, e0, e1, e4, e3⟩ : b < wv.heap.size ∧ b < w.heap.size + 3 ∧ wv.cell? ⟨b, off + m * 4, none⟩ = some (.int .i64 q.kind) ∧ wv.cell? ⟨b, off + m * 4 + 1, none⟩ = some (.int .i64 q.pane) ∧ wv.cell? ⟨b, off + m * 4 + 2, none⟩ = some (.slice ka kn kc) ∧ wv.cell? ⟨b, off + m * 4 + 3, none⟩ = some (.slice xa xn xc))
      clear hro hg hx hmem hL hLx hYS hy e0 e1 e4 e3
      go_upto_region 9 with fail
      have HFS444 := Lib.hid fun w' (hSw : Same (fun b => b < w.heap.size + 3) wv w') => And.intro ((HB0.out.same hSw (by omega)).four) (And.intro ((HBO.out.same hSw (by omega)).four) (And.intro ((HB0.out.same hSw (by omega)).lt) (And.intro ((HBO.out.same hSw (by omega)).lt) (And.intro ((hSw.cell (i := off + m * 4) HE.out.1 HE.out.2.1).trans HE.out.2.2.1) (And.intro ((hSw.cell (i := off + m * 4 + 1) HE.out.1 HE.out.2.1).trans HE.out.2.2.2.1) (And.intro ((hSw.cell (i := off + m * 4 + 2) HE.out.1 HE.out.2.1).trans HE.out.2.2.2.2.1) (And.intro ((hSw.cell (i := off + m * 4 + 3) HE.out.1 HE.out.2.1).trans HE.out.2.2.2.2.2) (Nat.lt_of_lt_of_le HE.out.1 hSw.size))))))))
      have hgS := Grows.refl wv
      refine wp_region_B [13] (fun w' => Same (fun b => b < w.heap.size + 3 ∧ b ≠ w.heap.size + 1 + 1) wv w') (fun w' => Same (fun b => b < w.heap.size + 3) wv w') (by kernel_rfl) ⟨Grows.same (hgS.trans (by repeat' (first | (with_reducible exact hgc) | (with_reducible exact Grows.refl _) | (with_reducible refine Grows.alloc ?_ _) | (with_reducible refine Grows.drew ?_) | (with_reducible refine Grows.ext ?_ _ _)))) _, Grows.same (hgS.trans (by repeat' (first | (with_reducible exact hgc) | (with_reducible exact Grows.refl _) | (with_reducible refine Grows.alloc ?_ _) | (with_reducible refine Grows.drew ?_) | (with_reducible refine Grows.ext ?_ _ _)))) _⟩ (fun hHeld => ?_)
      refine abs_anyB (fun W' => Grows wv W' ∧ True) ⟨(by repeat' (first | (with_reducible exact hgc) | (with_reducible exact Grows.refl _) | (with_reducible refine Grows.alloc ?_ _) | (with_reducible refine Grows.drew ?_) | (with_reducible refine Grows.ext ?_ _ _))), trivial⟩ ?_
      clear hHeld
      rintro X445 ⟨hgn, hex⟩
      have hgS := hgS.trans hgn
      have hsS := hgS.size
      clear hgn hex
      have hHeld := And.intro (Grows.same hgS (fun b => b < w.heap.size + 3 ∧ b ≠ w.heap.size + 1 + 1)) (Grows.same hgS (fun b => b < w.heap.size + 3))
      refine anyB_take (i := 0) (v := ?v446_0) rfl (by kernel_rfl) (by kernel_rfl) (by kernel_rfl) (by kernel_rfl) (fun _ _ _ h => h) (Or.inl ⟨by kernel_rfl, ?y446_0⟩) (by kernel_rfl) hHeld ?r446_0
      case y446_0 => ((rintro w ⟨hTw, hSw⟩; obtain ⟨⟨a0, a1, a2, a3⟩, ⟨b0, b1, b2, b3⟩, hl0, hlo, e0', e1', e2', e3', hbw⟩ := HFS444.out _ hSw; clear hSw hTw; go_simp); (try go_ints); (try with_reducible rfl))
      try simp only [Act.put, List.getElem_toArray, List.getElem_cons_zero, List.setIfInBounds_toArray, List.set_cons_zero, List.set_cons_succ]
      refine anyB_take (i := 1) (v := ?v447_1) rfl (by kernel_rfl) (by kernel_rfl) (by kernel_rfl) (by kernel_rfl) (fun _ _ _ h => h) (Or.inl ⟨by kernel_rfl, ?y447_1⟩) (by kernel_rfl) hHeld ?r447_1
      case y447_1 => ((rintro w ⟨hTw, hSw⟩; obtain ⟨⟨a0, a1, a2, a3⟩, ⟨b0, b1, b2, b3⟩, hl0, hlo, e0', e1', e2', e3', hbw⟩ := HFS444.out _ hSw; clear hSw hTw; go_simp); (try go_ints); (try with_reducible rfl))
      try simp only [Act.put, List.getElem_toArray, List.getElem_cons_succ, List.getElem_cons_zero, List.setIfInBounds_toArray, List.set_cons_zero, List.set_cons_succ]
      refine anyB_take (i := 2) (v := ?v448_2) rfl (by kernel_rfl) (by kernel_rfl) (by kernel_rfl) (by kernel_rfl) (fun _ _ _ h => h) (Or.inl ⟨by kernel_rfl, ?y448_2⟩) (by kernel_rfl) hHeld ?r448_2
      case y448_2 => ((rintro w ⟨hTw, hSw⟩; obtain ⟨⟨a0, a1, a2, a3⟩, ⟨b0, b1, b2, b3⟩, hl0, hlo, e0', e1', e2', e3', hbw⟩ := HFS444.out _ hSw; clear hSw hTw; go_simp); (try go_ints); (try with_reducible rfl))
      try simp only [Act.put, List.getElem_toArray, List.getElem_cons_succ, List.getElem_cons_zero, List.setIfInBounds_toArray, List.set_cons_zero, List.set_cons_succ]
      refine anyB_take (i := 3) (v := ?v449_3) rfl (by kernel_rfl) (by kernel_rfl) (by kernel_rfl) (by kernel_rfl) (fun _ _ _ h => h) (Or.inl ⟨by kernel_rfl, ?y449_3⟩) (by kernel_rfl) hHeld ?r449_3
      case y449_3 => ((rintro w ⟨hTw, hSw⟩; obtain ⟨⟨a0, a1, a2, a3⟩, ⟨b0, b1, b2, b3⟩, hl0, hlo, e0', e1', e2', e3', hbw⟩ := HFS444.out _ hSw; clear hSw hTw; go_simp); (try go_ints); (try with_reducible rfl))
      try simp only [Act.put, List.getElem_toArray, List.getElem_cons_succ, List.getElem_cons_zero, List.setIfInBounds_toArray, List.set_cons_zero, List.set_cons_succ]
      refine anyB_take (i := 4) (v := ?v450_4) rfl (by kernel_rfl) (by kernel_rfl) (by kernel_rfl) (by kernel_rfl) (fun _ _ _ h => h) (Or.inl ⟨by kernel_rfl, ?y450_4⟩) (by kernel_rfl) hHeld ?r450_4
      case y450_4 => ((rintro w ⟨hTw, hSw⟩; obtain ⟨⟨a0, a1, a2, a3⟩, ⟨b0, b1, b2, b3⟩, hl0, hlo, e0', e1', e2', e3', hbw⟩ := HFS444.out _ hSw; clear hSw hTw; go_simp); (try go_ints); (try with_reducible rfl))
      try simp only [Act.put, List.getElem_toArray, List.getElem_cons_succ, List.getElem_cons_zero, List.setIfInBounds_toArray, List.set_cons_zero, List.set_cons_succ]
      refine anyB_take (i := 5) (v := ?v451_5) rfl (by kernel_rfl) (by kernel_rfl) (by kernel_rfl) (by kernel_rfl) (fun _ _ _ h => h) (Or.inl ⟨by kernel_rfl, ?y451_5⟩) (by kernel_rfl) hHeld ?r451_5
      case y451_5 => ((rintro w ⟨hTw, hSw⟩; obtain ⟨⟨a0, a1, a2, a3⟩, ⟨b0, b1, b2, b3⟩, hl0, hlo, e0', e1', e2', e3', hbw⟩ := HFS444.out _ hSw; clear hSw hTw; go_simp); (try go_ints); (try with_reducible rfl))
      try simp only [Act.put, List.getElem_toArray, List.getElem_cons_succ, List.getElem_cons_zero, List.setIfInBounds_toArray, List.set_cons_zero, List.set_cons_succ]
      refine anyB_take (i := 6) (v := ?v452_6) rfl (by kernel_rfl) (by kernel_rfl) (by kernel_rfl) (by kernel_rfl) (fun _ _ _ h => h) (Or.inl ⟨by kernel_rfl, ?y452_6⟩) (by kernel_rfl) hHeld ?r452_6
      case y452_6 => ((rintro w ⟨hTw, hSw⟩; obtain ⟨⟨a0, a1, a2, a3⟩, ⟨b0, b1, b2, b3⟩, hl0, hlo, e0', e1', e2', e3', hbw⟩ := HFS444.out _ hSw; clear hSw hTw; go_simp); (try go_ints); (try with_reducible rfl))
      try simp only [Act.put, List.getElem_toArray, List.getElem_cons_succ, List.getElem_cons_zero, List.setIfInBounds_toArray, List.set_cons_zero, List.set_cons_succ]
      refine anyB_take (i := 7) (v := ?v453_7) rfl (by kernel_rfl) (by kernel_rfl) (by kernel_rfl) (by kernel_rfl) (fun _ _ _ h => h) (Or.inl ⟨by kernel_rfl, ?y453_7⟩) (by kernel_rfl) hHeld ?r453_7
      case y453_7 => ((rintro w ⟨hTw, hSw⟩; obtain ⟨⟨a0, a1, a2, a3⟩, ⟨b0, b1, b2, b3⟩, hl0, hlo, e0', e1', e2', e3', hbw⟩ := HFS444.out _ hSw; clear hSw hTw; go_simp); (try go_ints); (try with_reducible rfl))
      try simp only [Act.put, List.getElem_toArray, List.getElem_cons_succ, List.getElem_cons_zero, List.setIfInBounds_toArray, List.set_cons_zero, List.set_cons_succ]
      refine anyB_take (i := 8) (v := ?v454_8) rfl (by kernel_rfl) (by kernel_rfl) (by kernel_rfl) (by kernel_rfl) (fun _ _ _ h => h) (Or.inl ⟨by kernel_rfl, ?y454_8⟩) (by kernel_rfl) hHeld ?r454_8
      case y454_8 => ((rintro w ⟨hTw, hSw⟩; obtain ⟨⟨a0, a1, a2, a3⟩, ⟨b0, b1, b2, b3⟩, hl0, hlo, e0', e1', e2', e3', hbw⟩ := HFS444.out _ hSw; clear hSw hTw; go_simp); (try go_ints); (try with_reducible rfl))
      try simp only [Act.put, List.getElem_toArray, List.getElem_cons_succ, List.getElem_cons_zero, List.setIfInBounds_toArray, List.set_cons_zero, List.set_cons_succ]
      refine anyB_ready (i := 9) (by kernel_rfl) rfl (fun K hK => ?_)
      simp only [List.getElem_toArray, List.getElem_cons_succ, List.getElem_cons_zero]
      go_simp
      (go_at_call 53; (go_must (with_reducible refine (HC.out _ hgS).mono ?_)); rintro e w7 hE; obtain ⟨ka7, kc7, wa7, wc7, rfl, hl7, hgc⟩ := hE.open_)
      refine hK.out _ _ ⟨?_, ?_⟩ ?_
      · ((try dsimp only); exact Grows.same (hgS.trans (by repeat' (first | (with_reducible exact hgc) | (with_reducible exact Grows.refl _) | (with_reducible refine Grows.alloc ?_ _) | (with_reducible refine Grows.drew ?_) | (with_reducible refine Grows.ext ?_ _ _)))) _)
      · ((try dsimp only); exact Grows.same (hgS.trans (by repeat' (first | (with_reducible exact hgc) | (with_reducible exact Grows.refl _) | (with_reducible refine Grows.alloc ?_ _) | (with_reducible refine Grows.drew ?_) | (with_reducible refine Grows.ext ?_ _ _)))) _)
      clear hK K hHeld
      intro hHeld
      try simp only [Act.put, List.getElem_toArray, List.getElem_cons_succ, List.getElem_cons_zero, List.setIfInBounds_toArray, List.set_cons_zero, List.set_cons_succ]
      refine abs_anyB (fun W' => Grows X445 W' ∧ LayAt (Off (But3 w.heap.size S) (.slice ra yn rc) (.slice none 0 0)) W' z (.slice ka7 z.kids.length kc7) (.slice wa7 z.ws.length wc7)) ⟨(by repeat' (first | (with_reducible exact hgc) | (with_reducible exact Grows.refl _) | (with_reducible refine Grows.alloc ?_ _) | (with_reducible refine Grows.drew ?_) | (with_reducible refine Grows.ext ?_ _ _))), hl7⟩ ?_
      clear hHeld
      rintro X455 ⟨hgn, hex⟩
      have HL7 := Lib.hid hex
      have hgS := hgS.trans hgn
      have hsS := hgS.size
      clear hgn hex
      have hHeld := And.intro (Grows.same hgS (fun b => b < w.heap.size + 3 ∧ b ≠ w.heap.size + 1 + 1)) (Grows.same hgS (fun b => b < w.heap.size + 3))
      refine anyB_ready (i := 10) (by kernel_rfl) rfl (fun K hK => ?_)
      simp only [List.getElem_toArray, List.getElem_cons_succ, List.getElem_cons_zero]
      go_simp
      skip
      refine hK.out _ _ ⟨?_, ?_⟩ ?_
      · ((try dsimp only); exact Grows.same (hgS.trans (by repeat' (first | (with_reducible exact hgc) | (with_reducible exact Grows.refl _) | (with_reducible refine Grows.alloc ?_ _) | (with_reducible refine Grows.drew ?_) | (with_reducible refine Grows.ext ?_ _ _)))) _)
      · ((try dsimp only); exact Grows.same (hgS.trans (by repeat' (first | (with_reducible exact hgc) | (with_reducible exact Grows.refl _) | (with_reducible refine Grows.alloc ?_ _) | (with_reducible refine Grows.drew ?_) | (with_reducible refine Grows.ext ?_ _ _)))) _)
      clear hK K hHeld
      intro hHeld
      try simp only [Act.put, List.getElem_toArray, List.getElem_cons_succ, List.getElem_cons_zero, List.setIfInBounds_toArray, List.set_cons_zero, List.set_cons_succ]
      refine abs_anyB (fun W' => Grows X455 W' ∧ CellsAt 4 W' _ 1 (kidC [z] (fun _ => (.slice ka7 z.kids.length kc7, .slice wa7 z.ws.length wc7)))) ⟨(by repeat' (first | (with_reducible exact hgc) | (with_reducible exact Grows.refl _) | (with_reducible refine Grows.alloc ?_ _) | (with_reducible refine Grows.drew ?_) | (with_reducible refine Grows.ext ?_ _ _))), cells_kid rfl⟩ ?_
      clear hHeld
      rintro X456 ⟨hgn, hex⟩
      have HL7 := Lib.hid (HL7.out.grows hgn)
      have HCE := Lib.hid hex
      have hgS := hgS.trans hgn
      have hsS := hgS.size
      clear hgn hex
      have hHeld := And.intro (Grows.same hgS (fun b => b < w.heap.size + 3 ∧ b ≠ w.heap.size + 1 + 1)) (Grows.same hgS (fun b => b < w.heap.size + 3))
      refine anyB_ready (i := 11) (by kernel_rfl) rfl (fun K hK => ?_)
      simp only [List.getElem_toArray, List.getElem_cons_succ, List.getElem_cons_zero]
      rw [if_pos (by kernel_rfl)]
      (go_must (refine wp_appO _ (.tmp 46) (.tmp 55) 22 rfl B 25 i25 _ 4 64 Try.underlying22 hi25 hz25 hs25 hb25 rfl (by decide) ys.length 1 (kidC ys G2) (kidC [z] (fun _ => (.slice ka7 z.kids.length kc7, .slice wa7 z.ws.length wc7))) (KRow.rowK (HRO.out.grows hgS)) HCE.out (kid_one HL7.out) (by unfold maxLen; omega) (by omega) (by omega) ?_)); (go_must (intro v8 w8 row8 q1 q2 q3 q4; have hrk := (HRO.out.grows hgS).addK HL7.out rfl q1 q2 q3 q4; have hg8 : Grows w w8 := appended_grows (HG.out.trans hgS) q2 (fun k e => by have := (q3 k e).1; omega); have hne : ∀ n, n < B → row8 ≠ some n := (fun n hn e => by have := (q3 n e).1; omega); have hb0 := (HB0.out.grows hgS).kept q2 (hne _ (by omega)); have hb1 := (HB1.out.grows hgS).kept q2 (hne _ (by omega)); have hbo := (HBO.out.grows hgS).kept q2 (hne _ (by omega)); have hz8 : B ≤ w8.heap.size := Nat.le_trans (show B ≤ _ by omega) q2.size; have hT8 : Same (fun b => b < w.heap.size + 3 ∧ b ≠ w.heap.size + 1 + 1) wv w8 := (Grows.same hgS _).trans (same_grown q2 fun k e hb => by have := (q3 k e).1; have := hb.1; omega); have hS8 : Same (fun b => b < w.heap.size + 3) wv w8 := (Grows.same hgS _).trans (same_grown q2 fun k e hb => by have := (q3 k e).1; omega); clear q1 q2 q3 q4; obtain ⟨⟨rx, cx, e5⟩, -⟩ := hrk.slices; generalize (ys ++ [z]).length = n5 at e5; subst e5))
      refine hK.out _ _ ⟨hT8, hS8⟩ ?_
      clear hK K hHeld
      intro hHeld
      try simp only [Act.put, List.setIfInBounds_toArray, List.set_cons_zero, List.set_cons_succ]
      refine anyB_takeT (i := 12) (v := ?v457_12) rfl (by kernel_rfl) (by kernel_rfl) (by kernel_rfl) (by kernel_rfl) (fun _ _ _ h => h) (Or.inl ⟨by kernel_rfl, ?y457_12⟩) hHeld.1 (fun _ => hHeld.2) ?r457_12
      case y457_12 => ((intro w hTw; skip; clear hTw; go_simp); (try go_ints); (try with_reducible rfl))
      try simp only [Act.put, List.getElem_toArray, List.getElem_cons_succ, List.getElem_cons_zero, List.setIfInBounds_toArray, List.set_cons_zero, List.set_cons_succ]
      refine anyB_over (i := 13) (by kernel_rfl) rfl (by kernel_rfl) (fun K hK => ?_)
      simp only [List.getElem_toArray, List.getElem_cons_succ, List.getElem_cons_zero]
      obtain ⟨b0, b1, b2, b3⟩ := hbo.four
      obtain ⟨f0, f1, f2, f3⟩ := hbo.four'
      have hlo := hbo.lt
      go_simp
      skip
      refine hK.out _ _ ?_ ?_
      · ((try dsimp only); exact (by repeat' (first | (with_reducible exact hT8) | (with_reducible exact Grows.same hgS _) | (with_reducible exact Grows.same (hgS.trans hgc) _) | (with_reducible refine Same.trans ?_ (same_set (fun h => Ne.irrefl h.2))))))
      clear hK K hHeld
      intro hHeld
      try simp only [Act.put, List.getElem_toArray, List.getElem_cons_succ, List.getElem_cons_zero, List.setIfInBounds_toArray, List.set_cons_zero, List.set_cons_succ]
      refine anyB_done (by kernel_rfl) ?_ _
      try clear hHeld
      refine abs_exit (fun W => Grows w W ∧ KRow (But3 w.heap.size S) B W (.slice rx n5 cx) (.slice none 0 0) (ys ++ [z]) [] _ ∧ Blk W w.heap.size 25 #[.int .i64 k, .int .i64 p, .slice (some ⟨b, off, none⟩) ks.length cap, .slice wa wn wc] ∧ Blk W (w.heap.size + 1) 25 #[.int .i64 0, .int .i64 0, .slice none 0 0, .slice none 0 0] ∧ Blk W (w.heap.size + 1 + 1) 25 #[.int .i64 k, .int .i64 p, .slice rx n5 cx, .slice wa wn wc] ∧ B ≤ W.heap.size) ⟨hg8.setCell (by omega) _, hrk.set (by omega) (but3_not (by omega)), hb0.other (by omega), hb1.other (by omega), hbo.set 2 _, Nat.le_trans hz8 (but3_set (n := w.heap.size) (S := S) (by omega)).size⟩ ?_
      clear hg8 hrk hb0 hb1 hbo hz8 hT8 hS8 hne a0 a1 a2 a3 b0 b1 b2 b3 f0 f1 f2 f3 hl0 hlo
      rintro W5 ⟨hg5, hr5, hb5, hb6, hb7, hz5⟩
      go_wp2_with fail
      go_roundw
      case rel => exact ⟨m + 1, _, _, ys ++ [z], _, _, _, rfl, by omega, by go_num, hr5, HYS.out, hg5, hb5, hb6, hb7, hz5⟩
      case measure => simp [intOf]; omega
    · have e : m = ks.length := by omega
      subst e
      have hY : (ks.take ks.length).map (swapL x y) = ks.map (swapL x y) := by rw [List.take_length]
      have hsh := (hro.shut (k := k) (p := p) (but3_fresh HS.out hB3) (by omega) (by simp)).kids
      dsimp only [Lay.kids] at hsh
      rw [HYZ.out, hY] at hsh
      have HSH := Lib.hid (LayAt_mk.2 ⟨(IntsAt.but3 HWI.out).grows HG.out, hsh⟩ : LayAt (But3 w.heap.size S) wv (.mk k p (ks.map (swapL x y)) ws) _ _)
      obtain ⟨d0, d1, d2, d3⟩ := HB1.out.four
      obtain ⟨f0, f1, f2, f3⟩ := HB1.out.four'
      have hl1 := HB1.out.lt
      clear hro hsh hY hg
      go_wp2_with fail
      refine ret_cell (t := 25) (n := w.heap.size + 1) (cs := #[.int .i64 k, .int .i64 p, .slice ra yn rc, .slice wa wn wc]) rfl rfl ?_ Try.underlying25 rfl (by kernel_rfl) rfl ?_
      · exact HB1.out.set4
      · exact ⟨_, _, rfl, (HSH.out.same (but3_set4 (by omega) _ _ _ _)).unbut3, HG.out.set4 (by omega) _ _ _ _⟩
end Go.Proofs.Ytbobpgegkmcapaa

