/-
  A map of counts. Check. Walks: Index, Contains, Has. Walks: panes, of the program.
-/
import Derived.Test.YtbobpgegkmcapaaRows
import Derived.Test.YtbobpgegkmcapaaE1
import Derived.WalkKit
import Derived.WalkSpells
import Derived.WalkLawsBesides
import Derived.Handy
import Derived.Laws.Rows
import Derived.Great.BuildSlice
import Derived.Deep.Heap
import Derived.IntWalk
import Derived.Lib.Hide
import Derived.Outline
import Derived.Deep.Light
import Derived.Deep.LoopGhost
import Derived.BigGuardPart
import Derived.BigQuiet
import Derived.Deep.QuietTactic
import Derived.Deep.RegionHeld3
import Derived.Deep.DeepCutAuto
import Derived.MapKept
import Derived.Maps.Own
import Derived.Test.YtbobpgegkmcapaaE2
import Derived.Shelf.Abstract
import Derived.OwnWalkIn
import Derived.TacticsInMore
import Derived.LoopNIn
import Derived.LoopIn
import Derived.RangeFuncBox
import Derived.RangeFuncBound
import Derived.RangeFuncCalls
import Derived.RangeFuncLeaves
import Derived.RangeFuncNested
import Derived.Laws.EntriesVeiled
import Derived.Scope
import Derived.WalkMore
import Derived.Carry
namespace Go.Proofs.Ytbobpgegkmcapaa
open Go.RowKit

open Go.MapKept
/-- Another map in that block. -/
def setMap (w : World) (r : Nat) (o : Obj) : World := { w with heap := w.heap.setIfInBounds r o }
theorem setMap_size (w : World) (r : Nat) (o : Obj) : (setMap w r o).heap.size = w.heap.size := by simp [setMap]
attribute [go_sem] setMap_size
theorem setMap_block (w : World) (r n : Nat) (o : Obj) (h : ¬ n = r) : (setMap w r o).heap[n]? = w.heap[n]? := by simp [setMap, Ne.symm h]
@[go_sem] theorem setMap_cell (w : World) (r n i : Nat) (o : Obj) (h : ¬ n = r) : (setMap w r o).cell? ⟨n, i, none⟩ = w.cell? ⟨n, i, none⟩ :=
  World.cell?_of_block (w := w) (setMap_block w r n o h)
@[go_sem] theorem setMap_frozen (w : World) (r n i : Nat) (o : Obj) (h : ¬ n = r) : (setMap w r o).frozen? ⟨n, i, none⟩ = w.frozen? ⟨n, i, none⟩ :=
  World.frozen?_of_block (w := w) (setMap_block w r n o h)
theorem setMap_grown (w : World) (r : Nat) (o : Obj) : w.grownBy (setMap w r o) (some r) := ⟨rfl, rfl, rfl, by rw [setMap_size]; exact Nat.le_refl _, fun k _ h => setMap_block w r k o fun e => h (by rw [e])⟩
/-- A map of the call's own: the keys ps, each of them counted once. -/
def MapC (w : World) (r : Nat) (ps : List Int) : Prop := ∃ (es : Array MapEntry) (c : Nat), w.heap[r]? = some (.map es c) ∧ Stamped es c ∧ es.toList.map (·.key) = ps.map (.int .i64 ·) ∧ ∀ x ∈ es.toList, x.val = .int .i64 1
theorem MapC.lt {w : World} {r : Nat} {ps : List Int} (h : MapC w r ps) : r < w.heap.size := by
  obtain ⟨es, c, h1, -⟩ := h
  exact (Array.getElem?_eq_some_iff.1 h1).1
theorem MapC.kept {w w' : World} {r : Nat} {ps : List Int} (h : MapC w r ps) (k : w'.heap[r]? = w.heap[r]?) : MapC w' r ps := by
  obtain ⟨es, c, h1, h2⟩ := h
  exact ⟨es, c, k.trans h1, h2⟩
theorem MapC.empty {w : World} {r c : Nat} (h : w.heap[r]? = some (.map #[] c)) : MapC w r [] := ⟨#[], c, h, stamped_empty c, rfl, by simp⟩
theorem MapC.keys {es : Array MapEntry} {ps : List Int} (h : es.toList.map (·.key) = ps.map (.int .i64 ·)) : ∀ x ∈ es.toList, IsKey (.int .i64) x.key := by
  intro x hx
  have : x.key ∈ es.toList.map (·.key) := List.mem_map_of_mem hx
  rw [h] at this
  obtain ⟨k, -, e⟩ := List.mem_map.1 this
  rw [← e]
  exact rfl
theorem key_i64 (k : Int) : IsKey (.int .i64) (.int .i64 k) := rfl
theorem mem_key {es : Array MapEntry} {ps : List Int} (h : es.toList.map (·.key) = ps.map (.int .i64 ·)) {k : Int} : (∃ x ∈ es.toList, x.key = .int .i64 k) ↔ k ∈ ps := by
  constructor
  · rintro ⟨x, hx, hk⟩
    have : x.key ∈ es.toList.map (·.key) := List.mem_map_of_mem hx
    rw [h, hk] at this
    obtain ⟨q, hq, e⟩ := List.mem_map.1 this
    injection e with _ e
    exact e ▸ hq
  · intro hk
    have : Value.int .i64 k ∈ es.toList.map (·.key) := by rw [h]; exact List.mem_map_of_mem hk
    obtain ⟨x, hx, e⟩ := List.mem_map.1 this
    exact ⟨x, hx, e⟩
theorem look_new {w : World} {r : Nat} {ps : List Int} (h : MapC w r ps) {k : Int} (hk : k ∉ ps) : (Instr.lookup 87 (.map (some r)) (.int .i64 k) false).run Try.prog w = .ok (.int .i64 0) w := by
  obtain ⟨es, c, hb, hs, hks, hf⟩ := h
  rcases findNow_spec (key_i64 k) es.toList 0 (MapC.keys hks) with ⟨h1, h2⟩ | ⟨j, e, h1, h2, h3⟩
  · simp [Instr.lookup, run_underlying Try.underlying87, MapKept.run_getObj_map hb, MapKept.run_checkKey Try.underlying3 (key_i64 k), MapKept.run_findKey Try.underlying3 h1, Result.andThen]
  · exact absurd ((mem_key hks).1 ⟨e, List.mem_of_getElem? (by simpa using h2), h3⟩) hk
theorem look_old {w : World} {r : Nat} {ps : List Int} (h : MapC w r ps) {k : Int} (hk : k ∈ ps) : (Instr.lookup 87 (.map (some r)) (.int .i64 k) false).run Try.prog w = .ok (.int .i64 1) w := by
  obtain ⟨es, c, hb, hs, hks, hf⟩ := h
  rcases findNow_spec (key_i64 k) es.toList 0 (MapC.keys hks) with ⟨h1, h2⟩ | ⟨j, e, h1, h2, h3⟩
  · obtain ⟨x, hx, e⟩ := (mem_key hks).2 hk
    exact absurd e (h2 x hx)
  · have hj : es[j]? = some e := by simpa using h2
    have hv := hf e (Array.mem_toList_iff.2 (Array.mem_of_getElem? hj))
    simp [Instr.lookup, run_underlying Try.underlying87, MapKept.run_getObj_map hb, MapKept.run_checkKey Try.underlying3 (key_i64 k), MapKept.run_findKey Try.underlying3 h1, Result.andThen, hv]
theorem upd_new {w : World} {r : Nat} {ps : List Int} (h : MapC w r ps) {k : Int} (hk : k ∉ ps) : ∃ o, (Instr.mapUpdate 87 (.map (some r)) (.int .i64 k) (.int .i64 1)).run Try.prog w = .ok () (setMap w r o) ∧ MapC (setMap w r o) r (ps ++ [k]) := by
  obtain ⟨es, c, hb, hs, hks, hf⟩ := h
  rcases findNow_spec (key_i64 k) es.toList 0 (MapC.keys hks) with ⟨h1, h2⟩ | ⟨j, e, h1, h2, h3⟩
  · refine ⟨.map (es.push { key := .int .i64 k, val := .int .i64 1, born := c }) (c + 1), ?_, _, _, (heap_set hb).1, stamped_push hs h2, ?_, ?_⟩
    · simp [Instr.mapUpdate, run_underlying Try.underlying87, MapKept.run_getObj_map hb, MapKept.run_checkKey Try.underlying3 (key_i64 k), MapKept.run_findKey Try.underlying3 h1, MapKept.run_setObj_map _ hb, Result.andThen, setMap]
    · simp [hks]
    · intro x hx
      simp only [Array.toList_push, List.mem_append, List.mem_singleton] at hx
      rcases hx with hx | rfl
      · exact hf x hx
      · rfl
  · exact absurd ((mem_key hks).1 ⟨e, List.mem_of_getElem? (by simpa using h2), h3⟩) hk
theorem upd_old {w : World} {r : Nat} {ps : List Int} (h : MapC w r ps) {k : Int} (hk : k ∈ ps) : ∃ o, (Instr.mapUpdate 87 (.map (some r)) (.int .i64 k) (.int .i64 2)).run Try.prog w = .ok () (setMap w r o) ∧ (Instr.lookup 87 (.map (some r)) (.int .i64 k) false).run Try.prog (setMap w r o) = .ok (.int .i64 2) (setMap w r o) := by
  obtain ⟨es, c, hb, hs, hks, hf⟩ := h
  rcases findNow_spec (key_i64 k) es.toList 0 (MapC.keys hks) with ⟨h1, h2⟩ | ⟨j, e, h1, h2, h3⟩
  · obtain ⟨x, hx, e⟩ := (mem_key hks).2 hk
    exact absurd e (h2 x hx)
  · have hj : es[j]? = some e := by simpa using h2
    have hkey : ∀ e', es[j]? = some e' → ({ e' with key := .int .i64 k, val := .int .i64 2 } : MapEntry).key = e'.key := fun e' he' => by rw [hj] at he'; cases he'; exact h3.symm
    have hks' := isKey_modify (MapC.keys hks) j (fun e => { e with key := .int .i64 k, val := .int .i64 2 }) hkey
    refine ⟨.map (es.modify j fun e => { e with key := .int .i64 k, val := .int .i64 2 }) c, ?_, ?_⟩
    · simp [Instr.mapUpdate, run_underlying Try.underlying87, MapKept.run_getObj_map hb, MapKept.run_checkKey Try.underlying3 (key_i64 k), MapKept.run_findKey Try.underlying3 h1, hj, h3, MapKept.run_keyThatStays (key_i64 k), MapKept.run_setObj_map _ hb, Result.andThen, setMap]
    · have hb2 := (heap_set (o' := .map (es.modify j fun e => { e with key := .int .i64 k, val := .int .i64 2 }) c) hb).1
      have hs' := stamped_modify hs j (fun e => { e with key := .int .i64 k, val := .int .i64 2 }) (fun _ _ => rfl) (fun e' _ he' => hkey e' he')
      have hj' : (es.modify j fun e => { e with key := .int .i64 k, val := .int .i64 2 })[j]? = some { e with key := .int .i64 k, val := .int .i64 2 } := by
        rw [Array.getElem?_modify, if_pos rfl, hj]
        rfl
      generalize (es.modify j fun e => { e with key := .int .i64 k, val := .int .i64 2 }) = es' at *
      show (Instr.lookup 87 (.map (some r)) (.int .i64 k) false).run Try.prog (setMap w r (.map es' c)) = _
      have hb3 : (setMap w r (.map es' c)).heap[r]? = some (.map es' c) := hb2
      rcases findNow_spec (key_i64 k) es'.toList 0 hks' with ⟨g1, g2⟩ | ⟨i, q, g1, g2, g3⟩
      · exact absurd rfl (g2 _ (Array.mem_toList_iff.2 (Array.mem_of_getElem? hj')))
      · have hi : es'[i]? = some q := by simpa using g2
        have q1 : (es'.toList.map (·.key))[i]? = some (.int .i64 k) := by simp [hi, g3]
        have q2 : (es'.toList.map (·.key))[j]? = some (.int .i64 k) := by simp [hj']
        have hl1 : i < (es'.toList.map (·.key)).length := (List.getElem?_eq_some_iff.1 q1).1
        have hij := (List.getElem?_inj hl1 hs'.2.2).1 (q1.trans q2.symm)
        subst hij
        obtain rfl := Option.some.inj (hi.symm.trans hj')
        simp [Instr.lookup, run_underlying Try.underlying87, MapKept.run_getObj_map hb3, MapKept.run_checkKey Try.underlying3 (key_i64 k), MapKept.run_findKey Try.underlying3 g1, Result.andThen]
theorem MapC.ext {w : World} {r : Nat} {ps : List Int} (h : MapC w r ps) (x : Array Obj) (d : Nat) : MapC (Proofs.Ytbobpgegkmcapaa.ext w x d) r ps := h.kept (ext_heap w x d r h.lt)
theorem upd_new_all {w : World} {r : Nat} {ps : List Int} (h : MapC w r ps) {k : Int} (hk : k ∉ ps) : ∃ O : Array Obj × Nat → Obj, ∀ x d, (Instr.mapUpdate 87 (.map (some r)) (.int .i64 k) (.int .i64 1)).run Try.prog (Proofs.Ytbobpgegkmcapaa.ext w x d) = .ok () (setMap (Proofs.Ytbobpgegkmcapaa.ext w x d) r (O (x, d))) ∧ MapC (setMap (Proofs.Ytbobpgegkmcapaa.ext w x d) r (O (x, d))) r (ps ++ [k]) := by
  obtain ⟨O, hO⟩ := Classical.skolem.1 fun q : Array Obj × Nat => upd_new (h.ext q.1 q.2) hk
  exact ⟨O, fun x d => hO (x, d)⟩
theorem upd_old_all {w : World} {r : Nat} {ps : List Int} (h : MapC w r ps) {k : Int} (hk : k ∈ ps) : ∃ O : Array Obj × Nat → Obj, ∀ x d, (Instr.mapUpdate 87 (.map (some r)) (.int .i64 k) (.int .i64 2)).run Try.prog (Proofs.Ytbobpgegkmcapaa.ext w x d) = .ok () (setMap (Proofs.Ytbobpgegkmcapaa.ext w x d) r (O (x, d))) ∧ (Instr.lookup 87 (.map (some r)) (.int .i64 k) false).run Try.prog (setMap (Proofs.Ytbobpgegkmcapaa.ext w x d) r (O (x, d))) = .ok (.int .i64 2) (setMap (Proofs.Ytbobpgegkmcapaa.ext w x d) r (O (x, d))) := by
  obtain ⟨O, hO⟩ := Classical.skolem.1 fun q : Array Obj × Nat => upd_old (h.ext q.1 q.2) hk
  exact ⟨O, fun x d => hO (x, d)⟩
theorem MapC.len {w : World} {r : Nat} {ps : List Int} (h : MapC w r ps) {N : Nat} (hN : ps.length = N) : (Builtin.len_ #[87] 3 #[.map (some r)]).run Try.prog w = .ok (.int .i64 N) w := by
  subst hN
  obtain ⟨es, c, hb, hs, hks, hf⟩ := h
  have e : es.size = ps.length := by
    have := congrArg List.length hks
    simpa using this
  simp [Builtin.len_, run_underlying Try.underlying87, MapKept.run_getObj_map hb, goInt, Result.andThen, e]
end Go.Proofs.Ytbobpgegkmcapaa

namespace Go.Proofs.Ytbobpgegkmcapaa
open Go.RowKit

attribute [local go_sem] Oper.semAt_some
theorem okN_snoc (a : List (Int × Lay)) (x : Int × Lay) (h : okN a [] = true) : okN (a ++ [x]) [] = true ↔ (x.1 ≤ 16 ∧ validN x.2 = true) ∧ (x.2.kind = 1 → x.2.pane ∉ panesN a ∧ (panesN a).length + 1 ≤ 16) := by
  have h' := (okN_iff a [] List.nodup_nil (by simp)).1 h
  rw [okN_iff _ [] List.nodup_nil (by simp), panesN_append]
  simp only [List.nil_append] at h' ⊢
  obtain ⟨h1, h2, h3⟩ := h'
  by_cases hk : x.2.kind = 1
  · have e : panesN [x] = [x.2.pane] := by simp [panesN, hk]
    rw [e]
    constructor
    · rintro ⟨g1, g2, g3⟩
      refine ⟨g1 x (by simp), fun _ => ⟨fun hm => ?_, by simpa using g3⟩⟩
      exact (List.nodup_append.1 g2).2.2 _ hm _ (by simp) rfl
    · rintro ⟨g1, g2⟩
      obtain ⟨g3, g4⟩ := g2 hk
      refine ⟨fun y hy => ?_, ?_, by simpa using g4⟩
      · rcases List.mem_append.1 hy with hy | hy
        · exact h1 y hy
        · rw [List.mem_singleton] at hy
          subst hy
          exact g1
      · rw [List.nodup_append]
        exact ⟨h2, by simp, fun a ha b hb e => g3 (by rw [List.mem_singleton] at hb; rw [← hb, ← e]; exact ha)⟩
  · have e : panesN [x] = [] := by simp [panesN, hk]
    rw [e, List.append_nil]
    constructor
    · rintro ⟨g1, -⟩
      exact ⟨g1 x (by simp), fun h => absurd h hk⟩
    · rintro ⟨g1, -⟩
      refine ⟨fun y hy => ?_, h2, h3⟩
      rcases List.mem_append.1 hy with hy | hy
      · exact h1 y hy
      · rw [List.mem_singleton] at hy
        subst hy
        exact g1
/-- The check's own invariant. -/
structure ChkI (w0 : World) (Z R V M : Nat) (v : Int) (good : Bool) (pre : List (NodeV w0.heap.size w0)) (W : World) : Prop where
  ok : okN (nodesOf pre) [] = good
  res : Blk W R 31 #[.int .i64 v]
  var : Blk W V 87 #[.map (some M)]
  map : good = true → MapC W M (panesN (nodesOf pre))
  below : Below w0.heap.size w0 W
  size : Z ≤ W.heap.size
theorem ChkI.own {w0 : World} {Z R V M B : Nat} {v : Int} {good : Bool} (hR : R < B) (hV : V < B) (hM : M < B) (hn : w0.heap.size ≤ B) : OwnFrom B (ChkI w0 Z R V M v good) := by
  intro s W W' row h g hr
  have key : ∀ k, k < B → k < W.heap.size → W'.heap[k]? = W.heap[k]? := fun k hk hs => g.block k hs fun e => by
    have := (hr k e.symm).1
    omega
  exact ⟨h.ok, (key R hR h.res.lt).trans h.res, (key V hV h.var.lt).trans h.var, fun e => (h.map e).kept (key M hM (h.map e).lt), h.below.grown g h.below.size (fun k e => by have := (hr k e).1; omega), Nat.le_trans h.size g.size⟩
theorem keepsM {W W' : World} {M B : Nat} (g : W.grownBy W' (some M)) (hM : M < B) : KeepsFrom B W W' := KeepsFrom.of_grownBy g (fun j e => by cases e; exact hM)
theorem kpM {W W' : World} {M n0 : Nat} {ps : List Int} (g : W.grownBy W' (some M)) (hM : n0 ≤ M) (h : MapC W M ps) : KpN n0 W W' := by
  have hl := h.lt
  obtain ⟨es, c, hb, -⟩ := h
  refine ⟨(Below.refl n0 W).grown g (by omega) (fun k e => by cases e; exact hM), g.size, fun k cs t fr e _ => (g.block k (Array.getElem?_eq_some_iff.1 e).1 fun q => ?_).trans e⟩
  injection q with q
  subst q
  rw [hb] at e
  cases e
theorem ChkI.next_ok {w0 : World} {Z R V M : Nat} {pre : List (NodeV w0.heap.size w0)} {x : NodeV w0.heap.size w0} {W W' : World} (hi : ChkI w0 Z R V M 0 true pre W) (g : W.grownBy W' (some M)) (hRM : R ≠ M) (hVM : V ≠ M) (hM : w0.heap.size ≤ M) (hm : MapC W' M (panesN (nodesOf (pre ++ [x])))) (hok : okN (nodesOf (pre ++ [x])) [] = true) : ChkI w0 Z R V M 0 true (pre ++ [x]) W' :=
  ⟨hok, hi.res.kept g (by simpa using hRM.symm), hi.var.kept g (by simpa using hVM.symm), fun _ => hm, hi.below.grown g hi.below.size (fun k e => by cases e; exact hM), Nat.le_trans hi.size g.size⟩
theorem ChkI.next_bad {w0 : World} {Z R V M : Nat} {pre : List (NodeV w0.heap.size w0)} {x : NodeV w0.heap.size w0} {W W' : World} (hi : ChkI w0 Z R V M 0 true pre W) (g : W.grownBy W' (some M)) (hRM : R ≠ M) (hVM : V ≠ M) (hRV : R ≠ V) (hM : w0.heap.size ≤ M) (hR : w0.heap.size ≤ R) (hb : okN (nodesOf (pre ++ [x])) [] = false) : ChkI w0 Z R V M 440 false (pre ++ [x]) (W'.setCell ⟨R, 0, none⟩ (.int .i64 440)) := by
  have hs := (grownBy_setCell' W' R (.int .i64 440)).size
  refine ⟨hb, (hi.res.kept g (by simpa using hRM.symm)).set 0 _, (hi.var.kept g (by simpa using hVM.symm)).other hRV, fun e => (by cases e), ?_, Nat.le_trans (Nat.le_trans hi.size g.size) hs⟩
  exact (hi.below.grown g hi.below.size (fun k e => by cases e; exact hM)).setCell (p := ⟨R, 0, none⟩) hR _
def chkE (l : Lay) : Int := if rightL l then 0 else 440
set_option maxRecDepth 100000 in
set_option maxHeartbeats 4000000 in
theorem check_any (L : Lay) (vk vw : Value) (w : World) (hL : LayAt (fun b => b < w.heap.size) w L vk vw) :
    Calls Try.prog 16 #[.agg #[.int .i64 L.kind, .int .i64 L.pane, vk, vw]] w (Ret (.int .i64 (chkE L)) w) := by
  refine (callsIn_wide (n := 6)).1 ?_
  obtain ⟨ka, kc, e1, -⟩ := hL.kids.shape rfl
  obtain ⟨wa, wc, e2, -⟩ := hL.ints.shape rfl
  subst e1 e2
  have HL := Lib.hid hL
  have hmm := @run_makeMap Try.prog
  clear hL
  generalize L.kids.length = kn at *
  generalize L.ws.length = wn at *
  refine callsIn_of_wp_marks Try.func16 rfl trivial ?_ rfl
  simp only [Try.ntmps16, List.size_toArray, List.length_cons, List.length_nil, Nat.reduceAdd, Nat.reduceSub, Array.replicate_succ, Array.replicate_zero, List.push_toArray, List.append_toArray, List.nil_append, List.cons_append]
  gi_wp2_with (refine ⟨trivial, ?_⟩; gi_at_call 45; refine (callsIn_wide.2 (nodes_any _ _ _ _ _ _ _ _ _)).mono ?_; rintro e w' ⟨rfl, rfl⟩)
  refine abs_worldI (fun W => Grows w W ∧ Blk W (w.heap.size + 1) 31 #[.int .i64 0] ∧ W.heap[w.heap.size + 1 + 1]? = some (.map #[] 0) ∧ Blk W (w.heap.size + 1 + 1 + 1) 87 #[.map (some (w.heap.size + 1 + 1))] ∧ Blk W (w.heap.size + 1 + 1 + 1 + 1) 25 #[.int .i64 L.kind, .int .i64 L.pane, .slice ka kn kc, .slice wa wn wc]) ?_ ?_
  · obtain ⟨-, g, h⟩ := allocs_all [.cells #[.int .i64 L.kind, .int .i64 L.pane, .slice ka kn kc, .slice wa wn wc] 25, .cells #[.int .i64 0] 31, .map #[] 0, .cells #[.map (some (w.heap.size + 1 + 1))] 87, .cells #[.int .i64 L.kind, .int .i64 L.pane, .slice ka kn kc, .slice wa wn wc] 25] w
    exact ⟨g, h 1 _ rfl, h 2 _ rfl, h 3 _ rfl, h 4 _ rfl⟩
  rintro W0 ⟨hg0, hbR, hbM, hbV, hbN⟩
  have hsz := hg0.size
  have hlN := hbN.lt
  obtain ⟨R, hR⟩ : ∃ R, w.heap.size + 1 = R := ⟨_, rfl⟩
  obtain ⟨M, hM⟩ : ∃ M, w.heap.size + 1 + 1 = M := ⟨_, rfl⟩
  obtain ⟨V, hV⟩ : ∃ V, w.heap.size + 1 + 1 + 1 = V := ⟨_, rfl⟩
  obtain ⟨C, hC⟩ : ∃ C, w.heap.size + 1 + 1 + 1 + 1 = C := ⟨_, rfl⟩
  rw [hC, hV, hM, hR]
  rw [hC] at hbN hlN
  rw [hV, hM] at hbV
  rw [hM] at hbM
  rw [hR] at hbR
  have hI0 : ChkI w W0.heap.size R V M 0 true [] W0 := ⟨rfl, hbR, hbV, fun _ => MapC.empty hbM, hg0.below, Nat.le_refl _⟩
  refine wpIn_rangeFunc_ownH (gf := 72) (lb := #[.pointer (some ⟨C, 0, none⟩)]) rfl (by omega) rfl trivial (enters_of Try.func72 (by kernel_rfl) rfl) (nodes_stops (6 - 1) L _ _ w W0 HL.out hg0.below C hbN) (fun h k => h.trans k) (fun W l o o' hl h hc hw => KpN.putObj hsz W l o o' hl h hc hw) (Below.refl _ W0) (fun _ => rfl)
    (ChkI w W0.heap.size R V M 0 true) (fun c pre W => c = .ret ∧ ChkI w W0.heap.size R V M 440 false pre W) (ChkI.own (by omega) (by omega) (by omega) hsz) (fun c => fun s A B row h g hr => ⟨h.1, ChkI.own (by omega) (by omega) (by omega) hsz s A B row h.2 g hr⟩) hI0
    (fun x a' W => ∃ Bx, Blk W Bx 25 #[.int .i64 x.1.2.1.kind, .int .i64 x.1.2.1.pane, x.1.2.2.1, x.1.2.2.2] ∧ W0.heap.size ≤ Bx ∧ a' = { tmps := #[.agg #[.int .i64 L.kind, .int .i64 L.pane, .slice ka kn kc, .slice wa wn wc], .pointer (some ⟨w.heap.size, 0, none⟩), .pointer (some ⟨R, 0, none⟩), .pointer (some ⟨V, 0, none⟩), .int .i64 x.1.1, .pointer (some ⟨Bx, 0, none⟩), .map (some M), .agg #[.int .i64 L.kind, .int .i64 L.pane, .slice ka kn kc, .slice wa wn wc], .func (.func 72) #[] #[.pointer (some ⟨C, 0, none⟩)], .int .i64 x.1.1, .agg #[.int .i64 x.1.2.1.kind, .int .i64 x.1.2.1.pane, x.1.2.2.1, x.1.2.2.2], undef, undef, undef, undef, undef, undef, undef, undef, undef, undef, undef, undef, undef, undef, undef, undef, undef, undef, undef, undef, undef, undef, undef, undef, undef], defers := [] }) ?ax ?assign ?body ?done ?stop
  case ax =>
    rintro x a' _ W W' row ⟨Bx, hb, hs, ha⟩ hg hrow
    exact ⟨Bx, (grownBy_keeps_cells hg (fun r e => (hrow r e).2) hb rfl).trans hb, hs, ha⟩
  case assign =>
    intro l pre x W K hi hK
    obtain ⟨⟨d, y, vk, vw⟩, hy⟩ := x
    obtain ⟨ka', kc', e1, -⟩ := hy.kids.shape rfl
    obtain ⟨wa', wc', e2, -⟩ := hy.ints.shape rfl
    dsimp only at e1 e2
    subst e1 e2
    have hsW : W0.heap.size ≤ W.heap.size := hi.size
    have hg := (Grows.refl W).alloc (.cells #[.int .i64 y.kind, .int .i64 y.pane, .slice ka' y.kids.length kc', .slice wa' y.ws.length wc'] 25)
    have hK' := hK _ _ ((KeepsOthers.alloc W (.cells #[.int .i64 y.kind, .int .i64 y.pane, .slice ka' y.kids.length kc', .slice wa' y.ws.length wc'] 25)).from _) (KpN.grows (Nat.le_trans hsz hsW) hg) (ChkI.own (B := W0.heap.size) (by omega) (by omega) (by omega) hsz _ _ _ none hi (grownBy_of hg) (fun r e => by cases e)) ⟨W.heap.size, Blk.new rfl, hsW, rfl⟩
    clear hK
    dsimp only [NodeV.encs] at hK' ⊢
    gi_wp2_with fail
    exact hK'
  case body =>
    rintro l pre ⟨⟨d, y, vk, vw⟩, hy⟩ a' W hl ⟨r, hr⟩ hi ⟨Bx, hbx, hsx, rfl⟩ hlen
    obtain ⟨ka', kc', e1, -⟩ := hy.kids.shape rfl
    obtain ⟨wa', wc', e2, -⟩ := hy.ints.shape rfl
    dsimp only at e1 e2
    subst e1 e2
    dsimp only at hbx ⊢
    obtain ⟨c0, c1, c2, c3⟩ := hbx.four
    have hlx := hbx.lt
    obtain ⟨r0, r1⟩ := hi.res.one
    obtain ⟨v0, -⟩ := hi.var.one
    have hlR := hi.res.lt
    have hlV := hi.var.lt
    have HV := Lib.hid fun W' (g : Grows W W') => validNode_any y _ _ W' ((hy.same ⟨hi.below.size, fun b _ hs => hi.below.block b hs⟩).grows g)
    generalize y.kids.length = yk at *
    generalize y.ws.length = yw at *
    have hgood : ∀ (h : validN y = true) (h2 : d ≤ 16), (y.kind = 1 → y.pane ∉ panesN (nodesOf pre) ∧ (panesN (nodesOf pre)).length + 1 ≤ 16) → okN (nodesOf (pre ++ [NodeV.of d y (.slice ka' yk kc') (.slice wa' yw wc') hy])) [] = true := fun h h2 h3 => by
      rw [nodesOf_append]
      exact (okN_snoc _ _ hi.ok).2 ⟨⟨h2, h⟩, h3⟩
    have hbad : (validN y = true → d ≤ 16 → (y.kind = 1 → y.pane ∉ panesN (nodesOf pre) ∧ (panesN (nodesOf pre)).length + 1 ≤ 16) → False) → okN (nodesOf (pre ++ [NodeV.of d y (.slice ka' yk kc') (.slice wa' yw wc') hy])) [] = false := fun h => by
      rw [Bool.eq_false_iff, nodesOf_append]
      intro ht
      obtain ⟨⟨h1, h2⟩, h3⟩ := (okN_snoc _ _ hi.ok).1 ht
      exact h h2 h1 h3
    have hfail : ∀ W', Grows (W.setCell ⟨R, 0, none⟩ (.int .i64 440)) W' → okN (nodesOf (pre ++ [NodeV.of d y (.slice ka' yk kc') (.slice wa' yw wc') hy])) [] = false → KeepsFrom W0.heap.size W W' ∧ ChkI w W0.heap.size R V M 440 false (pre ++ [NodeV.of d y (.slice ka' yk kc') (.slice wa' yw wc') hy]) W' := fun W' g hb => by
      have hs1 := (grownBy_setCell' W R (.int .i64 440)).size
      have hs2 := hi.below.size
      have hs3 := hi.size
      have hs4 := g.size
      refine ⟨(KeepsFrom.of_grownBy (grownBy_setCell' W R _) (fun j e => by cases e; omega)).trans (KeepsFrom.of_grownBy (grownBy_of g) (fun j e => by cases e)), hb, (hi.res.set 0 _).grows g, (hi.var.other (by omega)).grows g, fun e => (by cases e), ?_, by omega⟩
      exact (hi.below.setCell (p := ⟨R, 0, none⟩) (by show w.heap.size ≤ R; omega) _).trans (g.below.mono (by omega))
    have HF := Lib.hid hfail
    have HOK := Lib.hid hgood
    have HBAD := Lib.hid hbad
    have HI := Lib.hid hi
    clear hfail hgood hbad hi hbx
    by_cases hd : 16 < d
    · have q0 : decide (16 < d) = true := by simpa using hd
      have hb := HBAD.out fun _ h _ => by omega
      clear hd
      gi_wp2_with (refine ⟨trivial, ?_⟩)
      exact ⟨(HF.out _ (Grows.refl _) hb).1, rfl, (HF.out _ (Grows.refl _) hb).2⟩
    · have q0 : decide (16 < d) = false := by simpa using hd
      cases hv : validN y with
      | false =>
        rw [hv] at HV
        have hb := HBAD.out fun h _ _ => by rw [hv] at h; cases h
        clear hd
        gi_wp2_with (first | (refine ⟨trivial, ?_⟩; gi_at_call 46; refine (show CallsIn (Fence.wide.inRound l) _ _ _ _ _ _ from callsIn_wide.2 (HV.out _ (by repeat' (first | (with_reducible exact Grows.refl _) | (with_reducible refine Grows.alloc ?_ _) | (with_reducible refine Grows.drew ?_) | (with_reducible refine Grows.ext ?_ _ _))))).mono ?_; rintro e w2 ⟨rfl, h2, d2, rfl⟩))
        exact ⟨(HF.out _ (by repeat' (first | (with_reducible exact Grows.refl _) | (with_reducible refine Grows.alloc ?_ _) | (with_reducible refine Grows.drew ?_) | (with_reducible refine Grows.ext ?_ _ _))) hb).1, rfl, (HF.out _ (by repeat' (first | (with_reducible exact Grows.refl _) | (with_reducible refine Grows.alloc ?_ _) | (with_reducible refine Grows.drew ?_) | (with_reducible refine Grows.ext ?_ _ _))) hb).2⟩
      | true =>
        rw [hv] at HV
        by_cases hk : y.kind = 1
        · have q1 : (y.kind == 1) = true := by simpa using hk
          have hVM : ¬ V = M := by omega
          have hBM : ¬ Bx = M := by omega
          have hRM : ¬ R = M := by omega
          by_cases hm : y.pane ∈ panesN (nodesOf pre)
          · have hb := HBAD.out fun _ _ h => (h hk).1 hm
            obtain ⟨O, hO⟩ := upd_old_all (HI.out.map rfl) hm
            have l0 := fun x d => look_old ((HI.out.map rfl).ext x d) hm
            have l1 := fun x d => (hO x d).1
            have l2 := fun x d => (hO x d).2
            clear hO hm hk hd
            gi_wp2_with (first | (refine ⟨trivial, ?_⟩; gi_at_call 46; refine (show CallsIn (Fence.wide.inRound l) _ _ _ _ _ _ from callsIn_wide.2 (HV.out _ (by repeat' (first | (with_reducible exact Grows.refl _) | (with_reducible refine Grows.alloc ?_ _) | (with_reducible refine Grows.drew ?_) | (with_reducible refine Grows.ext ?_ _ _))))).mono ?_; rintro e w2 ⟨rfl, h2, d2, rfl⟩))
            exact ⟨(keepsM (grownBy_trans (grownBy_of ((Grows.refl W).ext h2 d2)) (setMap_grown _ M _)) (by omega)).trans (KeepsFrom.of_grownBy (grownBy_setCell' _ R _) (fun j e => by cases e; omega)), rfl, HI.out.next_bad (grownBy_trans (grownBy_of ((Grows.refl W).ext h2 d2)) (setMap_grown _ M _)) hRM hVM (by omega) (by omega) (by omega) hb⟩
          · have l0 := fun x d => look_new ((HI.out.map rfl).ext x d) hm
            obtain ⟨O, hO⟩ := upd_new_all (HI.out.map rfl) hm
            obtain ⟨N, hN⟩ : ∃ N, (panesN (nodesOf pre) ++ [y.pane]).length = N := ⟨_, rfl⟩
            have l1 := fun x d => (hO x d).1
            have l2 := fun x d => look_old (hO x d).2 (List.mem_append_right _ (List.mem_singleton.2 rfl))
            have l3 := fun x d => (hO x d).2.len hN
            have HO := Lib.hid hO
            by_cases hN16 : N ≤ 16
            · have q2 : decide ((16 : Int) < N) = false := by simp; omega
              have hg := HOK.out hv (by omega) fun _ => ⟨hm, by rw [List.length_append, List.length_singleton] at hN; omega⟩
              have HGD := Lib.hid hg
              have HK := Lib.hid hk
              clear hO hm hk hd hN hN16 hg
              gi_wp2_with (first | (refine ⟨trivial, ?_⟩; gi_at_call 46; refine (show CallsIn (Fence.wide.inRound l) _ _ _ _ _ _ from callsIn_wide.2 (HV.out _ (by repeat' (first | (with_reducible exact Grows.refl _) | (with_reducible refine Grows.alloc ?_ _) | (with_reducible refine Grows.drew ?_) | (with_reducible refine Grows.ext ?_ _ _))))).mono ?_; rintro e w2 ⟨rfl, h2, d2, rfl⟩))
              exact ⟨keepsM (grownBy_trans (grownBy_of ((Grows.refl W).ext h2 d2)) (setMap_grown _ M _)) (by omega), kpM (grownBy_trans (grownBy_of ((Grows.refl W).ext h2 d2)) (setMap_grown _ M _)) (by omega) (HI.out.map rfl), HI.out.next_ok (grownBy_trans (grownBy_of ((Grows.refl W).ext h2 d2)) (setMap_grown _ M _)) hRM hVM (by omega) ((panes_one hy HK.out).symm ▸ (HO.out h2 d2).2) HGD.out⟩
            · have q2 : decide ((16 : Int) < N) = true := by simp; omega
              have hb := HBAD.out fun _ _ h => by have := (h hk).2; rw [List.length_append, List.length_singleton] at hN; omega
              clear hO hm hk hd hN hN16
              gi_wp2_with (first | (refine ⟨trivial, ?_⟩; gi_at_call 46; refine (show CallsIn (Fence.wide.inRound l) _ _ _ _ _ _ from callsIn_wide.2 (HV.out _ (by repeat' (first | (with_reducible exact Grows.refl _) | (with_reducible refine Grows.alloc ?_ _) | (with_reducible refine Grows.drew ?_) | (with_reducible refine Grows.ext ?_ _ _))))).mono ?_; rintro e w2 ⟨rfl, h2, d2, rfl⟩))
              exact ⟨(keepsM (grownBy_trans (grownBy_of ((Grows.refl W).ext h2 d2)) (setMap_grown _ M _)) (by omega)).trans (KeepsFrom.of_grownBy (grownBy_setCell' _ R _) (fun j e => by cases e; omega)), rfl, HI.out.next_bad (grownBy_trans (grownBy_of ((Grows.refl W).ext h2 d2)) (setMap_grown _ M _)) hRM hVM (by omega) (by omega) (by omega) hb⟩
        · have q1 : (y.kind == 1) = false := by simpa using hk
          have hg := HOK.out hv (by omega) fun h => absurd h hk
          have HGD := Lib.hid hg
          have HK := Lib.hid hk
          clear hk hg hd
          gi_wp2_with (first | (refine ⟨trivial, ?_⟩; gi_at_call 46; refine (show CallsIn (Fence.wide.inRound l) _ _ _ _ _ _ from callsIn_wide.2 (HV.out _ (by repeat' (first | (with_reducible exact Grows.refl _) | (with_reducible refine Grows.alloc ?_ _) | (with_reducible refine Grows.drew ?_) | (with_reducible refine Grows.ext ?_ _ _))))).mono ?_; rintro e w2 ⟨rfl, h2, d2, rfl⟩))
          have hgw := grownBy_weak (some M) (grownBy_of ((Grows.refl W).ext h2 d2))
          exact ⟨keepsM hgw (by omega), kpM hgw (by omega) (HI.out.map rfl), HI.out.next_ok hgw (by omega) (by omega) (by omega) ((panes_none hy HK.out).symm ▸ (HI.out.map rfl).ext h2 d2) HGD.out⟩
  case done =>
    intro D xs W hD hS hi hK
    have hc : chkE L = 0 := by
      have h := check_right nx nx_small L
      rw [← hS, hi.ok] at h
      rw [chkE, if_pos h.symm]
    obtain ⟨r0, r1⟩ := hi.res.one
    gi_wp2_with fail
    have hK2 := (KeepsOthers.setCell W ⟨R, 0, none⟩ (.int .i64 0)).same D _ hK rfl
    refine ⟨by simp, .inl ⟨_, _, rfl, run_takeDeferred hK2, ?_⟩⟩
    have hb := (hi.res.set 0 (.int .i64 0)).kept (grownBy_putObj' (W.setCell ⟨R, 0, none⟩ (.int .i64 0)) D (.deferred none)) (by intro e; injection e with e; omega)
    obtain ⟨t0, -⟩ := Blk.one (a := .int .i64 0) hb
    have hbl := (hi.below.setCell (p := ⟨R, 0, none⟩) (by show w.heap.size ≤ R; omega) (.int .i64 0)).grown (grownBy_putObj' (W.setCell ⟨R, 0, none⟩ (.int .i64 0)) D (.deferred none)) (by have := (grownBy_setCell' W R (.int .i64 0)).size; have := hi.below.size; omega) (fun k e => by cases e; omega)
    refine ⟨.int .i64 0, ?_, by rw [hc], Grows.of_below hbl⟩
    simp [results, Try.results16, go_sem, t0]
  case stop =>
    rintro D c pre W hD ⟨suf, hsuf⟩ ⟨rfl, hi⟩ hK
    have hc : chkE L = 440 := by
      have h := check_right nx nx_small L
      rw [← hsuf, okN_append _ _ hi.ok] at h
      rw [chkE, if_neg (by rw [← h]; simp)]
    gi_wp2_with fail
    refine ⟨by simp, .inl ⟨_, _, rfl, run_takeDeferred hK, ?_⟩⟩
    have hb := hi.res.kept (grownBy_putObj' W D (.deferred none)) (by intro e; injection e with e; omega)
    obtain ⟨t0, -⟩ := hb.one
    have hbl := hi.below.grown (grownBy_putObj' W D (.deferred none)) (by have := hi.below.size; omega) (fun k e => by cases e; omega)
    refine ⟨.int .i64 440, ?_, by rw [hc], Grows.of_below hbl⟩
    simp [results, Try.results16, go_sem, t0]
end Go.Proofs.Ytbobpgegkmcapaa

namespace Go.Proofs.Ytbobpgegkmcapaa
open Go.RowKit

theorem mem_take_out {l : List Int} {x : Int} {i : Nat} (hi : i < l.length) (h : x ∉ l.take i) (he : ¬ l[i]? = some x) : x ∉ l.take (i + 1) := by
  rw [take_snoc (List.getElem?_eq_getElem hi), List.mem_append, List.mem_singleton]
  rintro (h1 | h1)
  · exact h h1
  · exact he (by rw [List.getElem?_eq_getElem hi, h1])
theorem index_any {S : Nat → Prop} (v : Value) (l : List Int) (x : Int) (w : World) (h : IntsAt S w v l) : Calls Try.prog 77 #[v, .int .i64 x] w (fun e w' => ∃ i : Int, (0 ≤ i ↔ x ∈ l) ∧ e = .returned (.int .i64 i) ∧ w = w') := by
  obtain ⟨a, c, rfl, hc, hm, hin⟩ := h.open_ rfl
  have Hin := Lib.hid hin
  clear hin h
  go_enter Try.func77, Try.ntmps77
  go_wp2
  go_loop [8] (fun i => ∃ k : Nat, k ≤ l.length ∧ i = .int .i64 k ∧ x ∉ l.take k) (fun i => l.length - (intOf i).toNat)
  case atStart => exact ⟨0, Nat.zero_le _, rfl, by simp⟩
  case round =>
    obtain ⟨k, hk, rfl, hn⟩ := hrel
    have HN := Lib.hid hn
    clear hn
    by_cases hlt : k < l.length
    · obtain ⟨b, off, y, rfl, hb, -, hy, hmy, c0⟩ := Hin.out.at_ hlt
      have HY := Lib.hid (And.intro hy hmy)
      clear hy hmy
      by_cases hxy : x = y
      · subst hxy
        go_wp2
        go_ret
        exact ⟨_, ⟨fun _ => HY.out.2, fun _ => by omega⟩, rfl, rfl⟩
      · have q : (x == y) = false := by simpa using hxy
        have HX := Lib.hid hxy
        clear hxy
        go_wp2
        go_round
        case rel => exact ⟨k + 1, by omega, by go_num, mem_take_out hlt HN.out (by rw [HY.out.1]; intro e; exact HX.out (Option.some.inj e).symm)⟩
        case measure => simp [intOf]; omega
    · go_wp2
      go_ret
      have e : l.take k = l := List.take_of_length_le (by omega)
      have hn := HN.out
      rw [e] at hn
      exact ⟨_, ⟨fun h => absurd h (by omega), fun h => absurd h hn⟩, rfl, rfl⟩
theorem contains_any {S : Nat → Prop} (v : Value) (l : List Int) (x : Int) (w : World) (h : IntsAt S w v l) : Calls Try.prog 55 #[v, .int .i64 x] w (fun e w' => e = .returned (.bool (decide (x ∈ l))) ∧ w = w') := by
  have HI := Lib.hid (index_any v l x w h)
  obtain ⟨a, c, rfl, hc, hm, -⟩ := h.open_ rfl
  clear h
  go_enter Try.func55, Try.ntmps55
  go_wp2_with (go_at_call 77; (with_reducible refine HI.out.mono ?_); rintro e w' ⟨i, hi, rfl, rfl⟩)
  go_returns
  exact ⟨rfl, rfl⟩
theorem has_any {S : Nat → Prop} (v : Value) (l : List Int) (x : Int) (w : World) (h : IntsAt S w v l) : Calls Try.prog 42 #[v, .int .i64 x] w (fun e w' => e = .returned (.bool (decide (x ∈ l))) ∧ w = w') := by
  obtain ⟨a, c, rfl, hc, hm, hin⟩ := h.open_ rfl
  have Hin := Lib.hid hin
  clear hin h
  go_enter Try.func42, Try.ntmps42
  go_wp2
  go_loop [5] (fun i => ∃ k : Nat, k ≤ l.length ∧ i = .int .i64 k ∧ x ∉ l.take k) (fun i => l.length - (intOf i).toNat)
  case atStart => exact ⟨0, Nat.zero_le _, rfl, by simp⟩
  case round =>
    obtain ⟨k, hk, rfl, hn⟩ := hrel
    have HN := Lib.hid hn
    clear hn
    by_cases hlt : k < l.length
    · obtain ⟨b, off, y, rfl, hb, -, hy, hmy, c0⟩ := Hin.out.at_ hlt
      have HY := Lib.hid (And.intro hy hmy)
      clear hy hmy
      by_cases hxy : x = y
      · subst hxy
        go_wp2
        go_ret
        exact ⟨ret_bool (decide_eq_true HY.out.2).symm, rfl⟩
      · have q : (y == x) = false := by rw [beq_eq_false_iff_ne]; exact fun e => hxy e.symm
        have HX := Lib.hid hxy
        clear hxy
        go_wp2
        go_round
        case rel => exact ⟨k + 1, by omega, by go_num, mem_take_out hlt HN.out (by rw [HY.out.1]; intro e; exact HX.out (Option.some.inj e).symm)⟩
        case measure => simp [intOf]; omega
    · go_wp2
      go_ret
      have e : l.take k = l := List.take_of_length_le (by omega)
      have hn := HN.out
      rw [e] at hn
      exact ⟨ret_bool (by simpa using hn), rfl⟩
end Go.Proofs.Ytbobpgegkmcapaa

namespace Go.Proofs.Ytbobpgegkmcapaa
open Go.RowKit

attribute [local go_sem] Oper.semAt_some
theorem nodes_len (l : Lay) (h : okTree l = true) (d : Int) : (nodesL nx l d).length + 1 ≤ 2 * (panesL l).length := by
  revert h d
  refine Lay.ind (P := fun l => okTree l = true → ∀ d, (nodesL nx l d).length + 1 ≤ 2 * (panesL l).length) ?_ l
  intro k p ks ws ih h d
  obtain ⟨h1, h2⟩ := okTree_iff.1 h
  rw [nodesL_mk, panesL_mk, List.length_cons]
  by_cases hk : k = 1
  · obtain ⟨-, -, hks, -⟩ := validN_leaf h1 hk
    have hks' : ks = [] := hks
    subst hks'
    simp [hk]
  · rw [if_neg hk]
    obtain ⟨-, -, h3, -⟩ := validN_split h1 hk
    have h3' : 2 ≤ ks.length := h3
    have key : ∀ (l : List Lay), (∀ x ∈ l, x ∈ ks) → ((l.map fun x => nodesL nx x (nx d)).flatten).length + l.length ≤ 2 * ((l.map panesL).flatten).length := by
      intro l
      induction l with
      | nil => intro _; simp
      | cons x l ihl =>
        intro hm
        have g1 := ih x (hm x (by simp)) (h2 x (hm x (by simp))) (nx d)
        have g2 := ihl fun y hy => hm y (by simp [hy])
        simp only [List.map_cons, List.flatten_cons, List.length_append, List.length_cons]
        omega
    have := key ks fun _ h => h
    omega
/-- What is gathered: the variable V holds a row of the call's own. -/
structure PanI (w0 : World) (Z V : Nat) (pre : List (NodeV w0.heap.size w0)) (W : World) : Prop where
  row : ∃ v, Blk W V 23 #[v] ∧ W.ownsRow Z 3 1 v (panesN (nodesOf pre)).length (intC (panesN (nodesOf pre)))
  below : Below w0.heap.size w0 W
  size : Z ≤ W.heap.size
theorem PanI.own {w0 : World} {Z V B : Nat} (hV : V < B) (hn : w0.heap.size ≤ B) : OwnFrom B (PanI w0 Z V) := by
  intro s W W' row h g hr
  obtain ⟨⟨v, h1, h2⟩, h3, h4⟩ := h
  have hb : V < W.heap.size := h1.lt
  refine ⟨⟨v, (g.block V hb fun e => by have := (hr V e.symm).1; omega).trans h1, ?_⟩, h3.grown g h3.size (fun k e => by have := (hr k e).1; omega), Nat.le_trans h4 g.size⟩
  refine h2.kept g ?_
  rcases h2.2 with ⟨rfl, _⟩ | ⟨q, cap, cur, rfl, _, hgb, _⟩
  · exact .inl rfl
  · refine .inr fun e' => ?_
    obtain ⟨o, ho, hc⟩ := (hr q (by simpa [Value.ownBlock] using e'.symm)).2
    rw [hgb] at ho
    cases ho
    cases hc
theorem panes_len {n0 : Nat} {w0 : World} (pre : List (NodeV n0 w0)) : (panesN (nodesOf pre)).length ≤ pre.length := by
  unfold panesN nodesOf
  rw [List.length_map]
  exact Nat.le_trans (List.length_filter_le _ _) (by simp)
theorem pan_box {W w1 : World} {Z V m : Nat} {v v' : Value} {xs ys : List Value} {tmp : Obj} (hv : Blk W V 23 #[v]) (hr : W.ownsRow Z 3 1 v m xs) (hVZ : V < Z) (hZ : Z ≤ W.heap.size) (hown' : w1.ownsRow Z 3 1 v' (m + 1) ys) (hgrow : (W.alloc tmp).grownBy w1 v.ownBlock) :
    Blk w1 V 23 #[v] ∧ Blk (w1.setCell ⟨V, 0, none⟩ v') V 23 #[v'] ∧ (w1.setCell ⟨V, 0, none⟩ v').ownsRow Z 3 1 v' (m + 1) ys ∧ KeepsFrom Z W (w1.setCell ⟨V, 0, none⟩ v') ∧ ∀ n0, n0 ≤ V → KpN n0 W (w1.setCell ⟨V, 0, none⟩ v') := by
  have h1 := hr.lt
  have h2 := hown'.lt
  have hv1 : Blk w1 V 23 #[v] := (hv.grows ((Grows.refl W).alloc tmp)).kept hgrow (fun e => by have := (h1 V e).1; omega)
  have hs := hgrow.size
  rw [World.size_alloc] at hs
  have row_not : ∀ (o : Obj), ∀ k, v.ownBlock = some k → W.heap[k]? = some o → ∃ cs, o = .cells cs 3 (0, 0) := by
    intro o k e hk
    rcases hr.2 with ⟨rfl, _⟩ | ⟨q, cap, cur, rfl, _, hgb, _⟩
    · simp [Value.ownBlock] at e
    · obtain rfl : q = k := by simpa [Value.ownBlock] using e
      rw [hgb] at hk
      exact ⟨_, (Option.some.inj hk).symm⟩
  have key : ∀ k o, W.heap[k]? = some o → k ≠ V → (∀ cs, o ≠ .cells cs 3 (0, 0)) → (w1.setCell ⟨V, 0, none⟩ v').heap[k]? = some o := by
    intro k o hk hkV ho
    have hl := (Array.getElem?_eq_some_iff.1 hk).1
    have e1 : (w1.setCell ⟨V, 0, none⟩ v').heap[k]? = w1.heap[k]? := Below.heap_setCell w1 ⟨V, 0, none⟩ v' k hkV
    rw [e1, hgrow.block k (by rw [World.size_alloc]; omega) (fun e => by obtain ⟨cs, q⟩ := row_not o k e.symm hk; exact ho cs q)]
    exact (Below.heap_alloc W tmp k hl).trans hk
  refine ⟨hv1, hv1.set 0 v', hown'.kept (grownBy_setCell' w1 V v') (.inr fun e => by have := (h2 V e).1; omega), ⟨?_, fun k o hB hk ho => key k o hk (by omega) (fun cs e => by subst e; cases ho)⟩, fun n0 hn => ⟨?_, ?_, fun k cs t fr hk ht => ?_⟩⟩
  · have := (grownBy_setCell' w1 V v').size
    omega
  · exact (((Below.refl n0 W).alloc (by omega) tmp).grown hgrow (by rw [World.size_alloc]; omega) (fun j ej => by have := (h1 j ej).1; omega)).setCell (p := ⟨V, 0, none⟩) hn v'
  · have := (grownBy_setCell' w1 V v').size
    omega
  · refine key k _ hk (fun e => ?_) (fun cs' e => ?_)
    · subst e
      have := (show W.heap[k]? = _ from hv).symm.trans hk
      injection this with this
      injection this with _ e2 _
      rw [← e2] at ht
      exact absurd ht (by decide)
    · injection e with _ e2 _
      rw [e2] at ht
      exact absurd ht (by decide)
set_option maxRecDepth 100000 in
set_option maxHeartbeats 4000000 in
theorem panes_any {S : Nat → Prop} (L : Lay) (hok : okTree L = true) (hn : (panesL L).length ≤ 1000) (vk vw : Value) (w : World) (hL' : LayAt S w L vk vw) :
    Calls Try.prog 48 #[.agg #[.int .i64 L.kind, .int .i64 L.pane, vk, vw]] w (fun e w' => ∃ v, e = .returned v ∧ IntsAt (fun b => w.heap.size ≤ b) w' v (panesL L) ∧ Grows w w') := by
  refine (callsIn_wide (n := 6)).1 ?_
  obtain ⟨i0, hi0, hz0, hz1, hz2⟩ := info_parts info3
  have hL : LayAt (fun b => b < w.heap.size) w L vk vw := hL'.mono fun b hb _ => hb
  obtain ⟨ka, kc, e1, -⟩ := hL.kids.shape rfl
  obtain ⟨wa, wc, e2, -⟩ := hL.ints.shape rfl
  subst e1 e2
  have HL := Lib.hid hL
  clear hL hL'
  generalize L.kids.length = kn at *
  generalize L.ws.length = wn at *
  refine callsIn_of_wp_marks Try.func48 rfl trivial ?_ rfl
  simp only [Try.ntmps48, List.size_toArray, List.length_cons, List.length_nil, Nat.reduceAdd, Nat.reduceSub, Array.replicate_succ, Array.replicate_zero, List.push_toArray, List.append_toArray, List.nil_append, List.cons_append]
  gi_wp2_with (refine ⟨trivial, ?_⟩; gi_at_call 45; refine (callsIn_wide.2 (nodes_any _ _ _ _ _ _ _ _ _)).mono ?_; rintro e w' ⟨rfl, rfl⟩)
  refine abs_worldI (fun W => Grows w W ∧ Blk W (w.heap.size + 1) 23 #[.slice none 0 0] ∧ Blk W (w.heap.size + 1 + 1) 25 #[.int .i64 L.kind, .int .i64 L.pane, .slice ka kn kc, .slice wa wn wc]) ?_ ?_
  · obtain ⟨-, g, h⟩ := allocs_all [.cells #[.int .i64 L.kind, .int .i64 L.pane, .slice ka kn kc, .slice wa wn wc] 25, .cells #[.slice none 0 0] 23, .cells #[.int .i64 L.kind, .int .i64 L.pane, .slice ka kn kc, .slice wa wn wc] 25] w
    exact ⟨g, h 1 _ rfl, h 2 _ rfl⟩
  rintro W0 ⟨hg0, hbV, hbN⟩
  have hsz := hg0.size
  have hlN := hbN.lt
  have hlV := hbV.lt
  obtain ⟨V, hV⟩ : ∃ V, w.heap.size + 1 = V := ⟨_, rfl⟩
  obtain ⟨C, hC⟩ : ∃ C, w.heap.size + 1 + 1 = C := ⟨_, rfl⟩
  rw [hC, hV]
  rw [hC] at hbN hlN
  rw [hV] at hbV hlV
  have hI0 : PanI w W0.heap.size V [] W0 := ⟨⟨_, hbV, World.ownsRow_nil _ _ _ _⟩, hg0.below, Nat.le_refl _⟩
  refine wpIn_rangeFunc_ownH (gf := 72) (lb := #[.pointer (some ⟨C, 0, none⟩)]) rfl (by omega) rfl trivial (enters_of Try.func72 (by kernel_rfl) rfl) (nodes_stops (6 - 1) L _ _ w W0 HL.out hg0.below C hbN) (fun h k => h.trans k) (fun W l o o' hl h hc hw => KpN.putObj hsz W l o o' hl h hc hw) (Below.refl _ W0) (fun _ => rfl)
    (PanI w W0.heap.size V) (fun _ _ _ => False) (PanI.own hlV hsz) (fun _ _ _ _ _ h _ _ => h) hI0
    (fun x a' W => ∃ Bx, Blk W Bx 25 #[.int .i64 x.1.2.1.kind, .int .i64 x.1.2.1.pane, x.1.2.2.1, x.1.2.2.2] ∧ W0.heap.size ≤ Bx ∧ a' = { tmps := #[.agg #[.int .i64 L.kind, .int .i64 L.pane, .slice ka kn kc, .slice wa wn wc], .pointer (some ⟨w.heap.size, 0, none⟩), .slice none 0 0, .pointer (some ⟨V, 0, none⟩), undef, .pointer (some ⟨Bx, 0, none⟩), .agg #[.int .i64 L.kind, .int .i64 L.pane, .slice ka kn kc, .slice wa wn wc], .func (.func 72) #[] #[.pointer (some ⟨C, 0, none⟩)], .int .i64 x.1.1, .agg #[.int .i64 x.1.2.1.kind, .int .i64 x.1.2.1.pane, x.1.2.2.1, x.1.2.2.2], undef, undef, undef, undef, undef, undef, undef, undef, undef], defers := [] }) ?ax ?assign ?body ?done ?stop
  case ax =>
    rintro x a' _ W W' row ⟨Bx, hb, hs, ha⟩ hg hrow
    exact ⟨Bx, (grownBy_keeps_cells hg (fun r e => (hrow r e).2) hb rfl).trans hb, hs, ha⟩
  case assign =>
    intro l pre x W K hi hK
    obtain ⟨⟨d, y, vk, vw⟩, hy⟩ := x
    obtain ⟨ka', kc', e1, -⟩ := hy.kids.shape rfl
    obtain ⟨wa', wc', e2, -⟩ := hy.ints.shape rfl
    dsimp only at e1 e2
    subst e1 e2
    have hsW : W0.heap.size ≤ W.heap.size := hi.size
    have hg := (Grows.refl W).alloc (.cells #[.int .i64 y.kind, .int .i64 y.pane, .slice ka' y.kids.length kc', .slice wa' y.ws.length wc'] 25)
    have hK' := hK _ _ ((KeepsOthers.alloc W (.cells #[.int .i64 y.kind, .int .i64 y.pane, .slice ka' y.kids.length kc', .slice wa' y.ws.length wc'] 25)).from _) (KpN.grows (Nat.le_trans hsz hsW) hg) (PanI.own hlV hsz _ _ _ none hi (grownBy_of hg) (fun r e => by cases e)) ⟨W.heap.size, Blk.new rfl, hsW, rfl⟩
    clear hK
    dsimp only [NodeV.encs] at hK' ⊢
    gi_wp2_with fail
    exact hK'
  case body =>
    rintro l pre ⟨⟨d, y, vk, vw⟩, hy⟩ a' W hl ⟨r, hr⟩ hi ⟨Bx, hbx, hsx, rfl⟩ hlen
    obtain ⟨ka', kc', e1, -⟩ := hy.kids.shape rfl
    obtain ⟨wa', wc', e2, -⟩ := hy.ints.shape rfl
    dsimp only at e1 e2
    subst e1 e2
    dsimp only at hbx ⊢
    obtain ⟨c0, c1, c2, c3⟩ := hbx.four
    have hlx := hbx.lt
    obtain ⟨⟨v, hbv, hrow⟩, hbelow, hsize⟩ := hi
    obtain ⟨v0, v1⟩ := hbv.one
    have hlv := hbv.lt
    generalize y.kids.length = yk at *
    generalize y.ws.length = yw at *
    by_cases hk : y.kind = 1
    · have q1 : (y.kind == 1) = true := by simpa using hk
      have hN := nodes_len L hok 0
      have hp := panes_len pre
      have HP := Lib.hid (panes_one (pre := pre) (d := d) hy hk)
      obtain ⟨m, hm⟩ : ∃ m, (panesN (nodesOf pre)).length = m := ⟨_, rfl⟩
      rw [hm] at hrow hp
      have HR := Lib.hid hrow
      have HM := Lib.hid hm
      have hbnd : m + 1 ≤ 3000 := by omega
      have HBV := Lib.hid hbv
      have HBL := Lib.hid hbelow
      have hown := HR.out.lt
      clear hk hN hp hm hrow hbv hbelow hbx
      gi_wp2_with (gi_at_builtin; refine wpListIn_append_own _ rfl _ _ 23 rfl W0.heap.size 3 i0 _ 1 8 Try.underlying23 hi0 hz0 hz1 hz2 rfl (by decide) _ _ _ rfl (HR.out.alloc _) ⟨W.heap.size, 0, none⟩ 1 1 [.int .i64 y.pane] rfl rfl (fun j u hj => by rw [Addr.add_lit, Nat.zero_add]; exact (cell_of_row _ _ j _ 3 (0, 0) (heap_alloc_new W _)).trans (by simpa using hj)) (by simp [Value.oneCell']) (by unfold maxLen; omega) (by omega) (by simp; omega) ?_; intro v2 w1 hown' hgrow _; obtain ⟨g', cap', rfl⟩ := ownsRow_succ hown'; obtain ⟨hx1, hx2, hx3, hx4, hx5⟩ := pan_box HBV.out HR.out (by omega) hsize hown' hgrow; have hx6 := hx1.one.1; have hx7 := hx1.one.2)
      have hkp := hx5 w.heap.size (by omega)
      refine ⟨hx4, hkp, ⟨⟨_, hx2, ?_⟩, HBL.out.trans hkp.below, Nat.le_trans hsize hkp.size⟩⟩
      show World.ownsRow _ _ _ _ _ (panesN (nodesOf (pre ++ [NodeV.of d y (.slice ka' yk kc') (.slice wa' yw wc') hy]))).length (intC (panesN (nodesOf (pre ++ [NodeV.of d y (.slice ka' yk kc') (.slice wa' yw wc') hy]))))
      rw [HP.out, List.length_append, HM.out, ← intC_append]
      exact hx3
    · have q1 : (y.kind == 1) = false := by simpa using hk
      have e := panes_none (pre := pre) (d := d) hy hk
      gi_wp2_with fail
      exact ⟨KeepsFrom.refl _ _, KpN.refl _ _, ⟨⟨v, hbv, e.symm ▸ hrow⟩, hbelow, hsize⟩⟩
  case done =>
    intro D xs W hD hS hi hK
    obtain ⟨⟨v, hbv, hrow⟩, hbelow, hsize⟩ := hi
    have hp : panesN (nodesOf xs) = panesL L := by rw [hS, panes_nodes nx L hok 0]
    rw [hp] at hrow
    obtain ⟨v0, -⟩ := hbv.one
    obtain ⟨a2, n2, cap2, rfl⟩ : ∃ a2 n2 cap2, v = .slice a2 n2 cap2 := by
      rcases hrow.2 with ⟨rfl, _⟩ | ⟨g, cap, _, rfl, _⟩
      · exact ⟨_, _, _, rfl⟩
      · exact ⟨_, _, _, rfl⟩
    gi_wp2_with fail
    refine ⟨by simp, .inl ⟨_, _, rfl, run_takeDeferred hK, ?_⟩⟩
    have hr2 := ownsRow_putObj hrow (.deferred none) hK rfl
    have hbl := hbelow.grown (grownBy_putObj' W D (.deferred none)) hbelow.size (fun k e => by cases e; omega)
    refine ⟨_, results_tmp rfl _ _ _, _, rfl, ?_, Grows.of_below hbl⟩
    exact ints_of_cells rfl (ownsRow_cells hr2) (fun b e _ => by have := (hr2.lt b e).1; omega) (by omega)
  case stop =>
    rintro D c pre W hD hsp hf hK
    exact hf.elim
end Go.Proofs.Ytbobpgegkmcapaa

