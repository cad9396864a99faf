/-
  Maps with integer keys whose entries are written out: insert and lookup as words that the walk's own rules see through. No program in sight.
-/
import Derived.Test.YtafokiobbceibaaExt
import Derived.MapKept
import Derived.WideMake
namespace Go.Proofs.Ytafokiobbceibaa
open Go.RowKit

def mapEs (w : World) (r : Nat) : Array MapEntry := match w.heap[r]? with | some (.map es _) => es | _ => #[]
def mapClk (w : World) (r : Nat) : Nat := match w.heap[r]? with | some (.map _ c) => c | _ => 0
def isMap (w : World) (r : Nat) : Bool := match w.heap[r]? with | some (.map _ _) => true | _ => false
def insMap (w : World) (r : Nat) (k v : Value) : World := { w with heap := w.heap.setIfInBounds r (.map ((mapEs w r).push { key := k, val := v, born := mapClk w r }) (mapClk w r + 1)) }
def freshK (k : Int) : List MapEntry → Bool
  | [] => true
  | e :: es => (match e.key with | .int .i64 j => k != j | _ => false) && freshK k es
def findV (z : Value) (k : Int) : List MapEntry → Value × Bool
  | [] => (z, false)
  | e :: es => match e.key with | .int .i64 j => if k == j then (e.val, true) else findV z k es | _ => findV z k es
def intKeys : List MapEntry → Bool
  | [] => true
  | e :: es => (match e.key with | .int .i64 _ => true | _ => false) && intKeys es
theorem isMap_heap {w : World} {r : Nat} (h : isMap w r = true) : w.heap[r]? = some (.map (mapEs w r) (mapClk w r)) := by
  unfold isMap mapEs mapClk at *
  split at h
  · rename_i h1; rw [h1]
  · cases h
theorem find_fresh {k : Int} : ∀ (l : List MapEntry) (i : Nat), freshK k l = true → Instr.findNow (.int .i64) (.int .i64 k) l i = some none
  | [], _, _ => rfl
  | e :: es, i, h => by
    obtain ⟨key, val, born⟩ := e
    simp only [freshK, Bool.and_eq_true] at h
    cases key <;> try (exact absurd h.1 Bool.false_ne_true)
    rename_i kd j
    cases kd <;> try (exact absurd h.1 Bool.false_ne_true)
    have hne : (k == j) = false := by simpa using h.1
    simp only [Instr.findNow, Instr.sameNow, if_true, hne]
    exact find_fresh es (i + 1) h.2
theorem find_val {z : Value} {k : Int} : ∀ (l : List MapEntry) (i : Nat), intKeys l = true → ∃ r, Instr.findNow (.int .i64) (.int .i64 k) l i = some r ∧ ((r = none ∧ findV z k l = (z, false)) ∨ ∃ j v, r = some (j, v) ∧ findV z k l = (v, true))
  | [], _, _ => ⟨none, rfl, .inl ⟨rfl, rfl⟩⟩
  | e :: es, i, h => by
    obtain ⟨key, val, born⟩ := e
    simp only [intKeys, Bool.and_eq_true] at h
    cases key <;> try (exact absurd h.1 Bool.false_ne_true)
    rename_i kd j
    cases kd <;> try (exact absurd h.1 Bool.false_ne_true)
    cases hne : k == j
    · obtain ⟨r, h1, h2⟩ := find_val (z := z) (k := k) es (i + 1) h.2
      refine ⟨r, ?_, ?_⟩
      · simp only [Instr.findNow, Instr.sameNow, if_true, hne]
        exact h1
      · simpa only [findV, hne, Bool.false_eq_true, if_false] using h2
    · refine ⟨some (i, val), ?_, .inr ⟨i, val, rfl, ?_⟩⟩
      · simp only [Instr.findNow, Instr.sameNow, if_true, hne]
      · simp only [findV, hne, if_true]
section
variable {P : Program} {mt kt et : TypeId}
theorem run_ins (hm : P.underlying mt = some (.map kt et)) (hk : P.underlying kt = some (.int .i64)) (w : World) (r : Nat) (k : Int) (v : Value) (h : isMap w r = true) (hf : freshK k (mapEs w r).toList = true) :
    (Instr.mapUpdate mt (.map (some r)) (.int .i64 k) v).run P w = .ok () (insMap w r (.int .i64 k) v) := by
  have hb := isMap_heap h
  have hc : (Instr.checkKey false 10000 kt (.int .i64 k)).run P w = .ok () w := MapKept.run_checkKey (k := .int .i64 k) hk (by simp [MapKept.IsKey]) false 9999
  simp [Instr.mapUpdate, run_underlying hm, MapKept.run_getObj_map hb, hc, MapKept.run_findKey hk (find_fresh _ 0 hf), MapKept.run_setObj_map _ hb, Result.andThen, insMap]
theorem run_look (hm : P.underlying mt = some (.map kt et)) (hk : P.underlying kt = some (.int .i64)) {z : Value} (hz : ∀ w, (zeroValue et).run P w = .ok z w) (w : World) (r : Nat) (k : Int) (ok : Bool) (h : isMap w r = true) (hf : intKeys (mapEs w r).toList = true) :
    (Instr.lookup mt (.map (some r)) (.int .i64 k) ok).run P w = .ok (if ok then .tuple #[(findV z k (mapEs w r).toList).1, .bool (findV z k (mapEs w r).toList).2] else (findV z k (mapEs w r).toList).1) w := by
  have hb := isMap_heap h
  have hc : ∀ e, (Instr.checkKey e 10000 kt (.int .i64 k)).run P w = .ok () w := fun e => MapKept.run_checkKey (k := .int .i64 k) hk (by simp [MapKept.IsKey]) e 9999
  obtain ⟨f, h1, h2⟩ := find_val (z := z) (k := k) (mapEs w r).toList 0 hf
  rcases h2 with ⟨rfl, h2⟩ | ⟨j, v, rfl, h2⟩
  all_goals
    rw [h2]
    simp only [Instr.lookup, Sem.run_bind, run_underlying hm, MapKept.run_getObj_map hb, hc, MapKept.run_findKey hk h1, Result.andThen, Sem.run_pure, hz]
  all_goals cases ok <;> simp
end
section
variable (w : World)
theorem alloc_new (o : Obj) : (w.alloc o).heap[w.heap.size]? = some o := by show (w.heap.push o)[w.heap.size]? = _; simp
@[go_sem] theorem isMap_new (es : Array MapEntry) (c : Nat) : isMap (w.alloc (.map es c)) w.heap.size = true := by simp only [isMap, alloc_new]
@[go_sem] theorem mapEs_new (es : Array MapEntry) (c : Nat) : mapEs (w.alloc (.map es c)) w.heap.size = es := by simp only [mapEs, alloc_new]
theorem mapClk_new (es : Array MapEntry) (c : Nat) : mapClk (w.alloc (.map es c)) w.heap.size = c := by simp only [mapClk, alloc_new]
@[go_sem] theorem isMap_at (es : Array MapEntry) (c r : Nat) (hr : r = w.heap.size) : isMap (w.alloc (.map es c)) r = true := by subst hr; exact isMap_new w es c
@[go_sem] theorem mapEs_at (es : Array MapEntry) (c r : Nat) (hr : r = w.heap.size) : mapEs (w.alloc (.map es c)) r = es := by subst hr; exact mapEs_new w es c
theorem alloc_heap (o : Obj) {k : Nat} (hk : k < w.heap.size) : (w.alloc o).heap[k]? = w.heap[k]? := by
  show (w.heap.push o)[k]? = _
  rw [Array.getElem?_push_lt hk, Array.getElem?_eq_getElem hk]
@[go_sem] theorem isMap_alloc (o : Obj) (r : Nat) (hr : r < w.heap.size) : isMap (w.alloc o) r = isMap w r := by simp only [isMap, alloc_heap w o hr]
@[go_sem] theorem mapEs_alloc (o : Obj) (r : Nat) (hr : r < w.heap.size) : mapEs (w.alloc o) r = mapEs w r := by simp only [mapEs, alloc_heap w o hr]
theorem mapClk_alloc (o : Obj) (r : Nat) (hr : r < w.heap.size) : mapClk (w.alloc o) r = mapClk w r := by simp only [mapClk, alloc_heap w o hr]
@[go_sem] theorem isMap_ext (h : Array Obj) (d : Nat) (r : Nat) (hr : r < w.heap.size) : isMap (ext w h d) r = isMap w r := by simp only [isMap, ext_heap w h d r hr]
@[go_sem] theorem mapEs_ext (h : Array Obj) (d : Nat) (r : Nat) (hr : r < w.heap.size) : mapEs (ext w h d) r = mapEs w r := by simp only [mapEs, ext_heap w h d r hr]
theorem mapClk_ext (h : Array Obj) (d : Nat) (r : Nat) (hr : r < w.heap.size) : mapClk (ext w h d) r = mapClk w r := by simp only [mapClk, ext_heap w h d r hr]
@[go_sem] theorem isMap_drew (r : Nat) : isMap w.drew r = isMap w r := rfl
@[go_sem] theorem mapEs_drew (r : Nat) : mapEs w.drew r = mapEs w r := rfl
@[go_sem] theorem insMap_new (es : Array MapEntry) (c : Nat) (k v : Value) : insMap (w.alloc (.map es c)) w.heap.size k v = w.alloc (.map (es.push { key := k, val := v, born := c }) (c + 1)) := by
  simp only [insMap, mapEs_new, mapClk_new]
  show ({ w with heap := (w.heap.push (.map es c)).setIfInBounds w.heap.size _ } : World) = { w with heap := w.heap.push _ }
  simp only [World.mk.injEq, and_true]
  apply Array.ext_getElem?
  intro i
  simp only [Array.getElem?_setIfInBounds, Array.getElem?_push, Array.size_push]
  by_cases hi : w.heap.size = i
  · subst hi; simp
  · have : ¬ i = w.heap.size := fun e => hi e.symm
    simp [hi, this]
@[go_sem] theorem insMap_ext (h : Array Obj) (d : Nat) (r : Nat) (k v : Value) (hr : r < w.heap.size) : insMap (ext w h d) r k v = ext (insMap w r k v) h d := by
  simp only [insMap, mapEs_ext w h d r hr, mapClk_ext w h d r hr]
  simp only [ext, World.mk.injEq, and_true]
  apply Array.ext_getElem?
  intro i
  simp only [Array.getElem?_setIfInBounds, Array.getElem?_append, Array.size_setIfInBounds, Array.size_append]
  by_cases hi : r = i
  · subst hi; simp [hr, Nat.lt_add_right]
  · simp [hi]
@[go_sem] theorem insMap_size (r : Nat) (k v : Value) : (insMap w r k v).heap.size = w.heap.size := by simp [insMap]
end
@[go_sem] theorem freshK_nil (k : Int) : freshK k [] = true := rfl
@[go_sem] theorem freshK_cons (k j : Int) (v : Value) (b : Nat) (l : List MapEntry) : freshK k ({ key := .int .i64 j, val := v, born := b } :: l) = (k != j && freshK k l) := rfl
@[go_sem] theorem intKeys_nil : intKeys [] = true := rfl
@[go_sem] theorem intKeys_cons (j : Int) (v : Value) (b : Nat) (l : List MapEntry) : intKeys ({ key := .int .i64 j, val := v, born := b } :: l) = intKeys l := by simp [intKeys]
@[go_sem] theorem findV_nil (z : Value) (k : Int) : findV z k [] = (z, false) := rfl
@[go_sem] theorem findV_cons (z : Value) (k j : Int) (v : Value) (b : Nat) (l : List MapEntry) : findV z k ({ key := .int .i64 j, val := v, born := b } :: l) = if k == j then (v, true) else findV z k l := rfl
end Go.Proofs.Ytafokiobbceibaa
