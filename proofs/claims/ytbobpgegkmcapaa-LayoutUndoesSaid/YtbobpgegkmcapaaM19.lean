/-
  slices.Clone, slices.Insert. LayoutUndoes.
-/
import Derived.Test.YtbobpgegkmcapaaRows
import Derived.Test.YtbobpgegkmcapaaM1
import Derived.Test.YtbobpgegkmcapaaM2
import Derived.Test.YtbobpgegkmcapaaM8
import Derived.Test.YtbobpgegkmcapaaM14
import Derived.WalkKit
import Derived.WalkSpells
import Derived.WalkLawsBesides
import Derived.Handy
import Derived.Laws.Rows
import Derived.Great.BuildSlice
import Derived.Deep.Heap
import Derived.IntWalk
import Derived.Lib.Hide
import Derived.Outline
import Derived.Deep.Light
import Derived.Deep.LoopGhost
import Derived.BigGuardPart
import Derived.BigQuiet
import Derived.Deep.QuietTactic
import Derived.Deep.RegionHeld3
import Derived.Deep.DeepCutAuto
import Derived.Deep.CutBlock
import Derived.OwnWalk
import Derived.Maps.AppendAt
import Derived.Shelf.Spec.SlicesInsertGrow
import Derived.Test.YtbobpgegkmcapaaM5
import Derived.Test.YtbobpgegkmcapaaM9
import Derived.Test.YtbobpgegkmcapaaM12
import Derived.Test.YtbobpgegkmcapaaM13
import Derived.Test.YtbobpgegkmcapaaM17
import Derived.Test.YtbobpgegkmcapaaM18
namespace Go.Proofs.Ytbobpgegkmcapaa
open Go.RowKit

def insRen : Go.Shelf.Ren := ⟨fun | 21 => 35 | 27 => 67 | 28 => 68 | 35 => 79 | 39 => 82 | n => n, fun | 22 => 23 | n => n, fun | n => n⟩
theorem insLay : Go.Proofs.Lays2.n21 Try.prog insRen := {
  mixed := by kernel_rfl
  f21 := Try.func35.trans (congrArg some (by kernel_rfl))
  f27 := Try.func67.trans (congrArg some (by kernel_rfl))
  f28 := Try.func68.trans (congrArg some (by kernel_rfl))
  f35 := Try.func79.trans (congrArg some (by kernel_rfl))
  f39 := Try.func82.trans (congrArg some (by kernel_rfl))
  t0 := Try.underlying0
  a0 := Try.isAgg0
  z0 := Try.sizeOf0
  v0 := Try.zeroValue0
  t3 := Try.underlying3
  a3 := Try.isAgg3
  z3 := Try.sizeOf3
  v3 := Try.zeroValue3
  t4 := Try.underlying4
  a4 := Try.isAgg4
  z4 := Try.sizeOf4
  v4 := Try.zeroValue4
  t22 := Try.underlying23
  a22 := Try.isAgg23
  z22 := Try.sizeOf23
  v22 := Try.zeroValue23
  i3 := by kernel_rfl }
/-- A row of numbers of the call's own, opened. -/
theorem own_row {w : World} {base n : Nat} {v : Value} {l : List Int} (h : w.ownsRow base 3 1 v n (intC l)) (hn : 1 ≤ n) : ∃ g cap cur, v = .slice (some ⟨g, 0, none⟩) n cap ∧ base ≤ g ∧ Blk w g 3 cur ∧ n ≤ cap ∧ cap ≤ 9223372036854775807 ∧ cur.size = cap ∧ ∀ j x, l[j]? = some x → w.cell? ⟨g, j, none⟩ = some (.int .i64 x) := by
  have hc := ownsRow_cells h
  obtain ⟨hl, h⟩ := h
  rcases h with ⟨-, h0⟩ | ⟨g, cap, cur, rfl, hb, hk, h1, h2, h3, h4⟩
  · omega
  · refine ⟨g, cap, cur, rfl, hb, hk, h1, by simpa [maxLen] using h2, by simpa using h3, fun j x hj => ?_⟩
    obtain ⟨-, a, c, e, -, hin⟩ := hc
    cases e
    obtain ⟨b, off, e, -, hx⟩ := hin (by omega)
    cases e
    have := hx j (.int .i64 x) (by simp [intC, hj])
    simpa using this
theorem grows_setCells {w0 : World} {b : Nat} (hb : w0.heap.size ≤ b) : ∀ (vs : List Value) (o : Nat) (w : World), Grows w0 w → Grows w0 (w.setCells b o vs)
  | [], _, _, g => g
  | v :: r, o, _w, g => grows_setCells hb r (o + 1) _ (g.setCell hb v)
theorem same_setCells {S : Nat → Prop} {b : Nat} (hb : ¬ S b) : ∀ (vs : List Value) (o : Nat) (w0 w : World), Same S w0 w → Same S w0 (w.setCells b o vs)
  | [], _, _, _, h => h
  | _v :: r, o, w0, _w, h => same_setCells hb r (o + 1) w0 _ (h.trans (same_set hb))
theorem ins_at {l : List Int} {i : Nat} {x : Int} (hi : i ≤ l.length) (j : Nat) : (l.take i ++ x :: l.drop i)[j]? = if j < i then l[j]? else if j = i then some x else l[j - 1]? := by
  by_cases h1 : j < i
  · rw [if_pos h1, List.getElem?_append_left (by rw [List.length_take]; omega), List.getElem?_take_of_lt h1]
  · rw [if_neg h1, List.getElem?_append_right (by rw [List.length_take]; omega), List.length_take, Nat.min_eq_left hi]
    by_cases h2 : j = i
    · subst h2
      simp
    · rw [if_neg h2, show j - i = (j - 1 - i) + 1 by omega, List.getElem?_cons_succ, List.getElem?_drop, show i + (j - 1 - i) = j - 1 by omega]
theorem ints_mk {w : World} {b n c : Nat} {l : List Int} (hn : l.length = n) (hc : n ≤ c) (hm : n ≤ 9223372036854775807) (hb : b < w.heap.size) (h : ∀ j x, l[j]? = some x → w.cell? ⟨b, j, none⟩ = some (.int .i64 x)) : IntsAt AnyB w (.slice (some ⟨b, 0, none⟩) n c) l := by
  subst hn
  exact ⟨_, c, rfl, hc, hm, fun _ => ⟨b, 0, rfl, hb, trivial, fun i x hi => by rw [Nat.zero_add]; exact h i x hi⟩⟩
theorem blk_some {w : World} {n : Nat} {t : TypeId} {cs : Array Value} (h : Blk w n t cs) {j : Nat} (hj : j < cs.size) : (w.cell? ⟨n, j, none⟩).isSome = true := by
  rw [h.cell j, Array.getElem?_eq_getElem hj]
  rfl
theorem own_empty {w : World} {b base : Nat} (hb : base ≤ b) (he : w.heap.size = b) : (w.alloc (.cells #[] 3)).ownsRow base 3 1 (.slice (some ⟨b, 0, none⟩) 0 0) 0 [] := by
  subst he
  exact ⟨rfl, .inr ⟨_, 0, #[], rfl, hb, heap_alloc_new w _, Nat.le_refl _, Nat.zero_le _, rfl, rfl⟩⟩
set_option maxRecDepth 100000 in
theorem clone_any {S : Nat → Prop} {w : World} {v : Value} {l : List Int} {n : Nat} (hn : l.length = n) (h1 : 1 ≤ n) (h2 : n ≤ 1000) (h : IntsAt S w v l) : Calls Try.prog 36 #[v] w (fun e w' => ∃ v', e = .returned v' ∧ w'.ownsRow w.heap.size 3 1 v' n (intC l) ∧ Grows w w') := by
  obtain ⟨i0, hi0, hz0, hz1, hz2⟩ := info_parts info3
  obtain ⟨a, c, rfl, hc, hm, hin⟩ := h.open_ hn
  obtain ⟨b, off, rfl, -⟩ := hin (by rintro rfl; simp at hn; omega)
  have HC := Lib.hid (hn ▸ h.cells : CellsAt 1 w _ n (intC l))
  have heq := fun w' : World => Lib.run_eql_slice_nil (P := Try.prog) w' 23 3 (some ⟨b, off, none⟩) n c 0 0 Try.underlying23
  clear h hin hn
  go_enter Try.func36, Try.ntmps36
  go_wp2_with (at_builtin; (go_must (refine wpList_appO _ rfl (.tmp 5) (.tmp 6) 23 rfl w.heap.size 3 i0 _ 1 8 Try.underlying23 hi0 hz0 hz1 hz2 rfl (by decide) 0 n [] (intC l) (own_empty (Nat.le_refl _) rfl) (HC.out.grows (by repeat' (first | (with_reducible exact Grows.refl _) | (with_reducible refine Grows.alloc ?_ _) | (with_reducible refine Grows.drew ?_) | (with_reducible refine Grows.ext ?_ _ _)))) (intC_one _) (by unfold maxLen; omega) (by omega) (by simp) ?_)); intro v3 w3 row3 q1 q2 q3 q4; have hg3 : Grows w w3 := appended_grows (by repeat' (first | (with_reducible exact Grows.refl _) | (with_reducible refine Grows.alloc ?_ _) | (with_reducible refine Grows.drew ?_) | (with_reducible refine Grows.ext ?_ _ _))) q2 (fun k e => (q3 k e).1))
  go_returns
  rw [Nat.zero_add, List.nil_append] at q1
  exact ⟨_, rfl, q1, hg3⟩
theorem size_setCells (b : Nat) : ∀ (vs : List Value) (o : Nat) (w : World), (w.setCells b o vs).heap.size = w.heap.size
  | [], _, _ => rfl
  | v :: r, o, w => by rw [World.setCells, size_setCells b r]; simp
theorem intC_drop (l : List Int) (i : Nat) : (intC l).drop i = intC (l.drop i) := by simp [intC]
theorem intC_at {l : List Int} {j : Nat} {x : Int} (h : l[j]? = some x) : (intC l)[j]? = some (.int .i64 x) := by simp [intC, h]
theorem intC_len (l : List Int) : (intC l).length = l.length := by simp [intC]
/-- The cells behind an insertion in place. -/
theorem ins_cells {w w1 : World} {b n i : Nat} {l : List Int} {x : Int} (hl : l.length = n) (hi : i ≤ n) (hw1 : w1 = (w.setCells b (i + 1) (intC (l.drop i))).setCells b i [.int .i64 x]) (hs : ∀ j, j < n + 1 → (w.cell? ⟨b, j, none⟩).isSome = true) (hc : ∀ j y, j < i → l[j]? = some y → w.cell? ⟨b, j, none⟩ = some (.int .i64 y)) :
    ∀ j y, (l.take i ++ x :: l.drop i)[j]? = some y → w1.cell? ⟨b, j, none⟩ = some (.int .i64 y) := by
  subst hw1
  intro j y hj
  rw [ins_at (by omega)] at hj
  have hs1 : ∀ k, k < n + 1 → ((w.setCells b (i + 1) (intC (l.drop i))).cell? ⟨b, k, none⟩).isSome = true := fun k hk => isSome_setCells b _ _ w (fun m hm => hs _ (by rw [intC_len, List.length_drop] at hm; omega)) k (hs k hk)
  by_cases h1 : j < i
  · rw [if_pos h1] at hj
    rw [World.cell?_setCells_out b _ _ _ _ (fun _ _ => .inl h1), World.cell?_setCells_out b _ _ _ _ (fun _ _ => .inl (by show j < i + 1; omega))]
    exact hc j y h1 hj
  · rw [if_neg h1] at hj
    by_cases h2 : j = i
    · rw [if_pos h2] at hj
      subst h2
      have hxy := Option.some.inj hj
      have := World.cell?_setCells_in b [.int .i64 x] j (w.setCells b (j + 1) (intC (l.drop j))) (fun k hk => hs1 _ (by simp at hk; omega)) 0 (by simp)
      simp only [Nat.add_zero, List.getElem_cons_zero] at this
      rw [this, ← hxy]
    · rw [if_neg h2] at hj
      have hjn := (List.getElem?_eq_some_iff.1 hj).1
      rw [World.cell?_setCells_out b _ _ _ _ (fun _ _ => .inr (by show i + 1 ≤ j; omega))]
      have hd : (l.drop i)[j - (i + 1)]? = some y := by rw [List.getElem?_drop, show i + (j - (i + 1)) = j - 1 by omega]; exact hj
      have hlt : j - (i + 1) < (intC (l.drop i)).length := by rw [intC_len, List.length_drop]; omega
      have := World.cell?_setCells_in b (intC (l.drop i)) (i + 1) w (fun k hk => hs _ (by rw [intC_len, List.length_drop] at hk; omega)) (j - (i + 1)) hlt
      rw [show i + 1 + (j - (i + 1)) = j by omega] at this
      rw [this, ← List.getElem?_eq_getElem hlt]
      exact intC_at hd
theorem ins_cells2 {w w1 : World} {b n i : Nat} {l : List Int} {x : Int} (hl : l.length = n) (hi : i ≤ n) (hw1 : w1 = (w.setCells b i [.int .i64 x]).setCells b (i + 1) (intC (l.drop i))) (hs : ∀ j, j < n + 1 → (w.cell? ⟨b, j, none⟩).isSome = true) (hc : ∀ j y, j < i → l[j]? = some y → w.cell? ⟨b, j, none⟩ = some (.int .i64 y)) :
    ∀ j y, (l.take i ++ x :: l.drop i)[j]? = some y → w1.cell? ⟨b, j, none⟩ = some (.int .i64 y) := by
  subst hw1
  intro j y hj
  rw [ins_at (by omega)] at hj
  have hs1 : ∀ k, k < n + 1 → ((w.setCells b i [.int .i64 x]).cell? ⟨b, k, none⟩).isSome = true := fun k hk => isSome_setCells b _ _ w (fun m hm => hs _ (by simp at hm; omega)) k (hs k hk)
  by_cases h1 : j < i
  · rw [if_pos h1] at hj
    rw [World.cell?_setCells_out b _ _ _ _ (fun _ _ => .inl (by show j < i + 1; omega)), World.cell?_setCells_out b _ _ _ _ (fun _ _ => .inl h1)]
    exact hc j y h1 hj
  · rw [if_neg h1] at hj
    by_cases h2 : j = i
    · rw [if_pos h2] at hj
      subst h2
      have hxy := Option.some.inj hj
      rw [World.cell?_setCells_out b _ _ _ _ (fun _ _ => .inl (by show j < j + 1; omega))]
      have := World.cell?_setCells_in b [.int .i64 x] j w (fun k hk => hs _ (by simp at hk; omega)) 0 (by simp)
      simp only [Nat.add_zero, List.getElem_cons_zero] at this
      rw [this, ← hxy]
    · rw [if_neg h2] at hj
      have hjn := (List.getElem?_eq_some_iff.1 hj).1
      have hd : (l.drop i)[j - (i + 1)]? = some y := by rw [List.getElem?_drop, show i + (j - (i + 1)) = j - 1 by omega]; exact hj
      have hlt : j - (i + 1) < (intC (l.drop i)).length := by rw [intC_len, List.length_drop]; omega
      have := World.cell?_setCells_in b (intC (l.drop i)) (i + 1) (w.setCells b i [.int .i64 x]) (fun k hk => hs1 _ (by rw [intC_len, List.length_drop] at hk; omega)) (j - (i + 1)) hlt
      rw [show i + 1 + (j - (i + 1)) = j by omega] at this
      rw [this, ← List.getElem?_eq_getElem hlt]
      exact intC_at hd
theorem shape_blk {w : World} {n : Nat} {t : TypeId} {cs : Array Value} (h : Blk w n t cs) : w.shape? n = some (t, cs.size) := by
  unfold Blk at h
  simp [World.shape?, h]
theorem zero_cells (n : Nat) : (Builtin.zeroCells (Value.int .i64 0).cells n).size = n := by
  simp [Builtin.zeroCells, Value.cells]
set_option maxRecDepth 100000 in
theorem insert_any {W w : World} {base n vb i : Nat} {v : Value} {l : List Int} {x : Int} (hn : l.length = n) (h1 : 1 ≤ n) (h2 : n ≤ 1000) (hi : i ≤ n) (hb : W.heap.size ≤ base) (h : w.ownsRow base 3 1 v n (intC l)) (hvb : Blk w vb 3 #[.int .i64 x]) (hne : v.ownBlock ≠ some vb) (g : Grows W w) :
    Calls Try.prog 35 #[v, .int .i64 i, .slice (some ⟨vb, 0, none⟩) 1 1] w (fun e w' => ∃ v', e = .returned v' ∧ IntsAt AnyB w' v' (l.take i ++ x :: l.drop i) ∧ Grows W w' ∧ Same (fun k => v.ownBlock ≠ some k) w w') := by
  obtain ⟨b, c, cur, rfl, hbb, hk, hnc, hc63, hsz, hcell⟩ := own_row h h1
  have hvbb : vb ≠ b := fun e => hne (by rw [e]; rfl)
  have hlen : (l.take i ++ x :: l.drop i).length = n + 1 := by
    simp only [List.length_append, List.length_take, List.length_cons, List.length_drop]
    omega
  have hcs : ∀ j u, (intC l)[j]? = some u → w.cell? ⟨b, 0 + j, none⟩ = some u := by
    intro j u hj
    rw [Nat.zero_add]
    have hjl := (List.getElem?_eq_some_iff.1 hj).1
    rw [intC_len] at hjl
    have hx : l[j]? = some l[j] := List.getElem?_eq_getElem hjl
    rw [intC_at hx] at hj
    rw [← hj]
    exact hcell j _ hx
  have hvs : ∀ j u, [Value.int .i64 x][j]? = some u → w.cell? ⟨vb, 0 + j, none⟩ = some u := by
    intro j u hj
    match j, hj with
    | 0, hj =>
      obtain rfl : Value.int .i64 x = u := by simpa using hj
      exact hvb.one.1
  have hsome : ∀ j, j < c → (w.cell? ⟨b, j, none⟩).isSome = true := fun j hj => blk_some hk (by omega)
  rcases Nat.lt_or_ge i n with hin | hin
  · rcases Nat.lt_or_ge c (n + 1) with hroom | hroom
    · refine (Any2.slices_Insert_int_grow insLay b 0 n c i vb 0 1 1 (intC l) [.int .i64 x] w hin (by decide) hnc hroom (by omega) (by rw [intC_len]; exact hn) rfl hcs hvs (intC_one _) (by simp [Value.oneCell'])).mono ?_
      rintro e w' ⟨rfl, rfl⟩
      have hcap := grownCap_ge w (n + 1) c (insRen.t 3)
      generalize grownCap w (n + 1) c (insRen.t 3) = cp at *
      rw [intC_drop, drew_setCells]
      have hnew := heap_alloc_new w (.cells (((intC l).take i).toArray ++ Builtin.zeroCells (Value.int .i64 0).cells (n + 1 - i) ++ Builtin.zeroCells (Value.int .i64 0).cells (cp - (n + 1))) (insRen.t 3))
      have hsize : (((intC l).take i).toArray ++ Builtin.zeroCells (Value.int .i64 0).cells (n + 1 - i) ++ Builtin.zeroCells (Value.int .i64 0).cells (cp - (n + 1))).size = cp := by
        simp only [Array.size_append, zero_cells, List.size_toArray, List.length_take, intC_len]
        omega
      have hcc := ins_cells2 (w := (w.alloc (.cells (((intC l).take i).toArray ++ Builtin.zeroCells (Value.int .i64 0).cells (n + 1 - i) ++ Builtin.zeroCells (Value.int .i64 0).cells (cp - (n + 1))) (insRen.t 3))).drew.drew) (b := w.heap.size) (x := x) hn hi rfl (fun j hj => blk_some (w := w.alloc _) hnew (by rw [hsize]; omega)) (fun j y hji hy => by
        refine (cell_of_row _ _ j _ _ (0, 0) hnew).trans ?_
        rw [Array.getElem?_append_left (by simp only [Array.size_append, zero_cells, List.size_toArray, List.length_take, intC_len]; omega), Array.getElem?_append_left (by simp only [List.size_toArray, List.length_take, intC_len]; omega)]
        simp only [List.getElem?_toArray]
        rw [List.getElem?_take_of_lt hji]
        exact intC_at hy)
      have hWw := g.size
      exact ⟨_, rfl, ints_mk hlen hcap (by omega) (by rw [size_setCells, size_setCells]; exact (Array.getElem?_eq_some_iff.1 hnew).1) hcc, grows_setCells (by omega) _ _ _ (grows_setCells (by omega) _ _ _ ((g.alloc _).drew).drew), Grows.same (grows_setCells (Nat.le_refl _) _ _ _ (grows_setCells (Nat.le_refl _) _ _ _ ((((Grows.refl w).alloc _).drew).drew))) _⟩
    · refine (Any2.slices_Insert_int_shift insLay b 0 n c i vb 0 1 1 (intC l) [.int .i64 x] w hin (by decide) hroom hc63 hvbb (by rw [intC_len]; exact hn) rfl hcs (fun j hj => by rw [Nat.zero_add]; exact hsome j (by omega)) (fun j _ => hk.frozen _) hvs (intC_one _) (by simp [Value.oneCell']) 3 3 1 cur.size (shape_blk hvb) (shape_blk hk) (by omega) (hvb.frozen _) (hvb.frozen _)).mono ?_
      rintro e w' ⟨rfl, rfl⟩
      rw [intC_drop, Nat.zero_add, Nat.zero_add]
      have hcc := ins_cells (w := w.drew) (x := x) hn hi rfl (fun j hj => hsome j (by omega)) (fun j y _ hy => hcell j y hy)
      exact ⟨_, rfl, ints_mk hlen hroom (by omega) (by rw [size_setCells, size_setCells]; exact hk.lt) hcc, grows_setCells (by omega) _ _ _ (grows_setCells (by omega) _ _ _ g.drew), same_setCells (fun h => h rfl) _ _ _ _ (same_setCells (fun h => h rfl) _ _ _ _ (Grows.same ((Grows.refl w).drew) _))⟩
  · obtain rfl : i = n := by omega
    rcases Nat.lt_or_ge c (i + 1) with hroom | hroom
    · refine (Any2.slices_Insert_int_end_grow insLay (some ⟨b, 0, none⟩) i c vb 0 1 1 (intC l) [.int .i64 x] w (by decide) hnc hroom (by omega) (by rw [intC_len]; exact hn) rfl (fun e => by cases e) (fun a ea j u hj => by cases ea; rw [Addr.add_lit]; exact hcs j u hj) hvs (by simp [Value.oneCell'])).mono ?_
      rintro e w' ⟨rfl, rfl⟩
      have hcap := grownCap_ge w (i + 1) c (insRen.t 3)
      generalize grownCap w (i + 1) c (insRen.t 3) = cp at *
      have hnew := heap_alloc_new w.drew (.cells ((intC l ++ [Value.int .i64 x]).toArray ++ Builtin.zeroCells (Value.int .i64 0).cells (cp - (i + 1))) (insRen.t 3))
      refine ⟨_, rfl, ints_mk hlen hcap (by omega) (Array.getElem?_eq_some_iff.1 hnew).1 (fun j y hj => ?_), (g.drew).alloc _, Grows.same (((Grows.refl w).drew).alloc _) _⟩
      refine (cell_of_row _ _ j _ _ (0, 0) hnew).trans ?_
      have hjl := (List.getElem?_eq_some_iff.1 hj).1
      rw [hlen] at hjl
      rw [List.take_of_length_le (by omega), List.drop_of_length_le (by omega)] at hj
      rw [Array.getElem?_append_left (by simp only [List.size_toArray, List.length_append, intC_len, List.length_cons, List.length_nil]; omega)]
      simp only [List.getElem?_toArray]
      have e : intC l ++ [Value.int .i64 x] = intC (l ++ [x]) := by simp [intC]
      rw [e]
      exact intC_at hj
    · refine (Any2.slices_Insert_int_end_room insLay b 0 i c vb 0 1 1 [.int .i64 x] w (by decide) hroom hc63 rfl (fun j hj => by rw [Nat.zero_add]; exact hsome _ (by omega)) (fun j _ => hk.frozen _) hvs (by simp [Value.oneCell'])).mono ?_
      rintro e w' ⟨rfl, rfl⟩
      rw [Nat.zero_add]
      have hcc := ins_cells (w := w) (w1 := w.setCells b i [.int .i64 x]) (x := x) hn hi (by rw [List.drop_of_length_le (by omega)]; rfl) (fun j hj => hsome j (by omega)) (fun j y _ hy => hcell j y hy)
      exact ⟨_, rfl, ints_mk hlen hroom (by omega) (by rw [size_setCells]; exact hk.lt) hcc, grows_setCells (by omega) _ _ _ g, same_setCells (fun h => h rfl) _ _ _ _ (Same.refl _ _)⟩
end Go.Proofs.Ytbobpgegkmcapaa

namespace Go.Proofs.Ytbobpgegkmcapaa
open Go.RowKit

theorem insert_anyJ {W w : World} {base n vb i : Nat} {j : Int} (ej : j = (i : Int)) {v : Value} {l : List Int} {x : Int} (hn : l.length = n) (h1 : 1 ≤ n) (h2 : n ≤ 1000) (hi : i ≤ n) (hb : W.heap.size ≤ base) (h : w.ownsRow base 3 1 v n (intC l)) (hvb : Blk w vb 3 #[.int .i64 x]) (hne : v.ownBlock ≠ some vb) (g : Grows W w) :
    Calls Try.prog 35 #[v, .int .i64 j, .slice (some ⟨vb, 0, none⟩) 1 1] w (fun e w' => ∃ v', e = .returned v' ∧ IntsAt AnyB w' v' (l.take i ++ x :: l.drop i) ∧ Grows W w' ∧ Same (fun k => v.ownBlock ≠ some k) w w') := by
  subst ej
  exact insert_any hn h1 h2 hi hb h hvb hne g
theorem split_cases {L : Lay} (hr : rightL L = true) {p kind fresh : Int} (hp : p ∈ panesL L) : ∃ y e, splitF L p kind fresh = (y, e) ∧ ((e = 0 ∧ rightL y = true ∧ panesL y = insA p fresh (panesL L) ∧ fresh ∉ panesL L) ∨ e = 2 ∨ e = 7) := by
  unfold splitF
  rw [if_neg (by rw [hr]; decide), if_neg (fun h => h hp)]
  split
  · exact ⟨_, _, rfl, .inr (.inl rfl)⟩
  · rename_i g
    split
    · exact ⟨_, _, rfl, .inr (.inr rfl)⟩
    · rename_i g4
      have e1 : kind = 2 ∨ kind = 3 := Decidable.byContradiction fun e => g (.inl e)
      have e2 : ¬ fresh < 0 := fun e => g (.inr (.inl e))
      have e3 : ¬ 999 < fresh := fun e => g (.inr (.inr (.inl e)))
      have e4 : fresh ∉ panesL L := fun e => g (.inr (.inr (.inr e)))
      obtain ⟨r1, r2, r3⟩ := rightL_iff.1 hr
      exact ⟨_, _, rfl, .inl ⟨rfl, split_right e1 (by omega) hr hp e4 g4, (splitR_panes e1 (by omega) r1 hp r3).2, e4⟩⟩
theorem insA_take {l : List Int} {i : Nat} {q f : Int} (hq : l[i]? = some q) (hn : l.Nodup) : insA q f l = l.take (i + 1) ++ f :: l.drop (i + 1) := by
  obtain ⟨A, B, rfl, rfl⟩ := cut_ex hq
  rw [List.nodup_append, List.nodup_cons] at hn
  obtain ⟨-, ⟨h2, -⟩, h4⟩ := hn
  have ha : q ∉ A := fun h => h4 _ h _ (by simp) rfl
  have e1 : (A ++ q :: B).take (A.length + 1) = A ++ [q] := by
    rw [show A ++ q :: B = (A ++ [q]) ++ B by simp]
    have : A.length + 1 = (A ++ [q]).length := by simp
    rw [this, List.take_left]
  have e2 : (A ++ q :: B).drop (A.length + 1) = B := by
    rw [← List.drop_drop, List.drop_left]
    rfl
  rw [insA_mid ha h2, e1, e2]
  simp
theorem close_split {L y : Lay} {p fresh : Int} (hr : rightL L = true) (hp : p ∈ panesL L) (hy : rightL y = true) (hpy : panesL y = insA p fresh (panesL L)) (hf : fresh ∉ panesL L) : ∃ c, closeF y fresh = (c, 0) ∧ rightL c = true ∧ panesL c = panesL L := by
  obtain ⟨n1, n2, n3, n4⟩ := insA_nodup (rightL_iff.1 hr).2.2 hp hf
  have hfy : fresh ∈ panesL y := by rw [hpy]; exact (n4 _).2 (.inr rfl)
  have hpos : 1 ≤ (panesL L).length := List.length_pos_of_mem hp
  have hl : (panesL y).length ≠ 1 := by rw [hpy, n2]; omega
  obtain ⟨d1, d2⟩ := drop_right hy hfy hl
  refine ⟨_, ?_, d1, ?_⟩
  · unfold closeF
    rw [if_neg (by rw [hy]; decide), if_neg (fun h => h hfy), if_neg hl]
  · rw [d2, hpy, List.Nodup.erase_eq_filter n1]
    rw [← n3]
    congr 1
    · funext q
      by_cases e : q = fresh
      · simp [e]
      · simp [e]
    · rw [n3]
/-- The blocks older than a region, and those newer than a call in it. -/
def Mid (a b : Nat) (k : Nat) : Prop := k < a ∨ b ≤ k
theorem splitF_mid {W3 X : World} {L : Lay} {pane kind fresh : Int} {vk vw : Value} (g : Grows W3 X) (h : LayAt AnyB W3 L vk vw) : Calls Try.prog 33 #[.agg #[.int .i64 L.kind, .int .i64 L.pane, vk, vw], .int .i64 pane, .int .i64 kind, .int .i64 fresh] X (fun e w' => EdResI (Mid W3.heap.size X.heap.size) X w' (splitF L pane kind fresh) e) :=
  splitF_any L pane kind fresh vk vw X (fun _b hb => .inr hb) ((h.lt.grows g).mono fun _b _ hb => .inl hb.2)
set_option maxRecDepth 100000 in
set_option maxHeartbeats 4000000 in
theorem undoes_true (xs : List Edt) (at_ kind fresh : Int) (a : Option Addr) (n c : Nat) (w : World) (hn : xs.length = n) (hnc : n ≤ c) (hnm : n ≤ 9223372036854775807) (h : CellsAt 5 w (.slice a n c) n (edC xs)) : Calls Try.prog 8 #[.slice a n c, .int .i64 at_, .int .i64 kind, .int .i64 fresh] w (Ret (.bool true) w) := by
  have HGR := Lib.hid fun W (g : Grows w W) => grown_any xs a n c W hn hnc hnm (h.grows g)
  obtain ⟨L, hL⟩ : ∃ z, growF xs = z := ⟨_, rfl⟩
  have hr := right_grow xs
  rw [hL] at HGR hr
  have hpp := panes_pos L (rightL_iff.1 hr).1
  have hp16 := (rightL_iff.1 hr).2.1
  obtain ⟨pl, hpl⟩ : ∃ z, panesL L = z := ⟨_, rfl⟩
  obtain ⟨pn, hpn⟩ : ∃ z, pl.length = z := ⟨_, rfl⟩
  rw [hpl, hpn] at hpp hp16
  have HPL := Lib.hid (And.intro hpl hpn)
  have HR := Lib.hid hr
  have hT := Grows.refl w
  clear h hL hr hpl hpn hn
  go_enter Try.func8, Try.ntmps8
  go_upto_region 4 with (first | (go_at_call 9; (with_reducible refine (wakes_any _).mono ?_); rintro e wq ⟨rfl, hq⟩; have hT0 := hT; clear hT; have hT := hT0.trans (Grows.trans (by repeat' (first | (with_reducible exact Grows.refl _) | (with_reducible refine Grows.alloc ?_ _) | (with_reducible refine Grows.drew ?_) | (with_reducible refine Grows.ext ?_ _ _))) hq); clear hT0 hq; skip) | (go_at_call 26; (go_must (with_reducible refine (HGR.out _ (hT.trans (by repeat' (first | (with_reducible exact Grows.refl _) | (with_reducible refine Grows.alloc ?_ _) | (with_reducible refine Grows.drew ?_) | (with_reducible refine Grows.ext ?_ _ _))))).mono ?_)); rintro e wq hE; obtain ⟨ka, kc, wa, wc, rfl, hly, hq⟩ := hE.open_; have hT0 := hT; clear hT; have hT := hT0.trans (Grows.trans (by repeat' (first | (with_reducible exact Grows.refl _) | (with_reducible refine Grows.alloc ?_ _) | (with_reducible refine Grows.drew ?_) | (with_reducible refine Grows.ext ?_ _ _))) hq); clear hT0 hq hE))
  refine abs_worldM (fun W => Grows w W ∧ LyB W wq.heap.size L ka kc wa wc) ⟨hT.trans (by repeat' (first | (with_reducible exact Grows.refl _) | (with_reducible refine Grows.alloc ?_ _) | (with_reducible refine Grows.drew ?_) | (with_reducible refine Grows.ext ?_ _ _))), hly.grows (by repeat' (first | (with_reducible exact Grows.refl _) | (with_reducible refine Grows.alloc ?_ _) | (with_reducible refine Grows.drew ?_) | (with_reducible refine Grows.ext ?_ _ _))), Blk.new (by simp)⟩ ?_
  clear hT hly
  generalize wq.heap.size = p1 at *
  rintro W1 ⟨hT, hf⟩
  have F1 := Lib.hid hf
  obtain ⟨a0, a1, a2, a3⟩ := hf.b.four
  have hl_a := hf.b.lt
  have HT := Lib.hid hT
  clear hT hf
  go_upto_region 5 with (go_at_call 20; (go_must (with_reducible refine (panesP_yes L HR.out _ _ _ (F1.out.l.grows (by repeat' (first | (with_reducible exact Grows.refl _) | (with_reducible refine Grows.alloc ?_ _) | (with_reducible refine Grows.drew ?_) | (with_reducible refine Grows.ext ?_ _ _))))).mono ?_)); rintro e w2 ⟨v2, rfl, hv2, hg2⟩; rw [HPL.out.1] at hv2; obtain ⟨va, vc, rfl, -, -⟩ := hv2.shape HPL.out.2)
  refine abs_worldM (fun W => Grows W1 W ∧ IntsAt AnyB W (.slice va pn vc) pl) ⟨Grows.trans (by repeat' (first | (with_reducible exact Grows.refl _) | (with_reducible refine Grows.alloc ?_ _) | (with_reducible refine Grows.drew ?_) | (with_reducible refine Grows.ext ?_ _ _))) hg2, hv2.grows (by repeat' (first | (with_reducible exact Grows.refl _) | (with_reducible refine Grows.alloc ?_ _) | (with_reducible refine Grows.drew ?_) | (with_reducible refine Grows.ext ?_ _ _)))⟩ ?_
  clear hg2 hv2
  rintro W2 ⟨hg, hv2⟩
  have HT0 := HT
  clear HT
  have HT := Lib.hid (HT0.out.trans hg)
  clear HT0
  have F1x := F1
  clear F1 a0 a1 a2 a3 hl_a
  have F1 := Lib.hid (F1x.out.next hg)
  clear F1x
  obtain ⟨a0, a1, a2, a3⟩ := F1.out.b.four
  have hl_a := F1.out.b.lt
  obtain ⟨va', vc', e, -, -, hvi⟩ := hv2.open_ HPL.out.2
  injection e with e1 e2 e3
  subst e1 e3
  have hpn0 : ¬ (pn : Int) = 0 := by omega
  obtain ⟨z1, hz1, ez1⟩ := uidx at_ hpp (show pn ≤ 1000 by omega)
  obtain ⟨pb, poff, q1, rfl, hpb, -, hq1, hqm1, c1⟩ := hvi.at_ (i := z1) (by rw [HPL.out.2]; exact hz1)
  rw [← HPL.out.1] at hqm1
  obtain ⟨y1, n1, hsp, hsc⟩ := split_cases HR.out (kind := kind) (fresh := fresh) hqm1
  have HSP := Lib.hid hsp
  have HSC := Lib.hid hsc
  have HQM := Lib.hid hqm1
  have HIN := Lib.hid (insA_take (f := fresh) hq1 (by rw [← HPL.out.1]; exact (rightL_iff.1 HR.out).2.2))
  have HV2 := Lib.hid fun W (g : Grows W2 W) => hv2.grows g
  have HCE := Lib.hid fun W (g : Grows W2 W) => (⟨Nat.lt_of_lt_of_le hpb g.size, (g.cellOf hpb).trans c1⟩ : _ ∧ _)
  clear hv2 hvi hg hq1 hqm1 hsp hsc
  have hU := Grows.refl W2
  go_upto_region 8 with fail
  refine abs_worldM (fun W => Grows W2 W) (by repeat' (first | (with_reducible exact Grows.refl _) | (with_reducible refine Grows.alloc ?_ _) | (with_reducible refine Grows.drew ?_) | (with_reducible refine Grows.ext ?_ _ _))) ?_
  rintro W3 hg3
  have HG1 := Lib.hid hg3
  have hs3 := hg3.size
  clear hg3 a0 a1 a2 a3 hl_a hpb c1 hU
  go_cut [11, 12, 13] (fun v11 v12 v13 wx => v11 = .int .i64 z1 ∧ ∃ (p2 : Nat) (kA : Option Addr) (cA : Nat) (mA : Option Addr) (dA : Nat), v12 = .pointer (some ⟨p2, 0, none⟩) ∧ v13 = .int .i64 n1 ∧ Grows W2 wx ∧ LyB wx p2 y1 kA cA mA dA)
  case first =>
    have hgS := Grows.refl W3
    refine wp_region_B [12] (fun w' => Grows W2 w') (fun w' => Grows W3 w') (by kernel_rfl) ⟨(HG1.out.trans (by exact hgS.trans (by repeat' (first | (with_reducible exact hgc) | (with_reducible exact Grows.refl _) | (with_reducible refine Grows.alloc ?_ _) | (with_reducible refine Grows.drew ?_) | (with_reducible refine Grows.ext ?_ _ _))))), (by exact hgS.trans (by repeat' (first | (with_reducible exact hgc) | (with_reducible exact Grows.refl _) | (with_reducible refine Grows.alloc ?_ _) | (with_reducible refine Grows.drew ?_) | (with_reducible refine Grows.ext ?_ _ _))))⟩ (fun hHeld => ?_)
    refine abs_anyB (fun W' => Grows W3 W' ∧ True) ⟨(by repeat' (first | (with_reducible exact hgc) | (with_reducible exact Grows.refl _) | (with_reducible refine Grows.alloc ?_ _) | (with_reducible refine Grows.drew ?_) | (with_reducible refine Grows.ext ?_ _ _))), trivial⟩ ?_
    clear hHeld
    rintro X412 ⟨hgn, hex⟩
    have hgS := hgS.trans hgn
    have hsS := hgS.size
    clear hgn hex
    have hHeld := And.intro (HG1.out.trans hgS) hgS
    refine anyB_take (i := 0) (v := ?v413_0) rfl (by kernel_rfl) (by kernel_rfl) (by kernel_rfl) (by kernel_rfl) (fun _ _ _ h => h) (Or.inl ⟨by kernel_rfl, ?y413_0⟩) (by kernel_rfl) hHeld ?r413_0
    case y413_0 => ((rintro w ⟨hTw, hSw⟩; obtain ⟨a0, a1, a2, a3⟩ := (F1.out.b.grows (HG1.out.trans hSw)).four; have hl_a := (F1.out.b.grows (HG1.out.trans hSw)).lt; obtain ⟨hpb, c1⟩ := HCE.out _ (HG1.out.trans hSw); clear hSw hTw; go_simp); (try go_ints); (try with_reducible rfl))
    try simp only [Act.put, List.getElem_toArray, List.getElem_cons_zero, List.setIfInBounds_toArray, List.set_cons_zero, List.set_cons_succ]
    refine anyB_takeT (i := 1) (v := ?v414_1) rfl (by kernel_rfl) (by kernel_rfl) (by kernel_rfl) (by kernel_rfl) (fun _ _ _ h => h) (Or.inl ⟨by kernel_rfl, ?y414_1⟩) hHeld.1 (fun _ => hHeld.2) ?r414_1
    case y414_1 => ((intro w hTw; skip; clear hTw; go_simp); (try go_ints); (try with_reducible rfl))
    try simp only [Act.put, List.getElem_toArray, List.getElem_cons_succ, List.getElem_cons_zero, List.setIfInBounds_toArray, List.set_cons_zero, List.set_cons_succ]
    refine anyB_takeT (i := 2) (v := ?v415_2) rfl (by kernel_rfl) (by kernel_rfl) (by kernel_rfl) (by kernel_rfl) (fun _ _ _ h => h) (Or.inl ⟨by kernel_rfl, ?y415_2⟩) hHeld.1 (fun _ => hHeld.2) ?r415_2
    case y415_2 => ((intro w hTw; skip; clear hTw; go_simp); (try go_ints); (try with_reducible rfl))
    try simp only [Act.put, List.getElem_toArray, List.getElem_cons_succ, List.getElem_cons_zero, List.setIfInBounds_toArray, List.set_cons_zero, List.set_cons_succ]
    refine anyB_takeT (i := 3) (v := ?v416_3) rfl (by kernel_rfl) (by kernel_rfl) (by kernel_rfl) (by kernel_rfl) (fun _ _ _ h => h) (Or.inl ⟨by kernel_rfl, ?y416_3⟩) hHeld.1 (fun _ => hHeld.2) ?r416_3
    case y416_3 => ((intro w hTw; skip; clear hTw; go_simp); (try go_ints); (try with_reducible rfl))
    try simp only [Act.put, List.getElem_toArray, List.getElem_cons_succ, List.getElem_cons_zero, List.setIfInBounds_toArray, List.set_cons_zero, List.set_cons_succ]
    refine anyB_take (i := 4) (v := ?v417_4) rfl (by kernel_rfl) (by kernel_rfl) (by kernel_rfl) (by kernel_rfl) (fun _ _ _ h => h) (Or.inl ⟨by kernel_rfl, ?y417_4⟩) (by kernel_rfl) hHeld ?r417_4
    case y417_4 => ((rintro w ⟨hTw, hSw⟩; obtain ⟨a0, a1, a2, a3⟩ := (F1.out.b.grows (HG1.out.trans hSw)).four; have hl_a := (F1.out.b.grows (HG1.out.trans hSw)).lt; obtain ⟨hpb, c1⟩ := HCE.out _ (HG1.out.trans hSw); clear hSw hTw; go_simp); (try go_ints); (try with_reducible rfl))
    try simp only [Act.put, List.getElem_toArray, List.getElem_cons_succ, List.getElem_cons_zero, List.setIfInBounds_toArray, List.set_cons_zero, List.set_cons_succ]
    refine anyB_takeT (i := 5) (v := ?v418_5) rfl (by kernel_rfl) (by kernel_rfl) (by kernel_rfl) (by kernel_rfl) (fun _ _ _ h => h) (Or.inl ⟨by kernel_rfl, ?y418_5⟩) hHeld.1 (fun _ => hHeld.2) ?r418_5
    case y418_5 => ((intro w hTw; skip; clear hTw; go_simp); (try go_ints); (try with_reducible rfl))
    try simp only [Act.put, List.getElem_toArray, List.getElem_cons_succ, List.getElem_cons_zero, List.setIfInBounds_toArray, List.set_cons_zero, List.set_cons_succ]
    refine anyB_takeT (i := 6) (v := ?v419_6) rfl (by kernel_rfl) (by kernel_rfl) (by kernel_rfl) (by kernel_rfl) (fun _ _ _ h => h) (Or.inl ⟨by kernel_rfl, ?y419_6⟩) hHeld.1 (fun _ => hHeld.2) ?r419_6
    case y419_6 => ((intro w hTw; skip; clear hTw; go_simp); (try go_ints); (try with_reducible rfl))
    try simp only [Act.put, List.getElem_toArray, List.getElem_cons_succ, List.getElem_cons_zero, List.setIfInBounds_toArray, List.set_cons_zero, List.set_cons_succ]
    refine anyB_ready2 (i := 7) (j := 11) (by kernel_rfl) rfl rfl (fun K hK => ?_) (fun K hK => ?_)
    · simp only [List.getElem_toArray, List.getElem_cons_succ, List.getElem_cons_zero]
      first | (have hqlt := HQB.out.lt) | skip
      go_simp
      (go_at_call 33; (go_must (with_reducible refine (splitF_mid hgS (F1.out.l.grows HG1.out)).mono ?_)); rintro e w7 hE; obtain ⟨kA, cA, mA, dA, rfl, hly, hgc⟩ := hE.pair HSP.out; clear hE)
      refine hK.out _ _ ⟨?_, ?_⟩ ?_
      · ((try dsimp only); exact HG1.out.trans (hgS.trans (by repeat' (first | (with_reducible exact hgc) | (with_reducible exact Grows.refl _) | (with_reducible refine Grows.alloc ?_ _) | (with_reducible refine Grows.drew ?_) | (with_reducible refine Grows.ext ?_ _ _)))))
      · ((try dsimp only); exact hgS.trans (by repeat' (first | (with_reducible exact hgc) | (with_reducible exact Grows.refl _) | (with_reducible refine Grows.alloc ?_ _) | (with_reducible refine Grows.drew ?_) | (with_reducible refine Grows.ext ?_ _ _))))
      clear hK K hHeld
      intro hHeld
      try simp only [Act.put, List.getElem_toArray, List.getElem_cons_succ, List.getElem_cons_zero, List.setIfInBounds_toArray, List.set_cons_zero, List.set_cons_succ]
      refine abs_anyB (fun W' => Grows X412 W' ∧ LayAt (fun b => Mid W3.heap.size _ b ∧ b < W'.heap.size) W' y1 (.slice kA y1.kids.length cA) (.slice mA y1.ws.length dA)) ⟨(by repeat' (first | (with_reducible exact hgc) | (with_reducible exact Grows.refl _) | (with_reducible refine Grows.alloc ?_ _) | (with_reducible refine Grows.drew ?_) | (with_reducible refine Grows.ext ?_ _ _))), hly.lt⟩ ?_
      clear hHeld
      rintro X420 ⟨hgn, hex⟩
      have HLY := Lib.hid hex
      have hgS := hgS.trans hgn
      have hsS := hgS.size
      clear hgn hex
      have hHeld := And.intro (HG1.out.trans hgS) hgS
      refine anyB_takeT (i := 8) (v := ?v421_8) rfl (by kernel_rfl) (by kernel_rfl) (by kernel_rfl) (by kernel_rfl) (fun _ _ _ h => h) (Or.inl ⟨by kernel_rfl, ?y421_8⟩) hHeld.1 (fun _ => hHeld.2) ?r421_8
      case y421_8 => ((intro w hTw; skip; clear hTw; go_simp); (try go_ints); (try with_reducible rfl))
      try simp only [Act.put, List.getElem_toArray, List.getElem_cons_succ, List.getElem_cons_zero, List.setIfInBounds_toArray, List.set_cons_zero, List.set_cons_succ]
      refine anyB_takeT (i := 9) (v := ?v422_9) rfl (by kernel_rfl) (by kernel_rfl) (by kernel_rfl) (by kernel_rfl) (fun _ _ _ h => h) (Or.inl ⟨by kernel_rfl, ?y422_9⟩) hHeld.1 (fun _ => hHeld.2) ?r422_9
      case y422_9 => ((intro w hTw; skip; clear hTw; go_simp); (try go_ints); (try with_reducible rfl))
      try simp only [Act.put, List.getElem_toArray, List.getElem_cons_succ, List.getElem_cons_zero, List.setIfInBounds_toArray, List.set_cons_zero, List.set_cons_succ]
      refine anyB_takeT (i := 10) (v := ?v423_10) rfl (by kernel_rfl) (by kernel_rfl) (by kernel_rfl) (by kernel_rfl) (fun _ _ _ h => h) (Or.inl ⟨by kernel_rfl, ?y423_10⟩) hHeld.1 (fun _ => hHeld.2) ?r423_10
      case y423_10 => ((intro w hTw; skip; clear hTw; go_simp); (try go_ints); (try with_reducible rfl))
      try simp only [Act.put, List.getElem_toArray, List.getElem_cons_succ, List.getElem_cons_zero, List.setIfInBounds_toArray, List.set_cons_zero, List.set_cons_succ]
      refine anyB_ready (i := 11) (by kernel_rfl) rfl (fun K hK => ?_)
      simp only [List.getElem_toArray, List.getElem_cons_succ, List.getElem_cons_zero]
      go_simp
      skip
      refine hK.out _ _ ⟨?_, ?_⟩ ?_
      · ((try dsimp only); exact HG1.out.trans (hgS.trans (by repeat' (first | (with_reducible exact hgc) | (with_reducible exact Grows.refl _) | (with_reducible refine Grows.alloc ?_ _) | (with_reducible refine Grows.drew ?_) | (with_reducible refine Grows.ext ?_ _ _)))))
      · ((try dsimp only); exact hgS.trans (by repeat' (first | (with_reducible exact hgc) | (with_reducible exact Grows.refl _) | (with_reducible refine Grows.alloc ?_ _) | (with_reducible refine Grows.drew ?_) | (with_reducible refine Grows.ext ?_ _ _))))
      clear hK K hHeld
      intro hHeld
      try simp only [Act.put, List.getElem_toArray, List.getElem_cons_succ, List.getElem_cons_zero, List.setIfInBounds_toArray, List.set_cons_zero, List.set_cons_succ]
      refine abs_anyB (fun W' => Grows X420 W' ∧ Blk W' _ 25 #[.int .i64 0, .int .i64 0, .slice none 0 0, .slice none 0 0]) ⟨(by repeat' (first | (with_reducible exact hgc) | (with_reducible exact Grows.refl _) | (with_reducible refine Grows.alloc ?_ _) | (with_reducible refine Grows.drew ?_) | (with_reducible refine Grows.ext ?_ _ _))), Blk.new rfl⟩ ?_
      clear hHeld
      rintro X424 ⟨hgn, hex⟩
      have HLY := Lib.hid (HLY.out.grows hgn)
      have HQB := Lib.hid hex
      have hgS := hgS.trans hgn
      have hsS := hgS.size
      clear hgn hex
      have hHeld := And.intro (HG1.out.trans hgS) hgS
      refine anyB_over (i := 12) (by kernel_rfl) rfl (by kernel_rfl) (fun K hK => ?_)
      simp only [List.getElem_toArray, List.getElem_cons_succ, List.getElem_cons_zero]
      obtain ⟨m0, m1, m2, m3⟩ := HQB.out.four
      obtain ⟨n0, n1', n2, n3⟩ := HQB.out.four'
      have hlq := HQB.out.lt
      go_simp
      skip
      refine hK.out _ _ ?_ ?_
      · ((try dsimp only); exact (by repeat' (first | (with_reducible exact HG1.out.trans hgS) | (with_reducible exact HG1.out.trans (hgS.trans hgc)) | (with_reducible refine Grows.setCell ?_ (Nat.le_refl _) _) | (with_reducible refine Grows.setCell ?_ (by omega) _) | (with_reducible refine Grows.alloc ?_ _) | (with_reducible refine Grows.drew ?_) | (with_reducible refine Grows.ext ?_ _ _))))
      clear hK K hHeld
      intro hHeld
      try simp only [Act.put, List.getElem_toArray, List.getElem_cons_succ, List.getElem_cons_zero, List.setIfInBounds_toArray, List.set_cons_zero, List.set_cons_succ]
      refine anyB_takeT (i := 13) (v := ?v425_13) rfl (by kernel_rfl) (by kernel_rfl) (by kernel_rfl) (by kernel_rfl) (fun _ _ _ h => h) (Or.inl ⟨by kernel_rfl, ?y425_13⟩) hHeld (outB_no (by kernel_rfl)) ?r425_13
      case y425_13 => ((intro w hTw; skip; clear hTw; go_simp); (try go_ints); (try with_reducible rfl))
      try simp only [Act.put, List.getElem_toArray, List.getElem_cons_succ, List.getElem_cons_zero, List.setIfInBounds_toArray, List.set_cons_zero, List.set_cons_succ]
      refine anyB_done (by kernel_rfl) ?_ _
      try clear hHeld
      go_wp2_with fail
      go_meet
      case rel => exact ⟨rfl, _, kA, cA, mA, dA, rfl, rfl, HG1.out.trans (Grows.set4 hgS (by omega) _ _ _ _), ⟨(HLY.out.same ((((same_set (by rintro ⟨h1, h2⟩; unfold Mid at h1; omega)).trans (same_set (by rintro ⟨h1, h2⟩; unfold Mid at h1; omega))).trans (same_set (by rintro ⟨h1, h2⟩; unfold Mid at h1; omega))).trans (same_set (by rintro ⟨h1, h2⟩; unfold Mid at h1; omega)))).mono (fun _ _ _ => trivial), HQB.out.set4⟩⟩
    · simp only [List.getElem_toArray, List.getElem_cons_succ, List.getElem_cons_zero]
      go_simp
      skip
      refine hK.out _ _ ⟨?_, ?_⟩ ?_
      · ((try dsimp only); exact HG1.out.trans (hgS.trans (by repeat' (first | (with_reducible exact hgc) | (with_reducible exact Grows.refl _) | (with_reducible refine Grows.alloc ?_ _) | (with_reducible refine Grows.drew ?_) | (with_reducible refine Grows.ext ?_ _ _)))))
      · ((try dsimp only); exact hgS.trans (by repeat' (first | (with_reducible exact hgc) | (with_reducible exact Grows.refl _) | (with_reducible refine Grows.alloc ?_ _) | (with_reducible refine Grows.drew ?_) | (with_reducible refine Grows.ext ?_ _ _))))
      clear hK K hHeld
      intro hHeld
      try simp only [Act.put, List.getElem_toArray, List.getElem_cons_succ, List.getElem_cons_zero, List.setIfInBounds_toArray, List.set_cons_zero, List.set_cons_succ]
      refine abs_anyB (fun W' => Grows X412 W' ∧ Blk W' _ 25 #[.int .i64 0, .int .i64 0, .slice none 0 0, .slice none 0 0]) ⟨(by repeat' (first | (with_reducible exact hgc) | (with_reducible exact Grows.refl _) | (with_reducible refine Grows.alloc ?_ _) | (with_reducible refine Grows.drew ?_) | (with_reducible refine Grows.ext ?_ _ _))), Blk.new rfl⟩ ?_
      clear hHeld
      rintro X426 ⟨hgn, hex⟩
      have HQB := Lib.hid hex
      have hgS := hgS.trans hgn
      have hsS := hgS.size
      clear hgn hex
      have hHeld := And.intro (HG1.out.trans hgS) hgS
      refine anyB_ready (i := 7) (by kernel_rfl) rfl (fun K hK => ?_)
      simp only [List.getElem_toArray, List.getElem_cons_succ, List.getElem_cons_zero]
      first | (have hqlt := HQB.out.lt) | skip
      go_simp
      (go_at_call 33; (go_must (with_reducible refine (splitF_mid hgS (F1.out.l.grows HG1.out)).mono ?_)); rintro e w7 hE; obtain ⟨kA, cA, mA, dA, rfl, hly, hgc⟩ := hE.pair HSP.out; clear hE)
      refine hK.out _ _ ⟨?_, ?_⟩ ?_
      · ((try dsimp only); exact HG1.out.trans (hgS.trans (by repeat' (first | (with_reducible exact hgc) | (with_reducible exact Grows.refl _) | (with_reducible refine Grows.alloc ?_ _) | (with_reducible refine Grows.drew ?_) | (with_reducible refine Grows.ext ?_ _ _)))))
      · ((try dsimp only); exact hgS.trans (by repeat' (first | (with_reducible exact hgc) | (with_reducible exact Grows.refl _) | (with_reducible refine Grows.alloc ?_ _) | (with_reducible refine Grows.drew ?_) | (with_reducible refine Grows.ext ?_ _ _))))
      clear hK K hHeld
      intro hHeld
      try simp only [Act.put, List.getElem_toArray, List.getElem_cons_succ, List.getElem_cons_zero, List.setIfInBounds_toArray, List.set_cons_zero, List.set_cons_succ]
      refine abs_anyB (fun W' => Grows X426 W' ∧ LayAt (fun b => Mid W3.heap.size _ b ∧ b < W'.heap.size) W' y1 (.slice kA y1.kids.length cA) (.slice mA y1.ws.length dA)) ⟨(by repeat' (first | (with_reducible exact hgc) | (with_reducible exact Grows.refl _) | (with_reducible refine Grows.alloc ?_ _) | (with_reducible refine Grows.drew ?_) | (with_reducible refine Grows.ext ?_ _ _))), hly.lt⟩ ?_
      clear hHeld
      rintro X427 ⟨hgn, hex⟩
      have HQB := Lib.hid (HQB.out.grows hgn)
      have HLY := Lib.hid hex
      have hgS := hgS.trans hgn
      have hsS := hgS.size
      clear hgn hex
      have hHeld := And.intro (HG1.out.trans hgS) hgS
      refine anyB_takeT (i := 8) (v := ?v428_8) rfl (by kernel_rfl) (by kernel_rfl) (by kernel_rfl) (by kernel_rfl) (fun _ _ _ h => h) (Or.inl ⟨by kernel_rfl, ?y428_8⟩) hHeld.1 (fun _ => hHeld.2) ?r428_8
      case y428_8 => ((intro w hTw; skip; clear hTw; go_simp); (try go_ints); (try with_reducible rfl))
      try simp only [Act.put, List.getElem_toArray, List.getElem_cons_succ, List.getElem_cons_zero, List.setIfInBounds_toArray, List.set_cons_zero, List.set_cons_succ]
      refine anyB_takeT (i := 9) (v := ?v429_9) rfl (by kernel_rfl) (by kernel_rfl) (by kernel_rfl) (by kernel_rfl) (fun _ _ _ h => h) (Or.inl ⟨by kernel_rfl, ?y429_9⟩) hHeld.1 (fun _ => hHeld.2) ?r429_9
      case y429_9 => ((intro w hTw; skip; clear hTw; go_simp); (try go_ints); (try with_reducible rfl))
      try simp only [Act.put, List.getElem_toArray, List.getElem_cons_succ, List.getElem_cons_zero, List.setIfInBounds_toArray, List.set_cons_zero, List.set_cons_succ]
      refine anyB_takeT (i := 10) (v := ?v430_10) rfl (by kernel_rfl) (by kernel_rfl) (by kernel_rfl) (by kernel_rfl) (fun _ _ _ h => h) (Or.inl ⟨by kernel_rfl, ?y430_10⟩) hHeld.1 (fun _ => hHeld.2) ?r430_10
      case y430_10 => ((intro w hTw; skip; clear hTw; go_simp); (try go_ints); (try with_reducible rfl))
      try simp only [Act.put, List.getElem_toArray, List.getElem_cons_succ, List.getElem_cons_zero, List.setIfInBounds_toArray, List.set_cons_zero, List.set_cons_succ]
      refine anyB_over (i := 12) (by kernel_rfl) rfl (by kernel_rfl) (fun K hK => ?_)
      simp only [List.getElem_toArray, List.getElem_cons_succ, List.getElem_cons_zero]
      obtain ⟨m0, m1, m2, m3⟩ := HQB.out.four
      obtain ⟨n0, n1', n2, n3⟩ := HQB.out.four'
      have hlq := HQB.out.lt
      go_simp
      skip
      refine hK.out _ _ ?_ ?_
      · ((try dsimp only); exact (by repeat' (first | (with_reducible exact HG1.out.trans hgS) | (with_reducible exact HG1.out.trans (hgS.trans hgc)) | (with_reducible refine Grows.setCell ?_ (Nat.le_refl _) _) | (with_reducible refine Grows.setCell ?_ (by omega) _) | (with_reducible refine Grows.alloc ?_ _) | (with_reducible refine Grows.drew ?_) | (with_reducible refine Grows.ext ?_ _ _))))
      clear hK K hHeld
      intro hHeld
      try simp only [Act.put, List.getElem_toArray, List.getElem_cons_succ, List.getElem_cons_zero, List.setIfInBounds_toArray, List.set_cons_zero, List.set_cons_succ]
      refine anyB_takeT (i := 13) (v := ?v431_13) rfl (by kernel_rfl) (by kernel_rfl) (by kernel_rfl) (by kernel_rfl) (fun _ _ _ h => h) (Or.inl ⟨by kernel_rfl, ?y431_13⟩) hHeld (outB_no (by kernel_rfl)) ?r431_13
      case y431_13 => ((intro w hTw; skip; clear hTw; go_simp); (try go_ints); (try with_reducible rfl))
      try simp only [Act.put, List.getElem_toArray, List.getElem_cons_succ, List.getElem_cons_zero, List.setIfInBounds_toArray, List.set_cons_zero, List.set_cons_succ]
      refine anyB_done (by kernel_rfl) ?_ _
      try clear hHeld
      go_wp2_with fail
      go_meet
      case rel => exact ⟨rfl, _, kA, cA, mA, dA, rfl, rfl, HG1.out.trans (Grows.set4 hgS (by omega) _ _ _ _), ⟨(HLY.out.same ((((same_set (by rintro ⟨h1, h2⟩; unfold Mid at h1; omega)).trans (same_set (by rintro ⟨h1, h2⟩; unfold Mid at h1; omega))).trans (same_set (by rintro ⟨h1, h2⟩; unfold Mid at h1; omega))).trans (same_set (by rintro ⟨h1, h2⟩; unfold Mid at h1; omega)))).mono (fun _ _ _ => trivial), HQB.out.set4⟩⟩
  case rest =>
    obtain ⟨rfl, p2, kA, cA, mA, dA, rfl, rfl, hgc, hf⟩ := hcut
    go_upto_region 9 with fail
    refine abs_worldM (fun W => Grows W2 W ∧ LyB W p2 y1 kA cA mA dA) ⟨hgc, hf⟩ ?_
    clear hgc hf HG1 hs3
    rintro W4 ⟨hg, hf⟩
    have F2 := Lib.hid hf
    obtain ⟨b0, b1, b2, b3⟩ := hf.b.four
    have hl_b := hf.b.lt
    have HT0 := HT
    clear HT
    have HT := Lib.hid (HT0.out.trans hg)
    clear HT0 hf
    have hU := hg
    clear hg
    rcases HSC.out with ⟨rfl, h1, h2, h3⟩ | rfl | rfl
    · obtain ⟨cc, hcl, hcr, hcp⟩ := close_split HR.out HQM.out h1 h2 h3
      have HCL := Lib.hid hcl
      have H12 := Lib.hid (And.intro h1 h2)
      have HC2 := Lib.hid (And.intro hcr hcp)
      clear h1 h2 h3 hcl hcr hcp
      go_upto_region 12 with (go_at_call 34; (go_must (with_reducible refine (closeF_any y1 fresh _ _ _ (fun _ _ => trivial) (F2.out.l.grows (by repeat' (first | (with_reducible exact Grows.refl _) | (with_reducible refine Grows.alloc ?_ _) | (with_reducible refine Grows.drew ?_) | (with_reducible refine Grows.ext ?_ _ _))))).mono ?_)); rintro e wB hE; obtain ⟨kB, cB, mB, dB, rfl, hly, hq⟩ := hE.pair HCL.out)
      refine abs_worldM (fun W => Grows W4 W ∧ LyB W wB.heap.size cc kB cB mB dB) ⟨Grows.trans (Grows.trans (by repeat' (first | (with_reducible exact Grows.refl _) | (with_reducible refine Grows.alloc ?_ _) | (with_reducible refine Grows.drew ?_) | (with_reducible refine Grows.ext ?_ _ _))) hq) (by repeat' (first | (with_reducible exact Grows.refl _) | (with_reducible refine Grows.alloc ?_ _) | (with_reducible refine Grows.drew ?_) | (with_reducible refine Grows.ext ?_ _ _))), hly.grows (by repeat' (first | (with_reducible exact Grows.refl _) | (with_reducible refine Grows.alloc ?_ _) | (with_reducible refine Grows.drew ?_) | (with_reducible refine Grows.ext ?_ _ _))), Blk.new (by simp)⟩ ?_
      clear hq hly hE
      generalize wB.heap.size = p3 at *
      rintro W5 ⟨hg, hf⟩
      have F3 := Lib.hid hf
      obtain ⟨d0, d1, d2, d3⟩ := hf.b.four
      have hl_d := hf.b.lt
      clear hf
      have HT0 := HT
      clear HT
      have HT := Lib.hid (HT0.out.trans hg)
      clear HT0
      have F2x := F2
      clear F2 b0 b1 b2 b3 hl_b
      have F2 := Lib.hid (F2x.out.next hg)
      clear F2x
      obtain ⟨b0, b1, b2, b3⟩ := F2.out.b.four
      have hl_b := F2.out.b.lt
      have hUx := hU.trans hg
      clear hU hg
      have hU := hUx
      clear hUx
      have hS := Grows.refl W5
      go_wp2_with (first | (go_at_call 20; ((with_reducible refine (panesP_yes y1 H12.out.1 _ _ _ (F2.out.l.grows (hS.trans (by repeat' (first | (with_reducible exact Grows.refl _) | (with_reducible refine Grows.alloc ?_ _) | (with_reducible refine Grows.drew ?_) | (with_reducible refine Grows.ext ?_ _ _)))))).mono ?_)); rintro e wq ⟨v5, rfl, hv5, hq⟩; have hS0 := hS; clear hS; have hqq := Grows.trans (by repeat' (first | (with_reducible exact Grows.refl _) | (with_reducible refine Grows.alloc ?_ _) | (with_reducible refine Grows.drew ?_) | (with_reducible refine Grows.ext ?_ _ _))) hq; have hS := hS0.trans hqq; clear hS0 hq; obtain ⟨d0, d1, d2, d3⟩ := (F3.out.b.grows hS).four; have hl_d := (F3.out.b.grows hS).lt; rw [H12.out.2, HPL.out.1, HIN.out] at hv5) | (go_at_call 20; ((with_reducible refine (panesP_yes cc HC2.out.1 _ _ _ (F3.out.l.grows (hS.trans (by repeat' (first | (with_reducible exact Grows.refl _) | (with_reducible refine Grows.alloc ?_ _) | (with_reducible refine Grows.drew ?_) | (with_reducible refine Grows.ext ?_ _ _)))))).mono ?_)); rintro e wq ⟨v8, rfl, hv8, hq⟩; have hS0 := hS; clear hS; have hqq := Grows.trans (by repeat' (first | (with_reducible exact Grows.refl _) | (with_reducible refine Grows.alloc ?_ _) | (with_reducible refine Grows.drew ?_) | (with_reducible refine Grows.ext ?_ _ _))) hq; have hS := hS0.trans hqq; clear hS0 hq; obtain ⟨d0, d1, d2, d3⟩ := (F3.out.b.grows hS).four; have hl_d := (F3.out.b.grows hS).lt; rw [HC2.out.2, HPL.out.1] at hv8) | (go_at_call 36; (go_must (with_reducible refine (clone_any HPL.out.2 hpp (show pn ≤ 1000 by omega) (HV2.out _ (hU.trans (hS.trans (by repeat' (first | (with_reducible exact Grows.refl _) | (with_reducible refine Grows.alloc ?_ _) | (with_reducible refine Grows.drew ?_) | (with_reducible refine Grows.ext ?_ _ _))))))).mono ?_)); rintro e wq ⟨v6, rfl, hv6, hq⟩; have hS0 := hS; clear hS; have HG_ := hS0; have hqq := Grows.trans (by repeat' (first | (with_reducible exact Grows.refl _) | (with_reducible refine Grows.alloc ?_ _) | (with_reducible refine Grows.drew ?_) | (with_reducible refine Grows.ext ?_ _ _))) hq; have hS := hS0.trans hqq; clear hS0 hq; obtain ⟨d0, d1, d2, d3⟩ := (F3.out.b.grows hS).four; have hl_d := (F3.out.b.grows hS).lt; have hv5b := ((hv5.lt).grows hqq).mono (S' := fun k => v6.ownBlock ≠ some k) (fun k _ hk e => by have := (hv6.lt k e).1; have := hk.2; omega); have hbs := hS.size; have hv6l := fun b e => (hv6.lt b e).2; have hwb := HG_.size) | (go_at_call 35; (go_must (with_reducible refine (insert_anyJ (W := W5) (i := z1 + 1) (by omega) HPL.out.2 hpp (show pn ≤ 1000 by omega) (by omega) (show W5.heap.size ≤ _ from hwb) (ownsRow_grows hv6 (by repeat' (first | (with_reducible exact Grows.refl _) | (with_reducible refine Grows.alloc ?_ _) | (with_reducible refine Grows.drew ?_) | (with_reducible refine Grows.ext ?_ _ _)))) (Blk.new rfl) (fun e => by have := hv6l _ e; simp at this) (hS.trans (by repeat' (first | (with_reducible exact Grows.refl _) | (with_reducible refine Grows.alloc ?_ _) | (with_reducible refine Grows.drew ?_) | (with_reducible refine Grows.ext ?_ _ _))))).mono ?_)); rintro e wq ⟨v7, rfl, hv7, hq, hsm⟩; have hS0 := hS; clear hS; have hS := hq; clear hS0 hq; obtain ⟨d0, d1, d2, d3⟩ := (F3.out.b.grows hS).four; have hl_d := (F3.out.b.grows hS).lt; have hv5c : IntsAt AnyB wq v5 _ := ((hv5b.same ((Grows.same (by repeat' (first | (with_reducible exact Grows.refl _) | (with_reducible refine Grows.alloc ?_ _) | (with_reducible refine Grows.drew ?_) | (with_reducible refine Grows.ext ?_ _ _))) _).trans hsm)).mono (fun _ _ _ => trivial))) | (go_at_call 21; ((with_reducible refine (wk_q _ _ _ _ (hv5c.grows (by repeat' (first | (with_reducible exact Grows.refl _) | (with_reducible refine Grows.alloc ?_ _) | (with_reducible refine Grows.drew ?_) | (with_reducible refine Grows.ext ?_ _ _)))) (hv7.grows (by repeat' (first | (with_reducible exact Grows.refl _) | (with_reducible refine Grows.alloc ?_ _) | (with_reducible refine Grows.drew ?_) | (with_reducible refine Grows.ext ?_ _ _))))).mono ?_)); rintro e wq ⟨rfl, hq⟩; have hS0 := hS; clear hS; have hqq := Grows.trans (by repeat' (first | (with_reducible exact Grows.refl _) | (with_reducible refine Grows.alloc ?_ _) | (with_reducible refine Grows.drew ?_) | (with_reducible refine Grows.ext ?_ _ _))) hq; have hS := hS0.trans hqq; clear hS0 hq; obtain ⟨d0, d1, d2, d3⟩ := (F3.out.b.grows hS).four; have hl_d := (F3.out.b.grows hS).lt) | (go_at_call 21; ((with_reducible refine (wk_q _ _ _ _ (hv8.grows (by repeat' (first | (with_reducible exact Grows.refl _) | (with_reducible refine Grows.alloc ?_ _) | (with_reducible refine Grows.drew ?_) | (with_reducible refine Grows.ext ?_ _ _)))) (HV2.out _ (hU.trans (hS.trans (by repeat' (first | (with_reducible exact Grows.refl _) | (with_reducible refine Grows.alloc ?_ _) | (with_reducible refine Grows.drew ?_) | (with_reducible refine Grows.ext ?_ _ _))))))).mono ?_)); rintro e wq ⟨rfl, hq⟩; have hS0 := hS; clear hS; have hqq := Grows.trans (by repeat' (first | (with_reducible exact Grows.refl _) | (with_reducible refine Grows.alloc ?_ _) | (with_reducible refine Grows.drew ?_) | (with_reducible refine Grows.ext ?_ _ _))) hq; have hS := hS0.trans hqq; clear hS0 hq; obtain ⟨d0, d1, d2, d3⟩ := (F3.out.b.grows hS).four; have hl_d := (F3.out.b.grows hS).lt))
      go_returns
      exact ⟨rfl, HT.out.trans (hS.trans (by repeat' (first | (with_reducible exact Grows.refl _) | (with_reducible refine Grows.alloc ?_ _) | (with_reducible refine Grows.drew ?_) | (with_reducible refine Grows.ext ?_ _ _))))⟩
    · go_wp2_with fail
      go_returns
      exact ⟨rfl, HT.out.trans (by repeat' (first | (with_reducible exact Grows.refl _) | (with_reducible refine Grows.alloc ?_ _) | (with_reducible refine Grows.drew ?_) | (with_reducible refine Grows.ext ?_ _ _)))⟩
    · go_wp2_with fail
      go_returns
      exact ⟨rfl, HT.out.trans (by repeat' (first | (with_reducible exact Grows.refl _) | (with_reducible refine Grows.alloc ?_ _) | (with_reducible refine Grows.drew ?_) | (with_reducible refine Grows.ext ?_ _ _)))⟩
end Go.Proofs.Ytbobpgegkmcapaa

