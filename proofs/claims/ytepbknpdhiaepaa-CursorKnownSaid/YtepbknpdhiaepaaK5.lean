/-
  Walks: Saved and CheckSaved.
-/
import Derived.Test.YtepbknpdhiaepaaRows
import Derived.Test.YtepbknpdhiaepaaLt
import Derived.Test.YtepbknpdhiaepaaDefs
import Derived.Test.YtepbknpdhiaepaaW1
import Derived.Test.YtepbknpdhiaepaaW2
import Derived.Test.YtepbknpdhiaepaaW3
import Derived.Test.YtepbknpdhiaepaaW4
import Derived.Test.YtepbknpdhiaepaaK1
import Derived.Test.YtepbknpdhiaepaaK2
import Derived.Test.YtepbknpdhiaepaaK3
import Derived.Test.YtepbknpdhiaepaaK4
import Derived.Test.YtepbknpdhiaepaaArr
import Derived.Test.YtepbknpdhiaepaaEqs
import Derived.WalkKit
import Derived.WalkSpells
import Derived.WalkLawsBesides
import Derived.Handy
import Derived.Laws.Rows
import Derived.IntWalk
import Derived.Lib.Hide
import Derived.Outline
import Derived.Deep.Light
import Derived.Deep.LoopGhost
import Derived.BigGuardPart
import Derived.BigQuiet
import Derived.Deep.QuietTactic
import Derived.Deep.RegionHeld3
import Derived.Deep.DeepCutAuto
import Derived.Test.YtepbknpdhiaepaaReg
namespace Go.Proofs.Ytepbknpdhiaepaa
open Go.RowKit


/-- A saved cursor is valid in a valid field. -/
def svB (r c : Int) (is : Bool) (x y : Int) (wr : Bool) (a u fk fn bk bn lk ln g0 g1 g2 g3 us on : Int) (og : Bool) : Bool := if is then (atB r c x y wr && ((stErr a u fk fn bk bn lk ln == 0) && rightB g0 g1 g2 g3 us on)) else savQ x y a u fk fn bk bn lk ln g0 g1 g2 g3 us on 0 0 0 0 0 0 0 0 0 0 0 0 0 0 0 0 is wr og false false false
def svErr (q : Bool) : Int := if q then 0 else 272
@[simp] theorem svErr_t : svErr true = 0 := rfl
@[simp] theorem svErr_f : svErr false = 272 := rfl
theorem info80 : (Try.prog.info? 80).map (·.size) = some 19 := by kernel_rfl
theorem Grows.rowK {w w' : World} {n : Nat} {o : Obj} (h : w.heap[n]? = some o) (g : Grows w w') : w'.heap[n]? = some o := (g.below.block n (Array.getElem?_eq_some_iff.1 h).1).trans h
theorem wpList_load_rowW {P : Program} {ops : Array Oper} {rest : List Oper} {o : Oper} {a : Act} {w : World} {Q : Exit → Act → World → Prop} (hw : Region.wanted o (yielded ops a.tmps) = true) (ty : TypeId) (x : Operand) (ho : o.op = .load ty x)
    (g : Nat) (hx : a.eval x = .pointer (some ⟨g, 0, none⟩)) (t : TypeId) (cs : Array Value) (fr : Nat × Nat) (d : TypeDesc) (hg : w.heap[g]? = some (.cells cs t fr))
    (hu : P.underlying ty = some d) (hd : (match d with | .struct _ | .array _ _ => true | _ => false) = true) (hi : (P.info? ty).map (·.size) = some cs.size)
    (h : wpList P ops Q rest (a.put o.dst (.agg cs)) w) : wpList P ops Q (o :: rest) a w :=
  wpList_step fun K hK => by rw [if_pos hw]; exact wp_load_row ty x ho g hx t cs fr d hg hu hd hi (hK _ _ h)
theorem r4right_any (a u fk fn bk bn lk ln : Int) (hi : In64 a) (w : World) : Calls Try.prog 60 #[.agg #[.int .i64 a, .int .i64 u, .int .i64 fk, .int .i64 fn, .int .i64 bk, .int .i64 bn, .int .i64 lk, .int .i64 ln]] w (Ret (.bool (stErr a u fk fn bk bn lk ln == 0)) w) := by
  have Hc := Lib.hid fun W => rschk_any a u fk fn bk bn lk ln hi W
  clear hi
  go_enter Try.func60, Try.ntmps60
  go_wp2_with (go_at_call 65; (with_reducible refine (Hc.out _).mono ?_); rintro e w' ⟨rfl, h1, d1, rfl⟩)
  go_returns
  exact ⟨rfl, (by repeat' (first | (with_reducible exact Grows.refl _) | (with_reducible refine Grows.alloc ?_ _) | (with_reducible refine Grows.drew ?_) | (with_reducible refine Grows.ext ?_ _ _)))⟩
set_option maxRecDepth 100000 in
set_option maxHeartbeats 4000000 in
theorem saved_f (r c t b : Int) (o : Bool) (x y : Int) (wr : Bool) (a u fk fn bk bn lk ln g0 g1 g2 g3 us on : Int) (og : Bool) (w : World) : Calls Try.prog 41 #[.agg #[.int .i64 r, .int .i64 c, .int .i64 t, .int .i64 b, .bool o], .agg #[.bool false, .int .i64 x, .int .i64 y, .bool wr, .int .i64 a, .int .i64 u, .int .i64 fk, .int .i64 fn, .int .i64 bk, .int .i64 bn, .int .i64 lk, .int .i64 ln, .int .i64 g0, .int .i64 g1, .int .i64 g2, .int .i64 g3, .int .i64 us, .int .i64 on, .bool og]] w (Ret (.bool (savQ x y a u fk fn bk bn lk ln g0 g1 g2 g3 us on 0 0 0 0 0 0 0 0 0 0 0 0 0 0 0 0 false wr og false false false)) w) := by
  have hq := sav_eq
  have hh := fun A => heap_alloc2_new w A (.cells #[.bool false, .int .i64 x, .int .i64 y, .bool wr, .int .i64 a, .int .i64 u, .int .i64 fk, .int .i64 fn, .int .i64 bk, .int .i64 bn, .int .i64 lk, .int .i64 ln, .int .i64 g0, .int .i64 g1, .int .i64 g2, .int .i64 g3, .int .i64 us, .int .i64 on, .bool og] 80)
  go_enter Try.func41, Try.ntmps41
  go_wp2_with (refine wpList_load_row rfl 80 (.tmp 3) rfl (w.heap.size + 1) rfl 80 #[.bool false, .int .i64 x, .int .i64 y, .bool wr, .int .i64 a, .int .i64 u, .int .i64 fk, .int .i64 fn, .int .i64 bk, .int .i64 bn, .int .i64 lk, .int .i64 ln, .int .i64 g0, .int .i64 g1, .int .i64 g2, .int .i64 g3, .int .i64 us, .int .i64 on, .bool og] (0, 0) _ (hh _) Try.underlying80 rfl info80 ?_)
  go_returns
  exact ⟨rfl, (by repeat' (first | (with_reducible exact Grows.refl _) | (with_reducible refine Grows.alloc ?_ _) | (with_reducible refine Grows.drew ?_) | (with_reducible refine Grows.ext ?_ _ _)))⟩
set_option maxRecDepth 100000 in
set_option maxHeartbeats 4000000 in
theorem saved_t (r c t b : Int) (o : Bool) (x y : Int) (wr : Bool) (a u fk fn bk bn lk ln g0 g1 g2 g3 us on : Int) (og : Bool) (q1 q2 q3 : Bool) (h1 : ∀ W, Calls Try.prog 45 #[.agg #[.int .i64 r, .int .i64 c, .int .i64 t, .int .i64 b, .bool o], .agg #[.int .i64 x, .int .i64 y, .bool wr]] W (Ret (.bool q1) W)) (h2 : ∀ W, Calls Try.prog 60 #[.agg #[.int .i64 a, .int .i64 u, .int .i64 fk, .int .i64 fn, .int .i64 bk, .int .i64 bn, .int .i64 lk, .int .i64 ln]] W (Ret (.bool q2) W)) (h3 : ∀ W, Calls Try.prog 61 #[.agg #[.int .i64 g0, .int .i64 g1, .int .i64 g2, .int .i64 g3, .int .i64 us, .int .i64 on]] W (Ret (.bool q3) W)) (w : World) : Calls Try.prog 41 #[.agg #[.int .i64 r, .int .i64 c, .int .i64 t, .int .i64 b, .bool o], .agg #[.bool true, .int .i64 x, .int .i64 y, .bool wr, .int .i64 a, .int .i64 u, .int .i64 fk, .int .i64 fn, .int .i64 bk, .int .i64 bn, .int .i64 lk, .int .i64 ln, .int .i64 g0, .int .i64 g1, .int .i64 g2, .int .i64 g3, .int .i64 us, .int .i64 on, .bool og]] w (Ret (.bool (q1 && (q2 && q3))) w) := by
  have H1 := Lib.hid h1
  have H2 := Lib.hid h2
  have H3 := Lib.hid h3
  clear h1 h2 h3
  cases q1 <;> cases q2 <;> cases q3
  all_goals
    go_enter Try.func41, Try.ntmps41
    go_wp2_with (first | (go_at_call 45; (with_reducible refine (H1.out _).mono ?_); rintro e w' ⟨rfl, h1, d1, rfl⟩) | (go_at_call 60; (with_reducible refine (H2.out _).mono ?_); rintro e w' ⟨rfl, h2, d2, rfl⟩) | (go_at_call 61; (with_reducible refine (H3.out _).mono ?_); rintro e w' ⟨rfl, h3, d3, rfl⟩))
    go_returns
    exact ⟨rfl, (by repeat' (first | (with_reducible exact Grows.refl _) | (with_reducible refine Grows.alloc ?_ _) | (with_reducible refine Grows.drew ?_) | (with_reducible refine Grows.ext ?_ _ _)))⟩
theorem saved_any (r c t b : Int) (o is : Bool) (x y : Int) (wr : Bool) (a u fk fn bk bn lk ln g0 g1 g2 g3 us on : Int) (og : Bool) (h : okF r c t b = true) (hi : In64 a) (w : World) : Calls Try.prog 41 #[.agg #[.int .i64 r, .int .i64 c, .int .i64 t, .int .i64 b, .bool o], .agg #[.bool is, .int .i64 x, .int .i64 y, .bool wr, .int .i64 a, .int .i64 u, .int .i64 fk, .int .i64 fn, .int .i64 bk, .int .i64 bn, .int .i64 lk, .int .i64 ln, .int .i64 g0, .int .i64 g1, .int .i64 g2, .int .i64 g3, .int .i64 us, .int .i64 on, .bool og]] w (Ret (.bool (svB r c is x y wr a u fk fn bk bn lk ln g0 g1 g2 g3 us on og)) w) := by
  obtain ⟨f1, f2, f3, f4, -⟩ := okF_iff.1 h
  cases is
  · exact saved_f r c t b o x y wr a u fk fn bk bn lk ln g0 g1 g2 g3 us on og w
  · exact saved_t r c t b o x y wr a u fk fn bk bn lk ln g0 g1 g2 g3 us on og _ _ _ (fun W => at_any r c t b x y o wr f3 f4 W) (fun W => r4right_any a u fk fn bk bn lk ln hi W) (fun W => sright_any g0 g1 g2 g3 us on W) w
set_option maxRecDepth 100000 in
set_option maxHeartbeats 4000000 in
theorem csaved_f (r c t b : Int) (o : Bool) (x y : Int) (wr : Bool) (a u fk fn bk bn lk ln g0 g1 g2 g3 us on : Int) (og : Bool) (q1 q2 q3 z : Bool) (e2 : Int) (he : (e2 == 0) = q2) (_hz : (savQ x y a u fk fn bk bn lk ln g0 g1 g2 g3 us on 0 0 0 0 0 0 0 0 0 0 0 0 0 0 0 0 false wr og false false false) = z) (h0 : ∀ W, Calls Try.prog 33 #[.agg #[.int .i64 r, .int .i64 c, .int .i64 t, .int .i64 b, .bool o]] W (Ret (.int .i64 0) W)) (h1 : ∀ W, Calls Try.prog 34 #[.agg #[.int .i64 r, .int .i64 c, .int .i64 t, .int .i64 b, .bool o], .agg #[.int .i64 x, .int .i64 y, .bool wr]] W (Ret (.int .i64 (cErr true q1)) W)) (h2 : ∀ W, Calls Try.prog 62 #[.agg #[.int .i64 a, .int .i64 u, .int .i64 fk, .int .i64 fn, .int .i64 bk, .int .i64 bn, .int .i64 lk, .int .i64 ln]] W (Ret (.int .i64 e2) W)) (h3 : ∀ W, Calls Try.prog 63 #[.agg #[.int .i64 g0, .int .i64 g1, .int .i64 g2, .int .i64 g3, .int .i64 us, .int .i64 on]] W (Ret (.int .i64 (errS q3)) W)) (w : World) : Calls Try.prog 42 #[.agg #[.int .i64 r, .int .i64 c, .int .i64 t, .int .i64 b, .bool o], .agg #[.bool false, .int .i64 x, .int .i64 y, .bool wr, .int .i64 a, .int .i64 u, .int .i64 fk, .int .i64 fn, .int .i64 bk, .int .i64 bn, .int .i64 lk, .int .i64 ln, .int .i64 g0, .int .i64 g1, .int .i64 g2, .int .i64 g3, .int .i64 us, .int .i64 on, .bool og]] w (Ret (.int .i64 (svErr (z))) w) := by
  have hh : ∀ A, ((w.alloc A).alloc (.cells #[.bool false, .int .i64 x, .int .i64 y, .bool wr, .int .i64 a, .int .i64 u, .int .i64 fk, .int .i64 fn, .int .i64 bk, .int .i64 bn, .int .i64 lk, .int .i64 ln, .int .i64 g0, .int .i64 g1, .int .i64 g2, .int .i64 g3, .int .i64 us, .int .i64 on, .bool og] 80)).heap[w.heap.size + 1]? = some (.cells #[.bool false, .int .i64 x, .int .i64 y, .bool wr, .int .i64 a, .int .i64 u, .int .i64 fk, .int .i64 fn, .int .i64 bk, .int .i64 bn, .int .i64 lk, .int .i64 ln, .int .i64 g0, .int .i64 g1, .int .i64 g2, .int .i64 g3, .int .i64 us, .int .i64 on, .bool og] 80 (0, 0)) := fun A => heap_alloc2_new w A (.cells #[.bool false, .int .i64 x, .int .i64 y, .bool wr, .int .i64 a, .int .i64 u, .int .i64 fk, .int .i64 fn, .int .i64 bk, .int .i64 bn, .int .i64 lk, .int .i64 ln, .int .i64 g0, .int .i64 g1, .int .i64 g2, .int .i64 g3, .int .i64 us, .int .i64 on, .bool og] 80)
  have HH := Lib.hid hh
  have H0 := Lib.hid h0
  have H1 := Lib.hid h1
  have H2 := Lib.hid h2
  have H3 := Lib.hid h3
  clear h0 h1 h2 h3 hh
  go_enter Try.func42, Try.ntmps42
  go_upto_region 4 with (go_at_call 33; (with_reducible refine (H0.out _).mono ?_); rintro e w' ⟨rfl, h0, d0, rfl⟩)
  go_cut [6] (fun v wx => v = .bool (q1 && (q2 && q3)) ∧ Grows ((w.alloc (.cells #[.int .i64 r, .int .i64 c, .int .i64 t, .int .i64 b, .bool o] 23)).alloc (.cells #[.bool false, .int .i64 x, .int .i64 y, .bool wr, .int .i64 a, .int .i64 u, .int .i64 fk, .int .i64 fn, .int .i64 bk, .int .i64 bn, .int .i64 lk, .int .i64 ln, .int .i64 g0, .int .i64 g1, .int .i64 g2, .int .i64 g3, .int .i64 us, .int .i64 on, .bool og] 80)) wx)
  case first =>
    cases q1 <;> cases q2 <;> cases q3
    all_goals as_aux_lemma =>
      go_wp2_with (first | (go_at_call 34; (with_reducible refine (H1.out _).mono ?_); rintro e w' ⟨rfl, h1, d1, rfl⟩) | (go_at_call 62; (with_reducible refine (H2.out _).mono ?_); rintro e w' ⟨rfl, h2, d2, rfl⟩) | (go_at_call 63; (with_reducible refine (H3.out _).mono ?_); rintro e w' ⟨rfl, h3, d3, rfl⟩))
      go_meet
      exact ⟨rfl, (by repeat' (first | (with_reducible exact Grows.refl _) | (with_reducible refine Grows.alloc ?_ _) | (with_reducible refine Grows.drew ?_) | (with_reducible refine Grows.ext ?_ _ _)))⟩
  case rest =>
    obtain ⟨rfl, hG⟩ := hcut
    clear H0 H1 H2 H3 he
    generalize (q1 && (q2 && q3)) = q at *
    have hrow := Grows.rowK (HH.out _) hG
    have c0 : wc.cell? ⟨w.heap.size + 1, 0, none⟩ = some (.bool false) := (cell_of_row wc _ 0 _ 80 (0, 0) hrow).trans rfl
    have hsz : w.heap.size + 1 < wc.heap.size := (Array.getElem?_eq_some_iff.1 hrow).1
    have HR := Lib.hid hrow
    have hG2 := Grows.trans ((Grows.refl w).alloc _ |>.alloc _) hG
    clear hrow hG HH
    have hq := sav_eq
    cases z
    all_goals
      go_wp2_with (refine wpList_load_rowW (by kernel_rfl) 80 (.tmp 3) rfl (w.heap.size + 1) rfl 80 #[.bool false, .int .i64 x, .int .i64 y, .bool wr, .int .i64 a, .int .i64 u, .int .i64 fk, .int .i64 fn, .int .i64 bk, .int .i64 bn, .int .i64 lk, .int .i64 ln, .int .i64 g0, .int .i64 g1, .int .i64 g2, .int .i64 g3, .int .i64 us, .int .i64 on, .bool og] (0, 0) _ HR.out Try.underlying80 rfl info80 ?_)
      go_returns
      exact ⟨rfl, (by repeat' (first | (with_reducible exact hG2) | (with_reducible exact Grows.refl _) | (with_reducible refine Grows.alloc ?_ _) | (with_reducible refine Grows.drew ?_) | (with_reducible refine Grows.ext ?_ _ _)))⟩
set_option maxRecDepth 100000 in
set_option maxHeartbeats 4000000 in
theorem csaved_t (r c t b : Int) (o : Bool) (x y : Int) (wr : Bool) (a u fk fn bk bn lk ln g0 g1 g2 g3 us on : Int) (og : Bool) (q1 q2 q3 : Bool) (e2 : Int) (he : (e2 == 0) = q2) (h0 : ∀ W, Calls Try.prog 33 #[.agg #[.int .i64 r, .int .i64 c, .int .i64 t, .int .i64 b, .bool o]] W (Ret (.int .i64 0) W)) (h1 : ∀ W, Calls Try.prog 34 #[.agg #[.int .i64 r, .int .i64 c, .int .i64 t, .int .i64 b, .bool o], .agg #[.int .i64 x, .int .i64 y, .bool wr]] W (Ret (.int .i64 (cErr true q1)) W)) (h2 : ∀ W, Calls Try.prog 62 #[.agg #[.int .i64 a, .int .i64 u, .int .i64 fk, .int .i64 fn, .int .i64 bk, .int .i64 bn, .int .i64 lk, .int .i64 ln]] W (Ret (.int .i64 e2) W)) (h3 : ∀ W, Calls Try.prog 63 #[.agg #[.int .i64 g0, .int .i64 g1, .int .i64 g2, .int .i64 g3, .int .i64 us, .int .i64 on]] W (Ret (.int .i64 (errS q3)) W)) (w : World) : Calls Try.prog 42 #[.agg #[.int .i64 r, .int .i64 c, .int .i64 t, .int .i64 b, .bool o], .agg #[.bool true, .int .i64 x, .int .i64 y, .bool wr, .int .i64 a, .int .i64 u, .int .i64 fk, .int .i64 fn, .int .i64 bk, .int .i64 bn, .int .i64 lk, .int .i64 ln, .int .i64 g0, .int .i64 g1, .int .i64 g2, .int .i64 g3, .int .i64 us, .int .i64 on, .bool og]] w (Ret (.int .i64 (svErr (q1 && (q2 && q3)))) w) := by
  have hh : ∀ A, ((w.alloc A).alloc (.cells #[.bool true, .int .i64 x, .int .i64 y, .bool wr, .int .i64 a, .int .i64 u, .int .i64 fk, .int .i64 fn, .int .i64 bk, .int .i64 bn, .int .i64 lk, .int .i64 ln, .int .i64 g0, .int .i64 g1, .int .i64 g2, .int .i64 g3, .int .i64 us, .int .i64 on, .bool og] 80)).heap[w.heap.size + 1]? = some (.cells #[.bool true, .int .i64 x, .int .i64 y, .bool wr, .int .i64 a, .int .i64 u, .int .i64 fk, .int .i64 fn, .int .i64 bk, .int .i64 bn, .int .i64 lk, .int .i64 ln, .int .i64 g0, .int .i64 g1, .int .i64 g2, .int .i64 g3, .int .i64 us, .int .i64 on, .bool og] 80 (0, 0)) := fun A => heap_alloc2_new w A (.cells #[.bool true, .int .i64 x, .int .i64 y, .bool wr, .int .i64 a, .int .i64 u, .int .i64 fk, .int .i64 fn, .int .i64 bk, .int .i64 bn, .int .i64 lk, .int .i64 ln, .int .i64 g0, .int .i64 g1, .int .i64 g2, .int .i64 g3, .int .i64 us, .int .i64 on, .bool og] 80)
  have HH := Lib.hid hh
  have H0 := Lib.hid h0
  have H1 := Lib.hid h1
  have H2 := Lib.hid h2
  have H3 := Lib.hid h3
  clear h0 h1 h2 h3 hh
  go_enter Try.func42, Try.ntmps42
  go_upto_region 4 with (go_at_call 33; (with_reducible refine (H0.out _).mono ?_); rintro e w' ⟨rfl, h0, d0, rfl⟩)
  go_cut [6] (fun v wx => v = .bool (q1 && (q2 && q3)) ∧ Grows ((w.alloc (.cells #[.int .i64 r, .int .i64 c, .int .i64 t, .int .i64 b, .bool o] 23)).alloc (.cells #[.bool true, .int .i64 x, .int .i64 y, .bool wr, .int .i64 a, .int .i64 u, .int .i64 fk, .int .i64 fn, .int .i64 bk, .int .i64 bn, .int .i64 lk, .int .i64 ln, .int .i64 g0, .int .i64 g1, .int .i64 g2, .int .i64 g3, .int .i64 us, .int .i64 on, .bool og] 80)) wx)
  case first =>
    cases q1 <;> cases q2 <;> cases q3
    all_goals as_aux_lemma =>
      go_wp2_with (first | (go_at_call 34; (with_reducible refine (H1.out _).mono ?_); rintro e w' ⟨rfl, h1, d1, rfl⟩) | (go_at_call 62; (with_reducible refine (H2.out _).mono ?_); rintro e w' ⟨rfl, h2, d2, rfl⟩) | (go_at_call 63; (with_reducible refine (H3.out _).mono ?_); rintro e w' ⟨rfl, h3, d3, rfl⟩))
      go_meet
      exact ⟨rfl, (by repeat' (first | (with_reducible exact Grows.refl _) | (with_reducible refine Grows.alloc ?_ _) | (with_reducible refine Grows.drew ?_) | (with_reducible refine Grows.ext ?_ _ _)))⟩
  case rest =>
    obtain ⟨rfl, hG⟩ := hcut
    clear H0 H1 H2 H3 he
    generalize (q1 && (q2 && q3)) = q at *
    have hrow := Grows.rowK (HH.out _) hG
    have c0 : wc.cell? ⟨w.heap.size + 1, 0, none⟩ = some (.bool true) := (cell_of_row wc _ 0 _ 80 (0, 0) hrow).trans rfl
    have hsz : w.heap.size + 1 < wc.heap.size := (Array.getElem?_eq_some_iff.1 hrow).1
    have HR := Lib.hid hrow
    have hG2 := Grows.trans ((Grows.refl w).alloc _ |>.alloc _) hG
    clear hrow hG HH
    clear HR
    cases q
    all_goals
      go_wp2_with fail
      go_returns
      exact ⟨rfl, (by repeat' (first | (with_reducible exact hG2) | (with_reducible exact Grows.refl _) | (with_reducible refine Grows.alloc ?_ _) | (with_reducible refine Grows.drew ?_) | (with_reducible refine Grows.ext ?_ _ _)))⟩
theorem csaved_any (r c t b : Int) (o is : Bool) (x y : Int) (wr : Bool) (a u fk fn bk bn lk ln g0 g1 g2 g3 us on : Int) (og : Bool) (h : okF r c t b = true) (hi : In64 a) (hu : In64 us) (w : World) : Calls Try.prog 42 #[.agg #[.int .i64 r, .int .i64 c, .int .i64 t, .int .i64 b, .bool o], .agg #[.bool is, .int .i64 x, .int .i64 y, .bool wr, .int .i64 a, .int .i64 u, .int .i64 fk, .int .i64 fn, .int .i64 bk, .int .i64 bn, .int .i64 lk, .int .i64 ln, .int .i64 g0, .int .i64 g1, .int .i64 g2, .int .i64 g3, .int .i64 us, .int .i64 on, .bool og]] w (Ret (.int .i64 (svErr (svB r c is x y wr a u fk fn bk bn lk ln g0 g1 g2 g3 us on og))) w) := by
  have h0 : ∀ W, Calls Try.prog 33 #[.agg #[.int .i64 r, .int .i64 c, .int .i64 t, .int .i64 b, .bool o]] W (Ret (.int .i64 0) W) := fun W => by
    have := check_any r c t b o W
    rwa [h] at this
  have h1 : ∀ W, Calls Try.prog 34 #[.agg #[.int .i64 r, .int .i64 c, .int .i64 t, .int .i64 b, .bool o], .agg #[.int .i64 x, .int .i64 y, .bool wr]] W (Ret (.int .i64 (cErr true (atB r c x y wr))) W) := fun W => by
    have := checkAt_any r c t b x y o wr W
    rwa [h] at this
  cases is
  · exact csaved_f r c t b o x y wr a u fk fn bk bn lk ln g0 g1 g2 g3 us on og _ _ _ _ _ rfl rfl h0 h1 (fun W => schk_any a u fk fn bk bn lk ln hi W) (fun W => sets_any g0 g1 g2 g3 us on hu W) w
  · exact csaved_t r c t b o x y wr a u fk fn bk bn lk ln g0 g1 g2 g3 us on og _ _ _ _ rfl h0 h1 (fun W => schk_any a u fk fn bk bn lk ln hi W) (fun W => sets_any g0 g1 g2 g3 us on hu W) w
theorem csaved_no (r c t b : Int) (o is : Bool) (x y : Int) (wr : Bool) (a u fk fn bk bn lk ln g0 g1 g2 g3 us on : Int) (og : Bool) (h : okF r c t b = false) (w : World) : Calls Try.prog 42 #[.agg #[.int .i64 r, .int .i64 c, .int .i64 t, .int .i64 b, .bool o], .agg #[.bool is, .int .i64 x, .int .i64 y, .bool wr, .int .i64 a, .int .i64 u, .int .i64 fk, .int .i64 fn, .int .i64 bk, .int .i64 bn, .int .i64 lk, .int .i64 ln, .int .i64 g0, .int .i64 g1, .int .i64 g2, .int .i64 g3, .int .i64 us, .int .i64 on, .bool og]] w (Ret (.int .i64 270) w) := by
  have hc := fun W => check_any r c t b o W
  rw [h] at hc
  have Hc := Lib.hid hc
  clear hc h
  go_enter Try.func42, Try.ntmps42
  go_wp2_with (go_at_call 33; (with_reducible refine (Hc.out _).mono ?_); rintro e w' ⟨rfl, h1, d1, rfl⟩)
  go_returns
  exact ⟨rfl, (by repeat' (first | (with_reducible exact Grows.refl _) | (with_reducible refine Grows.alloc ?_ _) | (with_reducible refine Grows.drew ?_) | (with_reducible refine Grows.ext ?_ _ _)))⟩
end Go.Proofs.Ytepbknpdhiaepaa
