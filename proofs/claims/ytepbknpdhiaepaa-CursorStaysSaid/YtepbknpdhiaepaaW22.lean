/-
  Walk: the law CursorAdds.
-/
import Derived.Test.YtepbknpdhiaepaaRows
import Derived.Test.YtepbknpdhiaepaaLt
import Derived.Test.YtepbknpdhiaepaaDefs
import Derived.Test.YtepbknpdhiaepaaCel
import Derived.Test.YtepbknpdhiaepaaW1
import Derived.Test.YtepbknpdhiaepaaW2
import Derived.Test.YtepbknpdhiaepaaW11
import Derived.Test.YtepbknpdhiaepaaW13
import Derived.Test.YtepbknpdhiaepaaW15
import Derived.Test.YtepbknpdhiaepaaW16
import Derived.Test.YtepbknpdhiaepaaW18
import Derived.Test.YtepbknpdhiaepaaIX
import Derived.WalkKit
import Derived.WalkSpells
import Derived.WalkLawsBesides
import Derived.Handy
import Derived.Lib.Hide
import Derived.Deep.Light
import Derived.Deep.LoopGhost
import Derived.BigGuardPart
import Derived.BigQuiet
import Derived.Deep.QuietTactic
import Derived.Deep.RegionHeld3
import Derived.Test.YtepbknpdhiaepaaReg
import Derived.Test.YtepbknpdhiaepaaReg3
import Derived.Test.YtepbknpdhiaepaaReg4
namespace Go.Proofs.Ytepbknpdhiaepaa
open Go.RowKit


theorem up_fact (t x n : Int) : (t ≤ x → upRow t x n = max t (x - n)) ∧ (x < t → upRow t x n = max 0 (x - n)) := by
  unfold upRow
  constructor
  · intro h; simp [h]
  · intro h; simp [Int.not_le.2 h]
theorem down_fact (r b x n : Int) : (x ≤ b → downRow r b x n = min b (x + n)) ∧ (b < x → downRow r b x n = min (r - 1) (x + n)) := by
  unfold downRow
  constructor
  · intro h; simp [h]
  · intro h; simp [Int.not_le.2 h]
theorem min_fact (m n : Int) : (m ≤ n → min m n = m) ∧ (n < m → min m n = n) := by omega
theorem max_fact (m n : Int) : (m ≤ n → max m n = n) ∧ (n < m → max m n = m) := by omega
def mvUp (t x m : Int) : Int := if t ≤ x then (if t ≤ x - m then x - m else t) else (if 0 ≤ x - m then x - m else 0)
theorem up_eq {t x n k : Int} (h0 : 0 ≤ t) (hx : x < k) (hk : 0 ≤ k) : upRow t x (min n k) = mvUp t x n := by
  unfold mvUp
  have a1 := up_fact t x (min n k)
  have a2 := min_fact n k
  generalize min n k = p at *
  have a3 := max_fact t (x - p)
  have a4 := max_fact 0 (x - p)
  repeat' split
  all_goals omega
def mvDown (r b x m : Int) : Int := if x ≤ b then (if x + m ≤ b then x + m else b) else (if x + m ≤ r - 1 then x + m else r - 1)
theorem down_eq {r b x n k : Int} (h0 : b < r) (hx : 0 ≤ x) (hk : r ≤ k) : downRow r b x (min n k) = mvDown r b x n := by
  unfold mvDown
  have a1 := down_fact r b x (min n k)
  have a2 := min_fact n k
  generalize min n k = p at *
  have a3 := min_fact b (x + p)
  have a4 := min_fact (r - 1) (x + p)
  repeat' split
  all_goals omega
def mvOn (c y m : Int) : Int := if y + m ≤ c - 1 then y + m else c - 1
theorem on_eq {c y n k : Int} (h0 : 0 ≤ y) (hn : 0 ≤ n) (hc : 1 ≤ c) (hk : c ≤ k) : cl (y + min n k) 0 (c - 1) = mvOn c y n := by
  unfold mvOn cl
  have a2 := min_fact n k
  generalize min n k = p at *
  have a3 := min_fact (y + p) (c - 1)
  generalize min (y + p) (c - 1) = q at *
  have a4 := max_fact 0 q
  split <;> omega
def mvOff (y m : Int) : Int := if 0 ≤ y - m then y - m else 0
theorem off_eq {c y n k : Int} (h0 : y < c) (hn : 0 ≤ n) (hc : 1 ≤ c) (hk : c ≤ k) : cl (y - min n k) 0 (c - 1) = mvOff y n := by
  unfold mvOff cl
  have a2 := min_fact n k
  generalize min n k = p at *
  have a3 := min_fact (y - p) (c - 1)
  generalize min (y - p) (c - 1) = q at *
  have a4 := max_fact 0 q
  split <;> omega
theorem mv_add {r c t b x y k m n : Int} {wr : Bool} (hok : okF r c t b = true) (hat : atB r c x y wr = true) (hk : 0 ≤ k ∧ k ≤ 3) (hm : 0 ≤ m) (hn : 0 ≤ n) :
    mvRow r c t b (mvRow r c t b x k m) k n = mvRow r c t b x k (m + n) ∧ mvCol r c (mvCol r c y k m) k n = mvCol r c y k (m + n) ∧ atB r c (mvRow r c t b x k m) (mvCol r c y k m) false = true := by
  obtain ⟨f1, f2, f3, f4, f5⟩ := okF_iff.1 hok
  obtain ⟨x2, x3, y2, y3, -⟩ := atB_iff.1 hat
  obtain ⟨t1, t2, t3⟩ := okF_t hok
  have hk : k = 0 ∨ k = 1 ∨ k = 2 ∨ k = 3 := by omega
  rw [atB_iff]
  rcases hk with rfl | rfl | rfl | rfl
  all_goals simp only [mvRow, mvCol, if_true, if_false, Int.reduceEq]
  · rw [up_eq t1 (show x < r + c by omega) (by omega), up_eq t1 (show x < r + c by omega) (by omega)]
    have hb : 0 ≤ mvUp t x m ∧ mvUp t x m ≤ x := by unfold mvUp; (repeat' split) <;> omega
    rw [up_eq t1 (show mvUp t x m < r + c by omega) (by omega)]
    refine ⟨?_, by trivial, by omega, by omega, by omega, by omega, fun h => by cases h⟩
    unfold mvUp
    (repeat' split) <;> omega
  · rw [down_eq t3 x2 (by omega), down_eq t3 x2 (by omega)]
    have hb : x ≤ mvDown r b x m ∧ mvDown r b x m < r := by unfold mvDown; (repeat' split) <;> omega
    rw [down_eq t3 (by omega) (by omega)]
    refine ⟨?_, by trivial, by omega, by omega, by omega, by omega, fun h => by cases h⟩
    unfold mvDown
    (repeat' split) <;> omega
  · rw [on_eq y2 hm (by omega) (by omega), on_eq y2 (by omega) (by omega) (by omega)]
    have hb : y ≤ mvOn c y m ∧ mvOn c y m < c := by unfold mvOn; split <;> omega
    rw [on_eq (by omega) hn (by omega) (by omega)]
    refine ⟨by trivial, ?_, by omega, by omega, by omega, by omega, fun h => by cases h⟩
    unfold mvOn
    (repeat' split) <;> omega
  · rw [off_eq y3 hm (by omega) (by omega), off_eq y3 (by omega) (by omega) (by omega)]
    have hb : 0 ≤ mvOff y m ∧ mvOff y m ≤ y := by unfold mvOff; split <;> omega
    rw [off_eq (show mvOff y m < c by omega) hn (by omega) (by omega)]
    refine ⟨by trivial, ?_, by omega, by omega, by omega, by omega, fun h => by cases h⟩
    unfold mvOff
    (repeat' split) <;> omega
theorem mv_far {r c t b x y m : Int} {wr : Bool} (hok : okF r c t b = true) (hat : atB r c x y wr = true) (hm : 0 ≤ m) :
    (0 ≤ -(mvRow r c t b x 0 m - x) ∧ -(mvRow r c t b x 0 m - x) ≤ m) ∧ (0 ≤ mvRow r c t b x 1 m - x ∧ mvRow r c t b x 1 m - x ≤ m) ∧ (0 ≤ mvCol r c y 2 m - y ∧ mvCol r c y 2 m - y ≤ m) ∧ (0 ≤ -(mvCol r c y 3 m - y) ∧ -(mvCol r c y 3 m - y) ≤ m) := by
  obtain ⟨f1, f2, f3, f4, f5⟩ := okF_iff.1 hok
  obtain ⟨x2, x3, y2, y3, -⟩ := atB_iff.1 hat
  obtain ⟨t1, t2, t3⟩ := okF_t hok
  simp only [mvRow, mvCol, upRow, downRow, cl, decide_eq_true_eq, if_true, if_false, Int.reduceEq]
  refine ⟨⟨?_, ?_⟩, ⟨?_, ?_⟩, ⟨?_, ?_⟩, ⟨?_, ?_⟩⟩
  all_goals (repeat' split) <;> omega
theorem mv_same {r c t b x y k m : Int} : (k = 0 ∨ k = 1 → mvCol r c y k m = y) ∧ (k = 2 ∨ k = 3 → mvRow r c t b x k m = x) := by
  constructor
  · rintro (rfl | rfl) <;> simp [mvCol]
  · rintro (rfl | rfl) <;> simp [mvRow]

set_option maxRecDepth 100000 in
set_option maxHeartbeats 20000000 in
theorem lawAdds_true (rows cols top long row col : Int) (od wd : Bool) (h1 : 0 ≤ rows ∧ rows < 256) (h2 : 0 ≤ cols ∧ cols < 256) (h3 : 0 ≤ top ∧ top < 256) (h4 : 0 ≤ long ∧ long < 256) (h5 : 0 ≤ row ∧ row < 256) (h6 : 0 ≤ col ∧ col < 256) (way n0 n1 : Int) (u1 : 0 ≤ way ∧ way < 256) (u2 : 0 ≤ n0 ∧ n0 < 256) (u3 : 0 ≤ n1 ∧ n1 < 256) (w : World) : Calls Try.prog 5 #[.agg #[.int .u8 rows, .int .u8 cols, .int .u8 top, .int .u8 long, .int .u8 row, .int .u8 col, .bool od, .bool wd], .int .u8 way, .agg #[.int .u8 n0, .int .u8 n1]] w (Ret (.bool true) w) := by
  have hok := dOk (top := top) (long := long) h1.1 h2.1 h3.1 h4.1
  have hat := dAt (cols := cols) (top := top) (row := row) (col := col) (wr := wd) h1.1 h2.1 h3.1 h4.1
  have hf := fun W => dfield_any rows cols top long row col od wd h1 h2 h3 h4 h5 h6 W
  have hcu := fun W => dcursor_any rows cols top long row col od wd h1 h2 h3 h4 h5 h6 W
  generalize dR rows = r1 at *
  generalize dC cols = c1 at *
  generalize dT rows top long = t1 at *
  generalize dB rows top long = b1 at *
  generalize dRow rows top long row = x1 at *
  generalize dCol cols col = y1 at *
  generalize dWr cols col wd = g1 at *
  have Hf := Lib.hid hf
  have Hc := Lib.hid hcu
  clear hf hcu h1 h2 h3 h4 h5 h6
  obtain ⟨f1, f2, f3, f4, f5⟩ := okF_iff.1 hok
  obtain ⟨x2, x3, y2, y3, -⟩ := atB_iff.1 hat
  obtain ⟨u1, u1'⟩ := u1
  obtain ⟨u2, u2'⟩ := u2
  obtain ⟨u3, u3'⟩ := u3
  go_enter Try.func5, Try.ntmps5
  go_wp2_with (go_at_call 22; refine (works_true _).mono ?_; rintro e w' ⟨rfl, h9, d9, rfl⟩)
  try simp only [ext_ext]
  refine wp_region_makes2 5 7 7 6 8 8 (.cells #[.int .i64 0, .int .i64 0, .int .i64 0, .int .i64 0, .bool false] 23) (.cells #[.int .i64 r1, .int .i64 c1, .int .i64 t1, .int .i64 b1, .bool od] 23) (.cells #[.int .i64 0, .int .i64 0, .bool false] 27) (.cells #[.int .i64 x1, .int .i64 y1, .bool g1] 27) (by kernel_rfl) (by kernel_rfl) rfl rfl (fun _ _ => by simp [go_sem]) (fun _ _ => by simp [go_sem]) ?_
  repeat (first | (refine spWalk_op (by rfl) (fun K hK => ?_); go_simp; (try go_ints); first | (refine hK _ ?_; clear hK K) | (apply Exists.intro; refine ⟨fun xg => ?_, hK _ ?_⟩; (first | (go_at_call 12; exact Hf.out _) | (go_at_call 11; exact own_any _ _ _ _ _ _) | (go_at_call 14; exact Hc.out _)); clear hK K)) | (refine spWalk_sp (by rfl) (asks2 ?_ ?_) ?_; (intro h; (first | (simp [mk, Mk.s] at h; done) | (exact fillsM_store rfl 23 (.tmp 7) (.tmp 24) rfl #[.int .i64 0, .int .i64 0, .int .i64 0, .int .i64 0, .bool false] #[.int .i64 r1, .int .i64 c1, .int .i64 t1, .int .i64 b1, .bool od] 23 rfl rfl (fun _ => rfl) (fun _ => rfl) (by kernel_rfl) rfl (by simp [Value.oneCell'])))); (intro h; (first | (simp [mk, Mk.s] at h; done) | (exact fillsM_store rfl 27 (.tmp 8) (.tmp 26) rfl #[.int .i64 0, .int .i64 0, .bool false] #[.int .i64 x1, .int .i64 y1, .bool g1] 27 rfl rfl (fun _ => rfl) (fun _ => rfl) (by kernel_rfl) rfl (by simp [Value.oneCell']))))))
  refine spWalk_nil ?_
  intro n81a n81b W81 hG81 hA81 hB81 hN81 hO81 hP81
  simp only [Act.put, List.getElem_toArray, List.getElem_cons_succ, List.getElem_cons_zero, List.setIfInBounds_toArray, List.set_cons_zero, List.set_cons_succ]
  obtain ⟨k0, k1, k2, k3, k4, k5⟩ := fld_of hO81
  obtain ⟨q0, q1, q2, q3, q4, q5, q6⟩ := cur_of hP81
  have hne := hN81 (by decide)
  have hn1 : w.heap.size ≤ n81a := by simp only [ext_size, World.size_alloc] at hA81; omega
  have hn2 : w.heap.size ≤ n81b := by simp only [ext_size, World.size_alloc] at hB81; omega
  have hG : Grows w W81 := Grows.trans (by repeat' (first | (with_reducible exact Grows.refl _) | (with_reducible refine Grows.alloc ?_ _) | (with_reducible refine Grows.drew ?_) | (with_reducible refine Grows.ext ?_ _ _))) hG81
  have ho0 : W81.cell? ⟨w.heap.size + 1, 0, none⟩ = some (.int .u8 n0) := (Grows.cell hG81 _ _ (by simp [go_sem])).1.trans (by simp [go_sem])
  have hs0 : w.heap.size + 1 < W81.heap.size := (Grows.cell hG81 (w.heap.size + 1) 0 (by simp [go_sem])).2
  have ho1 : W81.cell? ⟨w.heap.size + 1, 1, none⟩ = some (.int .u8 n1) := (Grows.cell hG81 _ _ (by simp [go_sem])).1.trans (by simp [go_sem])
  have hs1 : w.heap.size + 1 < W81.heap.size := (Grows.cell hG81 (w.heap.size + 1) 0 (by simp [go_sem])).2
  clear hG81 hA81 hB81 hN81 hO81 hP81
  generalize n81a = B1 at *
  generalize n81b = B2 at *
  generalize W81 = W at *
  rcases (by omega : way % 4 = 0 ∨ way % 4 = 1 ∨ way % 4 = 2 ∨ way % 4 = 3) with hk | hk | hk | hk
  · go_wp2
    refine wp_region_grow (by kernel_rfl) (by kernel_rfl) ?_
    repeat (first | go_big_quiet_step ((fail)) | quiet_step ((fail)))
    refine wpQuiet_nil ?_
    rintro _ ⟨g82, rfl⟩
    have e1 := mv_add (k := 0) (m := n0 % 60) (n := n1 % 60) hok hat (by omega) (by omega) (by omega)
    have e2 := (mv_far (m := n0 % 60) hok hat (by omega)).1
    have e3 := (mv_same (r := r1) (c := c1) (t := t1) (b := b1) (x := x1) (y := y1) (k := 0) (m := n0 % 60)).1 (by simp)
    have e4 := (mv_same (r := r1) (c := c1) (t := t1) (b := b1) (x := x1) (y := y1) (k := 0) (m := n0 % 60 + n1 % 60)).1 (by simp)
    rw [e3] at e1
    rw [e4] at e1
    obtain ⟨e5, e6, at2⟩ := e1
    have gm1 := fun W => move_any r1 c1 t1 b1 x1 y1 0 (n0 % 60) od g1 W
    have gm2 := fun W => move_any r1 c1 t1 b1 (mvRow r1 c1 t1 b1 x1 0 (n0 % 60)) y1 0 (n1 % 60) od false W
    have gm3 := fun W => move_any r1 c1 t1 b1 x1 y1 0 (n0 % 60 + n1 % 60) od g1 W
    simp only [hok, hat, at2, show mOk 0 (n0 % 60) = true by rw [mOk_iff]; omega, show mOk 0 (n1 % 60) = true by rw [mOk_iff]; omega, show mOk 0 (n0 % 60 + n1 % 60) = true by rw [mOk_iff]; omega, Bool.and_true, sel_true, mErr_ok, e3, e4, e5, e6] at gm1 gm2 gm3
    generalize mvRow r1 c1 t1 b1 x1 0 (n0 % 60 + n1 % 60) = xz at *
    generalize mvRow r1 c1 t1 b1 x1 0 (n0 % 60) = xa at *
    have b0 := atB_iff.1 at2
    have Hm1 := Lib.hid gm1
    have Hm2 := Lib.hid gm2
    have Hm3 := Lib.hid gm3
    clear gm1 gm2 gm3 e3 e4 e5 e6
    obtain ⟨near, hnear⟩ : ∃ near, near = xa - x1 := ⟨_, rfl⟩
    obtain ⟨far, hfar⟩ : ∃ far, far = -near := ⟨_, rfl⟩
    obtain ⟨kc, hkc⟩ : ∃ kc, kc = n0 % 60 + n1 % 60 := ⟨_, rfl⟩
    have v1 : wrap64 (xa - x1) = near := by rw [w64 (by omega)]; omega
    have v3 : wrap64 (n0 % 60 + n1 % 60) = kc := by rw [w64 (by omega)]; exact hkc.symm
    have v2 : wrap64 (-near) = far := by rw [w64 (by omega)]; exact hfar.symm
    have z1 : decide (0 ≤ far) = true := decide_eq_true (by omega)
    have z2 : decide (far ≤ n0 % 60) = true := decide_eq_true (by omega)
    rw [← hkc] at Hm3
    clear hkc hnear hfar
    clear ho0 ho1 hs0 hs1
    generalize n0 % 60 = ka at *
    generalize n1 % 60 = kb at *
    clear hok hat at2 b0 e2 f1 f2 f3 f4 f5 x2 x3 y2 y3 u1 u1' u2 u2' u3 u3'
    go_wp2_with (first | (go_at_call 17; (with_reducible refine (Hm1.out _).mono ?_); rintro e w' ⟨rfl, h1, d1, rfl⟩) | (go_at_call 17; (with_reducible refine (Hm2.out _).mono ?_); rintro e w' ⟨rfl, h2, d2, rfl⟩) | (go_at_call 17; (with_reducible refine (Hm3.out _).mono ?_); rintro e w' ⟨rfl, h3, d3, rfl⟩))
    go_returns
    exact ⟨rfl, (by repeat' (first | (with_reducible exact hG) | (with_reducible refine Grows.setCell ?_ hn2 _) | (with_reducible exact Grows.refl _) | (with_reducible refine Grows.alloc ?_ _) | (with_reducible refine Grows.drew ?_) | (with_reducible refine Grows.ext ?_ _ _)))⟩
  · go_wp2
    refine wp_region_grow (by kernel_rfl) (by kernel_rfl) ?_
    repeat (first | go_big_quiet_step ((fail)) | quiet_step ((fail)))
    refine wpQuiet_nil ?_
    rintro _ ⟨g83, rfl⟩
    have e1 := mv_add (k := 1) (m := n0 % 60) (n := n1 % 60) hok hat (by omega) (by omega) (by omega)
    have e2 := (mv_far (m := n0 % 60) hok hat (by omega)).2.1
    have e3 := (mv_same (r := r1) (c := c1) (t := t1) (b := b1) (x := x1) (y := y1) (k := 1) (m := n0 % 60)).1 (by simp)
    have e4 := (mv_same (r := r1) (c := c1) (t := t1) (b := b1) (x := x1) (y := y1) (k := 1) (m := n0 % 60 + n1 % 60)).1 (by simp)
    rw [e3] at e1
    rw [e4] at e1
    obtain ⟨e5, e6, at2⟩ := e1
    have gm1 := fun W => move_any r1 c1 t1 b1 x1 y1 1 (n0 % 60) od g1 W
    have gm2 := fun W => move_any r1 c1 t1 b1 (mvRow r1 c1 t1 b1 x1 1 (n0 % 60)) y1 1 (n1 % 60) od false W
    have gm3 := fun W => move_any r1 c1 t1 b1 x1 y1 1 (n0 % 60 + n1 % 60) od g1 W
    simp only [hok, hat, at2, show mOk 1 (n0 % 60) = true by rw [mOk_iff]; omega, show mOk 1 (n1 % 60) = true by rw [mOk_iff]; omega, show mOk 1 (n0 % 60 + n1 % 60) = true by rw [mOk_iff]; omega, Bool.and_true, sel_true, mErr_ok, e3, e4, e5, e6] at gm1 gm2 gm3
    generalize mvRow r1 c1 t1 b1 x1 1 (n0 % 60 + n1 % 60) = xz at *
    generalize mvRow r1 c1 t1 b1 x1 1 (n0 % 60) = xa at *
    have b0 := atB_iff.1 at2
    have Hm1 := Lib.hid gm1
    have Hm2 := Lib.hid gm2
    have Hm3 := Lib.hid gm3
    clear gm1 gm2 gm3 e3 e4 e5 e6
    obtain ⟨near, hnear⟩ : ∃ near, near = xa - x1 := ⟨_, rfl⟩
    obtain ⟨far, hfar⟩ : ∃ far, far = near := ⟨_, rfl⟩
    obtain ⟨kc, hkc⟩ : ∃ kc, kc = n0 % 60 + n1 % 60 := ⟨_, rfl⟩
    have v1 : wrap64 (xa - x1) = far := by rw [w64 (by omega)]; omega
    have v3 : wrap64 (n0 % 60 + n1 % 60) = kc := by rw [w64 (by omega)]; exact hkc.symm
    have z1 : decide (0 ≤ far) = true := decide_eq_true (by omega)
    have z2 : decide (far ≤ n0 % 60) = true := decide_eq_true (by omega)
    rw [← hkc] at Hm3
    clear hkc hnear hfar
    clear ho0 ho1 hs0 hs1
    generalize n0 % 60 = ka at *
    generalize n1 % 60 = kb at *
    clear hok hat at2 b0 e2 f1 f2 f3 f4 f5 x2 x3 y2 y3 u1 u1' u2 u2' u3 u3'
    go_wp2_with (first | (go_at_call 17; (with_reducible refine (Hm1.out _).mono ?_); rintro e w' ⟨rfl, h1, d1, rfl⟩) | (go_at_call 17; (with_reducible refine (Hm2.out _).mono ?_); rintro e w' ⟨rfl, h2, d2, rfl⟩) | (go_at_call 17; (with_reducible refine (Hm3.out _).mono ?_); rintro e w' ⟨rfl, h3, d3, rfl⟩))
    go_returns
    exact ⟨rfl, (by repeat' (first | (with_reducible exact hG) | (with_reducible refine Grows.setCell ?_ hn2 _) | (with_reducible exact Grows.refl _) | (with_reducible refine Grows.alloc ?_ _) | (with_reducible refine Grows.drew ?_) | (with_reducible refine Grows.ext ?_ _ _)))⟩
  · go_wp2
    refine wp_region_grow (by kernel_rfl) (by kernel_rfl) ?_
    repeat (first | go_big_quiet_step ((fail)) | quiet_step ((fail)))
    refine wpQuiet_nil ?_
    rintro _ ⟨g84, rfl⟩
    have e1 := mv_add (k := 2) (m := n0 % 60) (n := n1 % 60) hok hat (by omega) (by omega) (by omega)
    have e2 := (mv_far (m := n0 % 60) hok hat (by omega)).2.2.1
    have e3 := (mv_same (r := r1) (c := c1) (t := t1) (b := b1) (x := x1) (y := y1) (k := 2) (m := n0 % 60)).2 (by simp)
    have e4 := (mv_same (r := r1) (c := c1) (t := t1) (b := b1) (x := x1) (y := y1) (k := 2) (m := n0 % 60 + n1 % 60)).2 (by simp)
    rw [e3] at e1
    rw [e4] at e1
    obtain ⟨e5, e6, at2⟩ := e1
    have gm1 := fun W => move_any r1 c1 t1 b1 x1 y1 2 (n0 % 60) od g1 W
    have gm2 := fun W => move_any r1 c1 t1 b1 x1 (mvCol r1 c1 y1 2 (n0 % 60)) 2 (n1 % 60) od false W
    have gm3 := fun W => move_any r1 c1 t1 b1 x1 y1 2 (n0 % 60 + n1 % 60) od g1 W
    simp only [hok, hat, at2, show mOk 2 (n0 % 60) = true by rw [mOk_iff]; omega, show mOk 2 (n1 % 60) = true by rw [mOk_iff]; omega, show mOk 2 (n0 % 60 + n1 % 60) = true by rw [mOk_iff]; omega, Bool.and_true, sel_true, mErr_ok, e3, e4, e5, e6] at gm1 gm2 gm3
    generalize mvCol r1 c1 y1 2 (n0 % 60 + n1 % 60) = yz at *
    generalize mvCol r1 c1 y1 2 (n0 % 60) = ya at *
    have b0 := atB_iff.1 at2
    have Hm1 := Lib.hid gm1
    have Hm2 := Lib.hid gm2
    have Hm3 := Lib.hid gm3
    clear gm1 gm2 gm3 e3 e4 e5 e6
    obtain ⟨near, hnear⟩ : ∃ near, near = ya - y1 := ⟨_, rfl⟩
    obtain ⟨far, hfar⟩ : ∃ far, far = near := ⟨_, rfl⟩
    obtain ⟨kc, hkc⟩ : ∃ kc, kc = n0 % 60 + n1 % 60 := ⟨_, rfl⟩
    have v1 : wrap64 (ya - y1) = far := by rw [w64 (by omega)]; omega
    have v3 : wrap64 (n0 % 60 + n1 % 60) = kc := by rw [w64 (by omega)]; exact hkc.symm
    have z1 : decide (0 ≤ far) = true := decide_eq_true (by omega)
    have z2 : decide (far ≤ n0 % 60) = true := decide_eq_true (by omega)
    rw [← hkc] at Hm3
    clear hkc hnear hfar
    clear ho0 ho1 hs0 hs1
    generalize n0 % 60 = ka at *
    generalize n1 % 60 = kb at *
    clear hok hat at2 b0 e2 f1 f2 f3 f4 f5 x2 x3 y2 y3 u1 u1' u2 u2' u3 u3'
    go_wp2_with (first | (go_at_call 17; (with_reducible refine (Hm1.out _).mono ?_); rintro e w' ⟨rfl, h1, d1, rfl⟩) | (go_at_call 17; (with_reducible refine (Hm2.out _).mono ?_); rintro e w' ⟨rfl, h2, d2, rfl⟩) | (go_at_call 17; (with_reducible refine (Hm3.out _).mono ?_); rintro e w' ⟨rfl, h3, d3, rfl⟩))
    refine wp_region_grow (by kernel_rfl) (by kernel_rfl) ?_
    repeat (first | go_big_quiet_step ((fail)) | quiet_step ((fail)))
    refine wpQuiet_nil ?_
    rintro _ ⟨g85, rfl⟩
    go_wp2
    go_returns
    exact ⟨rfl, (by repeat' (first | (with_reducible exact hG) | (with_reducible refine Grows.setCell ?_ hn2 _) | (with_reducible exact Grows.refl _) | (with_reducible refine Grows.alloc ?_ _) | (with_reducible refine Grows.drew ?_) | (with_reducible refine Grows.ext ?_ _ _)))⟩
  · go_wp2
    refine wp_region_grow (by kernel_rfl) (by kernel_rfl) ?_
    repeat (first | go_big_quiet_step ((fail)) | quiet_step ((fail)))
    refine wpQuiet_nil ?_
    rintro _ ⟨g86, rfl⟩
    have e1 := mv_add (k := 3) (m := n0 % 60) (n := n1 % 60) hok hat (by omega) (by omega) (by omega)
    have e2 := (mv_far (m := n0 % 60) hok hat (by omega)).2.2.2
    have e3 := (mv_same (r := r1) (c := c1) (t := t1) (b := b1) (x := x1) (y := y1) (k := 3) (m := n0 % 60)).2 (by simp)
    have e4 := (mv_same (r := r1) (c := c1) (t := t1) (b := b1) (x := x1) (y := y1) (k := 3) (m := n0 % 60 + n1 % 60)).2 (by simp)
    rw [e3] at e1
    rw [e4] at e1
    obtain ⟨e5, e6, at2⟩ := e1
    have gm1 := fun W => move_any r1 c1 t1 b1 x1 y1 3 (n0 % 60) od g1 W
    have gm2 := fun W => move_any r1 c1 t1 b1 x1 (mvCol r1 c1 y1 3 (n0 % 60)) 3 (n1 % 60) od false W
    have gm3 := fun W => move_any r1 c1 t1 b1 x1 y1 3 (n0 % 60 + n1 % 60) od g1 W
    simp only [hok, hat, at2, show mOk 3 (n0 % 60) = true by rw [mOk_iff]; omega, show mOk 3 (n1 % 60) = true by rw [mOk_iff]; omega, show mOk 3 (n0 % 60 + n1 % 60) = true by rw [mOk_iff]; omega, Bool.and_true, sel_true, mErr_ok, e3, e4, e5, e6] at gm1 gm2 gm3
    generalize mvCol r1 c1 y1 3 (n0 % 60 + n1 % 60) = yz at *
    generalize mvCol r1 c1 y1 3 (n0 % 60) = ya at *
    have b0 := atB_iff.1 at2
    have Hm1 := Lib.hid gm1
    have Hm2 := Lib.hid gm2
    have Hm3 := Lib.hid gm3
    clear gm1 gm2 gm3 e3 e4 e5 e6
    obtain ⟨near, hnear⟩ : ∃ near, near = ya - y1 := ⟨_, rfl⟩
    obtain ⟨far, hfar⟩ : ∃ far, far = -near := ⟨_, rfl⟩
    obtain ⟨kc, hkc⟩ : ∃ kc, kc = n0 % 60 + n1 % 60 := ⟨_, rfl⟩
    have v1 : wrap64 (ya - y1) = near := by rw [w64 (by omega)]; omega
    have v3 : wrap64 (n0 % 60 + n1 % 60) = kc := by rw [w64 (by omega)]; exact hkc.symm
    have v2 : wrap64 (-near) = far := by rw [w64 (by omega)]; exact hfar.symm
    have z1 : decide (0 ≤ far) = true := decide_eq_true (by omega)
    have z2 : decide (far ≤ n0 % 60) = true := decide_eq_true (by omega)
    rw [← hkc] at Hm3
    clear hkc hnear hfar
    clear ho0 ho1 hs0 hs1
    generalize n0 % 60 = ka at *
    generalize n1 % 60 = kb at *
    clear hok hat at2 b0 e2 f1 f2 f3 f4 f5 x2 x3 y2 y3 u1 u1' u2 u2' u3 u3'
    go_wp2_with (first | (go_at_call 17; (with_reducible refine (Hm1.out _).mono ?_); rintro e w' ⟨rfl, h1, d1, rfl⟩) | (go_at_call 17; (with_reducible refine (Hm2.out _).mono ?_); rintro e w' ⟨rfl, h2, d2, rfl⟩) | (go_at_call 17; (with_reducible refine (Hm3.out _).mono ?_); rintro e w' ⟨rfl, h3, d3, rfl⟩))
    refine wp_region_grow (by kernel_rfl) (by kernel_rfl) ?_
    repeat (first | go_big_quiet_step ((fail)) | quiet_step ((fail)))
    refine wpQuiet_nil ?_
    rintro _ ⟨g87, rfl⟩
    go_wp2
    go_returns
    exact ⟨rfl, (by repeat' (first | (with_reducible exact hG) | (with_reducible refine Grows.setCell ?_ hn2 _) | (with_reducible exact Grows.refl _) | (with_reducible refine Grows.alloc ?_ _) | (with_reducible refine Grows.drew ?_) | (with_reducible refine Grows.ext ?_ _ _)))⟩
end Go.Proofs.Ytepbknpdhiaepaa
