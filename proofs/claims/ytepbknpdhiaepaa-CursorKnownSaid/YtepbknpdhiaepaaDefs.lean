/-
  Plain definitions for the seat of layer 17 (cursor), no program in sight.
-/
import Derived.Test.YtepbknpdhiaepaaExt
namespace Go.Proofs.Ytepbknpdhiaepaa
/-- A field is valid. -/
def okF (r c t b : Int) : Bool := decide (1 ≤ r ∧ r ≤ 40 ∧ 2 ≤ c ∧ c ≤ 80 ∧ ((t = 0 ∧ b = r - 1) ∨ (0 ≤ t ∧ t < b ∧ b < r)))
def fErr (x : Bool) : Int := if x then 0 else 270
@[simp] theorem fErr_true : fErr true = 0 := rfl
@[simp] theorem fErr_false : fErr false = 270 := rfl
theorem okF_iff {r c t b : Int} : okF r c t b = true ↔ 1 ≤ r ∧ r ≤ 40 ∧ 2 ≤ c ∧ c ≤ 80 ∧ ((t = 0 ∧ b = r - 1) ∨ (0 ≤ t ∧ t < b ∧ b < r)) := by simp [okF]
/-- The nearest number from one to another one: as the program has it, as the reference has it. -/
def cl (n lo hi : Int) : Int := max lo (min n hi)
def rcl (n lo hi : Int) : Int := if n < lo then lo else if hi < n then hi else n
theorem cl_rcl {n lo hi : Int} (h : lo ≤ hi) : cl n lo hi = rcl n lo hi := by
  unfold cl rcl
  split
  · omega
  · split <;> omega
def In64 (n : Int) : Prop := -9223372036854775808 ≤ n ∧ n < 9223372036854775808
def sel (c : Bool) (x : Int) : Int := if c then x else 0
def mgN (n : Int) : Int := if n = 0 then 1 else n
def mgM (r m : Int) : Int := if m = 0 ∨ r < m then r else m
def mgB (r n m : Int) : Bool := decide (1 ≤ mgN n ∧ mgN n < mgM r m)
theorem ret_iib {a b a' b' : Int} {x x' : Bool} (ha : a = a') (hb : b = b') (hx : x = x') : Ending.returned (.tuple #[.int .i64 a, .int .i64 b, .bool x]) = .returned (.tuple #[.int .i64 a', .int .i64 b', .bool x']) := by rw [ha, hb, hx]
theorem mgB_true {r n m : Int} (h : 1 ≤ mgN n ∧ mgN n < mgM r m) : mgB r n m = true := decide_eq_true h
theorem mgB_false {r n m : Int} (h : ¬ (1 ≤ mgN n ∧ mgN n < mgM r m)) : mgB r n m = false := decide_eq_false h
/-- A cursor is valid in a valid field. -/
def atB (r c x y : Int) (wr : Bool) : Bool := decide (0 ≤ x ∧ x < r ∧ 0 ≤ y ∧ y < c) && (!wr || y == c - 1)
def cErr (ok is : Bool) : Int := if ok then (if is then 0 else 271) else 270
@[simp] theorem cErr_true : cErr true true = 0 := rfl
@[simp] theorem cErr_at : cErr true false = 271 := rfl
@[simp] theorem cErr_false (x : Bool) : cErr false x = 270 := rfl
theorem cl_in {x r : Int} (h : 0 ≤ x ∧ x < r) : (x != cl x 0 (r - 1)) = false := by
  have : x = cl x 0 (r - 1) := by unfold cl; omega
  simp [← this]
theorem cl_out {x r : Int} (h1 : 1 ≤ r) (h : ¬ (0 ≤ x ∧ x < r)) : (x != cl x 0 (r - 1)) = true := by
  rw [bne_iff_ne]
  unfold cl
  omega
theorem cl_bd (n lo hi : Int) (h : lo ≤ hi) : lo ≤ cl n lo hi ∧ cl n lo hi ≤ hi := by unfold cl; omega
/-- Where Goto leads. -/
def gRow (r t b n : Int) (o : Bool) : Int := if o then cl (cl n 1 r - 1 + t) t b else cl (cl n 1 r - 1 + 0) 0 (r - 1)
def gCol (c m : Int) : Int := cl m 1 c - 1
/-- A field lies in a block; a number; a cursor that may be written. -/
def FldAt (w : World) (B : Nat) (r c t b : Int) (o : Bool) : Prop := B < w.heap.size ∧ w.cell? ⟨B, 0, none⟩ = some (.int .i64 r) ∧ w.cell? ⟨B, 1, none⟩ = some (.int .i64 c) ∧ w.cell? ⟨B, 2, none⟩ = some (.int .i64 t) ∧ w.cell? ⟨B, 3, none⟩ = some (.int .i64 b) ∧ w.cell? ⟨B, 4, none⟩ = some (.bool o)
def IntAt (w : World) (B : Nat) (n : Int) : Prop := B < w.heap.size ∧ w.cell? ⟨B, 0, none⟩ = some (.int .i64 n)
def CurAt (w : World) (B : Nat) (x y : Int) (wr : Bool) : Prop := B < w.heap.size ∧ w.cell? ⟨B, 0, none⟩ = some (.int .i64 x) ∧ w.cell? ⟨B, 1, none⟩ = some (.int .i64 y) ∧ w.cell? ⟨B, 2, none⟩ = some (.bool wr) ∧ w.frozen? ⟨B, 0, none⟩ = false ∧ w.frozen? ⟨B, 1, none⟩ = false ∧ w.frozen? ⟨B, 2, none⟩ = false
def FlagAt (w : World) (B : Nat) (g : Bool) : Prop := B < w.heap.size ∧ w.cell? ⟨B, 0, none⟩ = some (.bool g) ∧ w.frozen? ⟨B, 0, none⟩ = false
theorem FldAt.grows {w w' : World} {B : Nat} {r c t b : Int} {o : Bool} (h : FldAt w B r c t b o) (g : Grows w w') : FldAt w' B r c t b o := by
  obtain ⟨x, d, rfl⟩ := g
  obtain ⟨h0, h1, h2, h3, h4, h5⟩ := h
  exact ⟨by rw [ext_size]; omega, by rw [ext_cell _ _ _ _ _ h0]; exact h1, by rw [ext_cell _ _ _ _ _ h0]; exact h2, by rw [ext_cell _ _ _ _ _ h0]; exact h3, by rw [ext_cell _ _ _ _ _ h0]; exact h4, by rw [ext_cell _ _ _ _ _ h0]; exact h5⟩
theorem IntAt.grows {w w' : World} {B : Nat} {n : Int} (h : IntAt w B n) (g : Grows w w') : IntAt w' B n := by
  obtain ⟨x, d, rfl⟩ := g
  obtain ⟨h0, h1⟩ := h
  exact ⟨by rw [ext_size]; omega, by rw [ext_cell _ _ _ _ _ h0]; exact h1⟩
theorem Grows.setIn {w w' : World} (g : Grows w w') {n i : Nat} (hn : n < w.heap.size) (v : Value) : Grows (w.setCell ⟨n, i, none⟩ v) (w'.setCell ⟨n, i, none⟩ v) := by
  obtain ⟨h, d, rfl⟩ := g
  exact ⟨h, d, ext_setCell _ _ _ _ _ _ hn⟩
@[simp] theorem sel_true (x : Int) : sel true x = x := rfl
@[simp] theorem sel_false (x : Int) : sel false x = 0 := rfl
/-- Where a line leads: over the edge it stays. -/
def lnRow (r x edge by' : Int) : Int := if (x == edge) = true then x else cl (x + by') 0 (r - 1)
theorem atB_iff {r c x y : Int} {wr : Bool} : atB r c x y wr = true ↔ 0 ≤ x ∧ x < r ∧ 0 ≤ y ∧ y < c ∧ (wr = true → y = c - 1) := by
  cases wr <;> simp [atB] <;> omega
def upRow (t x n : Int) : Int := max (if decide (t ≤ x) = true then t else 0) (x - n)
def downRow (r b x n : Int) : Int := min (if decide (x ≤ b) = true then b else r - 1) (x + n)
theorem grows_val {w w' : World} {a : Addr} {k : IntKind} {p q : Int} (h : p = q) (g : Grows (w.setCell a (.int k q)) w') : Grows (w.setCell a (.int k p)) w' := h ▸ g
def mOk (way n : Int) : Bool := decide (0 ≤ way ∧ way ≤ 3 ∧ 0 ≤ n)
def mErr (ok is m : Bool) : Int := if ok then (if is then (if m then 0 else 2) else 271) else 270
def mvRow (r c t b x way n : Int) : Int := if way = 0 then upRow t x (min n (r + c)) else if way = 1 then downRow r b x (min n (r + c)) else x
def mvCol (r c y way n : Int) : Int := if way = 2 then cl (y + min n (r + c)) 0 (c - 1) else if way = 3 then cl (y - min n (r + c)) 0 (c - 1) else y
/-- The ways of Move lie in a block. -/
def WaysAt (w : World) (B Bf : Nat) (r c t b : Int) (o : Bool) : Prop := B < w.heap.size ∧
  w.cell? ⟨B, 0, none⟩ = some (.func (.func 47) #[.agg #[.int .i64 r, .int .i64 c, .int .i64 t, .int .i64 b, .bool o]] #[]) ∧ w.cell? ⟨B, 1, none⟩ = some (.func (.func 48) #[.agg #[.int .i64 r, .int .i64 c, .int .i64 t, .int .i64 b, .bool o]] #[]) ∧
  w.cell? ⟨B, 2, none⟩ = some (.func (.func 49) #[] #[.pointer (some ⟨Bf, 0, none⟩)]) ∧ w.cell? ⟨B, 3, none⟩ = some (.func (.func 51) #[] #[.pointer (some ⟨Bf, 0, none⟩)])
theorem WaysAt.grows {w w' : World} {B Bf : Nat} {r c t b : Int} {o : Bool} (h : WaysAt w B Bf r c t b o) (g : Grows w w') : WaysAt w' B Bf r c t b o := by
  obtain ⟨x, d, rfl⟩ := g
  obtain ⟨h0, h1, h2, h3, h4⟩ := h
  exact ⟨by rw [ext_size]; omega, by rw [ext_cell _ _ _ _ _ h0]; exact h1, by rw [ext_cell _ _ _ _ _ h0]; exact h2, by rw [ext_cell _ _ _ _ _ h0]; exact h3, by rw [ext_cell _ _ _ _ _ h0]; exact h4⟩
theorem CurAt.grows {w w' : World} {B : Nat} {x y : Int} {g : Bool} (h : CurAt w B x y g) (gr : Grows w w') : CurAt w' B x y g := by
  obtain ⟨z, d, rfl⟩ := gr
  obtain ⟨h0, h1, h2, h3, h4, h5, h6⟩ := h
  exact ⟨by rw [ext_size]; omega, by rw [ext_cell _ _ _ _ _ h0]; exact h1, by rw [ext_cell _ _ _ _ _ h0]; exact h2, by rw [ext_cell _ _ _ _ _ h0]; exact h3, by rw [ext_frozen _ _ _ _ _ h0]; exact h4, by rw [ext_frozen _ _ _ _ _ h0]; exact h5, by rw [ext_frozen _ _ _ _ _ h0]; exact h6⟩
@[simp] theorem mErr_f (a m : Bool) : mErr false a m = 270 := rfl
@[simp] theorem mErr_a (m : Bool) : mErr true false m = 271 := rfl
@[simp] theorem mErr_ok : mErr true true true = 0 := rfl
@[simp] theorem mErr_arg : mErr true true false = 2 := rfl
theorem mErr_bad {a b m : Bool} (h : (a && b) = false) : mErr a b m = cErr a b := by cases a <;> cases b <;> simp_all [mErr, cErr]
theorem mOk_iff {way n : Int} : mOk way n = true ↔ 0 ≤ way ∧ way ≤ 3 ∧ 0 ≤ n := by simp [mOk]
/-- What the reference returns: for a valid field and cursor. -/
def rMoveRow (r t b x way n : Int) : Int := if way = 0 then upRow t x (rcl n 0 200) else if way = 1 then downRow r b x (rcl n 0 200) else x
def rMoveCol (c y way n : Int) : Int := if way = 0 ∨ way = 1 then y else if way = 2 then min (c - 1) (y + rcl n 0 200) else max 0 (y - rcl n 0 200)
theorem okF_t {r c t b : Int} (h : okF r c t b = true) : 0 ≤ t ∧ t ≤ b ∧ b < r := by
  obtain ⟨f1, f2, f3, f4, f5⟩ := okF_iff.1 h
  omega
theorem rMoveRow_eq {r c t b x y way n : Int} {wr : Bool} (h : okF r c t b = true) (h2 : atB r c x y wr = true) (hm : mOk way n = true) : rMoveRow r t b x way n = mvRow r c t b x way n := by
  obtain ⟨f1, f2, f3, f4, f5⟩ := okF_iff.1 h
  obtain ⟨x0, x1, y0, y1, -⟩ := atB_iff.1 h2
  obtain ⟨m1, m2, m3⟩ := mOk_iff.1 hm
  obtain ⟨t1, t2, t3⟩ := okF_t h
  unfold rMoveRow mvRow upRow downRow rcl
  simp only [decide_eq_true_eq]
  repeat' split
  all_goals omega
theorem rMoveCol_eq {r c t b x y way n : Int} {wr : Bool} (h : okF r c t b = true) (h2 : atB r c x y wr = true) (hm : mOk way n = true) : rMoveCol c y way n = mvCol r c y way n := by
  obtain ⟨f1, f2, f3, f4, f5⟩ := okF_iff.1 h
  obtain ⟨x0, x1, y0, y1, -⟩ := atB_iff.1 h2
  obtain ⟨m1, m2, m3⟩ := mOk_iff.1 hm
  unfold rMoveCol mvCol rcl cl
  repeat' split
  all_goals omega
/-- A draft's field, a draft's cursor. -/
def dR (rows : Int) : Int := 1 + rows % 40
def dC (cols : Int) : Int := 2 + cols % 79
def dX (rows long : Int) : Bool := decide (2 < dR rows) && decide (0 < long % 4)
def dT (rows top long : Int) : Int := if dX rows long = true then top % (dR rows - 1) else 0
def dB (rows top long : Int) : Int := if dX rows long = true then dT rows top long + 1 + long % (dR rows - 1 - dT rows top long) else dR rows - 1
def dRow (rows top long row : Int) : Int := if row % 8 = 1 then dT rows top long else if row % 4 = 3 then dB rows top long else row % dR rows
def dCol (cols col : Int) : Int := if col % 4 = 3 then dC cols - 1 else col % dC cols
def dWr (cols col : Int) (wr : Bool) : Bool := wr && (dCol cols col == dC cols - 1)
theorem dTop_bd {rows top long : Int} (_h1 : 0 ≤ rows) (_h3 : 0 ≤ top) (_h4 : 0 ≤ long) : 0 ≤ dT rows top long ∧ dT rows top long ≤ dB rows top long ∧ dB rows top long < dR rows ∧ (dT rows top long < dB rows top long ∨ (dT rows top long = 0 ∧ dB rows top long = dR rows - 1)) := by
  have hr : 1 ≤ dR rows ∧ dR rows ≤ 40 := by unfold dR; omega
  unfold dB dT
  split
  · rename_i h
    simp only [dX, Bool.and_eq_true, decide_eq_true_eq] at h
    have e1 := Int.emod_nonneg top (show dR rows - 1 ≠ 0 by omega)
    have e2 := Int.emod_lt_of_pos top (show 0 < dR rows - 1 by omega)
    have e3 := Int.emod_nonneg long (show dR rows - 1 - top % (dR rows - 1) ≠ 0 by omega)
    have e4 := Int.emod_lt_of_pos long (show 0 < dR rows - 1 - top % (dR rows - 1) by omega)
    omega
  · omega
theorem dOk {rows cols top long : Int} (h1 : 0 ≤ rows) (_h2 : 0 ≤ cols) (h3 : 0 ≤ top) (h4 : 0 ≤ long) : okF (dR rows) (dC cols) (dT rows top long) (dB rows top long) = true := by
  have hr : 1 ≤ dR rows ∧ dR rows ≤ 40 := by unfold dR; omega
  have hc : 2 ≤ dC cols ∧ dC cols ≤ 80 := by unfold dC; omega
  have := dTop_bd h1 h3 h4
  rw [okF_iff]
  omega
theorem dAt {rows cols top long row col : Int} {wr : Bool} (h1 : 0 ≤ rows) (_h2 : 0 ≤ cols) (h3 : 0 ≤ top) (h4 : 0 ≤ long) : atB (dR rows) (dC cols) (dRow rows top long row) (dCol cols col) (dWr cols col wr) = true := by
  have hr : 1 ≤ dR rows ∧ dR rows ≤ 40 := by unfold dR; omega
  have hc : 2 ≤ dC cols ∧ dC cols ≤ 80 := by unfold dC; omega
  have ht := dTop_bd h1 h3 h4
  have e1 := Int.emod_nonneg row (show dR rows ≠ 0 by omega)
  have e2 := Int.emod_lt_of_pos row (show 0 < dR rows by omega)
  have e3 := Int.emod_nonneg col (show dC cols ≠ 0 by omega)
  have e4 := Int.emod_lt_of_pos col (show 0 < dC cols by omega)
  rw [atB_iff]
  have hx : 0 ≤ dRow rows top long row ∧ dRow rows top long row < dR rows := by
    unfold dRow
    split
    · omega
    · split <;> omega
  have hy : 0 ≤ dCol cols col ∧ dCol cols col < dC cols := by
    unfold dCol
    split <;> omega
  refine ⟨hx.1, hx.2, hy.1, hy.2, fun h => ?_⟩
  simp only [dWr, Bool.and_eq_true, beq_iff_eq] at h
  exact h.2
theorem dX_false {rows long : Int} (h : dX rows long = false) : 1 + rows % 40 ≤ 2 ∨ (2 < 1 + rows % 40 ∧ long % 4 ≤ 0) := by
  unfold dX dR at h
  by_cases p : 2 < 1 + rows % 40
  · by_cases q : 0 < long % 4
    · rw [decide_eq_true p, decide_eq_true q] at h
      cases h
    · omega
  · omega
theorem dX_true {rows long : Int} (h : dX rows long = true) : 2 < 1 + rows % 40 ∧ 0 < long % 4 := by
  unfold dX dR at h
  rw [Bool.and_eq_true] at h
  exact ⟨of_decide_eq_true h.1, of_decide_eq_true h.2⟩
end Go.Proofs.Ytepbknpdhiaepaa
