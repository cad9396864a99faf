/-
  CursorChecks: for every input the law returns true, and each argument reads afterwards as it read before. No condition.
-/
import Derived.Test.YtepbknpdhiaepaaBase
import Derived.Stop.Joined
import Derived.Test.YtepbknpdhiaepaaK7
namespace Go.Proofs.Ytepbknpdhiaepaa.cursorChecks
open Go.ChangeShapes Go.WideShapes Go.ChangeAt Go.RowKit

set_option maxRecDepth 100000 in
theorem contract (H : Type) (enc : TypeId × Value → H) (W : World) (base : Nat) (args : Array Value) (ds gs : List (DataW H)) (before : List MemPlace)
    (hval : ∀ (j : Nat) t v, Try.f9.params[j]? = some t → args[j]? = some v → Value.okWide Try.prog W .any base t v)
    (hW : DataW.Whole enc Try.prog Try.f9.params.toList Rows.cursorChecksSpec.vars false W args.toList ds gs before) :
    Calls Try.prog 9 args W fun e W' => ∃ v, e = .returned v ∧ Rows.cursorChecksSpec.post enc Try.prog Try.f9 false true false false W args v W' := by
  have hW' := hW
  obtain ⟨p, q, hA0, hV, rfl, hfz, hnd⟩ := hW
  have hA : DataW.TrodAll enc Try.prog W 0 (fun _ => true) true Try.f9.params.toList args.toList ds p := hA0
  rw [Try.params9] at hA hval
  obtain ⟨v0, vs0, d0, ds0, p0, q0, hargs, rfl, rfl, h0, r0⟩ := trodAll_cons hA
  obtain ⟨v1, vs1, d1, ds1, p1, q1, rfl, rfl, rfl, h1, r1⟩ := trodAll_cons r0
  obtain ⟨v2, vs2, d2, ds2, p2, q2, rfl, rfl, rfl, h2, r2⟩ := trodAll_cons r1
  obtain ⟨v3, vs3, d3, ds3, p3, q3, rfl, rfl, rfl, h3, r3⟩ := trodAll_cons r2
  obtain ⟨v4, vs4, d4, ds4, p4, q4, rfl, rfl, rfl, h4, r4⟩ := trodAll_cons r3
  obtain ⟨rfl, rfl, rfl⟩ := trodAll_nil r4
  obtain rfl : args = #[v0, v1, v2, v3, v4] := by cases args; simp_all
  obtain ⟨rfl, rfl⟩ := trodVars_none hV
  obtain ⟨cs0, rfl, hsz0, hrow0⟩ := arg_struct Try.underlying23 (hval 0 23 v0 rfl rfl)
  have hc0 := row_cells (ts := [3, 3, 3, 3, 4]) (by kernel_rfl) (by kernel_rfl) hsz0 hrow0
  obtain ⟨e0_0, e0_1, e0_2, e0_3, e0_4, rfl⟩ := arr5 (hsz0.trans (show Try.prog.cellsOf 23 = 5 by kernel_rfl))
  obtain ⟨u0_0, hu0_0, hk0_0⟩ := hc0 0 e0_0 rfl
  obtain rfl : 3 = u0_0 := Option.some.inj hu0_0
  obtain ⟨r, rfl, q_r⟩ := cell_int Try.underlying3 hk0_0
  have w_r := range_i64 q_r
  clear q_r
  obtain ⟨u0_1, hu0_1, hk0_1⟩ := hc0 1 e0_1 rfl
  obtain rfl : 3 = u0_1 := Option.some.inj hu0_1
  obtain ⟨c, rfl, q_c⟩ := cell_int Try.underlying3 hk0_1
  have w_c := range_i64 q_c
  clear q_c
  obtain ⟨u0_2, hu0_2, hk0_2⟩ := hc0 2 e0_2 rfl
  obtain rfl : 3 = u0_2 := Option.some.inj hu0_2
  obtain ⟨t, rfl, q_t⟩ := cell_int Try.underlying3 hk0_2
  have w_t := range_i64 q_t
  clear q_t
  obtain ⟨u0_3, hu0_3, hk0_3⟩ := hc0 3 e0_3 rfl
  obtain rfl : 3 = u0_3 := Option.some.inj hu0_3
  obtain ⟨b, rfl, q_b⟩ := cell_int Try.underlying3 hk0_3
  have w_b := range_i64 q_b
  clear q_b
  obtain ⟨u0_4, hu0_4, hk0_4⟩ := hc0 4 e0_4 rfl
  obtain rfl : 4 = u0_4 := Option.some.inj hu0_4
  obtain ⟨o, rfl⟩ := cell_bool Try.underlying4 hk0_4
  obtain ⟨cs1, rfl, hsz1, hrow1⟩ := arg_struct Try.underlying25 (hval 1 25 v1 rfl rfl)
  have hc1 := row_cells (ts := [5, 5, 5, 5, 5, 5, 4, 4]) (by kernel_rfl) (by kernel_rfl) hsz1 hrow1
  obtain ⟨e1_0, e1_1, e1_2, e1_3, e1_4, e1_5, e1_6, e1_7, rfl⟩ := arr8 (hsz1.trans (show Try.prog.cellsOf 25 = 8 by kernel_rfl))
  obtain ⟨u1_0, hu1_0, hk1_0⟩ := hc1 0 e1_0 rfl
  obtain rfl : 5 = u1_0 := Option.some.inj hu1_0
  obtain ⟨rows, rfl, q_rows⟩ := cell_int Try.underlying5 hk1_0
  have w_rows := range_u8 q_rows
  clear q_rows
  obtain ⟨u1_1, hu1_1, hk1_1⟩ := hc1 1 e1_1 rfl
  obtain rfl : 5 = u1_1 := Option.some.inj hu1_1
  obtain ⟨cols, rfl, q_cols⟩ := cell_int Try.underlying5 hk1_1
  have w_cols := range_u8 q_cols
  clear q_cols
  obtain ⟨u1_2, hu1_2, hk1_2⟩ := hc1 2 e1_2 rfl
  obtain rfl : 5 = u1_2 := Option.some.inj hu1_2
  obtain ⟨top, rfl, q_top⟩ := cell_int Try.underlying5 hk1_2
  have w_top := range_u8 q_top
  clear q_top
  obtain ⟨u1_3, hu1_3, hk1_3⟩ := hc1 3 e1_3 rfl
  obtain rfl : 5 = u1_3 := Option.some.inj hu1_3
  obtain ⟨long, rfl, q_long⟩ := cell_int Try.underlying5 hk1_3
  have w_long := range_u8 q_long
  clear q_long
  obtain ⟨u1_4, hu1_4, hk1_4⟩ := hc1 4 e1_4 rfl
  obtain rfl : 5 = u1_4 := Option.some.inj hu1_4
  obtain ⟨row, rfl, q_row⟩ := cell_int Try.underlying5 hk1_4
  have w_row := range_u8 q_row
  clear q_row
  obtain ⟨u1_5, hu1_5, hk1_5⟩ := hc1 5 e1_5 rfl
  obtain rfl : 5 = u1_5 := Option.some.inj hu1_5
  obtain ⟨col, rfl, q_col⟩ := cell_int Try.underlying5 hk1_5
  have w_col := range_u8 q_col
  clear q_col
  obtain ⟨u1_6, hu1_6, hk1_6⟩ := hc1 6 e1_6 rfl
  obtain rfl : 4 = u1_6 := Option.some.inj hu1_6
  obtain ⟨od, rfl⟩ := cell_bool Try.underlying4 hk1_6
  obtain ⟨u1_7, hu1_7, hk1_7⟩ := hc1 7 e1_7 rfl
  obtain rfl : 4 = u1_7 := Option.some.inj hu1_7
  obtain ⟨wd, rfl⟩ := cell_bool Try.underlying4 hk1_7
  obtain ⟨cs2, rfl, hsz2, hrow2⟩ := arg_struct Try.underlying27 (hval 2 27 v2 rfl rfl)
  have hc2 := row_cells (ts := [3, 3, 4]) (by kernel_rfl) (by kernel_rfl) hsz2 hrow2
  obtain ⟨e2_0, e2_1, e2_2, rfl⟩ := arr3 (hsz2.trans (show Try.prog.cellsOf 27 = 3 by kernel_rfl))
  obtain ⟨u2_0, hu2_0, hk2_0⟩ := hc2 0 e2_0 rfl
  obtain rfl : 3 = u2_0 := Option.some.inj hu2_0
  obtain ⟨x, rfl, q_x⟩ := cell_int Try.underlying3 hk2_0
  have w_x := range_i64 q_x
  clear q_x
  obtain ⟨u2_1, hu2_1, hk2_1⟩ := hc2 1 e2_1 rfl
  obtain rfl : 3 = u2_1 := Option.some.inj hu2_1
  obtain ⟨y, rfl, q_y⟩ := cell_int Try.underlying3 hk2_1
  have w_y := range_i64 q_y
  clear q_y
  obtain ⟨u2_2, hu2_2, hk2_2⟩ := hc2 2 e2_2 rfl
  obtain rfl : 4 = u2_2 := Option.some.inj hu2_2
  obtain ⟨wr, rfl⟩ := cell_bool Try.underlying4 hk2_2
  obtain ⟨cs3, rfl, hsz3, hrow3⟩ := arg_struct Try.underlying80 (hval 3 80 v3 rfl rfl)
  have hc3 := row_cells (ts := [4, 3, 3, 4, 3, 3, 3, 3, 3, 3, 3, 3, 3, 3, 3, 3, 3, 3, 4]) (by kernel_rfl) (by kernel_rfl) hsz3 hrow3
  obtain ⟨e3_0, e3_1, e3_2, e3_3, e3_4, e3_5, e3_6, e3_7, e3_8, e3_9, e3_10, e3_11, e3_12, e3_13, e3_14, e3_15, e3_16, e3_17, e3_18, rfl⟩ := arr19 (hsz3.trans (show Try.prog.cellsOf 80 = 19 by kernel_rfl))
  obtain ⟨u3_0, hu3_0, hk3_0⟩ := hc3 0 e3_0 rfl
  obtain rfl : 4 = u3_0 := Option.some.inj hu3_0
  obtain ⟨is, rfl⟩ := cell_bool Try.underlying4 hk3_0
  obtain ⟨u3_1, hu3_1, hk3_1⟩ := hc3 1 e3_1 rfl
  obtain rfl : 3 = u3_1 := Option.some.inj hu3_1
  obtain ⟨sx, rfl, q_sx⟩ := cell_int Try.underlying3 hk3_1
  have w_sx := range_i64 q_sx
  clear q_sx
  obtain ⟨u3_2, hu3_2, hk3_2⟩ := hc3 2 e3_2 rfl
  obtain rfl : 3 = u3_2 := Option.some.inj hu3_2
  obtain ⟨sy, rfl, q_sy⟩ := cell_int Try.underlying3 hk3_2
  have w_sy := range_i64 q_sy
  clear q_sy
  obtain ⟨u3_3, hu3_3, hk3_3⟩ := hc3 3 e3_3 rfl
  obtain rfl : 4 = u3_3 := Option.some.inj hu3_3
  obtain ⟨sw, rfl⟩ := cell_bool Try.underlying4 hk3_3
  obtain ⟨u3_4, hu3_4, hk3_4⟩ := hc3 4 e3_4 rfl
  obtain rfl : 3 = u3_4 := Option.some.inj hu3_4
  obtain ⟨a, rfl, q_a⟩ := cell_int Try.underlying3 hk3_4
  have w_a := range_i64 q_a
  clear q_a
  obtain ⟨u3_5, hu3_5, hk3_5⟩ := hc3 5 e3_5 rfl
  obtain rfl : 3 = u3_5 := Option.some.inj hu3_5
  obtain ⟨u, rfl, q_u⟩ := cell_int Try.underlying3 hk3_5
  have w_u := range_i64 q_u
  clear q_u
  obtain ⟨u3_6, hu3_6, hk3_6⟩ := hc3 6 e3_6 rfl
  obtain rfl : 3 = u3_6 := Option.some.inj hu3_6
  obtain ⟨fk, rfl, q_fk⟩ := cell_int Try.underlying3 hk3_6
  have w_fk := range_i64 q_fk
  clear q_fk
  obtain ⟨u3_7, hu3_7, hk3_7⟩ := hc3 7 e3_7 rfl
  obtain rfl : 3 = u3_7 := Option.some.inj hu3_7
  obtain ⟨fn, rfl, q_fn⟩ := cell_int Try.underlying3 hk3_7
  have w_fn := range_i64 q_fn
  clear q_fn
  obtain ⟨u3_8, hu3_8, hk3_8⟩ := hc3 8 e3_8 rfl
  obtain rfl : 3 = u3_8 := Option.some.inj hu3_8
  obtain ⟨bk, rfl, q_bk⟩ := cell_int Try.underlying3 hk3_8
  have w_bk := range_i64 q_bk
  clear q_bk
  obtain ⟨u3_9, hu3_9, hk3_9⟩ := hc3 9 e3_9 rfl
  obtain rfl : 3 = u3_9 := Option.some.inj hu3_9
  obtain ⟨bn, rfl, q_bn⟩ := cell_int Try.underlying3 hk3_9
  have w_bn := range_i64 q_bn
  clear q_bn
  obtain ⟨u3_10, hu3_10, hk3_10⟩ := hc3 10 e3_10 rfl
  obtain rfl : 3 = u3_10 := Option.some.inj hu3_10
  obtain ⟨lk, rfl, q_lk⟩ := cell_int Try.underlying3 hk3_10
  have w_lk := range_i64 q_lk
  clear q_lk
  obtain ⟨u3_11, hu3_11, hk3_11⟩ := hc3 11 e3_11 rfl
  obtain rfl : 3 = u3_11 := Option.some.inj hu3_11
  obtain ⟨ln, rfl, q_ln⟩ := cell_int Try.underlying3 hk3_11
  have w_ln := range_i64 q_ln
  clear q_ln
  obtain ⟨u3_12, hu3_12, hk3_12⟩ := hc3 12 e3_12 rfl
  obtain rfl : 3 = u3_12 := Option.some.inj hu3_12
  obtain ⟨g0, rfl, q_g0⟩ := cell_int Try.underlying3 hk3_12
  have w_g0 := range_i64 q_g0
  clear q_g0
  obtain ⟨u3_13, hu3_13, hk3_13⟩ := hc3 13 e3_13 rfl
  obtain rfl : 3 = u3_13 := Option.some.inj hu3_13
  obtain ⟨g1, rfl, q_g1⟩ := cell_int Try.underlying3 hk3_13
  have w_g1 := range_i64 q_g1
  clear q_g1
  obtain ⟨u3_14, hu3_14, hk3_14⟩ := hc3 14 e3_14 rfl
  obtain rfl : 3 = u3_14 := Option.some.inj hu3_14
  obtain ⟨g2, rfl, q_g2⟩ := cell_int Try.underlying3 hk3_14
  have w_g2 := range_i64 q_g2
  clear q_g2
  obtain ⟨u3_15, hu3_15, hk3_15⟩ := hc3 15 e3_15 rfl
  obtain rfl : 3 = u3_15 := Option.some.inj hu3_15
  obtain ⟨g3, rfl, q_g3⟩ := cell_int Try.underlying3 hk3_15
  have w_g3 := range_i64 q_g3
  clear q_g3
  obtain ⟨u3_16, hu3_16, hk3_16⟩ := hc3 16 e3_16 rfl
  obtain rfl : 3 = u3_16 := Option.some.inj hu3_16
  obtain ⟨us, rfl, q_us⟩ := cell_int Try.underlying3 hk3_16
  have w_us := range_i64 q_us
  clear q_us
  obtain ⟨u3_17, hu3_17, hk3_17⟩ := hc3 17 e3_17 rfl
  obtain rfl : 3 = u3_17 := Option.some.inj hu3_17
  obtain ⟨on, rfl, q_on⟩ := cell_int Try.underlying3 hk3_17
  have w_on := range_i64 q_on
  clear q_on
  obtain ⟨u3_18, hu3_18, hk3_18⟩ := hc3 18 e3_18 rfl
  obtain rfl : 4 = u3_18 := Option.some.inj hu3_18
  obtain ⟨og, rfl⟩ := cell_bool Try.underlying4 hk3_18
  obtain ⟨bb, rfl, q_bb⟩ := arg_int Try.underlying5 (hval 4 5 v4 rfl rfl)
  have w_bb := range_u8 q_bb
  clear q_bb
  refine (lawChecks_true r c t b o rows cols top long row col od wd w_rows w_cols w_top w_long w_row w_col x y wr is sx sy sw a u fk fn bk bn lk ln g0 g1 g2 g3 us on og (by unfold In64; omega) (by unfold In64; omega) bb w_bb W).mono fun e W' ⟨he, g⟩ => ?_
  exact ⟨.bool true, he, law_post (T := 4) hW' laidOut (by kernel_rfl) rfl rfl rfl rfl rfl Try.underlying4 g⟩

theorem laid_met (os : Os) : laidMet Try.prog Rows.cursorChecksRow.laid ((World.holding Try.prog os ⟨#[], #[], []⟩).forCall (fun _ _ => 0) ⟨#[], #[.agg #[.int .i64 0, .int .i64 0, .int .i64 0, .int .i64 0, .bool false], .agg #[.int .u8 0, .int .u8 0, .int .u8 0, .int .u8 0, .int .u8 0, .int .u8 0, .bool false, .bool false], .agg #[.int .i64 0, .int .i64 0, .bool false], .agg #[.bool false, .int .i64 0, .int .i64 0, .bool false, .int .i64 0, .int .i64 0, .int .i64 0, .int .i64 0, .int .i64 0, .int .i64 0, .int .i64 0, .int .i64 0, .int .i64 0, .int .i64 0, .int .i64 0, .int .i64 0, .int .i64 0, .int .i64 0, .bool false], .int .u8 0], []⟩).memory :=
  laidMet_nil _ _
theorem reads (os : Os) {H : Type} (enc : TypeId × Value → H) : ∃ places, DataW.whole enc Try.prog ((World.holding Try.prog os ⟨#[], #[], []⟩).forCall (fun _ _ => 0) ⟨#[], #[.agg #[.int .i64 0, .int .i64 0, .int .i64 0, .int .i64 0, .bool false], .agg #[.int .u8 0, .int .u8 0, .int .u8 0, .int .u8 0, .int .u8 0, .int .u8 0, .bool false, .bool false], .agg #[.int .i64 0, .int .i64 0, .bool false], .agg #[.bool false, .int .i64 0, .int .i64 0, .bool false, .int .i64 0, .int .i64 0, .int .i64 0, .int .i64 0, .int .i64 0, .int .i64 0, .int .i64 0, .int .i64 0, .int .i64 0, .int .i64 0, .int .i64 0, .int .i64 0, .int .i64 0, .int .i64 0, .bool false], .int .u8 0], []⟩).memory Try.f9.params.toList Rows.cursorChecksSpec.vars false (#[.agg #[.int .i64 0, .int .i64 0, .int .i64 0, .int .i64 0, .bool false], .agg #[.int .u8 0, .int .u8 0, .int .u8 0, .int .u8 0, .int .u8 0, .int .u8 0, .bool false, .bool false], .agg #[.int .i64 0, .int .i64 0, .bool false], .agg #[.bool false, .int .i64 0, .int .i64 0, .bool false, .int .i64 0, .int .i64 0, .int .i64 0, .int .i64 0, .int .i64 0, .int .i64 0, .int .i64 0, .int .i64 0, .int .i64 0, .int .i64 0, .int .i64 0, .int .i64 0, .int .i64 0, .int .i64 0, .bool false], .int .u8 0] : Array Value).toList 8 = some ([.agg [.lit (.int .i64 0), .lit (.int .i64 0), .lit (.int .i64 0), .lit (.int .i64 0), .lit (.bool false)], .agg [.lit (.int .u8 0), .lit (.int .u8 0), .lit (.int .u8 0), .lit (.int .u8 0), .lit (.int .u8 0), .lit (.int .u8 0), .lit (.bool false), .lit (.bool false)], .agg [.lit (.int .i64 0), .lit (.int .i64 0), .lit (.bool false)], .agg [.lit (.bool false), .agg [.lit (.int .i64 0), .lit (.int .i64 0), .lit (.bool false)], .agg [.lit (.int .i64 0), .lit (.int .i64 0), .agg [.lit (.int .i64 0), .lit (.int .i64 0)], .agg [.lit (.int .i64 0), .lit (.int .i64 0)], .agg [.lit (.int .i64 0), .lit (.int .i64 0)]], .agg [.agg [.lit (.int .i64 0), .lit (.int .i64 0), .lit (.int .i64 0), .lit (.int .i64 0)], .lit (.int .i64 0), .lit (.int .i64 0)], .lit (.bool false)], .lit (.int .u8 0)], [], places) :=
  ⟨[], by kernel_rfl⟩

set_option maxRecDepth 100000 in
theorem lifted (os : Os) (started : os.Started) (H : Type) (enc : TypeId × Value → H) (F : Stop.Interp) :
    ReturnsInHanded {} Try.checked os 9 .any ((OpenSpec.ofChange Rows.cursorChecksSpec).preRow enc Try.prog Try.f9 Rows.cursorChecksRow.domain false Rows.cursorChecksRow.laid) (((OpenSpec.ofChange Rows.cursorChecksSpec).at F).post enc Try.prog Try.f9 false true false false) := by
  obtain ⟨places, hx⟩ := reads os enc
  refine returnsInHanded_of_row (C := Try.checked) (s := OpenSpec.ofChange Rows.cursorChecksSpec) own started (by kernel_rfl) Try.func9
    (witness_row_at (enc := enc) (C := Try.checked) false (World.holding Try.prog os ⟨#[], #[], []⟩) #[.agg #[.int .i64 0, .int .i64 0, .int .i64 0, .int .i64 0, .bool false], .agg #[.int .u8 0, .int .u8 0, .int .u8 0, .int .u8 0, .int .u8 0, .int .u8 0, .bool false, .bool false], .agg #[.int .i64 0, .int .i64 0, .bool false], .agg #[.bool false, .int .i64 0, .int .i64 0, .bool false, .int .i64 0, .int .i64 0, .int .i64 0, .int .i64 0, .int .i64 0, .int .i64 0, .int .i64 0, .int .i64 0, .int .i64 0, .int .i64 0, .int .i64 0, .int .i64 0, .int .i64 0, .int .i64 0, .bool false], .int .u8 0] rfl (by kernel_rfl) (by kernel_rfl) (by kernel_rfl)
      (OpenSpec.preRow_of_cond 8 hx (by kernel_rfl) (fun k hk => by cases hk) (by kernel_rfl) (laid_met os))) ?_
  intro W base args ds gs before hval hW _ _ _ _ _ _
  exact contract H enc W base args ds gs before hval hW

theorem said : Rows.CursorChecksSaid :=
  OpenClaim.holds_of_cond 9 Try.f9 rfl rfl rfl rfl rfl rfl rfl ⟨rfl, rfl, rfl, rfl, rfl⟩ rfl rfl rfl rfl rfl (by kernel_rfl) Try.func9 (by kernel_rfl)
    (of_decide_eq_true (by kernel_rfl)) (by unfold Func.isWrapper; first | (rw [if_pos (by decide +kernel)]; kernel_rfl) | (rw [if_neg (by decide +kernel)]; exact ⟨rfl, rfl⟩))
    (fun os started H enc _ F => by rw [OpenClaim.pre_eq_preRow]; exact lifted os started H enc F)
#print axioms said
end Go.Proofs.Ytepbknpdhiaepaa.cursorChecks
