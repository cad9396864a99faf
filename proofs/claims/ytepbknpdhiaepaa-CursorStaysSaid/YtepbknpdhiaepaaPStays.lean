/-
  CursorStays: for every input the law returns true, and each argument reads afterwards as it read before. No condition.
-/
import Derived.Test.YtepbknpdhiaepaaBase
import Derived.Stop.Joined
import Derived.Test.YtepbknpdhiaepaaW24
import Derived.Test.YtepbknpdhiaepaaW25
import Derived.Test.YtepbknpdhiaepaaOpen
namespace Go.Proofs.Ytepbknpdhiaepaa.cursorStays
open Go.ChangeShapes Go.WideShapes Go.ChangeAt Go.RowKit

set_option maxRecDepth 100000 in
theorem contract (H : Type) (enc : TypeId × Value → H) (W : World) (base : Nat) (args : Array Value) (ds gs : List (DataW H)) (before : List MemPlace)
    (hval : ∀ (j : Nat) t v, Try.f8.params[j]? = some t → args[j]? = some v → Value.okWide Try.prog W .any base t v)
    (hW : DataW.Whole enc Try.prog Try.f8.params.toList Rows.cursorStaysSpec.vars false W args.toList ds gs before) :
    Calls Try.prog 8 args W fun e W' => ∃ v, e = .returned v ∧ Rows.cursorStaysSpec.post enc Try.prog Try.f8 false true false false W args v W' := by
  have hW' := hW
  obtain ⟨p, q, hA0, hV, rfl, hfz, hnd⟩ := hW
  have hA : DataW.TrodAll enc Try.prog W 0 (fun _ => true) true Try.f8.params.toList args.toList ds p := hA0
  rw [Try.params8] at hA hval
  obtain ⟨v0, vs0, d0, ds0, p0, q0, hargs, rfl, rfl, h0, r0⟩ := trodAll_cons hA
  obtain ⟨v1, vs1, d1, ds1, p1, q1, rfl, rfl, rfl, h1, r1⟩ := trodAll_cons r0
  obtain ⟨rfl, rfl, rfl⟩ := trodAll_nil r1
  obtain rfl : args = #[v0, v1] := by cases args; simp_all
  obtain ⟨rfl, rfl⟩ := trodVars_none hV
  obtain ⟨cs0, rfl, hsz0, hrow0⟩ := arg_struct Try.underlying25 (hval 0 25 v0 rfl rfl)
  have hc0 := row_cells (ts := [5, 5, 5, 5, 5, 5, 4, 4]) (by kernel_rfl) (by kernel_rfl) hsz0 hrow0
  obtain ⟨e0_0, e0_1, e0_2, e0_3, e0_4, e0_5, e0_6, e0_7, rfl⟩ := arr8 (hsz0.trans (show Try.prog.cellsOf 25 = 8 by kernel_rfl))
  obtain ⟨u0_0, hu0_0, hk0_0⟩ := hc0 0 e0_0 rfl
  obtain rfl : 5 = u0_0 := Option.some.inj hu0_0
  obtain ⟨rows, rfl, q_rows⟩ := cell_int Try.underlying5 hk0_0
  have w_rows := range_u8 q_rows
  clear q_rows
  obtain ⟨u0_1, hu0_1, hk0_1⟩ := hc0 1 e0_1 rfl
  obtain rfl : 5 = u0_1 := Option.some.inj hu0_1
  obtain ⟨cols, rfl, q_cols⟩ := cell_int Try.underlying5 hk0_1
  have w_cols := range_u8 q_cols
  clear q_cols
  obtain ⟨u0_2, hu0_2, hk0_2⟩ := hc0 2 e0_2 rfl
  obtain rfl : 5 = u0_2 := Option.some.inj hu0_2
  obtain ⟨top, rfl, q_top⟩ := cell_int Try.underlying5 hk0_2
  have w_top := range_u8 q_top
  clear q_top
  obtain ⟨u0_3, hu0_3, hk0_3⟩ := hc0 3 e0_3 rfl
  obtain rfl : 5 = u0_3 := Option.some.inj hu0_3
  obtain ⟨long, rfl, q_long⟩ := cell_int Try.underlying5 hk0_3
  have w_long := range_u8 q_long
  clear q_long
  obtain ⟨u0_4, hu0_4, hk0_4⟩ := hc0 4 e0_4 rfl
  obtain rfl : 5 = u0_4 := Option.some.inj hu0_4
  obtain ⟨row, rfl, q_row⟩ := cell_int Try.underlying5 hk0_4
  have w_row := range_u8 q_row
  clear q_row
  obtain ⟨u0_5, hu0_5, hk0_5⟩ := hc0 5 e0_5 rfl
  obtain rfl : 5 = u0_5 := Option.some.inj hu0_5
  obtain ⟨col, rfl, q_col⟩ := cell_int Try.underlying5 hk0_5
  have w_col := range_u8 q_col
  clear q_col
  obtain ⟨u0_6, hu0_6, hk0_6⟩ := hc0 6 e0_6 rfl
  obtain rfl : 4 = u0_6 := Option.some.inj hu0_6
  obtain ⟨od, rfl⟩ := cell_bool Try.underlying4 hk0_6
  obtain ⟨u0_7, hu0_7, hk0_7⟩ := hc0 7 e0_7 rfl
  obtain rfl : 4 = u0_7 := Option.some.inj hu0_7
  obtain ⟨wd, rfl⟩ := cell_bool Try.underlying4 hk0_7
  rcases open_step4 (P := Try.prog) Try.underlying65 Try.underlying69 (by kernel_rfl) (by kernel_rfl) Try.underlying5 Try.underlying5 Try.underlying3 Try.underlying3 (hval 1 65 v1 rfl rfl) h1 with ⟨l_o, l_cap, rfl⟩ | ⟨l_bl, l_off, l_len, l_cap, l_0, l_1, l_2, l_3, rfl, l_pos, l_max, l_lt, l_r0, l_r1, l_r2, l_r3, l_c0, l_c1, l_c2, l_c3⟩
  · refine (lawStays_nil rows cols top long row col od wd w_rows w_cols w_top w_long w_row w_col l_o l_cap W).mono fun e W' ⟨he, g⟩ => ?_
    exact ⟨.bool true, he, law_post (T := 4) hW' laidOut (by kernel_rfl) rfl rfl rfl rfl rfl Try.underlying4 g⟩
  refine (lawStays_true rows cols top long row col od wd w_rows w_cols w_top w_long w_row w_col l_bl l_off l_len l_cap l_0 l_1 l_2 l_3 W l_max l_lt (fun i hi => range_u8 (l_r0 i hi)) (fun i hi => range_u8 (l_r1 i hi)) l_c0 l_c1 l_c2 l_c3).mono fun e W' ⟨he, g⟩ => ?_
  exact ⟨.bool true, he, law_post (T := 4) hW' laidOut (by kernel_rfl) rfl rfl rfl rfl rfl Try.underlying4 g⟩

theorem laid_met (os : Os) : laidMet Try.prog Rows.cursorStaysRow.laid ((World.holding Try.prog os ⟨#[], #[], []⟩).forCall (fun _ _ => 0) ⟨#[], #[.agg #[.int .u8 0, .int .u8 0, .int .u8 0, .int .u8 0, .int .u8 0, .int .u8 0, .bool false, .bool false], .slice none 0 0], []⟩).memory :=
  laidMet_nil _ _
theorem reads (os : Os) {H : Type} (enc : TypeId × Value → H) : ∃ places, DataW.whole enc Try.prog ((World.holding Try.prog os ⟨#[], #[], []⟩).forCall (fun _ _ => 0) ⟨#[], #[.agg #[.int .u8 0, .int .u8 0, .int .u8 0, .int .u8 0, .int .u8 0, .int .u8 0, .bool false, .bool false], .slice none 0 0], []⟩).memory Try.f8.params.toList Rows.cursorStaysSpec.vars false (#[.agg #[.int .u8 0, .int .u8 0, .int .u8 0, .int .u8 0, .int .u8 0, .int .u8 0, .bool false, .bool false], .slice none 0 0] : Array Value).toList 8 = some ([.agg [.lit (.int .u8 0), .lit (.int .u8 0), .lit (.int .u8 0), .lit (.int .u8 0), .lit (.int .u8 0), .lit (.int .u8 0), .lit (.bool false), .lit (.bool false)], .nil], [], places) :=
  ⟨[], by kernel_rfl⟩

set_option maxRecDepth 100000 in
theorem lifted (os : Os) (started : os.Started) (H : Type) (enc : TypeId × Value → H) (F : Stop.Interp) :
    ReturnsInHanded {} Try.checked os 8 .any ((OpenSpec.ofChange Rows.cursorStaysSpec).preRow enc Try.prog Try.f8 Rows.cursorStaysRow.domain false Rows.cursorStaysRow.laid) (((OpenSpec.ofChange Rows.cursorStaysSpec).at F).post enc Try.prog Try.f8 false true false false) := by
  obtain ⟨places, hx⟩ := reads os enc
  refine returnsInHanded_of_row (C := Try.checked) (s := OpenSpec.ofChange Rows.cursorStaysSpec) own started (by kernel_rfl) Try.func8
    (witness_row_at (enc := enc) (C := Try.checked) false (World.holding Try.prog os ⟨#[], #[], []⟩) #[.agg #[.int .u8 0, .int .u8 0, .int .u8 0, .int .u8 0, .int .u8 0, .int .u8 0, .bool false, .bool false], .slice none 0 0] rfl (by kernel_rfl) (by kernel_rfl) (by kernel_rfl)
      (OpenSpec.preRow_of_cond 8 hx (by kernel_rfl) (fun k hk => by cases hk) (by kernel_rfl) (laid_met os))) ?_
  intro W base args ds gs before hval hW _ _ _ _ _ _
  exact contract H enc W base args ds gs before hval hW

theorem said : Rows.CursorStaysSaid :=
  OpenClaim.holds_of_cond 8 Try.f8 rfl rfl rfl rfl rfl rfl rfl ⟨rfl, rfl, rfl, rfl, rfl⟩ rfl rfl rfl rfl rfl (by kernel_rfl) Try.func8 (by kernel_rfl)
    (of_decide_eq_true (by kernel_rfl)) (by unfold Func.isWrapper; first | (rw [if_pos (by decide +kernel)]; kernel_rfl) | (rw [if_neg (by decide +kernel)]; exact ⟨rfl, rfl⟩))
    (fun os started H enc _ F => by rw [OpenClaim.pre_eq_preRow]; exact lifted os started H enc F)
#print axioms said
end Go.Proofs.Ytepbknpdhiaepaa.cursorStays
