/-
  StyleTurns: for every input the law returns true, and each argument reads afterwards as it read before. No condition.
-/
import Derived.Test.YtafokiobbceibaaBase
import Derived.Stop.Joined
import Derived.Test.YtafokiobbceibaaW13
namespace Go.Proofs.Ytafokiobbceibaa.styleTurns
open Go.ChangeShapes Go.WideShapes Go.ChangeAt Go.RowKit

set_option maxRecDepth 100000 in
theorem contract (H : Type) (enc : TypeId × Value → H) (W : World) (base : Nat) (args : Array Value) (ds gs : List (DataW H)) (before : List MemPlace)
    (hval : ∀ (j : Nat) t v, Try.f9.params[j]? = some t → args[j]? = some v → Value.okWide Try.prog W .any base t v)
    (hW : DataW.Whole enc Try.prog Try.f9.params.toList Rows.styleTurnsSpec.vars false W args.toList ds gs before) :
    Calls Try.prog 9 args W fun e W' => ∃ v, e = .returned v ∧ Rows.styleTurnsSpec.post enc Try.prog Try.f9 false true false false W args v W' := by
  have hW' := hW
  obtain ⟨p, q, hA0, hV, rfl, hfz, hnd⟩ := hW
  have hA : DataW.TrodAll enc Try.prog W 0 (fun _ => true) true Try.f9.params.toList args.toList ds p := hA0
  rw [Try.params9] at hA hval
  obtain ⟨v0, vs0, d0, ds0, p0, q0, hargs, rfl, rfl, h0, r0⟩ := trodAll_cons hA
  obtain ⟨rfl, rfl, rfl⟩ := trodAll_nil r0
  obtain rfl : args = #[v0] := by cases args; simp_all
  obtain ⟨rfl, rfl⟩ := trodVars_none hV
  obtain ⟨cs0, rfl, hsz0, hrow0⟩ := arg_struct Try.underlying25 (hval 0 25 v0 rfl rfl)
  have hc0 := row_cells (ts := [3, 3, 3, 3, 3, 3, 3, 3]) (by kernel_rfl) (by kernel_rfl) hsz0 hrow0
  obtain ⟨e0_0, e0_1, e0_2, e0_3, e0_4, e0_5, e0_6, e0_7, rfl⟩ := arr8 (hsz0.trans (show Try.prog.cellsOf 25 = 8 by kernel_rfl))
  obtain ⟨u0_0, hu0_0, hk0_0⟩ := hc0 0 e0_0 rfl
  obtain rfl : 3 = u0_0 := Option.some.inj hu0_0
  obtain ⟨a, rfl, q_a⟩ := cell_int Try.underlying3 hk0_0
  have w_a := range_i64 q_a
  clear q_a
  obtain ⟨u0_1, hu0_1, hk0_1⟩ := hc0 1 e0_1 rfl
  obtain rfl : 3 = u0_1 := Option.some.inj hu0_1
  obtain ⟨u, rfl, q_u⟩ := cell_int Try.underlying3 hk0_1
  have w_u := range_i64 q_u
  clear q_u
  obtain ⟨u0_2, hu0_2, hk0_2⟩ := hc0 2 e0_2 rfl
  obtain rfl : 3 = u0_2 := Option.some.inj hu0_2
  obtain ⟨fk, rfl, q_fk⟩ := cell_int Try.underlying3 hk0_2
  have w_fk := range_i64 q_fk
  clear q_fk
  obtain ⟨u0_3, hu0_3, hk0_3⟩ := hc0 3 e0_3 rfl
  obtain rfl : 3 = u0_3 := Option.some.inj hu0_3
  obtain ⟨fn, rfl, q_fn⟩ := cell_int Try.underlying3 hk0_3
  have w_fn := range_i64 q_fn
  clear q_fn
  obtain ⟨u0_4, hu0_4, hk0_4⟩ := hc0 4 e0_4 rfl
  obtain rfl : 3 = u0_4 := Option.some.inj hu0_4
  obtain ⟨bk, rfl, q_bk⟩ := cell_int Try.underlying3 hk0_4
  have w_bk := range_i64 q_bk
  clear q_bk
  obtain ⟨u0_5, hu0_5, hk0_5⟩ := hc0 5 e0_5 rfl
  obtain rfl : 3 = u0_5 := Option.some.inj hu0_5
  obtain ⟨bn, rfl, q_bn⟩ := cell_int Try.underlying3 hk0_5
  have w_bn := range_i64 q_bn
  clear q_bn
  obtain ⟨u0_6, hu0_6, hk0_6⟩ := hc0 6 e0_6 rfl
  obtain rfl : 3 = u0_6 := Option.some.inj hu0_6
  obtain ⟨lk, rfl, q_lk⟩ := cell_int Try.underlying3 hk0_6
  have w_lk := range_i64 q_lk
  clear q_lk
  obtain ⟨u0_7, hu0_7, hk0_7⟩ := hc0 7 e0_7 rfl
  obtain rfl : 3 = u0_7 := Option.some.inj hu0_7
  obtain ⟨ln, rfl, q_ln⟩ := cell_int Try.underlying3 hk0_7
  have w_ln := range_i64 q_ln
  clear q_ln
  refine (lawTurns_true a u fk fn bk bn lk ln (by unfold In64; omega) W).mono fun e W' ⟨he, g⟩ => ?_
  exact ⟨.bool true, he, law_post (T := 4) hW' laidOut (by kernel_rfl) rfl rfl rfl rfl rfl Try.underlying4 g⟩

theorem laid_met (os : Os) : laidMet Try.prog Rows.styleTurnsRow.laid ((World.holding Try.prog os ⟨#[], #[], []⟩).forCall (fun _ _ => 0) ⟨#[], #[.agg #[.int .i64 0, .int .i64 0, .int .i64 0, .int .i64 0, .int .i64 0, .int .i64 0, .int .i64 0, .int .i64 0]], []⟩).memory :=
  laidMet_nil _ _
theorem reads (os : Os) {H : Type} (enc : TypeId × Value → H) : ∃ places, DataW.whole enc Try.prog ((World.holding Try.prog os ⟨#[], #[], []⟩).forCall (fun _ _ => 0) ⟨#[], #[.agg #[.int .i64 0, .int .i64 0, .int .i64 0, .int .i64 0, .int .i64 0, .int .i64 0, .int .i64 0, .int .i64 0]], []⟩).memory Try.f9.params.toList Rows.styleTurnsSpec.vars false (#[.agg #[.int .i64 0, .int .i64 0, .int .i64 0, .int .i64 0, .int .i64 0, .int .i64 0, .int .i64 0, .int .i64 0]] : Array Value).toList 8 = some ([.agg [.lit (.int .i64 0), .lit (.int .i64 0), .agg [.lit (.int .i64 0), .lit (.int .i64 0)], .agg [.lit (.int .i64 0), .lit (.int .i64 0)], .agg [.lit (.int .i64 0), .lit (.int .i64 0)]]], [], places) :=
  ⟨[], by kernel_rfl⟩

set_option maxRecDepth 100000 in
theorem lifted (os : Os) (started : os.Started) (H : Type) (enc : TypeId × Value → H) (F : Stop.Interp) :
    ReturnsInHanded {} Try.checked os 9 .any ((OpenSpec.ofChange Rows.styleTurnsSpec).preRow enc Try.prog Try.f9 Rows.styleTurnsRow.domain false Rows.styleTurnsRow.laid) (((OpenSpec.ofChange Rows.styleTurnsSpec).at F).post enc Try.prog Try.f9 false true false false) := by
  obtain ⟨places, hx⟩ := reads os enc
  refine returnsInHanded_of_row (C := Try.checked) (s := OpenSpec.ofChange Rows.styleTurnsSpec) own started (by kernel_rfl) Try.func9
    (witness_row_at (enc := enc) (C := Try.checked) false (World.holding Try.prog os ⟨#[], #[], []⟩) #[.agg #[.int .i64 0, .int .i64 0, .int .i64 0, .int .i64 0, .int .i64 0, .int .i64 0, .int .i64 0, .int .i64 0]] rfl (by kernel_rfl) (by kernel_rfl) (by kernel_rfl)
      (OpenSpec.preRow_of_cond 8 hx (by kernel_rfl) (fun k hk => by cases hk) (by kernel_rfl) (laid_met os))) ?_
  intro W base args ds gs before hval hW _ _ _ _ _ _
  exact contract H enc W base args ds gs before hval hW

theorem said : Rows.StyleTurnsSaid :=
  OpenClaim.holds_of_cond 9 Try.f9 rfl rfl rfl rfl rfl rfl rfl ⟨rfl, rfl, rfl, rfl, rfl⟩ rfl rfl rfl rfl rfl (by kernel_rfl) Try.func9 (by kernel_rfl)
    (of_decide_eq_true (by kernel_rfl)) (by unfold Func.isWrapper; first | (rw [if_pos (by decide +kernel)]; kernel_rfl) | (rw [if_neg (by decide +kernel)]; exact ⟨rfl, rfl⟩))
    (fun os started H enc _ F => by rw [OpenClaim.pre_eq_preRow]; exact lifted os started H enc F)
#print axioms said
end Go.Proofs.Ytafokiobbceibaa.styleTurns
