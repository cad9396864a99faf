/-
  StyleStays: for every input the law returns true, and each argument reads afterwards as it read before. No condition.
-/
import Derived.Test.YtafokiobbceibaaBase
import Derived.Stop.Joined
import Derived.Test.YtafokiobbceibaaW21
namespace Go.Proofs.Ytafokiobbceibaa.styleStays
open Go.ChangeShapes Go.WideShapes Go.ChangeAt Go.RowKit

set_option maxRecDepth 100000 in
theorem contract (H : Type) (enc : TypeId × Value → H) (W : World) (base : Nat) (args : Array Value) (ds gs : List (DataW H)) (before : List MemPlace)
    (hval : ∀ (j : Nat) t v, Try.f5.params[j]? = some t → args[j]? = some v → Value.okWide Try.prog W .any base t v)
    (hW : DataW.Whole enc Try.prog Try.f5.params.toList Rows.styleStaysSpec.vars false W args.toList ds gs before) :
    Calls Try.prog 5 args W fun e W' => ∃ v, e = .returned v ∧ Rows.styleStaysSpec.post enc Try.prog Try.f5 false true false false W args v W' := by
  have hW' := hW
  obtain ⟨p, q, hA0, hV, rfl, hfz, hnd⟩ := hW
  have hA : DataW.TrodAll enc Try.prog W 0 (fun _ => true) true Try.f5.params.toList args.toList ds p := hA0
  rw [Try.params5] at hA hval
  obtain ⟨v0, vs0, d0, ds0, p0, q0, hargs, rfl, rfl, h0, r0⟩ := trodAll_cons hA
  obtain ⟨v1, vs1, d1, ds1, p1, q1, rfl, rfl, rfl, h1, r1⟩ := trodAll_cons r0
  obtain ⟨rfl, rfl, rfl⟩ := trodAll_nil r1
  obtain rfl : args = #[v0, v1] := by cases args; simp_all
  obtain ⟨rfl, rfl⟩ := trodVars_none hV
  obtain ⟨cs0, rfl, hsz0, hrow0⟩ := arg_struct Try.underlying31 (hval 0 31 v0 rfl rfl)
  have hc0 := row_cells (ts := [5, 5, 5, 5, 28, 28, 28, 28]) (by kernel_rfl) (by kernel_rfl) hsz0 hrow0
  obtain ⟨e0_0, e0_1, e0_2, e0_3, e0_4, e0_5, e0_6, e0_7, rfl⟩ := arr8 (hsz0.trans (show Try.prog.cellsOf 31 = 8 by kernel_rfl))
  obtain ⟨u0_0, hu0_0, hk0_0⟩ := hc0 0 e0_0 rfl
  obtain rfl : 5 = u0_0 := Option.some.inj hu0_0
  obtain ⟨dA, rfl, q_dA⟩ := cell_int Try.underlying5 hk0_0
  have w_dA := range_u8 q_dA
  clear q_dA
  obtain ⟨u0_1, hu0_1, hk0_1⟩ := hc0 1 e0_1 rfl
  obtain rfl : 5 = u0_1 := Option.some.inj hu0_1
  obtain ⟨dU, rfl, q_dU⟩ := cell_int Try.underlying5 hk0_1
  have w_dU := range_u8 q_dU
  clear q_dU
  obtain ⟨u0_2, hu0_2, hk0_2⟩ := hc0 2 e0_2 rfl
  obtain rfl : 5 = u0_2 := Option.some.inj hu0_2
  obtain ⟨dW, rfl, q_dW⟩ := cell_int Try.underlying5 hk0_2
  have w_dW := range_u8 q_dW
  clear q_dW
  obtain ⟨u0_3, hu0_3, hk0_3⟩ := hc0 3 e0_3 rfl
  obtain rfl : 5 = u0_3 := Option.some.inj hu0_3
  obtain ⟨dM, rfl, q_dM⟩ := cell_int Try.underlying5 hk0_3
  have w_dM := range_u8 q_dM
  clear q_dM
  obtain ⟨u0_4, hu0_4, hk0_4⟩ := hc0 4 e0_4 rfl
  obtain rfl : 28 = u0_4 := Option.some.inj hu0_4
  obtain ⟨c0, rfl, q_c0⟩ := cell_int Try.underlying28 hk0_4
  have w_c0 := range_u32 q_c0
  clear q_c0
  obtain ⟨u0_5, hu0_5, hk0_5⟩ := hc0 5 e0_5 rfl
  obtain rfl : 28 = u0_5 := Option.some.inj hu0_5
  obtain ⟨c1, rfl, q_c1⟩ := cell_int Try.underlying28 hk0_5
  have w_c1 := range_u32 q_c1
  clear q_c1
  obtain ⟨u0_6, hu0_6, hk0_6⟩ := hc0 6 e0_6 rfl
  obtain rfl : 28 = u0_6 := Option.some.inj hu0_6
  obtain ⟨c2, rfl, q_c2⟩ := cell_int Try.underlying28 hk0_6
  have w_c2 := range_u32 q_c2
  clear q_c2
  obtain ⟨u0_7, hu0_7, hk0_7⟩ := hc0 7 e0_7 rfl
  obtain rfl : 28 = u0_7 := Option.some.inj hu0_7
  obtain ⟨c3, rfl, q_c3⟩ := cell_int Try.underlying28 hk0_7
  have w_c3 := range_u32 q_c3
  clear q_c3
  obtain ⟨cs1, rfl, hsz1, hrow1⟩ := arg_struct Try.underlying31 (hval 1 31 v1 rfl rfl)
  have hc1 := row_cells (ts := [5, 5, 5, 5, 28, 28, 28, 28]) (by kernel_rfl) (by kernel_rfl) hsz1 hrow1
  obtain ⟨e1_0, e1_1, e1_2, e1_3, e1_4, e1_5, e1_6, e1_7, rfl⟩ := arr8 (hsz1.trans (show Try.prog.cellsOf 31 = 8 by kernel_rfl))
  obtain ⟨u1_0, hu1_0, hk1_0⟩ := hc1 0 e1_0 rfl
  obtain rfl : 5 = u1_0 := Option.some.inj hu1_0
  obtain ⟨eA, rfl, q_eA⟩ := cell_int Try.underlying5 hk1_0
  have w_eA := range_u8 q_eA
  clear q_eA
  obtain ⟨u1_1, hu1_1, hk1_1⟩ := hc1 1 e1_1 rfl
  obtain rfl : 5 = u1_1 := Option.some.inj hu1_1
  obtain ⟨eU, rfl, q_eU⟩ := cell_int Try.underlying5 hk1_1
  have w_eU := range_u8 q_eU
  clear q_eU
  obtain ⟨u1_2, hu1_2, hk1_2⟩ := hc1 2 e1_2 rfl
  obtain rfl : 5 = u1_2 := Option.some.inj hu1_2
  obtain ⟨eW, rfl, q_eW⟩ := cell_int Try.underlying5 hk1_2
  have w_eW := range_u8 q_eW
  clear q_eW
  obtain ⟨u1_3, hu1_3, hk1_3⟩ := hc1 3 e1_3 rfl
  obtain rfl : 5 = u1_3 := Option.some.inj hu1_3
  obtain ⟨eM, rfl, q_eM⟩ := cell_int Try.underlying5 hk1_3
  have w_eM := range_u8 q_eM
  clear q_eM
  obtain ⟨u1_4, hu1_4, hk1_4⟩ := hc1 4 e1_4 rfl
  obtain rfl : 28 = u1_4 := Option.some.inj hu1_4
  obtain ⟨e0, rfl, q_e0⟩ := cell_int Try.underlying28 hk1_4
  have w_e0 := range_u32 q_e0
  clear q_e0
  obtain ⟨u1_5, hu1_5, hk1_5⟩ := hc1 5 e1_5 rfl
  obtain rfl : 28 = u1_5 := Option.some.inj hu1_5
  obtain ⟨e1, rfl, q_e1⟩ := cell_int Try.underlying28 hk1_5
  have w_e1 := range_u32 q_e1
  clear q_e1
  obtain ⟨u1_6, hu1_6, hk1_6⟩ := hc1 6 e1_6 rfl
  obtain rfl : 28 = u1_6 := Option.some.inj hu1_6
  obtain ⟨e2, rfl, q_e2⟩ := cell_int Try.underlying28 hk1_6
  have w_e2 := range_u32 q_e2
  clear q_e2
  obtain ⟨u1_7, hu1_7, hk1_7⟩ := hc1 7 e1_7 rfl
  obtain rfl : 28 = u1_7 := Option.some.inj hu1_7
  obtain ⟨e3, rfl, q_e3⟩ := cell_int Try.underlying28 hk1_7
  have w_e3 := range_u32 q_e3
  clear q_e3
  refine (lawStays_true dA dU dW dM c0 c1 c2 c3 eA eU eW eM e0 e1 e2 e3 w_dA w_dU w_dW w_dM w_c0 w_c1 w_c2 w_c3 w_eA w_eU w_eW w_eM w_e0 w_e1 w_e2 w_e3 W).mono fun e W' ⟨he, g⟩ => ?_
  exact ⟨.bool true, he, law_post (T := 4) hW' laidOut (by kernel_rfl) rfl rfl rfl rfl rfl Try.underlying4 g⟩

theorem laid_met (os : Os) : laidMet Try.prog Rows.styleStaysRow.laid ((World.holding Try.prog os ⟨#[], #[], []⟩).forCall (fun _ _ => 0) ⟨#[], #[.agg #[.int .u8 0, .int .u8 0, .int .u8 0, .int .u8 0, .int .u32 0, .int .u32 0, .int .u32 0, .int .u32 0], .agg #[.int .u8 0, .int .u8 0, .int .u8 0, .int .u8 0, .int .u32 0, .int .u32 0, .int .u32 0, .int .u32 0]], []⟩).memory :=
  laidMet_nil _ _
theorem reads (os : Os) {H : Type} (enc : TypeId × Value → H) : ∃ places, DataW.whole enc Try.prog ((World.holding Try.prog os ⟨#[], #[], []⟩).forCall (fun _ _ => 0) ⟨#[], #[.agg #[.int .u8 0, .int .u8 0, .int .u8 0, .int .u8 0, .int .u32 0, .int .u32 0, .int .u32 0, .int .u32 0], .agg #[.int .u8 0, .int .u8 0, .int .u8 0, .int .u8 0, .int .u32 0, .int .u32 0, .int .u32 0, .int .u32 0]], []⟩).memory Try.f5.params.toList Rows.styleStaysSpec.vars false (#[.agg #[.int .u8 0, .int .u8 0, .int .u8 0, .int .u8 0, .int .u32 0, .int .u32 0, .int .u32 0, .int .u32 0], .agg #[.int .u8 0, .int .u8 0, .int .u8 0, .int .u8 0, .int .u32 0, .int .u32 0, .int .u32 0, .int .u32 0]] : Array Value).toList 8 = some ([.agg [.lit (.int .u8 0), .lit (.int .u8 0), .lit (.int .u8 0), .lit (.int .u8 0), .agg [.lit (.int .u32 0), .lit (.int .u32 0), .lit (.int .u32 0), .lit (.int .u32 0)]], .agg [.lit (.int .u8 0), .lit (.int .u8 0), .lit (.int .u8 0), .lit (.int .u8 0), .agg [.lit (.int .u32 0), .lit (.int .u32 0), .lit (.int .u32 0), .lit (.int .u32 0)]]], [], places) :=
  ⟨[], by kernel_rfl⟩

set_option maxRecDepth 100000 in
theorem lifted (os : Os) (started : os.Started) (H : Type) (enc : TypeId × Value → H) (F : Stop.Interp) :
    ReturnsInHanded {} Try.checked os 5 .any ((OpenSpec.ofChange Rows.styleStaysSpec).preRow enc Try.prog Try.f5 Rows.styleStaysRow.domain false Rows.styleStaysRow.laid) (((OpenSpec.ofChange Rows.styleStaysSpec).at F).post enc Try.prog Try.f5 false true false false) := by
  obtain ⟨places, hx⟩ := reads os enc
  refine returnsInHanded_of_row (C := Try.checked) (s := OpenSpec.ofChange Rows.styleStaysSpec) own started (by kernel_rfl) Try.func5
    (witness_row_at (enc := enc) (C := Try.checked) false (World.holding Try.prog os ⟨#[], #[], []⟩) #[.agg #[.int .u8 0, .int .u8 0, .int .u8 0, .int .u8 0, .int .u32 0, .int .u32 0, .int .u32 0, .int .u32 0], .agg #[.int .u8 0, .int .u8 0, .int .u8 0, .int .u8 0, .int .u32 0, .int .u32 0, .int .u32 0, .int .u32 0]] rfl (by kernel_rfl) (by kernel_rfl) (by kernel_rfl)
      (OpenSpec.preRow_of_cond 8 hx (by kernel_rfl) (fun k hk => by cases hk) (by kernel_rfl) (laid_met os))) ?_
  intro W base args ds gs before hval hW _ _ _ _ _ _
  exact contract H enc W base args ds gs before hval hW

theorem said : Rows.StyleStaysSaid :=
  OpenClaim.holds_of_cond 5 Try.f5 rfl rfl rfl rfl rfl rfl rfl ⟨rfl, rfl, rfl, rfl, rfl⟩ rfl rfl rfl rfl rfl (by kernel_rfl) Try.func5 (by kernel_rfl)
    (of_decide_eq_true (by kernel_rfl)) (by unfold Func.isWrapper; first | (rw [if_pos (by decide +kernel)]; kernel_rfl) | (rw [if_neg (by decide +kernel)]; exact ⟨rfl, rfl⟩))
    (fun os started H enc _ F => by rw [OpenClaim.pre_eq_preRow]; exact lifted os started H enc F)
#print axioms said
end Go.Proofs.Ytafokiobbceibaa.styleStays
