/-
  LayoutCovers: for every input the law returns true, and each argument reads afterwards as it read before. No condition.
-/
import Derived.Test.YtbobpgegkmcapaaMB
import Derived.Stop.Joined
import Derived.Test.YtbobpgegkmcapaaM17
import Derived.Test.YtbobpgegkmcapaaM21
namespace Go.Proofs.Ytbobpgegkmcapaa.layoutCovers
open Go.ChangeShapes Go.WideShapes Go.ChangeAt Go.RowKit

set_option maxRecDepth 100000 in
theorem contract (H : Type) (enc : TypeId × Value → H) (W : World) (base : Nat) (args : Array Value) (ds gs : List (DataW H)) (before : List MemPlace)
    (hval : ∀ (j : Nat) t v, Try.f6.params[j]? = some t → args[j]? = some v → Value.okWide Try.prog W .any base t v)
    (hW : DataW.Whole enc Try.prog Try.f6.params.toList Rows.layoutCoversSpec.vars false W args.toList ds gs before) :
    Calls Try.prog 6 args W fun e W' => ∃ v, e = .returned v ∧ Rows.layoutCoversSpec.post enc Try.prog Try.f6 false true false false W args v W' := by
  have hW' := hW
  obtain ⟨p, q, hA0, hV, rfl, hfz, hnd⟩ := hW
  have hA : DataW.TrodAll enc Try.prog W 0 (fun _ => true) true Try.f6.params.toList args.toList ds p := hA0
  rw [Try.params6] at hA hval
  obtain ⟨v0, vs0, d0, ds0, p0, q0, hargs, rfl, rfl, h0, r0⟩ := trodAll_cons hA
  obtain ⟨v1, vs1, d1, ds1, p1, q1, rfl, rfl, rfl, h1, r1⟩ := trodAll_cons r0
  obtain ⟨rfl, rfl, rfl⟩ := trodAll_nil r1
  obtain rfl : args = #[v0, v1] := by cases args; simp_all
  obtain ⟨rfl, rfl⟩ := trodVars_none hV
  obtain ⟨xs, xs_a, xs_n, xs_c, rfl, xs_1, xs_2, xs_3, xs_h⟩ := arg_edits (hval 0 52 v0 rfl rfl) h0
  obtain ⟨cs1, rfl, hsz1, hrow1⟩ := arg_struct Try.underlying27 (hval 1 27 v1 rfl rfl)
  have hc1 := row_cells (ts := [3, 3, 3, 3]) (by kernel_rfl) (by kernel_rfl) hsz1 hrow1
  obtain ⟨e1_0, e1_1, e1_2, e1_3, rfl⟩ := arr4 (hsz1.trans (show Try.prog.cellsOf 27 = 4 by kernel_rfl))
  obtain ⟨u1_0, hu1_0, hk1_0⟩ := hc1 0 e1_0 rfl
  obtain rfl : 3 = u1_0 := Option.some.inj hu1_0
  obtain ⟨row, rfl, q_row⟩ := cell_int Try.underlying3 hk1_0
  have w_row := range_i64 q_row
  clear q_row
  obtain ⟨u1_1, hu1_1, hk1_1⟩ := hc1 1 e1_1 rfl
  obtain rfl : 3 = u1_1 := Option.some.inj hu1_1
  obtain ⟨col, rfl, q_col⟩ := cell_int Try.underlying3 hk1_1
  have w_col := range_i64 q_col
  clear q_col
  obtain ⟨u1_2, hu1_2, hk1_2⟩ := hc1 2 e1_2 rfl
  obtain rfl : 3 = u1_2 := Option.some.inj hu1_2
  obtain ⟨rows, rfl, q_rows⟩ := cell_int Try.underlying3 hk1_2
  have w_rows := range_i64 q_rows
  clear q_rows
  obtain ⟨u1_3, hu1_3, hk1_3⟩ := hc1 3 e1_3 rfl
  obtain rfl : 3 = u1_3 := Option.some.inj hu1_3
  obtain ⟨cols, rfl, q_cols⟩ := cell_int Try.underlying3 hk1_3
  have w_cols := range_i64 q_cols
  clear q_cols
  refine (covers_true xs row col rows cols xs_a xs_n xs_c W xs_1 xs_2 xs_3 xs_h).mono fun e W' ⟨he, g⟩ => ?_
  exact ⟨.bool true, he, law_post (T := 4) hW' laidOut (by kernel_rfl) rfl rfl rfl rfl rfl Try.underlying4 g⟩

theorem laid_met (os : Os) : laidMet Try.prog Rows.layoutCoversRow.laid ((World.holding Try.prog os ⟨#[], #[], []⟩).forCall (fun _ _ => 0) ⟨#[], #[.slice none 0 0, .agg #[.int .i64 0, .int .i64 0, .int .i64 0, .int .i64 0]], []⟩).memory :=
  laidMet_nil _ _
theorem reads (os : Os) {H : Type} (enc : TypeId × Value → H) : ∃ places, DataW.whole enc Try.prog ((World.holding Try.prog os ⟨#[], #[], []⟩).forCall (fun _ _ => 0) ⟨#[], #[.slice none 0 0, .agg #[.int .i64 0, .int .i64 0, .int .i64 0, .int .i64 0]], []⟩).memory Try.f6.params.toList Rows.layoutCoversSpec.vars false (#[.slice none 0 0, .agg #[.int .i64 0, .int .i64 0, .int .i64 0, .int .i64 0]] : Array Value).toList 8 = some ([.nil, .agg [.lit (.int .i64 0), .lit (.int .i64 0), .lit (.int .i64 0), .lit (.int .i64 0)]], [], places) :=
  ⟨[], by kernel_rfl⟩

set_option maxRecDepth 100000 in
theorem lifted (os : Os) (started : os.Started) (H : Type) (enc : TypeId × Value → H) (F : Stop.Interp) :
    ReturnsInHanded {} Try.checked os 6 .any ((OpenSpec.ofChange Rows.layoutCoversSpec).preRow enc Try.prog Try.f6 Rows.layoutCoversRow.domain false Rows.layoutCoversRow.laid) (((OpenSpec.ofChange Rows.layoutCoversSpec).at F).post enc Try.prog Try.f6 false true false false) := by
  obtain ⟨places, hx⟩ := reads os enc
  refine returnsInHanded_of_row (C := Try.checked) (s := OpenSpec.ofChange Rows.layoutCoversSpec) own started (by kernel_rfl) Try.func6
    (witness_row_at (enc := enc) (C := Try.checked) false (World.holding Try.prog os ⟨#[], #[], []⟩) #[.slice none 0 0, .agg #[.int .i64 0, .int .i64 0, .int .i64 0, .int .i64 0]] rfl (by kernel_rfl) (by kernel_rfl) (by kernel_rfl)
      (OpenSpec.preRow_of_cond 8 hx (by kernel_rfl) (fun k hk => by cases hk) (by kernel_rfl) (laid_met os))) ?_
  intro W base args ds gs before hval hW _ _ _ _ _ _
  exact contract H enc W base args ds gs before hval hW

theorem said : Rows.LayoutCoversSaid :=
  OpenClaim.holds_of_cond 6 Try.f6 rfl rfl rfl rfl rfl rfl rfl ⟨rfl, rfl, rfl, rfl, rfl⟩ rfl rfl rfl rfl rfl (by kernel_rfl) Try.func6 (by kernel_rfl)
    (of_decide_eq_true (by kernel_rfl)) (by unfold Func.isWrapper; first | (rw [if_pos (by decide +kernel)]; kernel_rfl) | (rw [if_neg (by decide +kernel)]; exact ⟨rfl, rfl⟩))
    (fun os started H enc _ F => by rw [OpenClaim.pre_eq_preRow]; exact lifted os started H enc F)
#print axioms said
end Go.Proofs.Ytbobpgegkmcapaa.layoutCovers

