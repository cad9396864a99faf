/-
  StyleApplies: for every input the law returns true, and each argument reads afterwards as it read before. No condition.
-/
import Derived.Test.YtafokiobbceibaaBase
import Derived.Stop.Joined
import Derived.Test.YtafokiobbceibaaW26
import Derived.Test.YtafokiobbceibaaDof2
namespace Go.Proofs.Ytafokiobbceibaa.styleApplies
open Go.ChangeShapes Go.WideShapes Go.ChangeAt Go.RowKit

set_option maxRecDepth 100000 in
theorem contract (H : Type) (enc : TypeId × Value → H) (W : World) (base : Nat) (args : Array Value) (ds gs : List (DataW H)) (before : List MemPlace)
    (hval : ∀ (j : Nat) t v, Try.f4.params[j]? = some t → args[j]? = some v → Value.okWide Try.prog W .any base t v)
    (hW : DataW.Whole enc Try.prog Try.f4.params.toList Rows.styleAppliesSpec.vars false W args.toList ds gs before) :
    Calls Try.prog 4 args W fun e W' => ∃ v, e = .returned v ∧ Rows.styleAppliesSpec.post enc Try.prog Try.f4 false true false false W args v W' := by
  have hW' := hW
  obtain ⟨p, q, hA0, hV, rfl, hfz, hnd⟩ := hW
  have hA : DataW.TrodAll enc Try.prog W 0 (fun _ => true) true Try.f4.params.toList args.toList ds p := hA0
  rw [Try.params4] at hA hval
  obtain ⟨v0, vs0, d0, ds0, p0, q0, hargs, rfl, rfl, h0, r0⟩ := trodAll_cons hA
  obtain ⟨v1, vs1, d1, ds1, p1, q1, rfl, rfl, rfl, h1, r1⟩ := trodAll_cons r0
  obtain ⟨v2, vs2, d2, ds2, p2, q2, rfl, rfl, rfl, h2, r2⟩ := trodAll_cons r1
  obtain ⟨v3, vs3, d3, ds3, p3, q3, rfl, rfl, rfl, h3, r3⟩ := trodAll_cons r2
  obtain ⟨rfl, rfl, rfl⟩ := trodAll_nil r3
  obtain rfl : args = #[v0, v1, v2, v3] := by cases args; simp_all
  obtain ⟨rfl, rfl⟩ := trodVars_none hV
  obtain ⟨cs0, rfl, hsz0, hrow0⟩ := arg_struct Try.underlying25 (hval 0 25 v0 rfl rfl)
  have hc0 := row_cells (ts := [3, 3, 3, 3, 3, 3, 3, 3]) (by kernel_rfl) (by kernel_rfl) hsz0 hrow0
  obtain ⟨e0_0, e0_1, e0_2, e0_3, e0_4, e0_5, e0_6, e0_7, rfl⟩ := arr8 (hsz0.trans (show Try.prog.cellsOf 25 = 8 by kernel_rfl))
  obtain ⟨u0_0, hu0_0, hk0_0⟩ := hc0 0 e0_0 rfl
  obtain rfl : 3 = u0_0 := Option.some.inj hu0_0
  obtain ⟨a, rfl, q_a⟩ := cell_int Try.underlying3 hk0_0
  have w_a := range_i64 q_a
  clear q_a
  obtain ⟨u0_1, hu0_1, hk0_1⟩ := hc0 1 e0_1 rfl
  obtain rfl : 3 = u0_1 := Option.some.inj hu0_1
  obtain ⟨u, rfl, q_u⟩ := cell_int Try.underlying3 hk0_1
  have w_u := range_i64 q_u
  clear q_u
  obtain ⟨u0_2, hu0_2, hk0_2⟩ := hc0 2 e0_2 rfl
  obtain rfl : 3 = u0_2 := Option.some.inj hu0_2
  obtain ⟨fk, rfl, q_fk⟩ := cell_int Try.underlying3 hk0_2
  have w_fk := range_i64 q_fk
  clear q_fk
  obtain ⟨u0_3, hu0_3, hk0_3⟩ := hc0 3 e0_3 rfl
  obtain rfl : 3 = u0_3 := Option.some.inj hu0_3
  obtain ⟨fn, rfl, q_fn⟩ := cell_int Try.underlying3 hk0_3
  have w_fn := range_i64 q_fn
  clear q_fn
  obtain ⟨u0_4, hu0_4, hk0_4⟩ := hc0 4 e0_4 rfl
  obtain rfl : 3 = u0_4 := Option.some.inj hu0_4
  obtain ⟨bk, rfl, q_bk⟩ := cell_int Try.underlying3 hk0_4
  have w_bk := range_i64 q_bk
  clear q_bk
  obtain ⟨u0_5, hu0_5, hk0_5⟩ := hc0 5 e0_5 rfl
  obtain rfl : 3 = u0_5 := Option.some.inj hu0_5
  obtain ⟨bn, rfl, q_bn⟩ := cell_int Try.underlying3 hk0_5
  have w_bn := range_i64 q_bn
  clear q_bn
  obtain ⟨u0_6, hu0_6, hk0_6⟩ := hc0 6 e0_6 rfl
  obtain rfl : 3 = u0_6 := Option.some.inj hu0_6
  obtain ⟨lk, rfl, q_lk⟩ := cell_int Try.underlying3 hk0_6
  have w_lk := range_i64 q_lk
  clear q_lk
  obtain ⟨u0_7, hu0_7, hk0_7⟩ := hc0 7 e0_7 rfl
  obtain rfl : 3 = u0_7 := Option.some.inj hu0_7
  obtain ⟨ln, rfl, q_ln⟩ := cell_int Try.underlying3 hk0_7
  have w_ln := range_i64 q_ln
  clear q_ln
  obtain ⟨cs1, rfl, hsz1, hrow1⟩ := arg_struct Try.underlying27 (hval 1 27 v1 rfl rfl)
  have hc1 := row_cells (ts := [3, 3, 3, 3, 3, 9]) (by kernel_rfl) (by kernel_rfl) hsz1 hrow1
  obtain ⟨e1_0, e1_1, e1_2, e1_3, e1_4, e1_5, rfl⟩ := arr6 (hsz1.trans (show Try.prog.cellsOf 27 = 6 by kernel_rfl))
  obtain ⟨u1_0, hu1_0, hk1_0⟩ := hc1 0 e1_0 rfl
  obtain rfl : 3 = u1_0 := Option.some.inj hu1_0
  obtain ⟨kd, rfl, q_kd⟩ := cell_int Try.underlying3 hk1_0
  have w_kd := range_i64 q_kd
  clear q_kd
  obtain ⟨u1_1, hu1_1, hk1_1⟩ := hc1 1 e1_1 rfl
  obtain rfl : 3 = u1_1 := Option.some.inj hu1_1
  obtain ⟨n, rfl, q_n⟩ := cell_int Try.underlying3 hk1_1
  have w_n := range_i64 q_n
  clear q_n
  obtain ⟨u1_2, hu1_2, hk1_2⟩ := hc1 2 e1_2 rfl
  obtain rfl : 3 = u1_2 := Option.some.inj hu1_2
  obtain ⟨m, rfl, q_m⟩ := cell_int Try.underlying3 hk1_2
  have w_m := range_i64 q_m
  clear q_m
  obtain ⟨u1_3, hu1_3, hk1_3⟩ := hc1 3 e1_3 rfl
  obtain rfl : 3 = u1_3 := Option.some.inj hu1_3
  obtain ⟨ck, rfl, q_ck⟩ := cell_int Try.underlying3 hk1_3
  have w_ck := range_i64 q_ck
  clear q_ck
  obtain ⟨u1_4, hu1_4, hk1_4⟩ := hc1 4 e1_4 rfl
  obtain rfl : 3 = u1_4 := Option.some.inj hu1_4
  obtain ⟨cn, rfl, q_cn⟩ := cell_int Try.underlying3 hk1_4
  have w_cn := range_i64 q_cn
  clear q_cn
  obtain ⟨u1_5, hu1_5, hk1_5⟩ := hc1 5 e1_5 rfl
  obtain rfl : 9 = u1_5 := Option.some.inj hu1_5
  obtain ⟨s, rfl⟩ := cell_string Try.underlying9 hk1_5
  obtain ⟨l_a, l_n, l_c, rfl, l_k, l_h⟩ := drfs_of2 (hval 2 42 v2 rfl rfl) h2
  obtain ⟨aa, rfl, q_aa⟩ := arg_int Try.underlying5 (hval 3 5 v3 rfl rfl)
  have w_aa := range_u8 q_aa
  clear q_aa
  refine (lawApplies_true a u fk fn bk bn lk ln kd n m ck cn s (by unfold In64; omega) (by unfold In64; omega) l_a l_n l_c l_k aa w_aa W l_h).mono fun e W' ⟨he, g⟩ => ?_
  exact ⟨.bool true, he, law_post (T := 4) hW' laidOut (by kernel_rfl) rfl rfl rfl rfl rfl Try.underlying4 g⟩

theorem laid_met (os : Os) : laidMet Try.prog Rows.styleAppliesRow.laid ((World.holding Try.prog os ⟨#[], #[], []⟩).forCall (fun _ _ => 0) ⟨#[], #[.agg #[.int .i64 0, .int .i64 0, .int .i64 0, .int .i64 0, .int .i64 0, .int .i64 0, .int .i64 0, .int .i64 0], .agg #[.int .i64 0, .int .i64 0, .int .i64 0, .int .i64 0, .int .i64 0, .string ⟨#[]⟩], .slice none 0 0, .int .u8 0], []⟩).memory :=
  laidMet_nil _ _
theorem reads (os : Os) {H : Type} (enc : TypeId × Value → H) : ∃ places, DataW.whole enc Try.prog ((World.holding Try.prog os ⟨#[], #[], []⟩).forCall (fun _ _ => 0) ⟨#[], #[.agg #[.int .i64 0, .int .i64 0, .int .i64 0, .int .i64 0, .int .i64 0, .int .i64 0, .int .i64 0, .int .i64 0], .agg #[.int .i64 0, .int .i64 0, .int .i64 0, .int .i64 0, .int .i64 0, .string ⟨#[]⟩], .slice none 0 0, .int .u8 0], []⟩).memory Try.f4.params.toList Rows.styleAppliesSpec.vars false (#[.agg #[.int .i64 0, .int .i64 0, .int .i64 0, .int .i64 0, .int .i64 0, .int .i64 0, .int .i64 0, .int .i64 0], .agg #[.int .i64 0, .int .i64 0, .int .i64 0, .int .i64 0, .int .i64 0, .string ⟨#[]⟩], .slice none 0 0, .int .u8 0] : Array Value).toList 8 = some ([.agg [.lit (.int .i64 0), .lit (.int .i64 0), .agg [.lit (.int .i64 0), .lit (.int .i64 0)], .agg [.lit (.int .i64 0), .lit (.int .i64 0)], .agg [.lit (.int .i64 0), .lit (.int .i64 0)]], .agg [.lit (.int .i64 0), .lit (.int .i64 0), .lit (.int .i64 0), .agg [.lit (.int .i64 0), .lit (.int .i64 0)], .lit (.string [])], .nil, .lit (.int .u8 0)], [], places) :=
  ⟨[], by kernel_rfl⟩

set_option maxRecDepth 100000 in
theorem lifted (os : Os) (started : os.Started) (H : Type) (enc : TypeId × Value → H) (F : Stop.Interp) :
    ReturnsInHanded {} Try.checked os 4 .any ((OpenSpec.ofChange Rows.styleAppliesSpec).preRow enc Try.prog Try.f4 Rows.styleAppliesRow.domain false Rows.styleAppliesRow.laid) (((OpenSpec.ofChange Rows.styleAppliesSpec).at F).post enc Try.prog Try.f4 false true false false) := by
  obtain ⟨places, hx⟩ := reads os enc
  refine returnsInHanded_of_row (C := Try.checked) (s := OpenSpec.ofChange Rows.styleAppliesSpec) own started (by kernel_rfl) Try.func4
    (witness_row_at (enc := enc) (C := Try.checked) false (World.holding Try.prog os ⟨#[], #[], []⟩) #[.agg #[.int .i64 0, .int .i64 0, .int .i64 0, .int .i64 0, .int .i64 0, .int .i64 0, .int .i64 0, .int .i64 0], .agg #[.int .i64 0, .int .i64 0, .int .i64 0, .int .i64 0, .int .i64 0, .string ⟨#[]⟩], .slice none 0 0, .int .u8 0] rfl (by kernel_rfl) (by kernel_rfl) (by kernel_rfl)
      (OpenSpec.preRow_of_cond 8 hx (by kernel_rfl) (fun k hk => by cases hk) (by kernel_rfl) (laid_met os))) ?_
  intro W base args ds gs before hval hW _ _ _ _ _ _
  exact contract H enc W base args ds gs before hval hW

theorem said : Rows.StyleAppliesSaid :=
  OpenClaim.holds_of_cond 4 Try.f4 rfl rfl rfl rfl rfl rfl rfl ⟨rfl, rfl, rfl, rfl, rfl⟩ rfl rfl rfl rfl rfl (by kernel_rfl) Try.func4 (by kernel_rfl)
    (of_decide_eq_true (by kernel_rfl)) (by unfold Func.isWrapper; first | (rw [if_pos (by decide +kernel)]; kernel_rfl) | (rw [if_neg (by decide +kernel)]; exact ⟨rfl, rfl⟩))
    (fun os started H enc _ F => by rw [OpenClaim.pre_eq_preRow]; exact lifted os started H enc F)
#print axioms said
end Go.Proofs.Ytafokiobbceibaa.styleApplies
