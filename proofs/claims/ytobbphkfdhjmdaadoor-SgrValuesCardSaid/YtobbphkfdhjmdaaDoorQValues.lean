/-
  SgrValues: for every input the law returns true, and each argument reads afterwards as it read before. No condition beyond the row's own: the four tables that it lists start as the program's text lays them (the card ties them).
-/
import Derived.Test.YtobbphkfdhjmdaaDoorMB
import Derived.Test.YtobbphkfdhjmdaaDoorM24
namespace Go.Proofs.YtobbphkfdhjmdaaDoor.sgrValues
open Go.ChangeShapes Go.WideShapes Go.ChangeAt Go.RowKit

set_option maxRecDepth 100000 in
theorem contract (H : Type) (enc : TypeId × Value → H) (W : World) (base : Nat) (args : Array Value) (ds gs : List (DataW H)) (before : List MemPlace)
    (hval : ∀ (j : Nat) t v, Tryd.f6.params[j]? = some t → args[j]? = some v → Value.okWide Tryd.prog W .any base t v)
    (hW : DataW.Whole enc Tryd.prog Tryd.f6.params.toList Rows.sgrValuesSpec.vars false W args.toList ds gs before) (hL : laidMetH Tryd.prog Rows.sgrValuesRow.laid W) :
    Calls Tryd.prog 6 args W fun e W' => ∃ v, e = .returned v ∧ Rows.sgrValuesSpec.post enc Tryd.prog Tryd.f6 false true false false W args v W' := by
  have hW' := hW
  obtain ⟨p, q, hA0, hV, rfl, hfz, hnd⟩ := hW
  have hA : DataW.TrodAll enc Tryd.prog W 0 (fun _ => true) true Tryd.f6.params.toList args.toList ds p := hA0
  rw [Tryd.params6] at hA hval
  obtain ⟨v0, vs0, d0, ds0, p0, q0, hargs, rfl, rfl, h0, r0⟩ := trodAll_cons hA
  obtain ⟨v1, vs1, d1, ds1, p1, q1, rfl, rfl, rfl, h1, r1⟩ := trodAll_cons r0
  obtain ⟨rfl, rfl, rfl⟩ := trodAll_nil r1
  obtain rfl : args = #[v0, v1] := by cases args; simp_all
  obtain ⟨rfl, rfl⟩ := trodVars_none hV
  obtain ⟨hg, ht⟩ := tables hL
  obtain ⟨v, rfl, q_v⟩ := arg_int Tryd.underlying5 (hval 0 5 v0 rfl rfl)
  have w_v := range_u8 q_v
  clear q_v
  obtain ⟨cs1, rfl, hsz1, hrow1⟩ := arg_array Tryd.underlying62 (hval 1 62 v1 rfl rfl)
  have hc1 := row_cells (ts := [3, 3, 3, 3, 3]) (by kernel_rfl) (by kernel_rfl) hsz1 hrow1
  obtain ⟨e1_0, e1_1, e1_2, e1_3, e1_4, rfl⟩ := arr5 (hsz1.trans (show Tryd.prog.cellsOf 62 = 5 by kernel_rfl))
  obtain ⟨u1_0, hu1_0, hk1_0⟩ := hc1 0 e1_0 rfl
  obtain rfl : 3 = u1_0 := Option.some.inj hu1_0
  obtain ⟨m0, rfl, q_m0⟩ := cell_int Tryd.underlying3 hk1_0
  have w_m0 := range_i64 q_m0
  clear q_m0
  obtain ⟨u1_1, hu1_1, hk1_1⟩ := hc1 1 e1_1 rfl
  obtain rfl : 3 = u1_1 := Option.some.inj hu1_1
  obtain ⟨m1, rfl, q_m1⟩ := cell_int Tryd.underlying3 hk1_1
  have w_m1 := range_i64 q_m1
  clear q_m1
  obtain ⟨u1_2, hu1_2, hk1_2⟩ := hc1 2 e1_2 rfl
  obtain rfl : 3 = u1_2 := Option.some.inj hu1_2
  obtain ⟨m2, rfl, q_m2⟩ := cell_int Tryd.underlying3 hk1_2
  have w_m2 := range_i64 q_m2
  clear q_m2
  obtain ⟨u1_3, hu1_3, hk1_3⟩ := hc1 3 e1_3 rfl
  obtain rfl : 3 = u1_3 := Option.some.inj hu1_3
  obtain ⟨m3, rfl, q_m3⟩ := cell_int Tryd.underlying3 hk1_3
  have w_m3 := range_i64 q_m3
  clear q_m3
  obtain ⟨u1_4, hu1_4, hk1_4⟩ := hc1 4 e1_4 rfl
  obtain rfl : 3 = u1_4 := Option.some.inj hu1_4
  obtain ⟨m4, rfl, q_m4⟩ := cell_int Tryd.underlying3 hk1_4
  have w_m4 := range_i64 q_m4
  clear q_m4
  refine (values_true v m0 m1 m2 m3 m4 w_v.1 w_v.2 W hg ht).mono fun e W' ⟨he, g⟩ => ?_
  exact ⟨.bool true, he, law_post (T := 4) hW' laidOut (by kernel_rfl) rfl rfl rfl rfl rfl Tryd.underlying4 g⟩

theorem laid_met (os : Os) : laidMet Tryd.prog Rows.sgrValuesRow.laid ((laidWorld os).forCall (fun _ _ => 0) ⟨#[], #[.int .u8 0, .agg #[.int .i64 0, .int .i64 0, .int .i64 0, .int .i64 0, .int .i64 0]], []⟩).memory :=
  laidMet_of_run' 8 (by kernel_rfl) (by kernel_rfl)
theorem reads (os : Os) {H : Type} (enc : TypeId × Value → H) : ∃ places, DataW.whole enc Tryd.prog ((laidWorld os).forCall (fun _ _ => 0) ⟨#[], #[.int .u8 0, .agg #[.int .i64 0, .int .i64 0, .int .i64 0, .int .i64 0, .int .i64 0]], []⟩).memory Tryd.f6.params.toList Rows.sgrValuesSpec.vars false (#[.int .u8 0, .agg #[.int .i64 0, .int .i64 0, .int .i64 0, .int .i64 0, .int .i64 0]] : Array Value).toList 8 = some ([.lit (.int .u8 0), .agg [.lit (.int .i64 0), .lit (.int .i64 0), .lit (.int .i64 0), .lit (.int .i64 0), .lit (.int .i64 0)]], [], places) :=
  ⟨[], by kernel_rfl⟩

set_option maxRecDepth 100000 in
theorem lifted (os : Os) (started : os.Started) (H : Type) (enc : TypeId × Value → H) (F : Stop.Interp) :
    ReturnsInHanded {} Tryd.checked os 6 .any ((OpenSpec.ofChange Rows.sgrValuesSpec).preRow enc Tryd.prog Tryd.f6 Rows.sgrValuesRow.domain false Rows.sgrValuesRow.laid) (((OpenSpec.ofChange Rows.sgrValuesSpec).at F).post enc Tryd.prog Tryd.f6 false true false false) := by
  obtain ⟨places, hx⟩ := reads os enc
  refine returnsInHanded_of_row (C := Tryd.checked) (s := OpenSpec.ofChange Rows.sgrValuesSpec) own started (by kernel_rfl) Tryd.func6
    (witness_row_at (enc := enc) (C := Tryd.checked) false (laidWorld os) #[.int .u8 0, .agg #[.int .i64 0, .int .i64 0, .int .i64 0, .int .i64 0, .int .i64 0]] rfl (by kernel_rfl) (by kernel_rfl) (by kernel_rfl)
      (OpenSpec.preRow_of_cond 8 hx (by kernel_rfl) (fun k hk => by cases hk) (by kernel_rfl) (laid_met os))) ?_
  intro W base args ds gs before hval hW _ _ _ hL _ _
  exact contract H enc W base args ds gs before hval hW hL

theorem said : Rows.SgrValuesSaid :=
  OpenClaim.holds_of_cond 6 Tryd.f6 rfl rfl rfl rfl rfl rfl rfl ⟨rfl, rfl, rfl, rfl, rfl⟩ rfl rfl rfl rfl rfl (by kernel_rfl) Tryd.func6 (by kernel_rfl)
    (of_decide_eq_true (by kernel_rfl)) (by unfold Func.isWrapper; first | (rw [if_pos (by decide +kernel)]; kernel_rfl) | (rw [if_neg (by decide +kernel)]; exact ⟨rfl, rfl⟩))
    (fun os started H enc _ F => by rw [OpenClaim.pre_eq_preRow]; exact lifted os started H enc F)

theorem plain (f : FuncId) (fn : Func) (hf : Tryd.pinned.checked.prog.funcNamed "fenestra/fenestralaw09.SgrValues" = some f) (hfn : Tryd.pinned.checked.prog.funcs[f]? = some fn) :
    false = Tryd.pinned.checked.prog.looks [] ∧ ∀ (j : Nat) t, fn.params[j]? = some t → Tryd.pinned.checked.prog.wantsStandIn t = false := by
  obtain rfl : f = 6 := Option.some.inj ((show Tryd.prog.funcNamed "fenestra/fenestralaw09.SgrValues" = some 6 by kernel_rfl).symm.trans hf) |>.symm
  obtain rfl : fn = Tryd.f6 := (Option.some.inj (Tryd.func6.symm.trans hfn)).symm
  refine ⟨by kernel_rfl, fun j t ht => ?_⟩
  rw [Tryd.params6] at ht
  have hm : t ∈ ([5, 62] : List Nat) := by simpa using Array.mem_of_getElem? ht
  have hall : (([5, 62] : List Nat).all fun u => !Tryd.prog.wantsStandIn u) = true := by kernel_rfl
  exact (show Tryd.prog.wantsStandIn t = false by simpa using List.all_eq_true.1 hall t hm)

theorem card : Rows.SgrValuesCardSaid :=
  Claim7.holds_tied_plain_at .later [] _ _ _ _ said (fun _ h => by cases h) (by kernel_rfl) (fun _ h => by cases h) sgrValues_row_tie rfl ⟨rfl, rfl⟩ (by kernel_rfl) rfl plain (by kernel_rfl)
#print axioms card
end Go.Proofs.YtobbphkfdhjmdaaDoor.sgrValues

