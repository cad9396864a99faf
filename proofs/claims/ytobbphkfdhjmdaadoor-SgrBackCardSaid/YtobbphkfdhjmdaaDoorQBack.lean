/-
  SgrBack: for every input the law returns true, and each argument reads afterwards as it read before. No condition beyond the row's own: the four tables that it lists start as the program's text lays them (the card ties them).
-/
import Derived.Test.YtobbphkfdhjmdaaDoorMB
import Derived.Test.YtobbphkfdhjmdaaDoorM15
namespace Go.Proofs.YtobbphkfdhjmdaaDoor.sgrBack
open Go.ChangeShapes Go.WideShapes Go.ChangeAt Go.RowKit

set_option maxRecDepth 100000 in
theorem contract (H : Type) (enc : TypeId × Value → H) (W : World) (base : Nat) (args : Array Value) (ds gs : List (DataW H)) (before : List MemPlace)
    (hval : ∀ (j : Nat) t v, Tryd.f8.params[j]? = some t → args[j]? = some v → Value.okWide Tryd.prog W .any base t v)
    (hW : DataW.Whole enc Tryd.prog Tryd.f8.params.toList Rows.sgrBackSpec.vars false W args.toList ds gs before) (hL : laidMetH Tryd.prog Rows.sgrBackRow.laid W) :
    Calls Tryd.prog 8 args W fun e W' => ∃ v, e = .returned v ∧ Rows.sgrBackSpec.post enc Tryd.prog Tryd.f8 false true false false W args v W' := by
  have hW' := hW
  obtain ⟨p, q, hA0, hV, rfl, hfz, hnd⟩ := hW
  have hA : DataW.TrodAll enc Tryd.prog W 0 (fun _ => true) true Tryd.f8.params.toList args.toList ds p := hA0
  rw [Tryd.params8] at hA hval
  obtain ⟨v0, vs0, d0, ds0, p0, q0, hargs, rfl, rfl, h0, r0⟩ := trodAll_cons hA
  obtain ⟨v1, vs1, d1, ds1, p1, q1, rfl, rfl, rfl, h1, r1⟩ := trodAll_cons r0
  obtain ⟨rfl, rfl, rfl⟩ := trodAll_nil r1
  obtain rfl : args = #[v0, v1] := by cases args; simp_all
  obtain ⟨rfl, rfl⟩ := trodVars_none hV
  obtain ⟨hg, ht⟩ := tables hL
  obtain ⟨cs0, rfl, hsz0, hrow0⟩ := arg_struct Tryd.underlying46 (hval 0 46 v0 rfl rfl)
  have hc0 := row_cells (ts := [5, 5, 5, 5, 43, 43, 43, 43]) (by kernel_rfl) (by kernel_rfl) hsz0 hrow0
  obtain ⟨e0_0, e0_1, e0_2, e0_3, e0_4, e0_5, e0_6, e0_7, rfl⟩ := arr8 (hsz0.trans (show Tryd.prog.cellsOf 46 = 8 by kernel_rfl))
  obtain ⟨u0_0, hu0_0, hk0_0⟩ := hc0 0 e0_0 rfl
  obtain rfl : 5 = u0_0 := Option.some.inj hu0_0
  obtain ⟨dA, rfl, q_dA⟩ := cell_int Tryd.underlying5 hk0_0
  have w_dA := range_u8 q_dA
  clear q_dA
  obtain ⟨u0_1, hu0_1, hk0_1⟩ := hc0 1 e0_1 rfl
  obtain rfl : 5 = u0_1 := Option.some.inj hu0_1
  obtain ⟨dU, rfl, q_dU⟩ := cell_int Tryd.underlying5 hk0_1
  have w_dU := range_u8 q_dU
  clear q_dU
  obtain ⟨u0_2, hu0_2, hk0_2⟩ := hc0 2 e0_2 rfl
  obtain rfl : 5 = u0_2 := Option.some.inj hu0_2
  obtain ⟨dW, rfl, q_dW⟩ := cell_int Tryd.underlying5 hk0_2
  have w_dW := range_u8 q_dW
  clear q_dW
  obtain ⟨u0_3, hu0_3, hk0_3⟩ := hc0 3 e0_3 rfl
  obtain rfl : 5 = u0_3 := Option.some.inj hu0_3
  obtain ⟨dM, rfl, q_dM⟩ := cell_int Tryd.underlying5 hk0_3
  have w_dM := range_u8 q_dM
  clear q_dM
  obtain ⟨u0_4, hu0_4, hk0_4⟩ := hc0 4 e0_4 rfl
  obtain rfl : 43 = u0_4 := Option.some.inj hu0_4
  obtain ⟨c0, rfl, q_c0⟩ := cell_int Tryd.underlying43 hk0_4
  have w_c0 := ran32 q_c0
  clear q_c0
  obtain ⟨u0_5, hu0_5, hk0_5⟩ := hc0 5 e0_5 rfl
  obtain rfl : 43 = u0_5 := Option.some.inj hu0_5
  obtain ⟨c1, rfl, q_c1⟩ := cell_int Tryd.underlying43 hk0_5
  have w_c1 := ran32 q_c1
  clear q_c1
  obtain ⟨u0_6, hu0_6, hk0_6⟩ := hc0 6 e0_6 rfl
  obtain rfl : 43 = u0_6 := Option.some.inj hu0_6
  obtain ⟨c2, rfl, q_c2⟩ := cell_int Tryd.underlying43 hk0_6
  have w_c2 := ran32 q_c2
  clear q_c2
  obtain ⟨u0_7, hu0_7, hk0_7⟩ := hc0 7 e0_7 rfl
  obtain rfl : 43 = u0_7 := Option.some.inj hu0_7
  obtain ⟨c3, rfl, q_c3⟩ := cell_int Tryd.underlying43 hk0_7
  have w_c3 := ran32 q_c3
  clear q_c3
  obtain ⟨l_a, l_n, l_c, rfl, l_k, l_h⟩ := drfs_of2 (hval 1 40 v1 rfl rfl) h1
  refine (back_true ⟨dA, dU, dW, dM, c0, c1, c2, c3⟩ ⟨w_dA, w_dU, w_dW, w_dM, w_c0, w_c1, w_c2, w_c3⟩ l_a l_n l_c W l_k l_h.1 l_h.2 hg ht).mono fun e W' ⟨he, g⟩ => ?_
  exact ⟨.bool true, he, law_post (T := 4) hW' laidOut (by kernel_rfl) rfl rfl rfl rfl rfl Tryd.underlying4 g⟩

theorem laid_met (os : Os) : laidMet Tryd.prog Rows.sgrBackRow.laid ((laidWorld os).forCall (fun _ _ => 0) ⟨#[], #[.agg #[.int .u8 0, .int .u8 0, .int .u8 0, .int .u8 0, .int .u32 0, .int .u32 0, .int .u32 0, .int .u32 0], .slice none 0 0], []⟩).memory :=
  laidMet_of_run' 8 (by kernel_rfl) (by kernel_rfl)
theorem reads (os : Os) {H : Type} (enc : TypeId × Value → H) : ∃ places, DataW.whole enc Tryd.prog ((laidWorld os).forCall (fun _ _ => 0) ⟨#[], #[.agg #[.int .u8 0, .int .u8 0, .int .u8 0, .int .u8 0, .int .u32 0, .int .u32 0, .int .u32 0, .int .u32 0], .slice none 0 0], []⟩).memory Tryd.f8.params.toList Rows.sgrBackSpec.vars false (#[.agg #[.int .u8 0, .int .u8 0, .int .u8 0, .int .u8 0, .int .u32 0, .int .u32 0, .int .u32 0, .int .u32 0], .slice none 0 0] : Array Value).toList 8 = some ([.agg [.lit (.int .u8 0), .lit (.int .u8 0), .lit (.int .u8 0), .lit (.int .u8 0), .agg [.lit (.int .u32 0), .lit (.int .u32 0), .lit (.int .u32 0), .lit (.int .u32 0)]], .nil], [], places) :=
  ⟨[], by kernel_rfl⟩

set_option maxRecDepth 100000 in
theorem lifted (os : Os) (started : os.Started) (H : Type) (enc : TypeId × Value → H) (F : Stop.Interp) :
    ReturnsInHanded {} Tryd.checked os 8 .any ((OpenSpec.ofChange Rows.sgrBackSpec).preRow enc Tryd.prog Tryd.f8 Rows.sgrBackRow.domain false Rows.sgrBackRow.laid) (((OpenSpec.ofChange Rows.sgrBackSpec).at F).post enc Tryd.prog Tryd.f8 false true false false) := by
  obtain ⟨places, hx⟩ := reads os enc
  refine returnsInHanded_of_row (C := Tryd.checked) (s := OpenSpec.ofChange Rows.sgrBackSpec) own started (by kernel_rfl) Tryd.func8
    (witness_row_at (enc := enc) (C := Tryd.checked) false (laidWorld os) #[.agg #[.int .u8 0, .int .u8 0, .int .u8 0, .int .u8 0, .int .u32 0, .int .u32 0, .int .u32 0, .int .u32 0], .slice none 0 0] rfl (by kernel_rfl) (by kernel_rfl) (by kernel_rfl)
      (OpenSpec.preRow_of_cond 8 hx (by kernel_rfl) (fun k hk => by cases hk) (by kernel_rfl) (laid_met os))) ?_
  intro W base args ds gs before hval hW _ _ _ hL _ _
  exact contract H enc W base args ds gs before hval hW hL

theorem said : Rows.SgrBackSaid :=
  OpenClaim.holds_of_cond 8 Tryd.f8 rfl rfl rfl rfl rfl rfl rfl ⟨rfl, rfl, rfl, rfl, rfl⟩ rfl rfl rfl rfl rfl (by kernel_rfl) Tryd.func8 (by kernel_rfl)
    (of_decide_eq_true (by kernel_rfl)) (by unfold Func.isWrapper; first | (rw [if_pos (by decide +kernel)]; kernel_rfl) | (rw [if_neg (by decide +kernel)]; exact ⟨rfl, rfl⟩))
    (fun os started H enc _ F => by rw [OpenClaim.pre_eq_preRow]; exact lifted os started H enc F)

theorem plain (f : FuncId) (fn : Func) (hf : Tryd.pinned.checked.prog.funcNamed "fenestra/fenestralaw09.SgrBack" = some f) (hfn : Tryd.pinned.checked.prog.funcs[f]? = some fn) :
    false = Tryd.pinned.checked.prog.looks [] ∧ ∀ (j : Nat) t, fn.params[j]? = some t → Tryd.pinned.checked.prog.wantsStandIn t = false := by
  obtain rfl : f = 8 := Option.some.inj ((show Tryd.prog.funcNamed "fenestra/fenestralaw09.SgrBack" = some 8 by kernel_rfl).symm.trans hf) |>.symm
  obtain rfl : fn = Tryd.f8 := (Option.some.inj (Tryd.func8.symm.trans hfn)).symm
  refine ⟨by kernel_rfl, fun j t ht => ?_⟩
  rw [Tryd.params8] at ht
  have hm : t ∈ ([46, 40] : List Nat) := by simpa using Array.mem_of_getElem? ht
  have hall : (([46, 40] : List Nat).all fun u => !Tryd.prog.wantsStandIn u) = true := by kernel_rfl
  exact (show Tryd.prog.wantsStandIn t = false by simpa using List.all_eq_true.1 hall t hm)

theorem card : Rows.SgrBackCardSaid :=
  Claim7.holds_tied_plain_at .later [] _ _ _ _ said (fun _ h => by cases h) (by kernel_rfl) (fun _ h => by cases h) sgrBack_row_tie rfl ⟨rfl, rfl⟩ (by kernel_rfl) rfl plain (by kernel_rfl)
#print axioms card
end Go.Proofs.YtobbphkfdhjmdaaDoor.sgrBack

