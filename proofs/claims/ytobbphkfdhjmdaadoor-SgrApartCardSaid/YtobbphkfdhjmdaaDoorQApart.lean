/-
  SgrApart: for every input the law returns true, and each argument reads afterwards as it read before. No condition beyond the row's own: the four tables that it lists start as the program's text lays them (the card ties them).
-/
import Derived.Test.YtobbphkfdhjmdaaDoorMB
import Derived.Test.YtobbphkfdhjmdaaDoorM15
import Derived.Test.YtobbphkfdhjmdaaDoorM26
namespace Go.Proofs.YtobbphkfdhjmdaaDoor.sgrApart
open Go.ChangeShapes Go.WideShapes Go.ChangeAt Go.RowKit

set_option maxRecDepth 100000 in
theorem contract (H : Type) (enc : TypeId × Value → H) (W : World) (base : Nat) (args : Array Value) (ds gs : List (DataW H)) (before : List MemPlace)
    (hval : ∀ (j : Nat) t v, Tryd.f4.params[j]? = some t → args[j]? = some v → Value.okWide Tryd.prog W .any base t v)
    (hW : DataW.Whole enc Tryd.prog Tryd.f4.params.toList Rows.sgrApartSpec.vars false W args.toList ds gs before) (hL : laidMetH Tryd.prog Rows.sgrApartRow.laid W) :
    Calls Tryd.prog 4 args W fun e W' => ∃ v, e = .returned v ∧ Rows.sgrApartSpec.post enc Tryd.prog Tryd.f4 false true false false W args v W' := by
  have hW' := hW
  obtain ⟨p, q, hA0, hV, rfl, hfz, hnd⟩ := hW
  have hA : DataW.TrodAll enc Tryd.prog W 0 (fun _ => true) true Tryd.f4.params.toList args.toList ds p := hA0
  rw [Tryd.params4] at hA hval
  obtain ⟨v0, vs0, d0, ds0, p0, q0, hargs, rfl, rfl, h0, r0⟩ := trodAll_cons hA
  obtain ⟨v1, vs1, d1, ds1, p1, q1, rfl, rfl, rfl, h1, r1⟩ := trodAll_cons r0
  obtain ⟨v2, vs2, d2, ds2, p2, q2, rfl, rfl, rfl, h2, r2⟩ := trodAll_cons r1
  obtain ⟨rfl, rfl, rfl⟩ := trodAll_nil r2
  obtain rfl : args = #[v0, v1, v2] := by cases args; simp_all
  obtain ⟨rfl, rfl⟩ := trodVars_none hV
  obtain ⟨hg, ht⟩ := tables hL
  obtain ⟨l_a, l_n, l_c, rfl, l_k, l_h⟩ := drfs_of2 (hval 0 40 v0 rfl rfl) h0
  obtain ⟨m_a, m_n, m_c, rfl, m_k, m_h⟩ := drfs_of2 (hval 1 40 v1 rfl rfl) h1
  obtain ⟨cs2, rfl, hsz2, hrow2⟩ := arg_struct Tryd.underlying42 (hval 2 42 v2 rfl rfl)
  have hc2 := row_cells (ts := [3, 3, 3, 3, 3, 3, 3, 3]) (by kernel_rfl) (by kernel_rfl) hsz2 hrow2
  obtain ⟨e2_0, e2_1, e2_2, e2_3, e2_4, e2_5, e2_6, e2_7, rfl⟩ := arr8 (hsz2.trans (show Tryd.prog.cellsOf 42 = 8 by kernel_rfl))
  obtain ⟨u2_0, hu2_0, hk2_0⟩ := hc2 0 e2_0 rfl
  obtain rfl : 3 = u2_0 := Option.some.inj hu2_0
  obtain ⟨sa, rfl, q_sa⟩ := cell_int Tryd.underlying3 hk2_0
  have w_sa := range_i64 q_sa
  clear q_sa
  obtain ⟨u2_1, hu2_1, hk2_1⟩ := hc2 1 e2_1 rfl
  obtain rfl : 3 = u2_1 := Option.some.inj hu2_1
  obtain ⟨su, rfl, q_su⟩ := cell_int Tryd.underlying3 hk2_1
  have w_su := range_i64 q_su
  clear q_su
  obtain ⟨u2_2, hu2_2, hk2_2⟩ := hc2 2 e2_2 rfl
  obtain rfl : 3 = u2_2 := Option.some.inj hu2_2
  obtain ⟨sfk, rfl, q_sfk⟩ := cell_int Tryd.underlying3 hk2_2
  have w_sfk := range_i64 q_sfk
  clear q_sfk
  obtain ⟨u2_3, hu2_3, hk2_3⟩ := hc2 3 e2_3 rfl
  obtain rfl : 3 = u2_3 := Option.some.inj hu2_3
  obtain ⟨sfn, rfl, q_sfn⟩ := cell_int Tryd.underlying3 hk2_3
  have w_sfn := range_i64 q_sfn
  clear q_sfn
  obtain ⟨u2_4, hu2_4, hk2_4⟩ := hc2 4 e2_4 rfl
  obtain rfl : 3 = u2_4 := Option.some.inj hu2_4
  obtain ⟨sbk, rfl, q_sbk⟩ := cell_int Tryd.underlying3 hk2_4
  have w_sbk := range_i64 q_sbk
  clear q_sbk
  obtain ⟨u2_5, hu2_5, hk2_5⟩ := hc2 5 e2_5 rfl
  obtain rfl : 3 = u2_5 := Option.some.inj hu2_5
  obtain ⟨sbn, rfl, q_sbn⟩ := cell_int Tryd.underlying3 hk2_5
  have w_sbn := range_i64 q_sbn
  clear q_sbn
  obtain ⟨u2_6, hu2_6, hk2_6⟩ := hc2 6 e2_6 rfl
  obtain rfl : 3 = u2_6 := Option.some.inj hu2_6
  obtain ⟨slk, rfl, q_slk⟩ := cell_int Tryd.underlying3 hk2_6
  have w_slk := range_i64 q_slk
  clear q_slk
  obtain ⟨u2_7, hu2_7, hk2_7⟩ := hc2 7 e2_7 rfl
  obtain rfl : 3 = u2_7 := Option.some.inj hu2_7
  obtain ⟨sln, rfl, q_sln⟩ := cell_int Tryd.underlying3 hk2_7
  have w_sln := range_i64 q_sln
  clear q_sln
  refine (apart_true l_a m_a l_n m_n l_c m_c sa su sfk sfn sbk sbn slk sln (by unfold In64; omega) W l_k l_h.1 l_h.2 m_k m_h.1 m_h.2 hg ht).mono fun e W' ⟨he, g⟩ => ?_
  exact ⟨.bool true, he, law_post (T := 4) hW' laidOut (by kernel_rfl) rfl rfl rfl rfl rfl Tryd.underlying4 g⟩

theorem laid_met (os : Os) : laidMet Tryd.prog Rows.sgrApartRow.laid ((laidWorld os).forCall (fun _ _ => 0) ⟨#[], #[.slice none 0 0, .slice none 0 0, .agg #[.int .i64 0, .int .i64 0, .int .i64 0, .int .i64 0, .int .i64 0, .int .i64 0, .int .i64 0, .int .i64 0]], []⟩).memory :=
  laidMet_of_run' 8 (by kernel_rfl) (by kernel_rfl)
theorem reads (os : Os) {H : Type} (enc : TypeId × Value → H) : ∃ places, DataW.whole enc Tryd.prog ((laidWorld os).forCall (fun _ _ => 0) ⟨#[], #[.slice none 0 0, .slice none 0 0, .agg #[.int .i64 0, .int .i64 0, .int .i64 0, .int .i64 0, .int .i64 0, .int .i64 0, .int .i64 0, .int .i64 0]], []⟩).memory Tryd.f4.params.toList Rows.sgrApartSpec.vars false (#[.slice none 0 0, .slice none 0 0, .agg #[.int .i64 0, .int .i64 0, .int .i64 0, .int .i64 0, .int .i64 0, .int .i64 0, .int .i64 0, .int .i64 0]] : Array Value).toList 8 = some ([.nil, .nil, .agg [.lit (.int .i64 0), .lit (.int .i64 0), .agg [.lit (.int .i64 0), .lit (.int .i64 0)], .agg [.lit (.int .i64 0), .lit (.int .i64 0)], .agg [.lit (.int .i64 0), .lit (.int .i64 0)]]], [], places) :=
  ⟨[], by kernel_rfl⟩

set_option maxRecDepth 100000 in
theorem lifted (os : Os) (started : os.Started) (H : Type) (enc : TypeId × Value → H) (F : Stop.Interp) :
    ReturnsInHanded {} Tryd.checked os 4 .any ((OpenSpec.ofChange Rows.sgrApartSpec).preRow enc Tryd.prog Tryd.f4 Rows.sgrApartRow.domain false Rows.sgrApartRow.laid) (((OpenSpec.ofChange Rows.sgrApartSpec).at F).post enc Tryd.prog Tryd.f4 false true false false) := by
  obtain ⟨places, hx⟩ := reads os enc
  refine returnsInHanded_of_row (C := Tryd.checked) (s := OpenSpec.ofChange Rows.sgrApartSpec) own started (by kernel_rfl) Tryd.func4
    (witness_row_at (enc := enc) (C := Tryd.checked) false (laidWorld os) #[.slice none 0 0, .slice none 0 0, .agg #[.int .i64 0, .int .i64 0, .int .i64 0, .int .i64 0, .int .i64 0, .int .i64 0, .int .i64 0, .int .i64 0]] rfl (by kernel_rfl) (by kernel_rfl) (by kernel_rfl)
      (OpenSpec.preRow_of_cond 8 hx (by kernel_rfl) (fun k hk => by cases hk) (by kernel_rfl) (laid_met os))) ?_
  intro W base args ds gs before hval hW _ _ _ hL _ _
  exact contract H enc W base args ds gs before hval hW hL

theorem said : Rows.SgrApartSaid :=
  OpenClaim.holds_of_cond 4 Tryd.f4 rfl rfl rfl rfl rfl rfl rfl ⟨rfl, rfl, rfl, rfl, rfl⟩ rfl rfl rfl rfl rfl (by kernel_rfl) Tryd.func4 (by kernel_rfl)
    (of_decide_eq_true (by kernel_rfl)) (by unfold Func.isWrapper; first | (rw [if_pos (by decide +kernel)]; kernel_rfl) | (rw [if_neg (by decide +kernel)]; exact ⟨rfl, rfl⟩))
    (fun os started H enc _ F => by rw [OpenClaim.pre_eq_preRow]; exact lifted os started H enc F)

theorem plain (f : FuncId) (fn : Func) (hf : Tryd.pinned.checked.prog.funcNamed "fenestra/fenestralaw09.SgrApart" = some f) (hfn : Tryd.pinned.checked.prog.funcs[f]? = some fn) :
    false = Tryd.pinned.checked.prog.looks [] ∧ ∀ (j : Nat) t, fn.params[j]? = some t → Tryd.pinned.checked.prog.wantsStandIn t = false := by
  obtain rfl : f = 4 := Option.some.inj ((show Tryd.prog.funcNamed "fenestra/fenestralaw09.SgrApart" = some 4 by kernel_rfl).symm.trans hf) |>.symm
  obtain rfl : fn = Tryd.f4 := (Option.some.inj (Tryd.func4.symm.trans hfn)).symm
  refine ⟨by kernel_rfl, fun j t ht => ?_⟩
  rw [Tryd.params4] at ht
  have hm : t ∈ ([40, 40, 42] : List Nat) := by simpa using Array.mem_of_getElem? ht
  have hall : (([40, 40, 42] : List Nat).all fun u => !Tryd.prog.wantsStandIn u) = true := by kernel_rfl
  exact (show Tryd.prog.wantsStandIn t = false by simpa using List.all_eq_true.1 hall t hm)

theorem card : Rows.SgrApartCardSaid :=
  Claim7.holds_tied_plain_at .later [] _ _ _ _ said (fun _ h => by cases h) (by kernel_rfl) (fun _ h => by cases h) sgrApart_row_tie rfl ⟨rfl, rfl⟩ (by kernel_rfl) rfl plain (by kernel_rfl)
#print axioms card
end Go.Proofs.YtobbphkfdhjmdaaDoor.sgrApart

