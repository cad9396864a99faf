/-
  Params: what it answers, whatever the actions. The reference's Params. Appending to a slice that is the call's own, or that has no room (a full one, an empty one): one law for both, whatever the source. No program in sight. Slices of actions as cells. SgrParams.
-/
import Derived.Test.YtobbphkfdhjmdaaDoorRows
import Derived.Test.YtobbphkfdhjmdaaDoorM1
import Derived.Test.YtobbphkfdhjmdaaDoorM4
import Derived.Test.YtobbphkfdhjmdaaDoorM9
import Derived.WalkKit
import Derived.WalkSpells
import Derived.WalkLawsBesides
import Derived.Handy
import Derived.Laws.Rows
import Derived.Great.BuildSlice
import Derived.Deep.Heap
import Derived.IntWalk
import Derived.Lib.Hide
import Derived.Outline
import Derived.Deep.Light
import Derived.Deep.LoopGhost
import Derived.BigGuardPart
import Derived.BigQuiet
import Derived.Deep.QuietTactic
import Derived.Deep.RegionHeld3
import Derived.Deep.DeepCutAuto
import Derived.Laws.Closers25b
import Derived.Test.YtobbphkfdhjmdaaDoorM21
import Derived.Test.YtobbphkfdhjmdaaDoorM22
import Derived.OwnWalk
import Derived.Maps.AppendAt
import Derived.ArgAppend
import Derived.Deep.Upon
import Derived.Test.YtobbphkfdhjmdaaDoorM10
import Derived.Test.YtobbphkfdhjmdaaDoorM2
import Derived.Test.YtobbphkfdhjmdaaDoorM13
import Derived.Test.YtobbphkfdhjmdaaDoorM14
import Derived.Test.YtobbphkfdhjmdaaDoorM15
import Derived.Test.YtobbphkfdhjmdaaDoorM16
import Derived.Deep.MidRow
namespace Go.Proofs.YtobbphkfdhjmdaaDoor
open Go.RowKit

def penOf (a : ActV) : Pen := ⟨a.n, a.m, a.ck, a.cn⟩
theorem errA_pen {a : ActV} (h : errA a = 0) : okPen (penOf a) = true ∧ a = actP (penOf a) := by
  obtain ⟨kd, n, m, ck, cn, s⟩ := a
  have hb : pnB kd n m ck cn s = true := by
    unfold errA pnErr at h
    dsimp only at h
    cases e : pnB kd n m ck cn s with
    | true => rfl
    | false => rw [e] at h; simp at h
  unfold pnB at hb
  simp only [Bool.and_eq_true, beq_iff_eq, decide_eq_true_eq, List.isEmpty_iff] at hb
  obtain ⟨rfl, hs, ⟨h0, h6⟩, hm, hc⟩ := hb
  have hs' : s = ⟨#[]⟩ := (toList_nil_iff_emptyBytes s).1 hs
  subst hs'
  refine ⟨?_, rfl⟩
  unfold penOf okPen
  dsimp only
  unfold mayB at hm
  unfold colB at hc
  by_cases n0 : n = 0
  · subst n0
    simp at hm hc ⊢
    exact ⟨hm, hc⟩
  by_cases n1 : n = 1
  · subst n1
    simp at hm hc ⊢
    exact ⟨by simpa [oneB, okAttr] using hm, hc⟩
  by_cases n2 : n = 2
  · subst n2
    simp at hm hc ⊢
    exact ⟨by simpa [clrB, oneB, okAttr] using hm, hc⟩
  by_cases n3 : n = 3
  · subst n3
    simp at hm hc ⊢
    exact ⟨by simpa [undB] using hm, hc⟩
  rw [if_neg n0, if_neg n1, if_neg n2, if_neg n3]
  rw [if_neg n0, if_neg n1, if_neg n2, if_neg n3] at hm
  rw [if_neg (by omega)] at hc
  have h4 : 4 ≤ n := by omega
  have hm0 : m = 0 := by simpa using hm
  unfold clOk at hc
  simp only [decide_eq_true_eq] at hc
  simp [h4, h6, hm0, okCol]
  omega
theorem errA_vals (a : ActV) : errA a = 0 ∨ errA a = 141 := by
  unfold errA pnErr
  split
  · exact .inl rfl
  · exact .inr rfl
/-- What Params answers: an error, or a row. -/
def prmErr (l : List ActV) : Int := if errs l ≠ 0 then errs l else if 16 < l.length then 3 else 0
def prmRow (l : List ActV) : List (List Int) := if prmErr l = 0 then l.map fun a => toldP (penOf a) else []
theorem errs_zero {l : List ActV} (h : errs l = 0) : ∀ a ∈ l, errA a = 0 := by
  induction l with
  | nil => intro a ha; cases ha
  | cons x l ih =>
    rw [errs] at h
    intro a ha
    by_cases hx : errA x = 0
    · rw [if_pos hx] at h
      rcases List.mem_cons.1 ha with rfl | ha
      · exact hx
      · exact ih h a ha
    · rw [if_neg hx] at h
      exact absurd h hx
theorem errs_of {l : List ActV} (h : ∀ a ∈ l, errA a = 0) : errs l = 0 := by
  induction l with
  | nil => rfl
  | cons x l ih =>
    rw [errs, if_pos (h x (by simp))]
    exact ih fun a ha => h a (by simp [ha])
theorem errs_at {l : List ActV} {k : Nat} (hk : k < l.length) (h : ∀ a ∈ l.take k, errA a = 0) : errs l = errs (l.drop k) := by
  induction l generalizing k with
  | nil => simp at hk
  | cons x l ih =>
    cases k with
    | zero => rfl
    | succ k =>
      rw [errs, if_pos (h x (by simp)), List.drop_succ_cons]
      exact ih (by simpa using hk) fun a ha => h a (by simp [ha])
theorem prm_bad {l : List ActV} {k : Nat} (hk : k < l.length) (h : ∀ a ∈ l.take k, errA a = 0) (hb : errA (l[k]'hk) ≠ 0) : prmErr l = 141 := by
  have e := errs_at hk h
  rw [errs_drop l k hk, if_neg hb] at e
  have hv := (errA_vals (l[k]'hk)).resolve_left hb
  unfold prmErr
  rw [e, hv]
  rfl
theorem prmRow_bad {l : List ActV} {e : Int} (h : prmErr l = e) (he : e ≠ 0) : prmRow l = [] := by
  unfold prmRow
  rw [if_neg (by rw [h]; exact he)]
theorem params13_any (v : Value) (l : List ActV) (w : World) (h : ActsAt w v l) (hok : ∀ a ∈ l, In64 a.m) (hb : l.length ≤ 1000) (hg : GL w) : Calls Tryd.prog 13 #[v] w (fun e w' => ∃ x, e = .returned (.tuple #[x, .int .i64 (prmErr l)]) ∧ RowAt w' x (prmRow l) ∧ Grows w w') := by
  by_cases he : prmErr l = 0
  · have h0 : errs l = 0 := by
      unfold prmErr at he
      by_cases e : errs l = 0
      · exact e
      · rw [if_pos e] at he
        exact absurd he e
    have h16 : l.length ≤ 16 := by
      unfold prmErr at he
      rw [if_neg (by simpa using h0)] at he
      by_cases e : 16 < l.length
      · rw [if_pos e] at he
        cases he
      · omega
    have hz := errs_zero h0
    have hl : l = (l.map penOf).map actP := by
      rw [List.map_map]
      refine (List.map_id l).symm.trans (List.map_congr_left fun a ha => ?_)
      exact (errA_pen (hz a ha)).2
    rw [hl] at h
    refine (params_ok v (l.map penOf) w h (fun p hp => ?_) (by simpa using h16) hg).mono ?_
    · obtain ⟨a, ha, rfl⟩ := List.mem_map.1 hp
      exact (errA_pen (hz a ha)).1
    · rintro e w' ⟨x, rfl, hx, hG⟩
      refine ⟨x, by rw [he], ?_, hG⟩
      unfold prmRow
      rw [if_pos he]
      simpa [List.map_map, Function.comp_def] using hx
  · have hr : prmRow l = [] := prmRow_bad rfl he
    have hc : errs l ≠ 0 ∨ 16 < l.length := by
      by_cases e : errs l = 0
      · refine .inr ?_
        unfold prmErr at he
        rw [if_neg (by simpa using e)] at he
        by_cases e2 : 16 < l.length
        · exact e2
        · rw [if_neg e2] at he
          exact absurd rfl he
      · exact .inl e
    have hE : errOf l = prmErr l := by
      unfold errOf prmErr
      by_cases e : errs l = 0
      · rw [if_pos e, if_neg (by simpa using e), if_pos (hc.resolve_left (fun k => k e))]
      · rw [if_neg e, if_pos e]
    refine (params_err v l w h hok (by unfold maxLen; omega) hc).mono ?_
    rintro e w' ⟨rfl, hG⟩
    exact ⟨_, by rw [hE], by rw [hr]; exact RowAt.nil w', hG⟩
end Go.Proofs.YtobbphkfdhjmdaaDoor

namespace Go.Proofs.YtobbphkfdhjmdaaDoor
open Go.RowKit

set_option maxRecDepth 100000 in
set_option maxHeartbeats 8000000 in
theorem params24_any (v : Value) (l : List ActV) (w : World) (h : ActsAt w v l) (hl : l.length ≤ 1000) : Calls Tryd.prog 24 #[v] w (fun e w' => ∃ x, e = .returned (.tuple #[x, .int .i64 (prmErr l)]) ∧ RowAt w' x (prmRow l) ∧ Grows w w') := by
  obtain ⟨a, cap, rfl, -, hin⟩ := h
  obtain ⟨i0, hi, hz0, hz1, hz2⟩ := info_parts infoPar
  have Hin := Lib.hid hin
  clear hin
  go_enter Tryd.func24, Tryd.ntmps24
  go_wp2_with fail
  go_loopw [4, 5] (fun x i wr' => ∃ (wv : World) (k : Nat) (vs : List Value), wv = wr' ∧ k ≤ l.length ∧ i = .int .i64 k ∧ Grows w wv ∧ (∀ a ∈ l.take k, errA a = 0) ∧ OwnRow w.heap.size 38 wv x ((l.take k).map fun a => toldP (penOf a)) vs) (fun _ i _ => l.length - (intOf i).toNat)
  case atStart => exact ⟨_, 0, [], rfl, Nat.zero_le _, rfl, Grows.refl _, by simp, OwnRow.nil _ _ _⟩
  case round =>
    obtain ⟨wa, k, vs, rfl, hk, rfl, hG, hz, hO⟩ := hrel
    have HG := Lib.hid hG
    have HZ := Lib.hid hz
    have HO := Lib.hid hO
    by_cases hlt : k < l.length
    · have e1 : decide (k < l.length) = true := by simpa using hlt
      have hk' : l[k]?.getD actD = l[k]'hlt := by simp [hlt]
      obtain ⟨b, off, rfl, hb, hc⟩ := (Hin.out.grows hG) (by intro e; rw [e] at hlt; simp at hlt)
      obtain ⟨c0, c1, c2, c3, c4, c5⟩ := hc k hlt
      rw [hk'] at c0 c1 c2 c3 c4 c5
      by_cases her : errA (l[k]'hlt) = 0
      · obtain ⟨hp, hpq⟩ := errA_pen her
        have HZ2 := Lib.hid (show ∀ a ∈ l.take (k + 1), errA a = 0 by
          intro a ha
          rw [List.take_succ_eq_append_getElem hlt] at ha
          rcases List.mem_append.1 ha with ha | ha
          · exact hz a ha
          · rw [List.mem_singleton.1 ha]; exact her)
        have HX := Lib.hid (show (l.take (k + 1)).map (fun a => toldP (penOf a)) = (l.take k).map (fun a => toldP (penOf a)) ++ [toldP (penOf (l[k]'hlt))] by rw [List.take_succ_eq_append_getElem hlt, List.map_append, List.map_singleton])
        have HL := Lib.hid (show ((l.take k).map fun a => toldP (penOf a)).length = k by simp; omega)
        have HC := Lib.hid fun W => rcheckPen_any (l[k]'hlt).kd (l[k]'hlt).n (l[k]'hlt).m (l[k]'hlt).ck (l[k]'hlt).cn (l[k]'hlt).s W
        have her2 : pnErr (l[k]'hlt).kd (l[k]'hlt).n (l[k]'hlt).m (l[k]'hlt).ck (l[k]'hlt).cn (l[k]'hlt).s = 0 := her
        rw [her2] at HC
        have HT := Lib.hid fun W => param39_any (penOf (l[k]'hlt)) hp W
        have hnl : (toldP (penOf (l[k]'hlt))).length ≤ 6 := (okPart_iff.1 (told_okPart hp)).2.1
        clear her her2 hk' hc hp hz
        generalize l[k]'hlt = p at *
        generalize hpp : penOf p = pp at *
        subst hpq
        clear hpp
        simp only [actP] at c0 c1 c2 c3 c4 c5 HC
        generalize hq : toldP pp = q at *
        generalize hrr : ((l.take k).map fun a => toldP (penOf a)) = rr at *
        obtain ⟨pn, pm, pck, pcn⟩ := pp
        dsimp only at c0 c1 c2 c3 c4 c5 HT HC
        have hw0 : w.heap.size ≤ wa.heap.size := hG.size
        have hrl : rr.length ≤ 1000 := by have := HL.out; omega
        have hsz := hO.1.lt
        clear hG hO hrr
        go_wp2_with (first | (go_at_call 38; (with_reducible refine (HC.out _).mono ?_); rintro e w' ⟨rfl, h4, d4, rfl⟩) | (go_at_call 39; (with_reducible refine (HT.out _).mono ?_); rintro e w' ⟨bt, rfl, hbt, hr, ⟨h1, d1, rfl⟩⟩) | (at_builtin; refine wpList_append_own_at _ rfl (.tmp 18) (.tmp 24) 29 rfl w.heap.size 38 i0 (.agg #[.slice none 0 0]) 1 24 Tryd.underlying29 hi hz0 hz1 hz2 rfl (by decide) _ _ _ rfl (((HO.out.grows (by repeat' (first | (with_reducible exact Grows.refl _) | (with_reducible refine Grows.alloc ?_ _) | (with_reducible refine Grows.drew ?_) | (with_reducible refine Grows.ext ?_ _ _)))).1).alloc _) ⟨wa.heap.size + (h4.size + h1.size), 0, none⟩ 1 1 [.slice (some ⟨bt, 0, none⟩) q.length q.length] rfl rfl (cell_at (by simp)) (by simp [Value.oneCell']) (by unfold maxLen; omega) (by omega) (by simp; omega) ?_; intro v' w1 hown' hgrow _ hat))
        rw [ext_ext (d := d4)] at hr
        have hO2 := (HO.out.grows (by repeat' (first | (with_reducible exact Grows.refl _) | (with_reducible refine Grows.alloc ?_ _) | (with_reducible refine Grows.drew ?_) | (with_reducible refine Grows.ext ?_ _ _)))).snoc (told_ints hr) (fun b' e => by
          injection e with e
          subst e
          refine ⟨(Array.getElem?_eq_some_iff.1 hr).1, fun e2 => ?_⟩
          have := (hsz _ e2).2
          simp at hbt
          dsimp only at this e2
          omega) hown' hgrow (hat.elim (fun h => .inl h) (fun h => .inr (h.trans (by simp; try omega))))
        rw [← HX.out] at hO2
        have hG2 : Grows w w1 := Grows.of_below ((HG.out.trans (by repeat' (first | (with_reducible exact Grows.refl _) | (with_reducible refine Grows.alloc ?_ _) | (with_reducible refine Grows.drew ?_) | (with_reducible refine Grows.ext ?_ _ _)))).below.grown hgrow (by simp; omega) (fun q e => (hsz q e).1))
        clear hgrow hown' hat
        go_wp2_with fail
        go_roundw
        case rel => exact ⟨_, k + 1, _, rfl, by omega, by go_num, hG2, HZ2.out, hO2⟩
        case measure => simp [intOf]; omega
      · have HE := Lib.hid (prm_bad hlt hz her)
        have hv := (errA_vals (l[k]'hlt)).resolve_left her
        have HC := Lib.hid fun W => rcheckPen_any (l[k]'hlt).kd (l[k]'hlt).n (l[k]'hlt).m (l[k]'hlt).ck (l[k]'hlt).cn (l[k]'hlt).s W
        have hv2 : pnErr (l[k]'hlt).kd (l[k]'hlt).n (l[k]'hlt).m (l[k]'hlt).ck (l[k]'hlt).cn (l[k]'hlt).s = 141 := hv
        rw [hv2] at HC
        clear her hv hv2 hk' hc hz hG hO
        generalize l[k]'hlt = p at *
        obtain ⟨pkd, pn, pm, pck, pcn, ps⟩ := p
        dsimp only at c0 c1 c2 c3 c4 c5 HC
        go_wp2_with (go_at_call 38; (with_reducible refine (HC.out _).mono ?_); rintro e w' ⟨rfl, h4, d4, rfl⟩)
        go_ret2
        exact ⟨_, by rw [HE.out]; rfl, by rw [prmRow_bad HE.out (by decide)]; exact RowAt.nil _, HG.out.trans (by repeat' (first | (with_reducible exact Grows.refl _) | (with_reducible refine Grows.alloc ?_ _) | (with_reducible refine Grows.drew ?_) | (with_reducible refine Grows.ext ?_ _ _)))⟩
    · have e1 : decide (k < l.length) = false := by simp; omega
      have et : l.take k = l := List.take_of_length_le (by omega)
      rw [et] at hz hO
      have h0 := errs_of hz
      by_cases h16 : 16 < l.length
      · have e2 : decide ((l.length : Int) > 16) = true := by simp; omega
        have HE := Lib.hid (show prmErr l = 3 by unfold prmErr; rw [if_neg (by simpa using h0), if_pos h16])
        clear hG hz hO h0 et
        go_wp2_with fail
        go_ret2
        exact ⟨_, by rw [HE.out]; rfl, by rw [prmRow_bad HE.out (by decide)]; exact RowAt.nil _, HG.out⟩
      · have e2 : decide ((l.length : Int) > 16) = false := by simp; omega
        have HE := Lib.hid (show prmErr l = 0 by unfold prmErr; rw [if_neg (by simpa using h0), if_neg h16])
        have HO2 := Lib.hid hO
        clear hG hz hO h0 et
        go_wp2_with fail
        go_ret2
        exact ⟨_, by rw [HE.out]; rfl, by unfold prmRow; rw [if_pos HE.out]; exact HO2.out.at_, HG.out⟩
end Go.Proofs.YtobbphkfdhjmdaaDoor

namespace Go.Proofs.YtobbphkfdhjmdaaDoor
open Go.RowKit
/-- What a slice reads as: n elements, the cells xs. -/
def CellsAt (size : Nat) (w : World) (v : Value) (n : Nat) (xs : List Value) : Prop :=
  xs.length = n * size ∧ ∃ a c, v = .slice a n c ∧ n ≤ c ∧ (n ≠ 0 → ∃ b off, a = some ⟨b, off, none⟩ ∧ b < w.heap.size ∧ ∀ j u, xs[j]? = some u → w.cell? ⟨b, off + j, none⟩ = some u)
/-- A slice that may be appended to: one of the call's own, or one without room. -/
def DstAt (base : Nat) (e : TypeId) (size : Nat) (w : World) (v : Value) (n : Nat) (xs : List Value) : Prop :=
  w.ownsRow base e size v n xs ∨ (CellsAt size w v n xs ∧ ∃ a, v = .slice a n n)
theorem CellsAt.grows {size : Nat} {w w' : World} {v : Value} {n : Nat} {xs : List Value} (h : CellsAt size w v n xs) (g : Grows w w') : CellsAt size w' v n xs := by
  obtain ⟨hl, a, c, rfl, hc, hin⟩ := h
  refine ⟨hl, a, c, rfl, hc, fun hn => ?_⟩
  obtain ⟨b, off, ha, hb, hx⟩ := hin hn
  obtain ⟨h, d, rfl⟩ := g
  exact ⟨b, off, ha, by simp; omega, fun j u hj => (ext_cell _ _ _ _ _ hb).trans (hx j u hj)⟩
theorem CellsAt.kept {size : Nat} {w w' : World} {v : Value} {n : Nat} {xs : List Value} {row : Option Nat} (h : CellsAt size w v n xs) (g : w.grownBy w' row) (hr : ∀ k, row = some k → v.ownBlock ≠ some k) : CellsAt size w' v n xs := by
  obtain ⟨hl, a, c, rfl, hc, hin⟩ := h
  refine ⟨hl, a, c, rfl, hc, fun hn => ?_⟩
  obtain ⟨b, off, rfl, hb, hx⟩ := hin hn
  have hk : w'.heap[b]? = w.heap[b]? := g.block b hb (fun e => hr b e.symm rfl)
  exact ⟨b, off, rfl, Nat.lt_of_lt_of_le hb g.size, fun j u hj => (World.cell?_of_block (w := w) hk).trans (hx j u hj)⟩
theorem ownsRow_cells {base : Nat} {e : TypeId} {size : Nat} {w : World} {v : Value} {n : Nat} {xs : List Value} (h : w.ownsRow base e size v n xs) : CellsAt size w v n xs := by
  have hx := h
  obtain ⟨hl, ⟨rfl, rfl⟩ | ⟨g, cap, cur, rfl, hb, hh, hc, hm, hs, ht⟩⟩ := h
  · exact ⟨hl, none, 0, rfl, Nat.le_refl _, fun h => absurd rfl h⟩
  · refine ⟨hl, _, cap, rfl, hc, fun _ => ⟨g, 0, rfl, (Array.getElem?_eq_some_iff.1 hh).1, fun j u hj => ?_⟩⟩
    have := World.ownsRow.cells hx (g := g) rfl j u hj
    rwa [Addr.add_lit] at this
theorem DstAt.cells {base : Nat} {e : TypeId} {size : Nat} {w : World} {v : Value} {n : Nat} {xs : List Value} (h : DstAt base e size w v n xs) : CellsAt size w v n xs := h.elim ownsRow_cells (·.1)
theorem ownsRow_mono {base base' : Nat} {e : TypeId} {size : Nat} {w : World} {v : Value} {n : Nat} {xs : List Value} (h : w.ownsRow base e size v n xs) (hb : base' ≤ base) : w.ownsRow base' e size v n xs := by
  obtain ⟨hl, h | ⟨g, cap, cur, hv, hg, r⟩⟩ := h
  · exact ⟨hl, .inl h⟩
  · exact ⟨hl, .inr ⟨g, cap, cur, hv, Nat.le_trans hb hg, r⟩⟩
theorem ownsRow_grows {w w' : World} {base : Nat} {e : TypeId} {size : Nat} {v : Value} {n : Nat} {xs : List Value} (h : w.ownsRow base e size v n xs) (g : Grows w w') : w'.ownsRow base e size v n xs := by
  obtain ⟨hl, h | ⟨b, cap, cur, rfl, hb, hh, hc, hm, hs, ht⟩⟩ := h
  · exact ⟨hl, .inl h⟩
  · exact ⟨hl, .inr ⟨b, cap, cur, rfl, hb, (g.below.block b (Array.getElem?_eq_some_iff.1 hh).1).trans hh, hc, hm, hs, ht⟩⟩
theorem DstAt.grows {base : Nat} {e : TypeId} {size : Nat} {w w' : World} {v : Value} {n : Nat} {xs : List Value} (h : DstAt base e size w v n xs) (g : Grows w w') : DstAt base e size w' v n xs := by
  rcases h with h | ⟨h, hv⟩
  · exact .inl (ownsRow_grows h g)
  · exact .inr ⟨h.grows g, hv⟩
theorem DstAt.nil (base : Nat) (e : TypeId) (size : Nat) (w : World) : DstAt base e size w (.slice none 0 0) 0 [] := .inl (World.ownsRow_nil _ _ _ _)
/-- A slice of no elements and no room. -/
theorem DstAt.none_ (base : Nat) (e : TypeId) (size : Nat) (w : World) (a : Option Addr) : DstAt base e size w (.slice a 0 0) 0 [] := .inr ⟨⟨by simp, a, 0, rfl, Nat.le_refl _, fun h => absurd rfl h⟩, a, rfl⟩
theorem src_none {P : Program} {size : Nat} {tx e' : TypeId} (w : World) (hk : P.underlying tx = some (.slice e')) (a : Option Addr) (c : Nat) : Src P size tx (.slice a 0 c) 0 [] w := by
  refine ⟨.inl ⟨e', hk⟩, fun w' => ?_, ?_, ?_, by simp, by simp⟩
  · simp [Builtin.lenOf]
  · cases a <;> simp [Builtin.firstCells, loadCells, loadCellsFrom]
  · cases a <;> simp [Builtin.firstCells, loadCells, loadCellsFrom]
theorem appended_grows {w0 w w1 : World} {row : Option Nat} (g : Grows w0 w) (h : w.grownBy w1 row) (hr : ∀ k, row = some k → w0.heap.size ≤ k) : Grows w0 w1 := by
  have b := g.below
  refine Grows.of_below ⟨h.os.trans b.os, h.tape.trans b.tape, h.output.trans b.output, Nat.le_trans b.size h.size, fun k hk => (h.block k (Nat.lt_of_lt_of_le hk b.size) ?_).trans (b.block k hk)⟩
  intro e
  have := hr k e.symm
  omega
/-- Appending, as a run. -/
theorem run_app {P : Program} (w : World) (t ty : TypeId)
    (base : Nat) (e : TypeId) (i : TypeInfo) (z : Value) (size bytes : Nat) (h1 : P.underlying t = some (.slice e)) (h2 : P.info? e = some i) (h3 : i.zero = some z) (h4 : i.size = size) (h5 : i.bytes = bytes) (h6 : z.cells.size = size) (h7 : 0 < size)
    (n m : Nat) (xs ys : List Value) (v x : Value) (hd : DstAt base e size w v n xs) (hs : CellsAt size w x m ys) (hone : ∀ u ∈ ys, u.oneCell' = true) (b1 : n + m ≤ maxLen) (b2 : (n + m) * bytes ≤ 140737488355328) (hb : base ≤ w.heap.size) :
    ∃ v' w' row, (Builtin.append_ #[t, t] ty #[v, x]).run P w = .ok v' w' ∧ DstAt base e size w' v' (n + m) (xs ++ ys) ∧ w.grownBy w' row ∧ (∀ k, row = some k → base ≤ k ∧ k < w.heap.size ∧ v.ownBlock = some k) ∧ (v'.ownBlock = v.ownBlock ∨ ∃ k, w.heap.size ≤ k ∧ k < w'.heap.size ∧ v'.ownBlock = some k) := by
  obtain ⟨hl, ax, cx, hx, hcx, hin⟩ := hs
  subst hx
  by_cases hm : m = 0
  · subst hm
    obtain rfl : ys = [] := List.length_eq_zero_iff.1 (by simpa using hl)
    have hval : ∃ ao c, v = .slice ao n c ∧ n ≤ c := by
      obtain ⟨-, ao, c, e1, e2, -⟩ := hd.cells
      exact ⟨ao, c, e1, e2⟩
    obtain ⟨ao, c, hv, hc⟩ := hval
    subst hv
    exact ⟨_, w, none, run_append_nothing (P := P) w t t ty e i h1 h2 ao n c hc _ (src_none w h1 ax cx), by simpa using hd, ⟨rfl, rfl, rfl, Nat.le_refl _, fun _ _ _ => rfl⟩, (fun k e => by cases e), .inl rfl⟩
  · obtain ⟨b, off, rfl, hbx, hcell⟩ := hin hm
    have hcell' : ∀ j u, ys[j]? = some u → w.cell? ((⟨b, off, none⟩ : Addr).add j) = some u := fun j u hj => by rw [Addr.add_lit]; exact hcell j u hj
    rcases hd with hd | ⟨⟨hlx, ad, cd, hv, hcd, hdin⟩, af, hf⟩
    · obtain ⟨v', w', q0, q1, q2, _, q4⟩ := run_append_own_at (P := P) w base t ty e i z size bytes h1 h2 h3 h4 h5 h6 h7 _ n xs hd ⟨b, off, none⟩ m cx ys hl hcell' hone b1 b2 hb
      refine ⟨v', w', _, q0, .inl q1, q2, (fun k ek => ?_), (q4.imp id (fun e => ⟨_, Nat.le_refl _, (q1.lt _ e).2, e⟩))⟩
      have := hd.lt k ek
      exact ⟨this.1, this.2, ek⟩
    · subst hf
      injection hv with e1 _ e3
      subst e1 e3
      have key : ∃ v' w', (Builtin.append_ #[t, t] ty #[.slice af n n, .slice (some ⟨b, off, none⟩) m cx]).run P w = .ok v' w' ∧ w'.ownsRow w.heap.size e size v' (n + m) (xs ++ ys) ∧ w.grownBy w' none := by
        by_cases hn : n = 0
        · subst hn
          obtain rfl : xs = [] := List.length_eq_zero_iff.1 (by simpa using hlx)
          cases af with
          | none =>
            obtain ⟨v', w', q0, q1, q2, _⟩ := run_append_own (P := P) w w.heap.size t ty e i z size bytes h1 h2 h3 h4 h5 h6 h7 (.slice none 0 0) 0 [] (World.ownsRow_nil w _ e size) ⟨b, off, none⟩ m cx ys hl hcell' hone b1 b2 (Nat.le_refl _)
            exact ⟨v', w', q0, q1, q2⟩
          | some ad => exact run_append_arg_grows (P := P) w t ty e i z size bytes h1 h2 h3 h4 h5 h6 h7 ad 0 0 [] (by simp) (fun j u hj => by simp at hj) ⟨b, off, none⟩ m cx ys hl hcell' (Nat.lt_add_of_pos_right (Nat.pos_of_ne_zero hm)) b1 b2
        · obtain ⟨b2', off2, e2, _, hc2⟩ := hdin hn
          subst e2
          exact run_append_arg_grows (P := P) w t ty e i z size bytes h1 h2 h3 h4 h5 h6 h7 ⟨b2', off2, none⟩ n n xs hlx (fun j u hj => by rw [Addr.add_lit]; exact hc2 j u hj) ⟨b, off, none⟩ m cx ys hl hcell' (Nat.lt_add_of_pos_right (Nat.pos_of_ne_zero hm)) b1 b2
      obtain ⟨v', w', q0, q1, q2⟩ := key
      refine ⟨v', w', none, q0, .inl (ownsRow_mono q1 hb), q2, (fun k e => by cases e), ?_⟩
      have q3 := q1.lt
      obtain ⟨_, ⟨rfl, hz⟩ | ⟨g, cap, cur, rfl, hg', _⟩⟩ := q1
      · exact absurd (Nat.eq_zero_of_add_eq_zero_left hz) hm
      · exact .inr ⟨g, hg', (q3 g rfl).2, rfl⟩
theorem wp_app {P : Program} (w : World) {o : Oper} {a : Act} {K : Act → World → Prop} {Q : Exit → Act → World → Prop} (s x : Operand) (t : TypeId)
    (hop : o.op = .call { callee := .builtin .append, args := #[s, x], argTypes := #[t, t] })
    (base : Nat) (e : TypeId) (i : TypeInfo) (z : Value) (size bytes : Nat) (h1 : P.underlying t = some (.slice e)) (h2 : P.info? e = some i) (h3 : i.zero = some z) (h4 : i.size = size) (h5 : i.bytes = bytes) (h6 : z.cells.size = size) (h7 : 0 < size)
    (n m : Nat) (xs ys : List Value) (hd : DstAt base e size w (a.eval s) n xs) (hs : CellsAt size w (a.eval x) m ys) (hone : ∀ u ∈ ys, u.oneCell' = true) (b1 : n + m ≤ maxLen) (b2 : (n + m) * bytes ≤ 140737488355328) (hb : base ≤ w.heap.size)
    (hK : ∀ v' w' row, DstAt base e size w' v' (n + m) (xs ++ ys) → w.grownBy w' row → (∀ k, row = some k → base ≤ k ∧ k < w.heap.size ∧ (a.eval s).ownBlock = some k) → (v'.ownBlock = (a.eval s).ownBlock ∨ ∃ k, w.heap.size ≤ k ∧ k < w'.heap.size ∧ v'.ownBlock = some k) → K (a.put o.dst v') w') :
    o.wp P a w K Q := by
  obtain ⟨v', w', row, hr, q1, q2, q3, q4⟩ := run_app (P := P) w t o.type base e i z size bytes h1 h2 h3 h4 h5 h6 h7 n m xs ys _ _ hd hs hone b1 b2 hb
  unfold Oper.wp execOp
  simp only [hop, resolve, invoke, builtin, Sem.run_bind, Sem.run_pure, Result.andThen_ok, List.map_toArray, List.map_cons, List.map_nil, hr]
  exact hK v' w' row q1 q2 q3 q4
theorem wpList_app {P : Program} (w : World) {ops : Array Oper} {rest : List Oper} {o : Oper} {a : Act} {Q : Exit → Act → World → Prop} (hg : o.guard = none) (s x : Operand) (t : TypeId)
    (hop : o.op = .call { callee := .builtin .append, args := #[s, x], argTypes := #[t, t] })
    (base : Nat) (e : TypeId) (i : TypeInfo) (z : Value) (size bytes : Nat) (h1 : P.underlying t = some (.slice e)) (h2 : P.info? e = some i) (h3 : i.zero = some z) (h4 : i.size = size) (h5 : i.bytes = bytes) (h6 : z.cells.size = size) (h7 : 0 < size)
    (n m : Nat) (xs ys : List Value) (hd : DstAt base e size w (a.eval s) n xs) (hs : CellsAt size w (a.eval x) m ys) (hone : ∀ u ∈ ys, u.oneCell' = true) (b1 : n + m ≤ maxLen) (b2 : (n + m) * bytes ≤ 140737488355328) (hb : base ≤ w.heap.size)
    (hK : ∀ v' w' row, DstAt base e size w' v' (n + m) (xs ++ ys) → w.grownBy w' row → (∀ k, row = some k → base ≤ k ∧ k < w.heap.size ∧ (a.eval s).ownBlock = some k) → (v'.ownBlock = (a.eval s).ownBlock ∨ ∃ k, w.heap.size ≤ k ∧ k < w'.heap.size ∧ v'.ownBlock = some k) → wpList P ops Q rest (a.put o.dst v') w') :
    wpList P ops Q (o :: rest) a w :=
  wpList_plain hg fun _ hK' => wp_app w s x t hop base e i z size bytes h1 h2 h3 h4 h5 h6 h7 n m xs ys hd hs hone b1 b2 hb fun v' w' row q1 q2 q3 q4 => hK' _ _ (hK v' w' row q1 q2 q3 q4)
end Go.Proofs.YtobbphkfdhjmdaaDoor

namespace Go.Proofs.YtobbphkfdhjmdaaDoor
open Go.RowKit

theorem acts_cells {w : World} {v : Value} {l : List ActV} (h : ActsAt w v l) : CellsAt 6 w v l.length (actsC l) := by
  obtain ⟨a, cap, rfl, hc, hin⟩ := h
  refine ⟨actsC_len l, a, cap, rfl, hc, fun hn => ?_⟩
  obtain ⟨b, off, rfl, hb, hx⟩ := hin (by intro e; subst e; exact hn rfl)
  refine ⟨b, off, rfl, hb, fun j u hj => ?_⟩
  have hjl : j < l.length * 6 := by
    rw [← actsC_len l]
    exact (List.getElem?_eq_some_iff.1 hj).1
  obtain ⟨i, r, hr, rfl⟩ : ∃ i r, r < 6 ∧ j = i * 6 + r := ⟨j / 6, j % 6, Nat.mod_lt _ (by omega), by omega⟩
  have hi : i < l.length := by omega
  rw [actsC_get l i r hi hr] at hj
  obtain ⟨c0, c1, c2, c3, c4, c5⟩ := hx i hi
  rw [← Nat.add_assoc]
  obtain rfl | rfl | rfl | rfl | rfl | rfl : r = 0 ∨ r = 1 ∨ r = 2 ∨ r = 3 ∨ r = 4 ∨ r = 5 := by omega
  · rw [← (Option.some.inj hj : Value.int .i64 _ = u)]; exact c0
  · rw [← (Option.some.inj hj : Value.int .i64 _ = u)]; exact c1
  · rw [← (Option.some.inj hj : Value.int .i64 _ = u)]; exact c2
  · rw [← (Option.some.inj hj : Value.int .i64 _ = u)]; exact c3
  · rw [← (Option.some.inj hj : Value.int .i64 _ = u)]; exact c4
  · rw [← (Option.some.inj hj : Value.string _ = u)]; exact c5
theorem cells_acts {w : World} {v : Value} {l : List ActV} {n : Nat} (hn : l.length = n) (h : CellsAt 6 w v n (actsC l)) : ActsAt w v l := by
  subst hn
  obtain ⟨-, a, cap, rfl, hc, hin⟩ := h
  refine ⟨a, cap, rfl, hc, fun hne => ?_⟩
  obtain ⟨b, off, rfl, hb, hx⟩ := hin (by intro e; exact hne (List.length_eq_zero_iff.1 e))
  refine ⟨b, off, rfl, hb, fun i hi => ?_⟩
  have hat : ∀ j v, j < 6 → (actC (l[i]?.getD actD))[j]? = some v → w.cell? ⟨b, off + i * 6 + j, none⟩ = some v := fun j v hj hv => by
    have := hx (i * 6 + j) v ((actsC_get l i j hi hj).trans hv)
    rwa [← Nat.add_assoc] at this
  exact ⟨hat 0 _ (by omega) rfl, hat 1 _ (by omega) rfl, hat 2 _ (by omega) rfl, hat 3 _ (by omega) rfl, hat 4 _ (by omega) rfl, hat 5 _ (by omega) rfl⟩
theorem actsC_one {l : List ActV} : ∀ u ∈ actsC l, u.oneCell' = true := by
  intro u hu
  unfold actsC at hu
  obtain ⟨a, -, ha⟩ := List.mem_flatMap.1 hu
  simp only [actC, List.mem_cons, List.not_mem_nil, or_false] at ha
  rcases ha with rfl | rfl | rfl | rfl | rfl | rfl <;> rfl
theorem OwnA.dst {w : World} {base : Nat} {v : Value} {l : List ActV} (h : OwnA w base v l) : DstAt base 26 6 w v l.length (actsC l) := .inl h
end Go.Proofs.YtobbphkfdhjmdaaDoor

namespace Go.Proofs.YtobbphkfdhjmdaaDoor
open Go.RowKit

theorem acts_cellsn {w : World} {v : Value} {l : List ActV} {n : Nat} (hn : l.length = n) (h : ActsAt w v l) : CellsAt 6 w v n (actsC l) := hn ▸ acts_cells h
theorem dst_shape {base : Nat} {e : TypeId} {size : Nat} {w : World} {v : Value} {n : Nat} {xs : List Value} (h : DstAt base e size w v (0 + n) ([] ++ xs)) : ∃ a c, v = .slice a n c ∧ CellsAt size w (.slice a n c) n xs := by
  rw [Nat.zero_add, List.nil_append] at h
  have hc := h.cells
  obtain ⟨-, a, c, rfl, -, -⟩ := id hc
  exact ⟨a, c, rfl, hc⟩
theorem own_shape {base : Nat} {e : TypeId} {size : Nat} {w : World} {v : Value} {n : Nat} {xs : List Value} (hn : 0 < n) (h : w.ownsRow base e size v (0 + n) ([] ++ xs)) : ∃ g c, v = .slice (some ⟨g, 0, none⟩) n c ∧ base ≤ g ∧ w.ownsRow base e size (.slice (some ⟨g, 0, none⟩) n c) n xs := by
  rw [Nat.zero_add, List.nil_append] at h
  obtain ⟨hl, ⟨rfl, e0⟩ | ⟨g, c, cur, rfl, hb, r⟩⟩ := h
  · omega
  · exact ⟨g, c, rfl, hb, hl, .inr ⟨g, c, cur, rfl, hb, r⟩⟩
theorem own_mut {w : World} {base g n c : Nat} {l : List ActV} (h : w.ownsRow base 26 6 (.slice (some ⟨g, 0, none⟩) n c) n (actsC l)) (hn : l.length = n) : MutA w g l := by
  subst hn
  have hx := World.ownsRow.cells h (g := g) rfl
  obtain ⟨hl, ⟨e, -⟩ | ⟨g', cap, cur, e, hb, hh, -⟩⟩ := h
  · cases e
  · injection e with e1 e2 e3
    injection e1 with e1
    injection e1 with e1
    subst e1
    refine ⟨(Array.getElem?_eq_some_iff.1 hh).1, fun i hi j v hv => ?_, fun j => frozen_of_row w g j _ 26 hh⟩
    have hj : j < 6 := (List.getElem?_eq_some_iff.1 hv).1
    have := hx (i * 6 + j) v ((actsC_get l i j hi hj).trans hv)
    rwa [Addr.add_lit, Nat.zero_add] at this
theorem mut_set_at {W W' : World} {g n c k : Nat} {l : List ActV} {a : ActV} (h : MutA W g l) (hg : Grows W W') (hk : k < l.length) (hn : l.length = n) (hc : n ≤ c) :
    ActsAt (W'.setCells g (k * 6) (#[.int .i64 a.kd, .int .i64 a.n, .int .i64 a.m, .int .i64 a.ck, .int .i64 a.cn, .string a.s] : Array Value).toList) (.slice (some ⟨g, 0, none⟩) n c) (l.set k a) := by
  have h2 := ((h.grows hg).set hk a).at_ (cap := c) (by rw [List.length_set]; omega)
  rw [List.length_set, hn] at h2
  exact h2
theorem prmRow_ok (l : List ActV) (hl : l.length ≤ 1000) : (prmRow l).length ≤ 100000 ∧ ∀ p ∈ prmRow l, p.length ≤ 100000 := by
  unfold prmRow
  by_cases he : prmErr l = 0
  · rw [if_pos he]
    refine ⟨by simp; omega, fun p hp => ?_⟩
    obtain ⟨a, ha, rfl⟩ := List.mem_map.1 hp
    have h0 : errs l = 0 := by
      unfold prmErr at he
      by_cases e : errs l = 0
      · exact e
      · rw [if_pos e] at he
        exact absurd he e
    have := (okPart_iff.1 (told_okPart (errA_pen (errs_zero h0 a ha)).1)).2.1
    omega
  · rw [if_neg he]
    exact ⟨by simp, fun p hp => by cases hp⟩
theorem ix65_0 (a b e : Option Addr) (n m k c d f : Nat) (w : World) : (Instr.index 65 (.agg #[.slice a n c, .slice b m d, .slice e k f]) (.int .i64 0)).run Tryd.prog w = .ok (.slice a n c) w := by kernel_rfl
theorem ix65_1 (a b e : Option Addr) (n m k c d f : Nat) (w : World) : (Instr.index 65 (.agg #[.slice a n c, .slice b m d, .slice e k f]) (.int .i64 1)).run Tryd.prog w = .ok (.slice b m d) w := by kernel_rfl
theorem ix65_2 (a b e : Option Addr) (n m k c d f : Nat) (w : World) : (Instr.index 65 (.agg #[.slice a n c, .slice b m d, .slice e k f]) (.int .i64 2)).run Tryd.prog w = .ok (.slice e k f) w := by kernel_rfl
theorem jndex0 (w : World) (ρ : Operand → Value) {o : Oper} (ho : o.op = .index 65 (.tmp 60) (.tmp 61)) {a b e : Option Addr} {n m k c d f : Nat} (h1 : ρ (.tmp 60) = .agg #[.slice a n c, .slice b m d, .slice e k f]) (h2 : ρ (.tmp 61) = .int .i64 0) : (execOp ρ o).run Tryd.prog w = .ok (.value (.slice a n c)) w := by
  simp [execOp, ho, h1, h2, ix65_0]
theorem jndex1 (w : World) (ρ : Operand → Value) {o : Oper} (ho : o.op = .index 65 (.tmp 60) (.tmp 61)) {a b e : Option Addr} {n m k c d f : Nat} (h1 : ρ (.tmp 60) = .agg #[.slice a n c, .slice b m d, .slice e k f]) (h2 : ρ (.tmp 61) = .int .i64 1) : (execOp ρ o).run Tryd.prog w = .ok (.value (.slice b m d)) w := by
  simp [execOp, ho, h1, h2, ix65_1]
theorem jndex2 (w : World) (ρ : Operand → Value) {o : Oper} (ho : o.op = .index 65 (.tmp 60) (.tmp 61)) {a b e : Option Addr} {n m k c d f : Nat} (h1 : ρ (.tmp 60) = .agg #[.slice a n c, .slice b m d, .slice e k f]) (h2 : ρ (.tmp 61) = .int .i64 2) : (execOp ρ o).run Tryd.prog w = .ok (.value (.slice e k f)) w := by
  simp [execOp, ho, h1, h2, ix65_2]
set_option maxRecDepth 100000 in
set_option maxHeartbeats 20000000 in
theorem params_true (oa : Option Addr) (len cap : Nat) (kd n m ck cn : Int) (s : ByteArray) (hm : In64 m) (at' : Int) (hat0 : 0 ≤ at') (hat1 : at' < 256) (w : World) (_hlc : len ≤ cap) (hlm : len ≤ 9223372036854775807) (hd : DrfsIn w oa len) (hg : GL w) (ht : GT w) :
    Calls Tryd.prog 7 #[.slice oa len cap, .agg #[.int .i64 kd, .int .i64 n, .int .i64 m, .int .i64 ck, .int .i64 cn, .string s], .int .u8 at'] w (Ret (.bool true) w) := by
  obtain ⟨i0, hi, hz0, hz1, hz2⟩ := info_parts infoAct
  have HD := Lib.hid hd
  have HGL := Lib.hid hg
  have HGT := Lib.hid ht
  have HM := Lib.hid hm
  clear hd hg ht hm
  go_enter Tryd.func7, Tryd.ntmps7
  go_upto_region 2 with fail
  generalize s.extract 0 (min (s.size : Int) 10).toNat = s1
  refine abs_worldM (fun W => W.heap.size = w.heap.size + 1 ∧ Grows w W ∧ W.heap[w.heap.size]? = some (.cells #[.int .i64 kd, .int .i64 n, .int .i64 m, .int .i64 ck, .int .i64 cn, .string s1] 26 (0, 0))) ⟨by simp, (by repeat' (first | (with_reducible exact Grows.refl _) | (with_reducible refine Grows.alloc ?_ _) | (with_reducible refine Grows.drew ?_) | (with_reducible refine Grows.ext ?_ _ _))), heap_alloc_new w _⟩ ?_
  rintro W0 ⟨hs0, hG0, hZ0⟩
  have HZ0 := Lib.hid hZ0
  have HG0 := Lib.hid hG0
  clear hZ0 hG0
  go_wp2_with fail
  go_loopw [7, 8] (fun x i wr' => ∃ (wv : World) (k : Nat) (ps : List Pen), wv = wr' ∧ k ≤ 20 ∧ k ≤ len ∧ i = .int .i64 k ∧ Grows W0 wv ∧ ps.length = k ∧ (∀ p ∈ ps, okPen p = true) ∧ wv.ownsRow (w.heap.size + 1) 26 6 x k (actsC (ps.map actP))) (fun _ i _ => 20 - (intOf i).toNat)
  case atStart => exact ⟨_, 0, [], rfl, Nat.zero_le _, Nat.zero_le _, rfl, Grows.refl _, rfl, by simp, World.ownsRow_nil _ _ _ _⟩
  case round =>
    obtain ⟨wb, k, ps, rfl, hk, hkl, rfl, hG, hps, hok, hO⟩ := hrel
    by_cases hlt : k < 20 ∧ k < len
    · obtain ⟨l1, l2⟩ := hlt
      have e1 : decide (k < len) = true := by simpa using l2
      have e2 : decide (k < 20) = true := by simpa using l1
      obtain ⟨bl, off, F, rfl, hbl, hF⟩ := (HD).out (by omega)
      obtain ⟨hFo, hFa⟩ := hF k l2
      obtain ⟨p, hp, hP⟩ := drf_pen hFo
      unfold actV at hP
      have HP := Lib.hid hP
      obtain ⟨t0, t1, t2, t3, t4, t5, t6, t7⟩ := hFa.grows (HG0.out.trans hG)
      have xb := Nat.lt_of_lt_of_le hbl (HG0.out.trans hG).size
      have HG := Lib.hid hG
      have HO := Lib.hid hO
      have hsz := hO.lt
      have hws := hG.size
      clear hF hFo hFa hP hG hO
      generalize F k = d at *
      obtain ⟨da, du, dw, dm, q0, q1, q2, q3⟩ := d
      dsimp only at t0 t1 t2 t3 t4 t5 t6 t7 HP
      obtain ⟨pn, pm, pck, pcn⟩ := p
      dsimp only at HP
      go_wp2_with (first | (go_at_call 16; (with_reducible refine (HP.out _).mono ?_); rintro e w' ⟨rfl, h3, d3, rfl⟩) | (at_builtin; refine wpList_append_own _ rfl (.tmp 34) (.tmp 40) 33 rfl (w.heap.size + 1) 26 i0 _ 6 56 Tryd.underlying33 hi hz0 hz1 hz2 rfl (by decide) _ _ _ rfl ((owns_grows HO.out (by repeat' (first | (with_reducible exact Grows.refl _) | (with_reducible refine Grows.alloc ?_ _) | (with_reducible refine Grows.drew ?_) | (with_reducible refine Grows.ext ?_ _ _)))).alloc _) ⟨wb.heap.size + h3.size, 0, none⟩ 1 1 [.int .i64 39, .int .i64 pn, .int .i64 pm, .int .i64 pck, .int .i64 pcn, .string ⟨#[]⟩] rfl rfl (cells_at6 (by simp)) (by simp [Value.oneCell']) (by unfold maxLen; omega) (by omega) (by simp; omega) ?_; intro v2 w1 hown' hgrow _))
      have hO2 : w1.ownsRow (w.heap.size + 1) 26 6 v2 (k + 1) (actsC ((ps ++ [(⟨pn, pm, pck, pcn⟩ : Pen)]).map actP)) := by
        rw [List.map_append, List.map_singleton, actsC_snoc]
        exact hown'
      have hG2 : Grows W0 w1 := Grows.appended (HG.out.trans (by repeat' (first | (with_reducible exact Grows.refl _) | (with_reducible refine Grows.alloc ?_ _) | (with_reducible refine Grows.drew ?_) | (with_reducible refine Grows.ext ?_ _ _)))) hgrow (fun q e => by have := (hsz q e).1; omega)
      go_roundw
      case rel =>
        refine ⟨_, k + 1, ps ++ [(⟨pn, pm, pck, pcn⟩ : Pen)], rfl, by omega, by omega, by go_num, hG2, by simp [hps], fun q hq => ?_, hO2⟩
        rcases List.mem_append.1 hq with hq | hq
        · exact hok q hq
        · obtain rfl : q = ⟨pn, pm, pck, pcn⟩ := by simpa using hq
          exact hp
      case measure => simp [intOf]; omega
    · by_cases l2 : k < len
      · have e1 : decide (k < len) = true := by simpa using l2
        have e2 : decide ((k : Int) < 20) = false := by rw [decide_eq_false_iff_not]; omega
        clear hlt
        go_upto_region 7 with fail
        have hA : ActsAt wb _ (ps.map actP) := OwnA.at_ (base := w.heap.size + 1) (by unfold OwnA; rw [List.length_map, hps]; exact hO)
        obtain ⟨a5, c5, hx5⟩ := pens_len hA
        subst hx5
        subst hps
        have HA := Lib.hid hA
        have hZb := Grows.rowK HZ0.out hG
        have hGb := HG0.out.trans hG
        have hin64 : ∀ a ∈ ps.map actP, In64 a.m := fun a ha => by
          obtain ⟨p, hp, rfl⟩ := List.mem_map.1 ha
          exact (pn_ok (hok p hp)).2
        have HP := Lib.hid (And.intro hin64 (And.intro hZb hGb))
        clear hA hO hG hin64 hZb hGb hok
        by_cases hne : ps.length = 0
        · have e47 : decide ((ps.length : Int) > 0) = false := by rw [decide_eq_false_iff_not]; omega
          have e47' : decide (0 < ps.length) = false := by rw [decide_eq_false_iff_not]; omega
          clear hne
          go_upto_region 8 with (first | (at_builtin; refine wpList_app _ rfl (.tmp 42) (.tmp 43) 33 rfl wb.heap.size 26 i0 _ 6 56 Tryd.underlying33 hi hz0 hz1 hz2 rfl (by decide) 0 ps.length [] (actsC (ps.map actP)) (DstAt.none_ _ _ _ _ _) (acts_cellsn (by simp) (HA.out.grows (by repeat' (first | (with_reducible exact Grows.refl _) | (with_reducible refine Grows.alloc ?_ _) | (with_reducible refine Grows.drew ?_) | (with_reducible refine Grows.ext ?_ _ _))))) actsC_one (by unfold maxLen; omega) (by omega) (by simp) ?_; intro v' w1 row hD1 hgrow1 hrow1 _; obtain ⟨a6, c6, rfl, hC6⟩ := dst_shape hD1))
          have hG1 : Grows wb w1 := appended_grows (by repeat' (first | (with_reducible exact Grows.refl _) | (with_reducible refine Grows.alloc ?_ _) | (with_reducible refine Grows.drew ?_) | (with_reducible refine Grows.ext ?_ _ _))) hgrow1 (fun k e => (hrow1 k e).1)
          refine abs_worldM (fun W => Grows wb W ∧ ActsAt W (.slice a6 ps.length c6) (ps.map actP)) ⟨hG1, cells_acts (by simp) hC6⟩ ?_
          clear hD1 hgrow1 hrow1 hC6 hG1
          rintro W ⟨hG1, hYa⟩
          have hXa := HA.out.grows hG1
          have hZa := Grows.rowK HP.out.2.1 hG1
          have hGa := HP.out.2.2.trans hG1
          obtain ⟨bl, hbl⟩ : ∃ bl, bl = ps.map actP := ⟨_, rfl⟩
          have HIN := Lib.hid (show (∀ a ∈ ps.map actP, In64 a.m) ∧ (∀ a ∈ bl, In64 a.m) ∧ ps.length ≤ 20 ∧ bl.length ≤ 20 from ⟨HP.out.1, by rw [hbl]; exact HP.out.1, hk, by rw [hbl]; simpa using hk⟩)
          rw [← hbl] at hYa
          clear hbl hG1
          -- hGa : Grows w W; hXa : ActsAt W (.slice a5 K c5) (ps.map actP); hYa : ActsAt W (.slice a6 K c6) bl; hZa : the box's row
          have z0 := (cell_of_row W w.heap.size 0 _ 26 (0, 0) hZa).trans (show _ = some (.int .i64 kd) from rfl)
          have z1 := (cell_of_row W w.heap.size 1 _ 26 (0, 0) hZa).trans (show _ = some (.int .i64 n) from rfl)
          have z2 := (cell_of_row W w.heap.size 2 _ 26 (0, 0) hZa).trans (show _ = some (.int .i64 m) from rfl)
          have z3 := (cell_of_row W w.heap.size 3 _ 26 (0, 0) hZa).trans (show _ = some (.int .i64 ck) from rfl)
          have z4 := (cell_of_row W w.heap.size 4 _ 26 (0, 0) hZa).trans (show _ = some (.int .i64 cn) from rfl)
          have z5 := (cell_of_row W w.heap.size 5 _ 26 (0, 0) hZa).trans (show _ = some (.string s1) from rfl)
          have hzs : w.heap.size < W.heap.size := (Array.getElem?_eq_some_iff.1 hZa).1
          have HGa := Lib.hid hGa
          have HXa := Lib.hid hXa
          have HYa := Lib.hid hYa
          clear hGa hXa hYa hZa
          go_upto_region 10 with fail
          go_wp2_with fail
          refine abs_worldM (fun V => Grows W V ∧ ActsAt V (.slice (some ⟨W.heap.size, 0, none⟩) 1 1) [⟨kd, n, m, ck, cn, s1⟩]) ⟨(by repeat' (first | (with_reducible exact Grows.refl _) | (with_reducible refine Grows.alloc ?_ _) | (with_reducible refine Grows.drew ?_) | (with_reducible refine Grows.ext ?_ _ _))), (own_new (p := ⟨kd, n, m, ck, cn, s1⟩) rfl).at_⟩ ?_
          clear z0 z1 z2 z3 z4 z5 hzs
          rintro V ⟨hGV, hZV⟩
          have hXV := HXa.out.grows hGV
          have hYV := HYa.out.grows hGV
          have HW := Lib.hid (HGa.out.trans hGV)
          have HX := Lib.hid hXV
          have HY := Lib.hid hYV
          have HZ := Lib.hid hZV
          generalize W.heap.size = gz at *
          clear hGV hZV hXV hYV
          go_loopw [61] (fun i wr' => ∃ (wv : World) (k : Nat), wv = wr' ∧ k ≤ 3 ∧ i = .int .i64 k ∧ Grows V wv) (fun i _ => 3 - (intOf i).toNat)
          case atStart => exact ⟨_, 0, rfl, by omega, rfl, Grows.refl _⟩
          case round =>
            obtain ⟨wa, k, rfl, hk, rfl, hG⟩ := hrel
            by_cases hlt : k < 3
            · obtain rfl | rfl | rfl : k = 0 ∨ k = 1 ∨ k = 2 := by omega
              · skip
                have hp := prmRow_ok (ps.map actP) (by have := HIN.out.2.2; simp; omega)
                have H13 := Lib.hid (params13_any _ (ps.map actP) wa (HX.out.grows hG) HIN.out.1 (by have := HIN.out.2.2; simp; omega) (HGL.out.grows (HW.out.trans hG)))
                have H24 := Lib.hid fun W (hW : Grows wa W) => params24_any _ (ps.map actP) W ((HX.out.grows hG).grows hW) (by have := HIN.out.2.2; simp; omega)
                have H17 := Lib.hid fun x y W (hx : RowAt W x (prmRow (ps.map actP))) (hy : RowAt W y (prmRow (ps.map actP))) => same05 x y (prmRow (ps.map actP)) W hp.1 hp.2 hx hy
                have HG := Lib.hid hG
                clear hp hG
                generalize prmErr (ps.map actP) = er at *
                generalize prmRow (ps.map actP) = rr at *
                go_upto_region 12 with fail
                apply wp_region_lit
                refine Great.wpList_readTo rfl (some 63) rfl (.slice a5 ps.length c5) (jndex0 _ _ rfl rfl rfl) ?_
                refine Great.wpList_readTo rfl (some 11) rfl (.slice a5 ps.length c5) (by simp [execOp, go_sem]) ?_
                apply wpList_nil
                go_wp2_with (first | (go_at_call 13; (with_reducible refine H13.out.mono ?_); rintro e w2 ⟨x2, rfl, hx2, hg2_23⟩; obtain ⟨a2, c2, rfl⟩ := row_len hx2) | (go_at_call 24; (with_reducible refine (H24.out w2 hg2_23).mono ?_); rintro e w3 ⟨x3, rfl, hx3, hg3⟩; obtain ⟨a3, c3, rfl⟩ := row_len hx3) | (go_at_call 17; (with_reducible refine (H17.out _ _ w3 (hx2.grows hg3) hx3).mono ?_); rintro e w' ⟨rfl, h4, d4, rfl⟩))
                go_roundw
                case rel => exact ⟨_, 0 + 1, rfl, by omega, by go_num, (HG.out.trans hg2_23).trans (hg3.trans (by repeat' (first | (with_reducible exact Grows.refl _) | (with_reducible refine Grows.alloc ?_ _) | (with_reducible refine Grows.drew ?_) | (with_reducible refine Grows.ext ?_ _ _))))⟩
                case measure => simp [intOf]; try omega
              · skip
                have hp := prmRow_ok bl (by have := HIN.out.2.2; omega)
                have H13 := Lib.hid (params13_any _ bl wa (HY.out.grows hG) HIN.out.2.1 (by have := HIN.out.2.2; omega) (HGL.out.grows (HW.out.trans hG)))
                have H24 := Lib.hid fun W (hW : Grows wa W) => params24_any _ bl W ((HY.out.grows hG).grows hW) (by have := HIN.out.2.2; omega)
                have H17 := Lib.hid fun x y W (hx : RowAt W x (prmRow bl)) (hy : RowAt W y (prmRow bl)) => same05 x y (prmRow bl) W hp.1 hp.2 hx hy
                have HG := Lib.hid hG
                clear hp hG
                generalize prmErr bl = er at *
                generalize prmRow bl = rr at *
                go_upto_region 12 with fail
                apply wp_region_lit
                refine Great.wpList_readTo rfl (some 63) rfl (.slice a6 ps.length c6) (jndex1 _ _ rfl rfl rfl) ?_
                refine Great.wpList_readTo rfl (some 11) rfl (.slice a6 ps.length c6) (by simp [execOp, go_sem]) ?_
                apply wpList_nil
                go_wp2_with (first | (go_at_call 13; (with_reducible refine H13.out.mono ?_); rintro e w2 ⟨x2, rfl, hx2, hg2_23⟩; obtain ⟨a2, c2, rfl⟩ := row_len hx2) | (go_at_call 24; (with_reducible refine (H24.out w2 hg2_23).mono ?_); rintro e w3 ⟨x3, rfl, hx3, hg3⟩; obtain ⟨a3, c3, rfl⟩ := row_len hx3) | (go_at_call 17; (with_reducible refine (H17.out _ _ w3 (hx2.grows hg3) hx3).mono ?_); rintro e w' ⟨rfl, h4, d4, rfl⟩))
                go_roundw
                case rel => exact ⟨_, 1 + 1, rfl, by omega, by go_num, (HG.out.trans hg2_23).trans (hg3.trans (by repeat' (first | (with_reducible exact Grows.refl _) | (with_reducible refine Grows.alloc ?_ _) | (with_reducible refine Grows.drew ?_) | (with_reducible refine Grows.ext ?_ _ _))))⟩
                case measure => simp [intOf]; try omega
              · skip
                have hp := prmRow_ok [⟨kd, n, m, ck, cn, s1⟩] (by simp)
                have H13 := Lib.hid (params13_any _ [⟨kd, n, m, ck, cn, s1⟩] wa (HZ.out.grows hG) (fun a ha => by rw [List.mem_singleton.1 ha]; exact HM.out) (by simp) (HGL.out.grows (HW.out.trans hG)))
                have H24 := Lib.hid fun W (hW : Grows wa W) => params24_any _ [⟨kd, n, m, ck, cn, s1⟩] W ((HZ.out.grows hG).grows hW) (by simp)
                have H17 := Lib.hid fun x y W (hx : RowAt W x (prmRow [⟨kd, n, m, ck, cn, s1⟩])) (hy : RowAt W y (prmRow [⟨kd, n, m, ck, cn, s1⟩])) => same05 x y (prmRow [⟨kd, n, m, ck, cn, s1⟩]) W hp.1 hp.2 hx hy
                have HG := Lib.hid hG
                clear hp hG
                generalize prmErr [⟨kd, n, m, ck, cn, s1⟩] = er at *
                generalize prmRow [⟨kd, n, m, ck, cn, s1⟩] = rr at *
                go_upto_region 12 with fail
                apply wp_region_lit
                refine Great.wpList_readTo rfl (some 63) rfl (.slice (some ⟨gz, 0, none⟩) 1 1) (jndex2 _ _ rfl rfl rfl) ?_
                refine Great.wpList_readTo rfl (some 11) rfl (.slice (some ⟨gz, 0, none⟩) 1 1) (by simp [execOp, go_sem]) ?_
                apply wpList_nil
                go_wp2_with (first | (go_at_call 13; (with_reducible refine H13.out.mono ?_); rintro e w2 ⟨x2, rfl, hx2, hg2_23⟩; obtain ⟨a2, c2, rfl⟩ := row_len hx2) | (go_at_call 24; (with_reducible refine (H24.out w2 hg2_23).mono ?_); rintro e w3 ⟨x3, rfl, hx3, hg3⟩; obtain ⟨a3, c3, rfl⟩ := row_len hx3) | (go_at_call 17; (with_reducible refine (H17.out _ _ w3 (hx2.grows hg3) hx3).mono ?_); rintro e w' ⟨rfl, h4, d4, rfl⟩))
                go_roundw
                case rel => exact ⟨_, 2 + 1, rfl, by omega, by go_num, (HG.out.trans hg2_23).trans (hg3.trans (by repeat' (first | (with_reducible exact Grows.refl _) | (with_reducible refine Grows.alloc ?_ _) | (with_reducible refine Grows.drew ?_) | (with_reducible refine Grows.ext ?_ _ _))))⟩
                case measure => simp [intOf]; try omega
            · obtain rfl : k = 3 := by omega
              have HGn := Lib.hid (HW.out.trans hG)
              clear hG
              go_wp2_with (first | (go_at_call 15; (with_reducible refine (works_true _ (HGL.out.grows ?hg1_23) (HGT.out.grows ?hg2_23)).mono ?hm1_23); (case hg1_23 => exact HGn.out); (case hg2_23 => exact HGn.out); rintro e w' ⟨rfl, h1, d1, rfl⟩))
              go_ret
              exact ⟨rfl, HGn.out.trans (by repeat' (first | (with_reducible exact Grows.refl _) | (with_reducible refine Grows.alloc ?_ _) | (with_reducible refine Grows.drew ?_) | (with_reducible refine Grows.ext ?_ _ _)))⟩
        · obtain ⟨jn, hj⟩ : ∃ jn : Nat, at' % (ps.length : Int) = jn := ⟨(at' % (ps.length : Int)).toNat, by have := Int.emod_nonneg at' (b := (ps.length : Int)) (by omega); omega⟩
          have hjl : jn < ps.length := by have := Int.emod_lt_of_pos at' (b := (ps.length : Int)) (by omega); omega
          have e47 : decide ((ps.length : Int) > 0) = true := by rw [decide_eq_true_eq]; omega
          have e47' : decide (0 < ps.length) = true := by rw [decide_eq_true_eq]; omega
          have e49 : ¬ (ps.length : Int) = 0 := by omega
          have hpos : 0 < ps.length := by omega
          obtain ⟨-, a7, c7, e7, hc7, hin7⟩ := acts_cellsn (n := ps.length) (by simp) HA.out
          obtain ⟨b5, o5, rfl, hb5, hx5⟩ := hin7 hne
          injection e7 with e7 _ e8
          subst e7 e8
          have HS5 := Lib.hid (show ∀ W, Grows wb W → ∀ j u, (actsC (ps.map actP))[j]? = some u → W.cell? ((⟨b5, o5, none⟩ : Addr).add j) = some u from fun W g j u hj => by rw [Addr.add_lit]; exact (g.cellOf hb5).trans (hx5 j u hj))
          have hzb := HP.out.2.1
          have hzs := (Array.getElem?_eq_some_iff.1 hzb).1
          clear hin7 hx5 hzb
          go_upto_region 9 with (first | (at_builtin; refine wpList_append_grows _ rfl (.tmp 42) (.tmp 43) 33 rfl 26 i0 _ 6 56 Tryd.underlying33 hi hz0 hz1 hz2 rfl (by decide) (some ⟨wb.heap.size, 0, none⟩) 0 0 [] rfl (fun h => by cases h) (by simp) (fun b e j u h => by simp at h) ⟨b5, o5, none⟩ ps.length c5 (actsC (ps.map actP)) rfl (by rw [actsC_len]; simp) (HS5.out _ (by repeat' (first | (with_reducible exact Grows.refl _) | (with_reducible refine Grows.alloc ?_ _) | (with_reducible refine Grows.drew ?_) | (with_reducible refine Grows.ext ?_ _ _)))) actsC_one (by omega) (by unfold maxLen; omega) (by omega) ?_; intro v' w1 hown2 hgrow2; obtain ⟨g6, c6, rfl, hg6, hown6⟩ := own_shape hpos hown2))
          have hM1 := own_mut hown6 (by simp)
          have hG1 : Grows wb w1 := Grows.trans ((Grows.refl wb).alloc _) (grows_by hgrow2)
          have hc6 : ps.length ≤ c6 := by
            obtain ⟨-, _, _, e6, hh, -⟩ := ownsRow_cells hown6
            injection e6 with _ _ e6
            subst e6
            exact hh
          have hg6b : wb.heap.size ≤ g6 := by simp at hg6; omega
          have hZ1 := Grows.rowK HP.out.2.1 hG1
          have z0 := (cell_of_row w1 w.heap.size 0 _ 26 (0, 0) hZ1).trans (show _ = some (.int .i64 kd) from rfl)
          have z1 := (cell_of_row w1 w.heap.size 1 _ 26 (0, 0) hZ1).trans (show _ = some (.int .i64 n) from rfl)
          have z2 := (cell_of_row w1 w.heap.size 2 _ 26 (0, 0) hZ1).trans (show _ = some (.int .i64 m) from rfl)
          have z3 := (cell_of_row w1 w.heap.size 3 _ 26 (0, 0) hZ1).trans (show _ = some (.int .i64 ck) from rfl)
          have z4 := (cell_of_row w1 w.heap.size 4 _ 26 (0, 0) hZ1).trans (show _ = some (.int .i64 cn) from rfl)
          have z5 := (cell_of_row w1 w.heap.size 5 _ 26 (0, 0) hZ1).trans (show _ = some (.string s1) from rfl)
          have hzs1 : w.heap.size < w1.heap.size := (Array.getElem?_eq_some_iff.1 hZ1).1
          have HM1 := Lib.hid hM1
          have HG1 := Lib.hid hG1
          clear hown2 hgrow2 hown6 hM1 hG1 hg6 hZ1
          refine wp_region_grow_tail 8 (by kernel_rfl) (by kernel_rfl) ?_
          simp only [List.take_succ_cons, List.take_zero, List.drop_succ_cons, List.drop_zero]
          repeat (first | go_big_quiet_step ((fail)) | quiet_step ((fail)))
          refine wpQuiet_nil ?_
          rintro _ ⟨g214, rfl⟩
          try simp only [Act.put, List.getElem_toArray, List.getElem_cons_succ, List.getElem_cons_zero, List.setIfInBounds_toArray, List.set_cons_zero, List.set_cons_succ]
          ((with_reducible refine wpList_store_mid (op := ⟨none, .store 26 (.tmp 55) (.tmp 54), 0, _, _, none⟩) ?st1_25 26 (.tmp 55) (.tmp 54) ?st2_25 g6 (jn * 6) #[.int .i64 kd, .int .i64 n, .int .i64 m, .int .i64 ck, .int .i64 cn, .string s1] ?st3_25 ?st4_25 ?st5_25 ?st8_25 ?st6_25 ?st7_25); (case st1_25 => rfl); (case st2_25 => rfl); (case st3_25 => (simp [Act.eval]; done)); (case st4_25 => (simp [Act.eval]; done)); (case st5_25 => exact (HM1.out.grows (by repeat' (first | (with_reducible exact Grows.refl _) | (with_reducible refine Grows.drew ?_) | (with_reducible refine Grows.ext ?_ _ _)))).there (by simpa using hjl)); (case st6_25 => exact act_one _ _ _ _ _ _); (case st8_25 => exact info26))
          apply wpList_nil
          go_upto_region 10 with fail
          obtain ⟨bl, hbl⟩ : ∃ bl, bl = (ps.map actP).set jn ⟨kd, n, m, ck, cn, s1⟩ := ⟨_, rfl⟩
          have hbll : bl.length = ps.length := by rw [hbl]; simp
          have HIN := Lib.hid (show (∀ a ∈ ps.map actP, In64 a.m) ∧ (∀ a ∈ bl, In64 a.m) ∧ ps.length ≤ 20 ∧ bl.length ≤ 20 from ⟨HP.out.1, fun a ha => by
            rw [hbl] at ha
            rcases List.mem_or_eq_of_mem_set ha with ha | rfl
            · exact HP.out.1 a ha
            · exact HM.out, hk, by omega⟩)
          have hF : ∀ W', Grows w1 W' → Grows wb (W'.setCells g6 (jn * 6) (#[.int .i64 kd, .int .i64 n, .int .i64 m, .int .i64 ck, .int .i64 cn, .string s1] : Array Value).toList) ∧ ActsAt (W'.setCells g6 (jn * 6) (#[.int .i64 kd, .int .i64 n, .int .i64 m, .int .i64 ck, .int .i64 cn, .string s1] : Array Value).toList) (.slice (some ⟨g6, 0, none⟩) ps.length c6) bl :=
            fun W' hW' => ⟨setCells_grows g6 hg6b _ _ (HG1.out.trans hW'), by rw [hbl]; exact mut_set_at (a := ⟨kd, n, m, ck, cn, s1⟩) HM1.out hW' (by simpa using hjl) (by simp) hc6⟩
          refine abs_worldM (fun W => Grows wb W ∧ ActsAt W (.slice (some ⟨g6, 0, none⟩) ps.length c6) bl) (hF _ (by repeat' (first | (with_reducible exact Grows.refl _) | (with_reducible refine Grows.drew ?_) | (with_reducible refine Grows.ext ?_ _ _)))) ?_
          clear hF
          clear z0 z1 z2 z3 z4 z5 hzs1 hzs hbl hbll
          rintro W ⟨hG2, hYa⟩
          have hXa := HA.out.grows hG2
          have hZa := Grows.rowK HP.out.2.1 hG2
          have hGa := HP.out.2.2.trans hG2
          clear hG2
          generalize some (⟨b5, o5, none⟩ : Addr) = a5 at *
          obtain ⟨a6, ha6⟩ : ∃ a6, a6 = some (⟨g6, 0, none⟩ : Addr) := ⟨_, rfl⟩
          rw [← ha6] at hYa ⊢
          clear ha6 HS5
          -- hGa : Grows w W; hXa : ActsAt W (.slice a5 K c5) (ps.map actP); hYa : ActsAt W (.slice a6 K c6) bl; hZa : the box's row
          have z0 := (cell_of_row W w.heap.size 0 _ 26 (0, 0) hZa).trans (show _ = some (.int .i64 kd) from rfl)
          have z1 := (cell_of_row W w.heap.size 1 _ 26 (0, 0) hZa).trans (show _ = some (.int .i64 n) from rfl)
          have z2 := (cell_of_row W w.heap.size 2 _ 26 (0, 0) hZa).trans (show _ = some (.int .i64 m) from rfl)
          have z3 := (cell_of_row W w.heap.size 3 _ 26 (0, 0) hZa).trans (show _ = some (.int .i64 ck) from rfl)
          have z4 := (cell_of_row W w.heap.size 4 _ 26 (0, 0) hZa).trans (show _ = some (.int .i64 cn) from rfl)
          have z5 := (cell_of_row W w.heap.size 5 _ 26 (0, 0) hZa).trans (show _ = some (.string s1) from rfl)
          have hzs : w.heap.size < W.heap.size := (Array.getElem?_eq_some_iff.1 hZa).1
          have HGa := Lib.hid hGa
          have HXa := Lib.hid hXa
          have HYa := Lib.hid hYa
          clear hGa hXa hYa hZa
          go_upto_region 10 with fail
          go_wp2_with fail
          refine abs_worldM (fun V => Grows W V ∧ ActsAt V (.slice (some ⟨W.heap.size, 0, none⟩) 1 1) [⟨kd, n, m, ck, cn, s1⟩]) ⟨(by repeat' (first | (with_reducible exact Grows.refl _) | (with_reducible refine Grows.alloc ?_ _) | (with_reducible refine Grows.drew ?_) | (with_reducible refine Grows.ext ?_ _ _))), (own_new (p := ⟨kd, n, m, ck, cn, s1⟩) rfl).at_⟩ ?_
          clear z0 z1 z2 z3 z4 z5 hzs
          rintro V ⟨hGV, hZV⟩
          have hXV := HXa.out.grows hGV
          have hYV := HYa.out.grows hGV
          have HW := Lib.hid (HGa.out.trans hGV)
          have HX := Lib.hid hXV
          have HY := Lib.hid hYV
          have HZ := Lib.hid hZV
          generalize W.heap.size = gz at *
          clear hGV hZV hXV hYV
          go_loopw [61] (fun i wr' => ∃ (wv : World) (k : Nat), wv = wr' ∧ k ≤ 3 ∧ i = .int .i64 k ∧ Grows V wv) (fun i _ => 3 - (intOf i).toNat)
          case atStart => exact ⟨_, 0, rfl, by omega, rfl, Grows.refl _⟩
          case round =>
            obtain ⟨wa, k, rfl, hk, rfl, hG⟩ := hrel
            by_cases hlt : k < 3
            · obtain rfl | rfl | rfl : k = 0 ∨ k = 1 ∨ k = 2 := by omega
              · skip
                have hp := prmRow_ok (ps.map actP) (by have := HIN.out.2.2; simp; omega)
                have H13 := Lib.hid (params13_any _ (ps.map actP) wa (HX.out.grows hG) HIN.out.1 (by have := HIN.out.2.2; simp; omega) (HGL.out.grows (HW.out.trans hG)))
                have H24 := Lib.hid fun W (hW : Grows wa W) => params24_any _ (ps.map actP) W ((HX.out.grows hG).grows hW) (by have := HIN.out.2.2; simp; omega)
                have H17 := Lib.hid fun x y W (hx : RowAt W x (prmRow (ps.map actP))) (hy : RowAt W y (prmRow (ps.map actP))) => same05 x y (prmRow (ps.map actP)) W hp.1 hp.2 hx hy
                have HG := Lib.hid hG
                clear hp hG
                generalize prmErr (ps.map actP) = er at *
                generalize prmRow (ps.map actP) = rr at *
                go_upto_region 12 with fail
                apply wp_region_lit
                refine Great.wpList_readTo rfl (some 63) rfl (.slice a5 ps.length c5) (jndex0 _ _ rfl rfl rfl) ?_
                refine Great.wpList_readTo rfl (some 11) rfl (.slice a5 ps.length c5) (by simp [execOp, go_sem]) ?_
                apply wpList_nil
                go_wp2_with (first | (go_at_call 13; (with_reducible refine H13.out.mono ?_); rintro e w2 ⟨x2, rfl, hx2, hg2_24⟩; obtain ⟨a2, c2, rfl⟩ := row_len hx2) | (go_at_call 24; (with_reducible refine (H24.out w2 hg2_24).mono ?_); rintro e w3 ⟨x3, rfl, hx3, hg3⟩; obtain ⟨a3, c3, rfl⟩ := row_len hx3) | (go_at_call 17; (with_reducible refine (H17.out _ _ w3 (hx2.grows hg3) hx3).mono ?_); rintro e w' ⟨rfl, h4, d4, rfl⟩))
                go_roundw
                case rel => exact ⟨_, 0 + 1, rfl, by omega, by go_num, (HG.out.trans hg2_24).trans (hg3.trans (by repeat' (first | (with_reducible exact Grows.refl _) | (with_reducible refine Grows.alloc ?_ _) | (with_reducible refine Grows.drew ?_) | (with_reducible refine Grows.ext ?_ _ _))))⟩
                case measure => simp [intOf]; try omega
              · skip
                have hp := prmRow_ok bl (by have := HIN.out.2.2; omega)
                have H13 := Lib.hid (params13_any _ bl wa (HY.out.grows hG) HIN.out.2.1 (by have := HIN.out.2.2; omega) (HGL.out.grows (HW.out.trans hG)))
                have H24 := Lib.hid fun W (hW : Grows wa W) => params24_any _ bl W ((HY.out.grows hG).grows hW) (by have := HIN.out.2.2; omega)
                have H17 := Lib.hid fun x y W (hx : RowAt W x (prmRow bl)) (hy : RowAt W y (prmRow bl)) => same05 x y (prmRow bl) W hp.1 hp.2 hx hy
                have HG := Lib.hid hG
                clear hp hG
                generalize prmErr bl = er at *
                generalize prmRow bl = rr at *
                go_upto_region 12 with fail
                apply wp_region_lit
                refine Great.wpList_readTo rfl (some 63) rfl (.slice a6 ps.length c6) (jndex1 _ _ rfl rfl rfl) ?_
                refine Great.wpList_readTo rfl (some 11) rfl (.slice a6 ps.length c6) (by simp [execOp, go_sem]) ?_
                apply wpList_nil
                go_wp2_with (first | (go_at_call 13; (with_reducible refine H13.out.mono ?_); rintro e w2 ⟨x2, rfl, hx2, hg2_24⟩; obtain ⟨a2, c2, rfl⟩ := row_len hx2) | (go_at_call 24; (with_reducible refine (H24.out w2 hg2_24).mono ?_); rintro e w3 ⟨x3, rfl, hx3, hg3⟩; obtain ⟨a3, c3, rfl⟩ := row_len hx3) | (go_at_call 17; (with_reducible refine (H17.out _ _ w3 (hx2.grows hg3) hx3).mono ?_); rintro e w' ⟨rfl, h4, d4, rfl⟩))
                go_roundw
                case rel => exact ⟨_, 1 + 1, rfl, by omega, by go_num, (HG.out.trans hg2_24).trans (hg3.trans (by repeat' (first | (with_reducible exact Grows.refl _) | (with_reducible refine Grows.alloc ?_ _) | (with_reducible refine Grows.drew ?_) | (with_reducible refine Grows.ext ?_ _ _))))⟩
                case measure => simp [intOf]; try omega
              · skip
                have hp := prmRow_ok [⟨kd, n, m, ck, cn, s1⟩] (by simp)
                have H13 := Lib.hid (params13_any _ [⟨kd, n, m, ck, cn, s1⟩] wa (HZ.out.grows hG) (fun a ha => by rw [List.mem_singleton.1 ha]; exact HM.out) (by simp) (HGL.out.grows (HW.out.trans hG)))
                have H24 := Lib.hid fun W (hW : Grows wa W) => params24_any _ [⟨kd, n, m, ck, cn, s1⟩] W ((HZ.out.grows hG).grows hW) (by simp)
                have H17 := Lib.hid fun x y W (hx : RowAt W x (prmRow [⟨kd, n, m, ck, cn, s1⟩])) (hy : RowAt W y (prmRow [⟨kd, n, m, ck, cn, s1⟩])) => same05 x y (prmRow [⟨kd, n, m, ck, cn, s1⟩]) W hp.1 hp.2 hx hy
                have HG := Lib.hid hG
                clear hp hG
                generalize prmErr [⟨kd, n, m, ck, cn, s1⟩] = er at *
                generalize prmRow [⟨kd, n, m, ck, cn, s1⟩] = rr at *
                go_upto_region 12 with fail
                apply wp_region_lit
                refine Great.wpList_readTo rfl (some 63) rfl (.slice (some ⟨gz, 0, none⟩) 1 1) (jndex2 _ _ rfl rfl rfl) ?_
                refine Great.wpList_readTo rfl (some 11) rfl (.slice (some ⟨gz, 0, none⟩) 1 1) (by simp [execOp, go_sem]) ?_
                apply wpList_nil
                go_wp2_with (first | (go_at_call 13; (with_reducible refine H13.out.mono ?_); rintro e w2 ⟨x2, rfl, hx2, hg2_24⟩; obtain ⟨a2, c2, rfl⟩ := row_len hx2) | (go_at_call 24; (with_reducible refine (H24.out w2 hg2_24).mono ?_); rintro e w3 ⟨x3, rfl, hx3, hg3⟩; obtain ⟨a3, c3, rfl⟩ := row_len hx3) | (go_at_call 17; (with_reducible refine (H17.out _ _ w3 (hx2.grows hg3) hx3).mono ?_); rintro e w' ⟨rfl, h4, d4, rfl⟩))
                go_roundw
                case rel => exact ⟨_, 2 + 1, rfl, by omega, by go_num, (HG.out.trans hg2_24).trans (hg3.trans (by repeat' (first | (with_reducible exact Grows.refl _) | (with_reducible refine Grows.alloc ?_ _) | (with_reducible refine Grows.drew ?_) | (with_reducible refine Grows.ext ?_ _ _))))⟩
                case measure => simp [intOf]; try omega
            · obtain rfl : k = 3 := by omega
              have HGn := Lib.hid (HW.out.trans hG)
              clear hG
              go_wp2_with (first | (go_at_call 15; (with_reducible refine (works_true _ (HGL.out.grows ?hg1_24) (HGT.out.grows ?hg2_24)).mono ?hm1_24); (case hg1_24 => exact HGn.out); (case hg2_24 => exact HGn.out); rintro e w' ⟨rfl, h1, d1, rfl⟩))
              go_ret
              exact ⟨rfl, HGn.out.trans (by repeat' (first | (with_reducible exact Grows.refl _) | (with_reducible refine Grows.alloc ?_ _) | (with_reducible refine Grows.drew ?_) | (with_reducible refine Grows.ext ?_ _ _)))⟩
      · have e1 : decide (k < len) = false := by simpa using l2
        clear hlt
        go_upto_region 7 with fail
        have hA : ActsAt wb _ (ps.map actP) := OwnA.at_ (base := w.heap.size + 1) (by unfold OwnA; rw [List.length_map, hps]; exact hO)
        obtain ⟨a5, c5, hx5⟩ := pens_len hA
        subst hx5
        subst hps
        have HA := Lib.hid hA
        have hZb := Grows.rowK HZ0.out hG
        have hGb := HG0.out.trans hG
        have hin64 : ∀ a ∈ ps.map actP, In64 a.m := fun a ha => by
          obtain ⟨p, hp, rfl⟩ := List.mem_map.1 ha
          exact (pn_ok (hok p hp)).2
        have HP := Lib.hid (And.intro hin64 (And.intro hZb hGb))
        clear hA hO hG hin64 hZb hGb hok
        by_cases hne : ps.length = 0
        · have e47 : decide ((ps.length : Int) > 0) = false := by rw [decide_eq_false_iff_not]; omega
          have e47' : decide (0 < ps.length) = false := by rw [decide_eq_false_iff_not]; omega
          clear hne
          go_upto_region 8 with (first | (at_builtin; refine wpList_app _ rfl (.tmp 42) (.tmp 43) 33 rfl wb.heap.size 26 i0 _ 6 56 Tryd.underlying33 hi hz0 hz1 hz2 rfl (by decide) 0 ps.length [] (actsC (ps.map actP)) (DstAt.none_ _ _ _ _ _) (acts_cellsn (by simp) (HA.out.grows (by repeat' (first | (with_reducible exact Grows.refl _) | (with_reducible refine Grows.alloc ?_ _) | (with_reducible refine Grows.drew ?_) | (with_reducible refine Grows.ext ?_ _ _))))) actsC_one (by unfold maxLen; omega) (by omega) (by simp) ?_; intro v' w1 row hD1 hgrow1 hrow1 _; obtain ⟨a6, c6, rfl, hC6⟩ := dst_shape hD1))
          have hG1 : Grows wb w1 := appended_grows (by repeat' (first | (with_reducible exact Grows.refl _) | (with_reducible refine Grows.alloc ?_ _) | (with_reducible refine Grows.drew ?_) | (with_reducible refine Grows.ext ?_ _ _))) hgrow1 (fun k e => (hrow1 k e).1)
          refine abs_worldM (fun W => Grows wb W ∧ ActsAt W (.slice a6 ps.length c6) (ps.map actP)) ⟨hG1, cells_acts (by simp) hC6⟩ ?_
          clear hD1 hgrow1 hrow1 hC6 hG1
          rintro W ⟨hG1, hYa⟩
          have hXa := HA.out.grows hG1
          have hZa := Grows.rowK HP.out.2.1 hG1
          have hGa := HP.out.2.2.trans hG1
          obtain ⟨bl, hbl⟩ : ∃ bl, bl = ps.map actP := ⟨_, rfl⟩
          have HIN := Lib.hid (show (∀ a ∈ ps.map actP, In64 a.m) ∧ (∀ a ∈ bl, In64 a.m) ∧ ps.length ≤ 20 ∧ bl.length ≤ 20 from ⟨HP.out.1, by rw [hbl]; exact HP.out.1, hk, by rw [hbl]; simpa using hk⟩)
          rw [← hbl] at hYa
          clear hbl hG1
          -- hGa : Grows w W; hXa : ActsAt W (.slice a5 K c5) (ps.map actP); hYa : ActsAt W (.slice a6 K c6) bl; hZa : the box's row
          have z0 := (cell_of_row W w.heap.size 0 _ 26 (0, 0) hZa).trans (show _ = some (.int .i64 kd) from rfl)
          have z1 := (cell_of_row W w.heap.size 1 _ 26 (0, 0) hZa).trans (show _ = some (.int .i64 n) from rfl)
          have z2 := (cell_of_row W w.heap.size 2 _ 26 (0, 0) hZa).trans (show _ = some (.int .i64 m) from rfl)
          have z3 := (cell_of_row W w.heap.size 3 _ 26 (0, 0) hZa).trans (show _ = some (.int .i64 ck) from rfl)
          have z4 := (cell_of_row W w.heap.size 4 _ 26 (0, 0) hZa).trans (show _ = some (.int .i64 cn) from rfl)
          have z5 := (cell_of_row W w.heap.size 5 _ 26 (0, 0) hZa).trans (show _ = some (.string s1) from rfl)
          have hzs : w.heap.size < W.heap.size := (Array.getElem?_eq_some_iff.1 hZa).1
          have HGa := Lib.hid hGa
          have HXa := Lib.hid hXa
          have HYa := Lib.hid hYa
          clear hGa hXa hYa hZa
          go_upto_region 10 with fail
          go_wp2_with fail
          refine abs_worldM (fun V => Grows W V ∧ ActsAt V (.slice (some ⟨W.heap.size, 0, none⟩) 1 1) [⟨kd, n, m, ck, cn, s1⟩]) ⟨(by repeat' (first | (with_reducible exact Grows.refl _) | (with_reducible refine Grows.alloc ?_ _) | (with_reducible refine Grows.drew ?_) | (with_reducible refine Grows.ext ?_ _ _))), (own_new (p := ⟨kd, n, m, ck, cn, s1⟩) rfl).at_⟩ ?_
          clear z0 z1 z2 z3 z4 z5 hzs
          rintro V ⟨hGV, hZV⟩
          have hXV := HXa.out.grows hGV
          have hYV := HYa.out.grows hGV
          have HW := Lib.hid (HGa.out.trans hGV)
          have HX := Lib.hid hXV
          have HY := Lib.hid hYV
          have HZ := Lib.hid hZV
          generalize W.heap.size = gz at *
          clear hGV hZV hXV hYV
          go_loopw [61] (fun i wr' => ∃ (wv : World) (k : Nat), wv = wr' ∧ k ≤ 3 ∧ i = .int .i64 k ∧ Grows V wv) (fun i _ => 3 - (intOf i).toNat)
          case atStart => exact ⟨_, 0, rfl, by omega, rfl, Grows.refl _⟩
          case round =>
            obtain ⟨wa, k, rfl, hk, rfl, hG⟩ := hrel
            by_cases hlt : k < 3
            · obtain rfl | rfl | rfl : k = 0 ∨ k = 1 ∨ k = 2 := by omega
              · skip
                have hp := prmRow_ok (ps.map actP) (by have := HIN.out.2.2; simp; omega)
                have H13 := Lib.hid (params13_any _ (ps.map actP) wa (HX.out.grows hG) HIN.out.1 (by have := HIN.out.2.2; simp; omega) (HGL.out.grows (HW.out.trans hG)))
                have H24 := Lib.hid fun W (hW : Grows wa W) => params24_any _ (ps.map actP) W ((HX.out.grows hG).grows hW) (by have := HIN.out.2.2; simp; omega)
                have H17 := Lib.hid fun x y W (hx : RowAt W x (prmRow (ps.map actP))) (hy : RowAt W y (prmRow (ps.map actP))) => same05 x y (prmRow (ps.map actP)) W hp.1 hp.2 hx hy
                have HG := Lib.hid hG
                clear hp hG
                generalize prmErr (ps.map actP) = er at *
                generalize prmRow (ps.map actP) = rr at *
                go_upto_region 12 with fail
                apply wp_region_lit
                refine Great.wpList_readTo rfl (some 63) rfl (.slice a5 ps.length c5) (jndex0 _ _ rfl rfl rfl) ?_
                refine Great.wpList_readTo rfl (some 11) rfl (.slice a5 ps.length c5) (by simp [execOp, go_sem]) ?_
                apply wpList_nil
                go_wp2_with (first | (go_at_call 13; (with_reducible refine H13.out.mono ?_); rintro e w2 ⟨x2, rfl, hx2, hg2_26⟩; obtain ⟨a2, c2, rfl⟩ := row_len hx2) | (go_at_call 24; (with_reducible refine (H24.out w2 hg2_26).mono ?_); rintro e w3 ⟨x3, rfl, hx3, hg3⟩; obtain ⟨a3, c3, rfl⟩ := row_len hx3) | (go_at_call 17; (with_reducible refine (H17.out _ _ w3 (hx2.grows hg3) hx3).mono ?_); rintro e w' ⟨rfl, h4, d4, rfl⟩))
                go_roundw
                case rel => exact ⟨_, 0 + 1, rfl, by omega, by go_num, (HG.out.trans hg2_26).trans (hg3.trans (by repeat' (first | (with_reducible exact Grows.refl _) | (with_reducible refine Grows.alloc ?_ _) | (with_reducible refine Grows.drew ?_) | (with_reducible refine Grows.ext ?_ _ _))))⟩
                case measure => simp [intOf]; try omega
              · skip
                have hp := prmRow_ok bl (by have := HIN.out.2.2; omega)
                have H13 := Lib.hid (params13_any _ bl wa (HY.out.grows hG) HIN.out.2.1 (by have := HIN.out.2.2; omega) (HGL.out.grows (HW.out.trans hG)))
                have H24 := Lib.hid fun W (hW : Grows wa W) => params24_any _ bl W ((HY.out.grows hG).grows hW) (by have := HIN.out.2.2; omega)
                have H17 := Lib.hid fun x y W (hx : RowAt W x (prmRow bl)) (hy : RowAt W y (prmRow bl)) => same05 x y (prmRow bl) W hp.1 hp.2 hx hy
                have HG := Lib.hid hG
                clear hp hG
                generalize prmErr bl = er at *
                generalize prmRow bl = rr at *
                go_upto_region 12 with fail
                apply wp_region_lit
                refine Great.wpList_readTo rfl (some 63) rfl (.slice a6 ps.length c6) (jndex1 _ _ rfl rfl rfl) ?_
                refine Great.wpList_readTo rfl (some 11) rfl (.slice a6 ps.length c6) (by simp [execOp, go_sem]) ?_
                apply wpList_nil
                go_wp2_with (first | (go_at_call 13; (with_reducible refine H13.out.mono ?_); rintro e w2 ⟨x2, rfl, hx2, hg2_26⟩; obtain ⟨a2, c2, rfl⟩ := row_len hx2) | (go_at_call 24; (with_reducible refine (H24.out w2 hg2_26).mono ?_); rintro e w3 ⟨x3, rfl, hx3, hg3⟩; obtain ⟨a3, c3, rfl⟩ := row_len hx3) | (go_at_call 17; (with_reducible refine (H17.out _ _ w3 (hx2.grows hg3) hx3).mono ?_); rintro e w' ⟨rfl, h4, d4, rfl⟩))
                go_roundw
                case rel => exact ⟨_, 1 + 1, rfl, by omega, by go_num, (HG.out.trans hg2_26).trans (hg3.trans (by repeat' (first | (with_reducible exact Grows.refl _) | (with_reducible refine Grows.alloc ?_ _) | (with_reducible refine Grows.drew ?_) | (with_reducible refine Grows.ext ?_ _ _))))⟩
                case measure => simp [intOf]; try omega
              · skip
                have hp := prmRow_ok [⟨kd, n, m, ck, cn, s1⟩] (by simp)
                have H13 := Lib.hid (params13_any _ [⟨kd, n, m, ck, cn, s1⟩] wa (HZ.out.grows hG) (fun a ha => by rw [List.mem_singleton.1 ha]; exact HM.out) (by simp) (HGL.out.grows (HW.out.trans hG)))
                have H24 := Lib.hid fun W (hW : Grows wa W) => params24_any _ [⟨kd, n, m, ck, cn, s1⟩] W ((HZ.out.grows hG).grows hW) (by simp)
                have H17 := Lib.hid fun x y W (hx : RowAt W x (prmRow [⟨kd, n, m, ck, cn, s1⟩])) (hy : RowAt W y (prmRow [⟨kd, n, m, ck, cn, s1⟩])) => same05 x y (prmRow [⟨kd, n, m, ck, cn, s1⟩]) W hp.1 hp.2 hx hy
                have HG := Lib.hid hG
                clear hp hG
                generalize prmErr [⟨kd, n, m, ck, cn, s1⟩] = er at *
                generalize prmRow [⟨kd, n, m, ck, cn, s1⟩] = rr at *
                go_upto_region 12 with fail
                apply wp_region_lit
                refine Great.wpList_readTo rfl (some 63) rfl (.slice (some ⟨gz, 0, none⟩) 1 1) (jndex2 _ _ rfl rfl rfl) ?_
                refine Great.wpList_readTo rfl (some 11) rfl (.slice (some ⟨gz, 0, none⟩) 1 1) (by simp [execOp, go_sem]) ?_
                apply wpList_nil
                go_wp2_with (first | (go_at_call 13; (with_reducible refine H13.out.mono ?_); rintro e w2 ⟨x2, rfl, hx2, hg2_26⟩; obtain ⟨a2, c2, rfl⟩ := row_len hx2) | (go_at_call 24; (with_reducible refine (H24.out w2 hg2_26).mono ?_); rintro e w3 ⟨x3, rfl, hx3, hg3⟩; obtain ⟨a3, c3, rfl⟩ := row_len hx3) | (go_at_call 17; (with_reducible refine (H17.out _ _ w3 (hx2.grows hg3) hx3).mono ?_); rintro e w' ⟨rfl, h4, d4, rfl⟩))
                go_roundw
                case rel => exact ⟨_, 2 + 1, rfl, by omega, by go_num, (HG.out.trans hg2_26).trans (hg3.trans (by repeat' (first | (with_reducible exact Grows.refl _) | (with_reducible refine Grows.alloc ?_ _) | (with_reducible refine Grows.drew ?_) | (with_reducible refine Grows.ext ?_ _ _))))⟩
                case measure => simp [intOf]; try omega
            · obtain rfl : k = 3 := by omega
              have HGn := Lib.hid (HW.out.trans hG)
              clear hG
              go_wp2_with (first | (go_at_call 15; (with_reducible refine (works_true _ (HGL.out.grows ?hg1_26) (HGT.out.grows ?hg2_26)).mono ?hm1_26); (case hg1_26 => exact HGn.out); (case hg2_26 => exact HGn.out); rintro e w' ⟨rfl, h1, d1, rfl⟩))
              go_ret
              exact ⟨rfl, HGn.out.trans (by repeat' (first | (with_reducible exact Grows.refl _) | (with_reducible refine Grows.alloc ?_ _) | (with_reducible refine Grows.drew ?_) | (with_reducible refine Grows.ext ?_ _ _)))⟩
        · obtain ⟨jn, hj⟩ : ∃ jn : Nat, at' % (ps.length : Int) = jn := ⟨(at' % (ps.length : Int)).toNat, by have := Int.emod_nonneg at' (b := (ps.length : Int)) (by omega); omega⟩
          have hjl : jn < ps.length := by have := Int.emod_lt_of_pos at' (b := (ps.length : Int)) (by omega); omega
          have e47 : decide ((ps.length : Int) > 0) = true := by rw [decide_eq_true_eq]; omega
          have e47' : decide (0 < ps.length) = true := by rw [decide_eq_true_eq]; omega
          have e49 : ¬ (ps.length : Int) = 0 := by omega
          have hpos : 0 < ps.length := by omega
          obtain ⟨-, a7, c7, e7, hc7, hin7⟩ := acts_cellsn (n := ps.length) (by simp) HA.out
          obtain ⟨b5, o5, rfl, hb5, hx5⟩ := hin7 hne
          injection e7 with e7 _ e8
          subst e7 e8
          have HS5 := Lib.hid (show ∀ W, Grows wb W → ∀ j u, (actsC (ps.map actP))[j]? = some u → W.cell? ((⟨b5, o5, none⟩ : Addr).add j) = some u from fun W g j u hj => by rw [Addr.add_lit]; exact (g.cellOf hb5).trans (hx5 j u hj))
          have hzb := HP.out.2.1
          have hzs := (Array.getElem?_eq_some_iff.1 hzb).1
          clear hin7 hx5 hzb
          go_upto_region 9 with (first | (at_builtin; refine wpList_append_grows _ rfl (.tmp 42) (.tmp 43) 33 rfl 26 i0 _ 6 56 Tryd.underlying33 hi hz0 hz1 hz2 rfl (by decide) (some ⟨wb.heap.size, 0, none⟩) 0 0 [] rfl (fun h => by cases h) (by simp) (fun b e j u h => by simp at h) ⟨b5, o5, none⟩ ps.length c5 (actsC (ps.map actP)) rfl (by rw [actsC_len]; simp) (HS5.out _ (by repeat' (first | (with_reducible exact Grows.refl _) | (with_reducible refine Grows.alloc ?_ _) | (with_reducible refine Grows.drew ?_) | (with_reducible refine Grows.ext ?_ _ _)))) actsC_one (by omega) (by unfold maxLen; omega) (by omega) ?_; intro v' w1 hown2 hgrow2; obtain ⟨g6, c6, rfl, hg6, hown6⟩ := own_shape hpos hown2))
          have hM1 := own_mut hown6 (by simp)
          have hG1 : Grows wb w1 := Grows.trans ((Grows.refl wb).alloc _) (grows_by hgrow2)
          have hc6 : ps.length ≤ c6 := by
            obtain ⟨-, _, _, e6, hh, -⟩ := ownsRow_cells hown6
            injection e6 with _ _ e6
            subst e6
            exact hh
          have hg6b : wb.heap.size ≤ g6 := by simp at hg6; omega
          have hZ1 := Grows.rowK HP.out.2.1 hG1
          have z0 := (cell_of_row w1 w.heap.size 0 _ 26 (0, 0) hZ1).trans (show _ = some (.int .i64 kd) from rfl)
          have z1 := (cell_of_row w1 w.heap.size 1 _ 26 (0, 0) hZ1).trans (show _ = some (.int .i64 n) from rfl)
          have z2 := (cell_of_row w1 w.heap.size 2 _ 26 (0, 0) hZ1).trans (show _ = some (.int .i64 m) from rfl)
          have z3 := (cell_of_row w1 w.heap.size 3 _ 26 (0, 0) hZ1).trans (show _ = some (.int .i64 ck) from rfl)
          have z4 := (cell_of_row w1 w.heap.size 4 _ 26 (0, 0) hZ1).trans (show _ = some (.int .i64 cn) from rfl)
          have z5 := (cell_of_row w1 w.heap.size 5 _ 26 (0, 0) hZ1).trans (show _ = some (.string s1) from rfl)
          have hzs1 : w.heap.size < w1.heap.size := (Array.getElem?_eq_some_iff.1 hZ1).1
          have HM1 := Lib.hid hM1
          have HG1 := Lib.hid hG1
          clear hown2 hgrow2 hown6 hM1 hG1 hg6 hZ1
          refine wp_region_grow_tail 8 (by kernel_rfl) (by kernel_rfl) ?_
          simp only [List.take_succ_cons, List.take_zero, List.drop_succ_cons, List.drop_zero]
          repeat (first | go_big_quiet_step ((fail)) | quiet_step ((fail)))
          refine wpQuiet_nil ?_
          rintro _ ⟨g215, rfl⟩
          try simp only [Act.put, List.getElem_toArray, List.getElem_cons_succ, List.getElem_cons_zero, List.setIfInBounds_toArray, List.set_cons_zero, List.set_cons_succ]
          ((with_reducible refine wpList_store_mid (op := ⟨none, .store 26 (.tmp 55) (.tmp 54), 0, _, _, none⟩) ?st1_28 26 (.tmp 55) (.tmp 54) ?st2_28 g6 (jn * 6) #[.int .i64 kd, .int .i64 n, .int .i64 m, .int .i64 ck, .int .i64 cn, .string s1] ?st3_28 ?st4_28 ?st5_28 ?st8_28 ?st6_28 ?st7_28); (case st1_28 => rfl); (case st2_28 => rfl); (case st3_28 => (simp [Act.eval]; done)); (case st4_28 => (simp [Act.eval]; done)); (case st5_28 => exact (HM1.out.grows (by repeat' (first | (with_reducible exact Grows.refl _) | (with_reducible refine Grows.drew ?_) | (with_reducible refine Grows.ext ?_ _ _)))).there (by simpa using hjl)); (case st6_28 => exact act_one _ _ _ _ _ _); (case st8_28 => exact info26))
          apply wpList_nil
          go_upto_region 10 with fail
          obtain ⟨bl, hbl⟩ : ∃ bl, bl = (ps.map actP).set jn ⟨kd, n, m, ck, cn, s1⟩ := ⟨_, rfl⟩
          have hbll : bl.length = ps.length := by rw [hbl]; simp
          have HIN := Lib.hid (show (∀ a ∈ ps.map actP, In64 a.m) ∧ (∀ a ∈ bl, In64 a.m) ∧ ps.length ≤ 20 ∧ bl.length ≤ 20 from ⟨HP.out.1, fun a ha => by
            rw [hbl] at ha
            rcases List.mem_or_eq_of_mem_set ha with ha | rfl
            · exact HP.out.1 a ha
            · exact HM.out, hk, by omega⟩)
          have hF : ∀ W', Grows w1 W' → Grows wb (W'.setCells g6 (jn * 6) (#[.int .i64 kd, .int .i64 n, .int .i64 m, .int .i64 ck, .int .i64 cn, .string s1] : Array Value).toList) ∧ ActsAt (W'.setCells g6 (jn * 6) (#[.int .i64 kd, .int .i64 n, .int .i64 m, .int .i64 ck, .int .i64 cn, .string s1] : Array Value).toList) (.slice (some ⟨g6, 0, none⟩) ps.length c6) bl :=
            fun W' hW' => ⟨setCells_grows g6 hg6b _ _ (HG1.out.trans hW'), by rw [hbl]; exact mut_set_at (a := ⟨kd, n, m, ck, cn, s1⟩) HM1.out hW' (by simpa using hjl) (by simp) hc6⟩
          refine abs_worldM (fun W => Grows wb W ∧ ActsAt W (.slice (some ⟨g6, 0, none⟩) ps.length c6) bl) (hF _ (by repeat' (first | (with_reducible exact Grows.refl _) | (with_reducible refine Grows.drew ?_) | (with_reducible refine Grows.ext ?_ _ _)))) ?_
          clear hF
          clear z0 z1 z2 z3 z4 z5 hzs1 hzs hbl hbll
          rintro W ⟨hG2, hYa⟩
          have hXa := HA.out.grows hG2
          have hZa := Grows.rowK HP.out.2.1 hG2
          have hGa := HP.out.2.2.trans hG2
          clear hG2
          generalize some (⟨b5, o5, none⟩ : Addr) = a5 at *
          obtain ⟨a6, ha6⟩ : ∃ a6, a6 = some (⟨g6, 0, none⟩ : Addr) := ⟨_, rfl⟩
          rw [← ha6] at hYa ⊢
          clear ha6 HS5
          -- hGa : Grows w W; hXa : ActsAt W (.slice a5 K c5) (ps.map actP); hYa : ActsAt W (.slice a6 K c6) bl; hZa : the box's row
          have z0 := (cell_of_row W w.heap.size 0 _ 26 (0, 0) hZa).trans (show _ = some (.int .i64 kd) from rfl)
          have z1 := (cell_of_row W w.heap.size 1 _ 26 (0, 0) hZa).trans (show _ = some (.int .i64 n) from rfl)
          have z2 := (cell_of_row W w.heap.size 2 _ 26 (0, 0) hZa).trans (show _ = some (.int .i64 m) from rfl)
          have z3 := (cell_of_row W w.heap.size 3 _ 26 (0, 0) hZa).trans (show _ = some (.int .i64 ck) from rfl)
          have z4 := (cell_of_row W w.heap.size 4 _ 26 (0, 0) hZa).trans (show _ = some (.int .i64 cn) from rfl)
          have z5 := (cell_of_row W w.heap.size 5 _ 26 (0, 0) hZa).trans (show _ = some (.string s1) from rfl)
          have hzs : w.heap.size < W.heap.size := (Array.getElem?_eq_some_iff.1 hZa).1
          have HGa := Lib.hid hGa
          have HXa := Lib.hid hXa
          have HYa := Lib.hid hYa
          clear hGa hXa hYa hZa
          go_upto_region 10 with fail
          go_wp2_with fail
          refine abs_worldM (fun V => Grows W V ∧ ActsAt V (.slice (some ⟨W.heap.size, 0, none⟩) 1 1) [⟨kd, n, m, ck, cn, s1⟩]) ⟨(by repeat' (first | (with_reducible exact Grows.refl _) | (with_reducible refine Grows.alloc ?_ _) | (with_reducible refine Grows.drew ?_) | (with_reducible refine Grows.ext ?_ _ _))), (own_new (p := ⟨kd, n, m, ck, cn, s1⟩) rfl).at_⟩ ?_
          clear z0 z1 z2 z3 z4 z5 hzs
          rintro V ⟨hGV, hZV⟩
          have hXV := HXa.out.grows hGV
          have hYV := HYa.out.grows hGV
          have HW := Lib.hid (HGa.out.trans hGV)
          have HX := Lib.hid hXV
          have HY := Lib.hid hYV
          have HZ := Lib.hid hZV
          generalize W.heap.size = gz at *
          clear hGV hZV hXV hYV
          go_loopw [61] (fun i wr' => ∃ (wv : World) (k : Nat), wv = wr' ∧ k ≤ 3 ∧ i = .int .i64 k ∧ Grows V wv) (fun i _ => 3 - (intOf i).toNat)
          case atStart => exact ⟨_, 0, rfl, by omega, rfl, Grows.refl _⟩
          case round =>
            obtain ⟨wa, k, rfl, hk, rfl, hG⟩ := hrel
            by_cases hlt : k < 3
            · obtain rfl | rfl | rfl : k = 0 ∨ k = 1 ∨ k = 2 := by omega
              · skip
                have hp := prmRow_ok (ps.map actP) (by have := HIN.out.2.2; simp; omega)
                have H13 := Lib.hid (params13_any _ (ps.map actP) wa (HX.out.grows hG) HIN.out.1 (by have := HIN.out.2.2; simp; omega) (HGL.out.grows (HW.out.trans hG)))
                have H24 := Lib.hid fun W (hW : Grows wa W) => params24_any _ (ps.map actP) W ((HX.out.grows hG).grows hW) (by have := HIN.out.2.2; simp; omega)
                have H17 := Lib.hid fun x y W (hx : RowAt W x (prmRow (ps.map actP))) (hy : RowAt W y (prmRow (ps.map actP))) => same05 x y (prmRow (ps.map actP)) W hp.1 hp.2 hx hy
                have HG := Lib.hid hG
                clear hp hG
                generalize prmErr (ps.map actP) = er at *
                generalize prmRow (ps.map actP) = rr at *
                go_upto_region 12 with fail
                apply wp_region_lit
                refine Great.wpList_readTo rfl (some 63) rfl (.slice a5 ps.length c5) (jndex0 _ _ rfl rfl rfl) ?_
                refine Great.wpList_readTo rfl (some 11) rfl (.slice a5 ps.length c5) (by simp [execOp, go_sem]) ?_
                apply wpList_nil
                go_wp2_with (first | (go_at_call 13; (with_reducible refine H13.out.mono ?_); rintro e w2 ⟨x2, rfl, hx2, hg2_27⟩; obtain ⟨a2, c2, rfl⟩ := row_len hx2) | (go_at_call 24; (with_reducible refine (H24.out w2 hg2_27).mono ?_); rintro e w3 ⟨x3, rfl, hx3, hg3⟩; obtain ⟨a3, c3, rfl⟩ := row_len hx3) | (go_at_call 17; (with_reducible refine (H17.out _ _ w3 (hx2.grows hg3) hx3).mono ?_); rintro e w' ⟨rfl, h4, d4, rfl⟩))
                go_roundw
                case rel => exact ⟨_, 0 + 1, rfl, by omega, by go_num, (HG.out.trans hg2_27).trans (hg3.trans (by repeat' (first | (with_reducible exact Grows.refl _) | (with_reducible refine Grows.alloc ?_ _) | (with_reducible refine Grows.drew ?_) | (with_reducible refine Grows.ext ?_ _ _))))⟩
                case measure => simp [intOf]; try omega
              · skip
                have hp := prmRow_ok bl (by have := HIN.out.2.2; omega)
                have H13 := Lib.hid (params13_any _ bl wa (HY.out.grows hG) HIN.out.2.1 (by have := HIN.out.2.2; omega) (HGL.out.grows (HW.out.trans hG)))
                have H24 := Lib.hid fun W (hW : Grows wa W) => params24_any _ bl W ((HY.out.grows hG).grows hW) (by have := HIN.out.2.2; omega)
                have H17 := Lib.hid fun x y W (hx : RowAt W x (prmRow bl)) (hy : RowAt W y (prmRow bl)) => same05 x y (prmRow bl) W hp.1 hp.2 hx hy
                have HG := Lib.hid hG
                clear hp hG
                generalize prmErr bl = er at *
                generalize prmRow bl = rr at *
                go_upto_region 12 with fail
                apply wp_region_lit
                refine Great.wpList_readTo rfl (some 63) rfl (.slice a6 ps.length c6) (jndex1 _ _ rfl rfl rfl) ?_
                refine Great.wpList_readTo rfl (some 11) rfl (.slice a6 ps.length c6) (by simp [execOp, go_sem]) ?_
                apply wpList_nil
                go_wp2_with (first | (go_at_call 13; (with_reducible refine H13.out.mono ?_); rintro e w2 ⟨x2, rfl, hx2, hg2_27⟩; obtain ⟨a2, c2, rfl⟩ := row_len hx2) | (go_at_call 24; (with_reducible refine (H24.out w2 hg2_27).mono ?_); rintro e w3 ⟨x3, rfl, hx3, hg3⟩; obtain ⟨a3, c3, rfl⟩ := row_len hx3) | (go_at_call 17; (with_reducible refine (H17.out _ _ w3 (hx2.grows hg3) hx3).mono ?_); rintro e w' ⟨rfl, h4, d4, rfl⟩))
                go_roundw
                case rel => exact ⟨_, 1 + 1, rfl, by omega, by go_num, (HG.out.trans hg2_27).trans (hg3.trans (by repeat' (first | (with_reducible exact Grows.refl _) | (with_reducible refine Grows.alloc ?_ _) | (with_reducible refine Grows.drew ?_) | (with_reducible refine Grows.ext ?_ _ _))))⟩
                case measure => simp [intOf]; try omega
              · skip
                have hp := prmRow_ok [⟨kd, n, m, ck, cn, s1⟩] (by simp)
                have H13 := Lib.hid (params13_any _ [⟨kd, n, m, ck, cn, s1⟩] wa (HZ.out.grows hG) (fun a ha => by rw [List.mem_singleton.1 ha]; exact HM.out) (by simp) (HGL.out.grows (HW.out.trans hG)))
                have H24 := Lib.hid fun W (hW : Grows wa W) => params24_any _ [⟨kd, n, m, ck, cn, s1⟩] W ((HZ.out.grows hG).grows hW) (by simp)
                have H17 := Lib.hid fun x y W (hx : RowAt W x (prmRow [⟨kd, n, m, ck, cn, s1⟩])) (hy : RowAt W y (prmRow [⟨kd, n, m, ck, cn, s1⟩])) => same05 x y (prmRow [⟨kd, n, m, ck, cn, s1⟩]) W hp.1 hp.2 hx hy
                have HG := Lib.hid hG
                clear hp hG
                generalize prmErr [⟨kd, n, m, ck, cn, s1⟩] = er at *
                generalize prmRow [⟨kd, n, m, ck, cn, s1⟩] = rr at *
                go_upto_region 12 with fail
                apply wp_region_lit
                refine Great.wpList_readTo rfl (some 63) rfl (.slice (some ⟨gz, 0, none⟩) 1 1) (jndex2 _ _ rfl rfl rfl) ?_
                refine Great.wpList_readTo rfl (some 11) rfl (.slice (some ⟨gz, 0, none⟩) 1 1) (by simp [execOp, go_sem]) ?_
                apply wpList_nil
                go_wp2_with (first | (go_at_call 13; (with_reducible refine H13.out.mono ?_); rintro e w2 ⟨x2, rfl, hx2, hg2_27⟩; obtain ⟨a2, c2, rfl⟩ := row_len hx2) | (go_at_call 24; (with_reducible refine (H24.out w2 hg2_27).mono ?_); rintro e w3 ⟨x3, rfl, hx3, hg3⟩; obtain ⟨a3, c3, rfl⟩ := row_len hx3) | (go_at_call 17; (with_reducible refine (H17.out _ _ w3 (hx2.grows hg3) hx3).mono ?_); rintro e w' ⟨rfl, h4, d4, rfl⟩))
                go_roundw
                case rel => exact ⟨_, 2 + 1, rfl, by omega, by go_num, (HG.out.trans hg2_27).trans (hg3.trans (by repeat' (first | (with_reducible exact Grows.refl _) | (with_reducible refine Grows.alloc ?_ _) | (with_reducible refine Grows.drew ?_) | (with_reducible refine Grows.ext ?_ _ _))))⟩
                case measure => simp [intOf]; try omega
            · obtain rfl : k = 3 := by omega
              have HGn := Lib.hid (HW.out.trans hG)
              clear hG
              go_wp2_with (first | (go_at_call 15; (with_reducible refine (works_true _ (HGL.out.grows ?hg1_27) (HGT.out.grows ?hg2_27)).mono ?hm1_27); (case hg1_27 => exact HGn.out); (case hg2_27 => exact HGn.out); rintro e w' ⟨rfl, h1, d1, rfl⟩))
              go_ret
              exact ⟨rfl, HGn.out.trans (by repeat' (first | (with_reducible exact Grows.refl _) | (with_reducible refine Grows.alloc ?_ _) | (with_reducible refine Grows.drew ?_) | (with_reducible refine Grows.ext ?_ _ _)))⟩
end Go.Proofs.YtobbphkfdhjmdaaDoor

