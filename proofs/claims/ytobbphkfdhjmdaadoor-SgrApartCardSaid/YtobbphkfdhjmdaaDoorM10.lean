/-
  Layings of the library's contracts at this program: the text of a strings.Builder, strconv.Itoa. A row's text in pieces. Numbers as texts; the builder of strings. Rows of actions of the call's own. The iterator of sgr.each. Pens: what parameters say. Pens, whole.
-/
import Derived.Shelf.Strings.BuilderK
import Derived.Shelf.Strconv.Itoa3
import Derived.Shelf.LaysM
import Derived.Test.YtobbphkfdhjmdaaDoorProg
import Derived.Test.YtobbphkfdhjmdaaDoorRows
import Derived.Test.YtobbphkfdhjmdaaDoorM1
import Derived.WalkKit
import Derived.WalkSpells
import Derived.WalkLawsBesides
import Derived.Handy
import Derived.Laws.Rows
import Derived.Great.BuildSlice
import Derived.Deep.Heap
import Derived.IntWalk
import Derived.Lib.Hide
import Derived.Outline
import Derived.Deep.Light
import Derived.Deep.LoopGhost
import Derived.BigGuardPart
import Derived.BigQuiet
import Derived.Deep.QuietTactic
import Derived.Deep.RegionHeld3
import Derived.Deep.DeepCutAuto
import Derived.Laws.Externs
import Derived.Laws.IdiomCopy
import Derived.Lib.Walk
import Derived.Lib.UnsafeStr
import Derived.Lib.AppendStr
import Derived.Test.YtobbphkfdhjmdaaDoorM4
import Derived.OwnWalk
import Derived.Maps.AppendAt
import Derived.Test.YtobbphkfdhjmdaaDoorM2
import Derived.Test.YtobbphkfdhjmdaaDoorM3
import Derived.Shelf.Abstract
import Derived.OwnWalkIn
import Derived.TacticsInMore
import Derived.LoopNIn
import Derived.LoopIn
import Derived.Laws.ResultCell
namespace Go.Proofs.YtobbphkfdhjmdaaDoor
open Go.Shelf
def lays169_ren : Go.Shelf.Ren := ⟨fun | 169 => 42 | n => n, fun | 70 => 92 | 9 => 9 | 0 => 0 | 72 => 94 | 37 => 53 | 127 => 132 | 3 => 3 | 5 => 5 | n => n, fun | n => n⟩
theorem lays169 : Go.Proofs.Lays.n169 Tryd.prog lays169_ren := {
  mixed := by kernel_rfl
  f169 := Tryd.func42.trans (congrArg some (by kernel_rfl))
  t0 := Tryd.underlying0
  a0 := Tryd.isAgg0
  z0 := Tryd.sizeOf0
  v0 := Tryd.zeroValue0
  t3 := Tryd.underlying3
  a3 := Tryd.isAgg3
  z3 := Tryd.sizeOf3
  v3 := Tryd.zeroValue3
  t9 := Tryd.underlying9
  a9 := Tryd.isAgg9
  z9 := Tryd.sizeOf9
  v9 := Tryd.zeroValue9
  t37 := Tryd.underlying53
  a37 := Tryd.isAgg53
  z37 := Tryd.sizeOf53
  v37 := Tryd.zeroValue53
  t70 := Tryd.underlying92
  a70 := Tryd.isAgg92
  z70 := Tryd.sizeOf92
  v70 := Tryd.zeroValue92
  t72 := Tryd.underlying94
  a72 := Tryd.isAgg94
  z72 := Tryd.sizeOf94
  v72 := Tryd.zeroValue94
  t127 := Tryd.underlying132
  a127 := Tryd.isAgg132
  z127 := Tryd.sizeOf132
  v127 := Tryd.zeroValue132 }
theorem Builder_Extra_169 : Builder.Extra Tryd.prog lays169_ren := {
  sizeBuilder := by kernel_rfl
  liesBuilder := by kernel_rfl
  t5 := Tryd.underlying5
  a5 := Tryd.isAgg5
  z5 := Tryd.sizeOf5
  v5 := Tryd.zeroValue5
  infoByte := by kernel_rfl
  cellsByte := by kernel_rfl
  sizeByte := by kernel_rfl
  neB5 := by decide }
def laysM171_ren : Go.Shelf.Ren := ⟨fun | 171 => 77 | 243 => 92 | 246 => 97 | 283 => 98 | 284 => 99 | 285 => 100 | 286 => 101 | 129 => 103 | 317 => 102 | 318 => 104 | 319 => 105 | 320 => 106 | 337 => 107 | 338 => 108 | n => n, fun | 3 => 3 | 9 => 9 | 2 => 2 | 4 => 4 | 171 => 154 | 0 => 0 | 53 => 152 | 37 => 53 | 5 => 5 | 173 => 156 | 212 => 159 | 51 => 43 | 20 => 20 | 213 => 160 | 46 => 139 | 232 => 161 | 233 => 162 | n => n, fun | 17 => 1 | 18 => 2 | 19 => 3 | n => n⟩
theorem laysM171 : Go.Proofs.LaysM.n171 Tryd.prog laysM171_ren := {
  mixed := by kernel_rfl
  f129 := Tryd.func103.trans (congrArg some (by kernel_rfl))
  f171 := Tryd.func77.trans (congrArg some (by kernel_rfl))
  f243 := Tryd.func92.trans (congrArg some (by kernel_rfl))
  f246 := Tryd.func97.trans (congrArg some (by kernel_rfl))
  f283 := Tryd.func98.trans (congrArg some (by kernel_rfl))
  f284 := Tryd.func99.trans (congrArg some (by kernel_rfl))
  f285 := Tryd.func100.trans (congrArg some (by kernel_rfl))
  f286 := Tryd.func101.trans (congrArg some (by kernel_rfl))
  f317 := Tryd.func102.trans (congrArg some (by kernel_rfl))
  f318 := Tryd.func104.trans (congrArg some (by kernel_rfl))
  f319 := Tryd.func105.trans (congrArg some (by kernel_rfl))
  f320 := Tryd.func106.trans (congrArg some (by kernel_rfl))
  f337 := Tryd.func107.trans (congrArg some (by kernel_rfl))
  f338 := Tryd.func108.trans (congrArg some (by kernel_rfl))
  t0 := Tryd.underlying0
  a0 := Tryd.isAgg0
  z0 := Tryd.sizeOf0
  v0 := Tryd.zeroValue0
  t2 := Tryd.underlying2
  a2 := Tryd.isAgg2
  z2 := Tryd.sizeOf2
  v2 := Tryd.zeroValue2
  t3 := Tryd.underlying3
  a3 := Tryd.isAgg3
  z3 := Tryd.sizeOf3
  v3 := Tryd.zeroValue3
  t4 := Tryd.underlying4
  a4 := Tryd.isAgg4
  z4 := Tryd.sizeOf4
  v4 := Tryd.zeroValue4
  t5 := Tryd.underlying5
  a5 := Tryd.isAgg5
  z5 := Tryd.sizeOf5
  v5 := Tryd.zeroValue5
  t9 := Tryd.underlying9
  a9 := Tryd.isAgg9
  z9 := Tryd.sizeOf9
  v9 := Tryd.zeroValue9
  t20 := Tryd.underlying20
  a20 := Tryd.isAgg20
  z20 := Tryd.sizeOf20
  v20 := Tryd.zeroValue20
  t37 := Tryd.underlying53
  a37 := Tryd.isAgg53
  z37 := Tryd.sizeOf53
  v37 := Tryd.zeroValue53
  t46 := Tryd.underlying139
  a46 := Tryd.isAgg139
  z46 := Tryd.sizeOf139
  v46 := Tryd.zeroValue139
  t51 := Tryd.underlying43
  a51 := Tryd.isAgg43
  z51 := Tryd.sizeOf43
  v51 := Tryd.zeroValue43
  t53 := Tryd.underlying152
  a53 := Tryd.isAgg152
  z53 := Tryd.sizeOf152
  v53 := Tryd.zeroValue152
  t171 := Tryd.underlying154
  a171 := Tryd.isAgg154
  z171 := Tryd.sizeOf154
  v171 := Tryd.zeroValue154
  t173 := Tryd.underlying156
  a173 := Tryd.isAgg156
  z173 := Tryd.sizeOf156
  v173 := Tryd.zeroValue156
  t212 := Tryd.underlying159
  a212 := Tryd.isAgg159
  z212 := Tryd.sizeOf159
  v212 := Tryd.zeroValue159
  t213 := Tryd.underlying160
  a213 := Tryd.isAgg160
  z213 := Tryd.sizeOf160
  t232 := Tryd.underlying161
  a232 := Tryd.isAgg161
  z232 := Tryd.sizeOf161
  v232 := Tryd.zeroValue161
  t233 := Tryd.underlying162
  a233 := Tryd.isAgg162
  z233 := Tryd.sizeOf162
  v233 := Tryd.zeroValue162
  g17 := by kernel_rfl
  g18 := by kernel_rfl
  g19 := by kernel_rfl
  i0 := by kernel_rfl
  i2 := by kernel_rfl
  i3 := by kernel_rfl
  i4 := by kernel_rfl
  i5 := by kernel_rfl
  i9 := by kernel_rfl
  i20 := by kernel_rfl
  i37 := by kernel_rfl
  i46 := by kernel_rfl
  i51 := by kernel_rfl
  i53 := by kernel_rfl
  i171 := by kernel_rfl
  i173 := by kernel_rfl
  i212 := by kernel_rfl
  i232 := by kernel_rfl
  i233 := by kernel_rfl
  m17 := by kernel_rfl
  m18 := by kernel_rfl
  m19 := by kernel_rfl }
end Go.Proofs.YtobbphkfdhjmdaaDoor

namespace Go.Proofs.YtobbphkfdhjmdaaDoor
open Go.RowKit

def pieceH (hd : List UInt8) : List Int → List (List UInt8 × List UInt8)
  | [] => []
  | n :: l => (hd, partT n) :: l.map (fun n => ([58], partT n))
def hdI (i : Nat) : List UInt8 := if i = 0 then [] else [59]
def pieces : List (List Int) → List (List UInt8 × List UInt8)
  | [] => []
  | p :: l => pieceH [] p ++ l.flatMap (pieceH [59])
def joinP (l : List (List UInt8 × List UInt8)) : List UInt8 := l.flatMap (fun x => x.1 ++ x.2)
theorem joinP_append (a b : List (List UInt8 × List UInt8)) : joinP (a ++ b) = joinP a ++ joinP b := by simp [joinP]
theorem join_pieceH (hd : List UInt8) (p : List Int) (hp : p ≠ []) : joinP (pieceH hd p) = hd ++ paramT p := by
  cases p with
  | nil => exact absurd rfl hp
  | cons n l => simp [pieceH, joinP, paramT, List.flatMap_map]
theorem join_pieces (r : List (List Int)) (h : ∀ p ∈ r, p ≠ []) : joinP (pieces r) = rowT r := by
  cases r with
  | nil => rfl
  | cons p l =>
    unfold pieces rowT
    rw [joinP_append, join_pieceH [] p (h p (by simp)), List.nil_append]
    congr 1
    have hl : ∀ q ∈ l, q ≠ [] := fun q hq => h q (by simp [hq])
    clear h
    induction l with
    | nil => rfl
    | cons q l ih =>
      rw [List.flatMap_cons, List.flatMap_cons, joinP_append, join_pieceH [59] q (hl q (by simp)), ih fun x hx => hl x (by simp [hx])]
      rfl
theorem pieceH_len (hd : List UInt8) (p : List Int) : (pieceH hd p).length = p.length := by cases p <;> simp [pieceH]
theorem pieceH_get (hd : List UInt8) (p : List Int) (k : Nat) (hk : k < p.length) : (pieceH hd p)[k]? = some (if k = 0 then hd else [58], partT (p[k]?.getD 0)) := by
  cases p with
  | nil => simp at hk
  | cons n l =>
    cases k with
    | zero => simp [pieceH]
    | succ k =>
      have : k < l.length := by simpa using hk
      simp [pieceH, this]
theorem pieceH_take (hd : List UInt8) (p : List Int) (k : Nat) (hk : k < p.length) : (pieceH hd p).take (k + 1) = (pieceH hd p).take k ++ [(if k = 0 then hd else [58], partT (p[k]?.getD 0))] := by
  have h := pieceH_get hd p k hk
  rw [List.take_add_one, h]
  rfl
theorem pieceH_split (hd : List UInt8) (p : List Int) (k : Nat) (hk : k < p.length) : pieceH hd p = (pieceH hd p).take k ++ (if k = 0 then hd else [58], partT (p[k]?.getD 0)) :: (pieceH hd p).drop (k + 1) := by
  have h := pieceH_get hd p k hk
  obtain ⟨hlt, he⟩ := List.getElem?_eq_some_iff.1 h
  rw [← he, ← List.drop_eq_getElem_cons hlt, List.take_append_drop]
theorem pieces_snoc (r : List (List Int)) (p : List Int) : pieces (r ++ [p]) = pieces r ++ pieceH (hdI r.length) p := by
  cases r with
  | nil => simp [pieces, hdI]
  | cons q l => simp [pieces, hdI]
theorem pieces_take (r : List (List Int)) (i : Nat) (hi : i < r.length) : pieces (r.take (i + 1)) = pieces (r.take i) ++ pieceH (hdI i) (r[i]?.getD []) := by
  rw [List.take_succ_eq_append_getElem hi, pieces_snoc]
  have e : (r.take i).length = i := by simp; omega
  rw [e]
  simp [hi]
theorem pieces_append (r s : List (List Int)) (hr : r ≠ []) : pieces (r ++ s) = pieces r ++ s.flatMap (pieceH [59]) := by
  cases r with
  | nil => exact absurd rfl hr
  | cons q l => simp [pieces]
theorem pieces_split (r : List (List Int)) (i : Nat) (hi : i < r.length) : pieces r = (pieces (r.take i) ++ pieceH (hdI i) (r[i]?.getD [])) ++ (r.drop (i + 1)).flatMap (pieceH [59]) := by
  rw [← pieces_take r i hi, ← pieces_append _ _ (by intro h; have h2 := congrArg List.length h; rw [List.length_take, List.length_nil] at h2; omega), List.take_append_drop]
/-- The round that gives the k-th piece of the i-th parameter. -/
theorem pieces_at (r : List (List Int)) (i k : Nat) (hi : i < r.length) (hk : k < (r[i]?.getD []).length) : ∃ suf, pieces r = (pieces (r.take i) ++ (pieceH (hdI i) (r[i]?.getD [])).take k) ++ (if k = 0 then hdI i else [58], partT ((r[i]?.getD [])[k]?.getD 0)) :: suf := by
  refine ⟨(pieceH (hdI i) (r[i]?.getD [])).drop (k + 1) ++ (r.drop (i + 1)).flatMap (pieceH [59]), ?_⟩
  rw [pieces_split r i hi]
  conv => lhs; rw [pieceH_split (hdI i) _ k hk]
  simp
theorem pieces_len (r : List (List Int)) (_hl : r.length ≤ 16) (hp : ∀ p ∈ r, p.length ≤ 6) : ∀ i, i ≤ r.length → (pieces (r.take i)).length ≤ 6 * i := by
  intro i
  induction i with
  | zero => intro _; simp [pieces]
  | succ i ih =>
    intro h
    rw [pieces_take r i (by omega), List.length_append, pieceH_len]
    have h1 := ih (by omega)
    have h2 : (r[i]?.getD []).length ≤ 6 := by
      have hlt : i < r.length := by omega
      simp only [hlt, List.getElem?_eq_getElem, Option.getD_some]
      exact hp _ (List.getElem_mem hlt)
    omega
end Go.Proofs.YtobbphkfdhjmdaaDoor

namespace Go.Proofs.YtobbphkfdhjmdaaDoor
open Go.RowKit

open Go.Shelf
/-- The table of the powers of ten lies in block 1. -/
def GT (w : World) : Prop := ∃ t fr, w.heap[1]? = some (.cells (Lib.pow10Tab.map (Value.int .u64 ·)).toArray t fr)
theorem GT.grows {w w' : World} (h : GT w) (g : Grows w w') : GT w' := by
  obtain ⟨t, fr, h⟩ := h
  exact ⟨t, fr, (g.below.block 1 (Array.getElem?_eq_some_iff.1 h).1).trans h⟩
theorem tab_of {w : World} {nm : String} (hn : Tryd.prog.globalNamed nm = some 1) (h : GT w) : Lib.TabIs Tryd.prog w nm .u64 Lib.pow10Tab := by
  obtain ⟨t, fr, h⟩ := h
  unfold Lib.TabIs World.var?
  rw [hn]
  simp [h]
theorem itoa_any (n : Int) (h0 : -1 ≤ n) (h1 : n ≤ 9999) (w : World) (ht : GT w) : Calls Tryd.prog 77 #[.int .i64 n] w (Ret (.string ⟨(Lib.itoa n).toArray⟩) w) := by
  refine (Any.strconv_Itoa laysM171 n (by omega) (by omega) w (tab_of (by kernel_rfl) ht)).mono ?_
  rintro e w' ⟨he, k, os, rfl⟩
  exact ⟨he, os, w.drawn + k, rfl⟩
set_option maxHeartbeats 1000000 in
set_option maxRecDepth 100000 in
theorem check_used (b : Nat) (w : World) (h0 : w.cell? ⟨b, 0, none⟩ = some (.pointer (some ⟨b, 0, none⟩))) : Calls Tryd.prog 78 #[.pointer (some ⟨b, 0, none⟩)] w fun e w' => e = .returned (.tuple #[]) ∧ w' = w := by
  obtain ⟨j, hj, _⟩ := Option.map_eq_some_iff.1 Builder_Extra_169.sizeBuilder
  go_enter Tryd.func78, Tryd.ntmps78
  go_wp2
  rw [Lib.run_neq_ptr_same w _ Tryd.underlying92 hj]
  go_wp2
  go_end0
  exact ⟨rfl, rfl⟩
set_option maxHeartbeats 1000000 in
set_option maxRecDepth 100000 in
theorem check_fresh (b : Nat) (w : World) (h0 : w.cell? ⟨b, 0, none⟩ = some (.pointer none)) (hsh : w.shape? b = some (94, 2)) (hfz : w.frozen? ⟨b, 0, none⟩ = false) : Calls Tryd.prog 78 #[.pointer (some ⟨b, 0, none⟩)] w fun e w' => e = .returned (.tuple #[]) ∧ w' = w.setCell ⟨b, 0, none⟩ (.pointer (some ⟨b, 0, none⟩)) := by
  obtain ⟨j, hj, hjs⟩ := Option.map_eq_some_iff.1 Builder_Extra_169.sizeBuilder
  go_enter Tryd.func78, Tryd.ntmps78
  go_wp2
  rw [Lib.run_to_unsafe w ⟨b, 0, none⟩ Tryd.underlying92 Tryd.underlying148 hj (by rw [hjs]; decide) hsh (Nat.zero_lt_succ 1)]
  simp only [Result.andThen]
  rw [Oper.upon_value]
  go_wp2
  rw [run_callFunc_extern Tryd.func93 (by kernel_rfl) (by kernel_rfl) (by kernel_rfl) (e := Extern.AbiNoEscape.same) (by kernel_rfl)]
  rw [Lib.run_noEscape]
  simp only [Result.andThen]
  rw [Oper.upon_value]
  go_wp2
  rw [Lib.run_from_unsafe w ⟨b, 0, none⟩ Tryd.underlying148 Tryd.underlying92 hj hsh Builder_Extra_169.liesBuilder]
  simp only [Result.andThen]
  rw [Oper.upon_value]
  go_wp2
  go_end0
  exact ⟨rfl, rfl⟩
theorem check_bld (B b : Nat) (bs : List Value) (w : World) (h : Lib.IsBuilderF 94 5 B b bs w) : Calls Tryd.prog 78 #[.pointer (some ⟨b, 0, none⟩)] w fun e w' => e = .returned (.tuple #[]) ∧ (Lib.BuilderAtF 94 5 B b (.pointer (some ⟨b, 0, none⟩)) bs w' ∧ Below B w w' ∧ Lib.OthersKept 5 (some b) w w') := by
  rcases h with h | h
  · refine (check_fresh b w h.cell0 h.shape h.frozen0).mono ?_
    rintro e w' ⟨rfl, rfl⟩
    exact ⟨rfl, h.used _, (Below.refl B w).setCell (p := ⟨b, 0, none⟩) h.1 _, (Lib.OthersKept.refl _ _ w).setCell ⟨b, 0, none⟩ rfl _⟩
  · refine (check_used b w h.cell0).mono ?_
    rintro e w' ⟨rfl, rfl⟩
    exact ⟨rfl, h, Below.refl B _, Lib.OthersKept.refl _ _ _⟩
set_option maxHeartbeats 2000000 in
set_option maxRecDepth 100000 in
theorem write_any (B b : Nat) (bs : List Value) (s : ByteArray) (w : World) (h : Lib.IsBuilderF 94 5 B b bs w) (hlen : bs.length + s.size ≤ 140737488355328) (hBw : B ≤ w.heap.size) :
    Calls Tryd.prog 41 #[.pointer (some ⟨b, 0, none⟩), .string s] w fun e w' => e = .returned (.tuple #[.int .i64 s.size, .nilIface]) ∧ (Lib.BuilderAtF 94 5 B b (.pointer (some ⟨b, 0, none⟩)) (bs ++ Lib.strCells s) w' ∧ Below B w w' ∧ Lib.OthersKept 5 (some b) w w') := by
  obtain ⟨i0, hi, hz0, hz1, hz2⟩ := info_parts Builder_Extra_169.infoByte
  go_enter Tryd.func41, Tryd.ntmps41
  go_wp2_with (go_at_call 78; refine (check_bld B b bs _ h).mono ?_)
  rintro e w1 ⟨rfl, h1, hb1, hk1⟩
  obtain ⟨hB, v, hbk, hown, hne⟩ := h1
  have c0 : w1.cell? ⟨b, 0, none⟩ = some (.pointer (some ⟨b, 0, none⟩)) := by rw [Lib.cell_of_heap hbk]; rfl
  have c1 : w1.cell? ⟨b, 1, none⟩ = some v := by rw [Lib.cell_of_heap hbk]; rfl
  go_wp2_with (at_builtin; refine Lib.wpList_append_own_stringF _ rfl _ _ 53 9 rfl B 5 i0 Tryd.underlying53 Tryd.underlying9 hi hz0 hz1 hz2 _ _ _ rfl hown s rfl ?c3 ?c4 ?c5 ?_)
  case c3 => unfold maxLen; omega
  case c4 => omega
  case c5 => have := hb1.size; omega
  intro v' w2 hown' hgrow _
  have hlt : b < w1.heap.size := (Array.getElem?_eq_some_iff.1 hbk).1
  have hb2 : w2.heap[b]? = some (.cells #[.pointer (some ⟨b, 0, none⟩), v] 94 (0, 0)) := by
    rw [hgrow.block b hlt (fun e => hne e.symm)]
    exact hbk
  have d0 : w2.cell? ⟨b, 0, none⟩ = some (.pointer (some ⟨b, 0, none⟩)) := by rw [Lib.cell_of_heap hb2]; rfl
  have d1 : w2.cell? ⟨b, 1, none⟩ = some v := by rw [Lib.cell_of_heap hb2]; rfl
  have f1 : w2.frozen? ⟨b, 1, none⟩ = false := Lib.frozen_of_heap hb2 1
  obtain ⟨ao, n', cap, rfl⟩ : ∃ ao n' cap, v' = .slice ao n' cap := by
    rcases hown'.2 with ⟨hv, _⟩ | ⟨g, cap, cur, fz, hv, _⟩
    · exact ⟨_, _, _, hv⟩
    · exact ⟨_, _, _, hv⟩
  go_wp2
  go_ret2
  refine ⟨rfl, ?_, ?_, (hk1.grown hgrow (Lib.ownsRowF_kind hown)).setCell ⟨b, 1, none⟩ rfl _⟩
  · exact Lib.BuilderAtF.put (T := 94) (e := 5) hB hb2 (bs' := bs ++ Lib.strCells s) (by simpa [Lib.strCells_length] using hown') Builder_Extra_169.neB5
  · exact (hb1.grown hgrow (by have := hb1.size; omega) (fun k hk => (hown.lt k hk).1)).setCell (p := ⟨b, 1, none⟩) hB _
theorem text_any (B b : Nat) (l : List UInt8) (w : World) (h : Lib.IsBuilderF 94 5 B b (Lib.byteCells l) w) (hBw : B ≤ w.heap.size) : Calls Tryd.prog 42 #[.pointer (some ⟨b, 0, none⟩)] w fun e w' => e = .returned (.string ⟨l.toArray⟩) ∧ Below B w w' ∧ Lib.OthersKept 5 (some b) w w' :=
  (Any.Builder_String_any_k lays169 Builder_Extra_169 B b l w h hBw).mono fun _ _ hh => ⟨hh.1, hh.2.2⟩
end Go.Proofs.YtobbphkfdhjmdaaDoor

namespace Go.Proofs.YtobbphkfdhjmdaaDoor
open Go.RowKit

def actC (a : ActV) : List Value := [.int .i64 a.kd, .int .i64 a.n, .int .i64 a.m, .int .i64 a.ck, .int .i64 a.cn, .string a.s]
def actsC (l : List ActV) : List Value := l.flatMap actC
theorem actsC_len (l : List ActV) : (actsC l).length = l.length * 6 := by
  induction l with
  | nil => rfl
  | cons p l ih =>
    show (actC p ++ actsC l).length = _
    rw [List.length_append, ih]
    simp [actC]
    omega
theorem actsC_get : ∀ (l : List ActV) (i j : Nat), i < l.length → j < 6 → (actsC l)[i * 6 + j]? = (actC (l[i]?.getD actD))[j]?
  | [], i, j, h, _ => by simp at h
  | q :: l, 0, j, h, hj => by
    show (actC q ++ actsC l)[0 * 6 + j]? = _
    rw [List.getElem?_append_left (by simp [actC]; omega)]
    simp
  | q :: l, i + 1, j, h, hj => by
    show (actC q ++ actsC l)[(i + 1) * 6 + j]? = _
    rw [List.getElem?_append_right (by simp [actC]; omega)]
    have := actsC_get l i j (by simpa using h) hj
    rw [List.getElem?_cons_succ, ← this]
    congr 1
    simp [actC]
    omega
theorem actsC_snoc (l : List ActV) (p : ActV) : actsC (l ++ [p]) = actsC l ++ actC p := by simp [actsC]
/-- The slice v holds the actions l, in a block of the call's own, from base on. -/
def OwnA (w : World) (base : Nat) (v : Value) (l : List ActV) : Prop := w.ownsRow base 26 6 v l.length (actsC l)
theorem OwnA.grows {w w' : World} {base : Nat} {v : Value} {l : List ActV} (h : OwnA w base v l) (g : Grows w w') : OwnA w' base v l := by
  obtain ⟨hl, h | ⟨b, cap, cur, rfl, hb, hh, hc, hm, hs, ht⟩⟩ := h
  · exact ⟨hl, .inl h⟩
  · exact ⟨hl, .inr ⟨b, cap, cur, rfl, hb, (g.below.block b (Array.getElem?_eq_some_iff.1 hh).1).trans hh, hc, hm, hs, ht⟩⟩
theorem OwnA.nil (w : World) (base : Nat) : OwnA w base (.slice none 0 0) [] := World.ownsRow_nil _ _ _ _
theorem OwnA.one {w : World} {g : Nat} {p : ActV} {base : Nat} (h : w.heap[g]? = some (.cells #[.int .i64 p.kd, .int .i64 p.n, .int .i64 p.m, .int .i64 p.ck, .int .i64 p.cn, .string p.s] 26 (0, 0))) (hb : base ≤ g) : OwnA w base (.slice (some ⟨g, 0, none⟩) 1 1) [p] :=
  ⟨rfl, .inr ⟨g, 1, _, rfl, hb, h, Nat.le_refl _, by unfold maxLen; omega, rfl, rfl⟩⟩
theorem OwnA.at_ {w : World} {base : Nat} {v : Value} {l : List ActV} (h : OwnA w base v l) : ActsAt w v l := by
  obtain ⟨hlen, ⟨rfl, h'⟩ | ⟨g, cap, cur, rfl, hb, hh, hc, hm, hs, ht⟩⟩ := id h
  · obtain rfl := List.length_eq_zero_iff.1 h'
    exact ActsAt.nil w
  · refine ⟨_, cap, rfl, hc, fun _ => ⟨g, 0, rfl, (Array.getElem?_eq_some_iff.1 hh).1, fun i hi => ?_⟩⟩
    have hx := World.ownsRow.cells h (g := g) rfl
    have hat : ∀ j v, j < 6 → (actC (l[i]?.getD actD))[j]? = some v → w.cell? ⟨g, 0 + i * 6 + j, none⟩ = some v := fun j v hj hv => by
      have := hx (i * 6 + j) v ((actsC_get l i j hi hj).trans hv)
      rw [Addr.add_lit] at this
      simpa only [Nat.zero_add] using this
    exact ⟨hat 0 _ (by omega) rfl, hat 1 _ (by omega) rfl, hat 2 _ (by omega) rfl, hat 3 _ (by omega) rfl, hat 4 _ (by omega) rfl, hat 5 _ (by omega) rfl⟩
theorem OwnA.snoc {w : World} {base : Nat} {v : Value} {l : List ActV} {p : ActV} (h : w.ownsRow base 26 6 v (l.length + 1) (actsC l ++ actC p)) : OwnA w base v (l ++ [p]) := by
  unfold OwnA
  rw [actsC_snoc, List.length_append]
  exact h
theorem Grows.appended {w0 w w1 : World} {row : Option Nat} (g : Grows w0 w) (h : w.grownBy w1 row) (hr : ∀ k, row = some k → w0.heap.size ≤ k) : Grows w0 w1 := by
  have b := g.below
  refine Grows.of_below ⟨h.os.trans b.os, h.tape.trans b.tape, h.output.trans b.output, Nat.le_trans b.size h.size, fun k hk => (h.block k (Nat.lt_of_lt_of_le hk b.size) ?_).trans (b.block k hk)⟩
  intro e
  have := hr k e.symm
  omega
theorem infoAct : (Tryd.prog.info? 26).map (fun i => (i.zero, i.size, i.bytes)) = some (some (.agg #[.int .i64 0, .int .i64 0, .int .i64 0, .int .i64 0, .int .i64 0, .string ⟨#[]⟩]), 6, 56) := by kernel_rfl
end Go.Proofs.YtobbphkfdhjmdaaDoor

namespace Go.Proofs.YtobbphkfdhjmdaaDoor
open Go.RowKit

attribute [local go_sem] Oper.semAt_some
def actV (p : Pen) : Value := .agg #[.int .i64 39, .int .i64 p.n, .int .i64 p.m, .int .i64 p.ck, .int .i64 p.cn, .string ⟨#[]⟩]
/-- The box of the iterator's own variable: the slice that is still to come. -/
def Still (C : Nat) (w0 W : World) (rest : List (List Int)) : Prop := ∃ v, Boxed W C 29 v ∧ RowAt w0 v rest
def stillLen (C : Nat) (W : World) : Nat := match W.cell? ⟨C, 0, none⟩ with | some (.slice _ n _) => n | _ => 0
theorem frontP_le (x : List Int) (l : List (List Int)) : (frontP (x :: l)).2 ≤ (x :: l).length := by
  unfold frontP
  dsimp only
  split
  · simp
  · split
    · split
      · simp only [List.length_cons]
        split <;> omega
      · simp
    · simp
theorem drop_row {w : World} {a : Option Addr} {cap k : Nat} {r : List (List Int)} {m : Nat} (h : RowAt w (.slice a m cap) r) (hk : k ≤ r.length) : RowAt w (.slice (if cap = k then a else Option.map (fun x => x.add k) a) (m - k) (cap - k)) (r.drop k) := by
  obtain ⟨a', cap', he, hc, hin⟩ := h
  injection he with e1 e2 e3
  subst e1 e2 e3
  refine ⟨if cap = k then a else Option.map (fun x => x.add k) a, cap - k, by simp, by simp; omega, fun hne => ?_⟩
  have hlt : k < r.length := by
    have := List.length_pos_iff.2 hne
    simp at this
    omega
  obtain ⟨b, off, rfl, hb, hcell⟩ := hin (by intro e; subst e; simp at hlt)
  refine ⟨b, off + k, by rw [if_neg (by omega), Option.map_some, Addr.add_lit], hb, fun i hi => ?_⟩
  simp only [List.length_drop] at hi
  obtain ⟨s, hs1, hs2⟩ := hcell (k + i) (by omega)
  exact ⟨s, by rw [Nat.add_assoc]; exact hs1, by rw [List.getElem?_drop]; exact hs2⟩
theorem mapP_kept {W W' : World} {M : Nat} {f : Int → Option Pen} (h : MapP W M f) (k : KeepsOthers W W') : MapP W' M f := by
  obtain ⟨es, c, he, rest⟩ := h
  exact ⟨es, c, k.same _ _ he rfl, rest⟩
theorem stillLen_box {C : Nat} {W : World} {a : Option Addr} {n cap : Nat} (h : Boxed W C 29 (.slice a n cap)) : stillLen C W = n := by
  unfold stillLen
  rw [h.cell]
set_option maxRecDepth 100000 in
set_option maxHeartbeats 2000000 in
theorem each_gives (n C : Nat) (hn : 3 ≤ n) (r : List (List Int)) (w0 w : World) (hl : r.length ≤ 900) (hok : ∀ p ∈ r, 1 ≤ p.length ∧ p.length ≤ 1000) (hb : Grows w0 w) (hC : w0.heap.size ≤ C) (hs : Still C w0 w r) (hg : GL w0) :
    Gives n Tryd.prog 52 #[.pointer (some ⟨C, 0, none⟩)] (fun p : Pen => #[actV p]) w0.heap.size C (pensL r) w := by
  intro l J W hW hJ hY h0
  have h1 : 1 ≤ n := by omega
  obtain ⟨v0, hv0, hr0⟩ := hs
  have hG0 : Grows w0 W := hb.trans (Grows.of_below hW)
  have hGL := hg.grows hG0
  refine callsIn_of_wp Tryd.func52 rfl trivial ?_ rfl
  simp only [Tryd.ntmps52, List.size_toArray, List.length_cons, List.length_nil, Nat.reduceAdd, Nat.reduceSub, Array.replicate_succ, Array.replicate_zero, List.push_toArray, List.append_toArray, List.nil_append, List.cons_append]
  gi_wp2_with (refine ⟨trivial, ?_⟩; gi_at_call 53; refine (callsIn_wide.2 (simple_any W hGL)).mono ?_; rintro e w' ⟨M, rfl, hM, hG⟩)
  gi_loopw [6] (fun _ wr => ∃ (pre : List Pen) (rest : List (List Int)), pensL r = pre ++ pensL rest ∧ rest <:+ r ∧ Still C w0 wr rest ∧ MapP wr M simpleV ∧ Grows w0 wr ∧ J pre wr) (fun _ wr => stillLen C wr)
  case atStart =>
    exact ⟨[], r, by simp, List.suffix_refl r, ⟨v0, boxed_grows (boxed_grows hv0 (Grows.of_below hW)) hG, hr0⟩, hM, hG0.trans hG, hJ.1 _ _ _ h0 hG⟩
  case round =>
    obtain ⟨pre, rest, hx, hsuf, ⟨v, hv, hr⟩, hM2, hG2, hJ2⟩ := hrel
    have hc := hv.cell
    have hf := hv.frozen
    cases rest with
    | nil =>
      obtain ⟨a, cap, rfl, -, -⟩ := hr
      gi_wp2
      go_end0
      exact ⟨⟨_, rfl⟩, by rw [hx]; simpa [pensL] using hJ2⟩
    | cons x rest =>
      have HF := Lib.hid (front_any v (x :: rest) M wr (hr.grows hG2) (by simp) (Nat.le_trans hsuf.length_le hl) (fun p hp => hok p (hsuf.mem hp)) hM2)
      have hq1 := frontP_pos x rest
      have hq2 := frontP_le x rest
      have hx2 := pensL_cons x rest
      unfold FrontPost at HF
      generalize frontP (x :: rest) = q at *
      obtain ⟨⟨⟨pn, pm, pck, pcn⟩, is⟩, k⟩ := q
      dsimp only at HF hq1 hq2 hx2
      obtain ⟨a, cap, rfl, hcap, hin⟩ := hr
      have e1 : decide ((((x :: rest).length : Nat) : Int) > 0) = true := by simp
      have e2 : (k : Int) ≤ rest.length + 1 := by simp only [List.length_cons] at hq2; omega
      have e3 : ((rest.length + 1 : Nat) : Int) ≤ cap := by simp only [List.length_cons] at hcap; omega
      have hd := drop_row (k := k) (show RowAt w0 (.slice a (rest.length + 1) cap) (x :: rest) from ⟨a, cap, rfl, hcap, hin⟩) hq2
      have hd' : (x :: rest).drop k <:+ r := (List.drop_suffix _ _).trans hsuf
      have hml := stillLen_box hv
      cases is with
      | false =>
        gi_wp2_with (refine ⟨trivial, ?_⟩; gi_at_call 54; refine (callsIn_wide.2 HF.out).mono ?_; rintro e w' ⟨kq, hkq, rfl, h1, d1, rfl⟩)
        obtain ⟨W1, hW1⟩ : ∃ W1, (ext wr h1 d1).alloc (.cells #[.int .i64 kq, .int .i64 pn, .int .i64 pm, .int .i64 pck, .int .i64 pcn, .string ⟨#[]⟩] 26) = W1 := ⟨_, rfl⟩
        have hG3 : Grows wr W1 := by rw [← hW1]; exact (by repeat' (first | (with_reducible exact Grows.refl _) | (with_reducible refine Grows.alloc ?_ _) | (with_reducible refine Grows.drew ?_) | (with_reducible refine Grows.ext ?_ _ _)))
        rw [hW1]
        have hv3 : Boxed W1 C 29 _ := boxed_grows hv hG3
        have hc3 := hv3.cell
        have hf3 := hv3.frozen
        gi_wp2
        refine ⟨fun _ h => (by cases h), ?_⟩
        gi_wp2
        have hv4 := hv3.set (Value.slice (if cap = k then a else Option.map (fun x => x.add k) a) (rest.length + 1 - k) (cap - k))
        refine ⟨⟨pre, (x :: rest).drop k, by rw [hx, hx2]; simp, hd', ⟨_, hv4, hd⟩, mapP_kept (hM2.grows hG3) (KeepsOthers.setCell _ _ _), (hG2.trans hG3).setCell hC _, hJ.2 _ _ _ (hJ.1 _ _ _ hJ2 hG3)⟩, ?_⟩
        rw [stillLen_box hv4, hml]
        simp only [List.length_cons] at hq2 ⊢
        omega
      | true =>
        gi_wp2_with (refine ⟨trivial, ?_⟩; gi_at_call 54; refine (callsIn_wide.2 HF.out).mono ?_; rintro e w' ⟨kq, hkq, rfl, h1, d1, rfl⟩; obtain rfl := hkq rfl)
        obtain ⟨W1, hW1⟩ : ∃ W1, (ext wr h1 d1).alloc (.cells #[.int .i64 39, .int .i64 pn, .int .i64 pm, .int .i64 pck, .int .i64 pcn, .string ⟨#[]⟩] 26) = W1 := ⟨_, rfl⟩
        have hG3 : Grows wr W1 := by rw [← hW1]; exact (by repeat' (first | (with_reducible exact Grows.refl _) | (with_reducible refine Grows.alloc ?_ _) | (with_reducible refine Grows.drew ?_) | (with_reducible refine Grows.ext ?_ _ _)))
        obtain ⟨fn, tmps, assign, body, hy, hR⟩ := hY pre ⟨pn, pm, pck, pcn⟩ W1 (hJ.1 _ _ _ hJ2 hG3) ⟨pensL (List.drop k (x :: rest)), by rw [hx, hx2]; simp⟩
        dsimp only [actV] at hy
        rw [hW1, hy]
        gi_wp2
        refine hR.mono ?_
        rintro e W2 ⟨rfl, hJ3, hk3⟩
        have hv3 : Boxed W2 C 29 _ := hk3.own _ (boxed_grows hv hG3)
        have hc3 := hv3.cell
        have hf3 := hv3.frozen
        gi_wp2
        have hv4 := hv3.set (Value.slice (if cap = k then a else Option.map (fun x => x.add k) a) (rest.length + 1 - k) (cap - k))
        refine ⟨⟨pre ++ [⟨pn, pm, pck, pcn⟩], (x :: rest).drop k, by rw [hx, hx2]; simp, hd', ⟨_, hv4, hd⟩, mapP_kept (mapP_kept (hM2.grows hG3) hk3.others) (KeepsOthers.setCell _ _ _), (Grows.of_below ((hG2.trans hG3).below.trans hk3.below)).setCell hC _, hJ.2 _ _ _ hJ3⟩, ?_⟩
        rw [stillLen_box hv4, hml]
        simp only [List.length_cons] at hq2 ⊢
        omega
end Go.Proofs.YtobbphkfdhjmdaaDoor

namespace Go.Proofs.YtobbphkfdhjmdaaDoor
open Go.RowKit

attribute [local go_sem] Oper.semAt_some
theorem each_any (a : Option Addr) (n cap : Nat) (w : World) : Calls Tryd.prog 31 #[.slice a n cap] w (fun e w' => e = .returned (.func (.func 52) #[] #[.pointer (some ⟨w.heap.size, 0, none⟩)]) ∧ w' = w.alloc (.cells #[.slice a n cap] 29)) := by
  go_enter Tryd.func31, Tryd.ntmps31
  go_wp2
  go_ret
  exact ⟨rfl, rfl⟩
theorem pensL_len : ∀ (n : Nat) (l : List (List Int)), l.length ≤ n → (pensL l).length ≤ l.length
  | _, [], _ => by simp [pensL]
  | 0, x :: l, h => by simp at h
  | n + 1, x :: l, h => by
    rw [pensL_cons, List.length_append]
    have h1 := frontP_pos x l
    have h2 := frontP_le x l
    have ih := pensL_len n ((x :: l).drop (frontP (x :: l)).2) (by simp only [List.length_drop, List.length_cons] at h ⊢; omega)
    rw [List.length_drop] at ih
    have h3 : (if (frontP (x :: l)).1.2 then [(frontP (x :: l)).1.1] else []).length ≤ 1 := by split <;> simp
    omega
theorem appended_box {W w1 : World} {n₀ B C : Nat} {t e : TypeId} {size : Nat} {v v' : Value} {k m : Nat} {xs ys : List Value} {tmp : Obj} (hv : Boxed W B t v) (hrow : W.ownsRow n₀ e size v k xs) (hCn : C < n₀) (hBn : B < n₀) (hne : B ≠ C)
    (hn : n₀ ≤ W.heap.size) (hown' : w1.ownsRow n₀ e size v' m ys) (hgrow : (W.alloc tmp).grownBy w1 v.ownBlock) :
    Boxed w1 B t v ∧ Boxed (w1.setCell ⟨B, 0, none⟩ v') B t v' ∧ (w1.setCell ⟨B, 0, none⟩ v').ownsRow n₀ e size v' m ys ∧ Kept B C W (w1.setCell ⟨B, 0, none⟩ v') := by
  have hr1 := hrow.lt
  have hr2 := hown'.lt
  have hv1 : Boxed w1 B t v := (hv.alloc tmp).kept hgrow (fun e => by have := (hr1 B e.symm).1; omega)
  refine ⟨hv1, hv1.set v', hown'.kept (grownBy_setCell' w1 B v') (.inr fun e => ?_), ⟨?_, ?_, fun o ho => ?_⟩⟩
  · have := (hr2 B e).1
    omega
  · exact (((Below.refl B W).alloc (by omega) tmp).grown hgrow (by simp; omega) (fun j ej => by have := (hr1 j ej).1; omega)).setCell (p := ⟨B, 0, none⟩) (Nat.le_refl _) v'
  · refine ((KeepsOthers.alloc W tmp).trans (KeepsOthers.of_grownBy hgrow fun j o ej hj => ?_)).trans (KeepsOthers.setCell _ _ _)
    rcases (hrow.alloc tmp).2 with ⟨rfl, _⟩ | ⟨g, cap, cur, rfl, _, hgb, _⟩
    · simp [Value.ownBlock] at ej
    · obtain rfl : g = j := by simpa [Value.ownBlock] using ej
      rw [hgb] at hj; cases hj; rfl
  · have h1 := (Below.heap_alloc W tmp C (Array.getElem?_eq_some_iff.1 ho).1).trans ho
    have h2 := (hgrow.block C (Array.getElem?_eq_some_iff.1 h1).1 (fun e => by have := (hr1 C e.symm).1; omega)).trans h1
    exact (Below.heap_setCell w1 ⟨B, 0, none⟩ v' C (fun e => hne e.symm)).trans h2
def actO (p : Pen) : Obj := .cells #[.int .i64 39, .int .i64 p.n, .int .i64 p.m, .int .i64 p.ck, .int .i64 p.cn, .string ⟨#[]⟩] 26
set_option maxRecDepth 100000 in
set_option maxHeartbeats 2000000 in
theorem pens_run (v : Value) (x : List Int) (r : List (List Int)) (w : World) (hok : okRow (x :: r) = true) (h : RowAt w v (x :: r)) (hg : GL w) : Calls Tryd.prog 14 #[v] w (fun e w' => ∃ x', e = .returned (.tuple #[x', .int .i64 0]) ∧ ActsAt w' x' ((pensL (x :: r)).map actP) ∧ Grows w w') := by
  obtain ⟨i0, hi, hz0, hz1, hz2⟩ := info_parts infoAct
  obtain ⟨k1, k2, k3⟩ := okRow_iff.1 hok
  have k4 : ∀ p ∈ x :: r, 1 ≤ p.length ∧ p.length ≤ 6 := fun p hp => by
    obtain ⟨q1, q2, q3⟩ := okPart_iff.1 (k3 p hp)
    exact ⟨List.length_pos_iff.2 q1, q2⟩
  have HC := Lib.hid fun W (hW : Grows w W) => check_row v (x :: r) (by omega) (fun p hp => by have := k4 p hp; omega) W (h.grows hW)
  have he : pensErr (x :: r) = 0 := by simp [pensErr, hok]
  rw [he] at HC
  refine (callsIn_wide (n := 6)).1 ?_
  refine callsIn_of_wp_marks Tryd.func14 rfl trivial ?_ rfl
  simp only [Tryd.ntmps14, List.size_toArray, List.length_cons, List.length_nil, Nat.reduceAdd, Nat.reduceSub, Array.replicate_succ, Array.replicate_zero, List.push_toArray, List.append_toArray, List.nil_append, List.cons_append]
  obtain ⟨a, cap, rfl, hcap, hin⟩ := id h
  gi_wp2_with (first | (refine ⟨trivial, ?_⟩; gi_at_call 27; refine (callsIn_wide.2 (HC.out _ (by repeat' (first | (with_reducible exact Grows.refl _) | (with_reducible refine Grows.alloc ?_ _) | (with_reducible refine Grows.drew ?_) | (with_reducible refine Grows.ext ?_ _ _))))).mono ?_; rintro e w' ⟨rfl, h1, d1, rfl⟩) | (refine ⟨trivial, ?_⟩; gi_at_call 31; refine (callsIn_wide.2 (each_any _ _ _ _)).mono ?_; rintro e w' ⟨rfl, rfl⟩))
  obtain ⟨W0, hW0⟩ : ∃ W0, (ext (w.alloc (Obj.cells #[Value.slice none 0 0] 33)) h1 d1).alloc (Obj.cells #[Value.slice a (r.length + 1) cap] 29) = W0 := ⟨_, rfl⟩
  have hG0 : Grows w W0 := by rw [← hW0]; exact (by repeat' (first | (with_reducible exact Grows.refl _) | (with_reducible refine Grows.alloc ?_ _) | (with_reducible refine Grows.drew ?_) | (with_reducible refine Grows.ext ?_ _ _)))
  have hsz : W0.heap.size = w.heap.size + 1 + h1.size + 1 := by rw [← hW0]; simp
  have hbO : Boxed W0 w.heap.size 33 (.slice none 0 0) := by rw [← hW0]; exact boxed_grows (Boxed.new w 33 _) (by repeat' (first | (with_reducible exact Grows.refl _) | (with_reducible refine Grows.alloc ?_ _) | (with_reducible refine Grows.ext ?_ _ _)))
  have hbC : Boxed W0 (w.heap.size + 1 + h1.size) 29 (.slice a (r.length + 1) cap) := by
    rw [← hW0]
    have := Boxed.new (ext (w.alloc (Obj.cells #[Value.slice none 0 0] 33)) h1 d1) 29 (Value.slice a (r.length + 1) cap)
    simpa using this
  rw [hW0]
  clear hW0
  refine wpIn_range (gf := 52) (lb := #[.pointer (some ⟨w.heap.size + 1 + h1.size, 0, none⟩)]) rfl (enters_of Tryd.func52 (by kernel_rfl) rfl)
    (each_gives (6 - 1) (w.heap.size + 1 + h1.size) (by omega) (x :: r) w W0 (by omega) (fun p hp => by have := k4 p hp; omega) hG0 (by omega) ⟨_, hbC, h⟩ hg) (by omega) (by omega) (fun _ => rfl)
    (fun pre W => (∃ v', Boxed W w.heap.size 33 v' ∧ W.ownsRow W0.heap.size 26 6 v' (pre.map actP).length (actsC (pre.map actP)) ∧ True) ∧ Below w.heap.size w W ∧ W0.heap.size ≤ W.heap.size)
    (OwnFrom.and (Own.from (holdsRow_own W0.heap.size w.heap.size 33 26 6 (fun pre : List Pen => (pre.map actP).length) (fun pre => actsC (pre.map actP)) (fun _ _ => True)) _) (OwnFrom.and (ownFrom_below (Nat.le_refl _) (by omega)) (fun s A B row hs hg _ => Nat.le_trans hs hg.size)))
    ?setC ⟨⟨_, hbO, World.ownsRow_nil _ _ _ _, trivial⟩, hG0.below, Nat.le_refl _⟩
    (fun p a' W => ∃ Bx, W.heap[Bx]? = some (actO p) ∧ W0.heap.size ≤ Bx ∧ a' = { tmps := #[Value.slice a (r.length + 1) cap, undef, Value.pointer (some { block := w.heap.size, off := 0 }), Value.int IntKind.i64 0, Value.int IntKind.i64 0, Value.pointer (some ⟨Bx, 0, none⟩), Value.slice a (r.length + 1) cap, Value.int IntKind.i64 0, Value.int IntKind.i64 0, Value.bool false, undef, Value.slice a (r.length + 1) cap, Value.int IntKind.i64 (↑r.length + 1), Value.bool false, undef, undef, Value.slice a (r.length + 1) cap, Value.func (Fn.func 52) #[] #[Value.pointer (some { block := w.heap.size + 1 + h1.size, off := 0 })], actV p, undef, undef, undef, undef, undef], defers := [] }) ?ax ?assign ?body ?done
  case setC =>
    rintro pre W v ⟨⟨v', hb, ho, -⟩, hB, hs⟩
    refine ⟨⟨v', hb.kept (grownBy_setCell' W _ v) (by intro e; injection e with e; omega), ho.kept (grownBy_setCell' W _ v) (.inr fun e => ?_), trivial⟩, hB.setCell (p := ⟨w.heap.size + 1 + h1.size, 0, none⟩) (by show w.heap.size ≤ w.heap.size + 1 + h1.size; omega) v, ?_⟩
    · have := (ho.lt _ e).1
      omega
    · have := (KeepsOthers.setCell W ⟨w.heap.size + 1 + h1.size, 0, none⟩ v).size
      omega
  case ax =>
    rintro p a' W W' row ⟨Bx, hb, hs, ha⟩ hg hrow
    exact ⟨Bx, (grownBy_keeps_cells hg (fun r e => (hrow r e).2) hb rfl).trans hb, hs, ha⟩
  case assign =>
    rintro l pre p W ⟨⟨v', hb, ho, -⟩, hB, hs⟩
    dsimp only [actV]
    gi_wp2
    have hC : w.heap.size + 1 + h1.size < W.heap.size := by omega
    refine ⟨⟨(Below.refl _ W).alloc (by omega) _, KeepsOthers.alloc _ _, fun o e => (Below.heap_alloc W _ _ hC).trans e⟩, ⟨⟨v', hb.alloc _, ho.alloc _, trivial⟩, hB.alloc (by omega) _, by simp; omega⟩, W.heap.size, ?_, by omega, rfl⟩
    exact heap_alloc_new W _
  case body =>
    rintro l pre p a' W ⟨⟨v', hb, ho, -⟩, hB, hs⟩ ⟨Bx, hbx, hsx, rfl⟩ ⟨suf, hsuf⟩
    have hlen := pensL_len _ (x :: r) (Nat.le_refl _)
    rw [hsuf] at hlen
    simp only [List.length_append, List.length_cons] at hlen k1
    have hc0 := hb.cell
    have q0 : W.cell? ⟨Bx, 0, none⟩ = some (.int .i64 39) := (cell_of_row W Bx 0 _ 26 (0, 0) hbx).trans rfl
    have q1 : W.cell? ⟨Bx, 1, none⟩ = some (.int .i64 p.n) := (cell_of_row W Bx 1 _ 26 (0, 0) hbx).trans rfl
    have q2 : W.cell? ⟨Bx, 2, none⟩ = some (.int .i64 p.m) := (cell_of_row W Bx 2 _ 26 (0, 0) hbx).trans rfl
    have q3 : W.cell? ⟨Bx, 3, none⟩ = some (.int .i64 p.ck) := (cell_of_row W Bx 3 _ 26 (0, 0) hbx).trans rfl
    have q4 : W.cell? ⟨Bx, 4, none⟩ = some (.int .i64 p.cn) := (cell_of_row W Bx 4 _ 26 (0, 0) hbx).trans rfl
    have q5 : W.cell? ⟨Bx, 5, none⟩ = some (.string ⟨#[]⟩) := (cell_of_row W Bx 5 _ 26 (0, 0) hbx).trans rfl
    obtain ⟨m0, hm0⟩ : ∃ m0, (pre.map actP).length = m0 := ⟨_, rfl⟩
    rw [hm0] at ho
    have hm1 : m0 ≤ 16 := by rw [← hm0]; simp; omega
    gi_wp2_with (gi_at_builtin; refine wpListIn_append_own _ rfl _ _ 33 rfl W0.heap.size 26 i0 _ 6 56 Tryd.underlying33 hi hz0 hz1 hz2 rfl (by decide) _ _ _ rfl (ho.alloc _) ⟨W.heap.size, 0, none⟩ 1 1 [.int .i64 39, .int .i64 p.n, .int .i64 p.m, .int .i64 p.ck, .int .i64 p.cn, .string ⟨#[]⟩] rfl rfl ?cells (by simp [Value.oneCell']) (by unfold maxLen; omega) (by omega) (by simp; omega) ?_; rotate_left; intro v2 w1 hown' hgrow _; obtain ⟨g', cap', rfl⟩ := ownsRow_succ hown'; obtain ⟨hv1, hv2, hr2, hk2⟩ := appended_box (C := w.heap.size + 1 + h1.size) hb ho (by omega) (by omega) (by omega) hs hown' hgrow; have hc1 := hv1.cell; have hf1 := hv1.frozen)
    case cells =>
      intro j u hj
      rw [Addr.add_lit, Nat.zero_add]
      exact (cell_of_row _ _ j _ 26 (0, 0) (heap_alloc_new W _)).trans (by simpa using hj)
    refine ⟨hk2, ⟨_, hv2, ?_, trivial⟩, hB.trans hk2.below, Nat.le_trans hs hk2.others.size⟩
    rw [List.map_append, List.length_append, hm0, List.map_singleton, actsC_snoc]
    exact hr2
  case done =>
    rintro D W hD ⟨⟨v', hb, ho, -⟩, hB, hs⟩ hK
    have hc0 := hb.cell
    have hf0 := hb.frozen
    obtain ⟨a2, n2, cap2, rfl⟩ : ∃ a2 n2 cap2, v' = .slice a2 n2 cap2 := by
      rcases ho.2 with ⟨rfl, _⟩ | ⟨g, cap, _, rfl, _⟩
      · exact ⟨_, _, _, rfl⟩
      · exact ⟨_, _, _, rfl⟩
    gi_wp2
    have hK2 := (KeepsOthers.setCell W ⟨w.heap.size, 0, none⟩ (.slice a2 n2 cap2)).same D _ hK rfl
    refine ⟨by simp, .inl ⟨_, _, rfl, run_takeDeferred hK2, ?_⟩⟩
    have hD2 : D ≠ w.heap.size := by omega
    have hg1 := grownBy_setCell' W w.heap.size (.slice a2 n2 cap2)
    have hg2 := grownBy_putObj' (W.setCell ⟨w.heap.size, 0, none⟩ (.slice a2 n2 cap2)) D (.deferred none)
    have hb3 := (hb.set (.slice a2 n2 cap2)).kept hg2 (by intro e; injection e with e; omega)
    have ho3 := ownsRow_putObj (ho.kept hg1 (.inr fun e => by have := (ho.lt _ e).1; omega)) (.deferred none) hK2 rfl
    have hB3 := (hB.grown hg1 hB.size (fun k e => by cases e; exact Nat.le_refl _)).grown hg2 (by have := hB.size; have := hg1.size; omega) (fun k e => by cases e; omega)
    have hc3 := hb3.cell
    have hA3 : ActsAt ((W.setCell ⟨w.heap.size, 0, none⟩ (.slice a2 n2 cap2)).putObj D (.deferred none)) (.slice a2 n2 cap2) ((pensL (x :: r)).map actP) := OwnA.at_ (base := W0.heap.size) ho3
    refine ⟨_, (results_cell_tmp rfl _ _ _).trans ?res, .slice a2 n2 cap2, rfl, hA3, Grows.of_below hB3⟩
    case res => simp [go_sem, hc3]
end Go.Proofs.YtobbphkfdhjmdaaDoor

namespace Go.Proofs.YtobbphkfdhjmdaaDoor
open Go.RowKit

theorem own_new {w : World} {p : ActV} {g : Nat} (hg : g = w.heap.size) : OwnA (w.alloc (.cells #[.int .i64 p.kd, .int .i64 p.n, .int .i64 p.m, .int .i64 p.ck, .int .i64 p.cn, .string p.s] 26)) 0 (.slice (some ⟨g, 0, none⟩) 1 1) [p] := by
  subst hg
  exact OwnA.one (heap_alloc_new w _) (Nat.zero_le _)
theorem pens_bad (v : Value) (r : List (List Int)) (hl : r.length ≤ 100000) (hp : ∀ p ∈ r, p.length ≤ 100000) (w : World) (hok : okRow r = false) (h : RowAt w v r) : Calls Tryd.prog 14 #[v] w (Ret (.tuple #[.slice none 0 0, .int .i64 150]) w) := by
  have HC := Lib.hid fun W (hW : Grows w W) => check_row v r hl hp W (h.grows hW)
  have he : pensErr r = 150 := by simp [pensErr, hok]
  rw [he] at HC
  obtain ⟨a, cap, rfl, hcap, hin⟩ := h
  go_enter Tryd.func14, Tryd.ntmps14
  go_wp2_with (first | (go_at_call 27; (with_reducible refine (HC.out _ (by repeat' (first | (with_reducible exact Grows.refl _) | (with_reducible refine Grows.alloc ?_ _) | (with_reducible refine Grows.drew ?_) | (with_reducible refine Grows.ext ?_ _ _)))).mono ?_); rintro e w' ⟨rfl, h72, d72, rfl⟩))
  go_returns
  exact ⟨rfl, (by repeat' (first | (with_reducible exact Grows.refl _) | (with_reducible refine Grows.alloc ?_ _) | (with_reducible refine Grows.drew ?_) | (with_reducible refine Grows.ext ?_ _ _)))⟩
theorem pens_none (a : Option Addr) (cap : Nat) (w : World) : Calls Tryd.prog 14 #[.slice a 0 cap] w (fun e w' => ∃ x', e = .returned (.tuple #[x', .int .i64 0]) ∧ ActsAt w' x' [actP (pen 0 0)] ∧ Grows w w') := by
  have HC := Lib.hid fun W (_ : Grows w W) => check_row (.slice a 0 cap) [] (by simp) (by simp) W ⟨a, cap, rfl, by simp, fun h => absurd rfl h⟩
  have he : pensErr [] = 0 := by decide
  rw [he] at HC
  go_enter Tryd.func14, Tryd.ntmps14
  go_wp2_with (first | (go_at_call 27; (with_reducible refine (HC.out _ (by repeat' (first | (with_reducible exact Grows.refl _) | (with_reducible refine Grows.alloc ?_ _) | (with_reducible refine Grows.drew ?_) | (with_reducible refine Grows.ext ?_ _ _)))).mono ?_); rintro e w' ⟨rfl, h73, d73, rfl⟩) | (go_at_call 30; (with_reducible refine (pen30_any _ _ _).mono ?_); rintro e w' ⟨rfl, h74, d74, rfl⟩))
  go_returns
  exact ⟨_, rfl, (own_new (p := actP (pen 0 0)) (by simp)).at_, (by repeat' (first | (with_reducible exact Grows.refl _) | (with_reducible refine Grows.alloc ?_ _) | (with_reducible refine Grows.drew ?_) | (with_reducible refine Grows.ext ?_ _ _)))⟩
theorem sgrPens_any (v : Value) (r : List (List Int)) (hl : r.length ≤ 100000) (hp : ∀ p ∈ r, p.length ≤ 100000) (w : World) (h : RowAt w v r) (hg : GL w) : Calls Tryd.prog 14 #[v] w (fun e w' => ∃ x', e = .returned (.tuple #[x', .int .i64 (pensErr r)]) ∧ ActsAt w' x' ((pensOf r).map actP) ∧ Grows w w') := by
  by_cases hok : okRow r = true
  · have he : pensErr r = 0 := by simp [pensErr, hok]
    rw [he]
    cases r with
    | nil =>
      obtain ⟨a, cap, rfl, hcap, hin⟩ := h
      have e : pensOf [] = [pen 0 0] := by decide
      rw [e]
      exact pens_none a cap w
    | cons x r =>
      have e : pensOf (x :: r) = pensL (x :: r) := by simp [pensOf, hok]
      rw [e]
      exact pens_run v x r w hok h hg
  · have hok' : okRow r = false := by simpa using hok
    have he : pensErr r = 150 := by simp [pensErr, hok']
    have e : pensOf r = [] := by simp [pensOf, hok']
    rw [he, e]
    exact (pens_bad v r hl hp w hok' h).mono fun e w' hh => ⟨_, hh.1, ActsAt.nil w', hh.2⟩
end Go.Proofs.YtobbphkfdhjmdaaDoor

