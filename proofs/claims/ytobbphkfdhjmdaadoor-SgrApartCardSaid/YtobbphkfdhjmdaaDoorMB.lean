/-
  What the seat's rows share: the tables that they list, and the world of the witness.
-/
import Derived.Test.YtobbphkfdhjmdaaDoorCards
import Derived.Test.YtobbphkfdhjmdaaDoorTie
import Derived.Test.YtobbphkfdhjmdaaDoorM1
import Derived.Test.YtobbphkfdhjmdaaDoorM15
import Derived.Test.YtobbphkfdhjmdaaDoorM10
import Derived.Lib.LaidTab
import Derived.Stop.LaidErr
import Derived.Deep.Strs
namespace Go.Proofs.YtobbphkfdhjmdaaDoor
open Go.ChangeShapes Go.WideShapes Go.ChangeAt Go.RowKit
theorem cell_string {P : Program} {w : World} {r : Reach} {b : Nat} {u : TypeId} {v : Value} (hu : P.underlying u = some .string) (h : Cell.okWide P w r b u v) : ∃ x, v = .string x := by
  simp only [Cell.okWide, hu] at h
  cases v <;> simp_all [Cell.ok]
theorem arr5 {cs : Array Value} (h : cs.size = 5) : ∃ c0 c1 c2 c3 c4 : Value, cs = #[c0, c1, c2, c3, c4] := by
  obtain ⟨l⟩ := cs
  match l, h with
  | [c0, c1, c2, c3, c4], _ => exact ⟨_, _, _, _, _, rfl⟩
theorem arr6 {cs : Array Value} (h : cs.size = 6) : ∃ c0 c1 c2 c3 c4 c5 : Value, cs = #[c0, c1, c2, c3, c4, c5] := by
  obtain ⟨l⟩ := cs
  match l, h with
  | [c0, c1, c2, c3, c4, c5], _ => exact ⟨_, _, _, _, _, _, rfl⟩
theorem arr8 {cs : Array Value} (h : cs.size = 8) : ∃ c0 c1 c2 c3 c4 c5 c6 c7 : Value, cs = #[c0, c1, c2, c3, c4, c5, c6, c7] := by
  obtain ⟨l⟩ := cs
  match l, h with
  | [c0, c1, c2, c3, c4, c5, c6, c7], _ => exact ⟨_, _, _, _, _, _, _, _, rfl⟩
theorem own : ownKnob Tryd.prog.godebug = none := by kernel_rfl
theorem laidOut : laidOutB Tryd.prog = true := by kernel_rfl
theorem gAttrs : Tryd.prog.globalNamed "fenestra/sgr.attrs" = some 0 := by kernel_rfl
theorem gAttrsType : (Tryd.prog.globals[0]?).map (·.type) = some 113 := by kernel_rfl
theorem gPow : Tryd.prog.globalNamed "internal/strconv.uint64pow10" = some 1 := by kernel_rfl
theorem gPowType : (Tryd.prog.globals[1]?).map (·.type) = some 159 := by kernel_rfl
theorem cells159 : Tryd.prog.cellsOf 159 = 20 := by kernel_rfl
theorem cells152 : Tryd.prog.cellsOf 152 = 1 := by kernel_rfl
theorem cells3 : Tryd.prog.cellsOf 3 = 1 := by kernel_rfl
theorem cells112 : Tryd.prog.cellsOf 112 = 3 := by kernel_rfl
theorem cells113 : Tryd.prog.cellsOf 113 = 24 := by kernel_rfl
theorem attr3 {W : World} {m : Nat} {c0 c1 c2 : Value} {a b c : Int} {p : List MemPlace} (h : DataW.trod (fun _ => ()) Tryd.prog W 0 (fun _ => true) false m 112 [c0, c1, c2] = some ((.agg [.lit (.int .i64 a), .lit (.int .i64 b), .lit (.int .i64 c)] : DataW Unit), p)) : c0 = .int .i64 a ∧ c1 = .int .i64 b ∧ c2 = .int .i64 c := by
  obtain ⟨y0, y1, y2, n, hx, -, h0, h1, h2⟩ := Deep.trod_struct3 Tryd.underlying112 h
  rw [cells3] at h0 h1 h2
  obtain ⟨n0, e0, f0, -⟩ := DataW.trod_int Tryd.underlying3 h0
  obtain ⟨n1, e1, f1, -⟩ := DataW.trod_int Tryd.underlying3 h1
  obtain ⟨n2, e2, f2, -⟩ := DataW.trod_int Tryd.underlying3 h2
  subst f0 f1 f2
  simp at e0 e1 e2 hx
  obtain ⟨⟨q0, q1, q2⟩, -⟩ := hx
  subst e0 e1 e2 q0 q1 q2
  exact ⟨rfl, rfl, rfl⟩
theorem attrs_cells {W : World} {fuel : Nat} {cs : List Value} {p : List MemPlace} (h : DataW.trod (fun _ => ()) Tryd.prog W 0 (fun _ => true) false fuel 113 cs = some (Rows.laid_fenestra_sgr_attrs, p)) : cs = attrsA.toList := by
  obtain ⟨xs, m, -, hx, hl, hlen, hi⟩ := DataW.trod_array Tryd.underlying113 h
  rw [cells113] at hl
  rw [cells112] at hi
  obtain ⟨c0, c1, c2, c3, c4, c5, c6, c7, c8, c9, c10, c11, c12, c13, c14, c15, c16, c17, c18, c19, c20, c21, c22, c23, rfl⟩ : ∃ c0 c1 c2 c3 c4 c5 c6 c7 c8 c9 c10 c11 c12 c13 c14 c15 c16 c17 c18 c19 c20 c21 c22 c23 : Value, cs = [c0, c1, c2, c3, c4, c5, c6, c7, c8, c9, c10, c11, c12, c13, c14, c15, c16, c17, c18, c19, c20, c21, c22, c23] := by
    match cs, hl with
    | [c0, c1, c2, c3, c4, c5, c6, c7, c8, c9, c10, c11, c12, c13, c14, c15, c16, c17, c18, c19, c20, c21, c22, c23], _ => exact ⟨_, _, _, _, _, _, _, _, _, _, _, _, _, _, _, _, _, _, _, _, _, _, _, _, rfl⟩
  obtain ⟨y0, y1, y2, y3, y4, y5, y6, y7, rfl⟩ : ∃ y0 y1 y2 y3 y4 y5 y6 y7, xs = [y0, y1, y2, y3, y4, y5, y6, y7] := by
    match xs, hlen with
    | [y0, y1, y2, y3, y4, y5, y6, y7], _ => exact ⟨_, _, _, _, _, _, _, _, rfl⟩
  unfold Rows.laid_fenestra_sgr_attrs at hx
  injection hx with hx _
  injection hx with hx
  simp only [List.map_cons, List.map_nil, List.cons.injEq, and_true] at hx
  obtain ⟨g0, g1, g2, g3, g4, g5, g6, g7⟩ := hx
  obtain ⟨r0, r1, r2⟩ := attr3 ((hi 0 (by omega)).trans (congrArg some (Prod.ext g0.symm rfl)))
  obtain ⟨r3, r4, r5⟩ := attr3 ((hi 1 (by omega)).trans (congrArg some (Prod.ext g1.symm rfl)))
  obtain ⟨r6, r7, r8⟩ := attr3 ((hi 2 (by omega)).trans (congrArg some (Prod.ext g2.symm rfl)))
  obtain ⟨r9, r10, r11⟩ := attr3 ((hi 3 (by omega)).trans (congrArg some (Prod.ext g3.symm rfl)))
  obtain ⟨r12, r13, r14⟩ := attr3 ((hi 4 (by omega)).trans (congrArg some (Prod.ext g4.symm rfl)))
  obtain ⟨r15, r16, r17⟩ := attr3 ((hi 5 (by omega)).trans (congrArg some (Prod.ext g5.symm rfl)))
  obtain ⟨r18, r19, r20⟩ := attr3 ((hi 6 (by omega)).trans (congrArg some (Prod.ext g6.symm rfl)))
  obtain ⟨r21, r22, r23⟩ := attr3 ((hi 7 (by omega)).trans (congrArg some (Prod.ext g7.symm rfl)))
  subst r0 r1 r2 r3 r4 r5 r6 r7 r8 r9 r10 r11 r12 r13 r14 r15 r16 r17 r18 r19 r20 r21 r22 r23
  rfl
theorem gl_of_laid {W : World} (h : laidMet Tryd.prog [("fenestra/sgr.attrs", Rows.laid_fenestra_sgr_attrs)] W) : GL W := by
  obtain ⟨ps, ⟨g', t', cs, fuel, p, q, hg', ht', hvar, hd, -, -⟩, -⟩ := h
  obtain rfl := Option.some.inj (gAttrs.symm.trans hg')
  obtain rfl := Option.some.inj (gAttrsType.symm.trans ht')
  have h2 : W.var? Tryd.prog "fenestra/sgr.attrs" = some attrsA := by
    rw [hvar]
    congr 1
    exact Array.toList_inj.1 (attrs_cells hd)
  simp only [World.var?, gAttrs, Option.bind_some] at h2
  split at h2
  · rename_i cs t fr hh
    cases h2
    exact ⟨t, fr, hh⟩
  · cases h2
theorem gt_of_laid {W : World} {rest : List (String × DataW Unit)} (h : laidMet Tryd.prog (("internal/strconv.uint64pow10", Rows.laid_internal_strconv_uint64pow10) :: rest) W) : GT W := by
  have e : (Rows.laid_internal_strconv_uint64pow10 : DataW Unit) = Lib.tabData .u64 Lib.pow10Tab := by kernel_rfl
  rw [e] at h
  have h1 : Lib.TabIs Tryd.prog W "internal/strconv.uint64pow10" .u64 Lib.pow10Tab := Lib.tabIs_of_head (rest := rest) gPow gPowType Tryd.underlying159 Tryd.underlying152 cells152 cells159 h
  have h2 : W.var? Tryd.prog "internal/strconv.uint64pow10" = some (Lib.pow10Tab.map (Value.int .u64 ·)).toArray := h1
  simp only [World.var?, gPow, Option.bind_some] at h2
  split at h2
  · rename_i cs t fr hh
    cases h2
    exact ⟨t, fr, hh⟩
  · cases h2
def put (a : Array Value) : Obj → Obj
  | .cells _ t frozen => .cells a t frozen
  | o => o
def bruijn32 : Array Value := #[.int .u8 0, .int .u8 1, .int .u8 28, .int .u8 2, .int .u8 29, .int .u8 14, .int .u8 24, .int .u8 3, .int .u8 30, .int .u8 22, .int .u8 20, .int .u8 15, .int .u8 25, .int .u8 17, .int .u8 4, .int .u8 8, .int .u8 31, .int .u8 27, .int .u8 13, .int .u8 23, .int .u8 21, .int .u8 19, .int .u8 16, .int .u8 7, .int .u8 26, .int .u8 12, .int .u8 18, .int .u8 6, .int .u8 11, .int .u8 5, .int .u8 10, .int .u8 9]
def bruijn64 : Array Value := #[.int .u8 0, .int .u8 1, .int .u8 56, .int .u8 2, .int .u8 57, .int .u8 49, .int .u8 28, .int .u8 3, .int .u8 61, .int .u8 58, .int .u8 42, .int .u8 50, .int .u8 38, .int .u8 29, .int .u8 17, .int .u8 4, .int .u8 62, .int .u8 47, .int .u8 59, .int .u8 36, .int .u8 45, .int .u8 43, .int .u8 51, .int .u8 22, .int .u8 53, .int .u8 39, .int .u8 33, .int .u8 30, .int .u8 24, .int .u8 18, .int .u8 12, .int .u8 5, .int .u8 63, .int .u8 55, .int .u8 48, .int .u8 27, .int .u8 60, .int .u8 41, .int .u8 37, .int .u8 16, .int .u8 46, .int .u8 35, .int .u8 44, .int .u8 21, .int .u8 52, .int .u8 32, .int .u8 23, .int .u8 11, .int .u8 54, .int .u8 26, .int .u8 40, .int .u8 15, .int .u8 34, .int .u8 20, .int .u8 31, .int .u8 10, .int .u8 25, .int .u8 14, .int .u8 19, .int .u8 9, .int .u8 13, .int .u8 8, .int .u8 7, .int .u8 6]
noncomputable def laidWorld (os : Os) : World :=
  { World.holding Tryd.prog os ⟨#[], #[], []⟩ with heap := ((((World.holding Tryd.prog os ⟨#[], #[], []⟩).heap.modify 0 (put attrsA)).modify 1 (put (Lib.pow10Tab.map (Value.int .u64 ·)).toArray)).modify 2 (put bruijn32)).modify 3 (put bruijn64) }
set_option maxRecDepth 100000 in
theorem tables {W : World} (h : laidMetH Tryd.prog Rows.sgrKnownRow.laid W) : GL W ∧ GT W := by
  have h0 : laidMet Tryd.prog [("math/bits.deBruijn32tab", Rows.laid_math_bits_deBruijn32tab), ("math/bits.deBruijn64tab", Rows.laid_math_bits_deBruijn64tab), ("internal/strconv.uint64pow10", Rows.laid_internal_strconv_uint64pow10), ("fenestra/sgr.attrs", Rows.laid_fenestra_sgr_attrs)] W := h
  exact ⟨gl_of_laid h0.tail.tail.tail, gt_of_laid h0.tail.tail⟩
end Go.Proofs.YtobbphkfdhjmdaaDoor

