/-
  Walk: the law StyleStays.
-/
import Derived.Test.YtafokiobbceibaaRows
import Derived.Test.YtafokiobbceibaaLt
import Derived.Test.YtafokiobbceibaaDefs
import Derived.Test.YtafokiobbceibaaBits
import Derived.Test.YtafokiobbceibaaMaps
import Derived.Test.YtafokiobbceibaaW1
import Derived.Test.YtafokiobbceibaaW2
import Derived.Test.YtafokiobbceibaaW4
import Derived.Test.YtafokiobbceibaaW5
import Derived.Test.YtafokiobbceibaaW6
import Derived.Test.YtafokiobbceibaaW7
import Derived.Test.YtafokiobbceibaaRun
import Derived.Test.YtafokiobbceibaaW8
import Derived.Test.YtafokiobbceibaaW9
import Derived.Test.YtafokiobbceibaaW10
import Derived.Test.YtafokiobbceibaaW11
import Derived.Test.YtafokiobbceibaaW12
import Derived.Test.YtafokiobbceibaaW13
import Derived.Test.YtafokiobbceibaaW14
import Derived.Test.YtafokiobbceibaaW17
import Derived.Test.YtafokiobbceibaaW19
import Derived.Test.YtafokiobbceibaaSty
import Derived.WalkKit
import Derived.WalkSpells
import Derived.WalkLawsBesides
import Derived.Handy
import Derived.Laws.EntriesVeiled
import Derived.Lib.Hide
import Derived.Deep.Light
import Derived.Deep.LoopGhost
import Derived.BigGuardPart
import Derived.BigQuiet
import Derived.Deep.QuietTactic
import Derived.Deep.RegionHeld3
import Derived.Deep.DeepCutAuto
import Derived.Test.YtafokiobbceibaaReg
import Derived.Test.YtafokiobbceibaaReg3
import Derived.Test.YtafokiobbceibaaReg4
namespace Go.Proofs.Ytafokiobbceibaa
open Go.RowKit


theorem wp_region_makes3 {P : Program} {id : Nat} {Q : Exit → Act → World → Prop} {a : Act} {w : World} {l : List Oper} (j1 d1 s1 j2 d2 s2 j3 d3 s3 : Nat) (o1 o1' o2 o2' o3 o3' : Obj) (hm : P.follows .mixedOrders = true) (hB : makesB .any l.toArray [mk j1 d1 s1 o1 o1', mk j2 d2 s2 o2 o2', mk j3 d3 s3 o3 o3'] = true) {m1 m2 m3 : Oper} (h1 : l[j1]? = some m1) (h2 : l[j2]? = some m2) (h3 : l[j3]? = some m3)
    (hal1 : ∀ (a : Act) (w : World), (execOp a.eval m1).run P w = .ok (.value (.pointer (some ⟨w.heap.size, 0, none⟩))) (w.alloc o1)) (hal2 : ∀ (a : Act) (w : World), (execOp a.eval m2).run P w = .ok (.value (.pointer (some ⟨w.heap.size, 0, none⟩))) (w.alloc o2)) (hal3 : ∀ (a : Act) (w : World), (execOp a.eval m3).run P w = .ok (.value (.pointer (some ⟨w.heap.size, 0, none⟩))) (w.alloc o3))
    (h : spWalk P l.toArray w (isSp [mk j1 d1 s1 o1 o1', mk j2 d2 s2 o2 o2', mk j3 d3 s3 o3 o3']) (asks P l.toArray [mk j1 d1 s1 o1 o1', mk j2 d2 s2 o2 o2', mk j3 d3 s3 o3 o3']) (fun a' => ∀ n1 n2 n3 W, Grows w W → w.heap.size ≤ n1 → w.heap.size ≤ n2 → w.heap.size ≤ n3 → W.heap[n1]? = some o1' → W.heap[n2]? = some o2' → W.heap[n3]? = some o3' → Q .normal (((a'.put (some d1) (.pointer (some ⟨n1, 0, none⟩))).put (some d2) (.pointer (some ⟨n2, 0, none⟩))).put (some d3) (.pointer (some ⟨n3, 0, none⟩))) W) 0 l a) : (Code.region id l.toArray true).wp P Q a w := by
  refine wp_region_makes [mk j1 d1 s1 o1 o1', mk j2 d2 s2 o2 o2', mk j3 d3 s3 o3 o3'] hm hB ?_ (spWalk_mono ?_ l 0 a h)
  · intro m hm oj hoj
    simp only [List.mem_cons, List.not_mem_nil, or_false] at hm
    rcases hm with rfl | rfl | rfl
    · obtain rfl : m1 = oj := Option.some.inj (h1.symm.trans (by simpa [mk, Mk.j] using hoj))
      exact hal1
    · obtain rfl : m2 = oj := Option.some.inj (h2.symm.trans (by simpa [mk, Mk.j] using hoj))
      exact hal2
    · obtain rfl : m3 = oj := Option.some.inj (h3.symm.trans (by simpa [mk, Mk.j] using hoj))
      exact hal3
  · intro a' ha f W hg hall hinj hdom
    obtain ⟨n1, f1, g1, w1⟩ := hall _ (List.mem_cons_self ..)
    obtain ⟨n2, f2, g2, w2⟩ := hall _ (List.mem_cons_of_mem _ (List.mem_cons_self ..))
    obtain ⟨n3, f3, g3, w3⟩ := hall _ (List.mem_cons_of_mem _ (List.mem_cons_of_mem _ (List.mem_cons_self ..)))
    have e := overlay_three (a := a') (f := f) (d1 := d1) (d2 := d2) (d3 := d3) f1 f2 f3 (fun t v ht => by
      obtain ⟨m, hm, hd⟩ := hdom t v ht
      simp only [List.mem_cons, List.not_mem_nil, or_false] at hm
      rcases hm with rfl | rfl | rfl
      · exact .inl hd.symm
      · exact .inr (.inl hd.symm)
      · exact .inr (.inr hd.symm))
    rw [e]
    exact ha n1 n2 n3 W hg g1 g2 g3 w1 w2 w3
theorem asks3 {P : Program} {ops : Array Oper} {m1 m2 m3 : Mk} {k : Nat} {a : Act} (h1 : m1.s = k → fillsM P ops m1 a) (h2 : m2.s = k → fillsM P ops m2 a) (h3 : m3.s = k → fillsM P ops m3 a) : asks P ops [m1, m2, m3] k a := by
  intro m hm hs
  simp only [List.mem_cons, List.not_mem_nil, or_false] at hm
  rcases hm with rfl | rfl | rfl
  · exact h1 hs
  · exact h2 hs
  · exact h3 hs
theorem sty_row {w : World} {n : Nat} {a u fk fn bk bn lk ln : Int} (h : w.heap[n]? = some (.cells #[.int .i64 a, .int .i64 u, .int .i64 fk, .int .i64 fn, .int .i64 bk, .int .i64 bn, .int .i64 lk, .int .i64 ln] 25 (0, 0))) : StyAt w n a u fk fn bk bn lk ln := by
  refine ⟨(Array.getElem?_eq_some_iff.1 h).1, ?_, ?_, ?_, ?_, ?_, ?_, ?_, ?_, ?_, ?_, ?_, ?_, ?_, ?_, ?_, ?_⟩ <;> simp [World.cell?, World.frozen?, h]
theorem act_row {w : World} {n : Nat} {kd m1 m2 ck cn : Int} {s : ByteArray} (h : w.heap[n]? = some (.cells #[.int .i64 kd, .int .i64 m1, .int .i64 m2, .int .i64 ck, .int .i64 cn, .string s] 27 (0, 0))) : ActAt w n kd m1 m2 ck cn s := by
  refine ⟨(Array.getElem?_eq_some_iff.1 h).1, ?_, ?_, ?_, ?_, ?_, ?_⟩ <;> simp [World.cell?, h]
theorem dpen_ok (dA dU dW dM d0 d1 d2 d3 : Int) (hdA : 0 ≤ dA ∧ dA < 256) (hdU : 0 ≤ dU ∧ dU < 256) (hdW : 0 ≤ dW ∧ dW < 256) (hdM : 0 ≤ dM ∧ dM < 256) (hd0 : 0 ≤ d0 ∧ d0 < 4294967296) (hd1 : 0 ≤ d1 ∧ d1 < 4294967296) (hd2 : 0 ≤ d2 ∧ d2 < 4294967296) (hd3 : 0 ≤ d3 ∧ d3 < 4294967296) : ∃ n m ck cn : Int, In64 m ∧ okP ⟨39, n, m, ck, cn, ⟨#[]⟩⟩ = true ∧ ∀ W, Calls Try.prog 11 #[.agg #[.int .u8 dA, .int .u8 dU, .int .u8 dW, .int .u8 dM, .int .u32 d0, .int .u32 d1, .int .u32 d2, .int .u32 d3]] W (Ret (.agg #[.int .i64 39, .int .i64 n, .int .i64 m, .int .i64 ck, .int .i64 cn, .string ⟨#[]⟩]) W) := by
  have hq : dW % 7 = 0 ∨ dW % 7 = 1 ∨ dW % 7 = 2 ∨ dW % 7 = 3 ∨ dW % 7 = 4 ∨ dW % 7 = 5 ∨ dW % 7 = 6 := by omega
  have hm : dM % 8 = 0 ∨ dM % 8 = 1 ∨ dM % 8 = 2 ∨ dM % 8 = 3 ∨ dM % 8 = 4 ∨ dM % 8 = 5 ∨ dM % 8 = 6 ∨ dM % 8 = 7 := by omega
  have hc := col_ok hd3.1
  have kl : okP ⟨39, 4, 0, colK d3, colN d3, ⟨#[]⟩⟩ = clOk (colK d3) (colN d3) := by simp [okP, pnB, mayB, colB]
  have kl5 : okP ⟨39, 5, 0, colK d3, colN d3, ⟨#[]⟩⟩ = clOk (colK d3) (colN d3) := by simp [okP, pnB, mayB, colB]
  have kl6 : okP ⟨39, 6, 0, colK d3, colN d3, ⟨#[]⟩⟩ = clOk (colK d3) (colN d3) := by simp [okP, pnB, mayB, colB]
  have k3 : okP ⟨39, 3, dM % 6, 0, 0, ⟨#[]⟩⟩ = undB (dM % 6) := by simp [okP, pnB, mayB, colB]
  have k3' : undB (dM % 6) = true := by simp [undB]; omega
  rcases hq with hq | hq | hq | hq | hq | hq | hq
  · exact ⟨0, 0, 0, 0, by unfold In64; omega, by decide +kernel, fun W => dpen_0 dA dU dW dM d0 d1 d2 d3 hdA hdU hdW hdM hd0 hd1 hd2 hd3 hq W⟩
  · rcases hm with hm | hm | hm | hm | hm | hm | hm | hm
    · exact ⟨1, 1, 0, 0, by unfold In64; omega, by decide +kernel, fun W => dpen_1_0 dA dU dW dM d0 d1 d2 d3 hdA hdU hdW hdM hd0 hd1 hd2 hd3 hq hm W⟩
    · exact ⟨1, 2, 0, 0, by unfold In64; omega, by decide +kernel, fun W => dpen_1_1 dA dU dW dM d0 d1 d2 d3 hdA hdU hdW hdM hd0 hd1 hd2 hd3 hq hm W⟩
    · exact ⟨1, 4, 0, 0, by unfold In64; omega, by decide +kernel, fun W => dpen_1_2 dA dU dW dM d0 d1 d2 d3 hdA hdU hdW hdM hd0 hd1 hd2 hd3 hq hm W⟩
    · exact ⟨1, 8, 0, 0, by unfold In64; omega, by decide +kernel, fun W => dpen_1_3 dA dU dW dM d0 d1 d2 d3 hdA hdU hdW hdM hd0 hd1 hd2 hd3 hq hm W⟩
    · exact ⟨1, 16, 0, 0, by unfold In64; omega, by decide +kernel, fun W => dpen_1_4 dA dU dW dM d0 d1 d2 d3 hdA hdU hdW hdM hd0 hd1 hd2 hd3 hq hm W⟩
    · exact ⟨1, 32, 0, 0, by unfold In64; omega, by decide +kernel, fun W => dpen_1_5 dA dU dW dM d0 d1 d2 d3 hdA hdU hdW hdM hd0 hd1 hd2 hd3 hq hm W⟩
    · exact ⟨1, 64, 0, 0, by unfold In64; omega, by decide +kernel, fun W => dpen_1_6 dA dU dW dM d0 d1 d2 d3 hdA hdU hdW hdM hd0 hd1 hd2 hd3 hq hm W⟩
    · exact ⟨1, 128, 0, 0, by unfold In64; omega, by decide +kernel, fun W => dpen_1_7 dA dU dW dM d0 d1 d2 d3 hdA hdU hdW hdM hd0 hd1 hd2 hd3 hq hm W⟩
  · rcases hm with hm | hm | hm | hm | hm | hm | hm | hm
    · exact ⟨2, 3, 0, 0, by unfold In64; omega, by decide +kernel, fun W => dpen_2_0 dA dU dW dM d0 d1 d2 d3 hdA hdU hdW hdM hd0 hd1 hd2 hd3 hq hm W⟩
    · exact ⟨2, 3, 0, 0, by unfold In64; omega, by decide +kernel, fun W => dpen_2_1 dA dU dW dM d0 d1 d2 d3 hdA hdU hdW hdM hd0 hd1 hd2 hd3 hq hm W⟩
    · exact ⟨2, 4, 0, 0, by unfold In64; omega, by decide +kernel, fun W => dpen_2_2 dA dU dW dM d0 d1 d2 d3 hdA hdU hdW hdM hd0 hd1 hd2 hd3 hq hm W⟩
    · exact ⟨2, 8, 0, 0, by unfold In64; omega, by decide +kernel, fun W => dpen_2_3 dA dU dW dM d0 d1 d2 d3 hdA hdU hdW hdM hd0 hd1 hd2 hd3 hq hm W⟩
    · exact ⟨2, 16, 0, 0, by unfold In64; omega, by decide +kernel, fun W => dpen_2_4 dA dU dW dM d0 d1 d2 d3 hdA hdU hdW hdM hd0 hd1 hd2 hd3 hq hm W⟩
    · exact ⟨2, 32, 0, 0, by unfold In64; omega, by decide +kernel, fun W => dpen_2_5 dA dU dW dM d0 d1 d2 d3 hdA hdU hdW hdM hd0 hd1 hd2 hd3 hq hm W⟩
    · exact ⟨2, 64, 0, 0, by unfold In64; omega, by decide +kernel, fun W => dpen_2_6 dA dU dW dM d0 d1 d2 d3 hdA hdU hdW hdM hd0 hd1 hd2 hd3 hq hm W⟩
    · exact ⟨2, 128, 0, 0, by unfold In64; omega, by decide +kernel, fun W => dpen_2_7 dA dU dW dM d0 d1 d2 d3 hdA hdU hdW hdM hd0 hd1 hd2 hd3 hq hm W⟩
  · exact ⟨3, dM % 6, 0, 0, by unfold In64; omega, k3.trans k3', fun W => dpen_3 dA dU dW dM d0 d1 d2 d3 hdA hdU hdW hdM hd0 hd1 hd2 hd3 hq W⟩
  · exact ⟨4, 0, colK d3, colN d3, by unfold In64; omega, kl.trans hc, fun W => dpen_4 dA dU dW dM d0 d1 d2 d3 hdA hdU hdW hdM hd0 hd1 hd2 hd3 hq W⟩
  · exact ⟨5, 0, colK d3, colN d3, by unfold In64; omega, kl5.trans hc, fun W => dpen_5 dA dU dW dM d0 d1 d2 d3 hdA hdU hdW hdM hd0 hd1 hd2 hd3 hq W⟩
  · exact ⟨6, 0, colK d3, colN d3, by unfold In64; omega, kl6.trans hc, fun W => dpen_6 dA dU dW dM d0 d1 d2 d3 hdA hdU hdW hdM hd0 hd1 hd2 hd3 hq W⟩
theorem dstyle_ok (dA dU dW dM d0 d1 d2 d3 : Int) (hdA : 0 ≤ dA ∧ dA < 256) (hdU : 0 ≤ dU ∧ dU < 256) (hdW : 0 ≤ dW ∧ dW < 256) (hdM : 0 ≤ dM ∧ dM < 256) (hd0 : 0 ≤ d0 ∧ d0 < 4294967296) (hd1 : 0 ≤ d1 ∧ d1 < 4294967296) (hd2 : 0 ≤ d2 ∧ d2 < 4294967296) (hd3 : 0 ≤ d3 ∧ d3 < 4294967296) : ∃ a u fk fn bk bn lk ln : Int, okS ⟨a, u, fk, fn, bk, bn, lk, ln⟩ ∧ ∀ W, Calls Try.prog 10 #[.agg #[.int .u8 dA, .int .u8 dU, .int .u8 dW, .int .u8 dM, .int .u32 d0, .int .u32 d1, .int .u32 d2, .int .u32 d3]] W (Ret (.agg #[.int .i64 a, .int .i64 u, .int .i64 fk, .int .i64 fn, .int .i64 bk, .int .i64 bn, .int .i64 lk, .int .i64 ln]) W) :=
  ⟨_, _, _, _, _, _, _, _, draft_ok hdA hdU hd0.1 hd1.1 hd2.1, fun W => dstyle_any dA dU dW dM d0 d1 d2 d3 hdA hdU hdW hdM hd0 hd1 hd2 hd3 W⟩
theorem run_two (a u fk fn bk bn lk ln n m ck cn n2 m2 ck2 cn2 a' u' fk' fn' bk' bn' lk' ln' : Int) (hi : In64 a) (hm : In64 m) (hm2 : In64 m2) (hv : runV ⟨a, u, fk, fn, bk, bn, lk, ln⟩ [⟨39, n, m, ck, cn, ⟨#[]⟩⟩, ⟨39, n2, m2, ck2, cn2, ⟨#[]⟩⟩] = .tuple #[.agg #[.int .i64 a', .int .i64 u', .int .i64 fk', .int .i64 fn', .int .i64 bk', .int .i64 bn', .int .i64 lk', .int .i64 ln'], .int .i64 0]) (B : Nat) (w : World) (hb : B < w.heap.size) (c0 : w.cell? ⟨B, 0, none⟩ = some (.int .i64 39)) (c1 : w.cell? ⟨B, 1, none⟩ = some (.int .i64 n)) (c2 : w.cell? ⟨B, 2, none⟩ = some (.int .i64 m)) (c3 : w.cell? ⟨B, 3, none⟩ = some (.int .i64 ck)) (c4 : w.cell? ⟨B, 4, none⟩ = some (.int .i64 cn)) (c5 : w.cell? ⟨B, 5, none⟩ = some (.string ⟨#[]⟩)) (c6 : w.cell? ⟨B, 6, none⟩ = some (.int .i64 39)) (c7 : w.cell? ⟨B, 7, none⟩ = some (.int .i64 n2)) (c8 : w.cell? ⟨B, 8, none⟩ = some (.int .i64 m2)) (c9 : w.cell? ⟨B, 9, none⟩ = some (.int .i64 ck2)) (c10 : w.cell? ⟨B, 10, none⟩ = some (.int .i64 cn2)) (c11 : w.cell? ⟨B, 11, none⟩ = some (.string ⟨#[]⟩)) : Calls Try.prog 17 #[.agg #[.int .i64 a, .int .i64 u, .int .i64 fk, .int .i64 fn, .int .i64 bk, .int .i64 bn, .int .i64 lk, .int .i64 ln], .slice (some ⟨B, 0, none⟩) 2 2] w (Ret (.tuple #[.agg #[.int .i64 a', .int .i64 u', .int .i64 fk', .int .i64 fn', .int .i64 bk', .int .i64 bn', .int .i64 lk', .int .i64 ln'], .int .i64 0]) w) := by
  have hp : PensIn w B 0 [⟨39, n, m, ck, cn, ⟨#[]⟩⟩, ⟨39, n2, m2, ck2, cn2, ⟨#[]⟩⟩] := by
    intro i q h
    match i, h with
    | 0, h => cases h; exact ⟨hm, c0, c1, c2, c3, c4, c5⟩
    | 1, h => cases h; exact ⟨hm2, c6, c7, c8, c9, c10, c11⟩
    | i + 2, h => cases h
  have h := run_any a u fk fn bk bn lk ln hi [⟨39, n, m, ck, cn, ⟨#[]⟩⟩, ⟨39, n2, m2, ck2, cn2, ⟨#[]⟩⟩] B 0 2 w (by simp) hb hp
  rw [hv] at h
  exact h
set_option maxRecDepth 100000 in
set_option maxHeartbeats 40000000 in
theorem lawStays_true (dA dU dW dM d0 d1 d2 d3 eA eU eW eM e0 e1 e2 e3 : Int) (hdA : 0 ≤ dA ∧ dA < 256) (hdU : 0 ≤ dU ∧ dU < 256) (hdW : 0 ≤ dW ∧ dW < 256) (hdM : 0 ≤ dM ∧ dM < 256) (hd0 : 0 ≤ d0 ∧ d0 < 4294967296) (hd1 : 0 ≤ d1 ∧ d1 < 4294967296) (hd2 : 0 ≤ d2 ∧ d2 < 4294967296) (hd3 : 0 ≤ d3 ∧ d3 < 4294967296) (heA : 0 ≤ eA ∧ eA < 256) (heU : 0 ≤ eU ∧ eU < 256) (heW : 0 ≤ eW ∧ eW < 256) (heM : 0 ≤ eM ∧ eM < 256) (he0 : 0 ≤ e0 ∧ e0 < 4294967296) (he1 : 0 ≤ e1 ∧ e1 < 4294967296) (he2 : 0 ≤ e2 ∧ e2 < 4294967296) (he3 : 0 ≤ e3 ∧ e3 < 4294967296) (w : World) : Calls Try.prog 5 #[.agg #[.int .u8 dA, .int .u8 dU, .int .u8 dW, .int .u8 dM, .int .u32 d0, .int .u32 d1, .int .u32 d2, .int .u32 d3], .agg #[.int .u8 eA, .int .u8 eU, .int .u8 eW, .int .u8 eM, .int .u32 e0, .int .u32 e1, .int .u32 e2, .int .u32 e3]] w (Ret (.bool true) w) := by
  obtain ⟨a, u, fk, fn, bk, bn, lk, ln, hx, hd⟩ := dstyle_ok dA dU dW dM d0 d1 d2 d3 hdA hdU hdW hdM hd0 hd1 hd2 hd3
  obtain ⟨n, m, ck, cn, hm, hp, hP⟩ := dpen_ok dA dU dW dM d0 d1 d2 d3 hdA hdU hdW hdM hd0 hd1 hd2 hd3
  obtain ⟨n2, m2, ck2, cn2, hm2, hq, hQ⟩ := dpen_ok eA eU eW eM e0 e1 e2 e3 heA heU heW heM he0 he1 he2 he3
  clear hdA hdU hdW hdM hd0 hd1 hd2 hd3 heA heU heW heM he0 he1 he2 he3
  obtain ⟨⟨ax, ux, fkx, fnx, bkx, bnx, lkx, lnx⟩, hY⟩ : ∃ y, y = apS (⟨a, u, fk, fn, bk, bn, lk, ln⟩ : Sty) (⟨39, n, m, ck, cn, ⟨#[]⟩⟩ : Pen) := ⟨_, rfl⟩
  obtain ⟨⟨ay, uy, fky, fny, bky, bny, lky, lny⟩, hZ⟩ : ∃ y, y = apS (apS (⟨a, u, fk, fn, bk, bn, lk, ln⟩ : Sty) (⟨39, n, m, ck, cn, ⟨#[]⟩⟩ : Pen)) (⟨39, n2, m2, ck2, cn2, ⟨#[]⟩⟩ : Pen) := ⟨_, rfl⟩
  obtain ⟨⟨az, uz, fkz, fnz, bkz, bnz, lkz, lnz⟩, hV⟩ : ∃ y, y = apS (apS (⟨a, u, fk, fn, bk, bn, lk, ln⟩ : Sty) (⟨39, n2, m2, ck2, cn2, ⟨#[]⟩⟩ : Pen)) (⟨39, n, m, ck, cn, ⟨#[]⟩⟩ : Pen) := ⟨_, rfl⟩
  have hi := okS_in hx
  have hy : okS (⟨ax, ux, fkx, fnx, bkx, bnx, lkx, lnx⟩ : Sty) := hY ▸ (ap_ok hx hp).1
  have r1 : runV (⟨a, u, fk, fn, bk, bn, lk, ln⟩ : Sty) [(⟨39, n, m, ck, cn, ⟨#[]⟩⟩ : Pen)] = .tuple #[.agg #[.int .i64 ax, .int .i64 ux, .int .i64 fkx, .int .i64 fnx, .int .i64 bkx, .int .i64 bnx, .int .i64 lkx, .int .i64 lnx], .int .i64 0] := by
    rw [runV_ok hx (run1 hp), ← hY]
    rfl
  have r2 : runV (⟨a, u, fk, fn, bk, bn, lk, ln⟩ : Sty) [(⟨39, n, m, ck, cn, ⟨#[]⟩⟩ : Pen), (⟨39, n, m, ck, cn, ⟨#[]⟩⟩ : Pen)] = .tuple #[.agg #[.int .i64 ax, .int .i64 ux, .int .i64 fkx, .int .i64 fnx, .int .i64 bkx, .int .i64 bnx, .int .i64 lkx, .int .i64 lnx], .int .i64 0] := by
    rw [runV_ok hx (run2 hp hp), (ap_ok hx hp).2, ← hY]
    rfl
  have r3 : runV (⟨a, u, fk, fn, bk, bn, lk, ln⟩ : Sty) [(⟨39, n, m, ck, cn, ⟨#[]⟩⟩ : Pen), (⟨39, n2, m2, ck2, cn2, ⟨#[]⟩⟩ : Pen)] = .tuple #[.agg #[.int .i64 ay, .int .i64 uy, .int .i64 fky, .int .i64 fny, .int .i64 bky, .int .i64 bny, .int .i64 lky, .int .i64 lny], .int .i64 0] := by
    rw [runV_ok hx (run2 hp hq), ← hZ]
    rfl
  have r4 : runV (⟨a, u, fk, fn, bk, bn, lk, ln⟩ : Sty) [(⟨39, n2, m2, ck2, cn2, ⟨#[]⟩⟩ : Pen), (⟨39, n, m, ck, cn, ⟨#[]⟩⟩ : Pen)] = .tuple #[.agg #[.int .i64 az, .int .i64 uz, .int .i64 fkz, .int .i64 fnz, .int .i64 bkz, .int .i64 bnz, .int .i64 lkz, .int .i64 lnz], .int .i64 0] := by
    rw [runV_ok hx (run2 hq hp), ← hV]
    rfl
  have Hcm := Lib.hid fun (h1 : n ≠ n2) (h2 : ¬ (n ≤ 2 ∧ n2 ≤ 2)) (h3 : n ≠ 0) (h4 : n2 ≠ 0) => (hZ.trans (ap_comm (x := (⟨a, u, fk, fn, bk, bn, lk, ln⟩ : Sty)) hp hq h1 h2 h3 h4)).trans hV.symm
  have hck1 := fun W => check_any a u fk fn bk bn lk ln hi W
  rw [show stErr a u fk fn bk bn lk ln = 0 from errS_ok hx] at hck1
  have hck2 := fun W => check_any ax ux fkx fnx bkx bnx lkx lnx (okS_in hy) W
  rw [show stErr ax ux fkx fnx bkx bnx lkx lnx = 0 from errS_ok hy] at hck2
  have hcp := fun W => checkPen_any 39 n m ck cn ⟨#[]⟩ hm W
  rw [show pnErr 39 n m ck cn ⟨#[]⟩ = 0 from if_pos hp] at hcp
  have Hck1 := Lib.hid hck1
  have Hck2 := Lib.hid hck2
  have Hcp := Lib.hid hcp
  have Hap := Lib.hid fun W => apply_l a u fk fn bk bn lk ln 39 n m ck cn ⟨#[]⟩ ax ux fkx fnx bkx bnx lkx lnx 0 hi hm r1 W
  have Hr2 := Lib.hid fun B W => run_two a u fk fn bk bn lk ln n m ck cn n m ck cn ax ux fkx fnx bkx bnx lkx lnx hi hm hm r2 B W
  have Hr3 := Lib.hid fun B W => run_two a u fk fn bk bn lk ln n m ck cn n2 m2 ck2 cn2 ay uy fky fny bky bny lky lny hi hm hm2 r3 B W
  have Hr4 := Lib.hid fun B W => run_two a u fk fn bk bn lk ln n2 m2 ck2 cn2 n m ck cn az uz fkz fnz bkz bnz lkz lnz hi hm2 hm r4 B W
  have Hd := Lib.hid hd
  have HP := Lib.hid hP
  have HQ := Lib.hid hQ
  have Hn := Lib.hid (And.intro (okP_n hp) (okP_n hq))
  clear hx hd hm hp hP hm2 hq hQ hY hZ hV hi hy r1 r2 r3 r4 hck1 hck2 hcp
  go_enter Try.func5, Try.ntmps5
  go_upto_region 3 with (go_at_call 16; (with_reducible refine (works_true _).mono ?_); rintro e w' ⟨rfl, h1, d1, rfl⟩)
  try simp only [ext_ext]
  refine wp_region_makes3 6 5 9 7 6 10 8 7 11 (.cells #[.int .i64 0, .int .i64 0, .int .i64 0, .int .i64 0, .int .i64 0, .int .i64 0, .int .i64 0, .int .i64 0] 25) (.cells #[.int .i64 a, .int .i64 u, .int .i64 fk, .int .i64 fn, .int .i64 bk, .int .i64 bn, .int .i64 lk, .int .i64 ln] 25) (.cells #[.int .i64 0, .int .i64 0, .int .i64 0, .int .i64 0, .int .i64 0, .string ⟨#[]⟩] 27) (.cells #[.int .i64 39, .int .i64 n, .int .i64 m, .int .i64 ck, .int .i64 cn, .string ⟨#[]⟩] 27) (.cells #[.int .i64 0, .int .i64 0, .int .i64 0, .int .i64 0, .int .i64 0, .string ⟨#[]⟩] 27) (.cells #[.int .i64 39, .int .i64 n2, .int .i64 m2, .int .i64 ck2, .int .i64 cn2, .string ⟨#[]⟩] 27) (by kernel_rfl) (by kernel_rfl) rfl rfl rfl (fun _ _ => by simp [go_sem]) (fun _ _ => by simp [go_sem]) (fun _ _ => by simp [go_sem]) ?_
  repeat (first | (refine spWalk_op (by rfl) (fun K hK => ?_); go_simp; (try go_ints); first | (refine hK _ ?_; clear hK K) | (apply Exists.intro; refine ⟨fun xg => ?_, hK _ ?_⟩; (first | (go_at_call 10; with_reducible exact Hd.out _) | (go_at_call 11; with_reducible exact HP.out _) | (go_at_call 11; with_reducible exact HQ.out _)); clear hK K)) | (refine spWalk_sp (by rfl) (asks3 ?_ ?_ ?_) ?_; (intro h; (first | (simp [mk, Mk.s] at h; done) | (exact fillsM_store rfl 25 (.tmp 5) (.tmp 21) rfl #[.int .i64 0, .int .i64 0, .int .i64 0, .int .i64 0, .int .i64 0, .int .i64 0, .int .i64 0, .int .i64 0] #[.int .i64 a, .int .i64 u, .int .i64 fk, .int .i64 fn, .int .i64 bk, .int .i64 bn, .int .i64 lk, .int .i64 ln] 25 rfl rfl (fun _ => rfl) (fun _ => rfl) (by kernel_rfl) rfl (by simp [Value.oneCell'])))); (intro h; (first | (simp [mk, Mk.s] at h; done) | (exact fillsM_store rfl 27 (.tmp 6) (.tmp 23) rfl #[.int .i64 0, .int .i64 0, .int .i64 0, .int .i64 0, .int .i64 0, .string ⟨#[]⟩] #[.int .i64 39, .int .i64 n, .int .i64 m, .int .i64 ck, .int .i64 cn, .string ⟨#[]⟩] 27 rfl rfl (fun _ => rfl) (fun _ => rfl) (by kernel_rfl) rfl (by simp [Value.oneCell'])))); (intro h; (first | (simp [mk, Mk.s] at h; done) | (exact fillsM_store rfl 27 (.tmp 7) (.tmp 25) rfl #[.int .i64 0, .int .i64 0, .int .i64 0, .int .i64 0, .int .i64 0, .string ⟨#[]⟩] #[.int .i64 39, .int .i64 n2, .int .i64 m2, .int .i64 ck2, .int .i64 cn2, .string ⟨#[]⟩] 27 rfl rfl (fun _ => rfl) (fun _ => rfl) (by kernel_rfl) rfl (by simp [Value.oneCell']))))))
  refine spWalk_nil ?_
  intro nA nB nC WA hGA hAA hBA hCA hOA hOB hOC
  simp only [Act.put, List.setIfInBounds_toArray, List.set_cons_zero, List.set_cons_succ]
  have hS := sty_row hOA
  have hA := act_row hOB
  have hB := act_row hOC
  clear hOA hOB hOC
  have GA : Grows w WA := Grows.trans (by repeat' (first | (with_reducible exact Grows.refl _) | (with_reducible refine Grows.alloc ?_ _) | (with_reducible refine Grows.drew ?_) | (with_reducible refine Grows.ext ?_ _ _))) hGA
  clear hGA hAA hBA hCA
  obtain ⟨s0, s1, s2, s3, s4, s5, s6, s7, s8, -⟩ := hS
  obtain ⟨j0, j1, j2, j3, j4, j5, j6⟩ := hA
  obtain ⟨l0, l1, l2, l3, l4, l5, l6⟩ := hB
  go_upto_region 5 with (go_at_call 19; (with_reducible refine (Hap.out _).mono ?_); rintro e w' ⟨rfl, h2, d2, rfl⟩)
  clear Hap
  go_upto_region 6 with (go_at_call 17; (with_reducible refine (Hr2.out _ _ (by simp [go_sem]) (by simp [go_sem]) (by simp [go_sem]) (by simp [go_sem]) (by simp [go_sem]) (by simp [go_sem]) (by simp [go_sem]) (by simp [go_sem]) (by simp [go_sem]) (by simp [go_sem]) (by simp [go_sem]) (by simp [go_sem]) (by simp [go_sem])).mono ?_); rintro e w' ⟨rfl, h3, d3, rfl⟩)
  clear Hr2
  go_upto_region 8 with (first | (go_at_call 12; (with_reducible refine (Hck1.out _).mono ?_); rintro e w' ⟨rfl, h4, d4, rfl⟩) | (go_at_call 14; (with_reducible refine (Hcp.out _).mono ?_); rintro e w' ⟨rfl, h5, d5, rfl⟩) | (go_at_call 12; (with_reducible refine (Hck2.out _).mono ?_); rintro e w' ⟨rfl, h6, d6, rfl⟩))
  clear Hck1 Hck2 Hcp
  go_upto_region 9 with (go_at_call 17; (with_reducible refine (Hr3.out _ _ (by simp [go_sem]) (by simp [go_sem]) (by simp [go_sem]) (by simp [go_sem]) (by simp [go_sem]) (by simp [go_sem]) (by simp [go_sem]) (by simp [go_sem]) (by simp [go_sem]) (by simp [go_sem]) (by simp [go_sem]) (by simp [go_sem]) (by simp [go_sem])).mono ?_); rintro e w' ⟨rfl, h7, d7, rfl⟩)
  clear Hr3
  go_upto_region 10 with (go_at_call 17; (with_reducible refine (Hr4.out _ _ (by simp [go_sem]) (by simp [go_sem]) (by simp [go_sem]) (by simp [go_sem]) (by simp [go_sem]) (by simp [go_sem]) (by simp [go_sem]) (by simp [go_sem]) (by simp [go_sem]) (by simp [go_sem]) (by simp [go_sem]) (by simp [go_sem]) (by simp [go_sem])).mono ?_); rintro e w' ⟨rfl, h8, d8, rfl⟩)
  clear Hr4
  obtain ⟨⟨hn1, hn2⟩, hn3, hn4⟩ := Hn.out
  have hcm := Hcm.out
  clear Hcm Hn
  rcases (by omega : (n ≤ 2 ∧ n2 ≤ 2 ∧ n = n2) ∨ (n ≤ 2 ∧ n2 ≤ 2 ∧ n ≠ n2) ∨ (n ≤ 2 ∧ 2 < n2 ∧ n = 0) ∨ (n ≤ 2 ∧ 2 < n2 ∧ n ≠ 0) ∨ (2 < n ∧ n2 ≤ 2 ∧ n2 = 0) ∨ (2 < n ∧ n2 ≤ 2 ∧ n2 ≠ 0) ∨ (2 < n ∧ 2 < n2 ∧ n = n2) ∨ (2 < n ∧ 2 < n2 ∧ n ≠ n2)) with ⟨k1, k2, k3⟩ | ⟨k1, k2, k3⟩ | ⟨k1, k2, k3⟩ | ⟨k1, k2, k3⟩ | ⟨k1, k2, k3⟩ | ⟨k1, k2, k3⟩ | ⟨k1, k2, k3⟩ | ⟨k1, k2, k3⟩
  · have e1 : decide (n ≤ 2) = true := by simp; omega
    have e2 : decide (n2 ≤ 2) = true := by simp; omega
    have e3 : (n != n2) = false := by simp [k3]
    clear hcm hn1 hn2 hn3 hn4 k1 k2 k3
    go_wp2_with fail
    go_returns
    exact ⟨rfl, (by repeat' (first | (with_reducible exact GA) | (with_reducible exact Grows.refl _) | (with_reducible refine Grows.alloc ?_ _) | (with_reducible refine Grows.drew ?_) | (with_reducible refine Grows.ext ?_ _ _)))⟩
  · have e1 : decide (n ≤ 2) = true := by simp; omega
    have e2 : decide (n2 ≤ 2) = true := by simp; omega
    have e3 : (n != n2) = true := by simp; omega
    clear hcm hn1 hn2 hn3 hn4 k1 k2 k3
    go_wp2_with fail
    go_returns
    exact ⟨rfl, (by repeat' (first | (with_reducible exact GA) | (with_reducible exact Grows.refl _) | (with_reducible refine Grows.alloc ?_ _) | (with_reducible refine Grows.drew ?_) | (with_reducible refine Grows.ext ?_ _ _)))⟩
  · have e1 : decide (n ≤ 2) = true := by simp; omega
    have e2 : decide (n2 ≤ 2) = false := by simp; omega
    have e3 : (n != n2) = true := by simp; omega
    have e4 : (n != 0) = false := by simp [k3]
    clear hcm hn1 hn2 hn3 hn4 k1 k2 k3
    go_wp2_with fail
    go_returns
    exact ⟨rfl, (by repeat' (first | (with_reducible exact GA) | (with_reducible exact Grows.refl _) | (with_reducible refine Grows.alloc ?_ _) | (with_reducible refine Grows.drew ?_) | (with_reducible refine Grows.ext ?_ _ _)))⟩
  · have e1 : decide (n ≤ 2) = true := by simp; omega
    have e2 : decide (n2 ≤ 2) = false := by simp; omega
    have e3 : (n != n2) = true := by simp; omega
    have e4 : (n != 0) = true := by simp; omega
    have e5 : (n2 != 0) = true := by simp; omega
    have hz := hcm (by omega) (by omega) (by omega) (by omega)
    simp only [Sty.mk.injEq] at hz
    obtain ⟨rfl, rfl, rfl, rfl, rfl, rfl, rfl, rfl⟩ := hz
    clear hcm hn1 hn2 hn3 hn4 k1 k2 k3
    go_wp2_with fail
    go_returns
    exact ⟨rfl, (by repeat' (first | (with_reducible exact GA) | (with_reducible exact Grows.refl _) | (with_reducible refine Grows.alloc ?_ _) | (with_reducible refine Grows.drew ?_) | (with_reducible refine Grows.ext ?_ _ _)))⟩
  · have e1 : decide (n ≤ 2) = false := by simp; omega
    have e2 : decide (n2 ≤ 2) = true := by simp; omega
    have e3 : (n != n2) = true := by simp; omega
    have e4 : (n != 0) = true := by simp; omega
    have e5 : (n2 != 0) = false := by simp [k3]
    clear hcm hn1 hn2 hn3 hn4 k1 k2 k3
    go_wp2_with fail
    go_returns
    exact ⟨rfl, (by repeat' (first | (with_reducible exact GA) | (with_reducible exact Grows.refl _) | (with_reducible refine Grows.alloc ?_ _) | (with_reducible refine Grows.drew ?_) | (with_reducible refine Grows.ext ?_ _ _)))⟩
  · have e1 : decide (n ≤ 2) = false := by simp; omega
    have e2 : decide (n2 ≤ 2) = true := by simp; omega
    have e3 : (n != n2) = true := by simp; omega
    have e4 : (n != 0) = true := by simp; omega
    have e5 : (n2 != 0) = true := by simp; omega
    have hz := hcm (by omega) (by omega) (by omega) (by omega)
    simp only [Sty.mk.injEq] at hz
    obtain ⟨rfl, rfl, rfl, rfl, rfl, rfl, rfl, rfl⟩ := hz
    clear hcm hn1 hn2 hn3 hn4 k1 k2 k3
    go_wp2_with fail
    go_returns
    exact ⟨rfl, (by repeat' (first | (with_reducible exact GA) | (with_reducible exact Grows.refl _) | (with_reducible refine Grows.alloc ?_ _) | (with_reducible refine Grows.drew ?_) | (with_reducible refine Grows.ext ?_ _ _)))⟩
  · have e1 : decide (n ≤ 2) = false := by simp; omega
    have e2 : decide (n2 ≤ 2) = false := by simp; omega
    have e3 : (n != n2) = false := by simp [k3]
    clear hcm hn1 hn2 hn3 hn4 k1 k2 k3
    go_wp2_with fail
    go_returns
    exact ⟨rfl, (by repeat' (first | (with_reducible exact GA) | (with_reducible exact Grows.refl _) | (with_reducible refine Grows.alloc ?_ _) | (with_reducible refine Grows.drew ?_) | (with_reducible refine Grows.ext ?_ _ _)))⟩
  · have e1 : decide (n ≤ 2) = false := by simp; omega
    have e2 : decide (n2 ≤ 2) = false := by simp; omega
    have e3 : (n != n2) = true := by simp; omega
    have e4 : (n != 0) = true := by simp; omega
    have e5 : (n2 != 0) = true := by simp; omega
    have hz := hcm (by omega) (by omega) (by omega) (by omega)
    simp only [Sty.mk.injEq] at hz
    obtain ⟨rfl, rfl, rfl, rfl, rfl, rfl, rfl, rfl⟩ := hz
    clear hcm hn1 hn2 hn3 hn4 k1 k2 k3
    go_wp2_with fail
    go_returns
    exact ⟨rfl, (by repeat' (first | (with_reducible exact GA) | (with_reducible exact Grows.refl _) | (with_reducible refine Grows.alloc ?_ _) | (with_reducible refine Grows.drew ?_) | (with_reducible refine Grows.ext ?_ _ _)))⟩
end Go.Proofs.Ytafokiobbceibaa
