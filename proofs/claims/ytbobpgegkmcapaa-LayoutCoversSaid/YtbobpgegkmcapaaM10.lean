/-
  Walks: the closure of Swap. Walks: slices.Equal of tiles and of dividers. Walks: share, of the reference. Walks: Split, its errors. Walks: Close, its errors. Walks: Even, Swap: their errors.
-/
import Derived.Test.YtbobpgegkmcapaaRows
import Derived.Test.YtbobpgegkmcapaaM1
import Derived.Test.YtbobpgegkmcapaaM2
import Derived.WalkKit
import Derived.WalkSpells
import Derived.WalkLawsBesides
import Derived.Handy
import Derived.Laws.Rows
import Derived.Great.BuildSlice
import Derived.Deep.Heap
import Derived.IntWalk
import Derived.Lib.Hide
import Derived.Outline
import Derived.Deep.Light
import Derived.Deep.LoopGhost
import Derived.BigGuardPart
import Derived.BigQuiet
import Derived.Deep.QuietTactic
import Derived.Deep.RegionHeld3
import Derived.Deep.DeepCutAuto
import Derived.Deep.CutBlock
import Derived.OwnWalk
import Derived.Test.YtbobpgegkmcapaaM5
import Derived.Test.YtbobpgegkmcapaaM6
import Derived.Laws.EntriesVeiled
import Derived.Test.YtbobpgegkmcapaaM3
import Derived.Test.YtbobpgegkmcapaaM8
import Derived.Test.YtbobpgegkmcapaaM9
import Derived.Maps.AppendAt
namespace Go.Proofs.Ytbobpgegkmcapaa
open Go.RowKit

theorem swap_name {w : World} {p1 p2 : Nat} {x y : Int} (p : Int) (hC : Blk w p1 3 #[.int .i64 x]) (hD : Blk w p2 3 #[.int .i64 y]) : Calls Try.prog 62 #[.int .i64 p, .pointer (some ⟨p1, 0, none⟩), .pointer (some ⟨p2, 0, none⟩)] w (Ret (.int .i64 (swapP x y p)) w) := by
  obtain ⟨c0, -⟩ := hC.one
  obtain ⟨d0, -⟩ := hD.one
  have hl1 := hC.lt
  have hl2 := hD.lt
  clear hC hD
  unfold swapP
  by_cases h1 : p = x
  · rw [if_pos h1]
    have k1 : (p == x) = true := by simpa using h1
    clear h1
    go_enter Try.func62, Try.ntmps62
    go_wp2
    go_returns
    exact ⟨rfl, (by repeat' (first | (with_reducible exact Grows.refl _) | (with_reducible refine Grows.alloc ?_ _) | (with_reducible refine Grows.drew ?_) | (with_reducible refine Grows.ext ?_ _ _)))⟩
  · rw [if_neg h1]
    have k1 : (p == x) = false := by simpa using h1
    clear h1
    by_cases h2 : p = y
    · rw [if_pos h2]
      have k2 : (p == y) = true := by simpa using h2
      clear h2
      go_enter Try.func62, Try.ntmps62
      go_wp2
      go_returns
      exact ⟨rfl, (by repeat' (first | (with_reducible exact Grows.refl _) | (with_reducible refine Grows.alloc ?_ _) | (with_reducible refine Grows.drew ?_) | (with_reducible refine Grows.ext ?_ _ _)))⟩
    · rw [if_neg h2]
      have k2 : (p == y) = false := by simpa using h2
      clear h2
      go_enter Try.func62, Try.ntmps62
      go_wp2
      go_returns
      exact ⟨rfl, (by repeat' (first | (with_reducible exact Grows.refl _) | (with_reducible refine Grows.alloc ?_ _) | (with_reducible refine Grows.drew ?_) | (with_reducible refine Grows.ext ?_ _ _)))⟩
end Go.Proofs.Ytbobpgegkmcapaa

namespace Go.Proofs.Ytbobpgegkmcapaa
open Go.RowKit

theorem Til_eq {x y : Til} (h : x.pane = y.pane ∧ x.at_.row = y.at_.row ∧ x.at_.col = y.at_.col ∧ x.at_.rows = y.at_.rows ∧ x.at_.cols = y.at_.cols) : x = y := by
  obtain ⟨h0, h1, h2, h3, h4⟩ := h
  obtain ⟨p, r⟩ := x
  obtain ⟨p', r'⟩ := y
  obtain ⟨a, b, c, d⟩ := r
  obtain ⟨a', b', c', d'⟩ := r'
  subst h0 h1 h2 h3 h4
  rfl
set_option maxRecDepth 100000 in
set_option maxHeartbeats 2000000 in
theorem equal_Til (v v' : Value) (l l' : List Til) (w : World) (h : CellsAt 5 w v l.length (tilC l)) (h' : CellsAt 5 w v' l'.length (tilC l')) (hm : l.length ≤ 100000) (hm' : l'.length ≤ 100000) : Calls Try.prog 14 #[v, v'] w (fun e w' => ∃ r : Bool, (r = true ↔ l = l') ∧ e = .returned (.bool r) ∧ Grows w w') := by
  obtain ⟨a, c, rfl, hc⟩ := cells_open h
  obtain ⟨a', c', rfl, hc'⟩ := cells_open h'
  have Hin := Lib.hid h
  have Hin' := Lib.hid h'
  clear h h'
  by_cases hl : l.length = l'.length
  · have q : ((l.length : Int) != (l'.length : Int)) = false := by simp; omega
    go_enter Try.func14, Try.ntmps14
    go_wp2
    go_loopw [13] (fun i wr => ∃ k : Nat, ∃ wv : World, wv = wr ∧ k ≤ l.length ∧ i = .int .i64 k ∧ l.take k = l'.take k ∧ Grows w wv) (fun i _ => l.length - (intOf i).toNat)
    case atStart => exact ⟨0, _, rfl, Nat.zero_le _, rfl, rfl, Grows.refl _⟩
    case round =>
      obtain ⟨k, wv, rfl, hk, rfl, he, hg⟩ := hrel
      have HG := Lib.hid hg
      have HE := Lib.hid he
      by_cases hlt : k < l.length
      · obtain ⟨b, off, x, rfl, hb, hx, c0, c1, c2, c3, c4⟩ := tile_at (Hin.out.grows hg) rfl hlt
        obtain ⟨b', off', y, rfl, hb', hy, d0, d1, d2, d3, d4⟩ := tile_at (Hin'.out.grows hg) rfl (i := k) (by omega)
        have HX := Lib.hid (And.intro hx hy)
        clear he hg hx hy
        by_cases hxy : x.pane = y.pane ∧ x.at_.row = y.at_.row ∧ x.at_.col = y.at_.col ∧ x.at_.rows = y.at_.rows ∧ x.at_.cols = y.at_.cols
        · obtain ⟨g0, g1, g2, g3, g4⟩ := hxy
          have HXY := Lib.hid (Til_eq ⟨g0, g1, g2, g3, g4⟩)
          rw [← g0] at d0
          rw [← g1] at d1
          rw [← g2] at d2
          rw [← g3] at d3
          rw [← g4] at d4
          clear g0 g1 g2 g3 g4
          go_upto_region 6 with fail
          refine wp_region_grow (by kernel_rfl) (by kernel_rfl) ?_
          repeat (first | go_big_quiet_step ((fail)) | quiet_step ((fail)))
          refine wpQuiet_nil ?_
          rintro _ ⟨g61, rfl⟩
          go_wp2
          go_roundw
          case rel => exact ⟨k + 1, _, rfl, by omega, by go_num, take_eq_snoc HE.out HX.out.1 (by rw [HXY.out]; exact HX.out.2), HG.out.trans (by repeat' (first | (with_reducible exact Grows.refl _) | (with_reducible refine Grows.alloc ?_ _) | (with_reducible refine Grows.drew ?_) | (with_reducible refine Grows.ext ?_ _ _)))⟩
          case measure => simp [intOf]; omega
        · have HN := Lib.hid hxy
          have hc : (¬ x.pane = y.pane) ∨ (x.pane = y.pane ∧ ¬ x.at_.row = y.at_.row) ∨ (x.pane = y.pane ∧ x.at_.row = y.at_.row ∧ ¬ x.at_.col = y.at_.col) ∨ (x.pane = y.pane ∧ x.at_.row = y.at_.row ∧ x.at_.col = y.at_.col ∧ ¬ x.at_.rows = y.at_.rows) ∨ (x.pane = y.pane ∧ x.at_.row = y.at_.row ∧ x.at_.col = y.at_.col ∧ x.at_.rows = y.at_.rows ∧ ¬ x.at_.cols = y.at_.cols) := by
            by_cases g0 : x.pane = y.pane <;> by_cases g1 : x.at_.row = y.at_.row <;> by_cases g2 : x.at_.col = y.at_.col <;> by_cases g3 : x.at_.rows = y.at_.rows <;> simp_all
          clear hxy
          rcases hc with n0 | ⟨g0, n1⟩ | ⟨g0, g1, n2⟩ | ⟨g0, g1, g2, n3⟩ | ⟨g0, g1, g2, g3, n4⟩
          · have g : (x.pane != y.pane) = true := by simpa using n0
            have g' : (x.pane == y.pane) = false := by simpa using n0
            clear n0 
            go_upto_region 6 with fail
            refine wp_region_grow (by kernel_rfl) (by kernel_rfl) ?_
            repeat (first | go_big_quiet_step ((fail)) | quiet_step ((fail)))
            refine wpQuiet_nil ?_
            rintro _ ⟨g62, rfl⟩
            go_wp2
            go_ret
            refine ⟨false, ⟨fun h => (by cases h), fun h => absurd ?_ HN.out⟩, rfl, HG.out.trans (by repeat' (first | (with_reducible exact Grows.refl _) | (with_reducible refine Grows.alloc ?_ _) | (with_reducible refine Grows.drew ?_) | (with_reducible refine Grows.ext ?_ _ _)))⟩
            subst h
            obtain rfl := Option.some.inj (HX.out.1.symm.trans HX.out.2)
            exact ⟨rfl, rfl, rfl, rfl, rfl⟩
          · rw [← g0] at d0
            have g : (x.at_.row != y.at_.row) = true := by simpa using n1
            have g' : (x.at_.row == y.at_.row) = false := by simpa using n1
            clear n1 g0
            go_upto_region 6 with fail
            refine wp_region_grow (by kernel_rfl) (by kernel_rfl) ?_
            repeat (first | go_big_quiet_step ((fail)) | quiet_step ((fail)))
            refine wpQuiet_nil ?_
            rintro _ ⟨g63, rfl⟩
            go_wp2
            go_ret
            refine ⟨false, ⟨fun h => (by cases h), fun h => absurd ?_ HN.out⟩, rfl, HG.out.trans (by repeat' (first | (with_reducible exact Grows.refl _) | (with_reducible refine Grows.alloc ?_ _) | (with_reducible refine Grows.drew ?_) | (with_reducible refine Grows.ext ?_ _ _)))⟩
            subst h
            obtain rfl := Option.some.inj (HX.out.1.symm.trans HX.out.2)
            exact ⟨rfl, rfl, rfl, rfl, rfl⟩
          · rw [← g0] at d0
            rw [← g1] at d1
            have g : (x.at_.col != y.at_.col) = true := by simpa using n2
            have g' : (x.at_.col == y.at_.col) = false := by simpa using n2
            clear n2 g0 g1
            go_upto_region 6 with fail
            refine wp_region_grow (by kernel_rfl) (by kernel_rfl) ?_
            repeat (first | go_big_quiet_step ((fail)) | quiet_step ((fail)))
            refine wpQuiet_nil ?_
            rintro _ ⟨g64, rfl⟩
            go_wp2
            go_ret
            refine ⟨false, ⟨fun h => (by cases h), fun h => absurd ?_ HN.out⟩, rfl, HG.out.trans (by repeat' (first | (with_reducible exact Grows.refl _) | (with_reducible refine Grows.alloc ?_ _) | (with_reducible refine Grows.drew ?_) | (with_reducible refine Grows.ext ?_ _ _)))⟩
            subst h
            obtain rfl := Option.some.inj (HX.out.1.symm.trans HX.out.2)
            exact ⟨rfl, rfl, rfl, rfl, rfl⟩
          · rw [← g0] at d0
            rw [← g1] at d1
            rw [← g2] at d2
            have g : (x.at_.rows != y.at_.rows) = true := by simpa using n3
            have g' : (x.at_.rows == y.at_.rows) = false := by simpa using n3
            clear n3 g0 g1 g2
            go_upto_region 6 with fail
            refine wp_region_grow (by kernel_rfl) (by kernel_rfl) ?_
            repeat (first | go_big_quiet_step ((fail)) | quiet_step ((fail)))
            refine wpQuiet_nil ?_
            rintro _ ⟨g65, rfl⟩
            go_wp2
            go_ret
            refine ⟨false, ⟨fun h => (by cases h), fun h => absurd ?_ HN.out⟩, rfl, HG.out.trans (by repeat' (first | (with_reducible exact Grows.refl _) | (with_reducible refine Grows.alloc ?_ _) | (with_reducible refine Grows.drew ?_) | (with_reducible refine Grows.ext ?_ _ _)))⟩
            subst h
            obtain rfl := Option.some.inj (HX.out.1.symm.trans HX.out.2)
            exact ⟨rfl, rfl, rfl, rfl, rfl⟩
          · rw [← g0] at d0
            rw [← g1] at d1
            rw [← g2] at d2
            rw [← g3] at d3
            have g : (x.at_.cols != y.at_.cols) = true := by simpa using n4
            have g' : (x.at_.cols == y.at_.cols) = false := by simpa using n4
            clear n4 g0 g1 g2 g3
            go_upto_region 6 with fail
            refine wp_region_grow (by kernel_rfl) (by kernel_rfl) ?_
            repeat (first | go_big_quiet_step ((fail)) | quiet_step ((fail)))
            refine wpQuiet_nil ?_
            rintro _ ⟨g66, rfl⟩
            go_wp2
            go_ret
            refine ⟨false, ⟨fun h => (by cases h), fun h => absurd ?_ HN.out⟩, rfl, HG.out.trans (by repeat' (first | (with_reducible exact Grows.refl _) | (with_reducible refine Grows.alloc ?_ _) | (with_reducible refine Grows.drew ?_) | (with_reducible refine Grows.ext ?_ _ _)))⟩
            subst h
            obtain rfl := Option.some.inj (HX.out.1.symm.trans HX.out.2)
            exact ⟨rfl, rfl, rfl, rfl, rfl⟩
      · have e : k = l.length := by omega
        subst e
        clear hg he
        go_wp2_with fail
        go_ret
        exact ⟨true, ⟨fun _ => eq_of_take HE.out hl, fun _ => rfl⟩, rfl, HG.out⟩
  · have q : ((l.length : Int) != (l'.length : Int)) = true := by simp; omega
    go_enter Try.func14, Try.ntmps14
    go_wp2
    go_returns
    exact ⟨false, ⟨fun h => (by cases h), fun h => absurd (by rw [h]) hl⟩, rfl, (by repeat' (first | (with_reducible exact Grows.refl _) | (with_reducible refine Grows.alloc ?_ _) | (with_reducible refine Grows.drew ?_) | (with_reducible refine Grows.ext ?_ _ _)))⟩
theorem Rul_eq {x y : Rul} (h : x.at_.row = y.at_.row ∧ x.at_.col = y.at_.col ∧ x.at_.rows = y.at_.rows ∧ x.at_.cols = y.at_.cols ∧ x.vert = y.vert) : x = y := by
  obtain ⟨h0, h1, h2, h3, h4⟩ := h
  obtain ⟨r, p⟩ := x
  obtain ⟨r', p'⟩ := y
  obtain ⟨a, b, c, d⟩ := r
  obtain ⟨a', b', c', d'⟩ := r'
  subst h0 h1 h2 h3 h4
  rfl
set_option maxRecDepth 100000 in
set_option maxHeartbeats 2000000 in
theorem equal_Rul (v v' : Value) (l l' : List Rul) (w : World) (h : CellsAt 5 w v l.length (rulC l)) (h' : CellsAt 5 w v' l'.length (rulC l')) (hm : l.length ≤ 100000) (hm' : l'.length ≤ 100000) : Calls Try.prog 15 #[v, v'] w (fun e w' => ∃ r : Bool, (r = true ↔ l = l') ∧ e = .returned (.bool r) ∧ Grows w w') := by
  obtain ⟨a, c, rfl, hc⟩ := cells_open h
  obtain ⟨a', c', rfl, hc'⟩ := cells_open h'
  have Hin := Lib.hid h
  have Hin' := Lib.hid h'
  clear h h'
  by_cases hl : l.length = l'.length
  · have q : ((l.length : Int) != (l'.length : Int)) = false := by simp; omega
    go_enter Try.func15, Try.ntmps15
    go_wp2
    go_loopw [13] (fun i wr => ∃ k : Nat, ∃ wv : World, wv = wr ∧ k ≤ l.length ∧ i = .int .i64 k ∧ l.take k = l'.take k ∧ Grows w wv) (fun i _ => l.length - (intOf i).toNat)
    case atStart => exact ⟨0, _, rfl, Nat.zero_le _, rfl, rfl, Grows.refl _⟩
    case round =>
      obtain ⟨k, wv, rfl, hk, rfl, he, hg⟩ := hrel
      have HG := Lib.hid hg
      have HE := Lib.hid he
      by_cases hlt : k < l.length
      · obtain ⟨b, off, x, rfl, hb, hx, c0, c1, c2, c3, c4⟩ := rule_at (Hin.out.grows hg) rfl hlt
        obtain ⟨b', off', y, rfl, hb', hy, d0, d1, d2, d3, d4⟩ := rule_at (Hin'.out.grows hg) rfl (i := k) (by omega)
        have HX := Lib.hid (And.intro hx hy)
        clear he hg hx hy
        by_cases hxy : x.at_.row = y.at_.row ∧ x.at_.col = y.at_.col ∧ x.at_.rows = y.at_.rows ∧ x.at_.cols = y.at_.cols ∧ x.vert = y.vert
        · obtain ⟨g0, g1, g2, g3, g4⟩ := hxy
          have HXY := Lib.hid (Rul_eq ⟨g0, g1, g2, g3, g4⟩)
          rw [← g0] at d0
          rw [← g1] at d1
          rw [← g2] at d2
          rw [← g3] at d3
          rw [← g4] at d4
          clear g0 g1 g2 g3 g4
          go_upto_region 6 with fail
          refine wp_region_grow (by kernel_rfl) (by kernel_rfl) ?_
          repeat (first | go_big_quiet_step ((fail)) | quiet_step ((fail)))
          refine wpQuiet_nil ?_
          rintro _ ⟨g67, rfl⟩
          go_wp2
          go_roundw
          case rel => exact ⟨k + 1, _, rfl, by omega, by go_num, take_eq_snoc HE.out HX.out.1 (by rw [HXY.out]; exact HX.out.2), HG.out.trans (by repeat' (first | (with_reducible exact Grows.refl _) | (with_reducible refine Grows.alloc ?_ _) | (with_reducible refine Grows.drew ?_) | (with_reducible refine Grows.ext ?_ _ _)))⟩
          case measure => simp [intOf]; omega
        · have HN := Lib.hid hxy
          have hc : (¬ x.at_.row = y.at_.row) ∨ (x.at_.row = y.at_.row ∧ ¬ x.at_.col = y.at_.col) ∨ (x.at_.row = y.at_.row ∧ x.at_.col = y.at_.col ∧ ¬ x.at_.rows = y.at_.rows) ∨ (x.at_.row = y.at_.row ∧ x.at_.col = y.at_.col ∧ x.at_.rows = y.at_.rows ∧ ¬ x.at_.cols = y.at_.cols) ∨ (x.at_.row = y.at_.row ∧ x.at_.col = y.at_.col ∧ x.at_.rows = y.at_.rows ∧ x.at_.cols = y.at_.cols ∧ ¬ x.vert = y.vert) := by
            by_cases g0 : x.at_.row = y.at_.row <;> by_cases g1 : x.at_.col = y.at_.col <;> by_cases g2 : x.at_.rows = y.at_.rows <;> by_cases g3 : x.at_.cols = y.at_.cols <;> simp_all
          clear hxy
          rcases hc with n0 | ⟨g0, n1⟩ | ⟨g0, g1, n2⟩ | ⟨g0, g1, g2, n3⟩ | ⟨g0, g1, g2, g3, n4⟩
          · have g : (x.at_.row != y.at_.row) = true := by simpa using n0
            have g' : (x.at_.row == y.at_.row) = false := by simpa using n0
            clear n0 
            go_upto_region 6 with fail
            refine wp_region_grow (by kernel_rfl) (by kernel_rfl) ?_
            repeat (first | go_big_quiet_step ((fail)) | quiet_step ((fail)))
            refine wpQuiet_nil ?_
            rintro _ ⟨g68, rfl⟩
            go_wp2
            go_ret
            refine ⟨false, ⟨fun h => (by cases h), fun h => absurd ?_ HN.out⟩, rfl, HG.out.trans (by repeat' (first | (with_reducible exact Grows.refl _) | (with_reducible refine Grows.alloc ?_ _) | (with_reducible refine Grows.drew ?_) | (with_reducible refine Grows.ext ?_ _ _)))⟩
            subst h
            obtain rfl := Option.some.inj (HX.out.1.symm.trans HX.out.2)
            exact ⟨rfl, rfl, rfl, rfl, rfl⟩
          · rw [← g0] at d0
            have g : (x.at_.col != y.at_.col) = true := by simpa using n1
            have g' : (x.at_.col == y.at_.col) = false := by simpa using n1
            clear n1 g0
            go_upto_region 6 with fail
            refine wp_region_grow (by kernel_rfl) (by kernel_rfl) ?_
            repeat (first | go_big_quiet_step ((fail)) | quiet_step ((fail)))
            refine wpQuiet_nil ?_
            rintro _ ⟨g69, rfl⟩
            go_wp2
            go_ret
            refine ⟨false, ⟨fun h => (by cases h), fun h => absurd ?_ HN.out⟩, rfl, HG.out.trans (by repeat' (first | (with_reducible exact Grows.refl _) | (with_reducible refine Grows.alloc ?_ _) | (with_reducible refine Grows.drew ?_) | (with_reducible refine Grows.ext ?_ _ _)))⟩
            subst h
            obtain rfl := Option.some.inj (HX.out.1.symm.trans HX.out.2)
            exact ⟨rfl, rfl, rfl, rfl, rfl⟩
          · rw [← g0] at d0
            rw [← g1] at d1
            have g : (x.at_.rows != y.at_.rows) = true := by simpa using n2
            have g' : (x.at_.rows == y.at_.rows) = false := by simpa using n2
            clear n2 g0 g1
            go_upto_region 6 with fail
            refine wp_region_grow (by kernel_rfl) (by kernel_rfl) ?_
            repeat (first | go_big_quiet_step ((fail)) | quiet_step ((fail)))
            refine wpQuiet_nil ?_
            rintro _ ⟨g70, rfl⟩
            go_wp2
            go_ret
            refine ⟨false, ⟨fun h => (by cases h), fun h => absurd ?_ HN.out⟩, rfl, HG.out.trans (by repeat' (first | (with_reducible exact Grows.refl _) | (with_reducible refine Grows.alloc ?_ _) | (with_reducible refine Grows.drew ?_) | (with_reducible refine Grows.ext ?_ _ _)))⟩
            subst h
            obtain rfl := Option.some.inj (HX.out.1.symm.trans HX.out.2)
            exact ⟨rfl, rfl, rfl, rfl, rfl⟩
          · rw [← g0] at d0
            rw [← g1] at d1
            rw [← g2] at d2
            have g : (x.at_.cols != y.at_.cols) = true := by simpa using n3
            have g' : (x.at_.cols == y.at_.cols) = false := by simpa using n3
            clear n3 g0 g1 g2
            go_upto_region 6 with fail
            refine wp_region_grow (by kernel_rfl) (by kernel_rfl) ?_
            repeat (first | go_big_quiet_step ((fail)) | quiet_step ((fail)))
            refine wpQuiet_nil ?_
            rintro _ ⟨g71, rfl⟩
            go_wp2
            go_ret
            refine ⟨false, ⟨fun h => (by cases h), fun h => absurd ?_ HN.out⟩, rfl, HG.out.trans (by repeat' (first | (with_reducible exact Grows.refl _) | (with_reducible refine Grows.alloc ?_ _) | (with_reducible refine Grows.drew ?_) | (with_reducible refine Grows.ext ?_ _ _)))⟩
            subst h
            obtain rfl := Option.some.inj (HX.out.1.symm.trans HX.out.2)
            exact ⟨rfl, rfl, rfl, rfl, rfl⟩
          · rw [← g0] at d0
            rw [← g1] at d1
            rw [← g2] at d2
            rw [← g3] at d3
            have g : (x.vert != y.vert) = true := by simpa using n4
            have g' : (x.vert == y.vert) = false := by simpa using n4
            clear n4 g0 g1 g2 g3
            go_upto_region 6 with fail
            refine wp_region_grow (by kernel_rfl) (by kernel_rfl) ?_
            repeat (first | go_big_quiet_step ((fail)) | quiet_step ((fail)))
            refine wpQuiet_nil ?_
            rintro _ ⟨g72, rfl⟩
            go_wp2
            go_ret
            refine ⟨false, ⟨fun h => (by cases h), fun h => absurd ?_ HN.out⟩, rfl, HG.out.trans (by repeat' (first | (with_reducible exact Grows.refl _) | (with_reducible refine Grows.alloc ?_ _) | (with_reducible refine Grows.drew ?_) | (with_reducible refine Grows.ext ?_ _ _)))⟩
            subst h
            obtain rfl := Option.some.inj (HX.out.1.symm.trans HX.out.2)
            exact ⟨rfl, rfl, rfl, rfl, rfl⟩
      · have e : k = l.length := by omega
        subst e
        clear hg he
        go_wp2_with fail
        go_ret
        exact ⟨true, ⟨fun _ => eq_of_take HE.out hl, fun _ => rfl⟩, rfl, HG.out⟩
  · have q : ((l.length : Int) != (l'.length : Int)) = true := by simp; omega
    go_enter Try.func15, Try.ntmps15
    go_wp2
    go_returns
    exact ⟨false, ⟨fun h => (by cases h), fun h => absurd (by rw [h]) hl⟩, rfl, (by repeat' (first | (with_reducible exact Grows.refl _) | (with_reducible refine Grows.alloc ?_ _) | (with_reducible refine Grows.drew ?_) | (with_reducible refine Grows.ext ?_ _ _)))⟩
end Go.Proofs.Ytbobpgegkmcapaa

namespace Go.Proofs.Ytbobpgegkmcapaa
open Go.RowKit

theorem min_take {ws : List Int} {m i : Nat} : sumI (ws.take (min m i)) = if m ≤ i then sumI (ws.take m) else sumI (ws.take i) := by
  by_cases h : m ≤ i
  · rw [if_pos h, Nat.min_eq_left h]
  · rw [if_neg h, Nat.min_eq_right (by omega)]
set_option maxRecDepth 100000 in
set_option maxHeartbeats 4000000 in
theorem share_any {S : Nat → Prop} (v : Value) (ws : List Int) (i : Nat) (rest : Int) (w : World) (h : IntsAt S w v ws) (hw : ∀ w ∈ ws, 1 ≤ w ∧ w ≤ 1000) (hn : ws.length ≤ 1000) (hi : i < ws.length) (h0 : 0 ≤ rest) (h1 : rest ≤ 10000) :
    Calls Try.prog 44 #[v, .int .i64 i, .int .i64 rest] w (Ret (.int .i64 (shareL ws rest (i + 1) - shareL ws rest i)) w) := by
  obtain ⟨a, c, rfl, hc, hm, hin⟩ := h.open_ rfl
  have Hin := Lib.hid hin
  have HSO := Lib.hid (sums_ok hw hn)
  have HS := Lib.hid (shareL_ediv h0 hw)
  have htot := sum_pos hw (by omega)
  clear h hin hw
  go_enter Try.func44, Try.ntmps44
  go_wp2_with fail
  go_loopw [7, 8, 9] (fun t s k wr => ∃ m : Nat, ∃ wv : World, wv = wr ∧ m ≤ ws.length ∧ k = .int .i64 m ∧ t = .int .i64 (sumI (ws.take m)) ∧ s = .int .i64 (sumI (ws.take (min m i))) ∧ Grows w wv) (fun _ _ k _ => ws.length - (intOf k).toNat)
  case atStart => exact ⟨0, _, rfl, Nat.zero_le _, rfl, rfl, by rw [Nat.zero_min]; rfl, Grows.refl _⟩
  case round =>
    obtain ⟨m, wv, rfl, hmm, rfl, rfl, rfl, hg⟩ := hrel
    have HG := Lib.hid hg
    have hso := HSO.out m
    have hsp := HSO.out (min m i)
    by_cases hlt : m < ws.length
    · obtain ⟨b, off, y, rfl, hb, -, hy, -, f0⟩ := (Hin.out.grows hg).at_ hlt
      have hsn : sumI (ws.take (m + 1)) = sumI (ws.take m) + y := by rw [take_snoc hy, sumI_snoc]
      have hso2 := HSO.out (m + 1)
      rw [hsn] at hso2
      by_cases hmi : m < i
      · have hs2 : sumI (ws.take (min (m + 1) i)) = sumI (ws.take m) + y := by rw [Nat.min_eq_left (by omega), hsn]
        have hs3 : sumI (ws.take (min m i)) = sumI (ws.take m) := by rw [Nat.min_eq_left (by omega)]
        have HSN := Lib.hid (And.intro hsn hs2)
        rw [hs3]
        clear hg hy hsn hs2 hs3
        generalize sumI (ws.take m) = s at *
        go_wp2_with fail
        go_roundw
        case rel => exact ⟨m + 1, _, rfl, by omega, by go_num, by rw [HSN.out.1], by rw [HSN.out.2], HG.out⟩
        case measure => simp [intOf]; omega
      · have hs2 : sumI (ws.take (min (m + 1) i)) = sumI (ws.take (min m i)) := by rw [Nat.min_eq_right (by omega), Nat.min_eq_right (by omega)]
        have HSN := Lib.hid (And.intro hsn hs2)
        clear hg hy hsn hs2
        generalize sumI (ws.take m) = s at *
        generalize sumI (ws.take (min m i)) = s2 at *
        go_wp2_with fail
        go_roundw
        case rel => exact ⟨m + 1, _, rfl, by omega, by go_num, by rw [HSN.out.1], by rw [HSN.out.2], HG.out⟩
        case measure => simp [intOf]; omega
    · have e : m = ws.length := by omega
      subst e
      rw [Nat.min_eq_right (by omega), List.take_length] at *
      obtain ⟨b, off, y, rfl, hb, -, hy, -, f0⟩ := (Hin.out.grows hg).at_ hi
      have hsn : sumI (ws.take (i + 1)) = sumI (ws.take i) + y := by rw [take_snoc hy, sumI_snoc]
      have hso2 := HSO.out (i + 1)
      have hv1 := HS.out i
      have hv2 := HS.out (i + 1)
      rw [hsn] at hso2 hv2
      obtain ⟨s, hs⟩ : ∃ z, sumI (ws.take i) = z := ⟨_, rfl⟩
      rw [hs] at hsp hso2 hv1 hv2 ⊢
      obtain ⟨tot, htt⟩ : ∃ z, sumI ws = z := ⟨_, rfl⟩
      rw [htt] at htot hso hv1 hv2 ⊢
      have p1 := prod_ok h0 h1 hsp.1 hsp.2
      have p2 := prod_ok h0 h1 hso2.1 hso2.2
      have r1 := quo_ok p1.1 p1.2 htot
      have r2 := quo_ok p2.1 p2.2 htot
      have HV := Lib.hid (And.intro hv1 hv2)
      have htq : (tot == 0) = false := by simp; omega
      have htq2 : ¬ tot = 0 := by omega
      clear hg hy hsn hv1 hv2 hs htt hlt
      go_upto_region 8 with fail
      refine wp_region_held_drew (S := fun w' => w'.cell? ⟨b, off + i, none⟩ = some (.int .i64 y)) (by kernel_rfl) ?_ (fun hHeld => ?_)
      · (simp [go_sem, f0])
      refine wpAnyH_take (i := 0) (v := ?v122_0) rfl (by kernel_rfl) (by kernel_rfl) (by kernel_rfl) (fun _ _ _ h => h) (Or.inl ⟨by kernel_rfl, ?y122_0⟩) (by assumption) ?r122_0
      case y122_0 => ((intro w hSw; (try dsimp only at hSw); go_simp); (try go_ints); (try with_reducible rfl))
      try simp only [Act.put, List.getElem_toArray, List.getElem_cons_zero, List.setIfInBounds_toArray, List.set_cons_zero, List.set_cons_succ]
      refine wpAnyH_take (i := 1) (v := ?v123_1) rfl (by kernel_rfl) (by kernel_rfl) (by kernel_rfl) (fun _ _ _ h => h) (Or.inl ⟨by kernel_rfl, ?y123_1⟩) (by assumption) ?r123_1
      case y123_1 => ((intro w hSw; (try dsimp only at hSw); go_simp); (try go_ints); (try with_reducible rfl))
      try simp only [Act.put, List.getElem_toArray, List.getElem_cons_succ, List.getElem_cons_zero, List.setIfInBounds_toArray, List.set_cons_zero, List.set_cons_succ]
      refine wpAnyH_take (i := 2) (v := ?v124_2) rfl (by kernel_rfl) (by kernel_rfl) (by kernel_rfl) (fun _ _ _ h => h) (Or.inl ⟨by kernel_rfl, ?y124_2⟩) (by assumption) ?r124_2
      case y124_2 => ((intro w hSw; (try dsimp only at hSw); go_simp); (try go_ints); (try with_reducible rfl))
      try simp only [Act.put, List.getElem_toArray, List.getElem_cons_succ, List.getElem_cons_zero, List.setIfInBounds_toArray, List.set_cons_zero, List.set_cons_succ]
      refine wpAnyH_take (i := 3) (v := ?v125_3) rfl (by kernel_rfl) (by kernel_rfl) (by kernel_rfl) (fun _ _ _ h => h) (Or.inl ⟨by kernel_rfl, ?y125_3⟩) (by assumption) ?r125_3
      case y125_3 => ((intro w hSw; (try dsimp only at hSw); go_simp); (try go_ints); (try with_reducible rfl))
      try simp only [Act.put, List.getElem_toArray, List.getElem_cons_succ, List.getElem_cons_zero, List.setIfInBounds_toArray, List.set_cons_zero, List.set_cons_succ]
      refine wpAnyH_take (i := 4) (v := ?v126_4) rfl (by kernel_rfl) (by kernel_rfl) (by kernel_rfl) (fun _ _ _ h => h) (Or.inl ⟨by kernel_rfl, ?y126_4⟩) (by assumption) ?r126_4
      case y126_4 => ((intro w hSw; (try dsimp only at hSw); go_simp); (try go_ints); (try with_reducible rfl))
      try simp only [Act.put, List.getElem_toArray, List.getElem_cons_succ, List.getElem_cons_zero, List.setIfInBounds_toArray, List.set_cons_zero, List.set_cons_succ]
      refine wpAnyH_take (i := 5) (v := ?v127_5) rfl (by kernel_rfl) (by kernel_rfl) (by kernel_rfl) (fun _ _ _ h => h) (Or.inl ⟨by kernel_rfl, ?y127_5⟩) (by assumption) ?r127_5
      case y127_5 => ((intro w hSw; (try dsimp only at hSw); go_simp); (try go_ints); (try with_reducible rfl))
      try simp only [Act.put, List.getElem_toArray, List.getElem_cons_succ, List.getElem_cons_zero, List.setIfInBounds_toArray, List.set_cons_zero, List.set_cons_succ]
      refine wpAnyH_take (i := 6) (v := ?v128_6) rfl (by kernel_rfl) (by kernel_rfl) (by kernel_rfl) (fun _ _ _ h => h) (Or.inl ⟨by kernel_rfl, ?y128_6⟩) (by assumption) ?r128_6
      case y128_6 => ((intro w hSw; (try dsimp only at hSw); go_simp); (try go_ints); (try with_reducible rfl))
      try simp only [Act.put, List.getElem_toArray, List.getElem_cons_succ, List.getElem_cons_zero, List.setIfInBounds_toArray, List.set_cons_zero, List.set_cons_succ]
      refine wpAnyH_take (i := 7) (v := ?v129_7) rfl (by kernel_rfl) (by kernel_rfl) (by kernel_rfl) (fun _ _ _ h => h) (Or.inl ⟨by kernel_rfl, ?y129_7⟩) (by assumption) ?r129_7
      case y129_7 => ((intro w hSw; (try dsimp only at hSw); go_simp); (try go_ints); (try with_reducible rfl))
      try simp only [Act.put, List.getElem_toArray, List.getElem_cons_succ, List.getElem_cons_zero, List.setIfInBounds_toArray, List.set_cons_zero, List.set_cons_succ]
      refine wpAnyH_take (i := 8) (v := ?v130_8) rfl (by kernel_rfl) (by kernel_rfl) (by kernel_rfl) (fun _ _ _ h => h) (Or.inl ⟨by kernel_rfl, ?y130_8⟩) (by assumption) ?r130_8
      case y130_8 => ((intro w hSw; (try dsimp only at hSw); go_simp); (try go_ints); (try with_reducible rfl))
      try simp only [Act.put, List.getElem_toArray, List.getElem_cons_succ, List.getElem_cons_zero, List.setIfInBounds_toArray, List.set_cons_zero, List.set_cons_succ]
      refine wpAnyH_take (i := 9) (v := ?v131_9) rfl (by kernel_rfl) (by kernel_rfl) (by kernel_rfl) (fun _ _ _ h => h) (Or.inl ⟨by kernel_rfl, ?y131_9⟩) (by assumption) ?r131_9
      case y131_9 => ((intro w hSw; (try dsimp only at hSw); go_simp); (try go_ints); (try with_reducible rfl))
      try simp only [Act.put, List.getElem_toArray, List.getElem_cons_succ, List.getElem_cons_zero, List.setIfInBounds_toArray, List.set_cons_zero, List.set_cons_succ]
      refine wpAnyH_take (i := 10) (v := ?v132_10) rfl (by kernel_rfl) (by kernel_rfl) (by kernel_rfl) (fun _ _ _ h => h) (Or.inl ⟨by kernel_rfl, ?y132_10⟩) (by assumption) ?r132_10
      case y132_10 => ((intro w hSw; (try dsimp only at hSw); go_simp); (try go_ints); (try with_reducible rfl))
      try simp only [Act.put, List.getElem_toArray, List.getElem_cons_succ, List.getElem_cons_zero, List.setIfInBounds_toArray, List.set_cons_zero, List.set_cons_succ]
      refine wpAnyH_take (i := 11) (v := ?v133_11) rfl (by kernel_rfl) (by kernel_rfl) (by kernel_rfl) (fun _ _ _ h => h) (Or.inl ⟨by kernel_rfl, ?y133_11⟩) (by assumption) ?r133_11
      case y133_11 => ((intro w hSw; (try dsimp only at hSw); go_simp); (try go_ints); (try with_reducible rfl))
      try simp only [Act.put, List.getElem_toArray, List.getElem_cons_succ, List.getElem_cons_zero, List.setIfInBounds_toArray, List.set_cons_zero, List.set_cons_succ]
      refine wpAnyH_take (i := 12) (v := ?v134_12) rfl (by kernel_rfl) (by kernel_rfl) (by kernel_rfl) (fun _ _ _ h => h) (Or.inl ⟨by kernel_rfl, ?y134_12⟩) (by assumption) ?r134_12
      case y134_12 => ((intro w hSw; (try dsimp only at hSw); go_simp); (try go_ints); (try with_reducible rfl))
      try simp only [Act.put, List.getElem_toArray, List.getElem_cons_succ, List.getElem_cons_zero, List.setIfInBounds_toArray, List.set_cons_zero, List.set_cons_succ]
      refine wpAnyH_take (i := 13) (v := ?v135_13) rfl (by kernel_rfl) (by kernel_rfl) (by kernel_rfl) (fun _ _ _ h => h) (Or.inl ⟨by kernel_rfl, ?y135_13⟩) (by assumption) ?r135_13
      case y135_13 => ((intro w hSw; (try dsimp only at hSw); go_simp); (try go_ints); (try with_reducible rfl))
      try simp only [Act.put, List.getElem_toArray, List.getElem_cons_succ, List.getElem_cons_zero, List.setIfInBounds_toArray, List.set_cons_zero, List.set_cons_succ]
      refine wpAnyH_take (i := 14) (v := ?v136_14) rfl (by kernel_rfl) (by kernel_rfl) (by kernel_rfl) (fun _ _ _ h => h) (Or.inl ⟨by kernel_rfl, ?y136_14⟩) (by assumption) ?r136_14
      case y136_14 => ((intro w hSw; (try dsimp only at hSw); go_simp); (try go_ints); (try with_reducible rfl))
      try simp only [Act.put, List.getElem_toArray, List.getElem_cons_succ, List.getElem_cons_zero, List.setIfInBounds_toArray, List.set_cons_zero, List.set_cons_succ]
      refine wpAnyH_take (i := 15) (v := ?v137_15) rfl (by kernel_rfl) (by kernel_rfl) (by kernel_rfl) (fun _ _ _ h => h) (Or.inl ⟨by kernel_rfl, ?y137_15⟩) (by assumption) ?r137_15
      case y137_15 => ((intro w hSw; (try dsimp only at hSw); go_simp); (try go_ints); (try with_reducible rfl))
      try simp only [Act.put, List.getElem_toArray, List.getElem_cons_succ, List.getElem_cons_zero, List.setIfInBounds_toArray, List.set_cons_zero, List.set_cons_succ]
      refine wpAnyH_take (i := 16) (v := ?v138_16) rfl (by kernel_rfl) (by kernel_rfl) (by kernel_rfl) (fun _ _ _ h => h) (Or.inl ⟨by kernel_rfl, ?y138_16⟩) (by assumption) ?r138_16
      case y138_16 => ((intro w hSw; (try dsimp only at hSw); go_simp); (try go_ints); (try with_reducible rfl))
      try simp only [Act.put, List.getElem_toArray, List.getElem_cons_succ, List.getElem_cons_zero, List.setIfInBounds_toArray, List.set_cons_zero, List.set_cons_succ]
      refine wpAnyH_done (by kernel_rfl) ?_ _
      clear hHeld
      go_wp2
      go_returns
      exact ⟨by rw [HV.out.1, HV.out.2]; rfl, HG.out.trans (by repeat' (first | (with_reducible exact Grows.refl _) | (with_reducible refine Grows.alloc ?_ _) | (with_reducible refine Grows.drew ?_) | (with_reducible refine Grows.ext ?_ _ _)))⟩
end Go.Proofs.Ytbobpgegkmcapaa

namespace Go.Proofs.Ytbobpgegkmcapaa
open Go.RowKit

set_option maxHeartbeats 2000000 in
theorem split_no {S : Nat → Prop} (L : Lay) (pane kind fresh : Int) (hr : rightL L = false) (vk vw : Value) (w : World) (h : LayAt S w L vk vw) : Calls Try.prog 33 #[.agg #[.int .i64 L.kind, .int .i64 L.pane, vk, vw], .int .i64 pane, .int .i64 kind, .int .i64 fresh] w (fun e w' => EdResI S w w' (zeroL, 440) e) := by
  have hc := chk_no hr
  obtain ⟨ka, kc, e1, -⟩ := h.kids.shape rfl
  obtain ⟨wa, wc, e2, -⟩ := h.ints.shape rfl
  subst e1 e2
  have HC := Lib.hid fun W (g : Grows w W) => checked (h.grows g)
  rw [hc] at HC
  have HP := Lib.hid fun W (g : Grows w W) => panesP_no L hr _ _ W (h.grows g)
  clear h hc hr
  generalize L.kids.length = kn at *
  generalize L.ws.length = wn at *
  go_enter Try.func33, Try.ntmps33
  go_upto_region 1 with fail
  refine abs_worldM (fun W' => Grows w W' ∧ Blk W' w.heap.size 25 #[.int .i64 L.kind, .int .i64 L.pane, .slice ka kn kc, .slice wa wn wc] ∧ Blk W' (w.heap.size + 1) 3 #[.int .i64 kind] ∧ Blk W' (w.heap.size + 1 + 1) 3 #[.int .i64 fresh] ∧ Blk W' (w.heap.size + 1 + 1 + 1) 25 #[.int .i64 0, .int .i64 0, .slice none 0 0, .slice none 0 0]) (boxes4 _ _ _ _ _) ?_
  rintro W1 ⟨hg1, hb0, hb1, hb2, hb3⟩
  obtain ⟨a0, a1, a2, a3⟩ := hb0.four
  obtain ⟨k0, -⟩ := hb1.one
  obtain ⟨k1, -⟩ := hb2.one
  obtain ⟨b0, b1, b2, b3⟩ := hb3.four
  obtain ⟨d0, d1, d2, d3⟩ := hb3.four'
  have hl0 := hb0.lt
  have hl1 := hb1.lt
  have hl2 := hb2.lt
  have hl3 := hb3.lt
  have HB0 := Lib.hid hb0
  have HB1 := Lib.hid hb1
  have HB2 := Lib.hid hb2
  have HB3 := Lib.hid hb3
  have HG1 := Lib.hid hg1
  clear hb0 hb1 hb2 hb3 hg1
  go_wp2_with (first | (go_at_call 20; (go_must (with_reducible refine (HP.out _ (HG1.out.trans (by repeat' (first | (with_reducible exact hgW) | (with_reducible exact Grows.refl _) | (with_reducible refine Grows.alloc ?_ _) | (with_reducible refine Grows.drew ?_) | (with_reducible refine Grows.ext ?_ _ _))))).mono ?_)); rintro e w1 ⟨rfl, hg2⟩; have hgW : Grows W1 w1 := Grows.trans (by repeat' (first | (with_reducible exact hgW) | (with_reducible exact Grows.refl _) | (with_reducible refine Grows.alloc ?_ _) | (with_reducible refine Grows.drew ?_) | (with_reducible refine Grows.ext ?_ _ _))) hg2; obtain ⟨a0, a1, a2, a3⟩ := (HB0.out.grows hgW).four; obtain ⟨k0, -⟩ := (HB1.out.grows hgW).one; obtain ⟨k1, -⟩ := (HB2.out.grows hgW).one; obtain ⟨b0, b1, b2, b3⟩ := (HB3.out.grows hgW).four; obtain ⟨d0, d1, d2, d3⟩ := (HB3.out.grows hgW).four'; have hl0 := (HB0.out.grows hgW).lt; have hl1 := (HB1.out.grows hgW).lt; have hl2 := (HB2.out.grows hgW).lt; have hl3 := (HB3.out.grows hgW).lt) | (go_at_call 16; (go_must (with_reducible refine (HC.out _ (HG1.out.trans (by repeat' (first | (with_reducible exact hgW) | (with_reducible exact Grows.refl _) | (with_reducible refine Grows.alloc ?_ _) | (with_reducible refine Grows.drew ?_) | (with_reducible refine Grows.ext ?_ _ _))))).mono ?_)); rintro e w1 ⟨rfl, hg2⟩; have hgW : Grows W1 w1 := Grows.trans (by repeat' (first | (with_reducible exact hgW) | (with_reducible exact Grows.refl _) | (with_reducible refine Grows.alloc ?_ _) | (with_reducible refine Grows.drew ?_) | (with_reducible refine Grows.ext ?_ _ _))) hg2; obtain ⟨a0, a1, a2, a3⟩ := (HB0.out.grows hgW).four; obtain ⟨k0, -⟩ := (HB1.out.grows hgW).one; obtain ⟨k1, -⟩ := (HB2.out.grows hgW).one; obtain ⟨b0, b1, b2, b3⟩ := (HB3.out.grows hgW).four; obtain ⟨d0, d1, d2, d3⟩ := (HB3.out.grows hgW).four'; have hl0 := (HB0.out.grows hgW).lt; have hl1 := (HB1.out.grows hgW).lt; have hl2 := (HB2.out.grows hgW).lt; have hl3 := (HB3.out.grows hgW).lt))
  refine ret_cell_tmp (t := 25) (n := w.heap.size + 1 + 1 + 1) (cs := #[.int .i64 0, .int .i64 0, .slice none 0 0, .slice none 0 0]) rfl rfl rfl ?_ Try.underlying25 rfl (by kernel_rfl) rfl ?_
  · exact (HB3.out.grows hgW).set4
  · exact EdResI.zero (Grows.set4 (HG1.out.trans hgW) (by omega) _ _ _ _) _
set_option maxHeartbeats 2000000 in
theorem split_nopane {S : Nat → Prop} (L : Lay) (pane kind fresh : Int) (hr : rightL L = true) (hp : pane ∉ panesL L) (vk vw : Value) (w : World) (h : LayAt S w L vk vw) : Calls Try.prog 33 #[.agg #[.int .i64 L.kind, .int .i64 L.pane, vk, vw], .int .i64 pane, .int .i64 kind, .int .i64 fresh] w (fun e w' => EdResI S w w' (zeroL, 441) e) := by
  have hc := chk_yes hr
  obtain ⟨ka, kc, e1, -⟩ := h.kids.shape rfl
  obtain ⟨wa, wc, e2, -⟩ := h.ints.shape rfl
  subst e1 e2
  have HC := Lib.hid fun W (g : Grows w W) => checked (h.grows g)
  rw [hc] at HC
  have HP := Lib.hid fun W (g : Grows w W) => panesP_yes L hr _ _ W (h.grows g)
  clear h hc hr
  generalize L.kids.length = kn at *
  generalize L.ws.length = wn at *
  generalize panesL L = pl at *
  go_enter Try.func33, Try.ntmps33
  go_upto_region 1 with fail
  refine abs_worldM (fun W' => Grows w W' ∧ Blk W' w.heap.size 25 #[.int .i64 L.kind, .int .i64 L.pane, .slice ka kn kc, .slice wa wn wc] ∧ Blk W' (w.heap.size + 1) 3 #[.int .i64 kind] ∧ Blk W' (w.heap.size + 1 + 1) 3 #[.int .i64 fresh] ∧ Blk W' (w.heap.size + 1 + 1 + 1) 25 #[.int .i64 0, .int .i64 0, .slice none 0 0, .slice none 0 0]) (boxes4 _ _ _ _ _) ?_
  rintro W1 ⟨hg1, hb0, hb1, hb2, hb3⟩
  obtain ⟨a0, a1, a2, a3⟩ := hb0.four
  obtain ⟨k0, -⟩ := hb1.one
  obtain ⟨k1, -⟩ := hb2.one
  obtain ⟨b0, b1, b2, b3⟩ := hb3.four
  obtain ⟨d0, d1, d2, d3⟩ := hb3.four'
  have hl0 := hb0.lt
  have hl1 := hb1.lt
  have hl2 := hb2.lt
  have hl3 := hb3.lt
  have HB0 := Lib.hid hb0
  have HB1 := Lib.hid hb1
  have HB2 := Lib.hid hb2
  have HB3 := Lib.hid hb3
  have HG1 := Lib.hid hg1
  clear hb0 hb1 hb2 hb3 hg1
  go_wp2_with (first | (go_at_call 20; (go_must (with_reducible refine (HP.out _ (HG1.out.trans (by repeat' (first | (with_reducible exact hgW) | (with_reducible exact Grows.refl _) | (with_reducible refine Grows.alloc ?_ _) | (with_reducible refine Grows.drew ?_) | (with_reducible refine Grows.ext ?_ _ _))))).mono ?_)); rintro e w2 ⟨v2, rfl, hv2, hg2⟩; have hgW : Grows W1 w2 := Grows.trans (by repeat' (first | (with_reducible exact hgW) | (with_reducible exact Grows.refl _) | (with_reducible refine Grows.alloc ?_ _) | (with_reducible refine Grows.drew ?_) | (with_reducible refine Grows.ext ?_ _ _))) hg2; obtain ⟨a0, a1, a2, a3⟩ := (HB0.out.grows hgW).four; obtain ⟨k0, -⟩ := (HB1.out.grows hgW).one; obtain ⟨k1, -⟩ := (HB2.out.grows hgW).one; obtain ⟨b0, b1, b2, b3⟩ := (HB3.out.grows hgW).four; obtain ⟨d0, d1, d2, d3⟩ := (HB3.out.grows hgW).four'; have hl0 := (HB0.out.grows hgW).lt; have hl1 := (HB1.out.grows hgW).lt; have hl2 := (HB2.out.grows hgW).lt; have hl3 := (HB3.out.grows hgW).lt) | (go_at_call 16; (go_must (with_reducible refine (HC.out _ (HG1.out.trans (by repeat' (first | (with_reducible exact hgW) | (with_reducible exact Grows.refl _) | (with_reducible refine Grows.alloc ?_ _) | (with_reducible refine Grows.drew ?_) | (with_reducible refine Grows.ext ?_ _ _))))).mono ?_)); rintro e w3 ⟨rfl, hg3⟩; have hv3 := hv2.grows (Grows.trans (by repeat' (first | (with_reducible exact Grows.refl _) | (with_reducible refine Grows.alloc ?_ _) | (with_reducible refine Grows.drew ?_) | (with_reducible refine Grows.ext ?_ _ _))) hg3); have hgW2 := hgW; clear hgW; have hgW : Grows W1 w3 := hgW2.trans (Grows.trans (by repeat' (first | (with_reducible exact Grows.refl _) | (with_reducible refine Grows.alloc ?_ _) | (with_reducible refine Grows.drew ?_) | (with_reducible refine Grows.ext ?_ _ _))) hg3); obtain ⟨a0, a1, a2, a3⟩ := (HB0.out.grows hgW).four; obtain ⟨k0, -⟩ := (HB1.out.grows hgW).one; obtain ⟨k1, -⟩ := (HB2.out.grows hgW).one; obtain ⟨b0, b1, b2, b3⟩ := (HB3.out.grows hgW).four; obtain ⟨d0, d1, d2, d3⟩ := (HB3.out.grows hgW).four'; have hl0 := (HB0.out.grows hgW).lt; have hl1 := (HB1.out.grows hgW).lt; have hl2 := (HB2.out.grows hgW).lt; have hl3 := (HB3.out.grows hgW).lt) | (go_at_call 55; (go_must (with_reducible refine (contains_any _ _ _ _ (hv3.grows (by repeat' (first | (with_reducible exact Grows.refl _) | (with_reducible refine Grows.alloc ?_ _) | (with_reducible refine Grows.drew ?_) | (with_reducible refine Grows.ext ?_ _ _))))).mono ?_)); rintro e w4 ⟨rfl, rfl⟩))
  refine ret_cell_tmp (t := 25) (n := w.heap.size + 1 + 1 + 1) (cs := #[.int .i64 0, .int .i64 0, .slice none 0 0, .slice none 0 0]) rfl rfl rfl ?_ Try.underlying25 rfl (by kernel_rfl) rfl ?_
  · exact (HB3.out.grows hgW).set4
  · exact EdResI.zero (Grows.set4 (HG1.out.trans hgW) (by omega) _ _ _ _) _
set_option maxHeartbeats 4000000 in
theorem split_bad1 {S : Nat → Prop} (L : Lay) (pane kind fresh : Int) (hr : rightL L = true) (hp : pane ∈ panesL L) (hk : ¬ (kind = 2 ∨ kind = 3)) (vk vw : Value) (w : World) (h : LayAt S w L vk vw) : Calls Try.prog 33 #[.agg #[.int .i64 L.kind, .int .i64 L.pane, vk, vw], .int .i64 pane, .int .i64 kind, .int .i64 fresh] w (fun e w' => EdResI S w w' (zeroL, 2) e) := by
  have hc := chk_yes hr
  obtain ⟨ka, kc, e1, -⟩ := h.kids.shape rfl
  obtain ⟨wa, wc, e2, -⟩ := h.ints.shape rfl
  subst e1 e2
  have HC := Lib.hid fun W (g : Grows w W) => checked (h.grows g)
  rw [hc] at HC
  have HP := Lib.hid fun W (g : Grows w W) => panesP_yes L hr _ _ W (h.grows g)
  have HSP := Lib.hid fun W => (show Calls Try.prog 56 #[.int .i64 kind] W (Ret (.bool false) W) by
    have := isSplit_any kind W
    rwa [show (decide (kind = 2) || decide (kind = 3)) = false by simp; omega] at this)
  clear h hc hr hk
  generalize L.kids.length = kn at *
  generalize L.ws.length = wn at *
  generalize panesL L = pl at *
  go_enter Try.func33, Try.ntmps33
  go_upto_region 1 with fail
  refine abs_worldM (fun W' => Grows w W' ∧ Blk W' w.heap.size 25 #[.int .i64 L.kind, .int .i64 L.pane, .slice ka kn kc, .slice wa wn wc] ∧ Blk W' (w.heap.size + 1) 3 #[.int .i64 kind] ∧ Blk W' (w.heap.size + 1 + 1) 3 #[.int .i64 fresh] ∧ Blk W' (w.heap.size + 1 + 1 + 1) 25 #[.int .i64 0, .int .i64 0, .slice none 0 0, .slice none 0 0]) (boxes4 _ _ _ _ _) ?_
  rintro W1 ⟨hg1, hb0, hb1, hb2, hb3⟩
  obtain ⟨a0, a1, a2, a3⟩ := hb0.four
  obtain ⟨k0, -⟩ := hb1.one
  obtain ⟨k1, -⟩ := hb2.one
  obtain ⟨b0, b1, b2, b3⟩ := hb3.four
  obtain ⟨d0, d1, d2, d3⟩ := hb3.four'
  have hl0 := hb0.lt
  have hl1 := hb1.lt
  have hl2 := hb2.lt
  have hl3 := hb3.lt
  have HB0 := Lib.hid hb0
  have HB1 := Lib.hid hb1
  have HB2 := Lib.hid hb2
  have HB3 := Lib.hid hb3
  have HG1 := Lib.hid hg1
  clear hb0 hb1 hb2 hb3 hg1
  go_wp2_with (first | (go_at_call 20; (go_must (with_reducible refine (HP.out _ (HG1.out.trans (by repeat' (first | (with_reducible exact hgW) | (with_reducible exact Grows.refl _) | (with_reducible refine Grows.alloc ?_ _) | (with_reducible refine Grows.drew ?_) | (with_reducible refine Grows.ext ?_ _ _))))).mono ?_)); rintro e w2 ⟨v2, rfl, hv2, hg2⟩; have hgW : Grows W1 w2 := Grows.trans (by repeat' (first | (with_reducible exact hgW) | (with_reducible exact Grows.refl _) | (with_reducible refine Grows.alloc ?_ _) | (with_reducible refine Grows.drew ?_) | (with_reducible refine Grows.ext ?_ _ _))) hg2; obtain ⟨a0, a1, a2, a3⟩ := (HB0.out.grows hgW).four; obtain ⟨k0, -⟩ := (HB1.out.grows hgW).one; obtain ⟨k1, -⟩ := (HB2.out.grows hgW).one; obtain ⟨b0, b1, b2, b3⟩ := (HB3.out.grows hgW).four; obtain ⟨d0, d1, d2, d3⟩ := (HB3.out.grows hgW).four'; have hl0 := (HB0.out.grows hgW).lt; have hl1 := (HB1.out.grows hgW).lt; have hl2 := (HB2.out.grows hgW).lt; have hl3 := (HB3.out.grows hgW).lt) | (go_at_call 16; (go_must (with_reducible refine (HC.out _ (HG1.out.trans (by repeat' (first | (with_reducible exact hgW) | (with_reducible exact Grows.refl _) | (with_reducible refine Grows.alloc ?_ _) | (with_reducible refine Grows.drew ?_) | (with_reducible refine Grows.ext ?_ _ _))))).mono ?_)); rintro e w3 ⟨rfl, hg3⟩; have hv3 := hv2.grows (Grows.trans (by repeat' (first | (with_reducible exact Grows.refl _) | (with_reducible refine Grows.alloc ?_ _) | (with_reducible refine Grows.drew ?_) | (with_reducible refine Grows.ext ?_ _ _))) hg3); have hgW2 := hgW; clear hgW; have hgW : Grows W1 w3 := hgW2.trans (Grows.trans (by repeat' (first | (with_reducible exact Grows.refl _) | (with_reducible refine Grows.alloc ?_ _) | (with_reducible refine Grows.drew ?_) | (with_reducible refine Grows.ext ?_ _ _))) hg3); obtain ⟨a0, a1, a2, a3⟩ := (HB0.out.grows hgW).four; obtain ⟨k0, -⟩ := (HB1.out.grows hgW).one; obtain ⟨k1, -⟩ := (HB2.out.grows hgW).one; obtain ⟨b0, b1, b2, b3⟩ := (HB3.out.grows hgW).four; obtain ⟨d0, d1, d2, d3⟩ := (HB3.out.grows hgW).four'; have hl0 := (HB0.out.grows hgW).lt; have hl1 := (HB1.out.grows hgW).lt; have hl2 := (HB2.out.grows hgW).lt; have hl3 := (HB3.out.grows hgW).lt) | (go_at_call 55; (go_must (with_reducible refine (contains_any _ _ _ _ (hv3.grows (by repeat' (first | (with_reducible exact Grows.refl _) | (with_reducible refine Grows.alloc ?_ _) | (with_reducible refine Grows.drew ?_) | (with_reducible refine Grows.ext ?_ _ _))))).mono ?_)); rintro e w4 ⟨rfl, rfl⟩) | (go_at_call 56; (go_must (with_reducible refine (HSP.out _).mono ?_)); rintro e w5 ⟨rfl, hg5⟩; have hv4 := hv3.grows (Grows.trans (by repeat' (first | (with_reducible exact Grows.refl _) | (with_reducible refine Grows.alloc ?_ _) | (with_reducible refine Grows.drew ?_) | (with_reducible refine Grows.ext ?_ _ _))) hg5); clear hv3; have hv3 := hv4; clear hv4; have hgW3 := hgW; clear hgW; have hgW : Grows W1 w5 := hgW3.trans (Grows.trans (by repeat' (first | (with_reducible exact Grows.refl _) | (with_reducible refine Grows.alloc ?_ _) | (with_reducible refine Grows.drew ?_) | (with_reducible refine Grows.ext ?_ _ _))) hg5); obtain ⟨a0, a1, a2, a3⟩ := (HB0.out.grows hgW).four; obtain ⟨k0, -⟩ := (HB1.out.grows hgW).one; obtain ⟨k1, -⟩ := (HB2.out.grows hgW).one; obtain ⟨b0, b1, b2, b3⟩ := (HB3.out.grows hgW).four; obtain ⟨d0, d1, d2, d3⟩ := (HB3.out.grows hgW).four'; have hl0 := (HB0.out.grows hgW).lt; have hl1 := (HB1.out.grows hgW).lt; have hl2 := (HB2.out.grows hgW).lt; have hl3 := (HB3.out.grows hgW).lt))
  all_goals (try (exfalso; omega))
  refine ret_cell_tmp (t := 25) (n := w.heap.size + 1 + 1 + 1) (cs := #[.int .i64 0, .int .i64 0, .slice none 0 0, .slice none 0 0]) rfl rfl rfl ?_ Try.underlying25 rfl (by kernel_rfl) rfl ?_
  · exact (HB3.out.grows hgW).set4
  · exact EdResI.zero (Grows.set4 (HG1.out.trans hgW) (by omega) _ _ _ _) _
set_option maxHeartbeats 4000000 in
theorem split_bad2 {S : Nat → Prop} (L : Lay) (pane kind fresh : Int) (hr : rightL L = true) (hp : pane ∈ panesL L) (hk : kind = 2 ∨ kind = 3) (h1 : fresh < 0) (vk vw : Value) (w : World) (h : LayAt S w L vk vw) : Calls Try.prog 33 #[.agg #[.int .i64 L.kind, .int .i64 L.pane, vk, vw], .int .i64 pane, .int .i64 kind, .int .i64 fresh] w (fun e w' => EdResI S w w' (zeroL, 2) e) := by
  have hc := chk_yes hr
  obtain ⟨ka, kc, e1, -⟩ := h.kids.shape rfl
  obtain ⟨wa, wc, e2, -⟩ := h.ints.shape rfl
  subst e1 e2
  have HC := Lib.hid fun W (g : Grows w W) => checked (h.grows g)
  rw [hc] at HC
  have HP := Lib.hid fun W (g : Grows w W) => panesP_yes L hr _ _ W (h.grows g)
  have HSP := Lib.hid fun W => (show Calls Try.prog 56 #[.int .i64 kind] W (Ret (.bool true) W) by
    have := isSplit_any kind W
    rwa [show (decide (kind = 2) || decide (kind = 3)) = true by simpa using hk] at this)
  clear h hc hr hk
  generalize L.kids.length = kn at *
  generalize L.ws.length = wn at *
  generalize panesL L = pl at *
  go_enter Try.func33, Try.ntmps33
  go_upto_region 1 with fail
  refine abs_worldM (fun W' => Grows w W' ∧ Blk W' w.heap.size 25 #[.int .i64 L.kind, .int .i64 L.pane, .slice ka kn kc, .slice wa wn wc] ∧ Blk W' (w.heap.size + 1) 3 #[.int .i64 kind] ∧ Blk W' (w.heap.size + 1 + 1) 3 #[.int .i64 fresh] ∧ Blk W' (w.heap.size + 1 + 1 + 1) 25 #[.int .i64 0, .int .i64 0, .slice none 0 0, .slice none 0 0]) (boxes4 _ _ _ _ _) ?_
  rintro W1 ⟨hg1, hb0, hb1, hb2, hb3⟩
  obtain ⟨a0, a1, a2, a3⟩ := hb0.four
  obtain ⟨k0, -⟩ := hb1.one
  obtain ⟨k1, -⟩ := hb2.one
  obtain ⟨b0, b1, b2, b3⟩ := hb3.four
  obtain ⟨d0, d1, d2, d3⟩ := hb3.four'
  have hl0 := hb0.lt
  have hl1 := hb1.lt
  have hl2 := hb2.lt
  have hl3 := hb3.lt
  have HB0 := Lib.hid hb0
  have HB1 := Lib.hid hb1
  have HB2 := Lib.hid hb2
  have HB3 := Lib.hid hb3
  have HG1 := Lib.hid hg1
  clear hb0 hb1 hb2 hb3 hg1
  go_wp2_with (first | (go_at_call 20; (go_must (with_reducible refine (HP.out _ (HG1.out.trans (by repeat' (first | (with_reducible exact hgW) | (with_reducible exact Grows.refl _) | (with_reducible refine Grows.alloc ?_ _) | (with_reducible refine Grows.drew ?_) | (with_reducible refine Grows.ext ?_ _ _))))).mono ?_)); rintro e w2 ⟨v2, rfl, hv2, hg2⟩; have hgW : Grows W1 w2 := Grows.trans (by repeat' (first | (with_reducible exact hgW) | (with_reducible exact Grows.refl _) | (with_reducible refine Grows.alloc ?_ _) | (with_reducible refine Grows.drew ?_) | (with_reducible refine Grows.ext ?_ _ _))) hg2; obtain ⟨a0, a1, a2, a3⟩ := (HB0.out.grows hgW).four; obtain ⟨k0, -⟩ := (HB1.out.grows hgW).one; obtain ⟨k1, -⟩ := (HB2.out.grows hgW).one; obtain ⟨b0, b1, b2, b3⟩ := (HB3.out.grows hgW).four; obtain ⟨d0, d1, d2, d3⟩ := (HB3.out.grows hgW).four'; have hl0 := (HB0.out.grows hgW).lt; have hl1 := (HB1.out.grows hgW).lt; have hl2 := (HB2.out.grows hgW).lt; have hl3 := (HB3.out.grows hgW).lt) | (go_at_call 16; (go_must (with_reducible refine (HC.out _ (HG1.out.trans (by repeat' (first | (with_reducible exact hgW) | (with_reducible exact Grows.refl _) | (with_reducible refine Grows.alloc ?_ _) | (with_reducible refine Grows.drew ?_) | (with_reducible refine Grows.ext ?_ _ _))))).mono ?_)); rintro e w3 ⟨rfl, hg3⟩; have hv3 := hv2.grows (Grows.trans (by repeat' (first | (with_reducible exact Grows.refl _) | (with_reducible refine Grows.alloc ?_ _) | (with_reducible refine Grows.drew ?_) | (with_reducible refine Grows.ext ?_ _ _))) hg3); have hgW2 := hgW; clear hgW; have hgW : Grows W1 w3 := hgW2.trans (Grows.trans (by repeat' (first | (with_reducible exact Grows.refl _) | (with_reducible refine Grows.alloc ?_ _) | (with_reducible refine Grows.drew ?_) | (with_reducible refine Grows.ext ?_ _ _))) hg3); obtain ⟨a0, a1, a2, a3⟩ := (HB0.out.grows hgW).four; obtain ⟨k0, -⟩ := (HB1.out.grows hgW).one; obtain ⟨k1, -⟩ := (HB2.out.grows hgW).one; obtain ⟨b0, b1, b2, b3⟩ := (HB3.out.grows hgW).four; obtain ⟨d0, d1, d2, d3⟩ := (HB3.out.grows hgW).four'; have hl0 := (HB0.out.grows hgW).lt; have hl1 := (HB1.out.grows hgW).lt; have hl2 := (HB2.out.grows hgW).lt; have hl3 := (HB3.out.grows hgW).lt) | (go_at_call 55; (go_must (with_reducible refine (contains_any _ _ _ _ (hv3.grows (by repeat' (first | (with_reducible exact Grows.refl _) | (with_reducible refine Grows.alloc ?_ _) | (with_reducible refine Grows.drew ?_) | (with_reducible refine Grows.ext ?_ _ _))))).mono ?_)); rintro e w4 ⟨rfl, rfl⟩) | (go_at_call 56; (go_must (with_reducible refine (HSP.out _).mono ?_)); rintro e w5 ⟨rfl, hg5⟩; have hv4 := hv3.grows (Grows.trans (by repeat' (first | (with_reducible exact Grows.refl _) | (with_reducible refine Grows.alloc ?_ _) | (with_reducible refine Grows.drew ?_) | (with_reducible refine Grows.ext ?_ _ _))) hg5); clear hv3; have hv3 := hv4; clear hv4; have hgW3 := hgW; clear hgW; have hgW : Grows W1 w5 := hgW3.trans (Grows.trans (by repeat' (first | (with_reducible exact Grows.refl _) | (with_reducible refine Grows.alloc ?_ _) | (with_reducible refine Grows.drew ?_) | (with_reducible refine Grows.ext ?_ _ _))) hg5); obtain ⟨a0, a1, a2, a3⟩ := (HB0.out.grows hgW).four; obtain ⟨k0, -⟩ := (HB1.out.grows hgW).one; obtain ⟨k1, -⟩ := (HB2.out.grows hgW).one; obtain ⟨b0, b1, b2, b3⟩ := (HB3.out.grows hgW).four; obtain ⟨d0, d1, d2, d3⟩ := (HB3.out.grows hgW).four'; have hl0 := (HB0.out.grows hgW).lt; have hl1 := (HB1.out.grows hgW).lt; have hl2 := (HB2.out.grows hgW).lt; have hl3 := (HB3.out.grows hgW).lt))
  all_goals (try (exfalso; omega))
  refine ret_cell_tmp (t := 25) (n := w.heap.size + 1 + 1 + 1) (cs := #[.int .i64 0, .int .i64 0, .slice none 0 0, .slice none 0 0]) rfl rfl rfl ?_ Try.underlying25 rfl (by kernel_rfl) rfl ?_
  · exact (HB3.out.grows hgW).set4
  · exact EdResI.zero (Grows.set4 (HG1.out.trans hgW) (by omega) _ _ _ _) _
set_option maxHeartbeats 4000000 in
theorem split_bad3 {S : Nat → Prop} (L : Lay) (pane kind fresh : Int) (hr : rightL L = true) (hp : pane ∈ panesL L) (hk : kind = 2 ∨ kind = 3) (_h1 : ¬ fresh < 0) (h2 : 999 < fresh) (vk vw : Value) (w : World) (h : LayAt S w L vk vw) : Calls Try.prog 33 #[.agg #[.int .i64 L.kind, .int .i64 L.pane, vk, vw], .int .i64 pane, .int .i64 kind, .int .i64 fresh] w (fun e w' => EdResI S w w' (zeroL, 2) e) := by
  have hc := chk_yes hr
  obtain ⟨ka, kc, e1, -⟩ := h.kids.shape rfl
  obtain ⟨wa, wc, e2, -⟩ := h.ints.shape rfl
  subst e1 e2
  have HC := Lib.hid fun W (g : Grows w W) => checked (h.grows g)
  rw [hc] at HC
  have HP := Lib.hid fun W (g : Grows w W) => panesP_yes L hr _ _ W (h.grows g)
  have HSP := Lib.hid fun W => (show Calls Try.prog 56 #[.int .i64 kind] W (Ret (.bool true) W) by
    have := isSplit_any kind W
    rwa [show (decide (kind = 2) || decide (kind = 3)) = true by simpa using hk] at this)
  clear h hc hr hk
  generalize L.kids.length = kn at *
  generalize L.ws.length = wn at *
  generalize panesL L = pl at *
  go_enter Try.func33, Try.ntmps33
  go_upto_region 1 with fail
  refine abs_worldM (fun W' => Grows w W' ∧ Blk W' w.heap.size 25 #[.int .i64 L.kind, .int .i64 L.pane, .slice ka kn kc, .slice wa wn wc] ∧ Blk W' (w.heap.size + 1) 3 #[.int .i64 kind] ∧ Blk W' (w.heap.size + 1 + 1) 3 #[.int .i64 fresh] ∧ Blk W' (w.heap.size + 1 + 1 + 1) 25 #[.int .i64 0, .int .i64 0, .slice none 0 0, .slice none 0 0]) (boxes4 _ _ _ _ _) ?_
  rintro W1 ⟨hg1, hb0, hb1, hb2, hb3⟩
  obtain ⟨a0, a1, a2, a3⟩ := hb0.four
  obtain ⟨k0, -⟩ := hb1.one
  obtain ⟨k1, -⟩ := hb2.one
  obtain ⟨b0, b1, b2, b3⟩ := hb3.four
  obtain ⟨d0, d1, d2, d3⟩ := hb3.four'
  have hl0 := hb0.lt
  have hl1 := hb1.lt
  have hl2 := hb2.lt
  have hl3 := hb3.lt
  have HB0 := Lib.hid hb0
  have HB1 := Lib.hid hb1
  have HB2 := Lib.hid hb2
  have HB3 := Lib.hid hb3
  have HG1 := Lib.hid hg1
  clear hb0 hb1 hb2 hb3 hg1
  go_wp2_with (first | (go_at_call 20; (go_must (with_reducible refine (HP.out _ (HG1.out.trans (by repeat' (first | (with_reducible exact hgW) | (with_reducible exact Grows.refl _) | (with_reducible refine Grows.alloc ?_ _) | (with_reducible refine Grows.drew ?_) | (with_reducible refine Grows.ext ?_ _ _))))).mono ?_)); rintro e w2 ⟨v2, rfl, hv2, hg2⟩; have hgW : Grows W1 w2 := Grows.trans (by repeat' (first | (with_reducible exact hgW) | (with_reducible exact Grows.refl _) | (with_reducible refine Grows.alloc ?_ _) | (with_reducible refine Grows.drew ?_) | (with_reducible refine Grows.ext ?_ _ _))) hg2; obtain ⟨a0, a1, a2, a3⟩ := (HB0.out.grows hgW).four; obtain ⟨k0, -⟩ := (HB1.out.grows hgW).one; obtain ⟨k1, -⟩ := (HB2.out.grows hgW).one; obtain ⟨b0, b1, b2, b3⟩ := (HB3.out.grows hgW).four; obtain ⟨d0, d1, d2, d3⟩ := (HB3.out.grows hgW).four'; have hl0 := (HB0.out.grows hgW).lt; have hl1 := (HB1.out.grows hgW).lt; have hl2 := (HB2.out.grows hgW).lt; have hl3 := (HB3.out.grows hgW).lt) | (go_at_call 16; (go_must (with_reducible refine (HC.out _ (HG1.out.trans (by repeat' (first | (with_reducible exact hgW) | (with_reducible exact Grows.refl _) | (with_reducible refine Grows.alloc ?_ _) | (with_reducible refine Grows.drew ?_) | (with_reducible refine Grows.ext ?_ _ _))))).mono ?_)); rintro e w3 ⟨rfl, hg3⟩; have hv3 := hv2.grows (Grows.trans (by repeat' (first | (with_reducible exact Grows.refl _) | (with_reducible refine Grows.alloc ?_ _) | (with_reducible refine Grows.drew ?_) | (with_reducible refine Grows.ext ?_ _ _))) hg3); have hgW2 := hgW; clear hgW; have hgW : Grows W1 w3 := hgW2.trans (Grows.trans (by repeat' (first | (with_reducible exact Grows.refl _) | (with_reducible refine Grows.alloc ?_ _) | (with_reducible refine Grows.drew ?_) | (with_reducible refine Grows.ext ?_ _ _))) hg3); obtain ⟨a0, a1, a2, a3⟩ := (HB0.out.grows hgW).four; obtain ⟨k0, -⟩ := (HB1.out.grows hgW).one; obtain ⟨k1, -⟩ := (HB2.out.grows hgW).one; obtain ⟨b0, b1, b2, b3⟩ := (HB3.out.grows hgW).four; obtain ⟨d0, d1, d2, d3⟩ := (HB3.out.grows hgW).four'; have hl0 := (HB0.out.grows hgW).lt; have hl1 := (HB1.out.grows hgW).lt; have hl2 := (HB2.out.grows hgW).lt; have hl3 := (HB3.out.grows hgW).lt) | (go_at_call 55; (go_must (with_reducible refine (contains_any _ _ _ _ (hv3.grows (by repeat' (first | (with_reducible exact Grows.refl _) | (with_reducible refine Grows.alloc ?_ _) | (with_reducible refine Grows.drew ?_) | (with_reducible refine Grows.ext ?_ _ _))))).mono ?_)); rintro e w4 ⟨rfl, rfl⟩) | (go_at_call 56; (go_must (with_reducible refine (HSP.out _).mono ?_)); rintro e w5 ⟨rfl, hg5⟩; have hv4 := hv3.grows (Grows.trans (by repeat' (first | (with_reducible exact Grows.refl _) | (with_reducible refine Grows.alloc ?_ _) | (with_reducible refine Grows.drew ?_) | (with_reducible refine Grows.ext ?_ _ _))) hg5); clear hv3; have hv3 := hv4; clear hv4; have hgW3 := hgW; clear hgW; have hgW : Grows W1 w5 := hgW3.trans (Grows.trans (by repeat' (first | (with_reducible exact Grows.refl _) | (with_reducible refine Grows.alloc ?_ _) | (with_reducible refine Grows.drew ?_) | (with_reducible refine Grows.ext ?_ _ _))) hg5); obtain ⟨a0, a1, a2, a3⟩ := (HB0.out.grows hgW).four; obtain ⟨k0, -⟩ := (HB1.out.grows hgW).one; obtain ⟨k1, -⟩ := (HB2.out.grows hgW).one; obtain ⟨b0, b1, b2, b3⟩ := (HB3.out.grows hgW).four; obtain ⟨d0, d1, d2, d3⟩ := (HB3.out.grows hgW).four'; have hl0 := (HB0.out.grows hgW).lt; have hl1 := (HB1.out.grows hgW).lt; have hl2 := (HB2.out.grows hgW).lt; have hl3 := (HB3.out.grows hgW).lt))
  all_goals (try (exfalso; omega))
  refine ret_cell_tmp (t := 25) (n := w.heap.size + 1 + 1 + 1) (cs := #[.int .i64 0, .int .i64 0, .slice none 0 0, .slice none 0 0]) rfl rfl rfl ?_ Try.underlying25 rfl (by kernel_rfl) rfl ?_
  · exact (HB3.out.grows hgW).set4
  · exact EdResI.zero (Grows.set4 (HG1.out.trans hgW) (by omega) _ _ _ _) _
set_option maxHeartbeats 4000000 in
theorem split_bad4 {S : Nat → Prop} (L : Lay) (pane kind fresh : Int) (hr : rightL L = true) (hp : pane ∈ panesL L) (hk : kind = 2 ∨ kind = 3) (h1 : ¬ fresh < 0) (h2 : ¬ 999 < fresh) (h3 : fresh ∈ panesL L) (vk vw : Value) (w : World) (h : LayAt S w L vk vw) : Calls Try.prog 33 #[.agg #[.int .i64 L.kind, .int .i64 L.pane, vk, vw], .int .i64 pane, .int .i64 kind, .int .i64 fresh] w (fun e w' => EdResI S w w' (zeroL, 2) e) := by
  have hc := chk_yes hr
  obtain ⟨ka, kc, e1, -⟩ := h.kids.shape rfl
  obtain ⟨wa, wc, e2, -⟩ := h.ints.shape rfl
  subst e1 e2
  have HC := Lib.hid fun W (g : Grows w W) => checked (h.grows g)
  rw [hc] at HC
  have HP := Lib.hid fun W (g : Grows w W) => panesP_yes L hr _ _ W (h.grows g)
  have HSP := Lib.hid fun W => (show Calls Try.prog 56 #[.int .i64 kind] W (Ret (.bool true) W) by
    have := isSplit_any kind W
    rwa [show (decide (kind = 2) || decide (kind = 3)) = true by simpa using hk] at this)
  clear h hc hr hk
  generalize L.kids.length = kn at *
  generalize L.ws.length = wn at *
  generalize panesL L = pl at *
  go_enter Try.func33, Try.ntmps33
  go_upto_region 1 with fail
  refine abs_worldM (fun W' => Grows w W' ∧ Blk W' w.heap.size 25 #[.int .i64 L.kind, .int .i64 L.pane, .slice ka kn kc, .slice wa wn wc] ∧ Blk W' (w.heap.size + 1) 3 #[.int .i64 kind] ∧ Blk W' (w.heap.size + 1 + 1) 3 #[.int .i64 fresh] ∧ Blk W' (w.heap.size + 1 + 1 + 1) 25 #[.int .i64 0, .int .i64 0, .slice none 0 0, .slice none 0 0]) (boxes4 _ _ _ _ _) ?_
  rintro W1 ⟨hg1, hb0, hb1, hb2, hb3⟩
  obtain ⟨a0, a1, a2, a3⟩ := hb0.four
  obtain ⟨k0, -⟩ := hb1.one
  obtain ⟨k1, -⟩ := hb2.one
  obtain ⟨b0, b1, b2, b3⟩ := hb3.four
  obtain ⟨d0, d1, d2, d3⟩ := hb3.four'
  have hl0 := hb0.lt
  have hl1 := hb1.lt
  have hl2 := hb2.lt
  have hl3 := hb3.lt
  have HB0 := Lib.hid hb0
  have HB1 := Lib.hid hb1
  have HB2 := Lib.hid hb2
  have HB3 := Lib.hid hb3
  have HG1 := Lib.hid hg1
  clear hb0 hb1 hb2 hb3 hg1
  go_wp2_with (first | (go_at_call 20; (go_must (with_reducible refine (HP.out _ (HG1.out.trans (by repeat' (first | (with_reducible exact hgW) | (with_reducible exact Grows.refl _) | (with_reducible refine Grows.alloc ?_ _) | (with_reducible refine Grows.drew ?_) | (with_reducible refine Grows.ext ?_ _ _))))).mono ?_)); rintro e w2 ⟨v2, rfl, hv2, hg2⟩; have hgW : Grows W1 w2 := Grows.trans (by repeat' (first | (with_reducible exact hgW) | (with_reducible exact Grows.refl _) | (with_reducible refine Grows.alloc ?_ _) | (with_reducible refine Grows.drew ?_) | (with_reducible refine Grows.ext ?_ _ _))) hg2; obtain ⟨a0, a1, a2, a3⟩ := (HB0.out.grows hgW).four; obtain ⟨k0, -⟩ := (HB1.out.grows hgW).one; obtain ⟨k1, -⟩ := (HB2.out.grows hgW).one; obtain ⟨b0, b1, b2, b3⟩ := (HB3.out.grows hgW).four; obtain ⟨d0, d1, d2, d3⟩ := (HB3.out.grows hgW).four'; have hl0 := (HB0.out.grows hgW).lt; have hl1 := (HB1.out.grows hgW).lt; have hl2 := (HB2.out.grows hgW).lt; have hl3 := (HB3.out.grows hgW).lt) | (go_at_call 16; (go_must (with_reducible refine (HC.out _ (HG1.out.trans (by repeat' (first | (with_reducible exact hgW) | (with_reducible exact Grows.refl _) | (with_reducible refine Grows.alloc ?_ _) | (with_reducible refine Grows.drew ?_) | (with_reducible refine Grows.ext ?_ _ _))))).mono ?_)); rintro e w3 ⟨rfl, hg3⟩; have hv3 := hv2.grows (Grows.trans (by repeat' (first | (with_reducible exact Grows.refl _) | (with_reducible refine Grows.alloc ?_ _) | (with_reducible refine Grows.drew ?_) | (with_reducible refine Grows.ext ?_ _ _))) hg3); have hgW2 := hgW; clear hgW; have hgW : Grows W1 w3 := hgW2.trans (Grows.trans (by repeat' (first | (with_reducible exact Grows.refl _) | (with_reducible refine Grows.alloc ?_ _) | (with_reducible refine Grows.drew ?_) | (with_reducible refine Grows.ext ?_ _ _))) hg3); obtain ⟨a0, a1, a2, a3⟩ := (HB0.out.grows hgW).four; obtain ⟨k0, -⟩ := (HB1.out.grows hgW).one; obtain ⟨k1, -⟩ := (HB2.out.grows hgW).one; obtain ⟨b0, b1, b2, b3⟩ := (HB3.out.grows hgW).four; obtain ⟨d0, d1, d2, d3⟩ := (HB3.out.grows hgW).four'; have hl0 := (HB0.out.grows hgW).lt; have hl1 := (HB1.out.grows hgW).lt; have hl2 := (HB2.out.grows hgW).lt; have hl3 := (HB3.out.grows hgW).lt) | (go_at_call 55; (go_must (with_reducible refine (contains_any _ _ _ _ (hv3.grows (by repeat' (first | (with_reducible exact Grows.refl _) | (with_reducible refine Grows.alloc ?_ _) | (with_reducible refine Grows.drew ?_) | (with_reducible refine Grows.ext ?_ _ _))))).mono ?_)); rintro e w4 ⟨rfl, rfl⟩) | (go_at_call 56; (go_must (with_reducible refine (HSP.out _).mono ?_)); rintro e w5 ⟨rfl, hg5⟩; have hv4 := hv3.grows (Grows.trans (by repeat' (first | (with_reducible exact Grows.refl _) | (with_reducible refine Grows.alloc ?_ _) | (with_reducible refine Grows.drew ?_) | (with_reducible refine Grows.ext ?_ _ _))) hg5); clear hv3; have hv3 := hv4; clear hv4; have hgW3 := hgW; clear hgW; have hgW : Grows W1 w5 := hgW3.trans (Grows.trans (by repeat' (first | (with_reducible exact Grows.refl _) | (with_reducible refine Grows.alloc ?_ _) | (with_reducible refine Grows.drew ?_) | (with_reducible refine Grows.ext ?_ _ _))) hg5); obtain ⟨a0, a1, a2, a3⟩ := (HB0.out.grows hgW).four; obtain ⟨k0, -⟩ := (HB1.out.grows hgW).one; obtain ⟨k1, -⟩ := (HB2.out.grows hgW).one; obtain ⟨b0, b1, b2, b3⟩ := (HB3.out.grows hgW).four; obtain ⟨d0, d1, d2, d3⟩ := (HB3.out.grows hgW).four'; have hl0 := (HB0.out.grows hgW).lt; have hl1 := (HB1.out.grows hgW).lt; have hl2 := (HB2.out.grows hgW).lt; have hl3 := (HB3.out.grows hgW).lt))
  all_goals (try (exfalso; omega))
  refine ret_cell_tmp (t := 25) (n := w.heap.size + 1 + 1 + 1) (cs := #[.int .i64 0, .int .i64 0, .slice none 0 0, .slice none 0 0]) rfl rfl rfl ?_ Try.underlying25 rfl (by kernel_rfl) rfl ?_
  · exact (HB3.out.grows hgW).set4
  · exact EdResI.zero (Grows.set4 (HG1.out.trans hgW) (by omega) _ _ _ _) _
set_option maxHeartbeats 4000000 in
theorem split_full {S : Nat → Prop} (L : Lay) (pane kind fresh : Int) (hr : rightL L = true) (hp : pane ∈ panesL L) (hk : kind = 2 ∨ kind = 3) (h1 : ¬ fresh < 0) (h2 : ¬ 999 < fresh) (h3 : fresh ∉ panesL L) (h4 : (panesL L).length = 16) (vk vw : Value) (w : World) (h : LayAt S w L vk vw) : Calls Try.prog 33 #[.agg #[.int .i64 L.kind, .int .i64 L.pane, vk, vw], .int .i64 pane, .int .i64 kind, .int .i64 fresh] w (fun e w' => EdResI S w w' (zeroL, 7) e) := by
  have hc := chk_yes hr
  obtain ⟨ka, kc, e1, -⟩ := h.kids.shape rfl
  obtain ⟨wa, wc, e2, -⟩ := h.ints.shape rfl
  subst e1 e2
  have HC := Lib.hid fun W (g : Grows w W) => checked (h.grows g)
  rw [hc] at HC
  have HP := Lib.hid fun W (g : Grows w W) => panesP_yes L hr _ _ W (h.grows g)
  have HSP := Lib.hid fun W => (show Calls Try.prog 56 #[.int .i64 kind] W (Ret (.bool true) W) by
    have := isSplit_any kind W
    rwa [show (decide (kind = 2) || decide (kind = 3)) = true by simpa using hk] at this)
  clear h hc hr hk
  generalize L.kids.length = kn at *
  generalize L.ws.length = wn at *
  generalize panesL L = pl at *
  go_enter Try.func33, Try.ntmps33
  go_upto_region 1 with fail
  refine abs_worldM (fun W' => Grows w W' ∧ Blk W' w.heap.size 25 #[.int .i64 L.kind, .int .i64 L.pane, .slice ka kn kc, .slice wa wn wc] ∧ Blk W' (w.heap.size + 1) 3 #[.int .i64 kind] ∧ Blk W' (w.heap.size + 1 + 1) 3 #[.int .i64 fresh] ∧ Blk W' (w.heap.size + 1 + 1 + 1) 25 #[.int .i64 0, .int .i64 0, .slice none 0 0, .slice none 0 0]) (boxes4 _ _ _ _ _) ?_
  rintro W1 ⟨hg1, hb0, hb1, hb2, hb3⟩
  obtain ⟨a0, a1, a2, a3⟩ := hb0.four
  obtain ⟨k0, -⟩ := hb1.one
  obtain ⟨k1, -⟩ := hb2.one
  obtain ⟨b0, b1, b2, b3⟩ := hb3.four
  obtain ⟨d0, d1, d2, d3⟩ := hb3.four'
  have hl0 := hb0.lt
  have hl1 := hb1.lt
  have hl2 := hb2.lt
  have hl3 := hb3.lt
  have HB0 := Lib.hid hb0
  have HB1 := Lib.hid hb1
  have HB2 := Lib.hid hb2
  have HB3 := Lib.hid hb3
  have HG1 := Lib.hid hg1
  clear hb0 hb1 hb2 hb3 hg1
  go_wp2_with (first | (go_at_call 20; (go_must (with_reducible refine (HP.out _ (HG1.out.trans (by repeat' (first | (with_reducible exact hgW) | (with_reducible exact Grows.refl _) | (with_reducible refine Grows.alloc ?_ _) | (with_reducible refine Grows.drew ?_) | (with_reducible refine Grows.ext ?_ _ _))))).mono ?_)); rintro e w2 ⟨v2, rfl, hv2, hg2⟩; have hgW : Grows W1 w2 := Grows.trans (by repeat' (first | (with_reducible exact hgW) | (with_reducible exact Grows.refl _) | (with_reducible refine Grows.alloc ?_ _) | (with_reducible refine Grows.drew ?_) | (with_reducible refine Grows.ext ?_ _ _))) hg2; obtain ⟨a0, a1, a2, a3⟩ := (HB0.out.grows hgW).four; obtain ⟨k0, -⟩ := (HB1.out.grows hgW).one; obtain ⟨k1, -⟩ := (HB2.out.grows hgW).one; obtain ⟨b0, b1, b2, b3⟩ := (HB3.out.grows hgW).four; obtain ⟨d0, d1, d2, d3⟩ := (HB3.out.grows hgW).four'; have hl0 := (HB0.out.grows hgW).lt; have hl1 := (HB1.out.grows hgW).lt; have hl2 := (HB2.out.grows hgW).lt; have hl3 := (HB3.out.grows hgW).lt; obtain ⟨va, vc, rfl, hvc, -⟩ := hv2.shape h4) | (go_at_call 16; (go_must (with_reducible refine (HC.out _ (HG1.out.trans (by repeat' (first | (with_reducible exact hgW) | (with_reducible exact Grows.refl _) | (with_reducible refine Grows.alloc ?_ _) | (with_reducible refine Grows.drew ?_) | (with_reducible refine Grows.ext ?_ _ _))))).mono ?_)); rintro e w3 ⟨rfl, hg3⟩; have hv3 := hv2.grows (Grows.trans (by repeat' (first | (with_reducible exact Grows.refl _) | (with_reducible refine Grows.alloc ?_ _) | (with_reducible refine Grows.drew ?_) | (with_reducible refine Grows.ext ?_ _ _))) hg3); have hgW2 := hgW; clear hgW; have hgW : Grows W1 w3 := hgW2.trans (Grows.trans (by repeat' (first | (with_reducible exact Grows.refl _) | (with_reducible refine Grows.alloc ?_ _) | (with_reducible refine Grows.drew ?_) | (with_reducible refine Grows.ext ?_ _ _))) hg3); obtain ⟨a0, a1, a2, a3⟩ := (HB0.out.grows hgW).four; obtain ⟨k0, -⟩ := (HB1.out.grows hgW).one; obtain ⟨k1, -⟩ := (HB2.out.grows hgW).one; obtain ⟨b0, b1, b2, b3⟩ := (HB3.out.grows hgW).four; obtain ⟨d0, d1, d2, d3⟩ := (HB3.out.grows hgW).four'; have hl0 := (HB0.out.grows hgW).lt; have hl1 := (HB1.out.grows hgW).lt; have hl2 := (HB2.out.grows hgW).lt; have hl3 := (HB3.out.grows hgW).lt) | (go_at_call 55; (go_must (with_reducible refine (contains_any _ _ _ _ (hv3.grows (by repeat' (first | (with_reducible exact Grows.refl _) | (with_reducible refine Grows.alloc ?_ _) | (with_reducible refine Grows.drew ?_) | (with_reducible refine Grows.ext ?_ _ _))))).mono ?_)); rintro e w4 ⟨rfl, rfl⟩) | (go_at_call 56; (go_must (with_reducible refine (HSP.out _).mono ?_)); rintro e w5 ⟨rfl, hg5⟩; have hv4 := hv3.grows (Grows.trans (by repeat' (first | (with_reducible exact Grows.refl _) | (with_reducible refine Grows.alloc ?_ _) | (with_reducible refine Grows.drew ?_) | (with_reducible refine Grows.ext ?_ _ _))) hg5); clear hv3; have hv3 := hv4; clear hv4; have hgW3 := hgW; clear hgW; have hgW : Grows W1 w5 := hgW3.trans (Grows.trans (by repeat' (first | (with_reducible exact Grows.refl _) | (with_reducible refine Grows.alloc ?_ _) | (with_reducible refine Grows.drew ?_) | (with_reducible refine Grows.ext ?_ _ _))) hg5); obtain ⟨a0, a1, a2, a3⟩ := (HB0.out.grows hgW).four; obtain ⟨k0, -⟩ := (HB1.out.grows hgW).one; obtain ⟨k1, -⟩ := (HB2.out.grows hgW).one; obtain ⟨b0, b1, b2, b3⟩ := (HB3.out.grows hgW).four; obtain ⟨d0, d1, d2, d3⟩ := (HB3.out.grows hgW).four'; have hl0 := (HB0.out.grows hgW).lt; have hl1 := (HB1.out.grows hgW).lt; have hl2 := (HB2.out.grows hgW).lt; have hl3 := (HB3.out.grows hgW).lt))
  all_goals (try (exfalso; omega))
  refine ret_cell_tmp (t := 25) (n := w.heap.size + 1 + 1 + 1) (cs := #[.int .i64 0, .int .i64 0, .slice none 0 0, .slice none 0 0]) rfl rfl rfl ?_ Try.underlying25 rfl (by kernel_rfl) rfl ?_
  · exact (HB3.out.grows hgW).set4
  · exact EdResI.zero (Grows.set4 (HG1.out.trans hgW) (by omega) _ _ _ _) _
end Go.Proofs.Ytbobpgegkmcapaa

namespace Go.Proofs.Ytbobpgegkmcapaa
open Go.RowKit

set_option maxHeartbeats 4000000 in
theorem close_no {S : Nat → Prop} (L : Lay) (pane : Int) (hr : rightL L = false) (vk vw : Value) (w : World) (h : LayAt S w L vk vw) : Calls Try.prog 34 #[.agg #[.int .i64 L.kind, .int .i64 L.pane, vk, vw], .int .i64 pane] w (fun e w' => EdResI S w w' (zeroL, 440) e) := by
  have hc := chk_no hr
  obtain ⟨ka, kc, e1, -⟩ := h.kids.shape rfl
  obtain ⟨wa, wc, e2, -⟩ := h.ints.shape rfl
  subst e1 e2
  have HC := Lib.hid fun W (g : Grows w W) => checked (h.grows g)
  rw [hc] at HC
  have HP := Lib.hid fun W (g : Grows w W) => panesP_no L hr _ _ W (h.grows g)
  clear h hc hr
  generalize L.kids.length = kn at *
  generalize L.ws.length = wn at *
  go_enter Try.func34, Try.ntmps34
  go_upto_region 1 with fail
  refine abs_worldM (fun W' => Grows w W' ∧ Blk W' w.heap.size 25 #[.int .i64 L.kind, .int .i64 L.pane, .slice ka kn kc, .slice wa wn wc] ∧ Blk W' (w.heap.size + 1) 25 #[.int .i64 0, .int .i64 0, .slice none 0 0, .slice none 0 0]) (boxes2 _ _ _) ?_
  rintro W1 ⟨hg1, hb0, hb3⟩
  obtain ⟨a0, a1, a2, a3⟩ := hb0.four
  obtain ⟨b0, b1, b2, b3⟩ := hb3.four
  obtain ⟨d0, d1, d2, d3⟩ := hb3.four'
  have hl0 := hb0.lt
  have hl3 := hb3.lt
  have HB0 := Lib.hid hb0
  have HB3 := Lib.hid hb3
  have HG1 := Lib.hid hg1
  clear hb0 hb3 hg1
  go_wp2_with (first | (go_at_call 20; (go_must (with_reducible refine (HP.out _ (HG1.out.trans (by repeat' (first | (with_reducible exact hgW) | (with_reducible exact Grows.refl _) | (with_reducible refine Grows.alloc ?_ _) | (with_reducible refine Grows.drew ?_) | (with_reducible refine Grows.ext ?_ _ _))))).mono ?_)); rintro e w1 ⟨rfl, hg2⟩; have hgW : Grows W1 w1 := Grows.trans (by repeat' (first | (with_reducible exact hgW) | (with_reducible exact Grows.refl _) | (with_reducible refine Grows.alloc ?_ _) | (with_reducible refine Grows.drew ?_) | (with_reducible refine Grows.ext ?_ _ _))) hg2; obtain ⟨a0, a1, a2, a3⟩ := (HB0.out.grows hgW).four; obtain ⟨b0, b1, b2, b3⟩ := (HB3.out.grows hgW).four; obtain ⟨d0, d1, d2, d3⟩ := (HB3.out.grows hgW).four'; have hl0 := (HB0.out.grows hgW).lt; have hl3 := (HB3.out.grows hgW).lt) | (go_at_call 16; (go_must (with_reducible refine (HC.out _ (HG1.out.trans (by repeat' (first | (with_reducible exact hgW) | (with_reducible exact Grows.refl _) | (with_reducible refine Grows.alloc ?_ _) | (with_reducible refine Grows.drew ?_) | (with_reducible refine Grows.ext ?_ _ _))))).mono ?_)); rintro e w1 ⟨rfl, hg2⟩; have hgW : Grows W1 w1 := Grows.trans (by repeat' (first | (with_reducible exact hgW) | (with_reducible exact Grows.refl _) | (with_reducible refine Grows.alloc ?_ _) | (with_reducible refine Grows.drew ?_) | (with_reducible refine Grows.ext ?_ _ _))) hg2; obtain ⟨a0, a1, a2, a3⟩ := (HB0.out.grows hgW).four; obtain ⟨b0, b1, b2, b3⟩ := (HB3.out.grows hgW).four; obtain ⟨d0, d1, d2, d3⟩ := (HB3.out.grows hgW).four'; have hl0 := (HB0.out.grows hgW).lt; have hl3 := (HB3.out.grows hgW).lt))
  all_goals (try (exfalso; omega))
  refine ret_cell_tmp (t := 25) (n := w.heap.size + 1) (cs := #[.int .i64 0, .int .i64 0, .slice none 0 0, .slice none 0 0]) rfl rfl rfl ?_ Try.underlying25 rfl (by kernel_rfl) rfl ?_
  · exact (HB3.out.grows hgW).set4
  · exact EdResI.zero (Grows.set4 (HG1.out.trans hgW) (by omega) _ _ _ _) _
set_option maxHeartbeats 4000000 in
theorem close_nopane {S : Nat → Prop} (L : Lay) (pane : Int) (hr : rightL L = true) (hp : pane ∉ panesL L) (vk vw : Value) (w : World) (h : LayAt S w L vk vw) : Calls Try.prog 34 #[.agg #[.int .i64 L.kind, .int .i64 L.pane, vk, vw], .int .i64 pane] w (fun e w' => EdResI S w w' (zeroL, 441) e) := by
  have hc := chk_yes hr
  obtain ⟨ka, kc, e1, -⟩ := h.kids.shape rfl
  obtain ⟨wa, wc, e2, -⟩ := h.ints.shape rfl
  subst e1 e2
  have HC := Lib.hid fun W (g : Grows w W) => checked (h.grows g)
  rw [hc] at HC
  have HP := Lib.hid fun W (g : Grows w W) => panesP_yes L hr _ _ W (h.grows g)
  clear h hc hr
  generalize L.kids.length = kn at *
  generalize L.ws.length = wn at *
  generalize panesL L = pl at *
  go_enter Try.func34, Try.ntmps34
  go_upto_region 1 with fail
  refine abs_worldM (fun W' => Grows w W' ∧ Blk W' w.heap.size 25 #[.int .i64 L.kind, .int .i64 L.pane, .slice ka kn kc, .slice wa wn wc] ∧ Blk W' (w.heap.size + 1) 25 #[.int .i64 0, .int .i64 0, .slice none 0 0, .slice none 0 0]) (boxes2 _ _ _) ?_
  rintro W1 ⟨hg1, hb0, hb3⟩
  obtain ⟨a0, a1, a2, a3⟩ := hb0.four
  obtain ⟨b0, b1, b2, b3⟩ := hb3.four
  obtain ⟨d0, d1, d2, d3⟩ := hb3.four'
  have hl0 := hb0.lt
  have hl3 := hb3.lt
  have HB0 := Lib.hid hb0
  have HB3 := Lib.hid hb3
  have HG1 := Lib.hid hg1
  clear hb0 hb3 hg1
  go_wp2_with (first | (go_at_call 20; (go_must (with_reducible refine (HP.out _ (HG1.out.trans (by repeat' (first | (with_reducible exact hgW) | (with_reducible exact Grows.refl _) | (with_reducible refine Grows.alloc ?_ _) | (with_reducible refine Grows.drew ?_) | (with_reducible refine Grows.ext ?_ _ _))))).mono ?_)); rintro e w2 ⟨v2, rfl, hv2, hg2⟩; have hgW : Grows W1 w2 := Grows.trans (by repeat' (first | (with_reducible exact hgW) | (with_reducible exact Grows.refl _) | (with_reducible refine Grows.alloc ?_ _) | (with_reducible refine Grows.drew ?_) | (with_reducible refine Grows.ext ?_ _ _))) hg2; obtain ⟨a0, a1, a2, a3⟩ := (HB0.out.grows hgW).four; obtain ⟨b0, b1, b2, b3⟩ := (HB3.out.grows hgW).four; obtain ⟨d0, d1, d2, d3⟩ := (HB3.out.grows hgW).four'; have hl0 := (HB0.out.grows hgW).lt; have hl3 := (HB3.out.grows hgW).lt) | (go_at_call 16; (go_must (with_reducible refine (HC.out _ (HG1.out.trans (by repeat' (first | (with_reducible exact hgW) | (with_reducible exact Grows.refl _) | (with_reducible refine Grows.alloc ?_ _) | (with_reducible refine Grows.drew ?_) | (with_reducible refine Grows.ext ?_ _ _))))).mono ?_)); rintro e w3 ⟨rfl, hg3⟩; have hv3 := hv2.grows (Grows.trans (by repeat' (first | (with_reducible exact Grows.refl _) | (with_reducible refine Grows.alloc ?_ _) | (with_reducible refine Grows.drew ?_) | (with_reducible refine Grows.ext ?_ _ _))) hg3); have hgW2 := hgW; clear hgW; have hgW : Grows W1 w3 := hgW2.trans (Grows.trans (by repeat' (first | (with_reducible exact Grows.refl _) | (with_reducible refine Grows.alloc ?_ _) | (with_reducible refine Grows.drew ?_) | (with_reducible refine Grows.ext ?_ _ _))) hg3); obtain ⟨a0, a1, a2, a3⟩ := (HB0.out.grows hgW).four; obtain ⟨b0, b1, b2, b3⟩ := (HB3.out.grows hgW).four; obtain ⟨d0, d1, d2, d3⟩ := (HB3.out.grows hgW).four'; have hl0 := (HB0.out.grows hgW).lt; have hl3 := (HB3.out.grows hgW).lt) | (go_at_call 55; (go_must (with_reducible refine (contains_any _ _ _ _ (hv3.grows (by repeat' (first | (with_reducible exact Grows.refl _) | (with_reducible refine Grows.alloc ?_ _) | (with_reducible refine Grows.drew ?_) | (with_reducible refine Grows.ext ?_ _ _))))).mono ?_)); rintro e w4 ⟨rfl, rfl⟩))
  all_goals (try (exfalso; omega))
  refine ret_cell_tmp (t := 25) (n := w.heap.size + 1) (cs := #[.int .i64 0, .int .i64 0, .slice none 0 0, .slice none 0 0]) rfl rfl rfl ?_ Try.underlying25 rfl (by kernel_rfl) rfl ?_
  · exact (HB3.out.grows hgW).set4
  · exact EdResI.zero (Grows.set4 (HG1.out.trans hgW) (by omega) _ _ _ _) _
set_option maxHeartbeats 4000000 in
theorem close_last {S : Nat → Prop} (L : Lay) (pane : Int) (hr : rightL L = true) (hp : pane ∈ panesL L) (h4 : (panesL L).length = 1) (vk vw : Value) (w : World) (h : LayAt S w L vk vw) : Calls Try.prog 34 #[.agg #[.int .i64 L.kind, .int .i64 L.pane, vk, vw], .int .i64 pane] w (fun e w' => EdResI S w w' (zeroL, 7) e) := by
  have hc := chk_yes hr
  obtain ⟨ka, kc, e1, -⟩ := h.kids.shape rfl
  obtain ⟨wa, wc, e2, -⟩ := h.ints.shape rfl
  subst e1 e2
  have HC := Lib.hid fun W (g : Grows w W) => checked (h.grows g)
  rw [hc] at HC
  have HP := Lib.hid fun W (g : Grows w W) => panesP_yes L hr _ _ W (h.grows g)
  clear h hc hr
  generalize L.kids.length = kn at *
  generalize L.ws.length = wn at *
  generalize panesL L = pl at *
  go_enter Try.func34, Try.ntmps34
  go_upto_region 1 with fail
  refine abs_worldM (fun W' => Grows w W' ∧ Blk W' w.heap.size 25 #[.int .i64 L.kind, .int .i64 L.pane, .slice ka kn kc, .slice wa wn wc] ∧ Blk W' (w.heap.size + 1) 25 #[.int .i64 0, .int .i64 0, .slice none 0 0, .slice none 0 0]) (boxes2 _ _ _) ?_
  rintro W1 ⟨hg1, hb0, hb3⟩
  obtain ⟨a0, a1, a2, a3⟩ := hb0.four
  obtain ⟨b0, b1, b2, b3⟩ := hb3.four
  obtain ⟨d0, d1, d2, d3⟩ := hb3.four'
  have hl0 := hb0.lt
  have hl3 := hb3.lt
  have HB0 := Lib.hid hb0
  have HB3 := Lib.hid hb3
  have HG1 := Lib.hid hg1
  clear hb0 hb3 hg1
  go_wp2_with (first | (go_at_call 20; (go_must (with_reducible refine (HP.out _ (HG1.out.trans (by repeat' (first | (with_reducible exact hgW) | (with_reducible exact Grows.refl _) | (with_reducible refine Grows.alloc ?_ _) | (with_reducible refine Grows.drew ?_) | (with_reducible refine Grows.ext ?_ _ _))))).mono ?_)); rintro e w2 ⟨v2, rfl, hv2, hg2⟩; have hgW : Grows W1 w2 := Grows.trans (by repeat' (first | (with_reducible exact hgW) | (with_reducible exact Grows.refl _) | (with_reducible refine Grows.alloc ?_ _) | (with_reducible refine Grows.drew ?_) | (with_reducible refine Grows.ext ?_ _ _))) hg2; obtain ⟨a0, a1, a2, a3⟩ := (HB0.out.grows hgW).four; obtain ⟨b0, b1, b2, b3⟩ := (HB3.out.grows hgW).four; obtain ⟨d0, d1, d2, d3⟩ := (HB3.out.grows hgW).four'; have hl0 := (HB0.out.grows hgW).lt; have hl3 := (HB3.out.grows hgW).lt; obtain ⟨va, vc, rfl, hvc, -⟩ := hv2.shape h4) | (go_at_call 16; (go_must (with_reducible refine (HC.out _ (HG1.out.trans (by repeat' (first | (with_reducible exact hgW) | (with_reducible exact Grows.refl _) | (with_reducible refine Grows.alloc ?_ _) | (with_reducible refine Grows.drew ?_) | (with_reducible refine Grows.ext ?_ _ _))))).mono ?_)); rintro e w3 ⟨rfl, hg3⟩; have hv3 := hv2.grows (Grows.trans (by repeat' (first | (with_reducible exact Grows.refl _) | (with_reducible refine Grows.alloc ?_ _) | (with_reducible refine Grows.drew ?_) | (with_reducible refine Grows.ext ?_ _ _))) hg3); have hgW2 := hgW; clear hgW; have hgW : Grows W1 w3 := hgW2.trans (Grows.trans (by repeat' (first | (with_reducible exact Grows.refl _) | (with_reducible refine Grows.alloc ?_ _) | (with_reducible refine Grows.drew ?_) | (with_reducible refine Grows.ext ?_ _ _))) hg3); obtain ⟨a0, a1, a2, a3⟩ := (HB0.out.grows hgW).four; obtain ⟨b0, b1, b2, b3⟩ := (HB3.out.grows hgW).four; obtain ⟨d0, d1, d2, d3⟩ := (HB3.out.grows hgW).four'; have hl0 := (HB0.out.grows hgW).lt; have hl3 := (HB3.out.grows hgW).lt) | (go_at_call 55; (go_must (with_reducible refine (contains_any _ _ _ _ (hv3.grows (by repeat' (first | (with_reducible exact Grows.refl _) | (with_reducible refine Grows.alloc ?_ _) | (with_reducible refine Grows.drew ?_) | (with_reducible refine Grows.ext ?_ _ _))))).mono ?_)); rintro e w4 ⟨rfl, rfl⟩))
  all_goals (try (exfalso; omega))
  refine ret_cell_tmp (t := 25) (n := w.heap.size + 1) (cs := #[.int .i64 0, .int .i64 0, .slice none 0 0, .slice none 0 0]) rfl rfl rfl ?_ Try.underlying25 rfl (by kernel_rfl) rfl ?_
  · exact (HB3.out.grows hgW).set4
  · exact EdResI.zero (Grows.set4 (HG1.out.trans hgW) (by omega) _ _ _ _) _
end Go.Proofs.Ytbobpgegkmcapaa

namespace Go.Proofs.Ytbobpgegkmcapaa
open Go.RowKit

theorem even_no {S : Nat → Prop} (L : Lay) (hr : rightL L = false) (vk vw : Value) (w : World) (h : LayAt S w L vk vw) : Calls Try.prog 31 #[.agg #[.int .i64 L.kind, .int .i64 L.pane, vk, vw]] w (fun e w' => EdResI S w w' (zeroL, 440) e) := by
  have hc := chk_no hr
  obtain ⟨ka, kc, e1, -⟩ := h.kids.shape rfl
  obtain ⟨wa, wc, e2, -⟩ := h.ints.shape rfl
  subst e1 e2
  have HC := Lib.hid fun W (g : Grows w W) => checked (h.grows g)
  rw [hc] at HC
  clear h hc hr
  generalize L.kids.length = kn at *
  generalize L.ws.length = wn at *
  go_enter Try.func31, Try.ntmps31
  go_upto_region 1 with fail
  refine abs_worldM (fun W' => Grows w W' ∧ Blk W' w.heap.size 25 #[.int .i64 L.kind, .int .i64 L.pane, .slice ka kn kc, .slice wa wn wc] ∧ Blk W' (w.heap.size + 1) 25 #[.int .i64 0, .int .i64 0, .slice none 0 0, .slice none 0 0]) (boxes2 _ _ _) ?_
  rintro W1 ⟨hg1, hb0, hb3⟩
  obtain ⟨a0, a1, a2, a3⟩ := hb0.four
  obtain ⟨b0, b1, b2, b3⟩ := hb3.four
  obtain ⟨d0, d1, d2, d3⟩ := hb3.four'
  have hl0 := hb0.lt
  have hl3 := hb3.lt
  have HB0 := Lib.hid hb0
  have HB3 := Lib.hid hb3
  have HG1 := Lib.hid hg1
  clear hb0 hb3 hg1
  go_wp2_with (first | (go_at_call 16; (go_must (with_reducible refine (HC.out _ (HG1.out.trans (by repeat' (first | (with_reducible exact hgW) | (with_reducible exact Grows.refl _) | (with_reducible refine Grows.alloc ?_ _) | (with_reducible refine Grows.drew ?_) | (with_reducible refine Grows.ext ?_ _ _))))).mono ?_)); rintro e w1 ⟨rfl, hg2⟩; have hgW : Grows W1 w1 := Grows.trans (by repeat' (first | (with_reducible exact hgW) | (with_reducible exact Grows.refl _) | (with_reducible refine Grows.alloc ?_ _) | (with_reducible refine Grows.drew ?_) | (with_reducible refine Grows.ext ?_ _ _))) hg2; obtain ⟨a0, a1, a2, a3⟩ := (HB0.out.grows hgW).four; obtain ⟨b0, b1, b2, b3⟩ := (HB3.out.grows hgW).four; obtain ⟨d0, d1, d2, d3⟩ := (HB3.out.grows hgW).four'; have hl0 := (HB0.out.grows hgW).lt; have hl3 := (HB3.out.grows hgW).lt))
  refine ret_cell_tmp (t := 25) (n := w.heap.size + 1) (cs := #[.int .i64 0, .int .i64 0, .slice none 0 0, .slice none 0 0]) rfl rfl rfl ?_ Try.underlying25 rfl (by kernel_rfl) rfl ?_
  · exact (HB3.out.grows hgW).set4
  · exact EdResI.zero (Grows.set4 (HG1.out.trans hgW) (by omega) _ _ _ _) _
set_option maxHeartbeats 4000000 in
theorem swap_no {S : Nat → Prop} (L : Lay) (x y : Int) (hr : rightL L = false) (vk vw : Value) (w : World) (h : LayAt S w L vk vw) : Calls Try.prog 32 #[.agg #[.int .i64 L.kind, .int .i64 L.pane, vk, vw], .int .i64 x, .int .i64 y] w (fun e w' => EdResI S w w' (zeroL, 440) e) := by
  have hc := chk_no hr
  obtain ⟨ka, kc, e1, -⟩ := h.kids.shape rfl
  obtain ⟨wa, wc, e2, -⟩ := h.ints.shape rfl
  subst e1 e2
  have HC := Lib.hid fun W (g : Grows w W) => checked (h.grows g)
  rw [hc] at HC
  clear h hc hr
  generalize L.kids.length = kn at *
  generalize L.ws.length = wn at *
  go_enter Try.func32, Try.ntmps32
  go_upto_region 1 with fail
  refine abs_worldM (fun W' => Grows w W' ∧ Blk W' w.heap.size 25 #[.int .i64 L.kind, .int .i64 L.pane, .slice ka kn kc, .slice wa wn wc] ∧ Blk W' (w.heap.size + 1) 3 #[.int .i64 x] ∧ Blk W' (w.heap.size + 1 + 1) 3 #[.int .i64 y] ∧ Blk W' (w.heap.size + 1 + 1 + 1) 25 #[.int .i64 0, .int .i64 0, .slice none 0 0, .slice none 0 0]) (boxes4 _ _ _ _ _) ?_
  rintro W1 ⟨hg1, hb0, hb1, hb2, hb3⟩
  obtain ⟨a0, a1, a2, a3⟩ := hb0.four
  obtain ⟨k0, -⟩ := hb1.one
  obtain ⟨k1, -⟩ := hb2.one
  obtain ⟨b0, b1, b2, b3⟩ := hb3.four
  obtain ⟨d0, d1, d2, d3⟩ := hb3.four'
  have hl0 := hb0.lt
  have hl1 := hb1.lt
  have hl2 := hb2.lt
  have hl3 := hb3.lt
  have HB0 := Lib.hid hb0
  have HB1 := Lib.hid hb1
  have HB2 := Lib.hid hb2
  have HB3 := Lib.hid hb3
  have HG1 := Lib.hid hg1
  clear hb0 hb1 hb2 hb3 hg1
  go_wp2_with (first | (go_at_call 16; (go_must (with_reducible refine (HC.out _ (HG1.out.trans (by repeat' (first | (with_reducible exact hgW) | (with_reducible exact Grows.refl _) | (with_reducible refine Grows.alloc ?_ _) | (with_reducible refine Grows.drew ?_) | (with_reducible refine Grows.ext ?_ _ _))))).mono ?_)); rintro e w1 ⟨rfl, hg2⟩; have hgW : Grows W1 w1 := Grows.trans (by repeat' (first | (with_reducible exact hgW) | (with_reducible exact Grows.refl _) | (with_reducible refine Grows.alloc ?_ _) | (with_reducible refine Grows.drew ?_) | (with_reducible refine Grows.ext ?_ _ _))) hg2; obtain ⟨a0, a1, a2, a3⟩ := (HB0.out.grows hgW).four; obtain ⟨k0, -⟩ := (HB1.out.grows hgW).one; obtain ⟨k1, -⟩ := (HB2.out.grows hgW).one; obtain ⟨b0, b1, b2, b3⟩ := (HB3.out.grows hgW).four; obtain ⟨d0, d1, d2, d3⟩ := (HB3.out.grows hgW).four'; have hl0 := (HB0.out.grows hgW).lt; have hl1 := (HB1.out.grows hgW).lt; have hl2 := (HB2.out.grows hgW).lt; have hl3 := (HB3.out.grows hgW).lt))
  refine ret_cell_tmp (t := 25) (n := w.heap.size + 1 + 1 + 1) (cs := #[.int .i64 0, .int .i64 0, .slice none 0 0, .slice none 0 0]) rfl rfl rfl ?_ Try.underlying25 rfl (by kernel_rfl) rfl ?_
  · exact (HB3.out.grows hgW).set4
  · exact EdResI.zero (Grows.set4 (HG1.out.trans hgW) (by omega) _ _ _ _) _
set_option maxHeartbeats 4000000 in
theorem swap_nopane1 {S : Nat → Prop} (L : Lay) (x y : Int) (hr : rightL L = true) (hp : x ∉ panesL L) (vk vw : Value) (w : World) (h : LayAt S w L vk vw) : Calls Try.prog 32 #[.agg #[.int .i64 L.kind, .int .i64 L.pane, vk, vw], .int .i64 x, .int .i64 y] w (fun e w' => EdResI S w w' (zeroL, 441) e) := by
  obtain ⟨hok, hn, -⟩ := right_ok hr
  have hc := chk_yes hr
  obtain ⟨ka, kc, e1, -⟩ := h.kids.shape rfl
  obtain ⟨wa, wc, e2, -⟩ := h.ints.shape rfl
  subst e1 e2
  have HC := Lib.hid fun W (g : Grows w W) => checked (h.grows g)
  rw [hc] at HC
  have HP := Lib.hid fun W (g : Grows w W) => panes_any L hok (by omega) _ _ W (h.grows g)
  clear h hok hn hc hr
  generalize L.kids.length = kn at *
  generalize L.ws.length = wn at *
  generalize panesL L = pl at *
  go_enter Try.func32, Try.ntmps32
  go_upto_region 1 with fail
  refine abs_worldM (fun W' => Grows w W' ∧ Blk W' w.heap.size 25 #[.int .i64 L.kind, .int .i64 L.pane, .slice ka kn kc, .slice wa wn wc] ∧ Blk W' (w.heap.size + 1) 3 #[.int .i64 x] ∧ Blk W' (w.heap.size + 1 + 1) 3 #[.int .i64 y] ∧ Blk W' (w.heap.size + 1 + 1 + 1) 25 #[.int .i64 0, .int .i64 0, .slice none 0 0, .slice none 0 0]) (boxes4 _ _ _ _ _) ?_
  rintro W1 ⟨hg1, hb0, hb1, hb2, hb3⟩
  obtain ⟨a0, a1, a2, a3⟩ := hb0.four
  obtain ⟨k0, -⟩ := hb1.one
  obtain ⟨k1, -⟩ := hb2.one
  obtain ⟨b0, b1, b2, b3⟩ := hb3.four
  obtain ⟨d0, d1, d2, d3⟩ := hb3.four'
  have hl0 := hb0.lt
  have hl1 := hb1.lt
  have hl2 := hb2.lt
  have hl3 := hb3.lt
  have HB0 := Lib.hid hb0
  have HB1 := Lib.hid hb1
  have HB2 := Lib.hid hb2
  have HB3 := Lib.hid hb3
  have HG1 := Lib.hid hg1
  clear hb0 hb1 hb2 hb3 hg1
  go_wp2_with (first | (go_at_call 16; (go_must (with_reducible refine (HC.out _ (HG1.out.trans (by repeat' (first | (with_reducible exact hgW) | (with_reducible exact Grows.refl _) | (with_reducible refine Grows.alloc ?_ _) | (with_reducible refine Grows.drew ?_) | (with_reducible refine Grows.ext ?_ _ _))))).mono ?_)); rintro e w1 ⟨rfl, hg2⟩; have hgW : Grows W1 w1 := Grows.trans (by repeat' (first | (with_reducible exact hgW) | (with_reducible exact Grows.refl _) | (with_reducible refine Grows.alloc ?_ _) | (with_reducible refine Grows.drew ?_) | (with_reducible refine Grows.ext ?_ _ _))) hg2; obtain ⟨a0, a1, a2, a3⟩ := (HB0.out.grows hgW).four; obtain ⟨k0, -⟩ := (HB1.out.grows hgW).one; obtain ⟨k1, -⟩ := (HB2.out.grows hgW).one; obtain ⟨b0, b1, b2, b3⟩ := (HB3.out.grows hgW).four; obtain ⟨d0, d1, d2, d3⟩ := (HB3.out.grows hgW).four'; have hl0 := (HB0.out.grows hgW).lt; have hl1 := (HB1.out.grows hgW).lt; have hl2 := (HB2.out.grows hgW).lt; have hl3 := (HB3.out.grows hgW).lt) | (go_at_call 48; (go_must (with_reducible refine (HP.out _ (HG1.out.trans (by repeat' (first | (with_reducible exact hgW) | (with_reducible exact Grows.refl _) | (with_reducible refine Grows.alloc ?_ _) | (with_reducible refine Grows.drew ?_) | (with_reducible refine Grows.ext ?_ _ _))))).mono ?_)); rintro e w2 ⟨v2, rfl, hv3, hg3⟩; have hgW2 := hgW; clear hgW; have hgW : Grows W1 w2 := Grows.trans (hgW2.trans (by repeat' (first | (with_reducible exact Grows.refl _) | (with_reducible refine Grows.alloc ?_ _) | (with_reducible refine Grows.drew ?_) | (with_reducible refine Grows.ext ?_ _ _)))) hg3; obtain ⟨a0, a1, a2, a3⟩ := (HB0.out.grows hgW).four; obtain ⟨k0, -⟩ := (HB1.out.grows hgW).one; obtain ⟨k1, -⟩ := (HB2.out.grows hgW).one; obtain ⟨b0, b1, b2, b3⟩ := (HB3.out.grows hgW).four; obtain ⟨d0, d1, d2, d3⟩ := (HB3.out.grows hgW).four'; have hl0 := (HB0.out.grows hgW).lt; have hl1 := (HB1.out.grows hgW).lt; have hl2 := (HB2.out.grows hgW).lt; have hl3 := (HB3.out.grows hgW).lt) | (go_at_call 55; (go_must (with_reducible refine (contains_any _ _ _ _ (hv3.grows (by repeat' (first | (with_reducible exact Grows.refl _) | (with_reducible refine Grows.alloc ?_ _) | (with_reducible refine Grows.drew ?_) | (with_reducible refine Grows.ext ?_ _ _))))).mono ?_)); rintro e w4 ⟨rfl, rfl⟩))
  all_goals (try (exfalso; omega))
  refine ret_cell_tmp (t := 25) (n := w.heap.size + 1 + 1 + 1) (cs := #[.int .i64 0, .int .i64 0, .slice none 0 0, .slice none 0 0]) rfl rfl rfl ?_ Try.underlying25 rfl (by kernel_rfl) rfl ?_
  · exact (HB3.out.grows hgW).set4
  · exact EdResI.zero (Grows.set4 (HG1.out.trans hgW) (by omega) _ _ _ _) _
set_option maxHeartbeats 4000000 in
theorem swap_nopane2 {S : Nat → Prop} (L : Lay) (x y : Int) (hr : rightL L = true) (hp : x ∈ panesL L) (hp2 : y ∉ panesL L) (vk vw : Value) (w : World) (h : LayAt S w L vk vw) : Calls Try.prog 32 #[.agg #[.int .i64 L.kind, .int .i64 L.pane, vk, vw], .int .i64 x, .int .i64 y] w (fun e w' => EdResI S w w' (zeroL, 441) e) := by
  obtain ⟨hok, hn, -⟩ := right_ok hr
  have hc := chk_yes hr
  obtain ⟨ka, kc, e1, -⟩ := h.kids.shape rfl
  obtain ⟨wa, wc, e2, -⟩ := h.ints.shape rfl
  subst e1 e2
  have HC := Lib.hid fun W (g : Grows w W) => checked (h.grows g)
  rw [hc] at HC
  have HP := Lib.hid fun W (g : Grows w W) => panes_any L hok (by omega) _ _ W (h.grows g)
  clear h hok hn hc hr
  generalize L.kids.length = kn at *
  generalize L.ws.length = wn at *
  generalize panesL L = pl at *
  go_enter Try.func32, Try.ntmps32
  go_upto_region 1 with fail
  refine abs_worldM (fun W' => Grows w W' ∧ Blk W' w.heap.size 25 #[.int .i64 L.kind, .int .i64 L.pane, .slice ka kn kc, .slice wa wn wc] ∧ Blk W' (w.heap.size + 1) 3 #[.int .i64 x] ∧ Blk W' (w.heap.size + 1 + 1) 3 #[.int .i64 y] ∧ Blk W' (w.heap.size + 1 + 1 + 1) 25 #[.int .i64 0, .int .i64 0, .slice none 0 0, .slice none 0 0]) (boxes4 _ _ _ _ _) ?_
  rintro W1 ⟨hg1, hb0, hb1, hb2, hb3⟩
  obtain ⟨a0, a1, a2, a3⟩ := hb0.four
  obtain ⟨k0, -⟩ := hb1.one
  obtain ⟨k1, -⟩ := hb2.one
  obtain ⟨b0, b1, b2, b3⟩ := hb3.four
  obtain ⟨d0, d1, d2, d3⟩ := hb3.four'
  have hl0 := hb0.lt
  have hl1 := hb1.lt
  have hl2 := hb2.lt
  have hl3 := hb3.lt
  have HB0 := Lib.hid hb0
  have HB1 := Lib.hid hb1
  have HB2 := Lib.hid hb2
  have HB3 := Lib.hid hb3
  have HG1 := Lib.hid hg1
  clear hb0 hb1 hb2 hb3 hg1
  go_wp2_with (first | (go_at_call 16; (go_must (with_reducible refine (HC.out _ (HG1.out.trans (by repeat' (first | (with_reducible exact hgW) | (with_reducible exact Grows.refl _) | (with_reducible refine Grows.alloc ?_ _) | (with_reducible refine Grows.drew ?_) | (with_reducible refine Grows.ext ?_ _ _))))).mono ?_)); rintro e w1 ⟨rfl, hg2⟩; have hgW : Grows W1 w1 := Grows.trans (by repeat' (first | (with_reducible exact hgW) | (with_reducible exact Grows.refl _) | (with_reducible refine Grows.alloc ?_ _) | (with_reducible refine Grows.drew ?_) | (with_reducible refine Grows.ext ?_ _ _))) hg2; obtain ⟨a0, a1, a2, a3⟩ := (HB0.out.grows hgW).four; obtain ⟨k0, -⟩ := (HB1.out.grows hgW).one; obtain ⟨k1, -⟩ := (HB2.out.grows hgW).one; obtain ⟨b0, b1, b2, b3⟩ := (HB3.out.grows hgW).four; obtain ⟨d0, d1, d2, d3⟩ := (HB3.out.grows hgW).four'; have hl0 := (HB0.out.grows hgW).lt; have hl1 := (HB1.out.grows hgW).lt; have hl2 := (HB2.out.grows hgW).lt; have hl3 := (HB3.out.grows hgW).lt) | (go_at_call 48; (go_must (with_reducible refine (HP.out _ (HG1.out.trans (by repeat' (first | (with_reducible exact hgW) | (with_reducible exact Grows.refl _) | (with_reducible refine Grows.alloc ?_ _) | (with_reducible refine Grows.drew ?_) | (with_reducible refine Grows.ext ?_ _ _))))).mono ?_)); rintro e w2 ⟨v2, rfl, hv3, hg3⟩; have hgW2 := hgW; clear hgW; have hgW : Grows W1 w2 := Grows.trans (hgW2.trans (by repeat' (first | (with_reducible exact Grows.refl _) | (with_reducible refine Grows.alloc ?_ _) | (with_reducible refine Grows.drew ?_) | (with_reducible refine Grows.ext ?_ _ _)))) hg3; obtain ⟨a0, a1, a2, a3⟩ := (HB0.out.grows hgW).four; obtain ⟨k0, -⟩ := (HB1.out.grows hgW).one; obtain ⟨k1, -⟩ := (HB2.out.grows hgW).one; obtain ⟨b0, b1, b2, b3⟩ := (HB3.out.grows hgW).four; obtain ⟨d0, d1, d2, d3⟩ := (HB3.out.grows hgW).four'; have hl0 := (HB0.out.grows hgW).lt; have hl1 := (HB1.out.grows hgW).lt; have hl2 := (HB2.out.grows hgW).lt; have hl3 := (HB3.out.grows hgW).lt) | (go_at_call 55; (go_must (with_reducible refine (contains_any _ _ _ _ (hv3.grows (by repeat' (first | (with_reducible exact Grows.refl _) | (with_reducible refine Grows.alloc ?_ _) | (with_reducible refine Grows.drew ?_) | (with_reducible refine Grows.ext ?_ _ _))))).mono ?_)); rintro e w4 ⟨rfl, rfl⟩))
  all_goals (try (exfalso; omega))
  refine ret_cell_tmp (t := 25) (n := w.heap.size + 1 + 1 + 1) (cs := #[.int .i64 0, .int .i64 0, .slice none 0 0, .slice none 0 0]) rfl rfl rfl ?_ Try.underlying25 rfl (by kernel_rfl) rfl ?_
  · exact (HB3.out.grows hgW).set4
  · exact EdResI.zero (Grows.set4 (HG1.out.trans hgW) (by omega) _ _ _ _) _
end Go.Proofs.Ytbobpgegkmcapaa

