/-
  Walks: Resize.
-/
import Derived.Test.YtkkhcpddpnhemaaRows
import Derived.Test.YtkkhcpddpnhemaaLt
import Derived.Test.YtkkhcpddpnhemaaDefs
import Derived.Test.YtkkhcpddpnhemaaOwn
import Derived.Test.YtkkhcpddpnhemaaW1
import Derived.Test.YtkkhcpddpnhemaaW2
import Derived.Test.YtkkhcpddpnhemaaW3
import Derived.Test.YtkkhcpddpnhemaaW4
import Derived.WalkKit
import Derived.OwnWalk
import Derived.Laws.CopyOwn
import Derived.WalkSpells
import Derived.WalkLawsBesides
import Derived.Handy
import Derived.Outline
import Derived.Lib.Hide
import Derived.Deep.Light
import Derived.Deep.LoopGhost
import Derived.BigGuardPart
import Derived.BigQuiet
import Derived.Deep.QuietTactic
import Derived.Deep.DeepCutAuto
import Derived.Test.YtkkhcpddpnhemaaReg
namespace Go.Proofs.Ytkkhcpddpnhemaa
open Go.RowKit


/-- Tabs of another width. -/
def rsL (l : List Bool) (c : Nat) : List Bool := (l ++ (newL c).drop l.length).take c
@[simp] theorem rsL_length (l : List Bool) (c : Nat) : (rsL l c).length = c := by
  simp [rsL]
  omega
/-- What the reference's loop has copied after k rounds. -/
def rsT (l : List Bool) (c k : Nat) : List Bool := l.take k ++ (newL c).drop k
theorem rsT_zero (l : List Bool) (c : Nat) : rsT l c 0 = newL c := by simp [rsT]
theorem rsT_length {l : List Bool} {c k : Nat} (h : k ≤ l.length) (h2 : k ≤ c) : (rsT l c k).length = c := by
  simp [rsT]
  omega
theorem rsT_succ {l : List Bool} {c k : Nat} (h : k < l.length) (h2 : k < c) : (rsT l c k).set k (l[k]?.getD false) = rsT l c (k + 1) := by
  apply List.ext_getElem
  · rw [List.length_set, rsT_length (by omega) (by omega), rsT_length (by omega) (by omega)]
  · intro i h3 h4
    rw [rsT_length (by omega) (by omega)] at h4
    simp only [rsT, List.getElem_set, List.getElem_append, List.length_take, List.getElem_take, List.getElem_drop]
    by_cases hik : k = i
    · subst hik
      rw [if_pos rfl, dif_pos (by omega)]
      simp [h]
    · rw [if_neg hik]
      by_cases hi : i < k
      · rw [dif_pos (by omega), dif_pos (by omega)]
      · rw [dif_neg (by omega), dif_neg (by omega)]
        congr 1
        omega
theorem rsT_all {l : List Bool} {c k : Nat} (h : k = min l.length c) : rsT l c k = rsL l c := by
  apply List.ext_getElem
  · rw [rsT_length (by omega) (by omega), rsL_length]
  · intro i h3 h4
    rw [rsL_length] at h4
    simp only [rsT, rsL, List.getElem_append, List.length_take, List.getElem_take, List.getElem_drop]
    by_cases hi : i < k
    · rw [dif_pos (by omega), dif_pos (by omega)]
    · rw [dif_neg (by omega), dif_neg (by omega)]
      congr 1
      omega
theorem splice_take {α : Type} {L cur M : List α} {k n : Nat} (hL : L.length = k) (hkn : k ≤ n) (ht : cur.take n = M) : (L ++ cur.drop k).take n = L ++ M.drop k := by
  subst ht
  rw [List.take_append, List.take_of_length_le (by omega), List.drop_take, hL]
theorem copied {w : World} {base g : Nat} {l m : List Bool} {k : Nat} (h : Own base w (some ⟨g, 0, none⟩) m) (hk : k = min l.length m.length) :
    ∃ cur : Array Value, w.heap[g]? = some (.cells cur 4 (0, 0)) ∧ base ≤ g ∧ 0 + (l.take k).length ≤ cur.size ∧
      (∀ w', w'.heap[g]? = some (.cells (cur.toList.take 0 ++ ((l.take k).map Value.bool ++ cur.toList.drop (0 + ((l.take k).map Value.bool).length))).toArray 4 (0, 0)) → Own base w' (some ⟨g, 0, none⟩) (l.take k ++ m.drop k)) := by
  obtain ⟨g', cur, e, hb, hh, ht⟩ := h
  cases e
  have hlen : m.length ≤ cur.toList.length := by
    have := congrArg List.length ht
    simp only [List.length_take, List.length_map] at this
    omega
  have hkl : (l.take k).length = k := by simp; omega
  refine ⟨cur, hh, hb, by rw [hkl]; simp at hlen; omega, fun w' hw => ⟨g, _, rfl, hb, hw, ?_⟩⟩
  rw [List.length_map] at ht
  have hL : ((l.take k).map Value.bool).length = k := by rw [List.length_map, hkl]
  have hT : ((l.take k ++ m.drop k).map Value.bool).length = m.length := by
    simp only [List.length_map, List.length_append, List.length_drop, hkl]
    omega
  rw [hT, List.take_zero, List.nil_append, Nat.zero_add, hL, List.map_append, List.map_drop]
  exact splice_take hL (by omega) ht
theorem copy_pack {w w1 : World} {b off g n c : Nat} {l : List Bool} (hl : l.length = n) (G1 : Grows w w1) (hb : b < w.heap.size) (hc : ∀ j, j < l.length → w.cell? ⟨b, off + j, none⟩ = some (.bool (l[j]?.getD false))) (HO : Own w.heap.size w1 (some ⟨g, 0, none⟩) (newL c)) :
    ∃ cur : Array Value, Hid (w1.heap[g]? = some (.cells cur 4 (0, 0))) ∧ Hid (0 + ((l.take (min n c)).map Value.bool).length ≤ cur.size) ∧ Hid (((l.take (min n c)).map Value.bool).length = Nat.min n c) ∧
      Hid (∀ (j : Nat) (v : Value), ((l.take (min n c)).map Value.bool)[j]? = some v → w1.cell? ((⟨b, off, none⟩ : Addr).add j) = some v) ∧ Hid (∀ v ∈ (l.take (min n c)).map Value.bool, v.oneCell' = true) ∧
      Hid (∀ X, X = (cur.toList.take 0 ++ ((l.take (min n c)).map Value.bool ++ cur.toList.drop (0 + ((l.take (min n c)).map Value.bool).length))).toArray → Own w.heap.size (w1.setRow g X) (some ⟨g, 0, none⟩) (rsL l c) ∧ Grows w (w1.setRow g X)) := by
  obtain ⟨cur, hh, hbg, hfit, hfin⟩ := copied (l := l) (k := min n c) HO (by rw [hl]; simp)
  refine ⟨cur, Lib.hid hh, Lib.hid (by rw [List.length_map]; exact hfit), Lib.hid (by simp [hl]), Lib.hid ?_, Lib.hid (bools_one _), Lib.hid ?_⟩
  · intro j v hj
    have hj2 : j < min n c := by
      have := (List.getElem?_eq_some_iff.1 hj).1
      simp at this
      omega
    have hj' : j < l.length := by omega
    rw [show (⟨b, off, none⟩ : Addr).add j = ⟨b, off + j, none⟩ from by unfold Addr.add; split <;> simp_all]
    rw [G1.below.cell (p := ⟨b, off + j, none⟩) hb, hc j hj', ← hj]
    simp [hj', hj2]
  · rintro X rfl
    refine ⟨?_, Grows.of_below (below_setRow G1.below hbg _)⟩
    rw [← rsT_all (k := min n c) (by rw [hl])]
    exact hfin _ (setRow_heap _ _ _ _ _ _ hh)
theorem resize_t (a : Option Addr) (n cap : Nat) (c : Int) (w : World) (h : ¬ (2 ≤ n ∧ n ≤ 80)) : Calls Try.prog 21 #[.slice a n cap, .int .i64 c] w fun e w' => e = .returned (.tuple #[.slice none 0 0, .int .i64 240]) ∧ w = w' := by
  have hr := check_any a n cap
  rw [tErr_no h] at hr
  have Hr := Lib.hid hr
  clear hr h
  go_enter Try.func21, Try.ntmps21
  go_wp2_with (go_at_call 28; refine (Hr.out _).mono ?_; rintro e w' ⟨rfl, rfl⟩)
  go_ret2
  exact ⟨rfl, rfl⟩
theorem rresize_t (a : Option Addr) (n cap : Nat) (c : Int) (w : World) (h : ¬ (2 ≤ n ∧ n ≤ 80)) : Calls Try.prog 22 #[.slice a n cap, .int .i64 c] w fun e w' => e = .returned (.tuple #[.slice none 0 0, .int .i64 240]) ∧ w = w' := by
  have hr := right_any a n cap
  rw [tOk_no h] at hr
  have Hr := Lib.hid hr
  clear hr h
  go_enter Try.func22, Try.ntmps22
  go_wp2_with (go_at_call 35; refine (Hr.out _).mono ?_; rintro e w' ⟨rfl, rfl⟩)
  go_ret2
  exact ⟨rfl, rfl⟩
theorem resize_c (a : Option Addr) (n cap : Nat) (c : Int) (w : World) (h : 2 ≤ n ∧ n ≤ 80) (hc : ¬ (2 ≤ c ∧ c ≤ 80)) : Calls Try.prog 21 #[.slice a n cap, .int .i64 c] w fun e w' => e = .returned (.tuple #[.slice none 0 0, .int .i64 2]) ∧ w = w' := by
  have hr := check_any a n cap
  rw [tErr_ok h] at hr
  have Hr := Lib.hid hr
  have Hn := Lib.hid fun W => new_no c W hc
  clear hr h hc
  go_enter Try.func21, Try.ntmps21
  go_wp2_with (first | (go_at_call 28; refine (Hr.out _).mono ?_; rintro e w' ⟨rfl, rfl⟩) | (go_at_call 26; refine (Hn.out _).mono ?_; rintro e w' ⟨rfl, rfl⟩) | (with_reducible refine wpList_copy_nothing rfl (.tmp 19) (.tmp 20) 23 23 rfl 4 Try.underlying23 (by kernel_rfl) none a 0 0 n cap rfl rfl (by simp) ?_))
  go_ret2
  exact ⟨rfl, rfl⟩
theorem rresize_c (a : Option Addr) (n cap : Nat) (c : Int) (w : World) (h : 2 ≤ n ∧ n ≤ 80) (hc : ¬ (2 ≤ c ∧ c ≤ 80)) : Calls Try.prog 22 #[.slice a n cap, .int .i64 c] w fun e w' => e = .returned (.tuple #[.slice none 0 0, .int .i64 2]) ∧ w = w' := by
  have hr := right_any a n cap
  rw [tOk_ok h] at hr
  have Hr := Lib.hid hr
  have Hn := Lib.hid fun W => rnew_no c W hc
  clear hr h hc
  go_enter Try.func22, Try.ntmps22
  go_wp2_with (first | (go_at_call 35; refine (Hr.out _).mono ?_; rintro e w' ⟨rfl, rfl⟩) | (go_at_call 27; refine (Hn.out _).mono ?_; rintro e w' ⟨rfl, rfl⟩))
  go_ret2
  exact ⟨rfl, rfl⟩
set_option maxHeartbeats 1000000 in
theorem resize_ok (a : Option Addr) (n cap c : Nat) (l : List Bool) (hl : l.length = n) (w : World) (ha : Bs w a l) (h : 2 ≤ n ∧ n ≤ 80) (hc : 2 ≤ c ∧ c ≤ 80) : Calls Try.prog 21 #[.slice a n cap, .int .i64 c] w fun e w' => ∃ b cp, e = .returned (.tuple #[.slice b c cp, .int .i64 0]) ∧ Own w.heap.size w' b (rsL l c) ∧ Grows w w' := by
  have hr := check_any a n cap
  rw [tErr_ok h] at hr
  have Hr := Lib.hid hr
  have Hn := Lib.hid fun W => new_ok c W hc.1 hc.2
  obtain ⟨b, off, rfl, hb, hca⟩ := ha.at (k := 0) (by omega)
  have Hc := Lib.hid hca
  have Hl := Lib.hid hl
  have Hk := Lib.hid hc
  have Hh := Lib.hid h
  clear hr h hca hl hc ha
  go_enter Try.func21, Try.ntmps21
  go_wp2_with (first | (go_at_call 28; refine (Hr.out _).mono ?_; rintro e w' ⟨rfl, rfl⟩) | (go_at_call 26; refine (Hn.out _).mono ?_; rintro e w1 ⟨b2, cp, rfl, HO, G1⟩; obtain ⟨g, rfl⟩ := OwnC.some HO; obtain ⟨cur, HH, HF, HQ, HS, HO1, HN⟩ := copy_pack Hl.out G1 hb Hc.out HO; clear HO) | (with_reducible refine wpList_copy_own rfl (.tmp 19) (.tmp 20) 23 23 rfl 4 Try.underlying23 (by kernel_rfl) g 0 c cp ⟨b, off, none⟩ n cap rfl rfl cur 4 HH.out ((l.take (min n c)).map Value.bool) HQ.out HS.out HF.out HO1.out ?_))
  go_ret2
  exact ⟨_, _, rfl, (HN.out _ (by simp)).1, (HN.out _ (by simp)).2⟩
set_option maxHeartbeats 1000000 in
theorem rresize_ok (a : Option Addr) (n cap c : Nat) (l : List Bool) (hl : l.length = n) (w : World) (ha : Bs w a l) (h : 2 ≤ n ∧ n ≤ 80) (hc : 2 ≤ c ∧ c ≤ 80) : Calls Try.prog 22 #[.slice a n cap, .int .i64 c] w fun e w' => ∃ b cp, e = .returned (.tuple #[.slice b c cp, .int .i64 0]) ∧ Own w.heap.size w' b (rsL l c) ∧ Grows w w' := by
  have hr := right_any a n cap
  rw [tOk_ok h] at hr
  have Hr := Lib.hid hr
  have Hn := Lib.hid fun W => rnew_ok c W hc.1 hc.2
  obtain ⟨b, off, rfl, hb, hca⟩ := ha.at (k := 0) (by omega)
  have Hc := Lib.hid hca
  have Hl := Lib.hid hl
  have Hk := Lib.hid hc
  have Hh := Lib.hid h
  clear hr h hca hl hc ha
  go_enter Try.func22, Try.ntmps22
  go_wp2_with (first | (go_at_call 35; refine (Hr.out _).mono ?_; rintro e w' ⟨rfl, rfl⟩) | (go_at_call 27; refine (Hn.out _).mono ?_; rintro e w1 ⟨b2, cp, rfl, HO, G1⟩; obtain ⟨g, rfl⟩ := OwnC.some HO))
  go_loopw [8] (fun i wr => ∃ k : Nat, k ≤ n ∧ k ≤ c ∧ i = .int .i64 k ∧ Own w.heap.size wr (some ⟨g, 0, none⟩) (rsT l c k) ∧ Grows w wr) (fun i _ => n - (intOf i).toNat)
  case atStart => exact ⟨0, by omega, by omega, rfl, by rw [rsT_zero]; exact HO, G1⟩
  case round =>
    clear HO G1
    obtain ⟨k, hk1, hk2, rfl, HO, G1⟩ := hrel
    have hlen := rsT_length (l := l) (c := c) (k := k) (by have := Hl.out; omega) hk2
    have hb2 := Hk.out
    have hb3 := Hh.out
    obtain ⟨hb4, hb5⟩ := hb2
    obtain ⟨hb6, hb7⟩ := hb3
    by_cases hlt : k < n ∧ k < c
    · obtain ⟨hl1, hl2⟩ := hlt
      obtain ⟨h5, h6, h7, h8⟩ := Own.at HO
      have c1 := h7 k (by omega)
      have f1 := h8 k
      have HT := Lib.hid (rsT_succ (l := l) (c := c) (k := k) (by have := Hl.out; omega) hl2)
      have c2 : wr.cell? ⟨b, off + k, none⟩ = some (.bool (l[k]?.getD false)) := (G1.below.cell (p := ⟨b, off + k, none⟩) hb).trans (Hc.out k (by have := Hl.out; omega))
      generalize l[k]?.getD false = x at *
      generalize (rsT l c k)[k]?.getD false = y at *
      have e1 : decide ((k : Int) < c) = true := by simp; omega
      have e2 : decide ((k : Int) < n) = true := by simp; omega
      clear h7 h8 hlen
      go_wp2
      go_roundw
      case rel => exact ⟨k + 1, by omega, by omega, by go_num, by rw [← HT.out]; exact HO.set x, G1.setCell h5 _⟩
      case measure => simp [intOf]; omega
    · have HL : Own w.heap.size wr (some ⟨g, 0, none⟩) (rsL l c) := by rw [← rsT_all (k := k) (by rw [Hl.out]; omega)]; exact HO
      clear HO hlen
      by_cases hkc : k < c
      · have e1 : decide ((k : Int) < c) = true := by simp; omega
        have e2 : decide (k < n) = false := by simp; omega
        have e3 : decide (k < c) = true := by simp; omega
        clear hlt
        go_wp2
        go_ret2
        exact ⟨_, _, rfl, HL, G1⟩
      · have e1 : decide (k < c) = false := by simp; omega
        clear hlt
        go_wp2
        go_ret2
        exact ⟨_, _, rfl, HL, G1⟩
end Go.Proofs.Ytkkhcpddpnhemaa
