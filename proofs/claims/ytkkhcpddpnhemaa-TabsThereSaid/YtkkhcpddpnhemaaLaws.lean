/-
  What Next and Back answer: the plain laws. No program in sight.
-/
import Derived.Test.YtkkhcpddpnhemaaVis
namespace Go.Proofs.Ytkkhcpddpnhemaa
variable {t : List Bool}
theorem vis_fwd (c m : Nat) : vis (fwd c) t (m + 1) = (if t[c + 1]?.getD false = true then [c + 1] else []) ++ vis (fwd (c + 1)) t m := by
  unfold vis
  rw [List.range_succ_eq_map, List.map_cons, List.map_map, List.filter_cons]
  have e : (fwd c ∘ Nat.succ) = fwd (c + 1) := by
    funext j
    simp only [Function.comp, fwd]
    omega
  rw [e]
  show (if t[c + 1 + 0]?.getD false = true then _ else _) = _
  rw [Nat.add_zero]
  by_cases h : t[c + 1]?.getD false = true
  · rw [if_pos h, if_pos h]
    rfl
  · rw [if_neg h, if_neg h]
    rfl
theorem vis_bwd (c : Nat) : vis (bwd (c + 1)) t (c + 1) = (if t[c]?.getD false = true then [c] else []) ++ vis (bwd c) t c := by
  unfold vis
  rw [List.range_succ_eq_map, List.map_cons, List.map_map, List.filter_cons]
  have e : (bwd (c + 1) ∘ Nat.succ) = bwd c := by
    funext j
    simp only [Function.comp, bwd]
    omega
  rw [e]
  show (if t[c + 1 - 1 - 0]?.getD false = true then _ else _) = _
  rw [show c + 1 - 1 - 0 = c from by omega]
  by_cases h : t[c]?.getD false = true
  · rw [if_pos h, if_pos h]
    rfl
  · rw [if_neg h, if_neg h]
    rfl
theorem fwd_cons : ∀ (m c x : Nat) (R : List Nat), vis (fwd c) t m = x :: R → c < x ∧ x ≤ c + m ∧ t[x]?.getD false = true ∧ R = vis (fwd x) t (c + m - x) ∧ ∀ i, c < i → i < x → t[i]?.getD false = false := by
  intro m
  induction m with
  | zero =>
    intro c x R h
    cases h
  | succ m ih =>
    intro c x R h
    rw [vis_fwd] at h
    by_cases h1 : t[c + 1]?.getD false = true
    · rw [if_pos h1] at h
      simp only [List.cons_append, List.nil_append, List.cons.injEq] at h
      obtain ⟨rfl, rfl⟩ := h
      refine ⟨by omega, by omega, h1, ?_, fun i h2 h3 => by omega⟩
      rw [show c + (m + 1) - (c + 1) = m from by omega]
    · rw [if_neg h1, List.nil_append] at h
      obtain ⟨g1, g2, g3, g4, g5⟩ := ih (c + 1) x R h
      refine ⟨by omega, by omega, g3, by rw [g4]; congr 1; omega, fun i h2 h3 => ?_⟩
      by_cases hi : i = c + 1
      · subst hi
        simpa using h1
      · exact g5 i (by omega) h3
theorem fwd_nil : ∀ (m c : Nat), vis (fwd c) t m = [] → ∀ i, c < i → i ≤ c + m → t[i]?.getD false = false := by
  intro m
  induction m with
  | zero =>
    intro c _ i h1 h2
    omega
  | succ m ih =>
    intro c h i h1 h2
    rw [vis_fwd] at h
    by_cases h3 : t[c + 1]?.getD false = true
    · rw [if_pos h3] at h
      cases h
    · rw [if_neg h3, List.nil_append] at h
      by_cases hi : i = c + 1
      · subst hi
        simpa using h3
      · exact ih (c + 1) h i (by omega) (by omega)
theorem bwd_cons : ∀ (c x : Nat) (R : List Nat), vis (bwd c) t c = x :: R → x < c ∧ t[x]?.getD false = true ∧ R = vis (bwd x) t x ∧ ∀ i, x < i → i < c → t[i]?.getD false = false := by
  intro c
  induction c with
  | zero =>
    intro x R h
    cases h
  | succ c ih =>
    intro x R h
    rw [vis_bwd] at h
    by_cases h1 : t[c]?.getD false = true
    · rw [if_pos h1] at h
      simp only [List.cons_append, List.nil_append, List.cons.injEq] at h
      obtain ⟨rfl, rfl⟩ := h
      exact ⟨by omega, h1, rfl, fun i h2 h3 => by omega⟩
    · rw [if_neg h1, List.nil_append] at h
      obtain ⟨g1, g3, g4, g5⟩ := ih x R h
      refine ⟨by omega, g3, g4, fun i h2 h3 => ?_⟩
      by_cases hi : i = c
      · subst hi
        simpa using h1
      · exact g5 i h2 (by omega)
theorem bwd_nil : ∀ (c : Nat), vis (bwd c) t c = [] → ∀ i, i < c → t[i]?.getD false = false := by
  intro c
  induction c with
  | zero =>
    intro _ i h
    omega
  | succ c ih =>
    intro h i h1
    rw [vis_bwd] at h
    by_cases h3 : t[c]?.getD false = true
    · rw [if_pos h3] at h
      cases h
    · rw [if_neg h3, List.nil_append] at h
      by_cases hi : i = c
      · subst hi
        simpa using h3
      · exact ih h i (by omega)
theorem gN_cons (x : Nat) (R : List Nat) (a col e : Nat) : gN (x :: R) (a + 1) col e = gN R a x e := by
  unfold gN
  rw [if_neg (by omega), Nat.add_sub_cancel]
  cases a with
  | zero => rfl
  | succ a =>
    rw [if_neg (by omega), Nat.add_sub_cancel]
    rfl
theorem gN_nil (a col e : Nat) : gN [] (a + 1) col e = e := by
  unfold gN
  rw [if_neg (by omega)]
  rfl
theorem nxt_zero {c : Nat} : nxt t 0 c = c := gN_zero _ _ _
theorem bck_zero {c : Nat} : bck t 0 c = c := gN_zero _ _ _
/-- By one stop. -/
theorem nxt_one {c : Nat} (hc : c < t.length) : c ≤ nxt t 1 c ∧ nxt t 1 c < t.length ∧ (t[nxt t 1 c]?.getD false = true ∨ nxt t 1 c = t.length - 1) ∧ (∀ i, c < i → i < nxt t 1 c → t[i]?.getD false = false) ∧ ∀ a, nxt t (a + 1) c = nxt t a (nxt t 1 c) := by
  unfold nxt
  generalize hS : vis (fwd c) t (t.length - (c + 1)) = S
  cases S with
  | nil =>
    rw [gN_nil]
    refine ⟨by omega, by omega, .inr rfl, fun i h1 h2 => fwd_nil _ _ hS i h1 (by omega), fun a => ?_⟩
    rw [gN_nil, show t.length - (t.length - 1 + 1) = 0 from by omega, vis_zero]
    cases a with
    | zero => rw [gN_zero]
    | succ a => rw [gN_nil]
  | cons x R =>
    obtain ⟨g1, g2, g3, g4, g5⟩ := fwd_cons _ _ _ _ hS
    rw [gN_cons, gN_zero]
    refine ⟨by omega, by omega, .inl g3, g5, fun a => ?_⟩
    rw [gN_cons, g4, show c + (t.length - (c + 1)) - x = t.length - (x + 1) from by omega]
theorem bck_one (c : Nat) : bck t 1 c ≤ c ∧ (t[bck t 1 c]?.getD false = true ∨ bck t 1 c = 0) ∧ (∀ i, bck t 1 c < i → i < c → t[i]?.getD false = false) ∧ ∀ a, bck t (a + 1) c = bck t a (bck t 1 c) := by
  unfold bck
  generalize hS : vis (bwd c) t c = S
  cases S with
  | nil =>
    rw [gN_nil]
    refine ⟨by omega, .inr rfl, fun i h1 h2 => bwd_nil _ hS i h2, fun a => ?_⟩
    rw [gN_nil, vis_zero]
    cases a with
    | zero => rw [gN_zero]
    | succ a => rw [gN_nil]
  | cons x R =>
    obtain ⟨g1, g3, g4, g5⟩ := bwd_cons _ _ _ hS
    rw [gN_cons, gN_zero]
    refine ⟨by omega, .inl g3, g5, fun a => ?_⟩
    rw [gN_cons, g4]
theorem nxt_all : ∀ (a c : Nat), c < t.length → c ≤ nxt t a c ∧ nxt t a c < t.length ∧ (0 < a → t[nxt t a c]?.getD false = true ∨ nxt t a c = t.length - 1) ∧ ∀ b, nxt t b (nxt t a c) = nxt t (a + b) c := by
  intro a
  induction a with
  | zero =>
    intro c hc
    rw [nxt_zero]
    exact ⟨by omega, hc, fun h => by omega, fun b => by rw [Nat.zero_add]⟩
  | succ a ih =>
    intro c hc
    obtain ⟨g1, g2, g3, _, g5⟩ := nxt_one hc
    obtain ⟨k1, k2, k3, k4⟩ := ih _ g2
    rw [g5 a]
    refine ⟨by omega, k2, fun _ => ?_, fun b => ?_⟩
    · by_cases h : 0 < a
      · exact k3 h
      · obtain rfl : a = 0 := by omega
        rw [nxt_zero]
        exact g3
    · rw [k4 b, show a + 1 + b = (a + b) + 1 from by omega, g5 (a + b)]
theorem bck_all : ∀ (a c : Nat), c < t.length → bck t a c ≤ c ∧ (0 < a → t[bck t a c]?.getD false = true ∨ bck t a c = 0) ∧ ∀ b, bck t b (bck t a c) = bck t (a + b) c := by
  intro a
  induction a with
  | zero =>
    intro c hc
    rw [bck_zero]
    exact ⟨by omega, fun h => by omega, fun b => by rw [Nat.zero_add]⟩
  | succ a ih =>
    intro c hc
    obtain ⟨g1, g3, _, g5⟩ := bck_one (t := t) c
    obtain ⟨k1, k3, k4⟩ := ih _ (show bck t 1 c < t.length by omega)
    rw [g5 a]
    refine ⟨by omega, fun _ => ?_, fun b => ?_⟩
    · by_cases h : 0 < a
      · exact k3 h
      · obtain rfl : a = 0 := by omega
        rw [bck_zero]
        exact g3
    · rw [k4 b, show a + 1 + b = (a + b) + 1 from by omega, g5 (a + b)]
/-- There is no stop between a column and where one comes from it by one stop. -/
theorem no_between {c i : Nat} (hc : c < t.length) (h1 : bck t 1 c < i) (h2 : i < nxt t 1 c) (h3 : t[i]?.getD false = true) : i = c := by
  obtain ⟨_, _, _, g4, _⟩ := nxt_one hc
  obtain ⟨_, _, k4, _⟩ := bck_one (t := t) c
  rcases Nat.lt_trichotomy i c with h | h | h
  · rw [k4 i h1 h] at h3
    cases h3
  · exact h
  · rw [g4 i h h2] at h3
    cases h3
/-- From a stop to the next one and back. -/
theorem and_back {c : Nat} (hc : c < t.length) (h : t[c]?.getD false = true) : nxt t 1 c = c ∨ bck t 1 (nxt t 1 c) = c := by
  obtain ⟨g1, g2, _, g4, _⟩ := nxt_one hc
  by_cases he : nxt t 1 c = c
  · exact .inl he
  · right
    obtain ⟨k1, k2, k3, _⟩ := bck_one (t := t) (nxt t 1 c)
    rcases Nat.lt_trichotomy (bck t 1 (nxt t 1 c)) c with h1 | h1 | h1
    · rw [k3 c h1 (by omega)] at h
      cases h
    · exact h1
    · rcases k2 with k2 | k2
      · by_cases h5 : bck t 1 (nxt t 1 c) < nxt t 1 c
        · rw [g4 _ h1 h5] at k2
          cases k2
        · have h6 : bck t 1 (nxt t 1 c) = nxt t 1 c := by omega
          exfalso
          unfold bck at h6
          generalize hS : vis (bwd (nxt t 1 c)) t (nxt t 1 c) = S at h6
          cases S with
          | nil =>
            rw [gN_nil] at h6
            omega
          | cons x R =>
            have := (bwd_cons _ _ _ hS).1
            rw [gN_cons, gN_zero] at h6
            omega
      · omega
end Go.Proofs.Ytkkhcpddpnhemaa
