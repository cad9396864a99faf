/-
  A region that draws its order, makes several new blocks and fills each, and beside that reads and makes calls that leave the world grown: one walk in the order of the text serves every order. No program in sight.
-/
import Derived.Test.YtafokiobbceibaaReg3
namespace Go.Proofs.Ytafokiobbceibaa
/-- A frame with other values over some of its slots. -/
def overlay (a : Act) (f : Nat → Option Value) : Act := { a with tmps := a.tmps.mapIdx fun t v => (f t).getD v }
def over (f : Nat → Option Value) (d : Nat) (v : Value) : Nat → Option Value := fun t => if t = d then some v else f t
section
variable {a : Act} {f g : Nat → Option Value}
theorem overlay_none : overlay a (fun _ => none) = a := by
  obtain ⟨tm, df⟩ := a
  simp only [overlay, Act.mk.injEq, and_true]
  apply Array.ext_getElem?
  intro i
  simp [Array.getElem?_mapIdx]
theorem overlay_get (t : Nat) : (overlay a f).tmps[t]? = (a.tmps[t]?).map fun v => (f t).getD v := by simp [overlay, Array.getElem?_mapIdx]
theorem overlay_get_congr {t : Nat} (h : f t = g t) : (overlay a f).tmps[t]? = (overlay a g).tmps[t]? := by rw [overlay_get, overlay_get, h]
theorem overlay_put {d : Nat} {v : Value} : (overlay a f).put (some d) v = overlay a (over f d v) := by
  simp only [overlay, Act.put, Act.mk.injEq, and_true]
  apply Array.ext_getElem?
  intro i
  simp only [Array.getElem?_setIfInBounds, Array.getElem?_mapIdx, Array.size_mapIdx, over]
  by_cases hi : d = i
  · subst hi
    by_cases hl : d < a.tmps.size
    · simp [hl]
    · simp [hl]
  · have : ¬ i = d := fun e => hi e.symm
    simp [hi, this]
theorem overlay_put_under {d : Option Tmp} {v : Value} (h : ∀ t, d = some t → f t = none) : (overlay a f).put d v = overlay (a.put d v) f := by
  cases d with
  | none => rfl
  | some d =>
    have hf := h d rfl
    simp only [overlay, Act.put, Act.mk.injEq, and_true]
    apply Array.ext_getElem?
    intro i
    simp only [Array.getElem?_setIfInBounds, Array.getElem?_mapIdx, Array.size_mapIdx]
    by_cases hi : d = i
    · subst hi
      by_cases hl : d < a.tmps.size
      · simp [hl, hf]
      · simp [hl]
    · simp [hi]
theorem eval_overlay {x : Operand} (h : ∀ t, x = .tmp t → f t = g t) : (overlay a f).eval x = (overlay a g).eval x := by
  cases x with
  | tmp t =>
    have := overlay_get_congr (a := a) (h t rfl)
    simp only [Act.eval, Array.getD_eq_getD_getElem?, this]
  | const v => rfl
  | global n => rfl
  | func n => rfl
theorem execOp_overlay {ops : Array Oper} (o : Oper) (hs : ∀ cs b, o.op ≠ .select cs b) (h : ∀ t, t ∈ o.looksAt ops → f t = g t) : execOp (overlay a f).eval o = execOp (overlay a g).eval o :=
  execOp_congr o hs fun x hx => eval_overlay fun t ht => h t (by
    subst ht
    exact List.mem_append_left _ (List.mem_filterMap.2 ⟨.tmp t, by simpa using hx, rfl⟩))
theorem wanted_overlay {ops : Array Oper} (o : Oper) (h : ∀ t, t ∈ o.looksAt ops → f t = g t) : Region.wanted o (yielded ops (overlay a f).tmps) = Region.wanted o (yielded ops (overlay a g).tmps) := by
  unfold Region.wanted
  cases hg : o.guard with
  | none => rfl
  | some gw =>
    obtain ⟨q, want⟩ := gw
    have hy : yielded ops (overlay a f).tmps q = yielded ops (overlay a g).tmps q := by
      unfold yielded
      cases ht : (ops[q]?).bind (·.dst) with
      | none => rfl
      | some t =>
        have := overlay_get_congr (a := a) (h t (by simp [Oper.looksAt, hg, ht]))
        simp only [Option.bind_some, this]
    simp only [hy]
end
/-- Operation number i comes up: a special one asks S of the frame and leaves it; all others are quiet. -/
def spOp (P : Program) (ops : Array Oper) (w0 : World) (sp : Nat → Bool) (S : Nat → Act → Prop) (i : Nat) (K : Act → Prop) (a : Act) : Prop :=
  if sp i = true then S i a ∧ K a else gOp P ops w0 i K a
def spAny (P : Program) (md : Region.Mode) (ops : Array Oper) (w0 : World) (sp : Nat → Bool) (S : Nat → Act → Prop) (D : Array Bool → Prop) (Q : Act → Prop) : Nat → Array Bool → Act → Prop
  | 0, listed, a => Region.ready md ops listed = [] ∧ D listed ∧ Q a
  | f + 1, listed, a => (Region.ready md ops listed = [] → D listed ∧ Q a) ∧ ∀ i ∈ Region.ready md ops listed, spOp P ops w0 sp S i (spAny P md ops w0 sp S D Q f (listed.setIfInBounds i true)) a
section
variable {P : Program} {ops : Array Oper} {md : Region.Mode} {w0 : World} {sp : Nat → Bool} {S : Nat → Act → Prop} {D : Array Bool → Prop} {Q : Act → Prop}
def spKnown (P : Program) (ops : Array Oper) (w0 : World) (sp : Nat → Bool) (S : Nat → Act → Prop) (i : Nat) (o : Oper) (v : Value) (a : Act) : Prop :=
  if sp i = true then S i a else YieldsG P ops w0 o v a
def spPut (sp : Nat → Bool) (i : Nat) (o : Oper) (v : Value) (a : Act) : Act := if sp i = true then a else a.put o.dst v
theorem spOp_iff {i : Nat} {o : Oper} (hi : ops[i]? = some o) (K : Act → Prop) (a : Act) : spOp P ops w0 sp S i K a ↔ ∃ v, spKnown P ops w0 sp S i o v a ∧ K (spPut sp i o v a) := by
  unfold spOp spKnown spPut
  by_cases h1 : sp i = true
  · simp only [if_pos h1]
    exact ⟨fun ⟨p, q⟩ => ⟨undef, p, q⟩, fun ⟨_, p, q⟩ => ⟨p, q⟩⟩
  · simp only [if_neg h1]
    exact yieldsG_iff hi K a
theorem spOp_mono {i : Nat} {o : Oper} (hi : ops[i]? = some o) {a : Act} {K K' : Act → Prop} (h : ∀ a, K a → K' a) (hh : spOp P ops w0 sp S i K a) : spOp P ops w0 sp S i K' a := by
  rw [spOp_iff hi] at *
  obtain ⟨v, h1, h2⟩ := hh
  exact ⟨v, h1, h _ h2⟩
/-- S hangs on nothing that an operation apart from a special one writes. -/
def SpSteady (ops : Array Oper) (sp : Nat → Bool) (S : Nat → Act → Prop) : Prop := ∀ (i : Nat) (oi : Oper), sp i = true → ops[i]? = some oi → ∀ (o : Oper) (a : Act) (v : Value), oi.apart ops o = true → (S i (a.put o.dst v) ↔ S i a)
theorem spKnown_put {i k : Nat} {oi ok : Oper} {v u : Value} (hi : ops[i]? = some oi) (hap : oi.apart ops ok = true) (hsi : ∀ cs b, oi.op ≠ .select cs b) (hS : SpSteady ops sp S) {a : Act} :
    spKnown P ops w0 sp S i oi v (spPut sp k ok u a) ↔ spKnown P ops w0 sp S i oi v a := by
  obtain ⟨h1, h2, h3⟩ := Oper.apart_spec hap
  unfold spKnown spPut
  by_cases q1 : sp k = true
  · simp only [if_pos q1]
  · simp only [if_neg q1]
    by_cases p1 : sp i = true
    · simp only [if_pos p1]
      exact hS i oi p1 hi ok a u hap
    · simp only [if_neg p1]
      have e1 := execOp_put (ops := ops) oi hsi a ok.dst u h3
      have e2 := wanted_put (ops := ops) oi a ok.dst u h3
      exact ⟨fun h => h.of_same e1.symm e2.symm, fun h => h.of_same e1 e2⟩
theorem spPut_comm {i k : Nat} {oi ok : Oper} {v u : Value} (hap : oi.apart ops ok = true) (a : Act) : spPut sp k ok u (spPut sp i oi v a) = spPut sp i oi v (spPut sp k ok u a) := by
  obtain ⟨h1, h2, h3⟩ := Oper.apart_spec hap
  unfold spPut
  split <;> split <;> first | rfl | exact Act.put_comm a v u h2
theorem spOp_put {i k : Nat} {oi ok : Oper} {v : Value} (hi : ops[i]? = some oi) (hk : ops[k]? = some ok) (hap : oi.apart ops ok = true) (hsi : ∀ cs b, oi.op ≠ .select cs b) (hsk : ∀ cs b, ok.op ≠ .select cs b) (hS : SpSteady ops sp S) {K : Act → Prop} {a : Act}
    (hy : spKnown P ops w0 sp S i oi v a) (h : spOp P ops w0 sp S k K (spPut sp i oi v a)) : spOp P ops w0 sp S k (fun a' => spKnown P ops w0 sp S i oi v a' ∧ K (spPut sp i oi v a')) a := by
  rw [spOp_iff hk] at *
  obtain ⟨u, hu, hK⟩ := h
  refine ⟨u, (spKnown_put hk (apart_symm hap) hsk hS).1 hu, (spKnown_put hi hap hsi hS).2 hy, ?_⟩
  rw [← spPut_comm (oi := oi) (ok := ok) hap]
  exact hK
theorem spAny_first {i : Nat} {oi : Oper} {v : Value} (hi : ops[i]? = some oi) (hsel : ∀ (j : Nat) (o : Oper) cs b, ops[j]? = some o → o.op ≠ .select cs b) (hS : SpSteady ops sp S) :
    ∀ (f : Nat) (listed : Array Bool) (a : Act),
      (∀ k ok, ops[k]? = some ok → k ≠ i → listed.getD k true = false → (∀ e ∈ ok.after, Region.binds md e = true → e.on ≠ i) → oi.apart ops ok = true) →
      i ∈ Region.ready md ops listed → spKnown P ops w0 sp S i oi v a →
      spAny P md ops w0 sp S D Q f (listed.setIfInBounds i true) (spPut sp i oi v a) → spAny P md ops w0 sp S D Q (f + 1) listed a := by
  intro f
  induction f with
  | zero =>
    intro listed a hfree hr hy H
    refine ⟨fun h => (by rw [h] at hr; cases hr), fun k hk => ?_⟩
    by_cases hki : k = i
    · subst hki
      exact (spOp_iff hi _ _).2 ⟨v, hy, H⟩
    · have := ready_mono hk hki
      rw [H.1] at this
      cases this
  | succ f ih =>
    intro listed a hfree hr hy H
    refine ⟨fun h => (by rw [h] at hr; cases hr), fun k hk => ?_⟩
    by_cases hki : k = i
    · subst hki
      exact (spOp_iff hi _ _).2 ⟨v, hy, H⟩
    · have h1 := H.2 k (ready_mono hk hki)
      obtain ⟨hkun, ok, hok, hall⟩ := mem_ready.1 hk
      have hnot : ∀ e ∈ ok.after, Region.binds md e = true → e.on ≠ i := fun e he hb heq => by
        have h1 := hall e he hb
        rw [heq, getD_both (mem_ready.1 hr).1] at h1
        cases h1
      have h2 := spOp_put hi hok (hfree k ok hok hki hkun hnot) (fun cs b => hsel i oi cs b hi) (fun cs b => hsel k ok cs b hok) hS hy h1
      refine spOp_mono hok (fun a' h3 => ih (listed.setIfInBounds k true) a' (fun m om hm hmi hun hno => hfree m om hm hmi ?_ hno) (ready_mono hr (Ne.symm hki)) h3.1 ?_) h2
      · by_cases hkm : k = m
        · subst hkm
          exact hkun
        · rwa [getD_set_ne true hkm] at hun
      · rw [Array.setIfInBounds_comm _ _ hki]
        exact h3.2
/-- The walk in the order of the text. -/
def spWalk (P : Program) (ops : Array Oper) (w0 : World) (sp : Nat → Bool) (S : Nat → Act → Prop) (Q : Act → Prop) : Nat → List Oper → Act → Prop
  | _, [], a => Q a
  | k, o :: l, a => if sp k = true then S k a ∧ spWalk P ops w0 sp S Q (k + 1) l a
    else if Region.wanted o (yielded ops a.tmps) then opGrows P w0 o a (spWalk P ops w0 sp S Q (k + 1) l) else spWalk P ops w0 sp S Q (k + 1) l (a.put o.dst undef)
theorem spWalk_mono {Q2 : Act → Prop} (hQ : ∀ a, Q a → Q2 a) : ∀ (l : List Oper) (k : Nat) (a : Act), spWalk P ops w0 sp S Q k l a → spWalk P ops w0 sp S Q2 k l a
  | [], _, a, h => hQ a h
  | o :: l, k, a, h => by
    unfold spWalk at h ⊢
    by_cases h1 : sp k = true
    · rw [if_pos h1] at h ⊢
      exact ⟨h.1, spWalk_mono hQ l _ _ h.2⟩
    · rw [if_neg h1] at h ⊢
      split at h
      · rename_i hw
        rw [if_pos hw]
        obtain ⟨v, hv, hk⟩ := h
        exact ⟨v, hv, spWalk_mono hQ l _ _ hk⟩
      · rename_i hw
        rw [if_neg hw]
        exact spWalk_mono hQ l _ _ h
def lexS (md : Region.Mode) (ops : Array Oper) (Db : Array Bool → Bool) : Nat → Nat → Array Bool → Bool
  | 0, _, listed => (Region.ready md ops listed).isEmpty && Db listed
  | f + 1, k, listed => (Region.ready md ops listed).contains k && Region.free md ops listed k && lexS md ops Db f (k + 1) (listed.setIfInBounds k true)
theorem spAny_lex {Db : Array Bool → Bool} (hD : ∀ listed, Db listed = true → D listed) (hsel : ∀ (j : Nat) (o : Oper) cs b, ops[j]? = some o → o.op ≠ .select cs b) (hS : SpSteady ops sp S) :
    ∀ (l : List Oper) (k : Nat) (listed : Array Bool) (a : Act), (∀ m, l[m]? = ops[k + m]?) → lexS md ops Db l.length k listed = true → spWalk P ops w0 sp S Q k l a → spAny P md ops w0 sp S D Q l.length listed a
  | [], k, listed, a, _, hB, h => by
    simp only [List.length_nil, lexS, Bool.and_eq_true, List.isEmpty_iff] at hB
    exact ⟨hB.1, hD _ hB.2, h⟩
  | o :: l, k, listed, a, hl, hB, h => by
    have h0 : ops[k]? = some o := by simpa using (hl 0).symm
    simp only [List.length_cons, lexS, Bool.and_eq_true] at hB
    obtain ⟨⟨hr, hf⟩, hB'⟩ := hB
    have hst : spOp P ops w0 sp S k (spWalk P ops w0 sp S Q (k + 1) l) a := by
      unfold spOp
      unfold spWalk at h
      by_cases h1 : sp k = true
      · rw [if_pos h1] at h ⊢
        exact h
      · rw [if_neg h1] at h ⊢
        rw [gOp_some h0]
        exact h
    obtain ⟨v, hy, hK⟩ := (spOp_iff h0 _ _).1 hst
    exact spAny_first h0 hsel hS l.length listed a (Region.free_spec h0 hf) (by simpa using hr) hy
      (spAny_lex hD hsel hS l (k + 1) _ _ (fun m => by have := hl (m + 1); simpa [Nat.add_assoc, Nat.add_comm 1 m] using this) hB' hK)
end
/-- W2 is W with block n filled. -/
def FilledTo (W : World) (n : Nat) (O' : Obj) (W2 : World) : Prop := W2.heap[n]? = some O' ∧ (∀ k, k ≠ n → W2.heap[k]? = W.heap[k]?) ∧ W2.heap.size = W.heap.size ∧ W2.tape = W.tape ∧ W2.os = W.os ∧ W2.output = W.output
def fillsTo (W : World) (n : Nat) (O' : Obj) : Result Next → Prop
  | .ok (.value _) W2 => FilledTo W n O' W2
  | .ok .skip W2 => FilledTo W n O' W2
  | _ => False
theorem FilledTo.grows {w0 W W2 : World} {n : Nat} {O' : Obj} (h : FilledTo W n O' W2) (g : Grows w0 W) (hn : w0.heap.size ≤ n) : Grows w0 W2 := by
  obtain ⟨h1, h2, h3, h4, h5, h6⟩ := h
  have b := g.below
  exact Grows.of_below ⟨h5.trans b.os, h4.trans b.tape, h6.trans b.output, by rw [h3]; exact b.size, fun k hk => (h2 k (by omega)).trans (b.block k hk)⟩
def ptrTo (n : Nat) : Value := .pointer (some ⟨n, 0, none⟩)
theorem ptrTo_inj {n m : Nat} (h : ptrTo n = ptrTo m) : n = m := by
  unfold ptrTo at h
  injection h with h
  injection h with h
  exact congrArg Addr.block h
/-- A block that the region makes: who makes it, in which slot its address lies, who fills it, what it is at first and then. -/
def Mk : Type := Nat × Nat × Nat × Obj × Obj
def Mk.j (m : Mk) : Nat := m.1
def Mk.d (m : Mk) : Nat := m.2.1
def Mk.s (m : Mk) : Nat := m.2.2.1
def Mk.o (m : Mk) : Obj := m.2.2.2.1
def Mk.o' (m : Mk) : Obj := m.2.2.2.2
/-- The store of m fills its block, wherever that is. -/
def fillsM (P : Program) (ops : Array Oper) (m : Mk) (a : Act) : Prop :=
  ∀ (n : Nat) (W : World) (os : Oper), ops[m.s]? = some os → W.heap[n]? = some m.o → fillsTo W n m.o' ((execOp (a.put (some m.d) (ptrTo n)).eval os).run P W)
def isSp (mks : List Mk) (i : Nat) : Bool := mks.any fun m => m.j == i || m.s == i
def asks (P : Program) (ops : Array Oper) (mks : List Mk) (i : Nat) (a : Act) : Prop := ∀ m ∈ mks, m.s = i → fillsM P ops m a
/-- How far the blocks have come. -/
def Ov (w0 : World) (mks : List Mk) (listed : Array Bool) (f : Nat → Option Value) (W : World) : Prop :=
  Grows w0 W ∧ (∀ t v, f t = some v → ∃ m ∈ mks, m.d = t ∧ listed.getD m.j false = true) ∧
  (∀ m ∈ mks, listed.getD m.j false = true → ∃ n, f m.d = some (ptrTo n) ∧ w0.heap.size ≤ n ∧ W.heap[n]? = some (if listed.getD m.s false = true then m.o' else m.o)) ∧
  (∀ t t' n, f t = some (ptrTo n) → f t' = some (ptrTo n) → t = t') ∧
  (∀ m ∈ mks, listed.getD m.s false = true → listed.getD m.j false = true)
/-- What must hold of the makers and the fillers. -/
def MkOk (P : Program) (md : Region.Mode) (ops : Array Oper) (mks : List Mk) : Prop :=
  (∀ m ∈ mks, ∃ oj os, ops[m.j]? = some oj ∧ ops[m.s]? = some os ∧ oj.dst = some m.d ∧ oj.guard = none ∧ os.guard = none ∧ os.dst = none ∧ Region.waitsFor md ops m.s m.j = true ∧
    (∀ (a : Act) (w : World), (execOp a.eval oj).run P w = .ok (.value (ptrTo w.heap.size)) (w.alloc m.o))) ∧
  (∀ m ∈ mks, ∀ m' ∈ mks, (m.j = m'.j ∨ m.s = m'.s ∨ m.d = m'.d → m = m') ∧ m.j ≠ m'.s) ∧
  (∀ i oi, ops[i]? = some oi → isSp mks i = false → ∀ m ∈ mks, ∀ oj, ops[m.j]? = some oj → oj.apart ops oi = true) ∧
  (∀ m ∈ mks, ∀ m' ∈ mks, m ≠ m' → ∀ oj os, ops[m.j]? = some oj → ops[m'.s]? = some os → oj.apart ops os = true)
section
variable {P : Program} {ops : Array Oper} {md : Region.Mode} {w0 : World} {mks : List Mk} {D : Array Bool → Prop} {Q : Act → Prop}
theorem Ov.step {listed : Array Bool} {f : Nat → Option Value} {W W2 : World} (h : Ov w0 mks listed f W) {i : Nat} (hi : isSp mks i = false) (g : Grows W W2) : Ov w0 mks (listed.setIfInBounds i true) f W2 := by
  obtain ⟨h1, h2, h3, h4, h5⟩ := h
  have hne : ∀ m ∈ mks, i ≠ m.j ∧ i ≠ m.s := by
    intro m hm
    constructor <;> (rintro rfl; rw [isSp, List.any_eq_false] at hi; have := hi m hm; simp at this)
  refine ⟨h1.trans g, fun t v ht => ?_, fun m hm hl => ?_, h4, fun m hm hl => ?_⟩
  · obtain ⟨m, hm, hd, hl⟩ := h2 t v ht
    exact ⟨m, hm, hd, by rw [getD_set_ne false (hne m hm).1]; exact hl⟩
  · rw [getD_set_ne false (hne m hm).1] at hl
    rw [getD_set_ne false (hne m hm).2]
    obtain ⟨n, hf, hn, hW⟩ := h3 m hm hl
    have hlt : n < W.heap.size := by
      rcases Nat.lt_or_ge n W.heap.size with h' | h'
      · exact h'
      · rw [Array.getElem?_eq_none h'] at hW; cases hW
    exact ⟨n, hf, hn, (g.below.block n hlt).trans hW⟩
  · rw [getD_set_ne false (hne m hm).1]
    rw [getD_set_ne false (hne m hm).2] at hl
    exact h5 m hm hl
theorem getD_set_same {listed : Array Bool} {i : Nat} (h : i < listed.size) : (listed.setIfInBounds i true).getD i false = true := by simp [h]
theorem lt_of_some {W : World} {n : Nat} {o : Obj} (h : W.heap[n]? = some o) : n < W.heap.size := by
  rcases Nat.lt_or_ge n W.heap.size with h' | h'
  · exact h'
  · rw [Array.getElem?_eq_none h'] at h
    cases h
theorem Ov.make {listed : Array Bool} {f : Nat → Option Value} {W : World} (h : Ov w0 mks listed f W) (hok : MkOk P md ops mks) {m : Mk} (hm : m ∈ mks) (hlt : m.j < listed.size) (hun : listed.getD m.j false = false) : Ov w0 mks (listed.setIfInBounds m.j true) (over f m.d (ptrTo W.heap.size)) (W.alloc m.o) := by
  obtain ⟨h1, h2, h3, h4, h5⟩ := h
  obtain ⟨k1, k2, k3, k4⟩ := hok
  have hs : listed.getD m.s false = false := by
    cases hc : listed.getD m.s false with
    | false => rfl
    | true =>
      rw [h5 m hm hc] at hun
      cases hun
  have old : ∀ t n, f t = some (ptrTo n) → n < W.heap.size := by
    intro t n ht
    obtain ⟨m', hm', hd, hl⟩ := h2 t _ ht
    obtain ⟨n', hf', _, hW⟩ := h3 m' hm' hl
    rw [hd, ht] at hf'
    obtain rfl : n = n' := ptrTo_inj (Option.some.inj hf')
    exact lt_of_some hW
  refine ⟨h1.alloc _, fun t v ht => ?_, fun m' hm' hl => ?_, fun t t' n ht ht' => ?_, fun m' hm' hl => ?_⟩
  · unfold over at ht
    split at ht
    · rename_i e
      exact ⟨m, hm, e.symm, getD_set_same hlt⟩
    · obtain ⟨m', hm', hd, hl⟩ := h2 t v ht
      exact ⟨m', hm', hd, getD_set_true hl⟩
  · by_cases e : m'.j = m.j
    · obtain rfl : m' = m := (k2 m' hm' m hm).1 (.inl e)
      refine ⟨W.heap.size, by simp [over], h1.below.size, ?_⟩
      rw [getD_set_ne false (k2 m' hm' m' hm').2, hs, if_neg Bool.false_ne_true]
      exact heap_alloc_new W m'.o
    · rw [getD_set_ne false (Ne.symm e)] at hl
      obtain ⟨n, hf, hn, hW⟩ := h3 m' hm' hl
      refine ⟨n, ?_, hn, ?_⟩
      · unfold over
        rw [if_neg (fun ed => e (by rw [(k2 m' hm' m hm).1 (.inr (.inr ed))]))]
        exact hf
      · rw [getD_set_ne false (k2 m hm m' hm').2, heap_alloc_old _ _ (lt_of_some hW)]
        exact hW
  · unfold over at ht ht'
    split at ht <;> split at ht'
    · rename_i e e'
      exact e.trans e'.symm
    · have := old _ _ ht'
      rw [ptrTo_inj (Option.some.inj ht)] at this
      omega
    · have := old _ _ ht
      rw [ptrTo_inj (Option.some.inj ht')] at this
      omega
    · exact h4 t t' n ht ht'
  · rw [getD_set_ne false (k2 m hm m' hm').2] at hl
    exact getD_set_true (h5 m' hm' hl)
theorem Ov.fill {listed : Array Bool} {f : Nat → Option Value} {W W2 : World} (h : Ov w0 mks listed f W) (hok : MkOk P md ops mks) {m : Mk} (hm : m ∈ mks) (hlt : m.s < listed.size) (hl0 : listed.getD m.j false = true) {n : Nat} (hn : f m.d = some (ptrTo n)) (hF : FilledTo W n m.o' W2) : Ov w0 mks (listed.setIfInBounds m.s true) f W2 := by
  obtain ⟨h1, h2, h3, h4, h5⟩ := h
  obtain ⟨k1, k2, k3, k4⟩ := hok
  obtain ⟨n0, hf0, hn0, _⟩ := h3 m hm hl0
  obtain rfl : n = n0 := ptrTo_inj (Option.some.inj (hn.symm.trans hf0))
  refine ⟨hF.grows h1 hn0, fun t v ht => ?_, fun m' hm' hl => ?_, h4, fun m' hm' hl => ?_⟩
  · obtain ⟨m', hm', hd, hl⟩ := h2 t v ht
    exact ⟨m', hm', hd, getD_set_true hl⟩
  · rw [getD_set_ne false (Ne.symm (k2 m' hm' m hm).2)] at hl
    obtain ⟨n', hf', hn', hW'⟩ := h3 m' hm' hl
    refine ⟨n', hf', hn', ?_⟩
    by_cases e : m'.s = m.s
    · obtain rfl : m' = m := (k2 m' hm' m hm).1 (.inr (.inl e))
      obtain rfl : n' = n := ptrTo_inj (Option.some.inj (hf'.symm.trans hn))
      rw [getD_set_same hlt, if_pos rfl]
      exact hF.1
    · rw [getD_set_ne false (Ne.symm e), hF.2.1 n' (fun en => ?_)]
      · exact hW'
      · subst en
        exact e (by rw [(k2 m' hm' m hm).1 (.inr (.inr (h4 _ _ _ hf' hn)))])
  · by_cases e : m'.s = m.s
    · obtain rfl : m' = m := (k2 m' hm' m hm).1 (.inr (.inl e))
      exact getD_set_true hl0
    · rw [getD_set_ne false (Ne.symm e)] at hl
      exact getD_set_true (h5 m' hm' hl)
theorem gOp_overlay {i : Nat} {oi : Oper} {f : Nat → Option Value} (hi : ops[i]? = some oi) (hsi : ∀ cs b, oi.op ≠ .select cs b) (hl : ∀ t, t ∈ oi.looksAt ops → f t = none) (hd : ∀ t, oi.dst = some t → f t = none) {K : Act → Prop} {a : Act} (h : gOp P ops w0 i K a) :
    gOp P ops w0 i (fun a' => ∃ a'', a' = overlay a'' f ∧ K a'') (overlay a f) := by
  rw [yieldsG_iff hi] at *
  obtain ⟨u, hu, hk⟩ := h
  have e1 : execOp (overlay a f).eval oi = execOp a.eval oi := by
    have := execOp_overlay (a := a) (f := f) (g := fun _ => none) (ops := ops) oi hsi hl
    rwa [overlay_none] at this
  have e2 : Region.wanted oi (yielded ops (overlay a f).tmps) = Region.wanted oi (yielded ops a.tmps) := by
    have := wanted_overlay (a := a) (f := f) (g := fun _ => none) (ops := ops) oi hl
    rwa [overlay_none] at this
  exact ⟨u, hu.of_same e1 e2, _, overlay_put_under hd, hk⟩
theorem sp_sound {Q' : Exit → Act → World → Prop} (hsel : ∀ (j : Nat) (o : Oper) cs b, ops[j]? = some o → o.op ≠ .select cs b) (hok : MkOk P md ops mks)
    (hD : ∀ listed, D listed → ∀ m ∈ mks, listed.getD m.j false = true ∧ listed.getD m.s false = true)
    (hQ : ∀ a f W, Q a → Grows w0 W → (∀ m ∈ mks, ∃ n, f m.d = some (ptrTo n) ∧ w0.heap.size ≤ n ∧ W.heap[n]? = some m.o') → (∀ t t' n, f t = some (ptrTo n) → f t' = some (ptrTo n) → t = t') → (∀ t v, f t = some v → ∃ m ∈ mks, m.d = t) → Q' .normal (overlay a f) W) :
    ∀ (fuel : Nat) (listed : Array Bool) (a : Act) (f : Nat → Option Value) (W : World), listed.size = ops.size → Ov w0 mks listed f W → spAny P md ops w0 (isSp mks) (asks P ops mks) D Q fuel listed a → wpAny P md ops Q' fuel listed (overlay a f) W := by
  have fin : ∀ (listed : Array Bool) (a : Act) (f : Nat → Option Value) (W : World), Ov w0 mks listed f W → D listed ∧ Q a → Q' .normal (overlay a f) W := by
    rintro listed a f W ⟨h1, h2, h3, h4, h5⟩ ⟨hd, hq⟩
    refine hQ a f W hq h1 (fun m hm => ?_) h4 (fun t v ht => ?_)
    · obtain ⟨n, hf, hn, hW⟩ := h3 m hm (hD listed hd m hm).1
      rw [(hD listed hd m hm).2, if_pos rfl] at hW
      exact ⟨n, hf, hn, hW⟩
    · obtain ⟨m, hm, hd, _⟩ := h2 t v ht
      exact ⟨m, hm, hd⟩
  have hok' := hok
  obtain ⟨k1, k2, k3, k4⟩ := hok'
  intro fuel
  induction fuel with
  | zero =>
    intro listed a f W _ hov h
    exact ⟨h.1, fin listed a f W hov h.2⟩
  | succ fuel ih =>
    intro listed a f W hsz hov h
    refine ⟨fun h0 => fin listed a f W hov (h.1 h0), fun i hi => ?_⟩
    have hx := h.2 i hi
    obtain ⟨hun, oi, hoi, hall⟩ := mem_ready.1 hi
    have hilt : i < ops.size := (Array.getElem?_eq_some_iff.1 hoi).1
    have hsz2 : (listed.setIfInBounds i true).size = ops.size := by simpa using hsz
    cases hsp : isSp mks i with
    | false =>
      have hx2 : gOp P ops w0 i (spAny P md ops w0 (isSp mks) (asks P ops mks) D Q fuel (listed.setIfInBounds i true)) a := by
        unfold spOp at hx
        rw [hsp, if_neg Bool.false_ne_true] at hx
        exact hx
      have hdom : ∀ t v, f t = some v → ∃ m ∈ mks, m.d = t := fun t v ht => by
        obtain ⟨m, hm, hd, _⟩ := hov.2.1 t v ht
        exact ⟨m, hm, hd⟩
      have hfree : ∀ t, (t ∈ oi.looksAt ops ∨ oi.dst = some t) → f t = none := by
        intro t ht
        cases hf : f t with
        | none => rfl
        | some v =>
          obtain ⟨m, hm, hd⟩ := hdom t v hf
          obtain ⟨oj, os, hoj, hos, hdj, _⟩ := k1 m hm
          obtain ⟨q1, q2, q3⟩ := Oper.apart_spec (k3 i oi hoi hsp m hm oj hoj)
          subst hd
          rcases ht with ht | ht
          · exact absurd ht (q1 _ hdj)
          · exact absurd ht (q2 _ hdj)
      obtain ⟨x, d, hxd⟩ := hov.1
      refine wpOp_of_gOp hoi (Gr.mk x d) hxd ?_ (gOp_overlay (f := f) hoi (fun cs b => hsel i oi cs b hoi) (fun t ht => hfree t (.inl ht)) (fun t ht => hfree t (.inr ht)) hx2)
      rintro a2 w2 gw ⟨a'', rfl, hk⟩
      exact ih _ a'' f w2 hsz2 (hov.step hsp gw) hk
    | true =>
      have hx2 : asks P ops mks i a ∧ spAny P md ops w0 (isSp mks) (asks P ops mks) D Q fuel (listed.setIfInBounds i true) a := by
        unfold spOp at hx
        rw [hsp, if_pos rfl] at hx
        exact hx
      obtain ⟨m, hm, hmi⟩ := List.any_eq_true.1 hsp
      simp only [Bool.or_eq_true, beq_iff_eq] at hmi
      obtain ⟨oj, os, hoj, hos, hdj, hgj, hgs, hds, hw, hal⟩ := k1 m hm
      rcases hmi with rfl | rfl
      · obtain rfl : oi = oj := Option.some.inj (hoi.symm.trans hoj)
        unfold wpOp
        simp only [hoi]
        rw [if_pos (by simp [Region.wanted, hgj])]
        refine .inl ?_
        unfold Oper.wp
        rw [hal]
        show wpAny P md ops Q' fuel _ ((overlay a f).put oi.dst (ptrTo W.heap.size)) (W.alloc m.o)
        rw [hdj, overlay_put]
        exact ih _ a _ _ hsz2 (hov.make hok hm (by omega) (getD_both hun)) hx2.2
      · obtain rfl : oi = os := Option.some.inj (hoi.symm.trans hos)
        have hl0 : listed.getD m.j false = true := by
          obtain ⟨o2, ho2, e, he, hb, hon⟩ := Region.waitsFor_spec hw
          obtain rfl : o2 = oi := Option.some.inj (ho2.symm.trans hoi)
          have := hall e he hb
          rwa [hon] at this
        obtain ⟨n, hf, hn, hW⟩ := hov.2.2.1 m hm hl0
        rw [getD_both hun, if_neg Bool.false_ne_true] at hW
        have hF := hx2.1 m hm rfl n W oi hoi hW
        have hev : execOp (overlay a f).eval oi = execOp (a.put (some m.d) (ptrTo n)).eval oi := by
          have e0 : a.put (some m.d) (ptrTo n) = overlay a (over (fun _ => none) m.d (ptrTo n)) := by rw [← overlay_put, overlay_none]
          rw [e0]
          refine execOp_overlay (ops := ops) oi (fun cs b => hsel _ oi cs b hoi) (fun t ht => ?_)
          unfold over
          by_cases e : t = m.d
          · rw [if_pos e, e]
            exact hf
          · rw [if_neg e]
            cases hft : f t with
            | none => rfl
            | some v =>
              obtain ⟨m', hm', hd', _⟩ := hov.2.1 t v hft
              obtain ⟨oj', _, hoj', _, hdj', _⟩ := k1 m' hm'
              have hne : m' ≠ m := fun em => e (by rw [← hd', em])
              obtain ⟨q1, _, _⟩ := Oper.apart_spec (k4 m' hm' m hm hne oj' oi hoj' hoi)
              exact absurd ht (q1 t (by rw [hdj', hd']))
        have go : ∀ v W2, FilledTo W n m.o' W2 → wpAny P md ops Q' fuel (listed.setIfInBounds m.s true) ((overlay a f).put oi.dst v) W2 := by
          intro v W2 hFT
          rw [hds]
          exact ih _ a f W2 hsz2 (hov.fill hok hm (by omega) hl0 hf hFT) hx2.2
        unfold wpOp
        simp only [hoi]
        rw [if_pos (by simp [Region.wanted, hgs])]
        refine .inl ?_
        unfold Oper.wp
        rw [hev]
        generalize (execOp (a.put (some m.d) (ptrTo n)).eval oi).run P W = r at *
        cases r with
        | ok nx w' =>
          cases nx <;> simp only [fillsTo] at hF <;> simp only [Oper.upon]
          case value u => exact go u w' hF
          case skip => exact go _ w' hF
        | halt q w' => simp only [fillsTo] at hF
end
/-- The conditions on a region of this form, as a Bool. -/
def makesB (md : Region.Mode) (ops : Array Oper) (mks : List Mk) : Bool :=
  Region.noSelect ops && (mks.all fun m => match ops[m.j]?, ops[m.s]? with
    | some oj, some os => oj.dst == some m.d && oj.guard.isNone && os.guard.isNone && os.dst.isNone && Region.waitsFor md ops m.s m.j
    | _, _ => false) &&
  ((List.range mks.length).all fun p => (List.range mks.length).all fun q => match mks[p]?, mks[q]? with
    | some m, some m' => (p == q || (m.j != m'.j && m.s != m'.s && m.d != m'.d && match ops[m.j]?, ops[m'.s]? with
        | some oj, some os => oj.apart ops os
        | _, _ => false)) && m.j != m'.s
    | _, _ => false) &&
  ((List.range ops.size).all fun i => isSp mks i || mks.all fun m => match ops[i]?, ops[m.j]? with
    | some oi, some oj => oj.apart ops oi
    | _, _ => false) &&
  lexS md ops (fun listed => mks.all fun m => listed.getD m.j false && listed.getD m.s false) ops.size 0 (Array.replicate ops.size false)
theorem mkOk_of {P : Program} {md : Region.Mode} {ops : Array Oper} {mks : List Mk} (hB : makesB md ops mks = true) (hal : ∀ m ∈ mks, ∀ oj, ops[m.j]? = some oj → ∀ (a : Act) (w : World), (execOp a.eval oj).run P w = .ok (.value (ptrTo w.heap.size)) (w.alloc m.o)) : MkOk P md ops mks := by
  simp only [makesB, Bool.and_eq_true] at hB
  obtain ⟨⟨⟨⟨_, h1⟩, h2⟩, h3⟩, _⟩ := hB
  have pair : ∀ m ∈ mks, ∀ m' ∈ mks, (m = m' ∨ (m.j ≠ m'.j ∧ m.s ≠ m'.s ∧ m.d ≠ m'.d ∧ ∀ oj os, ops[m.j]? = some oj → ops[m'.s]? = some os → oj.apart ops os = true)) ∧ m.j ≠ m'.s := by
    intro m hm m' hm'
    obtain ⟨p, hp, rfl⟩ := List.getElem_of_mem hm
    obtain ⟨q, hq, rfl⟩ := List.getElem_of_mem hm'
    have h4 := List.all_eq_true.1 (List.all_eq_true.1 h2 p (List.mem_range.2 hp)) q (List.mem_range.2 hq)
    simp only [List.getElem?_eq_getElem hp, List.getElem?_eq_getElem hq, Bool.and_eq_true, Bool.or_eq_true, beq_iff_eq, bne_iff_ne, ne_eq] at h4
    refine ⟨?_, h4.2⟩
    rcases h4.1 with rfl | ⟨⟨⟨e1, e2⟩, e3⟩, e4⟩
    · exact .inl rfl
    · refine .inr ⟨e1, e2, e3, fun oj os hoj hos => ?_⟩
      simpa only [hoj, hos] using e4
  refine ⟨fun m hm => ?_, fun m hm m' hm' => ⟨fun h => ?_, (pair m hm m' hm').2⟩, fun i oi hoi hsp m hm oj hoj => ?_, fun m hm m' hm' hne oj os hoj hos => ?_⟩
  · have h4 := List.all_eq_true.1 h1 m hm
    cases hoj : ops[m.j]? with
    | none => rw [hoj] at h4; cases h4
    | some oj =>
      cases hos : ops[m.s]? with
      | none => rw [hoj, hos] at h4; cases h4
      | some os =>
        rw [hoj, hos] at h4
        simp only [Bool.and_eq_true, beq_iff_eq, Option.isNone_iff_eq_none] at h4
        obtain ⟨⟨⟨⟨e1, e2⟩, e3⟩, e4⟩, e5⟩ := h4
        exact ⟨oj, os, rfl, rfl, e1, e2, e3, e4, e5, hal m hm oj hoj⟩
  · rcases (pair m hm m' hm').1 with e | ⟨e1, e2, e3, _⟩
    · exact e
    · rcases h with h | h | h
      · exact absurd h e1
      · exact absurd h e2
      · exact absurd h e3
  · have h4 := List.all_eq_true.1 h3 i (List.mem_range.2 (Array.getElem?_eq_some_iff.1 hoi).1)
    rw [hsp, Bool.false_or] at h4
    have h5 := List.all_eq_true.1 h4 m hm
    simpa only [hoi, hoj] using h5
  · rcases (pair m hm m' hm').1 with e | ⟨_, _, _, e4⟩
    · exact absurd e hne
    · exact e4 oj os hoj hos
theorem asks_steady {P : Program} {ops : Array Oper} {mks : List Mk} (hsel : ∀ (j : Nat) (o : Oper) cs b, ops[j]? = some o → o.op ≠ .select cs b) : SpSteady ops (isSp mks) (asks P ops mks) := by
  intro i oi _ hoi o a v hap
  obtain ⟨h1, h2, h3⟩ := Oper.apart_spec hap
  unfold asks fillsM
  have key : ∀ (m : Mk) (n : Nat), execOp ((a.put o.dst v).put (some m.d) (ptrTo n)).eval oi = execOp (a.put (some m.d) (ptrTo n)).eval oi := by
    intro m n
    by_cases hd : o.dst = some m.d
    · rw [hd, put_again]
    · have e : (a.put o.dst v).put (some m.d) (ptrTo n) = (a.put (some m.d) (ptrTo n)).put o.dst v := Act.put_comm a _ _ (fun t ht e => hd (ht.trans e.symm))
      rw [e]
      exact execOp_put (ops := ops) oi (fun cs b => hsel i oi cs b hoi) _ o.dst v h3
  constructor
  · intro h m hm hs n W os hos hW
    have := h m hm hs n W os hos hW
    subst hs
    obtain rfl : os = oi := Option.some.inj (hos.symm.trans hoi)
    rwa [key] at this
  · intro h m hm hs n W os hos hW
    have := h m hm hs n W os hos hW
    subst hs
    obtain rfl : os = oi := Option.some.inj (hos.symm.trans hoi)
    rwa [key]
/-- A region that makes blocks and fills each. -/
theorem wp_region_makes {P : Program} {id : Nat} {Q : Exit → Act → World → Prop} {a : Act} {w : World} {l : List Oper} (mks : List Mk) (hm : P.follows .mixedOrders = true) (hB : makesB .any l.toArray mks = true)
    (hal : ∀ m ∈ mks, ∀ oj, l.toArray[m.j]? = some oj → ∀ (a : Act) (w : World), (execOp a.eval oj).run P w = .ok (.value (ptrTo w.heap.size)) (w.alloc m.o))
    (h : spWalk P l.toArray w (isSp mks) (asks P l.toArray mks) (fun a' => ∀ f W, Grows w W → (∀ m ∈ mks, ∃ n, f m.d = some (ptrTo n) ∧ w.heap.size ≤ n ∧ W.heap[n]? = some m.o') → (∀ t t' n, f t = some (ptrTo n) → f t' = some (ptrTo n) → t = t') → (∀ t v, f t = some v → ∃ m ∈ mks, m.d = t) → Q .normal (overlay a' f) W) 0 l a) : (Code.region id l.toArray true).wp P Q a w := by
  have hB' := hB
  simp only [makesB, Bool.and_eq_true] at hB'
  obtain ⟨⟨⟨⟨hsel, _⟩, _⟩, _⟩, hlex⟩ := hB'
  have hsel' := Region.noSelect_spec hsel
  refine wp_region_any hm ?_
  have hDb : ∀ listed : Array Bool, (mks.all fun m => listed.getD m.j false && listed.getD m.s false) = true → ∀ m ∈ mks, listed.getD m.j false = true ∧ listed.getD m.s false = true := by
    intro listed hd m hm
    have := List.all_eq_true.1 hd m hm
    rwa [Bool.and_eq_true] at this
  have H := spAny_lex (P := P) (w0 := w) (md := .any) (D := fun listed => ∀ m ∈ mks, listed.getD m.j false = true ∧ listed.getD m.s false = true) (Db := fun listed => mks.all fun m => listed.getD m.j false && listed.getD m.s false) hDb hsel' (asks_steady hsel') l 0 (Array.replicate l.toArray.size false) a (by simp) (by simpa using hlex) h
  have hov : Ov w mks (Array.replicate l.toArray.size false) (fun _ => none) { w with drawn := w.drawn + 1 } := by
    have no : ∀ k, (Array.replicate l.toArray.size false).getD k false = true → False := fun k hk => by
      rw [getD_replicate_false] at hk
      cases hk
    exact ⟨⟨#[], w.drawn + 1, by simp [ext]⟩, fun t v ht => (by cases ht), fun m _ hl => (no _ hl).elim, fun t t' n ht => (by cases ht), fun m _ hl => (no _ hl).elim⟩
  have H2 := sp_sound (Q' := Q) hsel' (mkOk_of hB hal) (fun listed hd => hd) (fun a f W hq => hq f W) _ _ a (fun _ => none) { w with drawn := w.drawn + 1 } (by simp) hov H
  rw [overlay_none] at H2
  simpa using H2
theorem filledTo_setRow {W : World} {n : Nat} {old cells : Array Value} {t : TypeId} {fr : Nat × Nat} (h : W.heap[n]? = some (.cells old t fr)) : FilledTo W n (.cells cells t fr) (W.setRow n cells) := by
  refine ⟨setRow_heap W n old cells t fr h, fun k hk => ?_, by simp [World.setRow], rfl, rfl, rfl⟩
  simp only [World.setRow, Array.getElem?_modify]
  rw [if_neg (Ne.symm hk)]
/-- A store of a whole row fills the block. -/
theorem fillsM_store {P : Program} {ops : Array Oper} {m : Mk} {a : Act} {os : Oper} (hos : ops[m.s]? = some os) (ty : TypeId) (x y : Operand) (ho : os.op = .store ty x y) (old cells : Array Value) (t : TypeId) (hO : m.o = .cells old t (0, 0)) (hO' : m.o' = .cells cells t (0, 0))
    (hx : ∀ n, (a.put (some m.d) (ptrTo n)).eval x = ptrTo n) (hy : ∀ n, (a.put (some m.d) (ptrTo n)).eval y = .agg cells) (hi : (P.info? ty).map (·.size) = some cells.size) (hold : old.size = cells.size) (h1 : cells.all (·.oneCell') = true) : fillsM P ops m a := by
  intro n W os' hos' hW
  obtain rfl : os' = os := Option.some.inj (hos'.symm.trans hos)
  rw [hO] at hW
  rw [hO']
  have hr := run_storeVar_row (P := P) W n t ty old cells hW hi hold h1
  have hF := filledTo_setRow (cells := cells) hW
  have hx' := hx n
  have hy' := hy n
  simp only [ptrTo] at hx' hy'
  have e : (execOp (a.put (some m.d) (ptrTo n)).eval os').run P W = .ok .skip (W.setRow n cells) := by
    unfold execOp
    simp only [ho, ptrTo, hx', hy', Instr.storeAt, Instr.sureAddr, Sem.run_bind, Sem.run_pure, Result.andThen_ok, hr]
  rw [e]
  exact hF
section
variable {P : Program} {ops : Array Oper} {w0 : World} {sp : Nat → Bool} {S : Nat → Act → Prop} {Q : Act → Prop} {k : Nat} {a : Act} {o : Oper} {l : List Oper}
theorem spWalk_nil (h : Q a) : spWalk P ops w0 sp S Q k [] a := h
theorem spWalk_sp (hk : sp k = true) (hS : S k a) (h : spWalk P ops w0 sp S Q (k + 1) l a) : spWalk P ops w0 sp S Q k (o :: l) a := by
  unfold spWalk
  rw [if_pos hk]
  exact ⟨hS, h⟩
theorem spWalk_op (hk : sp k = false) (h : ∀ K : Act → Prop, (∀ a, spWalk P ops w0 sp S Q (k + 1) l a → K a) → if Region.wanted o (yielded ops a.tmps) then opGrows P w0 o a K else K (a.put o.dst undef)) : spWalk P ops w0 sp S Q k (o :: l) a := by
  unfold spWalk
  rw [if_neg (by rw [hk]; exact Bool.false_ne_true)]
  exact h _ (fun _ h => h)
end
theorem overlay_two {a : Act} {f : Nat → Option Value} {d1 d2 : Nat} {p1 p2 : Value} (h1 : f d1 = some p1) (h2 : f d2 = some p2) (hdom : ∀ t v, f t = some v → t = d1 ∨ t = d2) : overlay a f = (a.put (some d1) p1).put (some d2) p2 := by
  have e : f = over (over (fun _ => none) d1 p1) d2 p2 := by
    funext t
    unfold over
    by_cases e2 : t = d2
    · rw [if_pos e2, e2, h2]
    · rw [if_neg e2]
      by_cases e1 : t = d1
      · rw [if_pos e1, e1, h1]
      · rw [if_neg e1]
        cases hf : f t with
        | none => rfl
        | some v => exact ((hdom t v hf).elim e1 e2).elim
  rw [e, ← overlay_put, ← overlay_put, overlay_none]
theorem overlay_three {a : Act} {f : Nat → Option Value} {d1 d2 d3 : Nat} {p1 p2 p3 : Value} (h1 : f d1 = some p1) (h2 : f d2 = some p2) (h3 : f d3 = some p3) (hdom : ∀ t v, f t = some v → t = d1 ∨ t = d2 ∨ t = d3) : overlay a f = ((a.put (some d1) p1).put (some d2) p2).put (some d3) p3 := by
  have e : f = over (over (over (fun _ => none) d1 p1) d2 p2) d3 p3 := by
    funext t
    unfold over
    by_cases e3 : t = d3
    · rw [if_pos e3, e3, h3]
    · rw [if_neg e3]
      by_cases e2 : t = d2
      · rw [if_pos e2, e2, h2]
      · rw [if_neg e2]
        by_cases e1 : t = d1
        · rw [if_pos e1, e1, h1]
        · rw [if_neg e1]
          cases hf : f t with
          | none => rfl
          | some v => exact ((hdom t v hf).elim e1 (fun h => h.elim e2 e3)).elim
  rw [e, ← overlay_put, ← overlay_put, ← overlay_put, overlay_none]
def mk (j d s : Nat) (o o' : Obj) : Mk := (j, d, s, o, o')
/-- Two blocks. -/
theorem wp_region_makes2 {P : Program} {id : Nat} {Q : Exit → Act → World → Prop} {a : Act} {w : World} {l : List Oper} (j1 d1 s1 j2 d2 s2 : Nat) (o1 o1' o2 o2' : Obj) (hm : P.follows .mixedOrders = true) (hB : makesB .any l.toArray [mk j1 d1 s1 o1 o1', mk j2 d2 s2 o2 o2'] = true) {m1 m2 : Oper} (h1 : l[j1]? = some m1) (h2 : l[j2]? = some m2)
    (hal1 : ∀ (a : Act) (w : World), (execOp a.eval m1).run P w = .ok (.value (.pointer (some ⟨w.heap.size, 0, none⟩))) (w.alloc o1)) (hal2 : ∀ (a : Act) (w : World), (execOp a.eval m2).run P w = .ok (.value (.pointer (some ⟨w.heap.size, 0, none⟩))) (w.alloc o2))
    (h : spWalk P l.toArray w (isSp [mk j1 d1 s1 o1 o1', mk j2 d2 s2 o2 o2']) (asks P l.toArray [mk j1 d1 s1 o1 o1', mk j2 d2 s2 o2 o2']) (fun a' => ∀ n1 n2 W, Grows w W → w.heap.size ≤ n1 → w.heap.size ≤ n2 → (d1 ≠ d2 → n1 ≠ n2) → W.heap[n1]? = some o1' → W.heap[n2]? = some o2' → Q .normal ((a'.put (some d1) (.pointer (some ⟨n1, 0, none⟩))).put (some d2) (.pointer (some ⟨n2, 0, none⟩))) W) 0 l a) : (Code.region id l.toArray true).wp P Q a w := by
  refine wp_region_makes [mk j1 d1 s1 o1 o1', mk j2 d2 s2 o2 o2'] hm hB ?_ (spWalk_mono ?_ l 0 a h)
  · intro m hm oj hoj
    simp only [List.mem_cons, List.not_mem_nil, or_false] at hm
    rcases hm with rfl | rfl
    · obtain rfl : m1 = oj := Option.some.inj (h1.symm.trans (by simpa [mk, Mk.j] using hoj))
      exact hal1
    · obtain rfl : m2 = oj := Option.some.inj (h2.symm.trans (by simpa [mk, Mk.j] using hoj))
      exact hal2
  · intro a' ha f W hg hall hinj hdom
    obtain ⟨n1, f1, g1, w1⟩ := hall _ (List.mem_cons_self ..)
    obtain ⟨n2, f2, g2, w2⟩ := hall _ (List.mem_cons_of_mem _ (List.mem_cons_self ..))
    have e := overlay_two (a := a') (f := f) (d1 := d1) (d2 := d2) f1 f2 (fun t v ht => by
      obtain ⟨m, hm, hd⟩ := hdom t v ht
      simp only [List.mem_cons, List.not_mem_nil, or_false] at hm
      rcases hm with rfl | rfl
      · exact .inl hd.symm
      · exact .inr hd.symm)
    rw [e]
    refine ha n1 n2 W hg g1 g2 (fun hne hn => hne ?_) w1 w2
    subst hn
    exact hinj _ _ n1 f1 f2
theorem asks2 {P : Program} {ops : Array Oper} {m1 m2 : Mk} {k : Nat} {a : Act} (h1 : m1.s = k → fillsM P ops m1 a) (h2 : m2.s = k → fillsM P ops m2 a) : asks P ops [m1, m2] k a := by
  intro m hm hs
  simp only [List.mem_cons, List.not_mem_nil, or_false] at hm
  rcases hm with rfl | rfl
  · exact h1 hs
  · exact h2 hs
end Go.Proofs.Ytafokiobbceibaa
