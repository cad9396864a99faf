/-
  A region that draws its order and makes one new block, fills it, and beside that reads and makes calls that leave the world grown: one walk in the order of the text serves every order; the block and what it is filled with may come up at any time. No program in sight.
-/
import Derived.Test.YtepbknpdhiaepaaReg
namespace Go.Proofs.Ytepbknpdhiaepaa
/-- What an operation must come to in a world: one value, the world as it was; or a call that returns the value and leaves the world grown. -/
@[go_sem] def growUpon (P : Program) (w : World) (v : Value) : Result Next → Prop
  | .ok (.value u) w' => w' = w ∧ u = v
  | .ok .skip w' => w' = w ∧ v = undef
  | .ok (.enter f args) w' => w' = w ∧ Calls P f args w (Ret v w)
  | _ => False
@[go_sem] def opGrow (P : Program) (w0 : World) (o : Oper) (a : Act) (v : Value) : Prop := ∀ x : Gr, growUpon P (ext w0 x.h x.d) v ((execOp a.eval o).run P (ext w0 x.h x.d))
@[go_sem] def opGrows (P : Program) (w0 : World) (o : Oper) (a : Act) (next : Act → Prop) : Prop := ∃ v, opGrow P w0 o a v ∧ next (a.put o.dst v)
/-- The walk in the order of the text. -/
def wpGrow (P : Program) (ops : Array Oper) (w0 : World) (Q : Act → Prop) : List Oper → Act → Prop
  | [], a => Q a
  | o :: rest, a => if Region.wanted o (yielded ops a.tmps) then opGrows P w0 o a (wpGrow P ops w0 Q rest) else wpGrow P ops w0 Q rest (a.put o.dst undef)
section
variable {P : Program} {ops : Array Oper} {md : Region.Mode} {w0 : World}
theorem wpGrow_nil {Q : Act → Prop} {a : Act} (h : Q a) : wpGrow P ops w0 Q [] a := h
theorem wpGrow_step {Q : Act → Prop} {a : Act} {o : Oper} {rest : List Oper}
    (h : ∀ K : Act → Prop, (∀ a, wpGrow P ops w0 Q rest a → K a) → if Region.wanted o (yielded ops a.tmps) then opGrows P w0 o a K else K (a.put o.dst undef)) : wpGrow P ops w0 Q (o :: rest) a :=
  h _ (fun _ h => h)
/-- Operation number i comes up. -/
def gOp (P : Program) (ops : Array Oper) (w0 : World) (i : Nat) (K : Act → Prop) (a : Act) : Prop :=
  match ops[i]? with
  | none => K a
  | some o => if Region.wanted o (yielded ops a.tmps) then opGrows P w0 o a K else K (a.put o.dst undef)
theorem gOp_some {i : Nat} {o : Oper} (hi : ops[i]? = some o) (K : Act → Prop) (a : Act) : gOp P ops w0 i K a = if Region.wanted o (yielded ops a.tmps) then opGrows P w0 o a K else K (a.put o.dst undef) := by
  unfold gOp
  rw [hi]
def YieldsG (P : Program) (ops : Array Oper) (w0 : World) (o : Oper) (v : Value) (a : Act) : Prop :=
  (Region.wanted o (yielded ops a.tmps) = true ∧ opGrow P w0 o a v) ∨ (Region.wanted o (yielded ops a.tmps) = false ∧ v = undef)
theorem yieldsG_iff {i : Nat} {o : Oper} (hi : ops[i]? = some o) (K : Act → Prop) (a : Act) : gOp P ops w0 i K a ↔ ∃ v, YieldsG P ops w0 o v a ∧ K (a.put o.dst v) := by
  rw [gOp_some hi]
  cases hw : Region.wanted o (yielded ops a.tmps)
  · simp [YieldsG, hw]
  · simp [YieldsG, hw, opGrows]
theorem YieldsG.of_same {o : Oper} {v : Value} {a a' : Act} (hy : YieldsG P ops w0 o v a) (he : execOp a'.eval o = execOp a.eval o) (hw : Region.wanted o (yielded ops a'.tmps) = Region.wanted o (yielded ops a.tmps)) : YieldsG P ops w0 o v a' := by
  unfold YieldsG opGrow at *
  rw [he, hw]
  exact hy
theorem gOp_mono {i : Nat} {o : Oper} (hi : ops[i]? = some o) {a : Act} {K K' : Act → Prop} (h : ∀ a, K a → K' a) (hh : gOp P ops w0 i K a) : gOp P ops w0 i K' a := by
  rw [yieldsG_iff hi] at *
  obtain ⟨v, h1, h2⟩ := hh
  exact ⟨v, h1, h _ h2⟩
theorem wpOp_of_gOp {i : Nat} {o : Oper} (hi : ops[i]? = some o) {a : Act} {K : Act → Prop} {K' : Act → World → Prop} {Q : Exit → Act → World → Prop} {w : World} (x : Gr) (hx : w = ext w0 x.h x.d) (h : ∀ a w', Grows w w' → K a → K' a w') (hh : gOp P ops w0 i K a) : wpOp P ops Q i K' a w := by
  obtain ⟨v, hy, hk⟩ := (yieldsG_iff hi K a).1 hh
  subst hx
  unfold wpOp
  simp only [hi]
  rcases hy with ⟨hw, hv⟩ | ⟨hw, rfl⟩
  · rw [if_pos hw]
    refine .inl ?_
    have h3 := hv x
    unfold Oper.wp
    generalize (execOp a.eval o).run P (ext w0 x.h x.d) = r at *
    cases r with
    | ok nx w' =>
      cases nx <;> simp only [growUpon] at h3 <;> simp only [Oper.upon]
      case value u =>
        obtain ⟨e1, e2⟩ := h3
        rw [e1, e2]
        exact h _ _ (Grows.refl _) hk
      case skip =>
        obtain ⟨e1, e2⟩ := h3
        rw [e1, ← e2]
        exact h _ _ (Grows.refl _) hk
      case enter f args =>
        obtain ⟨e1, hc⟩ := h3
        rw [e1]
        exact hc.mono fun e w'' ⟨he, hw''⟩ => by subst he; exact h _ _ hw'' hk
    | halt q w' => simp only [growUpon] at h3
  · rw [if_neg (by rw [hw]; exact Bool.false_ne_true)]
    exact h _ _ (Grows.refl _) hk
/-- One operation apart from another one: whether its value is already in its temporary makes no difference. -/
theorem gOp_put {j : Nat} {oi oj : Oper} {v : Value} (hj : ops[j]? = some oj) (hap : oi.apart ops oj = true) (hsi : ∀ cs b, oi.op ≠ .select cs b) (hsj : ∀ cs b, oj.op ≠ .select cs b) {K : Act → Prop} {a : Act} (hy : YieldsG P ops w0 oi v a) (h : gOp P ops w0 j K (a.put oi.dst v)) :
    gOp P ops w0 j (fun a' => YieldsG P ops w0 oi v a' ∧ K (a'.put oi.dst v)) a := by
  obtain ⟨h1, h2, h3⟩ := Oper.apart_spec hap
  rw [yieldsG_iff hj] at *
  obtain ⟨u, hu, hk⟩ := h
  refine ⟨u, hu.of_same (execOp_put oj hsj a oi.dst v h1).symm (wanted_put oj a oi.dst v h1).symm, hy.of_same (execOp_put oi hsi a oj.dst u h3) (wanted_put oi a oj.dst u h3), ?_⟩
  rw [← Act.put_comm a v u h2]
  exact hk
theorem gOp_under {j : Nat} {oi oj : Oper} {v : Value} (hj : ops[j]? = some oj) (hap : oi.apart ops oj = true) (hsj : ∀ cs b, oj.op ≠ .select cs b) {K : Act → Prop} {a : Act} (h : gOp P ops w0 j K a) :
    gOp P ops w0 j (fun a' => ∃ a'', a' = a''.put oi.dst v ∧ K a'') (a.put oi.dst v) := by
  obtain ⟨h1, h2, h3⟩ := Oper.apart_spec hap
  rw [yieldsG_iff hj] at *
  obtain ⟨u, hu, hk⟩ := h
  exact ⟨u, hu.of_same (execOp_put oj hsj a oi.dst v h1) (wanted_put oj a oi.dst v h1), _, Act.put_comm a v u h2, hk⟩
/-- Where the new block lies. -/
@[go_sem] def newPtr (w0 : World) (x : Gr) : Value := .pointer (some ⟨(ext w0 x.h x.d).heap.size, 0, none⟩)
/-- The store fills the new block: O becomes O'. -/
@[go_sem] def fillUpon (w' : World) : Result Next → Prop
  | .ok (.value _) w'' => w'' = w'
  | .ok .skip w'' => w'' = w'
  | _ => False
@[go_sem] def fills (P : Program) (w0 : World) (d : Option Tmp) (os : Oper) (O O' : Obj) (a : Act) : Prop :=
  ∀ x y : Gr, fillUpon (ext ((ext w0 x.h x.d).alloc O') y.h y.d) ((execOp (a.put d (newPtr w0 x)).eval os).run P (ext ((ext w0 x.h x.d).alloc O) y.h y.d))
/-- Operation number i comes up: number j makes the block, number s fills it, all others are quiet. -/
def xOp (P : Program) (ops : Array Oper) (w0 : World) (j s : Nat) (S : Act → Prop) (i : Nat) (K : Act → Prop) (a : Act) : Prop :=
  if i = j then K a else if i = s then S a ∧ K a else gOp P ops w0 i K a
def xAny (P : Program) (md : Region.Mode) (ops : Array Oper) (w0 : World) (j s : Nat) (S : Act → Prop) (Q : Act → Prop) : Nat → Array Bool → Act → Prop
  | 0, listed, a => Region.ready md ops listed = [] ∧ (listed.getD j false = true ∧ listed.getD s false = true) ∧ Q a
  | f + 1, listed, a => (Region.ready md ops listed = [] → (listed.getD j false = true ∧ listed.getD s false = true) ∧ Q a) ∧ ∀ i ∈ Region.ready md ops listed, xOp P ops w0 j s S i (xAny P md ops w0 j s S Q f (listed.setIfInBounds i true)) a
section
variable {j s : Nat} {S : Act → Prop} {Q : Act → Prop}
/-- What is known of operation i in a state: its value, or that it fills. -/
def xKnown (P : Program) (ops : Array Oper) (w0 : World) (j s : Nat) (S : Act → Prop) (i : Nat) (o : Oper) (v : Value) (a : Act) : Prop :=
  if i = j then True else if i = s then S a else YieldsG P ops w0 o v a
def xPut (j s i : Nat) (o : Oper) (v : Value) (a : Act) : Act := if i = j then a else if i = s then a else a.put o.dst v
theorem xOp_iff {i : Nat} {o : Oper} (hi : ops[i]? = some o) (K : Act → Prop) (a : Act) : xOp P ops w0 j s S i K a ↔ ∃ v, xKnown P ops w0 j s S i o v a ∧ K (xPut j s i o v a) := by
  unfold xOp xKnown xPut
  by_cases h1 : i = j
  · simp [h1]
  · by_cases h2 : i = s
    · simp only [h2, if_true]
      subst h2
      simp only [if_neg h1]
      exact ⟨fun ⟨p, q⟩ => ⟨undef, p, q⟩, fun ⟨_, p, q⟩ => ⟨p, q⟩⟩
    · simp only [h1, h2, if_false]
      exact yieldsG_iff hi K a
theorem xOp_mono {i : Nat} {o : Oper} (hi : ops[i]? = some o) {a : Act} {K K' : Act → Prop} (h : ∀ a, K a → K' a) (hh : xOp P ops w0 j s S i K a) : xOp P ops w0 j s S i K' a := by
  rw [xOp_iff hi] at *
  obtain ⟨v, h1, h2⟩ := hh
  exact ⟨v, h1, h _ h2⟩
/-- S hangs on nothing that an operation apart from number s writes. -/
def Steady (ops : Array Oper) (s : Nat) (S : Act → Prop) : Prop := ∀ (os : Oper), ops[s]? = some os → ∀ (o : Oper) (a : Act) (v : Value), (os.apart ops o = true ∨ o.apart ops os = true) → (S (a.put o.dst v) ↔ S a)
theorem xKnown_put {i k : Nat} {oi ok : Oper} {v u : Value} (hi : ops[i]? = some oi) (_hk : ops[k]? = some ok) (_hki : k ≠ i) (hap : oi.apart ops ok = true) (hsi : ∀ cs b, oi.op ≠ .select cs b) (hS : Steady ops s S) {a : Act} :
    xKnown P ops w0 j s S i oi v (xPut j s k ok u a) ↔ xKnown P ops w0 j s S i oi v a := by
  obtain ⟨h1, h2, h3⟩ := Oper.apart_spec hap
  unfold xKnown xPut
  by_cases q1 : k = j
  · simp [q1]
  · by_cases q2 : k = s
    · simp [q2]
    · simp only [q1, q2, if_false]
      by_cases p1 : i = j
      · simp [p1]
      · by_cases p2 : i = s
        · subst p2
          simp only [p1, if_false, if_true]
          exact hS oi hi ok a u (.inl hap)
        · simp only [p1, p2, if_false]
          have e1 := execOp_put (ops := ops) oi hsi a ok.dst u h3
          have e2 := wanted_put (ops := ops) oi a ok.dst u h3
          exact ⟨fun h => h.of_same e1.symm e2.symm, fun h => h.of_same e1 e2⟩
theorem xPut_comm {i k : Nat} {oi ok : Oper} {v u : Value} (hap : oi.apart ops ok = true) (a : Act) : xPut j s k ok u (xPut j s i oi v a) = xPut j s i oi v (xPut j s k ok u a) := by
  obtain ⟨h1, h2, h3⟩ := Oper.apart_spec hap
  unfold xPut
  split <;> split <;> (try split) <;> (try split) <;> first | rfl | exact Act.put_comm a v u h2
theorem apart_symm {x y : Oper} (h : x.apart ops y = true) : y.apart ops x = true := by
  obtain ⟨h1, h2, h3⟩ := Oper.apart_spec h
  unfold Oper.apart
  rw [Bool.and_eq_true]
  constructor
  · cases hy : y.dst with
    | none => rfl
    | some d =>
      simp only [Bool.and_eq_true, Bool.not_eq_true', bne_iff_ne]
      refine ⟨by simpa using h3 d hy, fun e => h2 d e hy⟩
  · cases hx : x.dst with
    | none => rfl
    | some d => simpa using h1 d hx
theorem xOp_put {i k : Nat} {oi ok : Oper} {v : Value} (hi : ops[i]? = some oi) (hk : ops[k]? = some ok) (hki : k ≠ i) (hap : oi.apart ops ok = true) (hsi : ∀ cs b, oi.op ≠ .select cs b) (hsk : ∀ cs b, ok.op ≠ .select cs b) (hS : Steady ops s S) {K : Act → Prop} {a : Act}
    (hy : xKnown P ops w0 j s S i oi v a) (h : xOp P ops w0 j s S k K (xPut j s i oi v a)) : xOp P ops w0 j s S k (fun a' => xKnown P ops w0 j s S i oi v a' ∧ K (xPut j s i oi v a')) a := by
  rw [xOp_iff hk] at *
  obtain ⟨u, hu, hK⟩ := h
  refine ⟨u, (xKnown_put hk hi (Ne.symm hki) (apart_symm hap) hsk hS).1 hu, (xKnown_put hi hk hki hap hsi hS).2 hy, ?_⟩
  rw [← xPut_comm (oi := oi) (ok := ok) hap]
  exact hK
theorem xAny_first {i : Nat} {oi : Oper} {v : Value} (hi : ops[i]? = some oi) (hsel : ∀ (j : Nat) (o : Oper) cs b, ops[j]? = some o → o.op ≠ .select cs b) (hS : Steady ops s S) :
    ∀ (f : Nat) (listed : Array Bool) (a : Act),
      (∀ k ok, ops[k]? = some ok → k ≠ i → listed.getD k true = false → (∀ e ∈ ok.after, Region.binds md e = true → e.on ≠ i) → oi.apart ops ok = true) →
      i ∈ Region.ready md ops listed → xKnown P ops w0 j s S i oi v a →
      xAny P md ops w0 j s S Q f (listed.setIfInBounds i true) (xPut j s i oi v a) → xAny P md ops w0 j s S Q (f + 1) listed a := by
  intro f
  induction f with
  | zero =>
    intro listed a hfree hr hy H
    refine ⟨fun h => (by rw [h] at hr; cases hr), fun k hk => ?_⟩
    by_cases hki : k = i
    · subst hki
      exact (xOp_iff hi _ _).2 ⟨v, hy, H⟩
    · have := ready_mono hk hki
      rw [H.1] at this
      cases this
  | succ f ih =>
    intro listed a hfree hr hy H
    refine ⟨fun h => (by rw [h] at hr; cases hr), fun k hk => ?_⟩
    by_cases hki : k = i
    · subst hki
      exact (xOp_iff hi _ _).2 ⟨v, hy, H⟩
    · have h1 := H.2 k (ready_mono hk hki)
      obtain ⟨hkun, ok, hok, hall⟩ := mem_ready.1 hk
      have hnot : ∀ e ∈ ok.after, Region.binds md e = true → e.on ≠ i := fun e he hb heq => by
        have h1 := hall e he hb
        rw [heq, getD_both (mem_ready.1 hr).1] at h1
        cases h1
      have h2 := xOp_put hi hok hki (hfree k ok hok hki hkun hnot) (fun cs b => hsel i oi cs b hi) (fun cs b => hsel k ok cs b hok) hS hy h1
      refine xOp_mono hok (fun a' h3 => ih (listed.setIfInBounds k true) a' (fun m om hm hmi hun hno => hfree m om hm hmi ?_ hno) (ready_mono hr (Ne.symm hki)) h3.1 ?_) h2
      · by_cases hkm : k = m
        · subst hkm
          exact hkun
        · rwa [getD_set_ne true hkm] at hun
      · rw [Array.setIfInBounds_comm _ _ hki]
        exact h3.2
/-- The walk in the order of the text, with the two operations passed over. -/
def xWalk (P : Program) (ops : Array Oper) (w0 : World) (j s : Nat) (S : Act → Prop) (Q : Act → Prop) : Nat → List Oper → Act → Prop
  | _, [], a => Q a
  | k, o :: l, a => if k = j then xWalk P ops w0 j s S Q (k + 1) l a else if k = s then S a ∧ xWalk P ops w0 j s S Q (k + 1) l a
    else if Region.wanted o (yielded ops a.tmps) then opGrows P w0 o a (xWalk P ops w0 j s S Q (k + 1) l) else xWalk P ops w0 j s S Q (k + 1) l (a.put o.dst undef)
theorem xWalk_mono {Q2 : Act → Prop} (hQ : ∀ a, Q a → Q2 a) : ∀ (l : List Oper) (k : Nat) (a : Act), xWalk P ops w0 j s S Q k l a → xWalk P ops w0 j s S Q2 k l a
  | [], _, a, h => hQ a h
  | o :: l, k, a, h => by
    unfold xWalk at h ⊢
    by_cases h1 : k = j
    · rw [if_pos h1] at h ⊢
      exact xWalk_mono hQ l _ _ h
    · rw [if_neg h1] at h ⊢
      by_cases h2 : k = s
      · rw [if_pos h2] at h ⊢
        exact ⟨h.1, xWalk_mono hQ l _ _ h.2⟩
      · rw [if_neg h2] at h ⊢
        split at h
        · rename_i hw
          rw [if_pos hw]
          obtain ⟨v, hv, hk⟩ := h
          exact ⟨v, hv, xWalk_mono hQ l _ _ hk⟩
        · rename_i hw
          rw [if_neg hw]
          exact xWalk_mono hQ l _ _ h
def lexX (md : Region.Mode) (ops : Array Oper) (j s : Nat) : Nat → Nat → Array Bool → Bool
  | 0, _, listed => (Region.ready md ops listed).isEmpty && (listed.getD j false && listed.getD s false)
  | f + 1, k, listed => (Region.ready md ops listed).contains k && Region.free md ops listed k && lexX md ops j s f (k + 1) (listed.setIfInBounds k true)
theorem xAny_lex (hsel : ∀ (j : Nat) (o : Oper) cs b, ops[j]? = some o → o.op ≠ .select cs b) (hS : Steady ops s S) :
    ∀ (l : List Oper) (k : Nat) (listed : Array Bool) (a : Act), (∀ m, l[m]? = ops[k + m]?) → lexX md ops j s l.length k listed = true → xWalk P ops w0 j s S Q k l a → xAny P md ops w0 j s S Q l.length listed a
  | [], k, listed, a, _, hB, h => by
    simp only [List.length_nil, lexX, Bool.and_eq_true, List.isEmpty_iff] at hB
    exact ⟨hB.1, hB.2, h⟩
  | o :: l, k, listed, a, hl, hB, h => by
    have h0 : ops[k]? = some o := by simpa using (hl 0).symm
    simp only [List.length_cons, lexX, Bool.and_eq_true] at hB
    obtain ⟨⟨hr, hf⟩, hB'⟩ := hB
    have hst : xOp P ops w0 j s S k (xWalk P ops w0 j s S Q (k + 1) l) a := by
      unfold xOp
      unfold xWalk at h
      by_cases h1 : k = j
      · simpa [h1] using h
      · by_cases h2 : k = s
        · simpa [h1, h2] using h
        · rw [if_neg h1, if_neg h2] at h ⊢
          rw [gOp_some h0]
          exact h
    obtain ⟨v, hy, hK⟩ := (xOp_iff h0 _ _).1 hst
    exact xAny_first h0 hsel hS l.length listed a (Region.free_spec h0 hf) (by simpa using hr) hy
      (xAny_lex hsel hS l (k + 1) _ _ (fun m => by have := hl (m + 1); simpa [Nat.add_assoc, Nat.add_comm 1 m] using this) hB' hK)
end
/-- How far the two operations have come, with the frame and the world that belong to it. -/
def stage (w0 : World) (d : Option Tmp) (O O' : Obj) (bj bs : Bool) (a a' : Act) (W : World) : Prop :=
  match bj, bs with
  | false, false => a' = a ∧ ∃ x : Gr, W = ext w0 x.h x.d
  | true, false => ∃ x y : Gr, a' = a.put d (newPtr w0 x) ∧ W = ext ((ext w0 x.h x.d).alloc O) y.h y.d
  | true, true => ∃ x y : Gr, a' = a.put d (newPtr w0 x) ∧ W = ext ((ext w0 x.h x.d).alloc O') y.h y.d
  | false, true => False
theorem grown_alloc (x : Gr) (y : Gr) (O : Obj) : Grows w0 (ext ((ext w0 x.h x.d).alloc O) y.h y.d) := Grows.ext (Grows.alloc ⟨_, _, rfl⟩ O) _ _
theorem xAny_sound {j s : Nat} {Q : Act → Prop} {Q' : Exit → Act → World → Prop} {oj os : Oper} {O O' : Obj} (hsel : ∀ (j : Nat) (o : Oper) cs b, ops[j]? = some o → o.op ≠ .select cs b)
    (hj : ops[j]? = some oj) (hs : ops[s]? = some os) (hjs : j ≠ s) (hgj : oj.guard = none) (hgs : os.guard = none) (hds : os.dst = none) (hwait : Region.waitsFor md ops s j = true)
    (hap : ∀ i oi, ops[i]? = some oi → i ≠ j → i ≠ s → oj.apart ops oi = true)
    (hal : ∀ (a : Act) (w : World), (execOp a.eval oj).run P w = .ok (.value (.pointer (some ⟨w.heap.size, 0, none⟩))) (w.alloc O))
    (hQ : ∀ (a : Act) (x y : Gr), Q a → Q' .normal (a.put oj.dst (newPtr w0 x)) (ext ((ext w0 x.h x.d).alloc O') y.h y.d)) :
    ∀ (f : Nat) (listed : Array Bool) (a a' : Act) (W : World), listed.size = ops.size → stage w0 oj.dst O O' (listed.getD j false) (listed.getD s false) a a' W → xAny P md ops w0 j s (fills P w0 oj.dst os O O') Q f listed a → wpAny P md ops Q' f listed a' W := by
  have hjlt : j < ops.size := (Array.getElem?_eq_some_iff.1 hj).1
  have hslt : s < ops.size := (Array.getElem?_eq_some_iff.1 hs).1
  have fin : ∀ (listed : Array Bool) (a a' : Act) (W : World), stage w0 oj.dst O O' (listed.getD j false) (listed.getD s false) a a' W → listed.getD j false = true ∧ listed.getD s false = true → Q a → Q' .normal a' W := by
    intro listed a a' W hst hd hq
    rw [hd.1, hd.2] at hst
    obtain ⟨x, y, rfl, rfl⟩ := hst
    exact hQ a x y hq
  intro f
  induction f with
  | zero =>
    intro listed a a' W _ hst h
    exact ⟨h.1, fin listed a a' W hst h.2.1 h.2.2⟩
  | succ f ih =>
    intro listed a a' W hsz hst h
    refine ⟨fun h0 => fin listed a a' W hst (h.1 h0).1 (h.1 h0).2, fun i hi => ?_⟩
    have hx := h.2 i hi
    have hun := (mem_ready.1 hi).1
    have hsz2 : (listed.setIfInBounds i true).size = ops.size := by simpa using hsz
    by_cases hij : i = j
    · subst hij
      have e1 : listed.getD i false = false := getD_both hun
      have e2 : listed.getD s false = false := by
        cases hc : listed.getD s false with
        | false => rfl
        | true =>
          rw [e1, hc] at hst
          exact hst.elim
      rw [e1, e2] at hst
      obtain ⟨e5, x, rfl⟩ := hst
      obtain rfl : a = a' := e5.symm
      simp only [xOp, if_true] at hx
      unfold wpOp
      simp only [hj]
      rw [if_pos (by simp [Region.wanted, hgj])]
      refine .inl ?_
      unfold Oper.wp
      rw [hal]
      refine ih _ a _ _ hsz2 ?_ hx
      have e3 : (listed.setIfInBounds i true).getD i false = true := by simp [hsz, hjlt]
      have e4 : (listed.setIfInBounds i true).getD s false = false := by rw [getD_set_ne false hjs]; exact e2
      rw [e3, e4]
      exact ⟨x, Gr.mk #[] (ext w0 x.h x.d).drawn, rfl, by simp [ext, World.alloc, Gr.mk, Gr.h, Gr.d]⟩
    · by_cases his : i = s
      · subst his
        have e2 : listed.getD i false = false := getD_both hun
        obtain ⟨o2, ho2, e, he, hb, hon⟩ := Region.waitsFor_spec hwait
        have e1 : listed.getD j false = true := by
          obtain ⟨_, o3, ho3, hall⟩ := mem_ready.1 hi
          obtain rfl : o2 = o3 := Option.some.inj (ho2.symm.trans ho3)
          have := hall e he hb
          rwa [hon] at this
        rw [e1, e2] at hst
        obtain ⟨x, y, rfl, rfl⟩ := hst
        simp only [xOp, hij, if_false, if_true] at hx
        obtain ⟨hf, hx⟩ := hx
        unfold wpOp
        simp only [hs]
        rw [if_pos (by simp [Region.wanted, hgs])]
        refine .inl ?_
        have hf2 := hf x y
        have go : ∀ v, wpAny P md ops Q' f (listed.setIfInBounds i true) ((a.put oj.dst (newPtr w0 x)).put os.dst v) (ext ((ext w0 x.h x.d).alloc O') y.h y.d) := by
          intro v
          rw [hds]
          refine ih _ a _ _ hsz2 ?_ hx
          have e3 : (listed.setIfInBounds i true).getD i false = true := by simp [hsz, hslt]
          have e4 : (listed.setIfInBounds i true).getD j false = true := by rw [getD_set_ne false hij]; exact e1
          rw [e3, e4]
          exact ⟨x, y, rfl, rfl⟩
        unfold Oper.wp
        generalize (execOp (a.put oj.dst (newPtr w0 x)).eval os).run P _ = r at *
        cases r with
        | ok nx w' =>
          cases nx <;> simp only [fillUpon] at hf2 <;> simp only [Oper.upon]
          case value u =>
            rw [hf2]
            exact go u
          case skip =>
            rw [hf2]
            exact go _
        | halt q w' => simp only [fillUpon] at hf2
      · obtain ⟨oi, hoi⟩ : ∃ o, ops[i]? = some o := by
          obtain ⟨_, o, ho, _⟩ := mem_ready.1 hi
          exact ⟨o, ho⟩
        simp only [xOp, hij, his, if_false] at hx
        have e3 : (listed.setIfInBounds i true).getD j false = listed.getD j false := getD_set_ne false hij
        have e4 : (listed.setIfInBounds i true).getD s false = listed.getD s false := getD_set_ne false his
        cases hbj : listed.getD j false with
        | false =>
          cases hbs : listed.getD s false with
          | true =>
            rw [hbj, hbs] at hst
            exact hst.elim
          | false =>
            rw [hbj, hbs] at hst
            obtain ⟨rfl, x, rfl⟩ := hst
            refine wpOp_of_gOp hoi x rfl ?_ hx
            rintro a2 w2 ⟨y, d, rfl⟩ hk
            refine ih _ a2 a2 _ hsz2 ?_ hk
            rw [e3, e4, hbj, hbs]
            exact ⟨rfl, Gr.mk (x.h ++ y) d, ext_ext _ _ _ _ _⟩
        | true =>
          have fwd : ∀ (x y : Gr) (OO : Obj), a' = a.put oj.dst (newPtr w0 x) → W = ext ((ext w0 x.h x.d).alloc OO) y.h y.d →
              (∀ (a2 : Act) (y2 : Gr), stage w0 oj.dst O O' true (listed.getD s false) a2 (a2.put oj.dst (newPtr w0 x)) (ext ((ext w0 x.h x.d).alloc OO) y2.h y2.d)) → wpOp P ops Q' i (wpAny P md ops Q' f (listed.setIfInBounds i true)) a' W := by
            rintro x y OO rfl rfl hstage
            obtain ⟨z, dz, hz⟩ := grown_alloc (w0 := w0) x y OO
            refine wpOp_of_gOp hoi (Gr.mk z dz) hz ?_ (gOp_under (oi := oj) (v := newPtr w0 x) hoi (hap i oi hoi hij his) (fun cs b => hsel i oi cs b hoi) hx)
            rintro a3 w3 ⟨y3, d3, rfl⟩ ⟨a2, rfl, hk⟩
            refine ih _ a2 _ _ hsz2 ?_ hk
            rw [e3, e4, hbj, ext_ext]
            exact hstage a2 (Gr.mk (y.h ++ y3) d3)
          rw [hbj] at hst
          cases hbs : listed.getD s false with
          | false =>
            rw [hbs] at hst fwd
            obtain ⟨x, y, e5, e6⟩ := hst
            exact fwd x y O e5 e6 (fun a2 y2 => ⟨x, y2, rfl, rfl⟩)
          | true =>
            rw [hbs] at hst fwd
            obtain ⟨x, y, e5, e6⟩ := hst
            exact fwd x y O' e5 e6 (fun a2 y2 => ⟨x, y2, rfl, rfl⟩)
end
/-- The conditions on a region of this form, as a Bool. -/
def fillB (md : Region.Mode) (ops : Array Oper) (j s : Nat) : Bool :=
  Region.noSelect ops && decide (j ≠ s) && Region.waitsFor md ops s j && lexX md ops j s ops.size 0 (Array.replicate ops.size false) &&
  ((List.range ops.size).all fun i => i == j || i == s || match ops[i]?, ops[j]? with
    | some oi, some oj => oj.apart ops oi
    | _, _ => false)
theorem put_again (a : Act) (d : Option Tmp) (u v : Value) : (a.put d u).put d v = a.put d v := by
  cases d <;> simp [Act.put]
theorem fills_steady {P : Program} {ops : Array Oper} {w0 : World} {s : Nat} {d : Option Tmp} {os : Oper} {O O' : Obj} (hs : ops[s]? = some os) (hsel : ∀ cs b, os.op ≠ .select cs b) : Steady ops s (fills P w0 d os O O') := by
  intro os' hos' o a v hap
  obtain rfl : os' = os := Option.some.inj (hos'.symm.trans hs)
  have hap : os'.apart ops o = true := hap.elim id apart_symm
  obtain ⟨h1, h2, h3⟩ := Oper.apart_spec hap
  unfold fills
  have key : ∀ x : Gr, execOp ((a.put o.dst v).put d (newPtr w0 x)).eval os' = execOp (a.put d (newPtr w0 x)).eval os' := by
    intro x
    by_cases hd : o.dst = d
    · rw [hd, put_again]
    · have e : (a.put o.dst v).put d (newPtr w0 x) = (a.put d (newPtr w0 x)).put o.dst v := Act.put_comm a _ _ (fun t ht e => hd (ht.trans e.symm))
      rw [e]
      exact execOp_put (ops := ops) os' hsel _ o.dst v h3
  simp only [key]
/-- A region that makes a block (number j) and fills it (number s). -/
theorem wp_region_fill {P : Program} {id : Nat} {Q : Exit → Act → World → Prop} {a : Act} {w : World} {l : List Oper} (j s : Nat) (O : Obj) {O' : Obj} {oj os : Oper} (hm : P.follows .mixedOrders = true) (hB : fillB .any l.toArray j s = true) (hj : l[j]? = some oj) (hs : l[s]? = some os) (hgj : oj.guard = none) (hgs : os.guard = none) (hds : os.dst = none)
    (hal : ∀ (a : Act) (w : World), (execOp a.eval oj).run P w = .ok (.value (.pointer (some ⟨w.heap.size, 0, none⟩))) (w.alloc O))
    (h : xWalk P l.toArray w j s (fills P w oj.dst os O O') (fun a' => ∀ (x y : Gr), Q .normal (a'.put oj.dst (newPtr w x)) (ext ((ext w x.h x.d).alloc O') y.h y.d)) 0 l a) : (Code.region id l.toArray true).wp P Q a w := by
  simp only [fillB, Bool.and_eq_true, decide_eq_true_eq] at hB
  obtain ⟨⟨⟨⟨hsel, hjs⟩, hwait⟩, hlex⟩, hall⟩ := hB
  have hj' : l.toArray[j]? = some oj := by simpa using hj
  have hs' : l.toArray[s]? = some os := by simpa using hs
  have hsel' := Region.noSelect_spec hsel
  have hap : ∀ i oi, l.toArray[i]? = some oi → i ≠ j → i ≠ s → oj.apart l.toArray oi = true := by
    intro i oi hoi h1 h2
    have h3 := List.all_eq_true.1 hall i (List.mem_range.2 (Array.getElem?_eq_some_iff.1 hoi).1)
    simpa [h1, h2, hoi, hj'] using h3
  refine wp_region_any hm ?_
  have H := xAny_lex (P := P) (w0 := w) (md := .any) hsel' (fills_steady hs' (fun cs b => hsel' s os cs b hs')) l 0 (Array.replicate l.toArray.size false) a (by simp) (by simpa using hlex) h
  have H2 := xAny_sound (Q' := Q) hsel' hj' hs' hjs hgj hgs hds hwait hap hal (fun a x y hq => hq x y) _ _ a a { w with drawn := w.drawn + 1 } (by simp) (by
    rw [getD_replicate_false, getD_replicate_false]
    exact ⟨rfl, Gr.mk #[] (w.drawn + 1), by simp [ext, Gr.mk, Gr.h, Gr.d]⟩) H
  simpa using H2
/-- The same in a world that is grown already. -/
theorem wp_region_fill_ext {P : Program} {id : Nat} {Q : Exit → Act → World → Prop} {a : Act} {w : World} {h0 : Array Obj} {d0 : Nat} {l : List Oper} (j s : Nat) (O : Obj) {O' : Obj} {oj os : Oper} (hm : P.follows .mixedOrders = true) (hB : fillB .any l.toArray j s = true) (hj : l[j]? = some oj) (hs : l[s]? = some os) (hgj : oj.guard = none) (hgs : os.guard = none) (hds : os.dst = none)
    (hal : ∀ (a : Act) (w : World), (execOp a.eval oj).run P w = .ok (.value (.pointer (some ⟨w.heap.size, 0, none⟩))) (w.alloc O))
    (h : xWalk P l.toArray (ext w h0 d0) j s (fills P (ext w h0 d0) oj.dst os O O') (fun a' => ∀ (x y : Gr), Q .normal (a'.put oj.dst (newPtr w x)) (ext ((ext w x.h x.d).alloc O') y.h y.d)) 0 l a) : (Code.region id l.toArray true).wp P Q a (ext w h0 d0) := by
  refine wp_region_fill j s O hm hB hj hs hgj hgs hds hal (xWalk_mono (fun a' ha x y => ?_) l 0 a h)
  have := ha (Gr.mk (h0 ++ x.h) x.d) y
  simpa only [newPtr, ext_ext, Gr.h_mk, Gr.d_mk] using this
section
variable {P : Program} {ops : Array Oper} {w0 : World} {j s k : Nat} {S : Act → Prop} {Q : Act → Prop} {a : Act} {o : Oper} {l : List Oper}
theorem xWalk_nil (h : Q a) : xWalk P ops w0 j s S Q k [] a := h
theorem xWalk_make (hk : k = j) (h : xWalk P ops w0 j s S Q (k + 1) l a) : xWalk P ops w0 j s S Q k (o :: l) a := by
  unfold xWalk
  rw [if_pos hk]
  exact h
theorem xWalk_fill (hk : k ≠ j) (hs : k = s) (hS : S a) (h : xWalk P ops w0 j s S Q (k + 1) l a) : xWalk P ops w0 j s S Q k (o :: l) a := by
  unfold xWalk
  rw [if_neg hk, if_pos hs]
  exact ⟨hS, h⟩
theorem xWalk_op (hk : k ≠ j) (hs : k ≠ s) (h : ∀ K : Act → Prop, (∀ a, xWalk P ops w0 j s S Q (k + 1) l a → K a) → if Region.wanted o (yielded ops a.tmps) then opGrows P w0 o a K else K (a.put o.dst undef)) : xWalk P ops w0 j s S Q k (o :: l) a := by
  unfold xWalk
  rw [if_neg hk, if_neg hs]
  exact h _ (fun _ h => h)
end
end Go.Proofs.Ytepbknpdhiaepaa
