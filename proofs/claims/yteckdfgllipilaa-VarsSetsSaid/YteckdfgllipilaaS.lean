/- A small logic of frames and separate blocks, in which functions that write memory are walked: no statement of this work is in it. -/
import Derived.Test.YteckdfgllipilaaWTab
import Derived.Test.YteckdfgllipilaaWMore
namespace Go.Proofs.YteckdfgllipilaaS
open Go.RowKit Go.Proofs.YteckdfgllipilaaW.PrintWords Go.Proofs.YteckdfgllipilaaW.PrintLast

/-! ### 1. What is known of a frame -/
abbrev Env := List (Nat × Value)
def look : Env → Nat → Option Value
  | [], _ => none
  | (t, v) :: r, u => bif Nat.beq t u then some v else look r u
def ev (ρ : Env) : Operand → Option Value
  | .tmp t => look ρ t
  | .const v => some v
  | .global g => some (.pointer (some ⟨g, 0, none⟩))
  | .func f => some (.func (.func f) #[] #[])
def evs (ρ : Env) : List Operand → Option (List Value)
  | [] => some []
  | x :: r => match ev ρ x with
    | some v => match evs ρ r with
      | some vs => some (v :: vs)
      | none => none
    | none => none
def nxt (ρ : Env) (d : Option Tmp) (v : Value) : Env := match d with
  | some t => (t, v) :: ρ
  | none => ρ
def inb (n : Nat) (d : Option Tmp) : Bool := match d with
  | some t => Nat.blt t n
  | none => true
structure Fr (a : Act) (n : Nat) (ρ : Env) : Prop where
  size : a.tmps.size = n
  defers : a.defers = []
  at_ : ∀ t v, look ρ t = some v → a.tmps[t]? = some v
def Subs (ρ : Env) : Env → Prop
  | [] => True
  | (t, v) :: r => look ρ t = some v ∧ Subs ρ r
section
variable {a : Act} {n : Nat} {ρ ρ' : Env}
theorem Fr.eval (h : Fr a n ρ) {x : Operand} {v : Value} (e : ev ρ x = some v) : a.eval x = v := by
  cases x with
  | tmp t => simp [Act.eval, Array.getD_eq_getD_getElem?, h.at_ _ _ e]
  | const u => exact Option.some.inj e
  | global g => exact Option.some.inj e
  | func f => exact Option.some.inj e
theorem Fr.evals (h : Fr a n ρ) : ∀ {xs : List Operand} {vs : List Value}, evs ρ xs = some vs → xs.map a.eval = vs
  | [], vs, e => by simp [evs] at e; simp [e]
  | x :: r, vs, e => by
    simp only [evs] at e
    cases h1 : ev ρ x with
    | none => rw [h1] at e; cases e
    | some v =>
      rw [h1] at e
      cases h2 : evs ρ r with
      | none => rw [h2] at e; cases e
      | some vs' =>
        rw [h2] at e
        cases e
        rw [List.map_cons, h.eval h1, h.evals h2]
theorem Fr.put1 (h : Fr a n ρ) {d : Tmp} (hd : Nat.blt d n = true) (v : Value) : Fr (a.put (some d) v) n ((d, v) :: ρ) := by
  have hd' : d < a.tmps.size := by rw [h.size]; simpa using hd
  refine ⟨by simp [Act.put, h.size], h.defers, fun t u e => ?_⟩
  simp only [look] at e
  simp only [Act.put, Array.getElem?_setIfInBounds]
  by_cases hb : d = t
  · subst hb
    simp at e
    simp [hd', e]
  · have : Nat.beq d t = false := by
      rw [← Bool.not_eq_true, Nat.beq_eq]; exact hb
    rw [this] at e
    simp [hb, h.at_ t u e]
theorem Fr.put (h : Fr a n ρ) {d : Option Tmp} (hd : inb n d = true) (v : Value) : Fr (a.put d v) n (nxt ρ d v) := by
  cases d with
  | none => exact h
  | some t => exact h.put1 hd v
theorem Fr.sub (h : Fr a n ρ) : ∀ {ρ' : Env}, Subs ρ ρ' → Fr a n ρ'
  | [], _ => ⟨h.size, h.defers, fun t v e => by simp [look] at e⟩
  | p :: r, s => by
    have ih := h.sub s.2
    refine ⟨h.size, h.defers, fun t v e => ?_⟩
    simp only [look] at e
    by_cases hb : p.1 = t
    · subst hb
      simp at e
      subst e
      exact h.at_ _ _ s.1
    · have : Nat.beq p.1 t = false := by
        rw [← Bool.not_eq_true, Nat.beq_eq]; exact hb
      rw [this] at e
      exact ih.at_ t v e
theorem Fr.learn (h : Fr a n ρ) {t : Nat} {v v' : Value} (e : look ρ t = some v) (hv : v = v') : Fr a n ((t, v') :: ρ) := by
  subst hv
  refine ⟨h.size, h.defers, fun u w hw => ?_⟩
  simp only [look] at hw
  by_cases hb : t = u
  · subst hb
    simp at hw
    subst hw
    exact h.at_ _ _ e
  · have : Nat.beq t u = false := by
      rw [← Bool.not_eq_true, Nat.beq_eq]; exact hb
    rw [this] at hw
    exact h.at_ u w hw
end
/-- What is known of the slot that an operation fills. -/
def slotOf (ops : Array Oper) (ρ : Env) (j : Nat) : Option Value := match (ops[j]?).bind (·.dst) with
  | some t => look ρ t
  | none => none
/-- Is an operation wanted? 'none': that is not known. -/
def wants (ops : Array Oper) (ρ : Env) (o : Oper) : Option Bool := match o.guard with
  | none => some true
  | some (j, want) => match slotOf ops ρ j with
    | some (.bool b) => some (bif want then b else !b)
    | some (.tuple _) => some false
    | _ => none
theorem Fr.slot {a : Act} {n : Nat} {ρ : Env} (h : Fr a n ρ) {ops : Array Oper} {j : Nat} {v : Value} (e : slotOf ops ρ j = some v) : yielded ops a.tmps j = match v with
    | .bool b => some b
    | _ => none := by
  unfold slotOf at e
  unfold yielded
  cases ho : (ops[j]?).bind (·.dst) with
  | none => rw [ho] at e; cases e
  | some t =>
    rw [ho] at e
    have := h.at_ t v e
    simp only [Option.bind_some, this]
    cases v <;> rfl
theorem Fr.wants {a : Act} {n : Nat} {ρ : Env} (h : Fr a n ρ) {ops : Array Oper} {o : Oper} {t : Bool} (e : wants ops ρ o = some t) : Region.wanted o (yielded ops a.tmps) = t := by
  unfold Go.Proofs.YteckdfgllipilaaS.wants at e
  unfold Region.wanted
  cases hg : o.guard with
  | none => rw [hg] at e; exact Option.some.inj e
  | some p =>
    obtain ⟨j, want⟩ := p
    rw [hg] at e
    simp only at e
    cases hy : slotOf ops ρ j with
    | none => rw [hy] at e; cases e
    | some v =>
      rw [hy] at e
      have hs := h.slot hy
      cases v with
      | bool b =>
        have e := Option.some.inj e
        subst e
        simp only [hs]
        cases b <;> cases want <;> rfl
      | tuple _ =>
        have e := Option.some.inj e
        subst e
        simp only [hs]
        rfl
      | _ => cases e

/-! ### 2. Separate parts of the memory -/
structure Atom where
  p : World → (Nat → Prop) → Prop
  mono : ∀ {w : World} {F F' : Nat → Prop}, (∀ k, F k → F' k) → p w F → p w F'
  move : ∀ {w w' : World} {F : Nat → Prop}, (∀ k, F k → w'.heap[k]? = w.heap[k]?) → p w F → p w' F
def Sep (w : World) : (Nat → Prop) → List Atom → Prop
  | _, [] => True
  | U, A :: L => ∃ F : Nat → Prop, (∀ k, F k → U k ∧ k < w.heap.size) ∧ A.p w F ∧ Sep w (fun k => U k ∧ ¬ F k) L
theorem Sep.mono {w : World} : ∀ {L : List Atom} {U U' : Nat → Prop}, (∀ k, U k → U' k) → Sep w U L → Sep w U' L
  | [], _, _, _, _ => trivial
  | _ :: _, _, _, hu, ⟨F, h1, h2, h3⟩ => ⟨F, fun k hk => ⟨hu k (h1 k hk).1, (h1 k hk).2⟩, h2, h3.mono (fun k hk => ⟨hu k hk.1, hk.2⟩)⟩
theorem Sep.move {w w' : World} (hs : w.heap.size ≤ w'.heap.size) : ∀ {L : List Atom} {U : Nat → Prop}, (∀ k, U k → k < w.heap.size → w'.heap[k]? = w.heap[k]?) → Sep w U L → Sep w' (fun k => U k ∧ k < w.heap.size) L
  | [], _, _, _ => trivial
  | A :: _, _, hm, ⟨F, h1, h2, h3⟩ => ⟨F, fun k hk => ⟨h1 k hk, by have := (h1 k hk).2; omega⟩, A.move (fun k hk => hm k (h1 k hk).1 (h1 k hk).2) h2,
      (h3.move hs (fun k hk hlt => hm k hk.1 hlt)).mono (fun k hk => ⟨⟨hk.1.1, hk.2⟩, hk.1.2⟩)⟩
theorem Sep.split {w : World} : ∀ {L M : List Atom} {U : Nat → Prop}, Sep w U (L ++ M) → ∃ F : Nat → Prop, (∀ k, F k → U k ∧ k < w.heap.size) ∧ Sep w F L ∧ Sep w (fun k => U k ∧ ¬ F k) M
  | [], M, U, h => ⟨fun _ => False, fun _ hk => hk.elim, trivial, h.mono (fun k hk => ⟨hk, id⟩)⟩
  | A :: L, M, U, ⟨F, h1, h2, h3⟩ => by
    obtain ⟨G, g1, g2, g3⟩ := Sep.split (L := L) (M := M) h3
    refine ⟨fun k => F k ∨ G k, fun k hk => hk.elim (h1 k) (fun hg => ⟨(g1 k hg).1.1, (g1 k hg).2⟩), ⟨F, fun k hk => ⟨.inl hk, (h1 k hk).2⟩, h2, g2.mono (fun k hk => ⟨.inr hk, (g1 k hk).1.2⟩)⟩, g3.mono (fun k hk => ⟨hk.1.1, fun h => h.elim hk.1.2 hk.2⟩)⟩
theorem Sep.join {w : World} : ∀ {L M : List Atom} {U V W : Nat → Prop}, (∀ k, U k → W k) → (∀ k, V k → W k ∧ ¬ U k) → Sep w U L → Sep w V M → Sep w W (L ++ M)
  | [], _, _, _, _, _, hv, _, h => h.mono (fun k hk => (hv k hk).1)
  | A :: L, M, U, V, W, hu, hv, ⟨F, h1, h2, h3⟩, h => ⟨F, fun k hk => ⟨hu k (h1 k hk).1, (h1 k hk).2⟩, h2,
      Sep.join (L := L) (U := fun k => U k ∧ ¬ F k) (V := V) (fun k hk => ⟨hu k hk.1, hk.2⟩) (fun k hk => ⟨⟨(hv k hk).1, fun hf => (hv k hk).2 (h1 k hf).1⟩, fun hx => (hv k hk).2 hx.1⟩) h3 h⟩
theorem Sep.perm {w : World} {L M : List Atom} (hp : L.Perm M) : ∀ {U : Nat → Prop}, Sep w U L → Sep w U M := by
  induction hp with
  | nil => exact fun h => h
  | cons A _ ih => exact fun ⟨F, h1, h2, h3⟩ => ⟨F, h1, h2, ih h3⟩
  | swap A B L =>
    intro U h
    obtain ⟨F, h1, h2, G, g1, g2, g3⟩ := h
    exact ⟨G, fun k hk => ⟨(g1 k hk).1.1, (g1 k hk).2⟩, g2, F, fun k hk => ⟨⟨(h1 k hk).1, fun hg => (g1 k hg).1.2 hk⟩, (h1 k hk).2⟩, h2, g3.mono (fun k hk => ⟨⟨hk.1.1, hk.2⟩, hk.1.2⟩)⟩
  | trans _ _ ih1 ih2 => exact fun h => ih2 (ih1 h)
theorem Sep.one {w : World} {U : Nat → Prop} {A : Atom} {L : List Atom} (h : Sep w U (A :: L)) : ∃ F : Nat → Prop, (∀ k, F k → U k ∧ k < w.heap.size) ∧ A.p w F := by
  obtain ⟨F, h1, h2, _⟩ := h
  exact ⟨F, h1, h2⟩
theorem Sep.mk1 {w : World} {U F : Nat → Prop} {A : Atom} (h1 : ∀ k, F k → U k ∧ k < w.heap.size) (h : A.p w F) : Sep w U [A] := ⟨F, h1, h, trivial⟩
/-- The parts that are named by their places, one behind the other in what is left, and the others. -/
def rem1 : Nat → List Atom → Option (Atom × List Atom)
  | _, [] => none
  | 0, a :: l => some (a, l)
  | i + 1, a :: l => match rem1 i l with
    | some (b, r) => some (b, a :: r)
    | none => none
def rems : List Nat → List Atom → Option (List Atom × List Atom)
  | [], L => some ([], L)
  | i :: is, L => match rem1 i L with
    | some (a, r) => match rems is r with
      | some (x, y) => some (a :: x, y)
      | none => none
    | none => none
theorem rem1_perm : ∀ {i : Nat} {L : List Atom} {a : Atom} {r : List Atom}, rem1 i L = some (a, r) → L.Perm (a :: r)
  | _, [], _, _, h => by simp [rem1] at h
  | 0, x :: l, a, r, h => by
    simp only [rem1, Option.some.injEq, Prod.mk.injEq] at h
    obtain ⟨rfl, rfl⟩ := h
    exact List.Perm.refl _
  | i + 1, x :: l, a, r, h => by
    simp only [rem1] at h
    cases h1 : rem1 i l with
    | none => rw [h1] at h; cases h
    | some p =>
      obtain ⟨b, q⟩ := p
      rw [h1] at h
      simp only [Option.some.injEq, Prod.mk.injEq] at h
      obtain ⟨rfl, rfl⟩ := h
      exact ((rem1_perm h1).cons x).trans (List.Perm.swap _ _ _)
theorem rems_perm : ∀ {is : List Nat} {L x y : List Atom}, rems is L = some (x, y) → L.Perm (x ++ y)
  | [], L, x, y, h => by
    simp only [rems, Option.some.injEq, Prod.mk.injEq] at h
    obtain ⟨rfl, rfl⟩ := h
    exact List.Perm.refl _
  | i :: is, L, x, y, h => by
    simp only [rems] at h
    cases h1 : rem1 i L with
    | none => rw [h1] at h; cases h
    | some p =>
      obtain ⟨b, q⟩ := p
      rw [h1] at h
      simp only at h
      cases h2 : rems is q with
      | none => rw [h2] at h; cases h
      | some z =>
        obtain ⟨z1, z2⟩ := z
        rw [h2] at h
        simp only [Option.some.injEq, Prod.mk.injEq] at h
        obtain ⟨rfl, rfl⟩ := h
        exact (rem1_perm h1).trans ((rems_perm h2).cons b)
structure St (w0 : World) (F0 : Nat → Prop) (w : World) (L : List Atom) : Prop where
  os : w.os = w0.os
  tape : w.tape = w0.tape
  output : w.output = w0.output
  size : w0.heap.size ≤ w.heap.size
  kept : ∀ k, k < w0.heap.size → ¬ F0 k → w.heap[k]? = w0.heap[k]?
  sep : Sep w (fun k => F0 k ∨ w0.heap.size ≤ k) L
section
variable {w0 w w' : World} {F0 F : Nat → Prop} {L M : List Atom}
theorem St.below (h : St w0 (fun _ => False) w L) : Below w0.heap.size w0 w := ⟨h.os, h.tape, h.output, h.size, fun k hk => h.kept k hk id⟩
theorem St.start (h : Sep w F0 L) : St w F0 w L := ⟨rfl, rfl, rfl, Nat.le_refl _, fun _ _ _ => rfl, h.mono (fun _ hk => .inl hk)⟩
theorem St.perm (h : St w0 F0 w L) (hp : L.Perm M) : St w0 F0 w M := ⟨h.os, h.tape, h.output, h.size, h.kept, h.sep.perm hp⟩
theorem St.nil (h : St w0 F0 w L) : St w0 F0 w [] := ⟨h.os, h.tape, h.output, h.size, h.kept, trivial⟩
/-- What is done with some parts alone leaves the others as they were. -/
theorem St.frame {R : List Atom} (h : St w0 F0 w (L ++ R)) : ∃ F : Nat → Prop, (∀ k, F k → k < w.heap.size) ∧ (∀ k, F k → F0 k ∨ w0.heap.size ≤ k) ∧ Sep w F L ∧ ∀ w' M, St w F w' M → St w0 F0 w' (M ++ R) := by
  obtain ⟨F, f1, f2, f3⟩ := h.sep.split
  refine ⟨F, fun k hk => (f1 k hk).2, fun k hk => (f1 k hk).1, f2, fun w' M hs => ⟨hs.os.trans h.os, hs.tape.trans h.tape, hs.output.trans h.output, Nat.le_trans h.size hs.size, fun k hk hn => ?_, ?_⟩⟩
  · have hnf : ¬ F k := fun hf => (f1 k hf).1.elim hn (fun h2 => by omega)
    rw [hs.kept k (Nat.lt_of_lt_of_le hk h.size) hnf, h.kept k hk hn]
  · refine Sep.join (U := fun k => F k ∨ w.heap.size ≤ k) (V := fun k => ((F0 k ∨ w0.heap.size ≤ k) ∧ ¬ F k) ∧ k < w.heap.size) (fun k hk => ?_) (fun k hk => ⟨hk.1.1, fun hu => ?_⟩) hs.sep (f3.move hs.size (fun k hk hlt => hs.kept k hlt hk.2))
    · rcases hk with hk | hk
      · exact (f1 k hk).1
      · exact .inr (Nat.le_trans h.size hk)
    · rcases hu with hu | hu
      · exact hk.1.2 hu
      · have := hk.2; omega
/-- A drawn order, a block that is new: nothing that was is another. -/
theorem St.of_below (hb : Below w.heap.size w w') (hs : Sep w' (fun k => w.heap.size ≤ k) M) : St w F w' M := ⟨hb.os, hb.tape, hb.output, hb.size, fun k hk _ => hb.block k hk, hs.mono (fun _ hk => .inr hk)⟩
theorem St.step (h : St w0 F0 w L) (hb : Below w.heap.size w w') (hs : Sep w' (fun k => w.heap.size ≤ k) M) : St w0 F0 w' (M ++ L) := by
  obtain ⟨F, f1, _, _, f3⟩ := St.frame (L := []) (R := L) h
  exact f3 w' M (St.of_below hb hs)
theorem St.step0 (h : St w0 F0 w L) (hb : Below w.heap.size w w') : St w0 F0 w' L := h.step (M := []) hb trivial
end

/-! ### 3. The parts there are -/
def Cells (g : Nat) (cs : Array Value) (t : TypeId) : Atom where
  p := fun w F => F g ∧ w.heap[g]? = some (.cells cs t (0, 0))
  mono := fun hf h => ⟨hf _ h.1, h.2⟩
  move := fun hm h => ⟨h.1, (hm _ h.1).trans h.2⟩
/-- A row of the call's own, made from block B on. -/
def Row {α : Type} (B : Nat) (d : Kd α) (e : Nat) (v : Value) (xs : List α) : Atom where
  p := fun w F => d.R e w B F v xs
  mono := fun hf h => Kd.R_mono h hf
  move := fun hm h => Kd.R_move h hm
/-- The same, perhaps cut from the front. -/
def QRow_ {α : Type} (B : Nat) (d : Kd α) (e : Nat) (v : Value) (xs : List α) : Atom where
  p := fun w F => d.Q e w B F v xs
  mono := fun hf h => Kd.Q_mono h hf
  move := fun hm h => Kd.Q_move h hm
section
variable {w0 w : World} {F0 : Nat → Prop} {L : List Atom}
theorem St.cells {g : Nat} {cs : Array Value} {t : TypeId} (h : St w0 F0 w (Cells g cs t :: L)) : w.heap[g]? = some (.cells cs t (0, 0)) := by
  obtain ⟨F, _, h2⟩ := h.sep.one
  exact h2.2
theorem St.row {α : Type} {B : Nat} {d : Kd α} {e : Nat} {v : Value} {xs : List α} (h : St w0 F0 w (Row B d e v xs :: L)) : d.R e w B (fun k => F0 k ∨ w0.heap.size ≤ k) v xs := by
  obtain ⟨F, h1, h2⟩ := h.sep.one
  exact Kd.R_mono h2 (fun k hk => (h1 k hk).1)
theorem St.qrow {α : Type} {B : Nat} {d : Kd α} {e : Nat} {v : Value} {xs : List α} (h : St w0 F0 w (QRow_ B d e v xs :: L)) : d.Q e w B (fun k => F0 k ∨ w0.heap.size ≤ k) v xs := by
  obtain ⟨F, h1, h2⟩ := h.sep.one
  exact Kd.Q_mono h2 (fun k hk => (h1 k hk).1)
/-- A part by its place. -/
theorem St.at {i : Nat} {A : Atom} {R : List Atom} (h : St w0 F0 w L) (e : rem1 i L = some (A, R)) : St w0 F0 w (A :: R) := h.perm (rem1_perm e)
end
end Go.Proofs.YteckdfgllipilaaS
