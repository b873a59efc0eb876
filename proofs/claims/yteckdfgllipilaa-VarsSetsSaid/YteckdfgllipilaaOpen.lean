/- Arguments opened: what a reading tells of the memory, for any kind of element. -/
import Derived.Test.YteckdfgllipilaaWTab
import Derived.Test.YteckdfgllipilaaWMore
import Derived.WalkKit
import Derived.ProofKit
import Derived.OpenShut
import Derived.ShutString
import Derived.ChangeOld
import Derived.Below
import Derived.SizedLaws
import Derived.Deep.Slices
namespace Go.Proofs.YteckdfgllipilaaO
open Go.RowKit Go.ChangeShapes Go.WideShapes Go.Deep Go.Proofs.YteckdfgllipilaaW.PrintWords Go.Proofs.YteckdfgllipilaaW.PrintLast

/-- What a reading of a type tells of its cells. -/
def Opens (P : Program) {α : Type} (t : TypeId) (kd : Kd α) (ok : α → Prop) : Prop := ∀ (H : Type) (enc : TypeId × Value → H) (w : World) (base : Nat) (spare : Nat → Bool) (held : Bool) (fuel : Nat) (cs : List Value) (x : DataW H × List MemPlace),
  DataW.trod enc P w base spare held fuel t cs = some x → ∃ z, kd.K w z cs ∧ ok z
/-- The same of a struct's fields from a place on. -/
def OpensL (P : Program) {α : Type} (fs : List Field) (o : Nat) (kd : Kd α) (ok : α → Prop) : Prop := ∀ (H : Type) (enc : TypeId × Value → H) (w : World) (base : Nat) (spare : Nat → Bool) (held : Bool) (fuel : Nat) (cs : List Value),
  cs.length = o + (fs.map fun f => P.cellsOf f.type).sum → (∀ f ∈ fs, ∃ y, DataW.trod enc P w base spare held fuel f.type ((cs.drop f.offset).take (P.cellsOf f.type)) = some y) → ∃ z, kd.K w z (cs.drop o) ∧ ok z
theorem opens_int {P : Program} {t : TypeId} {k : IntKind} (h : P.underlying t = some (.int k)) : Opens P t (Kd.int k) (fun n => (Lit.int k n).wf = true) := fun H enc w base spare held fuel cs x hx => by
  obtain ⟨n, rfl, _, hw⟩ := DataW.trod_int h hx
  exact ⟨n, rfl, hw⟩
theorem opens_string {P : Program} {t : TypeId} (h : P.underlying t = some .string) : Opens P t Kd.string (fun s => s.size ≤ maxLen) := fun H enc w base spare held fuel cs x hx => by
  obtain ⟨s, rfl, _, hw⟩ := DataW.trod_string h hx
  exact ⟨s, rfl, hw⟩
theorem opens_last {P : Program} {α : Type} {f : Field} {kd : Kd α} {ok : α → Prop} {o : Nat} (ho : f.offset = o) (h : Opens P f.type kd ok) : OpensL P [f] o kd ok := fun H enc w base spare held fuel cs hl hf => by
  obtain ⟨y, hy⟩ := hf f List.mem_cons_self
  obtain ⟨z, hz, hok⟩ := h H enc w base spare held fuel _ y hy
  rw [ho, List.take_of_length_le (by simp at hl; simp; omega)] at hz
  exact ⟨z, hz, hok⟩
theorem opens_more {P : Program} {α β : Type} {f : Field} {fs : List Field} {a : Kd α} {b : Kd β} {oka : α → Prop} {okb : β → Prop} {o : Nat} (ho : f.offset = o) (h : Opens P f.type a oka) (hr : OpensL P fs (o + P.cellsOf f.type) b okb) : OpensL P (f :: fs) o (Kd.pair a b) (fun x => oka x.1 ∧ okb x.2) := fun H enc w base spare held fuel cs hl hf => by
  obtain ⟨y, hy⟩ := hf f List.mem_cons_self
  obtain ⟨z, hz, hok⟩ := h H enc w base spare held fuel _ y hy
  obtain ⟨z', hz', hok'⟩ := hr H enc w base spare held fuel cs (by simp at hl; omega) (fun g hg => hf g (List.mem_cons_of_mem _ hg))
  rw [ho] at hz
  refine ⟨(z, z'), ⟨_, _, ?_, hz, hz'⟩, hok, hok'⟩
  rw [← List.drop_drop, List.take_append_drop]
theorem opens_struct {P : Program} {α : Type} {t : TypeId} {fs : Array Field} {kd : Kd α} {ok : α → Prop} (ht : P.underlying t = some (.struct fs)) (hc : P.cellsOf t = (fs.toList.map fun f => P.cellsOf f.type).sum) (h : OpensL P fs.toList 0 kd ok) : Opens P t kd ok := fun H enc w base spare held fuel cs x hx => by
  obtain ⟨xs, n, _, _, hl, hxl, hf⟩ := DataW.trod_struct ht hx
  have := h H enc w base spare held n cs (by omega) (fun f hm => by
    obtain ⟨i, hi, he⟩ := List.mem_iff_getElem.1 hm
    have h1 := hf i f (by simpa [Array.getElem?_eq_getElem (show i < fs.size by simpa using hi)] using he)
    have hi' : i < xs.length := by rw [hxl]; simpa using hi
    rw [List.getElem?_eq_getElem hi'] at h1
    exact ⟨_, h1⟩)
  simpa using this
theorem opens_imp {P : Program} {α : Type} {t : TypeId} {kd : Kd α} {ok ok' : α → Prop} (h : Opens P t kd ok) (hi : ∀ x, ok x → ok' x) : Opens P t kd ok' := fun H enc w base spare held fuel cs x hx => by
  obtain ⟨z, h1, h2⟩ := h H enc w base spare held fuel cs x hx
  exact ⟨z, h1, hi z h2⟩
theorem opens_iso {P : Program} {α β : Type} {t : TypeId} {kd : Kd α} {ok : α → Prop} {f : β → α} (g : α → β) (hg : ∀ x, f (g x) = x) (h : Opens P t kd ok) : Opens P t (Kd.iso kd f) (fun y => ok (f y)) := fun H enc w base spare held fuel cs x hx => by
  obtain ⟨z, h1, h2⟩ := h H enc w base spare held fuel cs x hx
  exact ⟨g z, by show kd.K w (f (g z)) cs; rw [hg]; exact h1, by show ok (f (g z)); rw [hg]; exact h2⟩
/-- A slice's row, out of its reading. -/
theorem open_row {P : Program} {α : Type} {t e : TypeId} {kd : Kd α} {ok : α → Prop} (ht : P.underlying t = some (.slice e)) (hsz : P.cellsOf e = kd.sz) (ho : Opens P e kd ok) {H : Type} {enc : TypeId × Value → H} {w : World} {base : Nat} {spare : Nat → Bool} {held : Bool} {fuel : Nat} {cs : List Value} {x : DataW H × List MemPlace}
    (h : DataW.trod enc P w base spare held fuel t cs = some x) : ∃ A len cap xs, cs = [.slice A len cap] ∧ kd.C w A len xs ∧ (∀ z ∈ xs, ok z) ∧ len ≤ cap ∧ cap ≤ maxLen ∧ (cap = 0 ∨ 0 < cap) := by
  rcases open_slice ht h with ⟨rfl, _⟩ | ⟨a, len, cap, m, n, D, Pl, rfl, hb, hl, hm, hmm, hxx, hx⟩
  · exact ⟨none, 0, 0, [], rfl, ⟨rfl, by omega, fun h => by omega⟩, fun _ hz => (by cases hz), Nat.le_refl _, Nat.zero_le _, Or.inl rfl⟩
  · have hlm : len ≤ m := by rw [hmm]; split <;> omega
    have each : ∀ i, i < len → ∃ z : α, ∃ cs', w.cells? base (a.add (i * P.cellsOf e)) (P.cellsOf e) = some cs' ∧ kd.K w z cs' ∧ ok z := fun i hi => by
      obtain ⟨cs', h1, h2⟩ := hx i (by omega)
      obtain ⟨z, h3, h4⟩ := ho H enc w base spare held n cs' _ h2
      exact ⟨z, cs', h1, h3, h4⟩
    have hz : ∃ zs : List α, zs.length = len ∧ ∀ i z, zs[i]? = some z → ∃ cs', w.cells? base (a.add (i * P.cellsOf e)) (P.cellsOf e) = some cs' ∧ kd.K w z cs' ∧ ok z := by
      clear hx hmm hlm hl h hxx
      induction len with
      | zero => exact ⟨[], rfl, fun i z hz => by simp at hz⟩
      | succ k ih =>
        obtain ⟨zs, h1, h2⟩ := ih (fun i hi => each i (by omega))
        obtain ⟨z, hz⟩ := each k (by omega)
        refine ⟨zs ++ [z], by simp [h1], fun i z' hi => ?_⟩
        by_cases hik : i < k
        · rw [List.getElem?_append_left (by omega)] at hi
          exact h2 i z' hi
        · have : i = k := by
            have := (List.getElem?_eq_some_iff.1 hi).1
            simp at this; omega
          subst this
          rw [List.getElem?_append_right (by omega)] at hi
          simp [h1] at hi
          subst hi
          exact hz
    obtain ⟨zs, hzl, hzz⟩ := hz
    refine ⟨some a, len, cap, zs, rfl, ⟨hzl, ?_, fun _ => ⟨a, rfl, fun j p hp => ?_⟩⟩, fun z hz => ?_, hl, hm, by omega⟩
    · unfold maxLen at hm; omega
    · obtain ⟨cs', h1, h2, _⟩ := hzz j p hp
      obtain ⟨_, h4, h5⟩ := World.cells?_some h1
      refine ⟨cs', by rw [h4, hsz], h2, fun i u hi => ?_⟩
      have := h5 i (by have := (List.getElem?_eq_some_iff.1 hi).1; omega)
      rw [hi, hsz] at this
      rw [← this]
      unfold Addr.add
      by_cases hq1 : j * kd.sz = 0 <;> by_cases hq2 : i = 0 <;> simp [hq1, hq2, Nat.add_assoc]
    · obtain ⟨i, hi⟩ := List.getElem?_of_mem hz
      obtain ⟨_, _, _, h⟩ := hzz i z hi
      exact h
/-- A slice among a struct's fields, with what it shows. -/
structure SlV (α : Type) where
  A : Option Addr
  n : Nat
  c : Nat
  xs : List α
def kSl {α : Type} (kd : Kd α) : Kd (SlV α) where
  sz := 1
  E := []
  K := fun w x cs => cs = [.slice x.A x.n x.c] ∧ kd.C w x.A x.n x.xs ∧ x.n ≤ x.c
  M := fun _ _ _ _ _ => False
  K_len := fun h => by rw [h.1]; rfl
  K_one := fun h u hu => by
    rw [h.1] at hu
    obtain rfl := List.mem_singleton.1 hu
    rfl
  K_below := fun hb h => ⟨h.1, Kd.C_below h.2.1 hb, h.2.2⟩
  K_of_M := fun h => h.elim
  M_mono := fun _ h => h
  M_bound := fun h => h
  M_move := fun _ h => h
  M_lower := fun _ h => h
theorem opens_slice {P : Program} {α : Type} {t e : TypeId} {kd : Kd α} {ok : α → Prop} (ht : P.underlying t = some (.slice e)) (hsz : P.cellsOf e = kd.sz) (ho : Opens P e kd ok) : Opens P t (kSl kd) (fun x => ∀ z ∈ x.xs, ok z) := fun H enc w base spare held fuel cs x hx => by
  obtain ⟨A, len, cap, xs, h1, h2, h3, h4, _⟩ := open_row ht hsz ho hx
  exact ⟨⟨A, len, cap, xs⟩, ⟨h1, h2, h4⟩, h3⟩
end Go.Proofs.YteckdfgllipilaaO
