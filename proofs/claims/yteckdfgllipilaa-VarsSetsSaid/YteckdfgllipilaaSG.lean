/- The rules of the small logic: goals over code, regions, operations, calls, loops. -/
import Derived.Test.YteckdfgllipilaaS
namespace Go.Proofs.YteckdfgllipilaaS
open Go.RowKit Go.Proofs.YteckdfgllipilaaW.PrintWords Go.Proofs.YteckdfgllipilaaW.PrintLast

/-! ### 4. Goals -/
section
variable (P : Program) (n : Nat) (w0 : World) (F0 : Nat → Prop)
def GL (ops : Array Oper) (Q : Exit → Act → World → Prop) (ρ : Env) (L : List Atom) (l : List Oper) : Prop := ∀ a w, Fr a n ρ → St w0 F0 w L → wpList P ops Q l a w
def GC (Q : Exit → Act → World → Prop) (ρ : Env) (L : List Atom) (c : Code) : Prop := ∀ a w, Fr a n ρ → St w0 F0 w L → c.wp P Q a w
def GQ (Q : Exit → Act → World → Prop) (e : Exit) (ρ : Env) (L : List Atom) : Prop := ∀ a w, Fr a n ρ → St w0 F0 w L → Q e a w
def GA (ops : Array Oper) (Q : Exit → Act → World → Prop) (S : World → Prop) (ds : List Nat) (fuel : Nat) (l : Array Bool) (ρ : Env) (L : List Atom) : Prop :=
  ∀ a w, Fr a n ρ → St w0 F0 w L → wpAnyLast P .any ops Q S ds fuel l a w
end
/-- An operation that only reads. -/
def Gives (P : Program) (o : Oper) (n : Nat) (ρ : Env) (S : World → Prop) (v : Value) : Prop := ∀ a w, Fr a n ρ → S w → (execOp a.eval o).run P w = .ok (.value v) w
/-- An operation that makes, writes or calls: what it does with its own parts of the memory. -/
def Does (P : Program) (o : Oper) (n : Nat) (ρ : Env) (S : World → Prop) (Lp : List Atom) {τ : Type} (val : τ → Value) (ok : τ → Prop) (Lq : τ → List Atom) : Prop :=
  ∀ a w (F : Nat → Prop), Fr a n ρ → S w → Sep w F Lp → (∀ k, F k → k < w.heap.size) → ∀ (K : Act → World → Prop) (Q : Exit → Act → World → Prop),
    (∀ s w', ok s → St w F w' (Lq s) → K (a.put o.dst (val s)) w') → o.wp P a w K Q
section
variable {P : Program} {n : Nat} {w0 : World} {F0 : Nat → Prop} {ops : Array Oper} {Q Q' : Exit → Act → World → Prop} {ρ ρ' : Env} {L L' Lp Lr : List Atom} {o : Oper} {rest : List Oper} {d : Tmp} {v : Value} {S : World → Prop}

theorem GL.gives (hd : o.dst = some d) (hw : wants ops ρ o = some true) (hn : Nat.blt d n = true) (h : Gives P o n ρ (fun w => St w0 F0 w L) v) (k : GL P n w0 F0 ops Q ((d, v) :: ρ) L rest) : GL P n w0 F0 ops Q ρ L (o :: rest) := by
  intro a w hf hs
  refine wpList_step fun K hK => ?_
  rw [if_pos (hf.wants hw)]
  unfold Oper.wp
  rw [h a w hf hs, Oper.upon_value, hd]
  exact hK _ _ (k _ _ (hf.put1 hn v) hs)
theorem GL.skip (hd : o.dst = some d) (hw : wants ops ρ o = some false) (hn : Nat.blt d n = true) (k : GL P n w0 F0 ops Q ((d, undef) :: ρ) L rest) : GL P n w0 F0 ops Q ρ L (o :: rest) := by
  intro a w hf hs
  refine wpList_step fun K hK => ?_
  rw [if_neg (by rw [hf.wants hw]; simp), hd]
  exact hK _ _ (k _ _ (hf.put1 hn _) hs)
theorem GL.skip0 (hd : o.dst = none) (hw : wants ops ρ o = some false) (k : GL P n w0 F0 ops Q ρ L rest) : GL P n w0 F0 ops Q ρ L (o :: rest) := by
  intro a w hf hs
  refine wpList_step fun K hK => ?_
  rw [if_neg (by rw [hf.wants hw]; simp), hd]
  exact hK _ _ (k _ _ hf hs)
section
variable {τ : Type} {val : τ → Value} {ok : τ → Prop} {Lq : τ → List Atom} {is : List Nat}
theorem Does.at_ (h : Does P o n ρ (fun w => St w0 F0 w L) Lp val ok Lq) (hL : rems is L = some (Lp, Lr)) {a : Act} {w : World} (hf : Fr a n ρ) (hs : St w0 F0 w L) {K : Act → World → Prop} {Q : Exit → Act → World → Prop}
    (k : ∀ s w', ok s → St w0 F0 w' (Lq s ++ Lr) → K (a.put o.dst (val s)) w') : o.wp P a w K Q := by
  obtain ⟨F, f1, _, f2, f3⟩ := (hs.perm (rems_perm hL)).frame
  exact h a w F hf hs f2 f1 K Q (fun s w' hok hst => k s w' hok (f3 w' _ hst))
theorem GL.does (is : List Nat) (hd : o.dst = some d) (hw : wants ops ρ o = some true) (hn : Nat.blt d n = true) (hL : rems is L = some (Lp, Lr)) (h : Does P o n ρ (fun w => St w0 F0 w L) Lp val ok Lq)
    (k : ∀ s, ok s → GL P n w0 F0 ops Q ((d, val s) :: ρ) (Lq s ++ Lr) rest) : GL P n w0 F0 ops Q ρ L (o :: rest) := by
  intro a w hf hs
  refine wpList_step fun K hK => ?_
  rw [if_pos (hf.wants hw)]
  refine h.at_ hL hf hs (fun s w' hok hst => hK _ _ ?_)
  rw [hd]
  exact k s hok _ _ (hf.put1 hn _) hst
theorem GL.does0 (is : List Nat) (hd : o.dst = none) (hw : wants ops ρ o = some true) (hL : rems is L = some (Lp, Lr)) (h : Does P o n ρ (fun w => St w0 F0 w L) Lp val ok Lq)
    (k : ∀ s, ok s → GL P n w0 F0 ops Q ρ (Lq s ++ Lr) rest) : GL P n w0 F0 ops Q ρ L (o :: rest) := by
  intro a w hf hs
  refine wpList_step fun K hK => ?_
  rw [if_pos (hf.wants hw)]
  refine h.at_ hL hf hs (fun s w' hok hst => hK _ _ ?_)
  rw [hd]
  exact k s hok _ _ hf hst
end
theorem GL.nil (h : GQ n w0 F0 Q .normal ρ L) : GL P n w0 F0 ops Q ρ L [] := fun a w hf hs => wpList_nil (h a w hf hs)
theorem GL.know {p : Prop} (h : ∀ w, St w0 F0 w L → p) (k : p → GL P n w0 F0 ops Q ρ L rest) : GL P n w0 F0 ops Q ρ L rest := fun a w hf hs => k (h w hs) a w hf hs
theorem GL.norm (hL : L = L') (k : GL P n w0 F0 ops Q ρ L' rest) : GL P n w0 F0 ops Q ρ L rest := hL ▸ k
theorem GL.learn {t : Nat} {v' : Value} (e : look ρ t = some v) (hv : v = v') (k : GL P n w0 F0 ops Q ((t, v') :: ρ) L rest) : GL P n w0 F0 ops Q ρ L rest := fun a w hf hs => k a w (hf.learn e hv) hs

theorem GL.split {t : Nat} {b : Bool} (e : look ρ t = some (.bool b)) (kt : b = true → GL P n w0 F0 ops Q ((t, .bool true) :: ρ) L rest) (kf : b = false → GL P n w0 F0 ops Q ((t, .bool false) :: ρ) L rest) : GL P n w0 F0 ops Q ρ L rest := by
  cases b with
  | true => exact GL.learn e rfl (kt rfl)
  | false => exact GL.learn e rfl (kf rfl)
/-! ### code -/
theorem GC.know {c : Code} {p : Prop} (h : ∀ w, St w0 F0 w L → p) (k : p → GC P n w0 F0 Q ρ L c) : GC P n w0 F0 Q ρ L c := fun a w hf hs => k (h w hs) a w hf hs
theorem GC.norm {c : Code} (hL : L = L') (k : GC P n w0 F0 Q ρ L' c) : GC P n w0 F0 Q ρ L c := hL ▸ k
theorem GC.sub {c : Code} (hρ : Subs ρ ρ') (is : List Nat) (hL : rems is L = some (L', Lr)) (k : GC P n w0 F0 Q ρ' L' c) : GC P n w0 F0 Q ρ L c := fun a w hf hs => by
  have h := hs.perm (rems_perm hL)
  refine k a w (hf.sub hρ) ⟨h.os, h.tape, h.output, h.size, h.kept, ?_⟩
  obtain ⟨F, f1, f2, _⟩ := h.sep.split
  exact f2.mono (fun k hk => (f1 k hk).1)
theorem GC.learn {c : Code} {t : Nat} {v' : Value} (e : look ρ t = some v) (hv : v = v') (k : GC P n w0 F0 Q ((t, v') :: ρ) L c) : GC P n w0 F0 Q ρ L c := fun a w hf hs => k a w (hf.learn e hv) hs
theorem GC.split {c : Code} {t : Nat} {b : Bool} (e : look ρ t = some (.bool b)) (kt : b = true → GC P n w0 F0 Q ((t, .bool true) :: ρ) L c) (kf : b = false → GC P n w0 F0 Q ((t, .bool false) :: ρ) L c) : GC P n w0 F0 Q ρ L c := by
  cases b with
  | true => exact GC.learn e rfl (kt rfl)
  | false => exact GC.learn e rfl (kf rfl)
theorem GC.seq {x y : Code} (h : GC P n w0 F0 (Exit.then (y.wp P Q) Q) ρ L x) : GC P n w0 F0 Q ρ L (.seq x y) := fun a w hf hs => wp_seq (h a w hf hs)
theorem GC.block {i : Nat} {c : Code} (h : GC P n w0 F0 (Exit.inBlock i Q) ρ L c) : GC P n w0 F0 Q ρ L (.block i c) := fun a w hf hs => wp_block (h a w hf hs)
theorem GC.skip (h : GQ n w0 F0 Q .normal ρ L) : GC P n w0 F0 Q ρ L .skip := fun a w hf hs => wp_skip (h a w hf hs)
theorem GC.exit {i : Nat} (h : GQ n w0 F0 Q (.exit i) ρ L) : GC P n w0 F0 Q ρ L (.exit i) := fun a w hf hs => wp_exit (h a w hf hs)
theorem GC.ret (h : GQ n w0 F0 Q .ret ρ L) : GC P n w0 F0 Q ρ L .ret := fun a w hf hs => wp_ret (h a w hf hs)
theorem GC.cond {c : Operand} {x y : Code} {b : Bool} (hc : ev ρ c = some (.bool b)) (ht : b = true → GC P n w0 F0 Q ρ L x) (hf : b = false → GC P n w0 F0 Q ρ L y) : GC P n w0 F0 Q ρ L (.cond c x y) := fun a w hfr hs =>
  wp_cond_split (hfr.eval hc) (fun h => ht h a w hfr hs) (fun h => hf h a w hfr hs)
theorem GC.condT {c : Operand} {x y : Code} {b : Bool} (hc : ev ρ c = some (.bool b)) (hb : b = true) (ht : GC P n w0 F0 Q ρ L x) : GC P n w0 F0 Q ρ L (.cond c x y) := GC.cond hc (fun _ => ht) (fun h => by rw [hb] at h; cases h)
theorem GC.condF {c : Operand} {x y : Code} {b : Bool} (hc : ev ρ c = some (.bool b)) (hb : b = false) (hf : GC P n w0 F0 Q ρ L y) : GC P n w0 F0 Q ρ L (.cond c x y) := GC.cond hc (fun h => by rw [hb] at h; cases h) (fun _ => hf)
theorem GC.region {i : Nat} {l : List Oper} (h : GL P n w0 F0 l.toArray Q ρ L l) : GC P n w0 F0 Q ρ L (.region i l.toArray false) := fun a w hf hs => wp_region_lit (h a w hf hs)
theorem GC.draw {i m : Nat} (S : World → Prop) (ds : List Nat) (l : Array Bool) (hm : P.follows .mixedOrders = true) (hn : ops.size = m) (hl : Array.replicate m false = l) (hS : ∀ w, St w0 F0 w L → S w)
    (h : GA P n w0 F0 ops Q S ds m l ρ L) : GC P n w0 F0 Q ρ L (.region i ops true) := by
  intro a w hf hs
  have hs' : St w0 F0 w.drew L := hs.step0 (Below.refl _ _).drew
  exact start_ (S := S) (ds := ds) l hm hn hl (hS _ hs') (fun _ => h a _ hf hs')
/-- What several ways lead to, shown once. -/
theorem GC.meet {σ : Type} (ρi : σ → Env) (Li : σ → List Atom) (ok : σ → Prop) {x y : Code} (h : GC P n w0 F0 (Exit.then (fun a w => ∃ s, ok s ∧ Fr a n (ρi s) ∧ St w0 F0 w (Li s)) Q) ρ L x) (k : ∀ s, ok s → GC P n w0 F0 Q (ρi s) (Li s) y) : GC P n w0 F0 Q ρ L (.seq x y) := fun a w hf hs =>
  wp_seq (Code.wp_mono (fun e a w q => by
    cases e with
    | normal =>
      obtain ⟨s, h1, h2, h3⟩ := q
      exact k s h1 a w h2 h3
    | _ => exact q) (h a w hf hs))
def Met {σ : Type} (n : Nat) (w0 : World) (F0 : Nat → Prop) (ρi : σ → Env) (Li : σ → List Atom) (ok : σ → Prop) (a : Act) (w : World) : Prop := ∃ s, ok s ∧ Fr a n (ρi s) ∧ St w0 F0 w (Li s)
theorem St.take {is : List Nat} {w : World} (hs : St w0 F0 w L) (hL : rems is L = some (L', Lr)) : St w0 F0 w L' := by
  have h := hs.perm (rems_perm hL)
  refine ⟨h.os, h.tape, h.output, h.size, h.kept, ?_⟩
  obtain ⟨F, f1, f2, _⟩ := h.sep.split
  exact f2.mono (fun k hk => (f1 k hk).1)
theorem GQ.meet {σ : Type} {ρi : σ → Env} {Li : σ → List Atom} {ok : σ → Prop} (s : σ) (is : List Nat) (h : ok s) (hρ : Subs ρ (ρi s)) (hL : rems is L = some (Li s, Lr)) : GQ n w0 F0 (Exit.then (fun a w => ∃ s, ok s ∧ Fr a n (ρi s) ∧ St w0 F0 w (Li s)) Q) .normal ρ L := fun _ _ hf hs =>
  ⟨s, h, hf.sub hρ, hs.take hL⟩
/-! ### a loop -/
theorem GC.loop {σ : Type} (ρi : σ → Env) (Li : σ → List Atom) (ok : σ → Prop) (μ : σ → Nat) (s0 : σ) (is : List Nat) {c : Code} (h0 : ok s0) (hρ : Subs ρ (ρi s0)) (hL : rems is L = some (Li s0, Lr))
    (round : ∀ s, ok s → GC P n w0 F0 (Exit.then (fun a w => ∃ s', ok s' ∧ μ s' < μ s ∧ Fr a n (ρi s') ∧ St w0 F0 w (Li s')) Q) (ρi s) (Li s) c) : GC P n w0 F0 Q ρ L (.loop c) := by
  intro a w hf hs
  refine wp_loop_ghost (fun m a w => ∃ s, ok s ∧ μ s = m ∧ Fr a n (ρi s) ∧ St w0 F0 w (Li s)) (μ s0) ⟨s0, h0, rfl, hf.sub hρ, hs.take hL⟩ ?_
  rintro m a w ⟨s, h1, rfl, h2, h3⟩
  refine Code.wp_mono (fun e a w q => ?_) (round s h1 a w h2 h3)
  cases e with
  | normal =>
    obtain ⟨s', g1, g2, g3, g4⟩ := q
    exact ⟨μ s', g2, s', g1, rfl, g3, g4⟩
  | _ => exact q
theorem GQ.back {σ : Type} {ρi : σ → Env} {Li : σ → List Atom} {ok : σ → Prop} {μ : σ → Nat} {m : Nat} (s : σ) (is : List Nat) (h : ok s) (hμ : μ s < m) (hρ : Subs ρ (ρi s)) (hL : rems is L = some (Li s, Lr)) :
    GQ n w0 F0 (Exit.then (fun a w => ∃ s', ok s' ∧ μ s' < m ∧ Fr a n (ρi s') ∧ St w0 F0 w (Li s')) Q) .normal ρ L := fun _ _ hf hs => ⟨s, h, hμ, hf.sub hρ, hs.take hL⟩
/-! ### ends -/
theorem GQ.know {e : Exit} {p : Prop} (h : ∀ w, St w0 F0 w L → p) (k : p → GQ n w0 F0 Q e ρ L) : GQ n w0 F0 Q e ρ L := fun a w hf hs => k (h w hs) a w hf hs
theorem GQ.thenN {y : Code} (h : GC P n w0 F0 Q ρ L y) : GQ n w0 F0 (Exit.then (y.wp P Q) Q') .normal ρ L := h
theorem GQ.thenX {X : Act → World → Prop} {i : Nat} (h : GQ n w0 F0 Q (.exit i) ρ L) : GQ n w0 F0 (Exit.then X Q) (.exit i) ρ L := h
theorem GQ.thenR {X : Act → World → Prop} (h : GQ n w0 F0 Q .ret ρ L) : GQ n w0 F0 (Exit.then X Q) .ret ρ L := h
theorem GQ.blkN {i : Nat} (h : GQ n w0 F0 Q .normal ρ L) : GQ n w0 F0 (Exit.inBlock i Q) .normal ρ L := h
theorem GQ.blkR {i : Nat} (h : GQ n w0 F0 Q .ret ρ L) : GQ n w0 F0 (Exit.inBlock i Q) .ret ρ L := h
theorem GQ.blkX {i : Nat} (h : GQ n w0 F0 Q .normal ρ L) : GQ n w0 F0 (Exit.inBlock i Q) (.exit i) ρ L := fun a w hf hs => by
  show (if i = i then _ else _)
  rw [if_pos rfl]
  exact h a w hf hs
theorem GQ.blkY {i j : Nat} (hij : Nat.beq j i = false) (h : GQ n w0 F0 Q (.exit j) ρ L) : GQ n w0 F0 (Exit.inBlock i Q) (.exit j) ρ L := fun a w hf hs => by
  show (if j = i then _ else _)
  rw [if_neg (fun e => by subst e; simp at hij)]
  exact h a w hf hs
theorem GQ.fin {fn : Func} {R : Ending → World → Prop} {r : Exit} (hr : r = .ret ∨ r = .normal) (hres : ∀ a w, Fr a n ρ → St w0 F0 w L → (results fn a.tmps).run P w = .ok v w) (h : ∀ w, St w0 F0 w L → R (.returned v) w) : GQ n w0 F0 (bodyPost P fn R) r ρ L := by
  intro a w hf hs
  rcases hr with rfl | rfl
  · exact ⟨hf.defers, v, hres a w hf hs, h w hs⟩
  · exact ⟨hf.defers, v, hres a w hf hs, h w hs⟩
theorem getd {a : Act} (hf : Fr a n ρ) {t : Tmp} (e : look ρ t = some v) : a.tmps.getD t undef = v := hf.eval (x := .tmp t) e
theorem GQ.ret0 {fn : Func} {R : Ending → World → Prop} {r : Exit} (hr : r = .ret ∨ r = .normal) (hf : fn.results = #[]) (h : ∀ w, St w0 F0 w L → R (.returned (.tuple #[])) w) : GQ n w0 F0 (bodyPost P fn R) r ρ L :=
  GQ.fin hr (fun a w _ _ => results_none hf a.tmps P w) h
theorem GQ.ret1 {fn : Func} {R : Ending → World → Prop} {r : Exit} {t : Tmp} (hr : r = .ret ∨ r = .normal) (hf : fn.results = #[.tmp t]) (e : look ρ t = some v) (h : ∀ w, St w0 F0 w L → R (.returned v) w) : GQ n w0 F0 (bodyPost P fn R) r ρ L :=
  GQ.fin hr (fun a w hfr _ => by rw [results_tmp hf a.tmps P w, getd hfr e]) h
theorem GQ.ret2 {fn : Func} {R : Ending → World → Prop} {r : Exit} {t u : Tmp} {v' : Value} (hr : r = .ret ∨ r = .normal) (hf : fn.results = #[.tmp t, .tmp u]) (e : look ρ t = some v) (e' : look ρ u = some v') (h : ∀ w, St w0 F0 w L → R (.returned (.tuple #[v, v'])) w) : GQ n w0 F0 (bodyPost P fn R) r ρ L :=
  GQ.fin hr (fun a w hfr _ => by rw [results_tmp2 hf a.tmps P w, getd hfr e, getd hfr e']) h
/-! ### a function's body -/
def argEnv : Nat → List Value → Env
  | _, [] => []
  | i, v :: r => (i, v) :: argEnv (i + 1) r
theorem argEnv_at : ∀ (l : List Value) (i t : Nat) (v : Value), look (argEnv i l) t = some v → i ≤ t ∧ l[t - i]? = some v
  | [], _, _, _, h => by simp [argEnv, look] at h
  | x :: r, i, t, v, h => by
    simp only [argEnv, look] at h
    by_cases hb : i = t
    · subst hb
      simp at h
      simp [h]
    · have : Nat.beq i t = false := by
        rw [← Bool.not_eq_true, Nat.beq_eq]; exact hb
      rw [this] at h
      obtain ⟨h1, h2⟩ := argEnv_at r (i + 1) t v h
      refine ⟨by omega, ?_⟩
      rw [show t - i = (t - (i + 1)) + 1 by omega]
      simpa using h2
theorem enter {f : FuncId} {fn : Func} {c : Code} {args : List Value} {w : World} {F0 : Nat → Prop} {L : List Atom} {R : Ending → World → Prop} (hf : P.funcs[f]? = some fn) (hb : fn.body = some c) (hn : fn.ntmps = n) (hl : Nat.ble args.length n = true)
    (hs : Sep w F0 L) (h : GC P n w F0 (bodyPost P fn R) (argEnv 0 args) L c) : Calls P f args.toArray w R := by
  refine calls_of_wp hf hb (h _ _ ⟨?_, rfl, fun t v e => ?_⟩ (St.start hs))
  · have := Nat.le_of_ble_eq_true hl
    simp [hn]; omega
  · have := (argEnv_at args 0 t v e).2
    simp only [Nat.sub_zero] at this
    have hlt := (List.getElem?_eq_some_iff.1 this).1
    rw [Array.getElem?_append_left (by simpa using hlt)]
    simpa using this
end
end Go.Proofs.YteckdfgllipilaaS
