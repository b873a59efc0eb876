/- The rules of the small logic: regions that draw their order; more on rows. -/
import Derived.Test.YteckdfgllipilaaSO
namespace Go.Proofs.YteckdfgllipilaaS
open Go.RowKit Go.Proofs.YteckdfgllipilaaW.PrintWords Go.Proofs.YteckdfgllipilaaW.PrintLast

/-! ### 7. A region that draws its order -/
def PanicOk (Q : Exit → Act → World → Prop) : Prop := ∀ c a d v w, Q (.panic c) (a.put d v) w → Q (.panic c) a w
theorem put_defers (a : Act) (d : Option Tmp) (v : Value) : (a.put d v).defers = a.defers := by cases d <;> rfl
theorem PanicOk.body {P : Program} {fn : Func} {R : Ending → World → Prop} : PanicOk (bodyPost P fn R) := fun c a d v w h => by
  refine ⟨?_, h.2⟩
  have := h.1
  rwa [put_defers] at this
theorem PanicOk.then {X : Act → World → Prop} {Q : Exit → Act → World → Prop} (h : PanicOk Q) : PanicOk (Exit.then X Q) := fun c a d v w hh => h c a d v w hh
theorem PanicOk.block {i : Nat} {Q : Exit → Act → World → Prop} (h : PanicOk Q) : PanicOk (Exit.inBlock i Q) := fun c a d v w hh => h c a d v w hh
section
variable {P : Program} {n : Nat} {w0 : World} {F0 : Nat → Prop} {ops : Array Oper} {Q : Exit → Act → World → Prop} {ρ : Env} {L L' Lp Lr : List Atom} {o : Oper} {d : Tmp} {v : Value} {S : World → Prop} {ds : List Nat} {fuel i : Nat} {l : Array Bool}
theorem GA.know {p : Prop} (h : ∀ w, St w0 F0 w L → p) (k : p → GA P n w0 F0 ops Q S ds fuel l ρ L) : GA P n w0 F0 ops Q S ds fuel l ρ L := fun a w hf hs => k (h w hs) a w hf hs
theorem GA.learn {t : Nat} {v' : Value} (e : look ρ t = some v) (hv : v = v') (k : GA P n w0 F0 ops Q S ds fuel l ((t, v') :: ρ) L) : GA P n w0 F0 ops Q S ds fuel l ρ L := fun a w hf hs => k a w (hf.learn e hv) hs
theorem GA.split {t : Nat} {b : Bool} (e : look ρ t = some (.bool b)) (kt : b = true → GA P n w0 F0 ops Q S ds fuel l ((t, .bool true) :: ρ) L) (kf : b = false → GA P n w0 F0 ops Q S ds fuel l ((t, .bool false) :: ρ) L) : GA P n w0 F0 ops Q S ds fuel l ρ L := by
  cases b with
  | true => exact GA.learn e rfl (kt rfl)
  | false => exact GA.learn e rfl (kf rfl)
/-- What reads is taken first. -/
theorem GA.take (i : Nat) (l' : Array Bool) (hQ : PanicOk Q) (hi : ops[i]? = some o) (hd : o.dst = some d) (hc : takeB .any ops ds l l' i = true) (hw : wants ops ρ o = some true) (hn : Nat.blt d n = true) (hS : ∀ w, St w0 F0 w L → S w) (h : Gives P o n ρ S v)
    (k : GA P n w0 F0 ops Q S ds fuel l' ((d, v) :: ρ) L) : GA P n w0 F0 ops Q S ds (fuel + 1) l ρ L := fun a w hf hs =>
  take_ (i := i) l' hi hd hc (fun c a w => hQ c a _ _ w) (.inl ⟨hf.wants hw, fun w' hw' => h a w' hf hw'⟩) (hS w hs) rfl (k _ _ (hf.put1 hn v) hs)
theorem GA.pure (i : Nat) (l' : Array Bool) (hQ : PanicOk Q) (hi : ops[i]? = some o) (hd : o.dst = some d) (hc : anyB .any ops l l' i = true) (hw : wants ops ρ o = some true) (hn : Nat.blt d n = true) (h : Gives P o n ρ (fun _ => True) v)
    (k : GA P n w0 F0 ops Q S ds fuel l' ((d, v) :: ρ) L) : GA P n w0 F0 ops Q S ds (fuel + 1) l ρ L := fun a w hf hs =>
  pure_ (i := i) l' hi hd hc (fun c a w => hQ c a _ _ w) (.inl ⟨hf.wants hw, fun w' => h a w' hf trivial⟩) rfl (k _ _ (hf.put1 hn v) hs)
theorem GA.off (i : Nat) (l' : Array Bool) (hQ : PanicOk Q) (hi : ops[i]? = some o) (hd : o.dst = some d) (hc : anyB .any ops l l' i = true) (hw : wants ops ρ o = some false) (hn : Nat.blt d n = true)
    (k : GA P n w0 F0 ops Q S ds fuel l' ((d, undef) :: ρ) L) : GA P n w0 F0 ops Q S ds (fuel + 1) l ρ L := fun a w hf hs =>
  pure_ (i := i) l' hi hd hc (fun c a w => hQ c a _ _ w) (.inr ⟨hf.wants hw, rfl⟩) rfl (k _ _ (hf.put1 hn undef) hs)
section
variable {τ : Type} {val : τ → Value} {ok : τ → Prop} {Lq : τ → List Atom}
/-- One operation alone may come up: it is done; S is shown behind it. -/
theorem GA.one (i : Nat) (l' : Array Bool) (is : List Nat) (hi : ops[i]? = some o) (hd : o.dst = some d) (hc : readyB .any ops l l' i = true) (hds : i ∉ ds) (hw : wants ops ρ o = some true) (hn : Nat.blt d n = true) (hL : rems is L = some (Lp, Lr)) (h : Does P o n ρ (fun w => St w0 F0 w L) Lp val ok Lq)
    (hS : ∀ s w, ok s → St w0 F0 w (Lq s ++ Lr) → S w) (k : ∀ s, ok s → GA P n w0 F0 ops Q S ds fuel l' ((d, val s) :: ρ) (Lq s ++ Lr)) : GA P n w0 F0 ops Q S ds (fuel + 1) l ρ L := fun a w hf hs => by
  refine one_ (i := i) l' hi hd hc hds (fun K hK => ?_)
  rw [if_pos (hf.wants hw)]
  refine h.at_ hL hf hs (fun s w' hok hst => hK _ _ (hS s w' hok hst) (fun _ => ?_))
  rw [hd]
  exact k s hok _ _ (hf.put1 hn _) hst
theorem GA.one0 (i : Nat) (l' : Array Bool) (is : List Nat) (hi : ops[i]? = some o) (hd : o.dst = none) (hc : readyB .any ops l l' i = true) (hds : i ∉ ds) (hw : wants ops ρ o = some true) (hL : rems is L = some (Lp, Lr)) (h : Does P o n ρ (fun w => St w0 F0 w L) Lp val ok Lq)
    (hS : ∀ s w, ok s → St w0 F0 w (Lq s ++ Lr) → S w) (k : ∀ s, ok s → GA P n w0 F0 ops Q S ds fuel l' ρ (Lq s ++ Lr)) : GA P n w0 F0 ops Q S ds (fuel + 1) l ρ L := fun a w hf hs => by
  refine one_ (i := i) l' hi hd hc hds (fun K hK => ?_)
  rw [if_pos (hf.wants hw)]
  refine h.at_ hL hf hs (fun s w' hok hst => hK _ _ (hS s w' hok hst) (fun _ => ?_))
  rw [hd]
  exact k s hok _ _ hf hst
/-- The same for one of ds: nothing is shown behind it. -/
theorem GA.last (i : Nat) (l' : Array Bool) (is : List Nat) (hi : ops[i]? = some o) (hd : o.dst = some d) (hc : readyB .any ops l l' i = true) (hds : i ∈ ds) (hw : wants ops ρ o = some true) (hn : Nat.blt d n = true) (hL : rems is L = some (Lp, Lr)) (h : Does P o n ρ (fun w => St w0 F0 w L) Lp val ok Lq)
    (k : ∀ s, ok s → GA P n w0 F0 ops Q S ds fuel l' ((d, val s) :: ρ) (Lq s ++ Lr)) : GA P n w0 F0 ops Q S ds (fuel + 1) l ρ L := fun a w hf hs => by
  refine last_ (i := i) l' hi hd hc hds (fun K hK => ?_)
  rw [if_pos (hf.wants hw)]
  refine h.at_ hL hf hs (fun s w' hok hst => hK _ _ ?_)
  rw [hd]
  exact k s hok _ _ (hf.put1 hn _) hst
theorem GA.last0 (i : Nat) (l' : Array Bool) (is : List Nat) (hi : ops[i]? = some o) (hd : o.dst = none) (hc : readyB .any ops l l' i = true) (hds : i ∈ ds) (hw : wants ops ρ o = some true) (hL : rems is L = some (Lp, Lr)) (h : Does P o n ρ (fun w => St w0 F0 w L) Lp val ok Lq)
    (k : ∀ s, ok s → GA P n w0 F0 ops Q S ds fuel l' ρ (Lq s ++ Lr)) : GA P n w0 F0 ops Q S ds (fuel + 1) l ρ L := fun a w hf hs => by
  refine last_ (i := i) l' hi hd hc hds (fun K hK => ?_)
  rw [if_pos (hf.wants hw)]
  refine h.at_ hL hf hs (fun s w' hok hst => hK _ _ ?_)
  rw [hd]
  exact k s hok _ _ hf hst
end
/-- A read behind what was written. -/
theorem GA.lastG (i : Nat) (l' : Array Bool) (hi : ops[i]? = some o) (hd : o.dst = some d) (hc : readyB .any ops l l' i = true) (hds : i ∈ ds) (hw : wants ops ρ o = some true) (hn : Nat.blt d n = true) (h : Gives P o n ρ (fun w => St w0 F0 w L) v)
    (k : GA P n w0 F0 ops Q S ds fuel l' ((d, v) :: ρ) L) : GA P n w0 F0 ops Q S ds (fuel + 1) l ρ L := fun a w hf hs => by
  refine last_ (i := i) l' hi hd hc hds (fun K hK => ?_)
  rw [if_pos (hf.wants hw)]
  unfold Oper.wp
  rw [h a w hf hs, Oper.upon_value, hd]
  exact hK _ _ (k _ _ (hf.put1 hn v) hs)
theorem GA.done (hr : (Region.ready .any ops l == []) = true) (h : GQ n w0 F0 Q .normal ρ L) : GA P n w0 F0 ops Q S ds fuel l ρ L := fun a w hf hs => done_ hr (h a w hf hs) 
/-! ### 8. Parts seen otherwise -/
def Turns (Lp Lq : List Atom) : Prop := ∀ (w : World) (F : Nat → Prop), (∀ k, F k → k < w.heap.size) → Sep w F Lp → Sep w F Lq
theorem St.turn {is : List Nat} {Lq : List Atom} {w : World} (h : St w0 F0 w L) (hL : rems is L = some (Lp, Lr)) (ht : Turns Lp Lq) : St w0 F0 w (Lq ++ Lr) := by
  obtain ⟨F, f1, _, f2, f3⟩ := (h.perm (rems_perm hL)).frame
  exact f3 w Lq (St.start (ht w F f1 f2))
theorem GL.turn {rest : List Oper} (is : List Nat) {Lq : List Atom} (hL : rems is L = some (Lp, Lr)) (ht : Turns Lp Lq) (k : GL P n w0 F0 ops Q ρ (Lq ++ Lr) rest) : GL P n w0 F0 ops Q ρ L rest := fun a w hf hs => k a w hf (hs.turn hL ht)
theorem GC.turn {c : Code} (is : List Nat) {Lq : List Atom} (hL : rems is L = some (Lp, Lr)) (ht : Turns Lp Lq) (k : GC P n w0 F0 Q ρ (Lq ++ Lr) c) : GC P n w0 F0 Q ρ L c := fun a w hf hs => k a w hf (hs.turn hL ht)
theorem GQ.turn {e : Exit} (is : List Nat) {Lq : List Atom} (hL : rems is L = some (Lp, Lr)) (ht : Turns Lp Lq) (k : GQ n w0 F0 Q e ρ (Lq ++ Lr)) : GQ n w0 F0 Q e ρ L := fun a w hf hs => k a w hf (hs.turn hL ht)
theorem Turns.row {α : Type} {kd : Kd α} {B e g m : Nat} {xs : List α} {inner : List Value} (hB : B ≤ g) (hm : xs.length = m) (hm' : m ≤ 9223372036854775807) (hr : ∀ w base, Reps (kd.M w base (fun _ => False)) kd.sz xs inner) : Turns [Cells g inner.toArray e] [Row B kd e (.slice (some ⟨g, 0, none⟩) m m) xs] := fun w F hlt hs => by
  obtain ⟨F', f1, f2, f3⟩ := hs.one
  refine Sep.mk1 (F := F') f1 ⟨fun k hk => ?_, inner, ?_, (hr w B).imp_ (fun x cs hp => kd.M_mono (fun _ h => h.elim) hp)⟩
  · have : g = k := by simpa [Value.ownBlock] using hk
    subst this; exact f2
  · subst hm
    refine ⟨?_, .inr ⟨g, xs.length, inner.toArray, rfl, hB, f3, Nat.le_refl _, by simpa [maxLen] using hm', by simpa using (hr w B).1, ?_⟩⟩
    · simpa using (hr w B).1
    · have := (hr w B).1
      simp [← this]
theorem Turns.nilRow {α : Type} {B e : Nat} (kd : Kd α) : Turns [] [Row B kd e (.slice none 0 0) []] := fun w F hlt hs => Sep.mk1 (F := fun _ => False) (fun _ h => h.elim) (Kd.R_nil _ _ _ _ _)
/-- What a row's value is, and where. -/
theorem row_slice {α : Type} {B e : Nat} {kd : Kd α} {v : Value} {xs : List α} {R : List Atom} {i : Nat} (hL : rem1 i L = some (Row B kd e v xs, R)) : ∀ w, St w0 F0 w L → ∃ A c, v = .slice A xs.length c ∧ xs.length ≤ c := fun w hs => by
  obtain ⟨A, c, h1, h2, _⟩ := Kd.R_reads (hs.at hL).row
  exact ⟨A, c, h1, h2⟩
theorem row_form {α : Type} {B e : Nat} {kd : Kd α} {v : Value} {xs : List α} {R : List Atom} {i : Nat} (hL : rem1 i L = some (Row B kd e v xs, R)) (hp : 0 < xs.length) : ∀ w, St w0 F0 w L → ∃ g c, v = .slice (some ⟨g, 0, none⟩) xs.length c := fun w hs => by
  obtain ⟨g, c, h1, _⟩ := Kd.R_form (hs.at hL).row hp
  exact ⟨g, c, h1⟩
theorem row_C {α : Type} {B e m c : Nat} {A : Option Addr} {kd : Kd α} {xs : List α} {R : List Atom} {i : Nat} (hL : rem1 i L = some (Row B kd e (.slice A m c) xs, R)) : ∀ w, St w0 F0 w L → kd.C w A m xs := fun w hs => by
  obtain ⟨h1, _, h3⟩ := Kd.R_reads' (hs.at hL).row
  rw [h1]; exact h3
theorem row_len {α : Type} {B e m c : Nat} {A : Option Addr} {kd : Kd α} {xs : List α} {R : List Atom} {i : Nat} (hL : rem1 i L = some (Row B kd e (.slice A m c) xs, R)) : ∀ w, St w0 F0 w L → m = xs.length ∧ m ≤ c := fun w hs => by
  obtain ⟨h1, h2, _⟩ := Kd.R_reads' (hs.at hL).row
  exact ⟨h1, h2⟩
theorem row_some {α : Type} {B e m c : Nat} {A : Option Addr} {kd : Kd α} {xs : List α} {R : List Atom} {i : Nat} (hL : rem1 i L = some (Row B kd e (.slice A m c) xs, R)) (hp : 0 < m) : ∀ w, St w0 F0 w L → ∃ p, A = some p := fun w hs => by
  obtain ⟨ad, h, _⟩ := (row_C hL w hs).2.2 hp
  exact ⟨ad, h⟩
theorem C_lenm {α : Type} {m : Nat} {A : Option Addr} {kd : Kd α} {xs : List α} {w : World} (h : kd.C w A m xs) : xs.length = m ∧ m ≤ 9223372036854775807 := ⟨h.1, h.2.1⟩
theorem C_some {α : Type} {m : Nat} {A : Option Addr} {kd : Kd α} {xs : List α} {w : World} (h : kd.C w A m xs) (hp : 0 < m) : ∃ p, A = some p := by
  obtain ⟨ad, h, _⟩ := h.2.2 hp
  exact ⟨ad, h⟩
theorem row_cell {α : Type} {enc : α → Value} {h1 : ∀ x, (enc x).oneCell' = true} {B e g c : Nat} {i : Int} {xs : List α} {R : List Atom} {j m : Nat} (dflt : α) (hL : rem1 j L = some (Row B (Kd.scalar enc h1) e (.slice (some ⟨g, 0, none⟩) m c) xs, R)) (h0 : 0 ≤ i) (hi : i < m) : ∀ w, St w0 F0 w L → w.cell? ⟨g, i.toNat, none⟩ = some (enc (rdOf dflt xs i)) := fun w hs => by
  obtain ⟨h2, _⟩ := Kd.R_reads' (hs.at hL).row
  subst h2
  exact (Kd.R_cell dflt (hs.at hL).row i h0 hi).1
/-- What an element's cells are, if there are no rows in it. -/
def Encs {α : Type} (kd : Kd α) (enc : α → List Value) : Prop := ∀ w x cs, kd.K w x cs → cs = enc x
theorem encs_scalar {α : Type} {enc : α → Value} {h1 : ∀ x, (enc x).oneCell' = true} : Encs (Kd.scalar enc h1) (fun x => [enc x]) := fun _ _ _ h => h
theorem encs_pair {α β : Type} {a : Kd α} {b : Kd β} {ea : α → List Value} {eb : β → List Value} (ha : Encs a ea) (hb : Encs b eb) : Encs (Kd.pair a b) (fun x => ea x.1 ++ eb x.2) := fun w x cs h => by
  obtain ⟨c0, c1, h1, h2, h3⟩ := h
  rw [h1, ha _ _ _ h2, hb _ _ _ h3]
theorem encs_iso {α β : Type} {d : Kd α} {f : β → α} {ea : α → List Value} (h : Encs d ea) : Encs (Kd.iso d f) (fun x => ea (f x)) := fun w x cs hk => h w (f x) cs hk
theorem Gives.loadRow {α : Type} {kd : Kd α} {enc : α → List Value} {t : TypeId} {x : Operand} {p : Addr} {m : Nat} {i : Int} {xs : List α} (dflt : α) (hK : Encs kd enc) (hop : o.op = .load t x) (hx : ev ρ x = some (.pointer (some (p.add (i.toNat * kd.sz))))) (hagg : ∀ w, (isAgg t).run P w = .ok true w) (hsz : ∀ w, (sizeOf t).run P w = .ok kd.sz w)
    (hC : ∀ w, S w → kd.C w (some p) m xs) (h0 : 0 ≤ i) (h1 : i < m) : Gives P o n ρ S (.agg (enc (rdOf dflt xs i)).toArray) := fun a w hf hw => by
  obtain ⟨ad, c, h2, h3, h4, h5⟩ := (hC w hw).get_ dflt i h0 h1
  obtain rfl := Option.some.inj h2
  have h6 := hK w _ c h4
  have h7 := run_loadCells_list (P := P) (w := w) (p.add (i.toNat * kd.sz)) c (fun j u hj => by
    rw [show (p.add (i.toNat * kd.sz)).add j = p.add (i.toNat * kd.sz + j) from by unfold Addr.add; by_cases hq1 : i.toNat * kd.sz = 0 <;> by_cases hq2 : j = 0 <;> simp [hq1, hq2, Nat.add_assoc]]
    exact h5 j u hj)
  rw [h3] at h7
  subst h6
  simp [execOp, hop, hf.eval hx, Instr.loadAt, Instr.sureAddr, loadVar, hagg w, hsz w, h7]
  rfl
/-! #### results of any shape -/
def RV1 (P : Program) (w0 : World) (F0 : Nat → Prop) (L : List Atom) (ρ : Env) : ResultVar → Value → Prop
  | .tmp t, v => look ρ t = some v
  | .cell t T, v => ∃ p, look ρ t = some (.pointer (some p)) ∧ ∀ w, St w0 F0 w L → (loadVar T p).run P w = .ok v w
def RVs (P : Program) (w0 : World) (F0 : Nat → Prop) (L : List Atom) (ρ : Env) : List ResultVar → List Value → Prop
  | [], [] => True
  | r :: rs, v :: vs => RV1 P w0 F0 L ρ r v ∧ RVs P w0 F0 L ρ rs vs
  | _, _ => False
theorem rvs_run {a : Act} {w : World} (hf : Fr a n ρ) (hs : St w0 F0 w L) (f : ResultVar → Sem Value) (hft : ∀ u, f (.tmp u) = Pure.pure (a.tmps.getD u undef)) (hfc : ∀ x t, f (.cell x t) = (do loadVar t (← asAddr (a.tmps.getD x undef)))) :
    ∀ {rs : List ResultVar} {vs : List Value}, RVs P w0 F0 L ρ rs vs → (rs.mapM f).run P w = .ok vs w
  | [], [], _ => by simp
  | r :: rs, v :: vs, h => by
    have ih := rvs_run hf hs f hft hfc h.2
    cases r with
    | tmp t =>
      have h1 : a.tmps.getD t undef = v := getd hf h.1
      simp [List.mapM_cons, hft, h1, ih]
    | cell t T =>
      obtain ⟨p, h1, h2⟩ := h.1
      have h3 : a.tmps.getD t undef = .pointer (some p) := getd hf h1
      rw [List.mapM_cons, hfc, h3]
      simp [asAddr, h2 w hs, ih]
  | [], _ :: _, h => h.elim
  | _ :: _, [], h => h.elim
theorem GQ.retT {fn : Func} {R : Ending → World → Prop} {r : Exit} {rs : List ResultVar} {vs : List Value} (hr : r = .ret ∨ r = .normal) (hf : fn.results = rs.toArray) (hl : Nat.beq vs.length 1 = false) (hv : RVs P w0 F0 L ρ rs vs) (h : ∀ w, St w0 F0 w L → R (.returned (.tuple vs.toArray)) w) : GQ n w0 F0 (bodyPost P fn R) r ρ L :=
  GQ.fin hr (fun a w hfr hs => by
    have hl' : vs.length ≠ 1 := fun e => by rw [e] at hl; cases hl
    unfold results
    rw [hf, List.mapM_toArray]
    simp only [Sem.run_bind, Sem.run_map]
    rw [rvs_run hfr hs _ _ _ hv]
    · simp [hl']
    · intro u; rfl
    · intro x t; rfl) h
theorem GQ.retS {fn : Func} {R : Ending → World → Prop} {r : Exit} {q : ResultVar} {v : Value} (hr : r = .ret ∨ r = .normal) (hf : fn.results = #[q]) (hv : RV1 P w0 F0 L ρ q v) (h : ∀ w, St w0 F0 w L → R (.returned v) w) : GQ n w0 F0 (bodyPost P fn R) r ρ L :=
  GQ.fin hr (fun a w hfr hs => by
    unfold results
    rw [show fn.results = [q].toArray from hf, List.mapM_toArray]
    simp only [Sem.run_bind, Sem.run_map]
    rw [rvs_run (rs := [q]) (vs := [v]) hfr hs _ _ _ ⟨hv, trivial⟩]
    · simp
    · intro u; rfl
    · intro x t; rfl) h
theorem lv_agg {i g : Nat} {cs : Array Value} {t tb : TypeId} {R : List Atom} (hL : rem1 i L = some (Cells g cs tb, R)) (hagg : ∀ w, (isAgg t).run P w = .ok true w) (hsz : ∀ w, (sizeOf t).run P w = .ok cs.size w) : ∀ w, St w0 F0 w L → (loadVar t ⟨g, 0, none⟩).run P w = .ok (.agg cs) w := fun w hs => by
  have hb := (hs.at hL).cells
  have h1 := run_loadCells_list (P := P) (w := w) ⟨g, 0, none⟩ cs.toList (fun j u hj => by rw [add_plain, blk_cell hb]; simpa using hj)
  simp only [Array.length_toList] at h1
  simp [loadVar, hagg w, hsz w, h1]
theorem lv_cell {i g j : Nat} {cs : Array Value} {t tb : TypeId} {R : List Atom} (hL : rem1 i L = some (Cells g cs tb, R)) (ht : Plain P t) (hv : cs[j]? = some v) : ∀ w, St w0 F0 w L → (loadVar t ⟨g, j, none⟩).run P w = .ok v w := fun w hs => by
  have ht' := ht w
  have hc' := cell_at hL hv w hs
  simp [loadVar, ht', hc']
/-- A store into a row of scalars. -/
theorem Does.rowStore {α : Type} {enc : α → Value} {h1 : ∀ x, (enc x).oneCell' = true} {B e g c m : Nat} {t : TypeId} {x y : Operand} {i : Int} {q : α} {xs : List α} (dflt : α) (hop : o.op = .store t x y) (hx : ev ρ x = some (.pointer (some ⟨g, i.toNat, none⟩))) (hy : ev ρ y = some (enc q)) (hsz : ∀ w, (sizeOf t).run P w = .ok 1 w) (hc : (enc q).cells = #[enc q])
    (h0 : 0 ≤ i) (hi : i < m) : Does P o n ρ S [Row B (Kd.scalar enc h1) e (.slice (some ⟨g, 0, none⟩) m c) xs] (fun _ : Unit => undef) (fun _ => True) (fun _ => [Row B (Kd.scalar enc h1) e (.slice (some ⟨g, 0, none⟩) m c) (xs.set i.toNat q)]) := fun a w F hf _ hs hlt K Q k => by
  obtain ⟨F', f1, f2⟩ := hs.one
  obtain ⟨h2, _⟩ := Kd.R_reads' f2
  subst h2
  have hR : (Kd.scalar enc h1).R e w B (fun k => F k ∨ w.heap.size ≤ k) (.slice (some ⟨g, 0, none⟩) xs.length c) xs := Kd.R_mono f2 (fun k hk => .inl (f1 k hk).1)
  obtain ⟨hcell, hfz⟩ := Kd.R_cell dflt hR i h0 hi
  obtain ⟨hp, hg⟩ := Kd.R_put hR i q
  have hr := run_store P w ⟨g, i.toNat, none⟩ (enc q) .plain (h1 q)
  rw [hcell] at hr
  simp only [hfz, Bool.false_eq_true, if_false] at hr
  unfold Oper.wp
  have h00 : (⟨g, i.toNat, none⟩ : Addr).add 0 = ⟨g, i.toNat, none⟩ := by simp [Addr.add]
  simp only [execOp, hop, hf.eval hx, hf.eval hy, Instr.storeAt, Instr.sureAddr, storeVar, hc, hsz w, Sem.run_bind, Sem.run_pure, Result.andThen_ok, storeCells, h00]
  rw [if_neg (by simp)]
  simp only [Sem.run_bind, Sem.run_pure, hr, Result.andThen_ok]
  refine k () _ trivial (St.grown (v := .slice (some ⟨g, 0, none⟩) xs.length c) (xs := xs) (fun k hk => (f1 k (f2.1 k hk)).1) ?_ ?_)
  · exact hg
  · exact hp
theorem Does.make {α : Type} {kd : Kd α} {B e : Nat} {t : TypeId} {x y : Operand} {m : Int} {z : Value} {bytes : Nat} (z0 : α) (hB : ∀ w, S w → B ≤ w.heap.size) (hop : o.op = .makeSlice t x y) (hx : ev ρ x = some (.int .i64 m)) (hy : ev ρ y = some (.int .i64 m)) (ht : P.underlying t = some (.slice e))
    (hinfo : (P.info? e).map (fun i => (i.zero, i.size, i.bytes)) = some (some z, kd.sz, bytes)) (hz : z.cells.size = kd.sz) (hs0 : 0 < kd.sz) (hb0 : 0 < bytes) (hzero : ∀ w base, kd.M w base (fun _ => False) z0 z.cells.toList) (h0 : 0 ≤ m) (hl : m.toNat * bytes ≤ 281474976710656) :
    Does P o n ρ S [] (fun v : Value => v) (fun _ => True) (fun v => [Row B kd e v (List.replicate m.toNat z0)]) := fun a w F hf hw hs hlt K Q k => by
  obtain ⟨m', rfl⟩ := Int.eq_ofNat_of_zero_le h0
  simp only [Int.toNat_natCast] at hl k
  obtain ⟨i0, hi, hzz⟩ := Option.map_eq_some_iff.1 hinfo
  simp only [Prod.mk.injEq] at hzz
  obtain ⟨hz0, hz1, hz2⟩ := hzz
  have hm : m' ≤ 281474976710656 := Nat.le_trans (Nat.le_mul_of_pos_right _ hb0) hl
  have hr := run_make (P := P) w t e i0 z ht hi hz0 .i64 .i64 (m' : Int) (m' : Int) (by omega) (by omega)
    (by
      have h3 : ((i0.bytes * m' : Nat) : Int) ≤ 281474976710656 := by rw [hz2, Nat.mul_comm]; omega
      rwa [Int.natCast_mul] at h3) (by omega)
  simp only [Int.toNat_natCast] at hr
  rw [hz1] at hr
  have hreps : ∀ w base, Reps (kd.M w base (fun _ => False)) kd.sz (List.replicate m' z0) (madeCells z.cells (m' * kd.sz)).toList := fun w base => Kd.reps_made hz hs0 (hzero w base) m'
  unfold Oper.wp
  simp only [execOp, hop, hf.eval hx, hf.eval hy, Sem.run_bind, hr, Result.andThen_ok, Sem.run_pure, Oper.upon_value]
  refine k (.slice (some ⟨w.heap.size, 0, none⟩) m' m') _ trivial ?_
  have hnew := St.new (w := w) (F := F) (madeCells z.cells (m' * kd.sz)) e
  have := hnew.turn (is := [0]) (Lr := []) rfl (Turns.row (kd := kd) (B := B) (e := e) (g := w.heap.size) (m := m') (xs := List.replicate m' z0) (inner := (madeCells z.cells (m' * kd.sz)).toList) (hB w hw) (by simp) (by omega) hreps)
  exact this
end
end Go.Proofs.YteckdfgllipilaaS
