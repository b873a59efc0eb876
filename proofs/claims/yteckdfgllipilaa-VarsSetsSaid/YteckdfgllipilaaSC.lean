/- More rules of the small logic: rows in the raw: copied into, grown, cut. -/
import Derived.Test.YteckdfgllipilaaSB
import Derived.Laws.CopyRow
import Derived.Lib.AppendZerosOnto
import Derived.Lib.Overlaps
namespace Go.Proofs.YteckdfgllipilaaS
open Go.RowKit Go.Proofs.YteckdfgllipilaaW.PrintWords Go.Proofs.YteckdfgllipilaaW.PrintLast

/-- A block's cells with others from a place on. -/
def putAt (cs : Array Value) (o : Nat) (src : List Value) : Array Value := (cs.toList.take o ++ src ++ cs.toList.drop (o + src.length)).toArray
theorem putAt_size (cs : Array Value) (o : Nat) (src : List Value) (h : o + src.length ≤ cs.size) : (putAt cs o src).size = cs.size := by
  simp only [putAt, List.size_toArray, List.length_append, List.length_take, List.length_drop, Array.length_toList]
  omega
theorem reps_inner {α : Type} {R : α → List Value → Prop} {enc : α → List Value} {sz : Nat} (hR : ∀ p c, R p c → c = enc p) : ∀ {ps : List α} {cs : List Value}, Reps R sz ps cs → cs = ps.flatMap enc
  | [], cs, h => by
    have := h.1
    simp at this
    simp [this]
  | p :: ps, cs, h => by
    have h0 := hR _ _ (h.2 0 p rfl)
    simp only [Nat.zero_mul, List.drop_zero] at h0
    have hr : Reps R sz ps (cs.drop sz) := by
      refine ⟨by rw [List.length_drop, h.1, List.length_cons, Nat.add_mul]; omega, fun j q hq => ?_⟩
      have := h.2 (j + 1) q (by simpa using hq)
      rwa [List.drop_drop, show sz + j * sz = (j + 1) * sz by rw [Nat.add_mul]; omega]
    have ih := reps_inner hR hr
    rw [List.flatMap_cons, ← h0, ← ih, List.take_append_drop]
theorem reps_flat {α : Type} {R : α → List Value → Prop} {enc : α → List Value} {sz : Nat} (hR : ∀ p, R p (enc p)) (hl : ∀ p, (enc p).length = sz) : ∀ (ps : List α), Reps R sz ps (ps.flatMap enc)
  | [] => Reps.none _ _
  | p :: ps => by
    obtain ⟨h1, h2⟩ := reps_flat hR hl ps
    refine ⟨by rw [List.flatMap_cons, List.length_append, hl, h1, List.length_cons, Nat.add_mul]; omega, fun j q hq => ?_⟩
    cases j with
    | zero =>
      obtain rfl := Option.some.inj hq
      rw [Nat.zero_mul, List.drop_zero, List.flatMap_cons, List.take_append_of_le_length (by rw [hl]; omega), List.take_of_length_le (by rw [hl]; omega)]
      exact hR _
    | succ j =>
      have := h2 j q (by simpa using hq)
      rw [List.flatMap_cons, List.drop_append, List.drop_of_length_le (by rw [hl, Nat.add_mul]; omega), List.nil_append, hl]
      rwa [show (j + 1) * sz - sz = j * sz by rw [Nat.add_mul]; omega]
section
variable {P : Program} {n : Nat} {w0 : World} {F0 : Nat → Prop} {ops : Array Oper} {Q : Exit → Act → World → Prop} {ρ : Env} {L L' Lp Lr : List Atom} {o : Oper} {d : Tmp} {v : Value} {S : World → Prop}
/-- A row opened: its block, in the raw. -/
theorem St.openRow {α : Type} {kd : Kd α} {enc : α → List Value} {B e g m c : Nat} {xs : List α} {is : List Nat} {w : World} (hK : Encs kd enc) (hs : St w0 F0 w L) (hL : rems is L = some ([Row B kd e (.slice (some ⟨g, 0, none⟩) m c) xs], Lr)) :
    ∃ cur : Array Value, cur.size = c * kd.sz ∧ cur.toList.take (m * kd.sz) = xs.flatMap enc ∧ B ≤ g ∧ c ≤ maxLen ∧ m = xs.length ∧ m ≤ c ∧ St w0 F0 w (Cells g cur e :: Lr) := by
  obtain ⟨F, f1, _, f2, f3⟩ := (hs.perm (rems_perm hL)).frame
  obtain ⟨F', g1, h0, inner, ho, hr⟩ := f2.one
  obtain ⟨hm, _⟩ := Kd.R_reads' (d := kd) (w := w) (show kd.R e w B F' (.slice (some ⟨g, 0, none⟩) m c) xs from ⟨h0, inner, ho, hr⟩)
  subst hm
  rcases ho.2 with ⟨h1, _⟩ | ⟨g', cap, cur, h1, h2, h3, h4, h5, h6, h7⟩
  · cases h1
  · injection h1 with e1 _ e3
    injection e1 with e1
    injection e1 with e1
    subst e1 e3
    refine ⟨cur, h6, ?_, h2, h5, rfl, h4, f3 w [Cells g cur e] (St.start ⟨F', g1, ⟨h0 g rfl, h3⟩, trivial⟩)⟩
    rw [h7]
    exact reps_inner (fun p c' hp => hK w p c' (kd.K_of_M hp)) hr
theorem GL.openRow {α : Type} {kd : Kd α} {enc : α → List Value} {B e g m c : Nat} {xs : List α} {rest : List Oper} (is : List Nat) (hK : Encs kd enc) (hL : rems is L = some ([Row B kd e (.slice (some ⟨g, 0, none⟩) m c) xs], Lr))
    (k : ∀ cur : Array Value, cur.size = c * kd.sz → cur.toList.take (m * kd.sz) = xs.flatMap enc → B ≤ g → c ≤ maxLen → GL P n w0 F0 ops Q ρ (Cells g cur e :: Lr) rest) : GL P n w0 F0 ops Q ρ L rest := fun a w hf hs => by
  obtain ⟨cur, h1, h2, h3, h4, _, _, h5⟩ := hs.openRow hK hL
  exact k cur h1 h2 h3 h4 a w hf h5
theorem GC.openRow {α : Type} {kd : Kd α} {enc : α → List Value} {B e g m c : Nat} {xs : List α} {code : Code} (is : List Nat) (hK : Encs kd enc) (hL : rems is L = some ([Row B kd e (.slice (some ⟨g, 0, none⟩) m c) xs], Lr))
    (k : ∀ cur : Array Value, cur.size = c * kd.sz → cur.toList.take (m * kd.sz) = xs.flatMap enc → B ≤ g → c ≤ maxLen → GC P n w0 F0 Q ρ (Cells g cur e :: Lr) code) : GC P n w0 F0 Q ρ L code := fun a w hf hs => by
  obtain ⟨cur, h1, h2, h3, h4, _, _, h5⟩ := hs.openRow hK hL
  exact k cur h1 h2 h3 h4 a w hf h5
/-- And shut again. -/
theorem Turns.shut {α : Type} {kd : Kd α} {enc : α → List Value} {B e g m c : Nat} {xs : List α} {cur : Array Value} (hM : ∀ w base p, kd.M w base (fun _ => False) p (enc p)) (hl : ∀ p, (enc p).length = kd.sz) (hB : B ≤ g) (hm : m = xs.length) (hmc : m ≤ c) (hc : c ≤ maxLen) (hs : cur.size = c * kd.sz) (ht : cur.toList.take (m * kd.sz) = xs.flatMap enc) :
    Turns [Cells g cur e] [Row B kd e (.slice (some ⟨g, 0, none⟩) m c) xs] := fun w F hlt hsep => by
  obtain ⟨F', f1, f2, f3⟩ := hsep.one
  subst hm
  have hr : ∀ w base, Reps (kd.M w base (fun _ => False)) kd.sz xs (xs.flatMap enc) := fun w base => reps_flat (hM w base) hl xs
  refine Sep.mk1 (F := F') f1 ⟨fun k hk => ?_, xs.flatMap enc, ⟨(hr w B).1, .inr ⟨g, c, cur, rfl, hB, f3, hmc, hc, hs, ht⟩⟩, (hr w B).imp_ (fun x cs hp => kd.M_mono (fun _ h => h.elim) hp)⟩
  have : g = k := by simpa [Value.ownBlock] using hk
  subst this; exact f2
theorem St.putRow {w : World} {F : Nat → Prop} {g : Nat} {cs : Array Value} {t : TypeId} (hs : Sep w F [Cells g cs t]) (cs' : Array Value) : St w F (w.setRow g cs') [Cells g cs' t] := by
  obtain ⟨F', f1, f2, f3⟩ := hs.one
  have hk : ∀ k, k ≠ g → (w.setRow g cs').heap[k]? = w.heap[k]? := fun k hk => by
    simp only [World.setRow, Array.getElem?_modify]
    rw [if_neg (fun e => hk e.symm)]
  have hsz : (w.setRow g cs').heap.size = w.heap.size := by simp [World.setRow]
  refine ⟨rfl, rfl, rfl, by rw [hsz]; exact Nat.le_refl _, fun k _ hn => hk k (fun e => hn (by subst e; exact (f1 _ f2).1)), Sep.mk1 (F := fun k => k = g) (fun k e => ?_) ⟨rfl, setRow_heap w g cs cs' t (0, 0) f3⟩⟩
  subst e
  exact ⟨.inl (f1 _ f2).1, by rw [hsz]; exact (f1 _ f2).2⟩
/-- copy: into a block that is known. -/
theorem Does.copy {dT sT elem : TypeId} {x y : Operand} {g off dLen dCap sLen sCap sz : Nat} {ad : Addr} {cs : Array Value} {tb : TypeId} (src : List Value) (hop : o.op = .call { callee := .builtin .copy, args := #[x, y], argTypes := #[dT, sT] }) (hx : ev ρ x = some (.slice (some ⟨g, off, none⟩) dLen dCap)) (hy : ev ρ y = some (.slice (some ad) sLen sCap))
    (ht : P.underlying dT = some (.slice elem)) (hsz : ∀ w, (sizeOf elem).run P w = .ok sz w) (hn : src.length = Nat.min sLen dLen * sz) (hsrc : ∀ w, S w → ∀ j v, src[j]? = some v → w.cell? (ad.add j) = some v) (h1 : ∀ v ∈ src, v.oneCell' = true) (hfit : off + src.length ≤ cs.size) :
    Does P o n ρ S [Cells g cs tb] (fun _ : Unit => .int .i64 (Nat.min sLen dLen : Nat)) (fun _ => True) (fun _ => [Cells g (putAt cs off src) tb]) := fun a w F hf hw hs _ K Q k => by
  obtain ⟨F', f1, f2, f3⟩ := hs.one
  have hl := run_loadCells_list (P := P) w ad src (hsrc w hw)
  rw [hn] at hl
  have hst := run_storeCells_at P g off tb src 0 cs w f3 (by simpa using hfit) h1
  simp only [Nat.add_zero] at hst
  have hr : (Builtin.copy_ #[dT, sT] o.type #[.slice (some ⟨g, off, none⟩) dLen dCap, .slice (some ad) sLen sCap]).run P w = .ok (goInt (Nat.min sLen dLen)) (w.setRow g (putAt cs off src)) := by
    simp [Builtin.copy_, run_underlying ht, Builtin.lenOf, Builtin.firstCells, hsz w, hl, hst, putAt]
  unfold Oper.wp
  have he : (execOp a.eval o).run P w = .ok (.value (goInt (Nat.min sLen dLen))) (w.setRow g (putAt cs off src)) := by
    simp only [execOp, hop, resolve, invoke, List.map_toArray, List.map_cons, List.map_nil, hf.eval hx, hf.eval hy, Sem.run_bind, Sem.run_pure, Result.andThen_ok]
    show ((do pure (Next.value (← Builtin.copy_ #[dT, sT] o.type #[.slice (some ⟨g, off, none⟩) dLen dCap, .slice (some ad) sLen sCap])) : Sem Next)).run P w = _
    simp only [Sem.run_bind, hr, Result.andThen_ok, Sem.run_pure]
  rw [he, Oper.upon_value]
  exact k () _ trivial (St.putRow hs _)
/-- append where there is room: into a block that is known. -/
theorem Does.appendRoom {t e : TypeId} {x y : Operand} {g m c q c' sz : Nat} {A : Option Addr} {cs : Array Value} {tb : TypeId} (src : List Value) (hop : o.op = .call { callee := .builtin .append, args := #[x, y], argTypes := #[t, t] }) (hx : ev ρ x = some (.slice (some ⟨g, 0, none⟩) m c)) (hy : ev ρ y = some (.slice A q c'))
    (ht : P.underlying t = some (.slice e)) (hsz : ∀ w, (sizeOf e).run P w = .ok sz w) (hl : src.length = q * sz) (hsrc : ∀ w, S w → 0 < q → ∃ ad, A = some ad ∧ ∀ j v, src[j]? = some v → w.cell? (ad.add j) = some v) (h1 : ∀ v ∈ src, v.oneCell' = true) (hroom : m + q ≤ c) (hfit : m * sz + src.length ≤ cs.size) :
    Does P o n ρ S [Cells g cs tb] (fun _ : Unit => .slice (some ⟨g, 0, none⟩) (m + q) c) (fun _ => True) (fun _ => [Cells g (putAt cs (m * sz) src) tb]) := fun a w F hf hw hs _ K Q k => by
  obtain ⟨F', f1, f2, f3⟩ := hs.one
  have hfc : (Builtin.firstCells sz q (.slice A q c')).run P w = .ok src.toArray w := by
    rcases Nat.eq_zero_or_pos q with h0 | h0
    · subst h0
      have : src = [] := List.eq_nil_of_length_eq_zero (by omega)
      subst this
      cases A with
      | none => simp [Builtin.firstCells]
      | some ad =>
        have hl0 := run_loadCells_list (P := P) w ad [] (fun j u hj => by simp at hj)
        simp only [List.length_nil] at hl0
        simp [Builtin.firstCells, hl0]
    · obtain ⟨ad, rfl, hc⟩ := hsrc w hw h0
      have hl0 := run_loadCells_list (P := P) w ad src hc
      rw [hl] at hl0
      simp [Builtin.firstCells, hl0]
  have hst := run_storeCells_at P g (m * sz) tb src 0 cs w f3 (by simpa using hfit) h1
  simp only [Nat.add_zero] at hst
  have hadd : (⟨g, 0, none⟩ : Addr).add (m * sz) = ⟨g, m * sz, none⟩ := add_plain _ _
  have htt : ∀ k, P.underlying t ≠ some (.int k) := fun k h => by rw [ht] at h; cases h
  have hr : (Builtin.append_ #[t, t] o.type #[.slice (some ⟨g, 0, none⟩) m c, .slice A q c']).run P w = .ok (.slice (some ⟨g, 0, none⟩) (m + q) c) (w.setRow g (putAt cs (m * sz) src)) := by
    simp [Builtin.append_, run_underlying ht, Builtin.lenOf, hsz w, hroom, hfc, hadd, hst, putAt]
  unfold Oper.wp
  have he : (execOp a.eval o).run P w = .ok (.value (.slice (some ⟨g, 0, none⟩) (m + q) c)) (w.setRow g (putAt cs (m * sz) src)) := by
    simp only [execOp, hop, resolve, invoke, List.map_toArray, List.map_cons, List.map_nil, hf.eval hx, hf.eval hy, Sem.run_bind, Sem.run_pure, Result.andThen_ok]
    show ((do pure (Next.value (← Builtin.append_ #[t, t] o.type #[.slice (some ⟨g, 0, none⟩) m c, .slice A q c'])) : Sem Next)).run P w = _
    simp only [Sem.run_bind, hr, Result.andThen_ok, Sem.run_pure]
  rw [he, Oper.upon_value]
  exact k () _ trivial (St.putRow hs _)
/-- clear: of a slice in a block that is known. -/
theorem Does.clear {t e : TypeId} {x : Operand} {g off m c sz bytes : Nat} {z : Value} {cs : Array Value} {tb : TypeId} (hop : o.op = .call { callee := .builtin .clear, args := #[x], argTypes := #[t] }) (hx : ev ρ x = some (.slice (some ⟨g, off, none⟩) m c))
    (ht : P.underlying t = some (.slice e)) (hinfo : (P.info? e).map (fun i => (i.zero, i.size, i.bytes)) = some (some z, sz, bytes)) (h1 : ∀ v ∈ (Builtin.zeroCells z.cells m).toList, v.oneCell' = true) (hm : 0 < m) (hfit : off + (Builtin.zeroCells z.cells m).toList.length ≤ cs.size) :
    Does P o n ρ S [Cells g cs tb] (fun _ : Unit => .tuple #[]) (fun _ => True) (fun _ => [Cells g (putAt cs off (Builtin.zeroCells z.cells m).toList) tb]) := fun a w F hf hw hs _ K Q k => by
  obtain ⟨F', f1, f2, f3⟩ := hs.one
  obtain ⟨i0, hi, hzz⟩ := Option.map_eq_some_iff.1 hinfo
  simp only [Prod.mk.injEq] at hzz
  obtain ⟨hz0, hz1, hz2⟩ := hzz
  have hst := run_storeCells_at P g off tb (Builtin.zeroCells z.cells m).toList 0 cs w f3 (by simpa using hfit) h1
  simp only [Nat.add_zero] at hst
  have hr : (Builtin.clear_ #[t] o.type #[.slice (some ⟨g, off, none⟩) m c]).run P w = .ok (.tuple #[]) (w.setRow g (putAt cs off (Builtin.zeroCells z.cells m).toList)) := by
    obtain ⟨q, rfl⟩ : ∃ q, m = q + 1 := ⟨m - 1, by omega⟩
    simp [Builtin.clear_, run_underlying ht, zeroValue, typeInfo, hi, hz0, hst, putAt]
  unfold Oper.wp
  have he : (execOp a.eval o).run P w = .ok (.value (.tuple #[])) (w.setRow g (putAt cs off (Builtin.zeroCells z.cells m).toList)) := by
    simp only [execOp, hop, resolve, invoke, List.map_toArray, List.map_cons, List.map_nil, hf.eval hx, Sem.run_bind, Sem.run_pure, Result.andThen_ok]
    show ((do pure (Next.value (← Builtin.clear_ #[t] o.type #[.slice (some ⟨g, off, none⟩) m c])) : Sem Next)).run P w = _
    simp only [Sem.run_bind, hr, Result.andThen_ok, Sem.run_pure]
  rw [he, Oper.upon_value]
  exact k () _ trivial (St.putRow hs _)
theorem Gives.sl3 {t e : TypeId} {x y z u : Operand} {A : Option Addr} {m c sz : Nat} {k k' k'' : IntKind} {i j l : Int} (hop : o.op = .slice t x (some y) (some z) (some u)) (hx : ev ρ x = some (.slice A m c)) (hy : ev ρ y = some (.int k i)) (hz : ev ρ z = some (.int k' j)) (hu : ev ρ u = some (.int k'' l)) (ht : P.underlying t = some (.slice e)) (hsz : ∀ w, (sizeOf e).run P w = .ok sz w) (h0 : 0 ≤ i) (h1 : i ≤ j) (h2 : j ≤ l) (h3 : l ≤ c) :
    Gives P o n ρ S (sliced A i.toNat j.toNat l.toNat sz) := fun a w hf _ => by
  have he : P.elem t = e := by simp [Program.elem, ht]
  have ht' : P.underlying t = some (.slice (P.elem t)) := by rw [he]; exact ht
  have hr := run_slice_lhm (P := P) w t A m c ht' k k' k'' i j l h0 h1 h2 h3
  rw [he, hsz w] at hr
  have hr2 := run_sliceAt_slice (P := P) w t (.slice A m c) (some (.int k i)) (some (.int k' j)) (some (.int k'' l)) ht'
  simp [execOp, hop, hf.eval hx, hf.eval hy, hf.eval hz, hf.eval hu, hr2, hr, Result.andThen]
theorem Gives.sllhp {t e : TypeId} {x y z : Operand} {g off m c sz : Nat} {k k' : IntKind} {i j : Int} (hop : o.op = .slice t x (some y) (some z) none) (hx : ev ρ x = some (.slice (some ⟨g, off, none⟩) m c)) (hy : ev ρ y = some (.int k i)) (hz : ev ρ z = some (.int k' j)) (ht : P.underlying t = some (.slice e)) (hsz : ∀ w, (sizeOf e).run P w = .ok sz w) (h0 : 0 ≤ i) (h1 : i ≤ j) (h2 : j ≤ c) (h3 : i < c) :
    Gives P o n ρ S (.slice (some ⟨g, off + i.toNat * sz, none⟩) (j.toNat - i.toNat) (c - i.toNat)) := fun a w hf _ => by
  have he : P.elem t = e := by simp [Program.elem, ht]
  have ht' : P.underlying t = some (.slice (P.elem t)) := by rw [he]; exact ht
  have hr := run_slice_lh (P := P) w t (some ⟨g, off, none⟩) m c ht' k k' i j h0 h1 h2
  rw [he, hsz w] at hr
  simp only [Result.andThen, sliced] at hr
  rw [if_neg (by omega)] at hr
  have hr2 := run_sliceAt_slice (P := P) w t (.slice (some ⟨g, off, none⟩) m c) (some (.int k i)) (some (.int k' j)) none ht'
  have hadd : (⟨g, off, none⟩ : Addr).add (i.toNat * sz) = ⟨g, off + i.toNat * sz, none⟩ := by
    unfold Addr.add
    by_cases hq : i.toNat * sz = 0 <;> simp [hq]
  simp [execOp, hop, hf.eval hx, hf.eval hy, hf.eval hz, hr2, hr, hadd]
/-- append(s, make([]T, k)...): no room: a new block. -/
theorem Does.growZeros {t tn e : TypeId} {x y : Operand} {B m c sz bytes : Nat} {ad : Addr} {z : Value} {kk : Int} {kn : IntKind} (olds : List Value) (hB : ∀ w, S w → B ≤ w.heap.size) (hop : o.op = .call { callee := .builtin .append, args := #[x, y], argTypes := #[t, tn] }) (hx : ev ρ x = some (.slice (some ad) m c)) (hy : ev ρ y = some (.int .i64 kk))
    (ht : P.underlying t = some (.slice e)) (htn : P.underlying tn = some (.int kn)) (hinfo : (P.info? e).map (fun i => (i.zero, i.size, i.bytes)) = some (some z, sz, bytes)) (hz : z.cells.size = sz) (hs0 : 0 < sz) (hl : olds.length = m * sz) (hold : ∀ w, S w → ∀ j u, olds[j]? = some u → w.cell? (ad.add j) = some u)
    (hk : 0 < kk) (hg : (c : Int) < m + kk) (hb : (m + kk.toNat) * bytes ≤ 140737488355328) (hb0 : 0 < bytes) :
    Does P o n ρ S [] (fun s : Nat × Nat × Array Value => .slice (some ⟨s.1, 0, none⟩) (m + kk.toNat) s.2.1) (fun s => B ≤ s.1 ∧ s.2.2.size = s.2.1 * sz ∧ s.2.2.toList.take (m * sz) = olds ∧ m + kk.toNat ≤ s.2.1 ∧ s.2.1 ≤ maxLen) (fun s => [Cells s.1 s.2.2 e]) := fun a w F hf hw hs hlt K Q k => by
  obtain ⟨q, rfl⟩ := Int.eq_ofNat_of_zero_le (Int.le_of_lt hk)
  simp only [Int.toNat_natCast] at k hb
  obtain ⟨i0, hi, hzz⟩ := Option.map_eq_some_iff.1 hinfo
  simp only [Prod.mk.injEq] at hzz
  obtain ⟨hz0, hz1, hz2⟩ := hzz
  have hb' : (m + q) * bytes ≤ 140737488355328 := hb
  have hmq : m + q ≤ 140737488355328 := Nat.le_trans (Nat.le_mul_of_pos_right _ hb0) hb'
  have hfc : (Builtin.firstCells i0.size m (.slice (some ad) m c)).run P w.drew = .ok olds.toArray w.drew := by
    have := run_firstCells_some (P := P) w.drew i0.size m ad m c olds (by rw [hz1]; exact hl) (fun j u hj => hold w hw j u hj)
    exact this
  have hfit : Builtin.nextslicecap (m + q) c * i0.bytes ≤ 281474976710656 := by rw [hz2]; exact growslice_fits (by omega) hb'
  have hr := Lib.run_append_grow_zeros (P := P) w t tn o.type e i0 z .i64 kn ht htn hi hz0 (some ad) m c olds hfc q (by omega) (by omega) (by omega) (by omega) (by rw [hz2]; exact Nat.le_trans (Nat.mul_le_mul_right _ (Nat.le_add_left q m)) (by omega)) hfit
  unfold Oper.wp
  have he : (execOp a.eval o).run P w = .ok (.value (.slice (some ⟨w.heap.size, 0, none⟩) (m + q) (grownCap w (m + q) c e))) (w.drew.alloc (.cells (olds.toArray ++ Builtin.zeroCells z.cells q ++ Builtin.zeroCells z.cells (grownCap w (m + q) c e - (m + q))) e)) := by
    simp only [execOp, hop, resolve, invoke, List.map_toArray, List.map_cons, List.map_nil, hf.eval hx, hf.eval hy, Sem.run_bind, Sem.run_pure, Result.andThen_ok]
    show ((do pure (Next.value (← Builtin.append_ #[t, tn] o.type #[.slice (some ad) m c, .int .i64 (q : Int)])) : Sem Next)).run P w = _
    simp only [Sem.run_bind, hr, Result.andThen_ok, Sem.run_pure]
  have hge := grownCap_ge w (m + q) c e
  have hmx : grownCap w (m + q) c e ≤ maxLen := grownCap_le_maxLen w (m + q) c e (by unfold maxLen; omega)
  rw [he, Oper.upon_value]
  refine k (w.heap.size, grownCap w (m + q) c e, _) _ ⟨hB w hw, ?_, ?_, hge, hmx⟩ (St.of_below (below_alloc (below_drew (Below.refl _ _)) _) (Sep.mk1 (F := fun k => k = w.heap.size) (fun k hk => by subst hk; simp) ⟨rfl, heap_alloc_new w.drew _⟩))
  · simp only [Array.size_append, List.size_toArray, size_zeroCells, hz, hl, ← Nat.add_mul]
    congr 1
    omega
  · simp only [Array.toList_append, List.append_assoc]
    rw [← hl]
    exact List.take_left
theorem Gives.sl0p {t e : TypeId} {x y : Operand} {g off m c sz : Nat} {k : IntKind} {i : Int} (hop : o.op = .slice t x (some y) none none) (hx : ev ρ x = some (.slice (some ⟨g, off, none⟩) m c)) (hy : ev ρ y = some (.int k i)) (ht : P.underlying t = some (.slice e)) (hsz : ∀ w, (sizeOf e).run P w = .ok sz w) (h0 : 0 ≤ i) (h1 : i ≤ m) (h2 : i < c) :
    Gives P o n ρ S (.slice (some ⟨g, off + i.toNat * sz, none⟩) (m - i.toNat) (c - i.toNat)) := fun a w hf hw => by
  have h := Gives.sl0 (S := S) hop hx hy ht hsz h0 h1 a w hf hw
  rw [h]
  simp only [sliced]
  rw [if_neg (by omega)]
  simp only [Option.map_some, Addr.add]
  by_cases hq : i.toNat * sz = 0 <;> simp [hq]
theorem Gives.slhp {t e : TypeId} {x y : Operand} {g off m c sz : Nat} {k : IntKind} {i : Int} (hop : o.op = .slice t x none (some y) none) (hx : ev ρ x = some (.slice (some ⟨g, off, none⟩) m c)) (hy : ev ρ y = some (.int k i)) (ht : P.underlying t = some (.slice e)) (hsz : ∀ w, (sizeOf e).run P w = .ok sz w) (h0 : 0 ≤ i) (h1 : i ≤ c) :
    Gives P o n ρ S (.slice (some ⟨g, off, none⟩) i.toNat c) := fun a w hf hw => by
  have h := Gives.slh (S := S) hop hx hy ht hsz h0 h1 a w hf hw
  rw [h]
  simp only [sliced, Nat.sub_zero, Nat.zero_mul, Option.map_some, Addr.add]
  split <;> simp
theorem Gives.neA {t y' : TypeId} {x y : Operand} {xs ys : Array Value} {r : Bool} (hop : o.op = .binOp .neq t x y y') (hx : ev ρ x = some (.agg xs)) (hy : ev ρ y = some (.agg ys)) (hg : ∀ w, (eqGuard .neq t x y (.agg xs) (.agg ys)).run P w = .ok () w) (he : ∀ d w, (Op.equalIn (d + 2) t (.agg xs) (.agg ys)).run P w = .ok r w) : Gives P o n ρ S (.bool (!r)) := fun c w hf _ => by
  have h1 := he 9998 w
  have h2 : (binOp .neq t (.agg xs) (.agg ys)).run P w = .ok (.bool (!r)) w := by
    simp only [binOp]
    simp [Op.equal, Op.maxDepth, h1]
  simp [execOp, hop, hf.eval hx, hf.eval hy, hg w, h2]
theorem apart {w : World} {g g' i j : Nat} {cs cs' : Array Value} {t t' : TypeId} {R R' : List Atom} (hL : rem1 i L = some (Cells g cs t, R)) (hR : rem1 j R = some (Cells g' cs' t', R')) : ∀ w, St w0 F0 w L → g ≠ g' := fun w hs e => by
  have h1 := (hs.perm ((rem1_perm hL).trans ((rem1_perm hR).cons _))).sep
  obtain ⟨F, f1, f2, F', g1, g2, _⟩ := h1
  subst e
  exact (g1 _ g2.1).1.2 f2.1
theorem Gives.overlaps {f : FuncId} {fn : Func} {x y : Operand} {ts : Array TypeId} {tS tR e : TypeId} {g g' off off' la ca lb cb sz i j : Nat} {cs cs' : Array Value} {t t' : TypeId} {R R' : List Atom} (hop : o.op = .call { callee := .value (.func f), args := #[x, y], argTypes := ts }) (hx : ev ρ x = some (.slice (some ⟨g, off, none⟩) la ca)) (hy : ev ρ y = some (.slice (some ⟨g', off', none⟩) lb cb))
    (hf : P.funcs[f]? = some fn) (hname : (fn.name == "runtime.NumGoroutine") = false) (hb : fn.body.isNone = true) (hn : Extern.findNext fn = none) (he : Extern.find fn = some (Extern.SlicesOverlaps.overlaps #[tS, tS] #[tR])) (ht : P.underlying tS = some (.slice e)) (hz : ∀ w, (sizeOf e).run P w = .ok sz w)
    (hL : rem1 i L = some (Cells g cs t, R)) (hR : rem1 j R = some (Cells g' cs' t', R')) (hne : cs'.size ≠ 0) : Gives P o n ρ (fun w => St w0 F0 w L) (.bool false) := fun a w hfr hw => by
  have h1 := (hw.at hL).cells
  have h2 := ((hw.perm ((rem1_perm hL).trans ((rem1_perm hR).cons _))).perm (List.Perm.swap _ _ _)).cells
  have h3 := apart (w := w) hL hR w hw
  have hr := Lib.run_overlaps_apart (P := P) w tS tR e ht sz hz ⟨g, off, none⟩ ⟨g', off', none⟩ la ca lb cb h3 t t' cs.size cs'.size (by simp [World.shape?, h1]) (by simp [World.shape?, h2]) hne (blk_frozen h1 _) (blk_frozen h1 _)
  have hc := run_callFunc_extern hf hname hb hn he #[.slice (some ⟨g, off, none⟩) la ca, .slice (some ⟨g', off', none⟩) lb cb] w
  rw [hr] at hc
  unfold execOp
  have hfun : a.eval (.func f) = .func (.func f) #[] #[] := rfl
  simp only [hop, resolve, hfun, Deferred.ofValue, invoke, List.map_toArray, List.map_cons, List.map_nil, hfr.eval hx, hfr.eval hy, Sem.run_bind, Sem.run_pure, Result.andThen_ok]
  simpa [Result.andThen] using hc
end
/-- The front of what is shown. -/
theorem C_take {α : Type} {kd : Kd α} {w : World} {A : Option Addr} {m l : Nat} {xs : List α} (h : kd.C w A m xs) (hl : l ≤ m) : kd.C w A l (xs.take l) := ⟨by rw [List.length_take, h.1]; omega, by have := h.2.1; omega, fun hp => by
  obtain ⟨ad, e, h2⟩ := h.2.2 (by omega)
  refine ⟨ad, e, fun j p hj => ?_⟩
  rw [List.getElem?_take] at hj
  split at hj
  · exact h2 j p hj
  · cases hj⟩
theorem flat_at {α : Type} {enc : α → List Value} {sz : Nat} (hl : ∀ p, (enc p).length = sz) : ∀ (xs : List α) (j : Nat) (u : Value), (xs.flatMap enc)[j]? = some u → ∃ q p r, xs[q]? = some p ∧ (enc p)[r]? = some u ∧ j = q * sz + r
  | [], j, u, h => by simp at h
  | x :: xs, j, u, h => by
    rw [List.flatMap_cons] at h
    by_cases hj : j < sz
    · rw [List.getElem?_append_left (by rw [hl]; exact hj)] at h
      exact ⟨0, x, j, rfl, h, by omega⟩
    · rw [List.getElem?_append_right (by rw [hl]; omega), hl] at h
      obtain ⟨q, p, r, h1, h2, h3⟩ := flat_at hl xs _ u h
      exact ⟨q + 1, p, r, by simpa using h1, h2, by rw [Nat.add_mul]; omega⟩
theorem C_cells {α : Type} {kd : Kd α} {enc : α → List Value} {w : World} {ad : Addr} {m : Nat} {xs : List α} (hK : Encs kd enc) (hl : ∀ p, (enc p).length = kd.sz) (h : kd.C w (some ad) m xs) : ∀ j u, (xs.flatMap enc)[j]? = some u → w.cell? (ad.add j) = some u := fun j u hj => by
  obtain ⟨q, p, r, h1, h2, h3⟩ := flat_at hl xs j u hj
  have hq := (List.getElem?_eq_some_iff.1 h1).1
  obtain ⟨ad', e, h4⟩ := h.2.2 (by have := h.1; omega)
  obtain rfl := Option.some.inj e
  obtain ⟨c, h5, h6, h7⟩ := h4 q p h1
  have h8 := hK w p c h6
  subst h8
  rw [h3]
  exact h7 r u h2
theorem flat_len {α : Type} {enc : α → List Value} {sz : Nat} (hl : ∀ p, (enc p).length = sz) : ∀ (xs : List α), (xs.flatMap enc).length = xs.length * sz
  | [] => by simp
  | x :: xs => by rw [List.flatMap_cons, List.length_append, hl, flat_len hl xs, List.length_cons, Nat.add_mul]; omega
theorem flat_take {α : Type} {enc : α → List Value} {sz : Nat} (hl : ∀ p, (enc p).length = sz) (xs : List α) (i : Nat) (hi : i ≤ xs.length) : (xs.take i).flatMap enc = (xs.flatMap enc).take (i * sz) := by
  have h : xs.flatMap enc = (xs.take i).flatMap enc ++ (xs.drop i).flatMap enc := by rw [← List.flatMap_append, List.take_append_drop]
  have h2 : ((xs.take i).flatMap enc).length = i * sz := by rw [flat_len hl, List.length_take, Nat.min_eq_left hi]
  exact ((congrArg (List.take (i * sz)) h).trans (List.take_left' h2)).symm
theorem flat_drop {α : Type} {enc : α → List Value} {sz : Nat} (hl : ∀ p, (enc p).length = sz) (xs : List α) (i : Nat) (hi : i ≤ xs.length) : (xs.drop i).flatMap enc = (xs.flatMap enc).drop (i * sz) := by
  have h : xs.flatMap enc = (xs.take i).flatMap enc ++ (xs.drop i).flatMap enc := by rw [← List.flatMap_append, List.take_append_drop]
  have h2 : ((xs.take i).flatMap enc).length = i * sz := by rw [flat_len hl, List.length_take, Nat.min_eq_left hi]
  exact ((congrArg (List.drop (i * sz)) h).trans (List.drop_left' h2)).symm
end Go.Proofs.YteckdfgllipilaaS
