/- More rules of the small logic: letters, numbers that wrap, arrays, slices cut, calls through values. -/
import Derived.Test.YteckdfgllipilaaSA
namespace Go.Proofs.YteckdfgllipilaaS
open Go.RowKit Go.Proofs.YteckdfgllipilaaW.PrintWords Go.Proofs.YteckdfgllipilaaW.PrintLast

def byteAt (s : ByteArray) (i : Int) : Int := ((s.data.toList.getD i.toNat 0).toNat : Int)
theorem eq_of_bne_false {a b : Int} (h : (a != b) = false) : a = b := by simpa using h
theorem byteAt_bd (s : ByteArray) (i : Int) : 0 ≤ byteAt s i ∧ byteAt s i ≤ 255 := by
  unfold byteAt
  have := (s.data.toList.getD i.toNat 0).toNat_lt
  omega
/-- A text out of its letters. -/
def strOf (l : List Int) : ByteArray := ⟨(l.map fun n => UInt8.ofNat n.toNat).toArray⟩
theorem strOf_append (a b : List Int) : strOf (a ++ b) = strOf a ++ strOf b := by
  apply ByteArray.ext
  simp [strOf, ByteArray.data_append]
theorem strOf_size (a : List Int) : (strOf a).size = a.length := by simp [strOf, ByteArray.size]
section
variable {P : Program} {n : Nat} {w0 : World} {F0 : Nat → Prop} {ops : Array Oper} {Q : Exit → Act → World → Prop} {ρ : Env} {L L' Lp Lr : List Atom} {o : Oper} {d : Tmp} {v : Value} {S : World → Prop}
theorem Gives.index {t : TypeId} {x ix : Operand} {s : ByteArray} {k : IntKind} {i : Int} (hop : o.op = .index t x ix) (hx : ev ρ x = some (.string s)) (hi : ev ρ ix = some (.int k i)) (ht : P.underlying t = some .string) (h0 : 0 ≤ i) (h1 : i < s.size) : Gives P o n ρ S (.int .u8 (byteAt s i)) := fun a w hf _ => by
  have hr := run_index_string (P := P) w t s k i ht
  rw [dif_pos ⟨h0, h1⟩] at hr
  have hlt : i.toNat < s.data.toList.length := by rw [Array.length_toList]; have : s.size = s.data.size := rfl; omega
  have he : byteAt s i = (s[i.toNat]'(by omega)).toNat := by
    unfold byteAt
    rw [List.getD_eq_getElem?_getD, List.getElem?_eq_getElem hlt]
    rfl
  rw [he]
  simp [execOp, hop, hf.eval hx, hf.eval hi, hr]
theorem Gives.slFrom {t : TypeId} {x y : Operand} {s : ByteArray} {k : IntKind} {i : Int} (hop : o.op = .slice t x (some y) none none) (hx : ev ρ x = some (.string s)) (hy : ev ρ y = some (.int k i)) (ht : P.underlying t = some .string) (h0 : 0 ≤ i) (h1 : i ≤ s.size) : Gives P o n ρ S (.string (s.extract i.toNat s.size)) := fun a w hf _ => by
  have hr := run_slice_string_l (P := P) w t s ht k i h0 h1
  have hr2 := run_sliceAt_string (P := P) w t (.string s) (some (.int k i)) none none ht
  simp [execOp, hop, hf.eval hx, hf.eval hy, hr2, hr]
theorem Gives.slTo {t : TypeId} {x y : Operand} {s : ByteArray} {k : IntKind} {i : Int} (hop : o.op = .slice t x none (some y) none) (hx : ev ρ x = some (.string s)) (hy : ev ρ y = some (.int k i)) (ht : P.underlying t = some .string) (h0 : 0 ≤ i) (h1 : i ≤ s.size) : Gives P o n ρ S (.string (s.extract 0 i.toNat)) := fun a w hf _ => by
  have hr := run_slice_string_h (P := P) w t s ht k i h0 h1
  have hr2 := run_sliceAt_string (P := P) w t (.string s) none (some (.int k i)) none ht
  simp [execOp, hop, hf.eval hx, hf.eval hy, hr2, hr]
theorem Gives.slBoth {t : TypeId} {x y z : Operand} {s : ByteArray} {k k' : IntKind} {i j : Int} (hop : o.op = .slice t x (some y) (some z) none) (hx : ev ρ x = some (.string s)) (hy : ev ρ y = some (.int k i)) (hz : ev ρ z = some (.int k' j)) (ht : P.underlying t = some .string) (h0 : 0 ≤ i) (h1 : i ≤ j) (h2 : j ≤ s.size) : Gives P o n ρ S (.string (s.extract i.toNat j.toNat)) := fun a w hf _ => by
  have hr := run_slice_string (P := P) w t s k k' i j ht h0 h1 h2
  have hr2 := run_sliceAt_string (P := P) w t (.string s) (some (.int k i)) (some (.int k' j)) none ht
  simp [execOp, hop, hf.eval hx, hf.eval hy, hf.eval hz, hr2, hr]
section
variable {t y' : TypeId} {x y : Operand} {k : IntKind} {a b : Int}
theorem Gives.addw (hop : o.op = .binOp .add t x y y') (hx : ev ρ x = some (.int k a)) (hy : ev ρ y = some (.int k b)) : Gives P o n ρ S (.int k (k.wrap (a + b))) := Gives.bin hop hx hy (eqGuard_add _ _ _ _ _) (fun w => by rw [binOp_add]; simp [Op.intArith])
theorem Gives.subw (hop : o.op = .binOp .sub t x y y') (hx : ev ρ x = some (.int k a)) (hy : ev ρ y = some (.int k b)) : Gives P o n ρ S (.int k (k.wrap (a - b))) := Gives.bin hop hx hy (eqGuard_sub _ _ _ _ _) (fun w => by rw [binOp_sub]; simp [Op.intArith])
theorem Gives.mulw (hop : o.op = .binOp .mul t x y y') (hx : ev ρ x = some (.int k a)) (hy : ev ρ y = some (.int k b)) : Gives P o n ρ S (.int k (k.wrap (a * b))) := Gives.bin hop hx hy (eqGuard_mul _ _ _ _ _) (fun w => by rw [binOp_mul]; simp [Op.intArith])
theorem Gives.negw (hop : o.op = .unOp .neg t x) (hx : ev ρ x = some (.int k a)) : Gives P o n ρ S (.int k (k.wrap (0 - a))) := fun c w hf _ => by
  simp [execOp, hop, hf.eval hx, unary_neg, Op.intArith]
theorem Gives.convw {s : TypeId} {k' : IntKind} (hop : o.op = .convert s t x) (hx : ev ρ x = some (.int k a)) (hs : P.underlying s = some (.int k)) (ht : P.underlying t = some (.int k')) : Gives P o n ρ S (.int k' (k'.wrap a)) := fun c w hf _ => by
  have := run_convert_int (P := P) w s t k a (by rw [hs]; rfl)
  have hk : P.intKind t = k' := by simp [Program.intKind, ht]
  simp [execOp, hop, hf.eval hx, this]
  simp_all
end
section
variable {t y' : TypeId} {x y : Operand} {k : IntKind} {a b : Int}
theorem Gives.addk (hop : o.op = .binOp .add t x y y') (hx : ev ρ x = some (.int k a)) (hy : ev ρ y = some (.int k b)) (hw : k.wrap (a + b) = a + b) : Gives P o n ρ S (.int k (a + b)) := hw ▸ Gives.addw hop hx hy
theorem Gives.subk (hop : o.op = .binOp .sub t x y y') (hx : ev ρ x = some (.int k a)) (hy : ev ρ y = some (.int k b)) (hw : k.wrap (a - b) = a - b) : Gives P o n ρ S (.int k (a - b)) := hw ▸ Gives.subw hop hx hy
theorem Gives.mulk (hop : o.op = .binOp .mul t x y y') (hx : ev ρ x = some (.int k a)) (hy : ev ρ y = some (.int k b)) (hw : k.wrap (a * b) = a * b) : Gives P o n ρ S (.int k (a * b)) := hw ▸ Gives.mulw hop hx hy
end
theorem wrap_u64 {x : Int} (h : 0 ≤ x ∧ x ≤ 18446744073709551615) : IntKind.u64.wrap x = x := by
  have : IntKind.u64.wrap x = x % 18446744073709551616 := by simp [IntKind.wrap, IntKind.bits, IntKind.signed]
  omega
theorem wrap_u8 {x : Int} (h : 0 ≤ x ∧ x ≤ 255) : IntKind.u8.wrap x = x := by
  have : IntKind.u8.wrap x = x % 256 := by simp [IntKind.wrap, IntKind.bits, IntKind.signed]
  omega
theorem wrap_i64 {x : Int} (h : -9223372036854775808 ≤ x ∧ x ≤ 9223372036854775807) : IntKind.i64.wrap x = x := by
  rw [i64_w, w64 h.1 h.2]
theorem bytes_toList (s : ByteArray) : s.toList = s.data.toList := by
  have h : ∀ (k i : Nat) (r : List UInt8), s.size - i = k → ByteArray.toList.loop s i r = r.reverse ++ s.data.toList.drop i := by
    intro k
    induction k with
    | zero =>
      intro i r hk
      unfold ByteArray.toList.loop
      rw [if_neg (by omega), List.drop_of_length_le (by have : s.size = s.data.size := rfl; simp; omega)]
      simp
    | succ k ih =>
      intro i r hk
      unfold ByteArray.toList.loop
      have hlt : i < s.size := by omega
      rw [if_pos hlt, ih (i + 1) _ (by omega)]
      have hl : i < s.data.toList.length := by have : s.size = s.data.size := rfl; simp; omega
      rw [List.drop_eq_getElem_cons hl]
      simp [ByteArray.get!, getElem!_pos s.data i (by simpa using hl)]
  have := h s.size 0 [] (by omega)
  rw [List.drop_zero, List.reverse_nil, List.nil_append] at this
  exact this
theorem str_eq {a b : ByteArray} : (a.toList == b.toList) = true ↔ a = b := by
  rw [bytes_toList, bytes_toList]
  constructor
  · intro h
    apply ByteArray.ext
    apply Array.toList_inj.1
    simpa using h
  · rintro rfl; simp
theorem str_ne {a b : ByteArray} (h : (a.toList == b.toList) = false) : a ≠ b := fun e => by rw [str_eq.2 e] at h; cases h
theorem str_neq {a b : ByteArray} (h : (a.toList != b.toList) = true) : a ≠ b := fun e => by
  have := str_eq.2 e
  simp [bne, this] at h
theorem str_nne {a b : ByteArray} (h : (a.toList != b.toList) = false) : a = b := str_eq.1 (by simpa [bne] using h)
theorem size_nil {s : ByteArray} (h : s.size = 0) : s = ⟨#[]⟩ := by
  apply ByteArray.ext
  exact Array.eq_empty_of_size_eq_zero h
theorem size_pos {s : ByteArray} (h : s ≠ ⟨#[]⟩) : 0 < s.size := by
  rcases Nat.eq_zero_or_pos s.size with h0 | h0
  · exact absurd (size_nil h0) h
  · exact h0
/-! ### arrays -/
theorem Gives.indexArr {t e : TypeId} {x ix : Operand} {m : Nat} {g : Nat} {k : IntKind} {i : Int} (hop : o.op = .indexAddr t x ix) (hx : ev ρ x = some (.pointer (some ⟨g, 0, none⟩))) (hi : ev ρ ix = some (.int k i)) (ht : P.underlying t = some (.array m e)) (hsz : ∀ w, (sizeOf e).run P w = .ok 1 w) (h0 : 0 ≤ i) (h1 : i < m) :
    Gives P o n ρ S (.pointer (some ⟨g, i.toNat, none⟩)) := fun a w hf _ => by
  have he : P.elem t = e := by simp [Program.elem, ht]
  have hl : P.arrayLen t = m := by simp [Program.arrayLen, ht]
  have hr := run_indexAt_array (P := P) w t ⟨g, 0, none⟩ k i (by rw [he, hl]; exact ht)
  rw [hl, if_pos ⟨h0, h1⟩, he, hsz w] at hr
  simp [execOp, hop, hf.eval hx, hf.eval hi, hr, Result.andThen, add_plain]
theorem Gives.sliceArr {t e : TypeId} {x y : Operand} {m : Nat} {g : Nat} {k : IntKind} {i : Int} (hop : o.op = .slice t x (some y) none none) (hx : ev ρ x = some (.pointer (some ⟨g, 0, none⟩))) (hy : ev ρ y = some (.int k i)) (ht : P.underlying t = some (.array m e)) (hsz : ∀ w, (sizeOf e).run P w = .ok 1 w) (h0 : 0 ≤ i) (h1 : i < m) :
    Gives P o n ρ S (.slice (some ⟨g, i.toNat, none⟩) (m - i.toNat) (m - i.toNat)) := fun a w hf _ => by
  have he : P.elem t = e := by simp [Program.elem, ht]
  have hl : P.arrayLen t = m := by simp [Program.arrayLen, ht]
  have hr := run_sliceAt_array_l (P := P) w t ⟨g, 0, none⟩ (by rw [he, hl]; exact ht) k i h0 (by rw [hl]; omega)
  rw [he, hsz w, hl] at hr
  simp only [Result.andThen, slicedAt, Nat.mul_one] at hr
  rw [if_neg (by omega)] at hr
  simp [execOp, hop, hf.eval hx, hf.eval hy, hr, add_plain]
theorem Gives.bytesStr {s t e : TypeId} {x : Operand} {g j m c : Nat} {cs : Array Value} {tb : TypeId} {R : List Atom} (i : Nat) (ns : List Int) (hop : o.op = .convert s t x) (hx : ev ρ x = some (.slice (some ⟨g, j, none⟩) m c)) (hs : P.underlying s = some (.slice e)) (he : P.underlying e = some (.int .u8)) (ht : P.underlying t = some .string)
    (hL : rem1 i L = some (Cells g cs tb, R)) (hm : m = ns.length) (hc : ∀ q u, ns[q]? = some u → cs[j + q]? = some (.int .u8 u)) : Gives P o n ρ (fun w => St w0 F0 w L) (.string (strOf ns)) := fun a w hf hst => by
  have hb := (hst.at hL).cells
  have h1 := run_loadCells_list (P := P) (w := w) ⟨g, j, none⟩ (ns.map (Value.int .u8)) (fun q u hq => by
    rw [List.getElem?_map] at hq
    obtain ⟨z, hz, rfl⟩ := Option.map_eq_some_iff.1 hq
    have : (⟨g, j, none⟩ : Addr).add q = ⟨g, j + q, none⟩ := by unfold Addr.add; by_cases h0 : q = 0 <;> simp [h0]
    rw [this, blk_cell hb]
    exact hc q z hz)
  rw [List.length_map] at h1
  subst hm
  have h2 := run_bytesToString (P := P) w ⟨g, j, none⟩ ns.length c ns h1
  have h3 := run_convert_bytes_string (P := P) w s t e (some ⟨g, j, none⟩) ns.length c hs he ht
  have h4 : ∀ (l : List Int) (r : ByteArray), l.foldl (fun r n => r.push (UInt8.ofNat n.toNat)) r = r ++ strOf l := by
    intro l
    induction l with
    | nil => intro r; apply ByteArray.ext; simp [strOf, ByteArray.data_append]
    | cons z l ih =>
      intro r
      rw [List.foldl_cons, ih]
      apply ByteArray.ext
      simp [strOf, ByteArray.data_append]
  rw [h4, show ByteArray.empty ++ strOf ns = strOf ns from by apply ByteArray.ext; simp [ByteArray.data_append]] at h2
  simp [execOp, hop, hf.eval hx, h3, h2]
/-! ### slices -/
theorem Gives.cap {t e : TypeId} {x : Operand} {A : Option Addr} {m c : Nat} (hop : o.op = .call { callee := .builtin .cap, args := #[x], argTypes := #[t] }) (hx : ev ρ x = some (.slice A m c)) (ht : P.underlying t = some (.slice e)) : Gives P o n ρ S (.int .i64 (c : Nat)) :=
  Gives.builtin (vs := [.slice A m c]) hop (by simp [evs, hx]) (fun w _ => by
    have he : P.elem t = e := by simp [Program.elem, ht]
    have hr := run_cap_slice (P := P) w t o.type A m c (by rw [he]; exact ht)
    show ((do pure (Next.value (← Builtin.cap_ #[t] o.type #[.slice A m c])) : Sem Next)).run P w = _
    simp only [Sem.run_bind, hr, Result.andThen_ok, Sem.run_pure]
    rfl)
theorem Gives.sl0 {t e : TypeId} {x y : Operand} {A : Option Addr} {m c sz : Nat} {k : IntKind} {i : Int} (hop : o.op = .slice t x (some y) none none) (hx : ev ρ x = some (.slice A m c)) (hy : ev ρ y = some (.int k i)) (ht : P.underlying t = some (.slice e)) (hsz : ∀ w, (sizeOf e).run P w = .ok sz w) (h0 : 0 ≤ i) (h1 : i ≤ m) :
    Gives P o n ρ S (sliced A i.toNat m c sz) := fun a w hf _ => by
  have he : P.elem t = e := by simp [Program.elem, ht]
  have ht' : P.underlying t = some (.slice (P.elem t)) := by rw [he]; exact ht
  have hr := run_slice_l (P := P) w t A m c ht' k i h0 h1
  rw [he, hsz w] at hr
  have hr2 := run_sliceAt_slice (P := P) w t (.slice A m c) (some (.int k i)) none none ht'
  simp [execOp, hop, hf.eval hx, hf.eval hy, hr2, hr, Result.andThen]
theorem Gives.slh {t e : TypeId} {x y : Operand} {A : Option Addr} {m c sz : Nat} {k : IntKind} {i : Int} (hop : o.op = .slice t x none (some y) none) (hx : ev ρ x = some (.slice A m c)) (hy : ev ρ y = some (.int k i)) (ht : P.underlying t = some (.slice e)) (hsz : ∀ w, (sizeOf e).run P w = .ok sz w) (h0 : 0 ≤ i) (h1 : i ≤ c) :
    Gives P o n ρ S (sliced A 0 i.toNat c sz) := fun a w hf _ => by
  have he : P.elem t = e := by simp [Program.elem, ht]
  have ht' : P.underlying t = some (.slice (P.elem t)) := by rw [he]; exact ht
  have hr := run_slice_h (P := P) w t A m c ht' k i h0 h1
  rw [he, hsz w] at hr
  have hr2 := run_sliceAt_slice (P := P) w t (.slice A m c) none (some (.int k i)) none ht'
  simp [execOp, hop, hf.eval hx, hf.eval hy, hr2, hr, Result.andThen]
theorem less_eq : ∀ (x y : List UInt8), Op.bytesLess x y = decide (x < y)
  | [], [] => by simp [Op.bytesLess]
  | _ :: _, [] => by simp [Op.bytesLess]
  | [], _ :: _ => by simp [Op.bytesLess]
  | a :: x, b :: y => by
    rw [Op.bytesLess, less_eq x y, Bool.eq_iff_iff]
    simp [List.cons_lt_cons_iff]
/-- Texts by rising letters. -/
def slt (a b : ByteArray) : Prop := a.data.toList < b.data.toList
noncomputable instance (a b : ByteArray) : Decidable (slt a b) := inferInstanceAs (Decidable (a.data.toList < b.data.toList))
theorem Gives.lsss {t y' : TypeId} {x y : Operand} {a b : ByteArray} (hop : o.op = .binOp .lss t x y y') (hx : ev ρ x = some (.string a)) (hy : ev ρ y = some (.string b)) : Gives P o n ρ S (.bool (decide (slt a b))) := Gives.bin hop hx hy (eqGuard_lss _ _ _ _ _) (fun w => by
  simp only [binOp, Op.stringOp, less_eq, bytes_toList]; rfl)
theorem Gives.geqs {t y' : TypeId} {x y : Operand} {a b : ByteArray} (hop : o.op = .binOp .geq t x y y') (hx : ev ρ x = some (.string a)) (hy : ev ρ y = some (.string b)) : Gives P o n ρ S (.bool (!decide (slt a b))) := Gives.bin hop hx hy (eqGuard_geq _ _ _ _ _) (fun w => by
  simp only [binOp, Op.stringOp, less_eq, bytes_toList]; rfl)
/-! ### what only reads what was there -/
theorem St.widen {w w' : World} {F : Nat → Prop} {M : List Atom} (h : St w (fun _ => False) w' M) : St w F w' M := ⟨h.os, h.tape, h.output, h.size, fun k hk _ => h.kept k hk id, h.sep.mono (fun k hk => hk.elim (fun h => h.elim) .inr)⟩
theorem Con.of_none {f : FuncId} {vs : List Value} {τ : Type} {val : τ → Value} {ok : τ → Prop} {Lq : τ → List Atom} (h : ∀ w, S w → Calls P f vs.toArray w fun e w' => ∃ s, e = .returned (val s) ∧ ok s ∧ St w (fun _ => False) w' (Lq s)) : Con P f vs S [] val ok Lq := fun w F hw _ _ =>
  (h w hw).mono fun e w' hh => by
    obtain ⟨s, h1, h2, h3⟩ := hh
    exact ⟨s, h1, h2, h3.widen⟩
/-- What lay below a place in another world lies there still. -/
def Old (n₀ : Nat) (wb : World) : Atom where
  p := fun w F => (∀ k, k < n₀ → F k) ∧ ∀ k, k < n₀ → w.heap[k]? = wb.heap[k]?
  mono := fun hf h => ⟨fun k hk => hf k (h.1 k hk), h.2⟩
  move := fun hm h => ⟨h.1, fun k hk => (hm k (h.1 k hk)).trans (h.2 k hk)⟩
theorem St.old {n₀ i : Nat} {wb w : World} {R : List Atom} (h : St w0 F0 w L) (hL : rem1 i L = some (Old n₀ wb, R)) : ∀ k, k < n₀ → w.heap[k]? = wb.heap[k]? := by
  obtain ⟨F, _, h2⟩ := (h.at hL).sep.one
  exact h2.2
theorem Old.start (w : World) : Sep w (fun k => k < w.heap.size) [Old w.heap.size w] := ⟨fun k => k < w.heap.size, fun _ hk => ⟨hk, hk⟩, ⟨fun _ hk => hk, fun _ _ => rfl⟩, trivial⟩
theorem St.old_below {w w' : World} {i : Nat} {R : List Atom} (h : St w (fun k => k < w.heap.size) w' L) (hL : rem1 i L = some (Old w.heap.size w, R)) : Below w.heap.size w w' := ⟨h.os, h.tape, h.output, h.size, h.old hL⟩
theorem cell_eq {w w' : World} {p : Addr} (h : w.heap[p.block]? = w'.heap[p.block]?) : w.cell? p = w'.cell? p := by simp only [World.cell?, h]
/-- A kind whose elements lead nowhere. -/
def NoW {α : Type} (d : Kd α) : Prop := ∀ (w w' : World) (x : α) (cs : List Value), d.K w x cs → d.K w' x cs
theorem now_scalar {α : Type} {enc : α → Value} {h1 : ∀ x, (enc x).oneCell' = true} : NoW (Kd.scalar enc h1) := fun _ _ _ _ h => h
theorem now_pair {α β : Type} {a : Kd α} {b : Kd β} (ha : NoW a) (hb : NoW b) : NoW (Kd.pair a b) := fun w w' x cs h => by
  obtain ⟨c0, c1, h1, h2, h3⟩ := h
  exact ⟨c0, c1, h1, ha _ _ _ _ h2, hb _ _ _ _ h3⟩
theorem C_old {α : Type} {d : Kd α} (hd : NoW d) {wb w : World} {A : Option Addr} {m : Nat} {xs : List α} (h : d.C wb A m xs) (hk : ∀ k, k < wb.heap.size → w.heap[k]? = wb.heap[k]?) : d.C w A m xs := ⟨h.1, h.2.1, fun hn => by
  obtain ⟨ad, h1, h2⟩ := h.2.2 hn
  refine ⟨ad, h1, fun j p hp => ?_⟩
  obtain ⟨c, h3, h4, h5⟩ := h2 j p hp
  refine ⟨c, h3, hd _ _ _ _ h4, fun i u hu => ?_⟩
  have h6 := h5 i u hu
  have h7 := World.block_lt_of_cell? wb _ h6
  rw [cell_eq (hk _ h7)]
  exact h6⟩
theorem old_C {α : Type} {d : Kd α} (hd : NoW d) {wb : World} {A : Option Addr} {m i : Nat} {xs : List α} {R : List Atom} (h : d.C wb A m xs) (hL : rem1 i L = some (Old wb.heap.size wb, R)) : ∀ w, St w0 F0 w L → d.C w A m xs := fun w hs => C_old hd h (hs.old hL)
/-! ### a call through a function value -/
theorem Does.calld {f : FuncId} {fn : Func} {q : Operand} {as : Array Operand} {ts : Array TypeId} {vs : List Value} {τ : Type} {val : τ → Value} {ok : τ → Prop} {Lq : τ → List Atom} (hop : o.op = .call { callee := .value q, args := as, argTypes := ts }) (hq : ev ρ q = some (.func (.func f) #[] #[])) (hx : evs ρ as.toList = some vs)
    (hf : P.funcs[f]? = some fn) (hname : (fn.name == "runtime.NumGoroutine") = false) (hb : fn.body.isSome = true) (h : Con P f vs S Lp val ok Lq) : Does P o n ρ S Lp val ok Lq := fun a w F hfr hw hs hlt K Q k => by
  have he : as.map a.eval = vs.toArray := by
    apply Array.toList_inj.1
    simp [hfr.evals hx]
  have hen := enters_ hf hname hb vs.toArray w
  have hrun : (execOp a.eval o).run P w = .ok (.enter f vs.toArray) w := by
    unfold execOp
    simp only [hop, resolve, hfr.eval hq, Deferred.ofValue, invoke, he, Sem.run_bind, Sem.run_pure, Result.andThen_ok]
    simpa using hen
  unfold Oper.wp
  rw [hrun, Oper.upon_enter]
  refine (h w F hw hs hlt).mono fun e w' hh => ?_
  obtain ⟨s, rfl, hok, hst⟩ := hh
  exact k s w' hok hst
end
end Go.Proofs.YteckdfgllipilaaS
