/- The rules of the small logic: the operations. -/
import Derived.Test.YteckdfgllipilaaSG
import Derived.WalkSpells
import Derived.Laws.Rows
namespace Go.Proofs.YteckdfgllipilaaS
open Go.RowKit Go.Proofs.YteckdfgllipilaaW.PrintWords Go.Proofs.YteckdfgllipilaaW.PrintLast

theorem one_int (k : IntKind) (i : Int) : (Value.int k i).oneCell' = true := rfl
theorem one_bool (b : Bool) : (Value.bool b).oneCell' = true := rfl
theorem one_string (s : ByteArray) : (Value.string s).oneCell' = true := rfl
theorem one_slice (a : Option Addr) (n c : Nat) : (Value.slice a n c).oneCell' = true := rfl
theorem one_pointer (a : Option Addr) : (Value.pointer a).oneCell' = true := rfl
theorem one_map (a : Option Nat) : (Value.map a).oneCell' = true := rfl
theorem w64 {i : Int} (h0 : -9223372036854775808 ≤ i) (h1 : i ≤ 9223372036854775807) : wrap64 i = i := by unfold wrap64; omega
section
variable {P : Program} {n : Nat} {w0 : World} {F0 : Nat → Prop} {ops : Array Oper} {Q : Exit → Act → World → Prop} {ρ : Env} {L L' Lp Lr : List Atom} {o : Oper} {d : Tmp} {v : Value} {S : World → Prop}
/-! ### 5. What only reads -/
theorem Gives.mono {S' : World → Prop} (h : Gives P o n ρ S v) (hs : ∀ w, S' w → S w) : Gives P o n ρ S' v := fun a w hf hw => h a w hf (hs w hw)
theorem Gives.move {x : Operand} (hop : o.op = .move x) (hx : ev ρ x = some v) : Gives P o n ρ S v := fun a w hf _ => by
  simp [execOp, hop, hf.eval hx]
theorem Gives.assign {x : Operand} (hop : o.op = .assign x) (hx : ev ρ x = some v) : Gives P o n ρ S v := fun a w hf _ => by
  simp [execOp, hop, hf.eval hx]
theorem Gives.pickT {c x y : Operand} {b : Bool} (hop : o.op = .pick c x y) (hc : ev ρ c = some (.bool b)) (hb : b = true) (hx : ev ρ x = some v) : Gives P o n ρ S v := fun a w hf _ => by
  simp [execOp, hop, hf.eval hc, hb, asBool, hf.eval hx]
theorem Gives.pickF {c x y : Operand} {b : Bool} (hop : o.op = .pick c x y) (hc : ev ρ c = some (.bool b)) (hb : b = false) (hx : ev ρ y = some v) : Gives P o n ρ S v := fun a w hf _ => by
  simp [execOp, hop, hf.eval hc, hb, asBool, hf.eval hx]
/-- A type of one cell. -/
def Plain (P : Program) (t : TypeId) : Prop := ∀ w, (isAgg t).run P w = .ok false w
theorem plain_int {t : TypeId} {k : IntKind} (h : P.underlying t = some (.int k)) : Plain P t := fun w => by simp [isAgg, run_underlying h]
theorem plain_bool {t : TypeId} (h : P.underlying t = some .bool) : Plain P t := fun w => by simp [isAgg, run_underlying h]
theorem plain_string {t : TypeId} (h : P.underlying t = some .string) : Plain P t := fun w => by simp [isAgg, run_underlying h]
theorem plain_slice {t e : TypeId} (h : P.underlying t = some (.slice e)) : Plain P t := fun w => by simp [isAgg, run_underlying h]
theorem plain_pointer {t e : TypeId} (h : P.underlying t = some (.pointer e)) : Plain P t := fun w => by simp [isAgg, run_underlying h]
theorem plain_map {t e k : TypeId} (h : P.underlying t = some (.map k e)) : Plain P t := fun w => by simp [isAgg, run_underlying h]
theorem Gives.load {t : TypeId} {x : Operand} {p : Addr} (hop : o.op = .load t x) (hx : ev ρ x = some (.pointer (some p))) (ht : Plain P t) (hc : ∀ w, S w → w.cell? p = some v) : Gives P o n ρ S v := fun a w hf hw => by
  have ht' := ht w
  have hc' := hc w hw
  simp [execOp, hop, hf.eval hx, Instr.loadAt, Instr.sureAddr, loadVar, ht', hc']
/-- A cell of a block that is known. -/
theorem cell_at {i : Nat} {g j : Nat} {cs : Array Value} {t : TypeId} {R : List Atom} (hL : rem1 i L = some (Cells g cs t, R)) (hv : cs[j]? = some v) : ∀ w, St w0 F0 w L → w.cell? ⟨g, j, none⟩ = some v := fun w hs => by
  rw [blk_cell (hs.at hL).cells j]
  exact hv
theorem Gives.loadc {t : TypeId} {x : Operand} {g j : Nat} {cs : Array Value} {tb : TypeId} {R : List Atom} (i : Nat) (hop : o.op = .load t x) (hx : ev ρ x = some (.pointer (some ⟨g, j, none⟩))) (ht : Plain P t) (hL : rem1 i L = some (Cells g cs tb, R)) (hv : cs[j]? = some v) :
    Gives P o n ρ (fun w => St w0 F0 w L) v := Gives.load hop hx ht (cell_at hL hv)
/-- A whole block that is one struct. -/
theorem Gives.loadb {t : TypeId} {x : Operand} {g : Nat} {cs : Array Value} {tb : TypeId} {R : List Atom} (i : Nat) (hop : o.op = .load t x) (hx : ev ρ x = some (.pointer (some ⟨g, 0, none⟩))) (hagg : ∀ w, (isAgg t).run P w = .ok true w) (hsz : ∀ w, (sizeOf t).run P w = .ok cs.size w)
    (hL : rem1 i L = some (Cells g cs tb, R)) : Gives P o n ρ (fun w => St w0 F0 w L) (.agg cs) := fun a w hf hs => by
  have hb := (hs.at hL).cells
  have h1 := run_loadCells_list (P := P) (w := w) ⟨g, 0, none⟩ cs.toList (fun j u hj => by rw [add_plain, blk_cell hb]; simpa using hj)
  simp only [Array.length_toList] at h1
  simp [execOp, hop, hf.eval hx, Instr.loadAt, Instr.sureAddr, loadVar, hagg w, hsz w, h1]
theorem Gives.run {r : Sem Value} (hop : ∀ a, Fr a n ρ → execOp a.eval o = (do pure (.value (← r)))) (h : ∀ w, S w → r.run P w = .ok v w) : Gives P o n ρ S v := fun a w hf hw => by
  rw [hop a hf]
  simp [h w hw]
theorem Gives.bin {op : BinOp} {t y' : TypeId} {x y : Operand} {a b : Value} (hop : o.op = .binOp op t x y y') (hx : ev ρ x = some a) (hy : ev ρ y = some b) (hg : eqGuard op t x y a b = pure ()) (hr : ∀ w, (binOp op t a b).run P w = .ok v w) : Gives P o n ρ S v := fun c w hf _ => by
  simp [execOp, hop, hf.eval hx, hf.eval hy, hg, hr w]
theorem Gives.add {t y' : TypeId} {x y : Operand} {a b : Int} (hop : o.op = .binOp .add t x y y') (hx : ev ρ x = some (.int .i64 a)) (hy : ev ρ y = some (.int .i64 b)) (h : -9223372036854775808 ≤ a + b ∧ a + b ≤ 9223372036854775807) : Gives P o n ρ S (.int .i64 (a + b)) :=
  Gives.bin hop hx hy (eqGuard_add _ _ _ _ _) (fun w => by rw [binOp_add]; simp [Op.intArith]; rw [i64_w, w64 h.1 h.2])
theorem Gives.sub {t y' : TypeId} {x y : Operand} {a b : Int} (hop : o.op = .binOp .sub t x y y') (hx : ev ρ x = some (.int .i64 a)) (hy : ev ρ y = some (.int .i64 b)) (h : -9223372036854775808 ≤ a - b ∧ a - b ≤ 9223372036854775807) : Gives P o n ρ S (.int .i64 (a - b)) :=
  Gives.bin hop hx hy (eqGuard_sub _ _ _ _ _) (fun w => by rw [binOp_sub]; simp [Op.intArith]; rw [i64_w, w64 h.1 h.2])
theorem Gives.mul {t y' : TypeId} {x y : Operand} {a b : Int} (hop : o.op = .binOp .mul t x y y') (hx : ev ρ x = some (.int .i64 a)) (hy : ev ρ y = some (.int .i64 b)) (h : -9223372036854775808 ≤ a * b ∧ a * b ≤ 9223372036854775807) : Gives P o n ρ S (.int .i64 (a * b)) :=
  Gives.bin hop hx hy (eqGuard_mul _ _ _ _ _) (fun w => by rw [binOp_mul]; simp [Op.intArith]; rw [i64_w, w64 h.1 h.2])
section
variable {t y' : TypeId} {x y : Operand} {k : IntKind} {a b : Int}
theorem Gives.lss (hop : o.op = .binOp .lss t x y y') (hx : ev ρ x = some (.int k a)) (hy : ev ρ y = some (.int k b)) : Gives P o n ρ S (.bool (decide (a < b))) := Gives.bin hop hx hy (eqGuard_lss _ _ _ _ _) (fun w => by rw [binOp_lss]; rfl)
theorem Gives.leq (hop : o.op = .binOp .leq t x y y') (hx : ev ρ x = some (.int k a)) (hy : ev ρ y = some (.int k b)) : Gives P o n ρ S (.bool (decide (a ≤ b))) := Gives.bin hop hx hy (eqGuard_leq _ _ _ _ _) (fun w => by rw [binOp_leq]; rfl)
theorem Gives.gtr (hop : o.op = .binOp .gtr t x y y') (hx : ev ρ x = some (.int k a)) (hy : ev ρ y = some (.int k b)) : Gives P o n ρ S (.bool (decide (b < a))) := Gives.bin hop hx hy (eqGuard_gtr _ _ _ _ _) (fun w => by rw [binOp_gtr]; rfl)
theorem Gives.geq (hop : o.op = .binOp .geq t x y y') (hx : ev ρ x = some (.int k a)) (hy : ev ρ y = some (.int k b)) : Gives P o n ρ S (.bool (decide (b ≤ a))) := Gives.bin hop hx hy (eqGuard_geq _ _ _ _ _) (fun w => by rw [binOp_geq]; rfl)
theorem Gives.eqi (hop : o.op = .binOp .eql t x y y') (hx : ev ρ x = some (.int k a)) (hy : ev ρ y = some (.int k b)) : Gives P o n ρ S (.bool (a == b)) := Gives.bin hop hx hy (eqGuard_at_int _ _ _ _ _ _ _) (fun w => by rw [binOp_eql]; rfl)
theorem Gives.nei (hop : o.op = .binOp .neq t x y y') (hx : ev ρ x = some (.int k a)) (hy : ev ρ y = some (.int k b)) : Gives P o n ρ S (.bool (a != b)) := Gives.bin hop hx hy (eqGuard_at_int _ _ _ _ _ _ _) (fun w => by rw [binOp_neq]; rfl)
theorem Gives.eqs {a b : ByteArray} (hop : o.op = .binOp .eql t x y y') (hx : ev ρ x = some (.string a)) (hy : ev ρ y = some (.string b)) : Gives P o n ρ S (.bool (a.toList == b.toList)) := Gives.bin hop hx hy (eqGuard_at_string _ _ _ _ _ _) (fun w => by rw [binOp_string_eql]; rfl)
theorem Gives.nes {a b : ByteArray} (hop : o.op = .binOp .neq t x y y') (hx : ev ρ x = some (.string a)) (hy : ev ρ y = some (.string b)) : Gives P o n ρ S (.bool (a.toList != b.toList)) := Gives.bin hop hx hy (eqGuard_at_string _ _ _ _ _ _) (fun w => by rw [binOp_string_neq]; rfl)
theorem Gives.eqb {a b : Bool} (ht : P.underlying t = some .bool) (hop : o.op = .binOp .eql t x y y') (hx : ev ρ x = some (.bool a)) (hy : ev ρ y = some (.bool b)) : Gives P o n ρ S (.bool (a == b)) := Gives.bin hop hx hy (eqGuard_at_bool _ _ _ _ _ _) (fun w => run_eql_bool w t a b ht)
theorem Gives.neb {a b : Bool} (ht : P.underlying t = some .bool) (hop : o.op = .binOp .neq t x y y') (hx : ev ρ x = some (.bool a)) (hy : ev ρ y = some (.bool b)) : Gives P o n ρ S (.bool (a != b)) := Gives.bin hop hx hy (eqGuard_at_bool _ _ _ _ _ _) (fun w => run_neq_bool w t a b ht)
theorem Gives.adds {a b : ByteArray} (hop : o.op = .binOp .add t x y y') (hx : ev ρ x = some (.string a)) (hy : ev ρ y = some (.string b)) (h : a.size + b.size ≤ 9223372036854775807) : Gives P o n ρ S (.string (a ++ b)) := Gives.bin hop hx hy (eqGuard_add _ _ _ _ _) (fun w => by rw [binOp_string_add]; exact run_string_add_sum w a b h)
end
/-- The rest of a number that is not negative. -/
theorem Gives.rem {t y' : TypeId} {x y : Operand} {a b : Int} (hop : o.op = .binOp .rem t x y y') (hx : ev ρ x = some (.int .i64 a)) (hy : ev ρ y = some (.int .i64 b)) (h0 : 0 ≤ a) (h1 : 0 < b) (h2 : a ≤ 9223372036854775807) : Gives P o n ρ S (.int .i64 (a % b)) :=
  Gives.bin hop hx hy (eqGuard_rem _ _ _ _ _) (fun w => by
    have hb : b ≠ 0 := by omega
    have h3 : a.tmod b = a % b := Int.tmod_eq_emod_of_nonneg h0
    have h4 := Int.emod_lt_of_pos a h1
    have h5 := Int.emod_nonneg a hb
    rw [binOp_rem]
    simp [Op.intDiv, hb, h3])
theorem Gives.remk {t y' : TypeId} {x y : Operand} {k : IntKind} {a b : Int} (hop : o.op = .binOp .rem t x y y') (hx : ev ρ x = some (.int k a)) (hy : ev ρ y = some (.int k b)) (h0 : 0 ≤ a) (h1 : 0 < b) : Gives P o n ρ S (.int k (a % b)) :=
  Gives.bin hop hx hy (eqGuard_rem _ _ _ _ _) (fun w => by
    have hb : b ≠ 0 := by omega
    have h3 : a.tmod b = a % b := Int.tmod_eq_emod_of_nonneg h0
    rw [binOp_rem]
    simp [Op.intDiv, hb, h3])
theorem Gives.quok {t y' : TypeId} {x y : Operand} {k : IntKind} {a b : Int} (hop : o.op = .binOp .quo t x y y') (hx : ev ρ x = some (.int k a)) (hy : ev ρ y = some (.int k b)) (h0 : 0 ≤ a) (h1 : 0 < b) (hw : k.wrap (a / b) = a / b) : Gives P o n ρ S (.int k (a / b)) :=
  Gives.bin hop hx hy (eqGuard_quo _ _ _ _ _) (fun w => by
    have hb : b ≠ 0 := by omega
    have h3 : a.tdiv b = a / b := Int.tdiv_eq_ediv_of_nonneg h0
    rw [binOp_quo]
    simp [Op.intDiv, hb, h3, hw])
theorem Gives.conv {s t : TypeId} {x : Operand} {k k' : IntKind} {a : Int} (hop : o.op = .convert s t x) (hx : ev ρ x = some (.int k a)) (hs : P.underlying s = some (.int k)) (ht : P.underlying t = some (.int k')) (hw : k'.wrap a = a) : Gives P o n ρ S (.int k' a) := fun c w hf _ => by
  have := run_convert_int (P := P) w s t k a (by rw [hs]; rfl)
  have hk : P.intKind t = k' := by simp [Program.intKind, ht]
  simp [execOp, hop, hf.eval hx, this]
  simp_all
theorem Gives.not {t : TypeId} {x : Operand} {b : Bool} (hop : o.op = .unOp .not t x) (hx : ev ρ x = some (.bool b)) : Gives P o n ρ S (.bool (!b)) := fun a w hf _ => by
  simp [execOp, hop, hf.eval hx, unary_not]
theorem Gives.extract {x : Operand} {vs : Array Value} {i : Nat} (hop : o.op = .extract x i) (hx : ev ρ x = some (.tuple vs)) (hv : vs[i]? = some v) : Gives P o n ρ S v := fun a w hf _ => by
  simp [execOp, hop, hf.eval hx, Instr.extract, hv]
theorem Gives.field {t : TypeId} {x : Operand} {i : Nat} {u : Value} (hop : o.op = .field t x i) (hx : ev ρ x = some u) (h : ∀ w, (Instr.field t u i).run P w = .ok v w) : Gives P o n ρ S v := fun a w hf _ => by
  simp [execOp, hop, hf.eval hx, h w]
theorem Gives.fieldAddr {t : TypeId} {x : Operand} {i : Nat} {p q : Addr} (hop : o.op = .fieldAddr t x i) (hx : ev ρ x = some (.pointer (some p))) (h : ∀ w, (Instr.fieldAt t (.pointer (some p)) i).run P w = .ok (.pointer (some q)) w) : Gives P o n ρ S (.pointer (some q)) := fun a w hf _ => by
  simp [execOp, hop, hf.eval hx, h w]
theorem Gives.nilCheck {x : Operand} {p : Addr} (hop : o.op = .nilCheck x) (hx : ev ρ x = some (.pointer (some p))) : Gives P o n ρ S (.pointer (some p)) := fun a w hf _ => by
  simp [execOp, hop, hf.eval hx]
theorem Gives.indexAddr {t e : TypeId} {x ix : Operand} {p : Addr} {m c sz : Nat} {i : Int} (hop : o.op = .indexAddr t x ix) (hx : ev ρ x = some (.slice (some p) m c)) (hi : ev ρ ix = some (.int .i64 i)) (ht : P.underlying t = some (.slice e)) (hsz : ∀ w, (sizeOf e).run P w = .ok sz w) (h0 : 0 ≤ i) (h1 : i < m) :
    Gives P o n ρ S (.pointer (some (p.add (i.toNat * sz)))) := fun a w hf _ => by
  have he : P.elem t = e := by simp [Program.elem, ht]
  have hr := run_indexAt_slice (P := P) w t p m c .i64 i (by rw [he]; exact ht)
  rw [if_pos ⟨h0, h1⟩, he, hsz w] at hr
  simp [execOp, hop, hf.eval hx, hf.eval hi, hr, Result.andThen]
theorem Gives.len {t e : TypeId} {x : Operand} {A : Option Addr} {m c : Nat} (hop : o.op = .call { callee := .builtin .len, args := #[x], argTypes := #[t] }) (hx : ev ρ x = some (.slice A m c)) (ht : P.underlying t = some (.slice e)) : Gives P o n ρ S (.int .i64 (m : Nat)) := fun a w hf _ => by
  have he : P.elem t = e := by simp [Program.elem, ht]
  have hr := run_len_slice (P := P) w t o.type A m c (by rw [he]; exact ht)
  simp [execOp, hop, resolve, invoke, builtin, hf.eval hx, hr]
  rfl
theorem Gives.lens {t : TypeId} {x : Operand} {s : ByteArray} (hop : o.op = .call { callee := .builtin .len, args := #[x], argTypes := #[t] }) (hx : ev ρ x = some (.string s)) (ht : P.underlying t = some .string) : Gives P o n ρ S (.int .i64 (s.size : Nat)) := fun a w hf _ => by
  have hr := run_len_string (P := P) w t o.type s ht
  simp [execOp, hop, resolve, invoke, builtin, hf.eval hx, hr]
  rfl
theorem Gives.eqp {t y' pe : TypeId} {x y : Operand} {p : Option Addr} (hop : o.op = .binOp .eql t x y y') (hx : ev ρ x = some (.pointer p)) (hy : ev ρ y = some (.pointer none)) (ht : P.underlying t = some (.pointer pe)) : Gives P o n ρ S (.bool p.isNone) :=
  Gives.bin hop hx hy (eqGuard_at_pointer _ _ _ _ _ _) (fun w => by
    have he : P.pointee t = pe := by simp [Program.pointee, ht]
    have := run_eql_pointer_nil (P := P) w t p (by rw [he]; exact ht)
    cases p <;> simpa using this)
theorem Gives.nep {t y' pe : TypeId} {x y : Operand} {p : Option Addr} (hop : o.op = .binOp .neq t x y y') (hx : ev ρ x = some (.pointer p)) (hy : ev ρ y = some (.pointer none)) (ht : P.underlying t = some (.pointer pe)) : Gives P o n ρ S (.bool p.isSome) :=
  Gives.bin hop hx hy (eqGuard_at_pointer _ _ _ _ _ _) (fun w => by
    have he : P.pointee t = pe := by simp [Program.pointee, ht]
    have := run_neq_pointer_nil (P := P) w t p (by rw [he]; exact ht)
    cases p <;> simpa using this)
theorem Gives.eqsl {t y' e : TypeId} {x y : Operand} {A : Option Addr} {m c : Nat} (hop : o.op = .binOp .eql t x y y') (hx : ev ρ x = some (.slice A m c)) (hy : ev ρ y = some (.slice none 0 0)) (ht : P.underlying t = some (.slice e)) : Gives P o n ρ S (.bool A.isNone) :=
  Gives.bin hop hx hy (eqGuard_at_slice _ _ _ _ _ _ _ _) (fun w => by
    have := Lib.run_eql_slice_nil (P := P) w t e A m c 0 0 ht
    cases A <;> simpa using this)
theorem Gives.nesl {t y' e : TypeId} {x y : Operand} {A : Option Addr} {m c : Nat} (hop : o.op = .binOp .neq t x y y') (hx : ev ρ x = some (.slice A m c)) (hy : ev ρ y = some (.slice none 0 0)) (ht : P.underlying t = some (.slice e)) : Gives P o n ρ S (.bool A.isSome) :=
  Gives.bin hop hx hy (eqGuard_at_slice _ _ _ _ _ _ _ _) (fun w => by
    have := run_neq_slice_nil_any (P := P) w t e A m c 0 0 ht
    cases A <;> simpa using this)
theorem Gives.build {t : TypeId} {parts : Array (Nat × Operand)} {vs : List Value} (hop : o.op = .build t parts) (hx : evs ρ (parts.toList.map (·.2)) = some vs) (h : ∀ w, (Instr.build t ((parts.toList.map (·.1)).zip vs).toArray).run P w = .ok v w) : Gives P o n ρ S v := fun a w hf _ => by
  have he : parts.map (fun (i, x) => (i, a.eval x)) = ((parts.toList.map (·.1)).zip vs).toArray := by
    apply Array.toList_inj.1
    rw [← hf.evals hx]
    simp [List.zip_map', List.map_map, Function.comp_def]
  simp only [execOp, hop, he, Sem.run_bind, h w, Result.andThen_ok, Sem.run_pure]
/-- A builtin that only computes. -/
theorem Gives.builtin {b : Builtin} {xs : Array Operand} {ts : Array TypeId} {vs : List Value} (hop : o.op = .call { callee := .builtin b, args := xs, argTypes := ts }) (hx : evs ρ xs.toList = some vs)
    (h : ∀ w, S w → (invoke (.builtin b ts o.type (xs.map fun | .const _ => true | _ => false)) vs.toArray).run P w = .ok (.value v) w) : Gives P o n ρ S v := fun a w hf hw => by
  have he : xs.map a.eval = vs.toArray := by
    apply Array.toList_inj.1
    simp [hf.evals hx]
  have := h w hw
  simp only [execOp, hop, resolve, he, Sem.run_bind, Sem.run_pure, Result.andThen_ok]
  exact this
theorem add1 (g k : Nat) : (⟨g, 0, none⟩ : Addr).add (k * 1) = ⟨g, k, none⟩ := by rw [Nat.mul_one, add_plain]
/-- The same in a row that begins with its block. -/
theorem Gives.indexAddr0 {t e : TypeId} {x ix : Operand} {g m c sz : Nat} {i : Int} (hop : o.op = .indexAddr t x ix) (hx : ev ρ x = some (.slice (some ⟨g, 0, none⟩) m c)) (hi : ev ρ ix = some (.int .i64 i)) (ht : P.underlying t = some (.slice e)) (hsz : ∀ w, (sizeOf e).run P w = .ok sz w) (h0 : 0 ≤ i) (h1 : i < m) :
    Gives P o n ρ S (.pointer (some ⟨g, i.toNat * sz, none⟩)) := by
  have := Gives.indexAddr (n := n) (S := S) hop hx hi ht hsz h0 h1
  rwa [add_plain] at this
theorem Gives.indexAddr1 {t e : TypeId} {x ix : Operand} {g m c : Nat} {i : Int} (hop : o.op = .indexAddr t x ix) (hx : ev ρ x = some (.slice (some ⟨g, 0, none⟩) m c)) (hi : ev ρ ix = some (.int .i64 i)) (ht : P.underlying t = some (.slice e)) (hsz : ∀ w, (sizeOf e).run P w = .ok 1 w) (h0 : 0 ≤ i) (h1 : i < m) :
    Gives P o n ρ S (.pointer (some ⟨g, i.toNat, none⟩)) := by
  have := Gives.indexAddr0 (n := n) (S := S) hop hx hi ht hsz h0 h1
  rwa [Nat.mul_one] at this

/-! ### 6. What makes, writes, calls -/
theorem Bs {B : Nat} (h : B ≤ w0.heap.size) : ∀ w, St w0 F0 w L → B ≤ w.heap.size := fun _ hs => Nat.le_trans h hs.size
theorem St.new {w : World} {F : Nat → Prop} (cs : Array Value) (t : TypeId) : St w F (w.alloc (.cells cs t (0, 0))) [Cells w.heap.size cs t] :=
  St.of_below (below_alloc (Below.refl _ _) _) (Sep.mk1 (F := fun k => k = w.heap.size) (fun k hk => by subst hk; simp) ⟨rfl, heap_alloc_new w _⟩)
theorem Does.new {B : Nat} {cs : Array Value} {t : TypeId} (hB : ∀ w, S w → B ≤ w.heap.size) (hrun : ∀ a w, Fr a n ρ → S w → (execOp a.eval o).run P w = .ok (.value (.pointer (some ⟨w.heap.size, 0, none⟩))) (w.alloc (.cells cs t (0, 0)))) :
    Does P o n ρ S [] (fun g : Nat => .pointer (some ⟨g, 0, none⟩)) (fun g => B ≤ g) (fun g => [Cells g cs t]) := fun a w F hf hw _ _ K Q k => by
  unfold Oper.wp
  rw [hrun a w hf hw, Oper.upon_value]
  exact k w.heap.size _ (hB w hw) (St.new cs t)
theorem Does.alloc {B : Nat} {cs : Array Value} {t : TypeId} (hB : ∀ w, S w → B ≤ w.heap.size) (hop : o.op = .alloc t) (h : ∀ w, (Instr.alloc t true (.tuple #[])).run P w = .ok (.pointer (some ⟨w.heap.size, 0, none⟩)) (w.alloc (.cells cs t (0, 0)))) :
    Does P o n ρ S [] (fun g : Nat => .pointer (some ⟨g, 0, none⟩)) (fun g => B ≤ g) (fun g => [Cells g cs t]) := Does.new hB (fun a w _ _ => by simp [execOp, hop, h w])
theorem Does.box {B : Nat} {cs : Array Value} {t : TypeId} {x : Operand} {v : Value} (hB : ∀ w, S w → B ≤ w.heap.size) (hop : o.op = .box t x) (hx : ev ρ x = some v) (hcs : v.cells = cs) :
    Does P o n ρ S [] (fun g : Nat => .pointer (some ⟨g, 0, none⟩)) (fun g => B ≤ g) (fun g => [Cells g cs t]) := Does.new hB (fun a w hf _ => by
  subst hcs
  simp [execOp, hop, hf.eval hx, Instr.box, newVar, newRow])
/-- A literal's row. -/
theorem Does.lit {B : Nat} {cs : Array Value} {t e : TypeId} {m l : Nat} {parts : Array (Nat × Operand)} {vs : List Value} (hB : ∀ w, S w → B ≤ w.heap.size) (hop : o.op = .buildSlice t l parts) (hx : evs ρ (parts.toList.map (·.2)) = some vs)
    (h : ∀ w, (Instr.buildSlice t l ((parts.toList.map (·.1)).zip vs).toArray).run P w = .ok (.slice (some ⟨w.heap.size, 0, none⟩) m m) (w.alloc (.cells cs e (0, 0)))) :
    Does P o n ρ S [] (fun g : Nat => .slice (some ⟨g, 0, none⟩) m m) (fun g => B ≤ g) (fun g => [Cells g cs e]) := fun a w F hf hw _ _ K Q k => by
  have he : parts.map (fun (i, x) => (i, a.eval x)) = ((parts.toList.map (·.1)).zip vs).toArray := by
    apply Array.toList_inj.1
    rw [← hf.evals hx]
    simp [List.zip_map', List.map_map, Function.comp_def]
  unfold Oper.wp
  simp only [execOp, hop, he, Sem.run_bind, h w, Result.andThen_ok, Sem.run_pure, Oper.upon_value]
  exact k w.heap.size _ (hB w hw) (St.new cs e)
theorem St.put {w : World} {F : Nat → Prop} {g j : Nat} {cs cs' : Array Value} {t : TypeId} {v : Value} (hs : Sep w F [Cells g cs t]) (e : cs.setIfInBounds j v = cs') : St w F (w.setCell ⟨g, j, none⟩ v) [Cells g cs' t] := by
  obtain ⟨F', f1, f2, f3⟩ := hs.one
  refine ⟨rfl, rfl, rfl, by simp, fun k hk hn => Below.heap_setCell _ _ _ _ (fun h => hn ?_), Sep.mk1 (F := fun k => k = g) (fun k hk => ?_) ⟨rfl, blk_put f3 j v e⟩⟩
  · subst h; exact (f1 _ f2).1
  · subst hk; exact ⟨.inl (f1 _ f2).1, by simpa using (f1 _ f2).2⟩
theorem Does.store {t tb : TypeId} {x y : Operand} {g j : Nat} {cs cs' : Array Value} {v u : Value} (hop : o.op = .store t x y) (hx : ev ρ x = some (.pointer (some ⟨g, j, none⟩))) (hy : ev ρ y = some v) (hsz : ∀ w, (sizeOf t).run P w = .ok 1 w) (hc : v.cells = #[v]) (h1 : v.oneCell' = true)
    (hin : cs[j]? = some u) (hcs : cs.setIfInBounds j v = cs') : Does P o n ρ S [Cells g cs tb] (fun _ : Unit => undef) (fun _ => True) (fun _ => [Cells g cs' tb]) := fun a w F hf _ hs _ K Q k => by
  obtain ⟨F', f1, f2, f3⟩ := hs.one
  have hcell : w.cell? ⟨g, j, none⟩ = some u := (blk_cell f3 j).trans hin
  have hfz : w.frozen? ⟨g, j, none⟩ = false := blk_frozen f3 j
  have hr := run_store P w ⟨g, j, none⟩ v .plain h1
  rw [hcell] at hr
  simp only [hfz, Bool.false_eq_true, if_false] at hr
  unfold Oper.wp
  have h0 : (⟨g, j, none⟩ : Addr).add 0 = ⟨g, j, none⟩ := by simp [Addr.add]
  simp only [execOp, hop, hf.eval hx, hf.eval hy, Instr.storeAt, Instr.sureAddr, storeVar, hc, hsz w, Sem.run_bind, Sem.run_pure, Result.andThen_ok, storeCells, h0]
  rw [if_neg (by simp)]
  simp only [Sem.run_bind, Sem.run_pure, hr, Result.andThen_ok]
  exact k () _ trivial (St.put hs hcs)
/-- A whole block that is one struct is written. -/
theorem Does.storeb {t tb : TypeId} {x y : Operand} {g : Nat} {cs vs : Array Value} (hop : o.op = .store t x y) (hx : ev ρ x = some (.pointer (some ⟨g, 0, none⟩))) (hy : ev ρ y = some (.agg vs)) (hsz : ∀ w, (sizeOf t).run P w = .ok vs.size w) (h1 : ∀ v ∈ vs.toList, v.oneCell' = true)
    (hcs : cs.size = vs.size) : Does P o n ρ S [Cells g cs tb] (fun _ : Unit => undef) (fun _ => True) (fun _ => [Cells g vs tb]) := fun a w F hf _ hs _ K Q k => by
  obtain ⟨F', f1, f2, f3⟩ := hs.one
  have key : ∀ (l : List Value) (i : Nat) (w1 : World) (cur : Array Value), (∀ v ∈ l, v.oneCell' = true) → w1.heap[g]? = some (.cells cur tb (0, 0)) → i + l.length = cur.size → (∀ k, k < w.heap.size → k ≠ g → w1.heap[k]? = w.heap[k]?) → w1.os = w.os → w1.tape = w.tape → w1.output = w.output → w1.heap.size = w.heap.size →
      ∃ w2, (storeCells ⟨g, 0, none⟩ l i).run P w1 = .ok () w2 ∧ w2.heap[g]? = some (.cells (cur.toList.take i ++ l).toArray tb (0, 0)) ∧ (∀ k, k < w.heap.size → k ≠ g → w2.heap[k]? = w.heap[k]?) ∧ w2.os = w.os ∧ w2.tape = w.tape ∧ w2.output = w.output ∧ w2.heap.size = w.heap.size := by
    intro l
    induction l with
    | nil =>
      intro i w1 cur _ hb hl hk ho htp hou hsz
      refine ⟨w1, by simp [storeCells], ?_, hk, ho, htp, hou, hsz⟩
      rw [List.append_nil, List.take_of_length_le (by simp at hl; simp; omega)]
      simpa using hb
    | cons u l ih =>
      intro i w1 cur h1 hb hl hk ho htp hou hsz
      have hi : i < cur.size := by simp at hl; omega
      have hr := run_store P w1 ⟨g, i, none⟩ u .plain (h1 u List.mem_cons_self)
      rw [(blk_cell hb i).trans (Array.getElem?_eq_getElem hi)] at hr
      simp only [blk_frozen hb i, Bool.false_eq_true, if_false] at hr
      obtain ⟨w2, g1, g2, g3, g4⟩ := ih (i + 1) (w1.setCell ⟨g, i, none⟩ u) (cur.setIfInBounds i u) (fun v hv => h1 v (List.mem_cons_of_mem _ hv)) (blk_set hb i u) (by simp at hl ⊢; omega)
        (fun k hkl hkg => (Below.heap_setCell _ _ _ _ hkg).trans (hk k hkl hkg)) ho htp hou (by simpa using hsz)
      refine ⟨w2, ?_, ?_, g3, g4⟩
      · rw [storeCells, add_plain]
        simp only [Sem.run_bind, hr, Result.andThen_ok]
        exact g1
      · rw [g2]
        congr 2
        apply Array.toList_inj.1
        simp only [Array.toList_setIfInBounds]
        rw [List.take_add_one]
        simp [hi, List.take_set_of_le]
  have hb := f3
  obtain ⟨w2, g1, g2, g3, g4, g5, g6, g7⟩ := key vs.toList 0 w cs h1 hb (by simp [hcs]) (fun _ _ _ => rfl) rfl rfl rfl rfl
  unfold Oper.wp
  simp only [execOp, hop, hf.eval hx, hf.eval hy, Instr.storeAt, Instr.sureAddr, storeVar, hsz w, Sem.run_bind, Sem.run_pure, Result.andThen_ok, Value.cells]
  rw [if_neg (by simp)]
  simp only [Sem.run_bind, Sem.run_pure, g1, Result.andThen_ok]
  refine k () w2 trivial ⟨g4, g5, g6, by omega, fun k' hk hn => g3 k' hk (fun h => hn (by subst h; exact (f1 _ f2).1)), Sep.mk1 (F := fun k => k = g) (fun k' hk => ?_) ⟨rfl, by simpa using g2⟩⟩
  subst hk
  exact ⟨.inl (f1 _ f2).1, by have := (f1 _ f2).2; omega⟩
/-- A function's contract: what it does with its own parts of the memory. -/
def Con (P : Program) (f : FuncId) (vs : List Value) (S : World → Prop) (Lp : List Atom) {τ : Type} (val : τ → Value) (ok : τ → Prop) (Lq : τ → List Atom) : Prop :=
  ∀ w (F : Nat → Prop), S w → Sep w F Lp → (∀ k, F k → k < w.heap.size) → Calls P f vs.toArray w fun e w' => ∃ s, e = .returned (val s) ∧ ok s ∧ St w F w' (Lq s)
theorem Does.call {f : FuncId} {fn : Func} {as : Array Operand} {ts : Array TypeId} {vs : List Value} {τ : Type} {val : τ → Value} {ok : τ → Prop} {Lq : τ → List Atom} (hop : o.op = .call { callee := .value (.func f), args := as, argTypes := ts }) (hx : evs ρ as.toList = some vs)
    (hf : P.funcs[f]? = some fn) (hname : (fn.name == "runtime.NumGoroutine") = false) (hb : fn.body.isSome = true) (h : Con P f vs S Lp val ok Lq) : Does P o n ρ S Lp val ok Lq := fun a w F hfr hw hs hlt K Q k => by
  have he : as.map a.eval = vs.toArray := by
    apply Array.toList_inj.1
    simp [hfr.evals hx]
  have hen := enters_ hf hname hb vs.toArray w
  have hrun : (execOp a.eval o).run P w = .ok (.enter f vs.toArray) w := by
    unfold execOp
    simp only [hop, resolve, Deferred.ofValue, invoke, Act.eval, he, Sem.run_bind, Sem.run_pure, Result.andThen_ok]
    simpa using hen
  unfold Oper.wp
  rw [hrun, Oper.upon_enter]
  refine (h w F hw hs hlt).mono fun e w' hh => ?_
  obtain ⟨s, rfl, hok, hst⟩ := hh
  exact k s w' hok hst
theorem Con.mono {S' : World → Prop} {f : FuncId} {vs : List Value} {τ : Type} {val : τ → Value} {ok : τ → Prop} {Lq : τ → List Atom} (h : Con P f vs S Lp val ok Lq) (hs : ∀ w, S' w → S w) : Con P f vs S' Lp val ok Lq := fun w F hw hsep hlt => h w F (hs w hw) hsep hlt
theorem Con.below {f : FuncId} {vs : List Value} {v : Value} (h : ∀ w, S w → Calls P f vs.toArray w fun e w' => e = .returned v ∧ Below w.heap.size w w') : Con P f vs S [] (fun _ : Unit => v) (fun _ => True) (fun _ => []) := fun w F hw _ _ =>
  (h w hw).mono fun _ _ hh => ⟨(), hh.1, trivial, St.of_below hh.2 trivial⟩
theorem Con.drawn {f : FuncId} {vs : List Value} {v : Value} (h : ∀ w, S w → Calls P f vs.toArray w fun e w' => e = .returned v ∧ Drawn0 w w') : Con P f vs S [] (fun _ : Unit => v) (fun _ => True) (fun _ => []) :=
  Con.below (fun w hw => (h w hw).mono fun _ _ hh => ⟨hh.1, hh.2.below⟩)
theorem Sep.of_R {α : Type} {kd : Kd α} {B : Nat} {e : Nat} {w w' : World} {v : Value} {xs : List α} (hB : B ≤ w.heap.size) (h : kd.R e w' w.heap.size (fun _ => True) v xs) : Sep w' (fun k => w.heap.size ≤ k) [Row B kd e v xs] :=
  Sep.mk1 (F := fun k => w.heap.size ≤ k ∧ k < w'.heap.size) (fun _ hk => hk) (Kd.R_lower (Kd.R_mono (Kd.R_bound h) (fun k hk => ⟨hk.2.1, hk.2.2.1⟩)) hB)
theorem Con.row {α : Type} {kd : Kd α} {B e : Nat} {xs : List α} {f : FuncId} {vs : List Value} (hB : ∀ w, S w → B ≤ w.heap.size) (h : ∀ w, S w → Calls P f vs.toArray w fun e' w' => ∃ v0_ : Value, e' = .returned v0_ ∧ kd.R e w' w.heap.size (fun _ => True) v0_ xs ∧ Below w.heap.size w w') :
    Con P f vs S [] (fun v : Value => v) (fun _ => True) (fun v => [Row B kd e v xs]) := fun w F hw _ _ =>
  (h w hw).mono fun _ _ hh => by
    obtain ⟨v, h1, h2, h3⟩ := hh
    exact ⟨v, h1, trivial, St.of_below h3 (Sep.of_R (hB w hw) h2)⟩
/-! #### rows -/
/-- Elements without rows inside. -/
def Flat {α : Type} (d : Kd α) : Prop := ∀ (w : World) (base : Nat) (x : α) (cs : List Value), d.K w x cs → d.M w base (fun _ => False) x cs
theorem flat_scalar {α : Type} {enc : α → Value} {h1 : ∀ x, (enc x).oneCell' = true} : Flat (Kd.scalar enc h1) := fun _ _ _ _ h => h
theorem flat_int {k : IntKind} : Flat (Kd.int k) := flat_scalar
theorem flat_string : Flat Kd.string := flat_scalar
theorem flat_bool : Flat Kd.bool := flat_scalar
theorem flat_pair {α β : Type} {a : Kd α} {b : Kd β} (ha : Flat a) (hb : Flat b) : Flat (Kd.pair a b) := fun w base x cs h => by
  obtain ⟨c0, c1, h1, h2, h3⟩ := h
  exact ⟨c0, c1, h1, ha w base _ _ h2, hb w base _ _ h3⟩
theorem flat_iso {α β : Type} {d : Kd α} {f : β → α} (h : Flat d) : Flat (Kd.iso d f) := fun w base x cs hk => h w base (f x) cs hk
theorem St.grown {α : Type} {kd : Kd α} {B e : Nat} {w w' : World} {F : Nat → Prop} {v v' : Value} {xs ys : List α} (h0 : ∀ k, v.ownBlock = some k → F k) (hg : w.grownBy w' v.ownBlock) (h : kd.R e w' B (fun k => F k ∨ w.heap.size ≤ k) v' ys) : St w F w' [Row B kd e v' ys] :=
  ⟨hg.os, hg.tape, hg.output, hg.size, fun k hk hn => hg.block k hk (fun e => hn (h0 k e.symm)), Sep.mk1 (F := fun k => (F k ∨ w.heap.size ≤ k) ∧ k < w'.heap.size) (fun _ hk => hk) (Kd.R_mono (Kd.R_bound h) (fun k hk => ⟨hk.1, hk.2.2.1⟩))⟩
section
variable {α : Type} {kd : Kd α} {B e : Nat} {t : TypeId} {x y : Operand} {z : Value} {bytes : Nat} {v : Value} {xs ys : List α} {A : Option Addr} {m c : Nat}
/-- append(v, ys...): elements without rows inside. -/
theorem Does.appends (hB : ∀ w, S w → B ≤ w.heap.size) (hop : o.op = .call { callee := .builtin .append, args := #[x, y], argTypes := #[t, t] }) (hx : ev ρ x = some v) (hy : ev ρ y = some (.slice A m c))
    (ht : P.underlying t = some (.slice e)) (hinfo : (P.info? e).map (fun i => (i.zero, i.size, i.bytes)) = some (some z, kd.sz, bytes)) (hz : z.cells.size = kd.sz) (hs0 : 0 < kd.sz) (hb0 : 0 < bytes) (hflat : Flat kd)
    (hC : ∀ w, S w → kd.C w A m ys) (hl : (xs.length + m) * bytes ≤ 140737488355328) : Does P o n ρ S [Row B kd e v xs] (fun v : Value => v) (fun _ => True) (fun v' => [Row B kd e v' (xs ++ ys)]) := fun a w F hf hw hs hlt K Q k => by
  obtain ⟨F', f1, f2⟩ := hs.one
  have hR : kd.R e w B (fun k => F k ∨ w.heap.size ≤ k) v xs := Kd.R_mono f2 (fun k hk => .inl (f1 k hk).1)
  have h0 : ∀ k, v.ownBlock = some k → F k := fun k hk => (f1 k (f2.1 k hk)).1
  have := Kd.R_append_rows_step (P := P) (ops := #[]) (o := { o with guard := none }) (a := a) (Q := Q) (Kc := K) kd (Rr := kd.K w) (w0 := w) B rfl x y t e z bytes hop ht hinfo hz hs0 hb0 v xs ys A m c (fun k => F k ∨ w.heap.size ≤ k) (fun _ => False) (hf.eval hx) (hf.eval hy) hR (hC w hw) (fun x cs hk => hflat w B x cs hk) (fun _ hk => hk.elim) (fun k hk => .inr hk) (Below.refl _ _) (hB w hw) hl
    (fun v1 w1 r1 _ r3 _ => k v1 w1 trivial (St.grown (xs := xs) h0 r3 r1))
  rw [if_pos (show Region.wanted _ _ = true from rfl)] at this
  exact this
/-- append(v, p): p's own rows go with it. -/
theorem Does.appendOwn {p : α} {inner : List Value} {Y : List Atom} {g : Nat} (hB : ∀ w, S w → B ≤ w.heap.size) (hop : o.op = .call { callee := .builtin .append, args := #[x, y], argTypes := #[t, t] }) (hx : ev ρ x = some v) (hy : ev ρ y = some (.slice (some ⟨g, 0, none⟩) 1 1))
    (ht : P.underlying t = some (.slice e)) (hinfo : (P.info? e).map (fun i => (i.zero, i.size, i.bytes)) = some (some z, kd.sz, bytes)) (hz : z.cells.size = kd.sz) (hs0 : 0 < kd.sz) (hb0 : 0 < bytes)
    (hM : ∀ w F, Sep w F Y → kd.M w B F p inner) (hl : (xs.length + 1) * bytes ≤ 140737488355328) : Does P o n ρ S (Row B kd e v xs :: Cells g inner.toArray e :: Y) (fun v : Value => v) (fun _ => True) (fun v' => [Row B kd e v' (xs ++ [p])]) := fun a w F hf hw hs hlt K Q k => by
  obtain ⟨F', f1, f2, G, g1, g2, g3⟩ := hs
  have h0 : ∀ k, v.ownBlock = some k → F k := fun k hk => (f1 k (f2.1 k hk)).1
  have hR : kd.R e w B (fun k => F k ∨ w.heap.size ≤ k) v xs := Kd.R_mono f2 (fun k hk => .inl (f1 k hk).1)
  have hm : kd.M w B (fun k => (F k ∧ ¬ F' k) ∧ ¬ G k) p inner := hM w _ g3
  have hb : w.heap[g]? = some (.cells inner.toArray e (0, 0)) := g2.2
  have hlen := kd.K_len (kd.K_of_M hm)
  have := Kd.R_append_rows_step (P := P) (ops := #[]) (o := { o with guard := none }) (a := a) (Q := Q) (Kc := K) kd (Rr := fun x cs => x = p ∧ cs = inner) (w0 := w) B rfl x y t e z bytes hop ht hinfo hz hs0 hb0 v xs [p] (some ⟨g, 0, none⟩) 1 1 (fun k => F k ∨ w.heap.size ≤ k) (fun k => (F k ∧ ¬ F' k) ∧ ¬ G k) (hf.eval hx) (hf.eval hy) hR
    ⟨rfl, by omega, fun _ => ⟨_, rfl, fun j q hj => by
      have h1 : j = 0 := by have := (List.getElem?_eq_some_iff.1 hj).1; simpa using this
      subst h1
      have h2 : p = q := by simpa using hj
      subst h2
      refine ⟨inner, hlen, ⟨rfl, rfl⟩, fun i u hu => ?_⟩
      rw [add_plain, blk_cell hb]
      simpa using hu⟩⟩
    (fun x cs hk => by obtain ⟨rfl, rfl⟩ := hk; exact hm) (fun k hk => ⟨.inl hk.1.1, fun e => hk.1.2 (f2.1 k e.symm)⟩) (fun k hk => .inr hk) (Below.refl _ _) (hB w hw) hl
    (fun v1 w1 r1 _ r3 _ => k v1 w1 trivial (St.grown (xs := xs) h0 r3 r1))
  rw [if_pos (show Region.wanted _ _ = true from rfl)] at this
  exact this
theorem C_box {i g : Nat} {p : α} {inner : List Value} {R : List Atom} (hL : rem1 i L = some (Cells g inner.toArray e, R)) (hK : ∀ w, kd.K w p inner) : ∀ w, St w0 F0 w L → kd.C w (some ⟨g, 0, none⟩) 1 [p] := fun w hs => by
  have hb := (hs.at hL).cells
  refine ⟨rfl, by omega, fun _ => ⟨_, rfl, fun j q hj => ?_⟩⟩
  have h1 : j = 0 := by have := (List.getElem?_eq_some_iff.1 hj).1; simpa using this
  subst h1
  have h2 : p = q := by simpa using hj
  subst h2
  refine ⟨inner, kd.K_len (hK w), hK w, fun i u hu => ?_⟩
  rw [add_plain, blk_cell hb]
  simpa using hu
end
end
end Go.Proofs.YteckdfgllipilaaS
