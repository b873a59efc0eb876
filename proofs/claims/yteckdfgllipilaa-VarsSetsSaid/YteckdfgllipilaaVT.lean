/- A shell's table of variables: what its functions do with it. -/
import Derived.Test.YteckdfgllipilaaVP
namespace Go.Proofs.Yteckdfgllipilaa.VT
open Go.RowKit Go.Proofs.YteckdfgllipilaaW.PrintWords Go.Proofs.YteckdfgllipilaaW.PrintLast Go.Proofs.YteckdfgllipilaaS Go.Proofs.Yteckdfgllipilaa.NU Go.Proofs.Yteckdfgllipilaa.NV Go.Proofs.Yteckdfgllipilaa.NW Go.Proofs.Yteckdfgllipilaa.VP

abbrev e0 : ByteArray := ⟨#[]⟩
structure T where
  V : List VT
  A : List ByteArray
  st : Int
def TK (B g : Nat) (vl al : Value) (m : T) : List Atom := [Cells g #[vl, al, .int .i64 m.st] 57, Row B kV 26 vl m.V, Row B Kd.string 9 al m.A]
structure T.Ok (m : T) : Prop where
  up : Up m.V
  names : ∀ x ∈ m.V, isName x.1 = true
  nV : m.V.length ≤ 64
  nA : m.A.length ≤ 256
  lA : ∀ a ∈ m.A, a.size ≤ 4096
  st : -9223372036854775808 ≤ m.st ∧ m.st ≤ 9223372036854775807
/-! ### texts joined -/
def jnTo (xs : List ByteArray) : Nat → ByteArray
  | 0 => ⟨#[]⟩
  | k + 1 => if k = 0 then xs.getD 0 ⟨#[]⟩ else (jnTo xs k ++ ⟨#[32]⟩) ++ xs.getD k ⟨#[]⟩
def jn (xs : List ByteArray) : ByteArray := jnTo xs xs.length
theorem jnTo_join (x : ByteArray) (r : List ByteArray) : ∀ k, k ≤ r.length → (jnTo (x :: r) (k + 1)).data.toList = x.data.toList ++ Lib.joinTail [32] ((r.take k).map (·.data.toList))
  | 0, _ => by simp [jnTo, Lib.joinTail]
  | k + 1, h => by
    rw [jnTo, if_neg (by omega)]
    have ih := jnTo_join x r k (by omega)
    have hk : r.take (k + 1) = r.take k ++ [r[k]] := by rw [List.take_succ_eq_append_getElem]
    have hd : (x :: r).getD (k + 1) ⟨#[]⟩ = r[k] := by simp [List.getD_eq_getElem?_getD, List.getElem?_eq_getElem (show k < r.length by omega)]
    rw [hk, hd]
    simp only [ByteArray.data_append, Array.toList_append, ih, Lib.joinTail, List.map_append, List.map_cons, List.map_nil, List.flatten_append, List.append_assoc]
    simp
theorem join_jn (xs : List ByteArray) : (⟨(Lib.join (xs.map (·.data.toList)) [32]).toArray⟩ : ByteArray) = jn xs := by
  apply ByteArray.ext
  apply Array.toList_inj.1
  cases xs with
  | nil => simp [Lib.join_nil, jn, jnTo]
  | cons x r =>
    rw [List.map_cons, Lib.join_cons]
    have := jnTo_join x r r.length (Nat.le_refl _)
    rw [List.take_length] at this
    show _ = (jnTo (x :: r) (r.length + 1)).data.toList
    rw [this]
theorem jnTo_size (xs : List ByteArray) (h : ∀ a ∈ xs, a.size ≤ 4096) : ∀ k, (jnTo xs k).size ≤ k * 4097
  | 0 => by simp [jnTo, ByteArray.size]
  | k + 1 => by
    have ih := jnTo_size xs h k
    have hg : ∀ j, (xs.getD j ⟨#[]⟩).size ≤ 4096 := fun j => by
      rw [List.getD_eq_getElem?_getD]
      cases hj : xs[j]? with
      | none => simp [ByteArray.size]
      | some a => exact h a (List.mem_of_getElem? hj)
    rw [jnTo]
    split
    · have := hg 0; omega
    · have := hg k
      rw [ByteArray.size_append, ByteArray.size_append]
      have : (⟨#[32]⟩ : ByteArray).size = 1 := rfl
      omega
theorem join_con (A : Option Addr) (n c : Nat) (xs : List ByteArray) (hn : n ≤ 256) (hx : ∀ a ∈ xs, a.size ≤ 4096) (hc : n ≤ c) (S : World → Prop) (hC : ∀ w, S w → Kd.string.C w A n xs) (hA : 0 < n → ∃ g o, A = some ⟨g, o, none⟩) : Con Try.prog 29 [.slice A n c, .string ⟨#[32]⟩] S [] (fun _ : Unit => .string (jn xs)) (fun _ => True) (fun _ => []) := Con.below fun w hw => by
  have h := hC w hw
  have hl := (C_lenm h).1
  rcases Nat.eq_zero_or_pos n with h0 | h0
  · subst h0
    have hxs : xs = [] := List.eq_nil_of_length_eq_zero hl
    subst hxs
    exact (Go.Proofs.Try.strings_Join_none A c ⟨#[32]⟩ w).mono fun e w' hh => ⟨hh.1, by rw [hh.2]; exact Below.refl _ _⟩
  · obtain ⟨g, o, rfl⟩ := hA h0
    subst hl
    have hcell : ∀ (j : Nat) x, xs[j]? = some x → w.cell? ⟨g, o + j, none⟩ = some (.string x) := fun j x hj => by
      obtain ⟨ad, e1, h2⟩ := h.2.2 h0
      obtain rfl := Option.some.inj e1
      obtain ⟨c', h3, h4, h5⟩ := h2 j x hj
      have h6 : c' = [.string x] := h4
      subst h6
      have h7 := h5 0 _ rfl
      rw [← h7]
      congr 1
      unfold Addr.add
      by_cases hq : j = 0 <;> simp [hq, Kd.string, Kd.scalar]
    have h0' := hcell 0 (xs[0]) (List.getElem?_eq_getElem h0)
    have hb := World.block_lt_of_cell? w _ h0'
    have hsz := jnTo_size xs hx xs.length
    have hj := join_jn xs
    refine (Go.Proofs.Try.strings_Join g o c xs ⟨#[32]⟩ w hcell hb (by omega) hc ?_).mono fun e w' hh => ⟨?_, hh.2⟩
    · have h8 : (Lib.join (xs.map (·.data.toList)) [32]).length = (jn xs).size := by rw [← hj]; simp [ByteArray.size]
      show (Lib.join (xs.map (·.data.toList)) [32]).length ≤ _
      rw [h8]
      unfold jn
      omega
    · rw [hh.1]
      show Ending.returned (.string ⟨(Lib.join (xs.map (·.data.toList)) [32]).toArray⟩) = _
      rw [hj]
/-! ### what a name is -/
def lookV (V : List VT) (s : ByteArray) : ByteArray × Bool := match V.find? (fun x => decide (x.1 = s)) with
  | some x => (x.2, true)
  | none => (⟨#[]⟩, false)
theorem lookV_some {V : List VT} {s : ByteArray} {i : Int} (hu : Up V) (h0 : 0 ≤ i) (h1 : i < V.length) (he : (rdOf zV V i).1 = s) : lookV V s = ((rdOf zV V i).2, true) := by
  obtain ⟨hi, e⟩ := rd_at h0 h1
  rw [e] at he ⊢
  have : V.find? (fun x => decide (x.1 = s)) = some V[i.toNat] := by
    rw [List.find?_eq_some_iff_getElem]
    refine ⟨by simp [he], i.toNat, hi, rfl, fun j hj => ?_⟩
    have := List.pairwise_iff_getElem.1 hu j i.toNat (by omega) hi hj
    rw [he] at this
    simp only [Bool.not_eq_true', decide_eq_false_iff_not]
    intro h
    rw [h] at this
    exact slt_irrefl _ this
  unfold lookV
  rw [this]
theorem lookV_none {V : List VT} {s : ByteArray} (h : ∀ x ∈ V, x.1 ≠ s) : lookV V s = (⟨#[]⟩, false) := by
  unfold lookV
  rw [List.find?_eq_none.2 (fun x hx => by simp [h x hx])]
theorem at_none {V : List VT} {s : ByteArray} {i : Int} (h : At V s i) (hu : Up V) (hn : ¬ (i < V.length ∧ (rdOf zV V i).1 = s)) : ∀ x ∈ V, x.1 ≠ s := fun x hx he => by
  obtain ⟨j, hj, rfl⟩ := List.mem_iff_getElem.1 hx
  have h2 : rdOf zV V (j : Int) = V[j] := by simp [rdOf, List.getD_eq_getElem?_getD, List.getElem?_eq_getElem hj]
  have := h.found hu (k := j) (by omega) (by omega) (by rw [h2]; exact he)
  subst this
  exact hn ⟨by omega, by rw [h2]; exact he⟩
def T.get (m : T) (s : ByteArray) : ByteArray × Bool :=
  if s = ⟨#[35]⟩ then (txt (m.A.length : Nat), true) else if s = ⟨#[63]⟩ then (txt m.st, true) else if s = ⟨#[64]⟩ ∨ s = ⟨#[42]⟩ then (jn m.A, decide (0 < m.A.length))
  else if 0 < s.size ∧ isDig (byteAt s 0) = true then (if (rdRes s 9223372036854775807).2 = 0 ∧ 1 ≤ (rdRes s 9223372036854775807).1 ∧ (rdRes s 9223372036854775807).1 ≤ m.A.length then (rdOf e0 m.A ((rdRes s 9223372036854775807).1 - 1), true) else (e0, false))
  else lookV m.V s
theorem get_count {m : T} {s : ByteArray} (h : s = ⟨#[35]⟩) : m.get s = (txt (m.A.length : Nat), true) := if_pos h
theorem get_status {m : T} {s : ByteArray} (h : s = ⟨#[63]⟩) : m.get s = (txt m.st, true) := by subst h; rfl
theorem get_all {m : T} {s : ByteArray} (h : s = ⟨#[64]⟩ ∨ s = ⟨#[42]⟩) : m.get s = (jn m.A, decide (0 < m.A.length)) := by rcases h with rfl | rfl <;> rfl
theorem get_dig {m : T} {s : ByteArray} (h1 : s ≠ ⟨#[35]⟩) (h2 : s ≠ ⟨#[63]⟩) (h3 : s ≠ ⟨#[64]⟩) (h4 : s ≠ ⟨#[42]⟩) (h : 0 < s.size ∧ isDig (byteAt s 0) = true) : m.get s = (if (rdRes s 9223372036854775807).2 = 0 ∧ 1 ≤ (rdRes s 9223372036854775807).1 ∧ (rdRes s 9223372036854775807).1 ≤ m.A.length then (rdOf e0 m.A ((rdRes s 9223372036854775807).1 - 1), true) else (e0, false)) := by
  unfold T.get
  rw [if_neg h1, if_neg h2, if_neg (by simp [h3, h4]), if_pos h]
theorem get_var {m : T} {s : ByteArray} (h1 : s ≠ ⟨#[35]⟩) (h2 : s ≠ ⟨#[63]⟩) (h3 : s ≠ ⟨#[64]⟩) (h4 : s ≠ ⟨#[42]⟩) (h : ¬ (0 < s.size ∧ isDig (byteAt s 0) = true)) : m.get s = lookV m.V s := by
  unfold T.get
  rw [if_neg h1, if_neg h2, if_neg (by simp [h3, h4]), if_neg h]
theorem get_nil {m : T} (hm : m.Ok) : m.get ⟨#[]⟩ = (⟨#[]⟩, false) := by
  rw [get_var (by decide) (by decide) (by decide) (by decide) (by decide)]
  exact lookV_none fun x hx he => by
    have := isName_iff.1 (hm.names x hx)
    rw [he] at this
    exact absurd this.1 (by decide)

theorem mixed_ : Try.prog.follows .mixedOrders = true := by kernel_rfl
theorem in9 : (Try.prog.info? 9).map (fun i => (i.zero, i.size, i.bytes)) = some (some (.string (⟨#[]⟩ : ByteArray)), 1, 16) := by kernel_rfl
theorem in26 : (Try.prog.info? 26).map (fun i => (i.zero, i.size, i.bytes)) = some (some (.agg #[.string (⟨#[]⟩ : ByteArray), .string (⟨#[]⟩ : ByteArray)]), 2, 32) := by kernel_rfl
theorem pl3 : Plain Try.prog 3 := plain_int Try.underlying3
theorem pl9 : Plain Try.prog 9 := plain_string Try.underlying9
theorem pl22 : Plain Try.prog 22 := plain_slice Try.underlying22
theorem pl23 : Plain Try.prog 23 := plain_slice Try.underlying23
theorem sz9 (w : World) : (sizeOf 9).run Try.prog w = .ok 1 w := by kernel_rfl
theorem sz26 (w : World) : (sizeOf 26).run Try.prog w = .ok 2 w := by kernel_rfl
set_option maxRecDepth 100000 in
set_option maxHeartbeats 1000000 in
theorem copyS_con (B : Nat) (A : Option Addr) (n c : Nat) (xs : List ByteArray) (hn : n ≤ 1000000000000) (S : World → Prop) (hBS : ∀ w, S w → B ≤ w.heap.size) (hC : ∀ w, S w → Kd.C Kd.string w A n xs) : Con Try.prog 42 [.slice A n c] S [] (fun v : Value => v) (fun _ => True) (fun v => [Row B Kd.string 9 v xs]) := by
 refine Con.of_none fun w hS => ?_
 have hs : Sep w (fun _ => False) [] := trivial
 have hB := hBS w hS
 have hlen := (C_lenm (hC w hS)).1
 refine enter (args := [.slice A n c]) Try.func42 rfl rfl rfl hs ?_
 refine GC.seq ?_
 refine GC.region ?_
 refine GL.gives rfl rfl rfl (Gives.assign rfl rfl) ?_
 refine GL.nil ?_
 refine GQ.thenN ?_
 refine GC.seq ?_
 refine GC.region ?_
 refine GL.gives rfl rfl rfl (Gives.move rfl rfl) ?_
 refine GL.turn [] rfl (Turns.nilRow (B := B) (e := 9) Kd.string) ?_
 refine GL.does [0] rfl rfl rfl rfl (Does.appends (kd := Kd.string) (Bs hB) rfl rfl rfl Try.underlying23 in9 rfl (by decide) (by decide) flat_string (fun w' hs' => Kd.C_below (hC w hS) hs'.below) (by simp; omega)) fun v _ => ?_
 refine GL.gives rfl rfl rfl (Gives.assign rfl rfl) ?_
 refine GL.nil ?_
 refine GQ.thenN ?_
 refine GC.ret ?_
 refine GQ.ret1 (.inl rfl) rfl rfl ?_
 intro w' hs
 exact ⟨v, rfl, trivial, hs⟩

set_option maxRecDepth 100000 in
set_option maxHeartbeats 1000000 in
theorem copyV_con (B : Nat) (A : Option Addr) (n c : Nat) (xs : List VT) (hn : n ≤ 1000000000000) (S : World → Prop) (hBS : ∀ w, S w → B ≤ w.heap.size) (hC : ∀ w, S w → Kd.C kV w A n xs) : Con Try.prog 43 [.slice A n c] S [] (fun v : Value => v) (fun _ => True) (fun v => [Row B kV 26 v xs]) := by
 refine Con.of_none fun w hS => ?_
 have hs : Sep w (fun _ => False) [] := trivial
 have hB := hBS w hS
 have hlen := (C_lenm (hC w hS)).1
 refine enter (args := [.slice A n c]) Try.func43 rfl rfl rfl hs ?_
 refine GC.seq ?_
 refine GC.region ?_
 refine GL.gives rfl rfl rfl (Gives.assign rfl rfl) ?_
 refine GL.nil ?_
 refine GQ.thenN ?_
 refine GC.seq ?_
 refine GC.region ?_
 refine GL.gives rfl rfl rfl (Gives.move rfl rfl) ?_
 refine GL.turn [] rfl (Turns.nilRow (B := B) (e := 26) kV) ?_
 refine GL.does [0] rfl rfl rfl rfl (Does.appends (kd := kV) (Bs hB) rfl rfl rfl Try.underlying22 in26 rfl (by decide) (by decide) kV_flat (fun w' hs' => Kd.C_below (hC w hS) hs'.below) (by simp; omega)) fun v _ => ?_
 refine GL.gives rfl rfl rfl (Gives.assign rfl rfl) ?_
 refine GL.nil ?_
 refine GQ.thenN ?_
 refine GC.ret ?_
 refine GQ.ret1 (.inl rfl) rfl rfl ?_
 intro w' hs
 exact ⟨v, rfl, trivial, hs⟩

set_option maxRecDepth 100000 in
set_option maxHeartbeats 1000000 in
theorem place_con (B g : Nat) (vl al : Value) (m : T) (hm : m.Ok) (s : ByteArray) (S : World → Prop) (hBS : ∀ w, S w → B ≤ w.heap.size) :
    Con Try.prog 32 [.pointer (some ⟨g, 0, none⟩), .string s] S (TK B g vl al m) (fun i : Int => .tuple #[.int .i64 i, .bool (decide (i < m.V.length ∧ (rdOf zV m.V i).1 = s))]) (fun i => At m.V s i) (fun _ => TK B g vl al m) := by
 intro w F0 hS hs hlt
 have hB := hBS w hS
 obtain ⟨Av, cv, hvl, hcv⟩ := row_slice (i := 1) (B := B) (e := 26) (kd := kV) (v := vl) (xs := m.V) rfl w (St.start hs)
 obtain ⟨Aa, ca, hal, hca⟩ := row_slice (i := 2) (B := B) (e := 9) (kd := Kd.string) (v := al) (xs := m.A) rfl w (St.start hs)
 have hAa : 0 < m.A.length → ∃ g o, Aa = some ⟨g, o, none⟩ := fun h0 => by
     obtain ⟨g1, c1, h1⟩ := row_form (i := 2) (B := B) (e := 9) (kd := Kd.string) (v := al) (xs := m.A) rfl h0 w (St.start hs)
     rw [hal] at h1
     injection h1 with h2
     exact ⟨g1, 0, h2⟩
 subst hvl hal
 have hnV := hm.nV
 have hnA := hm.nA
 have hst := hm.st
 refine enter (args := [.pointer (some ⟨g, 0, none⟩), .string s]) Try.func32 rfl rfl rfl hs ?_
 refine GC.seq ?_
 refine GC.region ?_
 refine GL.gives rfl rfl rfl (Gives.assign rfl rfl) ?_
 refine GL.gives rfl rfl rfl (Gives.assign rfl rfl) ?_
 refine GL.nil ?_
 refine GQ.thenN ?_
 refine GC.seq ?_
 refine GC.region ?_
 refine GL.gives rfl rfl rfl (Gives.move rfl rfl) ?_
 refine GL.gives rfl rfl rfl (Gives.nilCheck rfl rfl) ?_
 refine GL.gives rfl rfl rfl (Gives.fieldAddr (q := ⟨g, 0, none⟩) rfl rfl (fun _ => by kernel_rfl)) ?_
 refine GL.gives rfl rfl rfl (Gives.loadc (v := .slice Av m.V.length cv) 0 rfl rfl pl22 rfl rfl) ?_
 refine GL.gives rfl rfl rfl (Gives.move rfl rfl) ?_
 refine GL.does [] rfl rfl rfl rfl (Does.call rfl rfl Try.func50 rfl rfl (search_con Av m.V.length cv m.V s hm.up (by omega) _ (row_C (i := 1) rfl))) fun i hi => ?_
 refine GL.gives rfl rfl rfl (Gives.extract (v := .int .i64 i) rfl rfl rfl) ?_
 refine GL.gives rfl rfl rfl (Gives.extract (v := .bool (decide (i < m.V.length ∧ (rdOf zV m.V i).1 = s))) rfl rfl rfl) ?_
 refine GL.gives rfl rfl rfl (Gives.assign rfl rfl) ?_
 refine GL.gives rfl rfl rfl (Gives.assign rfl rfl) ?_
 refine GL.nil ?_
 refine GQ.thenN ?_
 refine GC.ret ?_
 refine GQ.ret2 (.inl rfl) rfl rfl rfl ?_
 intro w hs
 exact ⟨i, rfl, hi, hs⟩

set_option maxRecDepth 100000 in
set_option maxHeartbeats 1000000 in
theorem get_nobody (s : ByteArray) (S : World → Prop) : Con Try.prog 13 [.pointer none, .string s] S [] (fun _ : Unit => .tuple #[.string e0, .bool false]) (fun _ => True) (fun _ => []) := by
 intro w F0 hS hs hlt
 refine enter (args := [.pointer none, .string s]) Try.func13 rfl rfl rfl hs ?_
 refine GC.seq ?_
 refine GC.region ?_
 refine GL.gives rfl rfl rfl (Gives.assign rfl rfl) ?_
 refine GL.gives rfl rfl rfl (Gives.assign rfl rfl) ?_
 refine GL.nil ?_
 refine GQ.thenN ?_
 refine GC.seq ?_
 refine GC.seq ?_
 refine GC.region ?_
 refine GL.gives rfl rfl rfl (Gives.move rfl rfl) ?_
 refine GL.gives rfl rfl rfl (Gives.eqp rfl rfl rfl Try.underlying31) ?_
 refine GL.gives rfl rfl rfl (Gives.move rfl rfl) ?_
 refine GL.skip rfl rfl rfl ?_
 refine GL.skip rfl rfl rfl ?_
 refine GL.gives rfl rfl rfl (Gives.pickT rfl rfl rfl rfl) ?_
 refine GL.nil ?_
 refine GQ.thenN ?_
 refine GC.condT rfl rfl ?_
 refine GC.seq ?_
 refine GC.region ?_
 refine GL.gives rfl rfl rfl (Gives.assign rfl rfl) ?_
 refine GL.gives rfl rfl rfl (Gives.assign rfl rfl) ?_
 refine GL.nil ?_
 refine GQ.thenN ?_
 refine GC.ret ?_
 refine GQ.thenR ?_
 refine GQ.ret2 (.inl rfl) rfl rfl rfl ?_
 intro w hs
 exact ⟨(), rfl, trivial, hs⟩

theorem rowS {w0 : World} {F0 : Nat → Prop} {L R : List Atom} {B e c i mm : Nat} {p : Addr} {xs : List ByteArray} (hL : rem1 i L = some (Row B Kd.string e (.slice (some p) mm c) xs, R)) (k : Int) (h0 : 0 ≤ k) (h1 : k < mm) : ∀ w, St w0 F0 w L → w.cell? (p.add (k.toNat * 1)) = some (.string (rdOf e0 xs k)) := fun w hs => by
  obtain ⟨ad, c, h2, h3, h4, h5⟩ := (row_C hL w hs).get_ (⟨#[]⟩ : ByteArray) k h0 h1
  obtain rfl := Option.some.inj h2
  have h6 : c = [.string (rdOf ⟨#[]⟩ xs k)] := h4
  subst h6
  exact h5 0 _ rfl
theorem rowV {w0 : World} {F0 : Nat → Prop} {L R : List Atom} {B e c i mm : Nat} {p : Addr} {xs : List VT} (hL : rem1 i L = some (Row B kV e (.slice (some p) mm c) xs, R)) (k : Int) (h0 : 0 ≤ k) (h1 : k < mm) : ∀ w, St w0 F0 w L → w.cell? (p.add (k.toNat * 2)) = some (.string (rdOf zV xs k).1) ∧ w.cell? ⟨(p.add (k.toNat * 2)).block, (p.add (k.toNat * 2)).off + 1, none⟩ = some (.string (rdOf zV xs k).2) := fun w hs => by
  obtain ⟨ad, c, h2, h3, h4, h5⟩ := (row_C hL w hs).get_ zV k h0 h1
  obtain rfl := Option.some.inj h2
  have h6 := kV_encs w _ c h4
  subst h6
  have e0 := h5 0 _ rfl
  have e1 := h5 1 _ rfl
  rw [add_field _ _ 1 (by decide)] at e1
  exact ⟨e0, e1⟩
set_option maxRecDepth 100000 in
set_option maxHeartbeats 1000000 in
theorem get_con (B g : Nat) (vl al : Value) (m : T) (hm : m.Ok) (s : ByteArray) (hz : s.size ≤ 9223372036854775806) (S : World → Prop) (hBS : ∀ w, S w → B ≤ w.heap.size) :
    Con Try.prog 13 [.pointer (some ⟨g, 0, none⟩), .string s] S (TK B g vl al m) (fun _ : Unit => .tuple #[.string (m.get s).1, .bool (m.get s).2]) (fun _ => True) (fun _ => TK B g vl al m) := by
 intro w F0 hS hs hlt
 have hB := hBS w hS
 obtain ⟨Av, cv, hvl, hcv⟩ := row_slice (i := 1) (B := B) (e := 26) (kd := kV) (v := vl) (xs := m.V) rfl w (St.start hs)
 obtain ⟨Aa, ca, hal, hca⟩ := row_slice (i := 2) (B := B) (e := 9) (kd := Kd.string) (v := al) (xs := m.A) rfl w (St.start hs)
 have hAa : 0 < m.A.length → ∃ g o, Aa = some ⟨g, o, none⟩ := fun h0 => by
     obtain ⟨g1, c1, h1⟩ := row_form (i := 2) (B := B) (e := 9) (kd := Kd.string) (v := al) (xs := m.A) rfl h0 w (St.start hs)
     rw [hal] at h1
     injection h1 with h2
     exact ⟨g1, 0, h2⟩
 subst hvl hal
 have hnV := hm.nV
 have hnA := hm.nA
 have hst := hm.st
 refine enter (args := [.pointer (some ⟨g, 0, none⟩), .string s]) Try.func13 rfl rfl rfl hs ?_
 refine GC.seq ?_
 refine GC.region ?_
 refine GL.gives rfl rfl rfl (Gives.assign rfl rfl) ?_
 refine GL.gives rfl rfl rfl (Gives.assign rfl rfl) ?_
 refine GL.nil ?_
 refine GQ.thenN ?_
 refine GC.seq ?_
 refine GC.seq ?_
 refine GC.region ?_
 refine GL.gives rfl rfl rfl (Gives.move rfl rfl) ?_
 refine GL.gives rfl rfl rfl (Gives.eqp rfl rfl rfl Try.underlying31) ?_
 refine GL.gives rfl rfl rfl (Gives.move rfl rfl) ?_
 refine GL.gives rfl rfl rfl (Gives.move rfl rfl) ?_
 refine GL.gives rfl rfl rfl (Gives.eqs rfl rfl rfl) ?_
 refine GL.gives rfl rfl rfl (Gives.pickF rfl rfl rfl rfl) ?_
 refine GL.nil ?_
 refine GQ.thenN ?_
 refine GC.split (t := 15) rfl (fun h15 => ?_) (fun h15 => ?_)
 ·
   replace h15 := str_eq.1 h15
   refine GC.condT rfl rfl ?_
   refine GC.seq ?_
   refine GC.region ?_
   refine GL.gives rfl rfl rfl (Gives.assign rfl rfl) ?_
   refine GL.gives rfl rfl rfl (Gives.assign rfl rfl) ?_
   refine GL.nil ?_
   refine GQ.thenN ?_
   refine GC.ret ?_
   refine GQ.thenR ?_
   refine GQ.ret2 (.inl rfl) rfl rfl rfl ?_
   intro w hs
   refine ⟨(), ?_, trivial, hs⟩
   rw [h15, get_nil hm]
 ·
   replace h15 := str_ne h15
   refine GC.condF rfl rfl ?_
   refine GC.skip ?_
   refine GQ.thenN ?_
   refine GC.seq ?_
   refine GC.block ?_
   refine GC.seq ?_
   have hpos := size_pos h15
   refine GC.region ?_
   refine GL.gives rfl rfl rfl (Gives.move rfl rfl) ?_
   refine GL.gives rfl rfl rfl (Gives.eqs rfl rfl rfl) ?_
   refine GL.gives rfl rfl rfl (Gives.assign rfl rfl) ?_
   refine GL.nil ?_
   refine GQ.thenN ?_
   refine GC.split (t := 16) rfl (fun h16 => ?_) (fun h16 => ?_)
   ·
     replace h16 := str_eq.1 h16
     refine GC.condT rfl rfl ?_
     refine GC.seq ?_
     refine GC.region ?_
     refine GL.gives rfl rfl rfl (Gives.move rfl rfl) ?_
     refine GL.gives rfl rfl rfl (Gives.nilCheck rfl rfl) ?_
     refine GL.gives rfl rfl rfl (Gives.fieldAddr (q := ⟨g, 1, none⟩) rfl rfl (fun _ => by kernel_rfl)) ?_
     refine GL.gives rfl rfl rfl (Gives.loadc (v := .slice Aa m.A.length ca) 0 rfl rfl pl23 rfl rfl) ?_
     refine GL.gives rfl rfl rfl (Gives.len rfl rfl Try.underlying23) ?_
     refine GL.does [] rfl rfl rfl rfl (Does.call rfl rfl Try.func28 rfl rfl (text_con B ((m.A.length : Nat) : Int) (by omega) _ (Bs hB))) fun _ _ => ?_
     refine GL.gives rfl rfl rfl (Gives.assign rfl rfl) ?_
     refine GL.gives rfl rfl rfl (Gives.assign rfl rfl) ?_
     refine GL.nil ?_
     refine GQ.thenN ?_
     refine GC.ret ?_
     refine GQ.blkR ?_
     refine GQ.thenR ?_
     refine GQ.ret2 (.inl rfl) rfl rfl rfl ?_
     intro w hs
     refine ⟨(), ?_, trivial, hs.take (is := [0, 0, 0]) rfl⟩
     rw [get_count h16]
   ·
     replace h16 := str_ne h16
     refine GC.condF rfl rfl ?_
     refine GC.seq ?_
     refine GC.region ?_
     refine GL.gives rfl rfl rfl (Gives.move rfl rfl) ?_
     refine GL.gives rfl rfl rfl (Gives.eqs rfl rfl rfl) ?_
     refine GL.gives rfl rfl rfl (Gives.assign rfl rfl) ?_
     refine GL.nil ?_
     refine GQ.thenN ?_
     refine GC.split (t := 25) rfl (fun h25 => ?_) (fun h25 => ?_)
     ·
       replace h25 := str_eq.1 h25
       refine GC.condT rfl rfl ?_
       refine GC.seq ?_
       refine GC.region ?_
       refine GL.gives rfl rfl rfl (Gives.move rfl rfl) ?_
       refine GL.gives rfl rfl rfl (Gives.nilCheck rfl rfl) ?_
       refine GL.gives rfl rfl rfl (Gives.fieldAddr (q := ⟨g, 2, none⟩) rfl rfl (fun _ => by kernel_rfl)) ?_
       refine GL.gives rfl rfl rfl (Gives.loadc (v := .int .i64 m.st) 0 rfl rfl pl3 rfl rfl) ?_
       refine GL.does [] rfl rfl rfl rfl (Does.call rfl rfl Try.func28 rfl rfl (text_con B m.st (by omega) _ (Bs hB))) fun _ _ => ?_
       refine GL.gives rfl rfl rfl (Gives.assign rfl rfl) ?_
       refine GL.gives rfl rfl rfl (Gives.assign rfl rfl) ?_
       refine GL.nil ?_
       refine GQ.thenN ?_
       refine GC.ret ?_
       refine GQ.blkR ?_
       refine GQ.thenR ?_
       refine GQ.ret2 (.inl rfl) rfl rfl rfl ?_
       intro w hs
       refine ⟨(), ?_, trivial, hs.take (is := [0, 0, 0]) rfl⟩
       rw [get_status h25]
     ·
       replace h25 := str_ne h25
       refine GC.condF rfl rfl ?_
       refine GC.seq ?_
       refine GC.seq ?_
       refine GC.region ?_
       refine GL.gives rfl rfl rfl (Gives.move rfl rfl) ?_
       refine GL.gives rfl rfl rfl (Gives.eqs rfl rfl rfl) ?_
       refine GL.gives rfl rfl rfl (Gives.assign rfl rfl) ?_
       refine GL.nil ?_
       refine GQ.thenN ?_
       refine GC.split (t := 33) rfl (fun h33 => ?_) (fun h33 => ?_)
       ·
         replace h33 := str_eq.1 h33
         refine GC.condT rfl rfl ?_
         refine GC.skip ?_
         refine GQ.thenN ?_
         refine GC.condT rfl rfl ?_
         refine GC.seq ?_
         refine GC.draw (fun w => St _ _ w _) [] #[false, false, false, false, false, false, false, false, false, false, false, false, false] mixed_ rfl rfl (fun _ h => h) ?_
         refine GA.pure 0 #[true, false, false, false, false, false, false, false, false, false, false, false, false] (by repeat (first | exact PanicOk.body | refine PanicOk.then ?_ | refine PanicOk.block ?_)) rfl rfl (by kernel_rfl) rfl rfl (Gives.move rfl rfl) ?_
         refine GA.pure 1 #[true, true, false, false, false, false, false, false, false, false, false, false, false] (by repeat (first | exact PanicOk.body | refine PanicOk.then ?_ | refine PanicOk.block ?_)) rfl rfl (by kernel_rfl) rfl rfl (Gives.nilCheck rfl rfl) ?_
         refine GA.pure 2 #[true, true, true, false, false, false, false, false, false, false, false, false, false] (by repeat (first | exact PanicOk.body | refine PanicOk.then ?_ | refine PanicOk.block ?_)) rfl rfl (by kernel_rfl) rfl rfl (Gives.fieldAddr (q := ⟨g, 1, none⟩) rfl rfl (fun _ => by kernel_rfl)) ?_
         refine GA.take 3 #[true, true, true, true, false, false, false, false, false, false, false, false, false] (by repeat (first | exact PanicOk.body | refine PanicOk.then ?_ | refine PanicOk.block ?_)) rfl rfl (by kernel_rfl) rfl rfl (fun _ h => h) (Gives.loadc (v := .slice Aa m.A.length ca) 0 rfl rfl pl23 rfl rfl) ?_
         refine GA.pure 5 #[true, true, true, true, false, true, false, false, false, false, false, false, false] (by repeat (first | exact PanicOk.body | refine PanicOk.then ?_ | refine PanicOk.block ?_)) rfl rfl (by kernel_rfl) rfl rfl (Gives.move rfl rfl) ?_
         refine GA.pure 6 #[true, true, true, true, false, true, true, false, false, false, false, false, false] (by repeat (first | exact PanicOk.body | refine PanicOk.then ?_ | refine PanicOk.block ?_)) rfl rfl (by kernel_rfl) rfl rfl (Gives.nilCheck rfl rfl) ?_
         refine GA.pure 7 #[true, true, true, true, false, true, true, true, false, false, false, false, false] (by repeat (first | exact PanicOk.body | refine PanicOk.then ?_ | refine PanicOk.block ?_)) rfl rfl (by kernel_rfl) rfl rfl (Gives.fieldAddr (q := ⟨g, 1, none⟩) rfl rfl (fun _ => by kernel_rfl)) ?_
         refine GA.take 8 #[true, true, true, true, false, true, true, true, true, false, false, false, false] (by repeat (first | exact PanicOk.body | refine PanicOk.then ?_ | refine PanicOk.block ?_)) rfl rfl (by kernel_rfl) rfl rfl (fun _ h => h) (Gives.loadc (v := .slice Aa m.A.length ca) 0 rfl rfl pl23 rfl rfl) ?_
         refine GA.pure 9 #[true, true, true, true, false, true, true, true, true, true, false, false, false] (by repeat (first | exact PanicOk.body | refine PanicOk.then ?_ | refine PanicOk.block ?_)) rfl rfl (by kernel_rfl) rfl rfl (Gives.len rfl rfl Try.underlying23) ?_
         refine GA.pure 10 #[true, true, true, true, false, true, true, true, true, true, true, false, false] (by repeat (first | exact PanicOk.body | refine PanicOk.then ?_ | refine PanicOk.block ?_)) rfl rfl (by kernel_rfl) rfl rfl (Gives.gtr rfl rfl rfl) ?_
         refine GA.one 4 #[true, true, true, true, true, true, true, true, true, true, true, false, false] [] rfl rfl (by kernel_rfl) (by decide) rfl rfl rfl (Does.call rfl rfl Try.func29 rfl rfl (join_con Aa m.A.length ca m.A hnA hm.lA hca _ (row_C (i := 2) rfl) hAa)) (fun _ _ _ h => h) fun _ _ => ?_
         refine GA.pure 11 #[true, true, true, true, true, true, true, true, true, true, true, true, false] (by repeat (first | exact PanicOk.body | refine PanicOk.then ?_ | refine PanicOk.block ?_)) rfl rfl (by kernel_rfl) rfl rfl (Gives.assign rfl rfl) ?_
         refine GA.pure 12 #[true, true, true, true, true, true, true, true, true, true, true, true, true] (by repeat (first | exact PanicOk.body | refine PanicOk.then ?_ | refine PanicOk.block ?_)) rfl rfl (by kernel_rfl) rfl rfl (Gives.assign rfl rfl) ?_
         refine GA.done (by kernel_rfl) ?_
         refine GQ.thenN ?_
         refine GC.ret ?_
         refine GQ.blkR ?_
         refine GQ.thenR ?_
         refine GQ.ret2 (.inl rfl) rfl rfl rfl ?_
         intro w hs
         refine ⟨(), ?_, trivial, hs.take (is := [0, 0, 0]) rfl⟩
         rw [get_all (by first | exact .inl h33 | exact .inr h33)]
         refine ret2b ?_
         exact decide_eq_decide.2 (by omega)
       ·
         have h33a := str_ne h33
         refine GC.condF rfl rfl ?_
         refine GC.region ?_
         refine GL.gives rfl rfl rfl (Gives.move rfl rfl) ?_
         refine GL.gives rfl rfl rfl (Gives.eqs rfl rfl rfl) ?_
         refine GL.gives rfl rfl rfl (Gives.assign rfl rfl) ?_
         refine GL.nil ?_
         refine GQ.thenN ?_
         refine GC.split (t := 33) rfl (fun h33 => ?_) (fun h33 => ?_)
         ·
           replace h33 := str_eq.1 h33
           refine GC.condT rfl rfl ?_
           refine GC.seq ?_
           refine GC.draw (fun w => St _ _ w _) [] #[false, false, false, false, false, false, false, false, false, false, false, false, false] mixed_ rfl rfl (fun _ h => h) ?_
           refine GA.pure 0 #[true, false, false, false, false, false, false, false, false, false, false, false, false] (by repeat (first | exact PanicOk.body | refine PanicOk.then ?_ | refine PanicOk.block ?_)) rfl rfl (by kernel_rfl) rfl rfl (Gives.move rfl rfl) ?_
           refine GA.pure 1 #[true, true, false, false, false, false, false, false, false, false, false, false, false] (by repeat (first | exact PanicOk.body | refine PanicOk.then ?_ | refine PanicOk.block ?_)) rfl rfl (by kernel_rfl) rfl rfl (Gives.nilCheck rfl rfl) ?_
           refine GA.pure 2 #[true, true, true, false, false, false, false, false, false, false, false, false, false] (by repeat (first | exact PanicOk.body | refine PanicOk.then ?_ | refine PanicOk.block ?_)) rfl rfl (by kernel_rfl) rfl rfl (Gives.fieldAddr (q := ⟨g, 1, none⟩) rfl rfl (fun _ => by kernel_rfl)) ?_
           refine GA.take 3 #[true, true, true, true, false, false, false, false, false, false, false, false, false] (by repeat (first | exact PanicOk.body | refine PanicOk.then ?_ | refine PanicOk.block ?_)) rfl rfl (by kernel_rfl) rfl rfl (fun _ h => h) (Gives.loadc (v := .slice Aa m.A.length ca) 0 rfl rfl pl23 rfl rfl) ?_
           refine GA.pure 5 #[true, true, true, true, false, true, false, false, false, false, false, false, false] (by repeat (first | exact PanicOk.body | refine PanicOk.then ?_ | refine PanicOk.block ?_)) rfl rfl (by kernel_rfl) rfl rfl (Gives.move rfl rfl) ?_
           refine GA.pure 6 #[true, true, true, true, false, true, true, false, false, false, false, false, false] (by repeat (first | exact PanicOk.body | refine PanicOk.then ?_ | refine PanicOk.block ?_)) rfl rfl (by kernel_rfl) rfl rfl (Gives.nilCheck rfl rfl) ?_
           refine GA.pure 7 #[true, true, true, true, false, true, true, true, false, false, false, false, false] (by repeat (first | exact PanicOk.body | refine PanicOk.then ?_ | refine PanicOk.block ?_)) rfl rfl (by kernel_rfl) rfl rfl (Gives.fieldAddr (q := ⟨g, 1, none⟩) rfl rfl (fun _ => by kernel_rfl)) ?_
           refine GA.take 8 #[true, true, true, true, false, true, true, true, true, false, false, false, false] (by repeat (first | exact PanicOk.body | refine PanicOk.then ?_ | refine PanicOk.block ?_)) rfl rfl (by kernel_rfl) rfl rfl (fun _ h => h) (Gives.loadc (v := .slice Aa m.A.length ca) 0 rfl rfl pl23 rfl rfl) ?_
           refine GA.pure 9 #[true, true, true, true, false, true, true, true, true, true, false, false, false] (by repeat (first | exact PanicOk.body | refine PanicOk.then ?_ | refine PanicOk.block ?_)) rfl rfl (by kernel_rfl) rfl rfl (Gives.len rfl rfl Try.underlying23) ?_
           refine GA.pure 10 #[true, true, true, true, false, true, true, true, true, true, true, false, false] (by repeat (first | exact PanicOk.body | refine PanicOk.then ?_ | refine PanicOk.block ?_)) rfl rfl (by kernel_rfl) rfl rfl (Gives.gtr rfl rfl rfl) ?_
           refine GA.one 4 #[true, true, true, true, true, true, true, true, true, true, true, false, false] [] rfl rfl (by kernel_rfl) (by decide) rfl rfl rfl (Does.call rfl rfl Try.func29 rfl rfl (join_con Aa m.A.length ca m.A hnA hm.lA hca _ (row_C (i := 2) rfl) hAa)) (fun _ _ _ h => h) fun _ _ => ?_
           refine GA.pure 11 #[true, true, true, true, true, true, true, true, true, true, true, true, false] (by repeat (first | exact PanicOk.body | refine PanicOk.then ?_ | refine PanicOk.block ?_)) rfl rfl (by kernel_rfl) rfl rfl (Gives.assign rfl rfl) ?_
           refine GA.pure 12 #[true, true, true, true, true, true, true, true, true, true, true, true, true] (by repeat (first | exact PanicOk.body | refine PanicOk.then ?_ | refine PanicOk.block ?_)) rfl rfl (by kernel_rfl) rfl rfl (Gives.assign rfl rfl) ?_
           refine GA.done (by kernel_rfl) ?_
           refine GQ.thenN ?_
           refine GC.ret ?_
           refine GQ.blkR ?_
           refine GQ.thenR ?_
           refine GQ.ret2 (.inl rfl) rfl rfl rfl ?_
           intro w hs
           refine ⟨(), ?_, trivial, hs.take (is := [0, 0, 0]) rfl⟩
           rw [get_all (by first | exact .inl h33 | exact .inr h33)]
           refine ret2b ?_
           exact decide_eq_decide.2 (by omega)
         ·
           replace h33 := str_ne h33
           refine GC.condF rfl rfl ?_
           refine GC.seq ?_
           refine GC.region ?_
           refine GL.gives rfl rfl rfl (Gives.move rfl rfl) ?_
           refine GL.gives rfl rfl rfl (Gives.index rfl rfl rfl Try.underlying9 (by omega) (by omega)) ?_
           refine GL.does [] rfl rfl rfl rfl (Does.call rfl rfl Try.func30 rfl rfl (word_Digit_con (byteAt s 0) _)) fun _ _ => ?_
           refine GL.gives rfl rfl rfl (Gives.assign rfl rfl) ?_
           refine GL.nil ?_
           refine GQ.thenN ?_
           refine GC.split (t := 49) rfl (fun h49 => ?_) (fun h49 => ?_)
           ·
             have _ := h49
             refine GC.condT rfl rfl ?_
             refine GC.seq ?_
             refine GC.region ?_
             refine GL.gives rfl rfl rfl (Gives.move rfl rfl) ?_
             refine GL.does [] rfl rfl rfl rfl (Does.call rfl rfl Try.func31 rfl rfl (decimal_con s (by omega) (by assumption) (by omega) _)) fun _ _ => ?_
             refine GL.gives rfl rfl rfl (Gives.move rfl rfl) ?_
             refine GL.gives rfl rfl rfl (Gives.extract (v := .int .i64 (rdRes s 9223372036854775807).1) rfl rfl rfl) ?_
             refine GL.gives rfl rfl rfl (Gives.extract (v := .int .i64 (rdRes s 9223372036854775807).2) rfl rfl rfl) ?_
             refine GL.gives rfl rfl rfl (Gives.assign rfl rfl) ?_
             refine GL.gives rfl rfl rfl (Gives.assign rfl rfl) ?_
             refine GL.nil ?_
             refine GQ.thenN ?_
             refine GC.seq ?_
             refine GC.seq ?_
             refine GC.region ?_
             refine GL.gives rfl rfl rfl (Gives.move rfl rfl) ?_
             refine GL.gives rfl rfl rfl (Gives.nei rfl rfl rfl) ?_
             refine GL.gives rfl rfl rfl (Gives.move rfl rfl) ?_
             refine GL.split (t := 60) rfl (fun h60 => ?_) (fun h60 => ?_)
             ·
               replace h60 := by first | exact bne_iff_ne.1 h60 | simpa using h60
               refine GL.skip rfl rfl rfl ?_
               refine GL.skip rfl rfl rfl ?_
               refine GL.gives rfl rfl rfl (Gives.pickT rfl rfl rfl rfl) ?_
               refine GL.gives rfl rfl rfl (Gives.move rfl rfl) ?_
               refine GL.skip rfl rfl rfl ?_
               refine GL.skip rfl rfl rfl ?_
               refine GL.skip rfl rfl rfl ?_
               refine GL.skip rfl rfl rfl ?_
               refine GL.skip rfl rfl rfl ?_
               refine GL.skip rfl rfl rfl ?_
               refine GL.skip rfl rfl rfl ?_
               refine GL.gives rfl rfl rfl (Gives.pickT rfl rfl rfl rfl) ?_
               refine GL.nil ?_
               refine GQ.thenN ?_
               refine GC.condT rfl rfl ?_
               refine GC.seq ?_
               refine GC.region ?_
               refine GL.gives rfl rfl rfl (Gives.assign rfl rfl) ?_
               refine GL.gives rfl rfl rfl (Gives.assign rfl rfl) ?_
               refine GL.nil ?_
               refine GQ.thenN ?_
               refine GC.ret ?_
               refine GQ.thenR ?_
               refine GQ.blkR ?_
               refine GQ.thenR ?_
               refine GQ.ret2 (.inl rfl) rfl rfl rfl ?_
               intro w hs
               refine ⟨(), ?_, trivial, hs.take (is := [0, 0, 0]) rfl⟩
               rw [get_dig h16 h25 h33a h33 ⟨hpos, h49⟩, if_neg (by omega)]
             ·
               replace h60 := by first | exact eq_of_bne_false h60 | simpa using h60
               refine GL.gives rfl rfl rfl (Gives.move rfl rfl) ?_
               refine GL.gives rfl rfl rfl (Gives.lss rfl rfl rfl) ?_
               refine GL.gives rfl rfl rfl (Gives.pickF rfl rfl rfl rfl) ?_
               refine GL.gives rfl rfl rfl (Gives.move rfl rfl) ?_
               refine GL.split (t := 64) rfl (fun h64 => ?_) (fun h64 => ?_)
               ·
                 replace h64 := of_decide_eq_true h64
                 refine GL.skip rfl rfl rfl ?_
                 refine GL.skip rfl rfl rfl ?_
                 refine GL.skip rfl rfl rfl ?_
                 refine GL.skip rfl rfl rfl ?_
                 refine GL.skip rfl rfl rfl ?_
                 refine GL.skip rfl rfl rfl ?_
                 refine GL.skip rfl rfl rfl ?_
                 refine GL.gives rfl rfl rfl (Gives.pickT rfl rfl rfl rfl) ?_
                 refine GL.nil ?_
                 refine GQ.thenN ?_
                 refine GC.condT rfl rfl ?_
                 refine GC.seq ?_
                 refine GC.region ?_
                 refine GL.gives rfl rfl rfl (Gives.assign rfl rfl) ?_
                 refine GL.gives rfl rfl rfl (Gives.assign rfl rfl) ?_
                 refine GL.nil ?_
                 refine GQ.thenN ?_
                 refine GC.ret ?_
                 refine GQ.thenR ?_
                 refine GQ.blkR ?_
                 refine GQ.thenR ?_
                 refine GQ.ret2 (.inl rfl) rfl rfl rfl ?_
                 intro w hs
                 refine ⟨(), ?_, trivial, hs.take (is := [0, 0, 0]) rfl⟩
                 rw [get_dig h16 h25 h33a h33 ⟨hpos, h49⟩, if_neg (by omega)]
               ·
                 replace h64 := of_decide_eq_false h64
                 refine GL.gives rfl rfl rfl (Gives.move rfl rfl) ?_
                 refine GL.gives rfl rfl rfl (Gives.move rfl rfl) ?_
                 refine GL.gives rfl rfl rfl (Gives.nilCheck rfl rfl) ?_
                 refine GL.gives rfl rfl rfl (Gives.fieldAddr (q := ⟨g, 1, none⟩) rfl rfl (fun _ => by kernel_rfl)) ?_
                 refine GL.gives rfl rfl rfl (Gives.loadc (v := .slice Aa m.A.length ca) 0 rfl rfl pl23 rfl rfl) ?_
                 refine GL.gives rfl rfl rfl (Gives.len rfl rfl Try.underlying23) ?_
                 refine GL.gives rfl rfl rfl (Gives.gtr rfl rfl rfl) ?_
                 refine GL.gives rfl rfl rfl (Gives.pickF rfl rfl rfl rfl) ?_
                 refine GL.nil ?_
                 refine GQ.thenN ?_
                 refine GC.split (t := 72) rfl (fun h72 => ?_) (fun h72 => ?_)
                 ·
                   replace h72 := of_decide_eq_true h72
                   refine GC.condT rfl rfl ?_
                   refine GC.seq ?_
                   refine GC.region ?_
                   refine GL.gives rfl rfl rfl (Gives.assign rfl rfl) ?_
                   refine GL.gives rfl rfl rfl (Gives.assign rfl rfl) ?_
                   refine GL.nil ?_
                   refine GQ.thenN ?_
                   refine GC.ret ?_
                   refine GQ.thenR ?_
                   refine GQ.blkR ?_
                   refine GQ.thenR ?_
                   refine GQ.ret2 (.inl rfl) rfl rfl rfl ?_
                   intro w hs
                   refine ⟨(), ?_, trivial, hs.take (is := [0, 0, 0]) rfl⟩
                   rw [get_dig h16 h25 h33a h33 ⟨hpos, h49⟩, if_neg (by omega)]
                 ·
                   replace h72 := of_decide_eq_false h72
                   refine GC.condF rfl rfl ?_
                   refine GC.skip ?_
                   refine GQ.thenN ?_
                   refine GC.seq ?_
                   refine GC.region ?_
                   refine GL.gives rfl rfl rfl (Gives.move rfl rfl) ?_
                   refine GL.gives rfl rfl rfl (Gives.nilCheck rfl rfl) ?_
                   refine GL.gives rfl rfl rfl (Gives.fieldAddr (q := ⟨g, 1, none⟩) rfl rfl (fun _ => by kernel_rfl)) ?_
                   refine GL.gives rfl rfl rfl (Gives.loadc (v := .slice Aa m.A.length ca) 0 rfl rfl pl23 rfl rfl) ?_
                   refine GL.gives rfl rfl rfl (Gives.move rfl rfl) ?_
                   refine GL.gives rfl rfl rfl (Gives.sub rfl rfl rfl (by omega)) ?_
                   obtain ⟨ga, oa, hAe⟩ := hAa (by omega)
                   subst hAe
                   refine GL.gives rfl rfl rfl (Gives.indexAddr (i := (rdRes s 9223372036854775807).1 - 1) rfl rfl rfl Try.underlying23 sz9 (by omega) (by omega)) ?_
                   refine GL.gives rfl rfl rfl (Gives.load rfl rfl pl9 (fun w hs => rowS (i := 2) (p := ⟨ga, oa, none⟩) (xs := m.A) rfl ((rdRes s 9223372036854775807).1 - 1) (by omega) (by omega) w hs)) ?_
                   refine GL.gives rfl rfl rfl (Gives.assign rfl rfl) ?_
                   refine GL.gives rfl rfl rfl (Gives.assign rfl rfl) ?_
                   refine GL.nil ?_
                   refine GQ.thenN ?_
                   refine GC.ret ?_
                   refine GQ.blkR ?_
                   refine GQ.thenR ?_
                   refine GQ.ret2 (.inl rfl) rfl rfl rfl ?_
                   intro w hs
                   refine ⟨(), ?_, trivial, hs.take (is := [0, 0, 0]) rfl⟩
                   rw [get_dig h16 h25 h33a h33 ⟨hpos, h49⟩, if_pos ⟨by omega, by omega, by omega⟩]
           ·
             have _ := h49
             refine GC.condF rfl rfl ?_
             refine GC.skip ?_
             refine GQ.blkN ?_
             refine GQ.thenN ?_
             refine GC.seq ?_
             refine GC.region ?_
             refine GL.gives rfl rfl rfl (Gives.move rfl rfl) ?_
             refine GL.gives rfl rfl rfl (Gives.move rfl rfl) ?_
             refine GL.does [0, 0, 0] rfl rfl rfl rfl (Does.call rfl rfl Try.func32 rfl rfl (place_con B g (.slice Av m.V.length cv) (.slice Aa m.A.length ca) m hm s _ (Bs hB))) fun i hi => ?_
             refine GL.gives rfl rfl rfl (Gives.move rfl rfl) ?_
             refine GL.gives rfl rfl rfl (Gives.extract (v := .int .i64 i) rfl rfl rfl) ?_
             refine GL.gives rfl rfl rfl (Gives.extract (v := .bool (decide (i < m.V.length ∧ (rdOf zV m.V i).1 = s))) rfl rfl rfl) ?_
             refine GL.gives rfl rfl rfl (Gives.assign rfl rfl) ?_
             refine GL.gives rfl rfl rfl (Gives.assign rfl rfl) ?_
             refine GL.nil ?_
             refine GQ.thenN ?_
             refine GC.seq ?_
             refine GC.seq ?_
             refine GC.region ?_
             refine GL.gives rfl rfl rfl (Gives.move rfl rfl) ?_
             refine GL.gives rfl rfl rfl (Gives.not rfl rfl) ?_
             refine GL.nil ?_
             refine GQ.thenN ?_
             refine GC.split (t := 88) rfl (fun h88 => ?_) (fun h88 => ?_)
             ·
               have _ := h88
               refine GC.condT rfl rfl ?_
               refine GC.seq ?_
               refine GC.region ?_
               refine GL.gives rfl rfl rfl (Gives.assign rfl rfl) ?_
               refine GL.gives rfl rfl rfl (Gives.assign rfl rfl) ?_
               refine GL.nil ?_
               refine GQ.thenN ?_
               refine GC.ret ?_
               refine GQ.thenR ?_
               refine GQ.ret2 (.inl rfl) rfl rfl rfl ?_
               intro w hs
               refine ⟨(), ?_, trivial, hs⟩
               have hno : ¬ (i < m.V.length ∧ (rdOf zV m.V i).1 = s) := by
                 intro h
                 rw [decide_eq_true h] at h88
                 cases h88
               rw [get_var h16 h25 h33a h33 (by simp [h49]), lookV_none (at_none hi hm.up hno)]
             ·
               have _ := h88
               refine GC.condF rfl rfl ?_
               refine GC.skip ?_
               refine GQ.thenN ?_
               refine GC.seq ?_
               refine GC.region ?_
               refine GL.gives rfl rfl rfl (Gives.move rfl rfl) ?_
               refine GL.gives rfl rfl rfl (Gives.nilCheck rfl rfl) ?_
               refine GL.gives rfl rfl rfl (Gives.fieldAddr (q := ⟨g, 0, none⟩) rfl rfl (fun _ => by kernel_rfl)) ?_
               refine GL.gives rfl rfl rfl (Gives.loadc (v := .slice Av m.V.length cv) 0 rfl rfl pl22 rfl rfl) ?_
               refine GL.gives rfl rfl rfl (Gives.move rfl rfl) ?_
               have hyes : i < m.V.length ∧ (rdOf zV m.V i).1 = s := by
                   refine Classical.byContradiction fun h => ?_
                   rw [decide_eq_false h] at h88
                   cases h88
               have hi0 := hi.bd.1
               refine GL.know (row_some (i := 1) rfl (by omega)) fun ⟨p, hp⟩ => ?_
               subst hp
               refine GL.gives rfl rfl rfl (Gives.indexAddr (i := i) rfl rfl rfl Try.underlying22 sz26 (by omega) hyes.1) ?_
               refine GL.gives rfl rfl rfl (Gives.fieldAddr (q := ⟨(p.add (i.toNat * 2)).block, (p.add (i.toNat * 2)).off + 1, none⟩) rfl rfl (fun _ => by kernel_rfl)) ?_
               refine GL.gives rfl rfl rfl (Gives.load rfl rfl pl9 (fun w hs => (rowV (i := 1) (p := p) (xs := m.V) rfl i hi0 hyes.1 w hs).2)) ?_
               refine GL.gives rfl rfl rfl (Gives.assign rfl rfl) ?_
               refine GL.gives rfl rfl rfl (Gives.assign rfl rfl) ?_
               refine GL.nil ?_
               refine GQ.thenN ?_
               refine GC.ret ?_
               refine GQ.ret2 (.inl rfl) rfl rfl rfl ?_
               intro w hs
               refine ⟨(), ?_, trivial, hs⟩
               rw [get_var h16 h25 h33a h33 (by simp [h49]), lookV_some hm.up hi0 hyes.1 hyes.2]

end Go.Proofs.Yteckdfgllipilaa.VT
