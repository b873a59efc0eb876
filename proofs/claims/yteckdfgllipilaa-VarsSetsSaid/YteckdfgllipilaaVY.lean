/- Tables made. -/
import Derived.Test.YteckdfgllipilaaVX
namespace Go.Proofs.Yteckdfgllipilaa.VY
open Go.RowKit Go.Proofs.YteckdfgllipilaaW.PrintWords Go.Proofs.YteckdfgllipilaaW.PrintLast Go.Proofs.YteckdfgllipilaaS Go.Proofs.Yteckdfgllipilaa.NU Go.Proofs.Yteckdfgllipilaa.NV Go.Proofs.Yteckdfgllipilaa.NW Go.Proofs.Yteckdfgllipilaa.VP Go.Proofs.Yteckdfgllipilaa.VT Go.Proofs.Yteckdfgllipilaa.VU Go.Proofs.Yteckdfgllipilaa.VI Go.Proofs.Yteckdfgllipilaa.VD Go.Proofs.Yteckdfgllipilaa.VS Go.Proofs.Yteckdfgllipilaa.VR Go.Proofs.Yteckdfgllipilaa.VN Go.Proofs.Yteckdfgllipilaa.VQ Go.Proofs.Yteckdfgllipilaa.VX

def t00 : T := ⟨[], [], 0⟩
theorem t00_ok : t00.Ok := ⟨List.Pairwise.nil, fun x h => (by cases h), by simp [t00], by simp [t00], fun a h => (by cases h), by simp [t00]⟩
noncomputable def setAll : T → List VT → T × Int
  | m, [] => (m, 0)
  | m, x :: l => if (tSet m x.1 x.2).2 = 0 then setAll (tSet m x.1 x.2).1 l else tSet m x.1 x.2
noncomputable def newT (l : List VT) (xs : List ByteArray) : Option T × Int := if (setAll t00 l).2 ≠ 0 then (none, (setAll t00 l).2) else if (tArgs (setAll t00 l).1 xs).2 ≠ 0 then (none, (tArgs (setAll t00 l).1 xs).2) else (some (tArgs (setAll t00 l).1 xs).1, 0)
theorem setAll_append : ∀ (l r : List VT) (m : T), setAll m (l ++ r) = if (setAll m l).2 = 0 then setAll (setAll m l).1 r else setAll m l
  | [], r, m => by simp [setAll]
  | x :: l, r, m => by
    rw [List.cons_append, setAll, setAll]
    split
    · exact setAll_append l r _
    · rename_i h; first | rfl | rw [if_neg h]
theorem setAll_ok : ∀ (l : List VT) (m : T), m.Ok → (setAll m l).1.Ok
  | [], m, h => h
  | x :: l, m, h => by
    rw [setAll]
    split
    · exact setAll_ok l _ (set_ok h _ _)
    · exact set_ok h _ _
theorem setAll_st : ∀ (l : List VT) (m : T), (setAll m l).1.st = m.st ∧ (setAll m l).1.A = m.A
  | [], m => ⟨rfl, rfl⟩
  | x :: l, m => by
    have h : (tSet m x.1 x.2).1.st = m.st ∧ (tSet m x.1 x.2).1.A = m.A := by
      unfold tSet
      split
      · exact ⟨rfl, rfl⟩
      split
      · exact ⟨rfl, rfl⟩
      split <;> exact ⟨rfl, rfl⟩
    rw [setAll]
    split
    · have := setAll_st l (tSet m x.1 x.2).1
      exact ⟨this.1.trans h.1, this.2.trans h.2⟩
    · exact h
def Ran (l : List VT) (k : Int) (m : T) : Prop := setAll t00 (l.take k.toNat) = (m, 0)
theorem ran_ok {l : List VT} {k : Int} {m : T} (h : Ran l k m) : m.Ok := by
  have := setAll_ok (l.take k.toNat) t00 t00_ok
  rw [h] at this
  exact this
theorem ran_st {l : List VT} {k : Int} {m : T} (h : Ran l k m) : m.st = 0 ∧ m.A = [] := by
  have := setAll_st (l.take k.toNat) t00
  rw [h] at this
  exact this
theorem ran_step {l : List VT} {k : Int} {m : T} (h : Ran l k m) (h0 : 0 ≤ k) (h1 : k < l.length) : setAll t00 (l.take (k + 1).toNat) = if (tSet m (rdOf zV l k).1 (rdOf zV l k).2).2 = 0 then ((tSet m (rdOf zV l k).1 (rdOf zV l k).2).1, 0) else tSet m (rdOf zV l k).1 (rdOf zV l k).2 := by
  rw [take_next h0 h1, setAll_append, h]
  simp only [if_true, setAll]
theorem ran_next {l : List VT} {k : Int} {m : T} (h : Ran l k m) (h0 : 0 ≤ k) (h1 : k < l.length) (he : (tSet m (rdOf zV l k).1 (rdOf zV l k).2).2 = 0) : Ran l (k + 1) (tSet m (rdOf zV l k).1 (rdOf zV l k).2).1 := (ran_step h h0 h1).trans (if_pos he)
theorem ran_stop {l : List VT} {k : Int} {m : T} (h : Ran l k m) (h0 : 0 ≤ k) (h1 : k < l.length) (he : (tSet m (rdOf zV l k).1 (rdOf zV l k).2).2 ≠ 0) (xs : List ByteArray) : newT l xs = (none, (tSet m (rdOf zV l k).1 (rdOf zV l k).2).2) := by
  have h2 := (ran_step h h0 h1).trans (if_neg he)
  have h3 : setAll t00 l = tSet m (rdOf zV l k).1 (rdOf zV l k).2 := by
    have := setAll_append (l.take (k + 1).toNat) (l.drop (k + 1).toNat) t00
    rw [List.take_append_drop, h2, if_neg he] at this
    exact this
  unfold newT
  rw [h3, if_pos he]
theorem ran_end {l : List VT} {m : T} (h : Ran l l.length m) (xs : List ByteArray) : newT l xs = if (tArgs m xs).2 ≠ 0 then (none, (tArgs m xs).2) else (some (tArgs m xs).1, 0) := by
  have h2 : setAll t00 l = (m, 0) := by
    have := h
    unfold Ran at this
    rwa [Int.toNat_natCast, List.take_length] at this
  unfold newT
  rw [h2, if_neg (by simp)]
theorem newT_ok {l : List VT} {xs : List ByteArray} {m : T} (h : newT l xs = (some m, 0)) : m.Ok := by
  unfold newT at h
  split at h
  · cases h
  · split at h
    · cases h
    · injection h with h1 _
      injection h1 with h1
      subst h1
      exact setArgs_ok (setAll_ok l t00 t00_ok) xs
abbrev NV := Option (Nat × Value × Value)
def nval (s : NV) (e : Int) : Value := match s with
  | none => .tuple #[.pointer none, .int .i64 e]
  | some t => .tuple #[.pointer (some ⟨t.1, 0, none⟩), .int .i64 0]
def nok (s : NV) (r : Option T × Int) : Prop := match s with
  | none => r.1 = none ∧ r.2 ≠ 0
  | some _ => ∃ m, r = (some m, 0)
def npost (B : Nat) (s : NV) (r : Option T × Int) : List Atom := match s with
  | none => []
  | some t => TK B t.1 t.2.1 t.2.2 (r.1.getD t00)

theorem mixed_ : Try.prog.follows .mixedOrders = true := by kernel_rfl
theorem ag26 (w : World) : (isAgg 26).run Try.prog w = .ok true w := by kernel_rfl
theorem ag36 (w : World) : (isAgg 36).run Try.prog w = .ok true w := by kernel_rfl
theorem al26 (w : World) : (Instr.alloc 26 true (.tuple #[])).run Try.prog w = .ok (.pointer (some ⟨w.heap.size, 0, none⟩)) (w.alloc (.cells #[.string (⟨#[]⟩ : ByteArray), .string (⟨#[]⟩ : ByteArray)] 26 (0, 0))) := by kernel_rfl
theorem al36 (w : World) : (Instr.alloc 36 true (.tuple #[])).run Try.prog w = .ok (.pointer (some ⟨w.heap.size, 0, none⟩)) (w.alloc (.cells #[.slice none 0 0, .slice none 0 0, .int .i64 0] 36 (0, 0))) := by kernel_rfl
theorem pl9 : Plain Try.prog 9 := plain_string Try.underlying9
theorem sz26 (w : World) : (sizeOf 26).run Try.prog w = .ok 2 w := by kernel_rfl
theorem sz36 (w : World) : (sizeOf 36).run Try.prog w = .ok 3 w := by kernel_rfl
set_option maxRecDepth 100000 in
set_option maxHeartbeats 1000000 in
theorem new_gen (B : Nat) (X : Atom) (A1 A2 : Option Addr) (n1 c1 n2 c2 : Nat) (l : List VT) (xs : List ByteArray) (hX1 : Shows X kV A1 n1 l) (hX2 : Shows X Kd.string A2 n2 xs) (S : World → Prop) (hBS : ∀ w, S w → B ≤ w.heap.size) :
    Con Try.prog 8 [.slice A1 n1 c1, .slice A2 n2 c2] S [X] (fun s : NV => nval s (newT l xs).2) (fun s => nok s (newT l xs)) (fun s => npost B s (newT l xs) ++ [X]) := by
 intro w F0 hS hs hlt
 have hB := hBS w hS
 have hCw := shows_C (i := 0) hX1 rfl w (St.start hs)
 have hlen := (C_lenm hCw).1
 have hn63 := (C_lenm hCw).2
 refine enter (args := [.slice A1 n1 c1, .slice A2 n2 c2]) Try.func8 rfl rfl rfl hs ?_
 refine GC.seq ?_
 refine GC.region ?_
 refine GL.gives rfl rfl rfl (Gives.assign rfl rfl) ?_
 refine GL.gives rfl rfl rfl (Gives.assign rfl rfl) ?_
 refine GL.nil ?_
 refine GQ.thenN ?_
 refine GC.seq ?_
 refine GC.region ?_
 refine GL.gives rfl rfl rfl (Gives.build (v := .agg #[.slice none 0 0, .slice none 0 0, .int .i64 0]) rfl rfl (fun _ => by kernel_rfl)) ?_
 refine GL.does [] rfl rfl rfl rfl (Does.box (cs := #[.slice none 0 0, .slice none 0 0, .int .i64 0]) (Bs hB) rfl rfl rfl) fun g hg => ?_
 refine GL.gives rfl rfl rfl (Gives.assign rfl rfl) ?_
 refine GL.nil ?_
 refine GQ.thenN ?_
 refine GC.seq ?_
 refine GC.seq ?_
 refine GC.region ?_
 refine GL.gives rfl rfl rfl (Gives.move rfl rfl) ?_
 refine GL.gives rfl rfl rfl (Gives.len rfl rfl Try.underlying22) ?_
 refine GL.gives rfl rfl rfl (Gives.move rfl rfl) ?_
 refine GL.nil ?_
 refine GQ.thenN ?_
 refine GC.block ?_
 refine GC.turn [] rfl (Turns.nilRow (B := B) (e := 26) kV) ?_
 refine GC.turn [] rfl (Turns.nilRow (B := B) (e := 9) Kd.string) ?_
 refine GC.loop (σ := Int × T × Value) (fun s => [(1, .slice A2 n2 c2), (6, .pointer (some ⟨g, 0, none⟩)), (13, .slice A1 n1 c1), (14, .int .i64 ((n1 : Nat) : Int)), (15, .int .i64 s.1)]) (fun s => TK B g s.2.2 (.slice none 0 0) s.2.1 ++ [X]) (fun s => (0 ≤ s.1 ∧ s.1 ≤ n1) ∧ Ran l s.1 s.2.1) (fun s => (n1 - s.1).toNat) (0, t00, .slice none 0 0) [2, 1, 0, 0] ⟨⟨by simp, by simp⟩, rfl⟩ ⟨rfl, rfl, rfl, rfl, rfl, trivial⟩ rfl ?_
 rintro ⟨k, m, vl⟩ ⟨⟨hk0, hk1⟩, hr⟩
 dsimp only at hk0 hk1 hr ⊢
 have hm := ran_ok hr
 refine GC.norm (L' := [Cells g #[vl, .slice none 0 0, .int .i64 m.st] 57, Row B kV 26 vl m.V, Row B Kd.string 9 (.slice none 0 0) m.A, X]) rfl ?_
 refine GC.seq ?_
 refine GC.region ?_
 refine GL.gives rfl rfl rfl (Gives.lss rfl rfl rfl) ?_
 refine GL.nil ?_
 refine GQ.thenN ?_
 refine GC.seq ?_
 refine GC.split (t := 16) rfl (fun h16 => ?_) (fun h16 => ?_)
 ·
   replace h16 := of_decide_eq_true h16
   refine GC.condT rfl rfl ?_
   refine GC.skip ?_
   refine GQ.thenN ?_
   refine GC.seq ?_
   refine GC.block ?_
   refine GC.seq ?_
   refine GC.region ?_
   obtain ⟨p, hp⟩ := C_some hCw (by omega)
   subst hp
   refine GL.gives rfl rfl rfl (Gives.indexAddr (i := k) rfl rfl rfl Try.underlying22 sz26 (by omega) (by omega)) ?_
   refine GL.gives rfl rfl rfl (show Gives _ _ _ _ _ (.agg #[.string (rdOf zV l k).1, .string (rdOf zV l k).2]) from Gives.loadRow (kd := kV) (p := p) (m := n1) (i := k) zV kV_encs rfl rfl ag26 sz26 (shows_C (i := 3) hX1 rfl) (by omega) (by omega)) ?_
   refine GL.does [] rfl rfl rfl rfl (Does.alloc (Bs hB) rfl al26) fun gx hgx => ?_
   refine GL.does0 [0] rfl rfl rfl (Does.storeb rfl rfl rfl sz26 (by first | (simp [Value.oneCell']; done) | (simp [one_int, one_bool, one_string, one_slice, one_pointer, *]; done)) rfl) fun _ _ => ?_
   refine GL.nil ?_
   refine GQ.thenN ?_
   refine GC.seq ?_
   refine GC.region ?_
   refine GL.gives rfl rfl rfl (Gives.move rfl rfl) ?_
   refine GL.gives rfl rfl rfl (Gives.fieldAddr (q := ⟨gx, 0, none⟩) rfl rfl (fun _ => by kernel_rfl)) ?_
   refine GL.gives rfl rfl rfl (Gives.loadc (v := .string (rdOf zV l k).1) 0 rfl rfl pl9 rfl rfl) ?_
   refine GL.gives rfl rfl rfl (Gives.fieldAddr (q := ⟨gx, 1, none⟩) rfl rfl (fun _ => by kernel_rfl)) ?_
   refine GL.gives rfl rfl rfl (Gives.loadc (v := .string (rdOf zV l k).2) 0 rfl rfl pl9 rfl rfl) ?_
   refine GL.does [1, 1, 1] rfl rfl rfl rfl (Does.call rfl rfl Try.func15 rfl rfl (set_con B g vl (.slice none 0 0) m hm (rdOf zV l k).1 (rdOf zV l k).2 _ (Bs hB))) fun vl' _ => ?_
   refine GL.gives rfl rfl rfl (Gives.assign rfl rfl) ?_
   refine GL.nil ?_
   refine GQ.thenN ?_
   refine GC.seq ?_
   refine GC.region ?_
   refine GL.gives rfl rfl rfl (Gives.move rfl rfl) ?_
   refine GL.gives rfl rfl rfl (Gives.nei rfl rfl rfl) ?_
   refine GL.nil ?_
   refine GQ.thenN ?_
   refine GC.split (t := 26) rfl (fun h26 => ?_) (fun h26 => ?_)
   ·
     replace h26 := by first | exact bne_iff_ne.1 h26 | simpa using h26
     refine GC.condT rfl rfl ?_
     refine GC.seq ?_
     refine GC.region ?_
     refine GL.gives rfl rfl rfl (Gives.move rfl rfl) ?_
     refine GL.gives rfl rfl rfl (Gives.assign rfl rfl) ?_
     refine GL.gives rfl rfl rfl (Gives.assign rfl rfl) ?_
     refine GL.nil ?_
     refine GQ.thenN ?_
     refine GC.ret ?_
     refine GQ.blkR ?_
     refine GQ.thenR ?_
     refine GQ.thenR ?_
     refine GQ.blkR ?_
     refine GQ.thenR ?_
     refine GQ.ret2 (.inl rfl) rfl rfl rfl ?_
     intro w hs
     rw [ran_stop hr hk0 (by omega) h26 xs]
     exact ⟨none, rfl, ⟨rfl, h26⟩, hs.take (is := [4]) rfl⟩
   ·
     replace h26 := by first | exact eq_of_bne_false h26 | simpa using h26
     refine GC.condF rfl rfl ?_
     refine GC.skip ?_
     refine GQ.blkN ?_
     refine GQ.thenN ?_
     refine GC.region ?_
     refine GL.gives rfl rfl rfl (Gives.add rfl rfl rfl (by omega)) ?_
     refine GL.gives rfl rfl rfl (Gives.move rfl rfl) ?_
     refine GL.nil ?_
     refine GQ.back (k + 1, (tSet m (rdOf zV l k).1 (rdOf zV l k).2).1, vl') [0, 0, 0, 1] ⟨⟨by dsimp only; omega, by dsimp only; omega⟩, ran_next hr hk0 (by omega) h26⟩ (by dsimp only; omega) ⟨rfl, rfl, rfl, rfl, rfl, trivial⟩ rfl
 ·
   replace h16 := of_decide_eq_false h16
   refine GC.condF rfl rfl ?_
   refine GC.exit ?_
   refine GQ.thenX ?_
   refine GQ.thenX ?_
   refine GQ.blkX ?_
   refine GQ.thenN ?_
   refine GC.seq ?_
   refine GC.seq ?_
   refine GC.region ?_
   refine GL.gives rfl rfl rfl (Gives.move rfl rfl) ?_
   refine GL.gives rfl rfl rfl (Gives.move rfl rfl) ?_
   obtain rfl : k = n1 := by omega
   rw [hlen.symm] at hr
   have hend := ran_end hr xs
   refine GL.does [0, 0, 0, 0] rfl rfl rfl rfl (Does.call rfl rfl Try.func19 rfl rfl (setArgs_con B g vl (.slice none 0 0) m X A2 n2 c2 xs hX2 _ (Bs hB))) fun al' _ => ?_
   refine GL.gives rfl rfl rfl (Gives.assign rfl rfl) ?_
   refine GL.nil ?_
   refine GQ.thenN ?_
   refine GC.seq ?_
   refine GC.region ?_
   refine GL.gives rfl rfl rfl (Gives.move rfl rfl) ?_
   refine GL.gives rfl rfl rfl (Gives.nei rfl rfl rfl) ?_
   refine GL.nil ?_
   refine GQ.thenN ?_
   refine GC.split (t := 33) rfl (fun h33 => ?_) (fun h33 => ?_)
   ·
     replace h33 := by first | exact bne_iff_ne.1 h33 | simpa using h33
     refine GC.condT rfl rfl ?_
     refine GC.seq ?_
     refine GC.region ?_
     refine GL.gives rfl rfl rfl (Gives.move rfl rfl) ?_
     refine GL.gives rfl rfl rfl (Gives.assign rfl rfl) ?_
     refine GL.gives rfl rfl rfl (Gives.assign rfl rfl) ?_
     refine GL.nil ?_
     refine GQ.thenN ?_
     refine GC.ret ?_
     refine GQ.thenR ?_
     refine GQ.ret2 (.inl rfl) rfl rfl rfl ?_
     intro w hs
     rw [hend, if_pos h33]
     exact ⟨none, rfl, ⟨rfl, h33⟩, hs.take (is := [3]) rfl⟩
   ·
     replace h33 := by first | exact eq_of_bne_false h33 | simpa using h33
     refine GC.condF rfl rfl ?_
     refine GC.skip ?_
     refine GQ.thenN ?_
     refine GC.seq ?_
     refine GC.region ?_
     refine GL.gives rfl rfl rfl (Gives.move rfl rfl) ?_
     refine GL.gives rfl rfl rfl (Gives.assign rfl rfl) ?_
     refine GL.gives rfl rfl rfl (Gives.assign rfl rfl) ?_
     refine GL.nil ?_
     refine GQ.thenN ?_
     refine GC.ret ?_
     refine GQ.ret2 (.inl rfl) rfl rfl rfl ?_
     intro w hs
     rw [hend, if_neg (by simpa using h33)]
     exact ⟨some (g, vl, al'), rfl, ⟨_, rfl⟩, hs⟩

theorem new_ok (B : Nat) (X : Atom) (A1 A2 : Option Addr) (n1 c1 n2 c2 : Nat) (l : List VT) (xs : List ByteArray) (hX1 : Shows X kV A1 n1 l) (hX2 : Shows X Kd.string A2 n2 xs) (m : T) (h : newT l xs = (some m, 0)) (S : World → Prop) (hBS : ∀ w, S w → B ≤ w.heap.size) :
    Con Try.prog 8 [.slice A1 n1 c1, .slice A2 n2 c2] S [X] (fun s : Nat × Value × Value => .tuple #[.pointer (some ⟨s.1, 0, none⟩), .int .i64 0]) (fun _ => True) (fun s => TK B s.1 s.2.1 s.2.2 m ++ [X]) := fun w F hw hs hlt => by
  have := new_gen B X A1 A2 n1 c1 n2 c2 l xs hX1 hX2 S hBS w F hw hs hlt
  rw [h] at this
  refine this.mono ?_
  rintro e w' ⟨s, h1, h2, h3⟩
  match s, h1, h2, h3 with
  | none, _, h2, _ => exact absurd h2.1 (by simp)
  | some t, h1, _, h3 => exact ⟨t, h1, trivial, h3⟩
theorem new_bad (B : Nat) (X : Atom) (A1 A2 : Option Addr) (n1 c1 n2 c2 : Nat) (l : List VT) (xs : List ByteArray) (hX1 : Shows X kV A1 n1 l) (hX2 : Shows X Kd.string A2 n2 xs) (q : Int) (h : newT l xs = (none, q)) (S : World → Prop) (hBS : ∀ w, S w → B ≤ w.heap.size) :
    Con Try.prog 8 [.slice A1 n1 c1, .slice A2 n2 c2] S [X] (fun _ : Unit => .tuple #[.pointer none, .int .i64 q]) (fun _ => True) (fun _ => [X]) := fun w F hw hs hlt => by
  have := new_gen B X A1 A2 n1 c1 n2 c2 l xs hX1 hX2 S hBS w F hw hs hlt
  rw [h] at this
  refine this.mono ?_
  rintro e w' ⟨s, h1, h2, h3⟩
  match s, h1, h2, h3 with
  | none, h1, _, h3 => exact ⟨(), h1, trivial, h3⟩
  | some t, _, h2, _ =>
    obtain ⟨m, hm⟩ := h2
    cases hm
theorem newT_cases (l : List VT) (xs : List ByteArray) : (∃ m, newT l xs = (some m, 0)) ∨ ∃ q, newT l xs = (none, q) ∧ q ≠ 0 := by
  unfold newT
  split
  · rename_i h; exact .inr ⟨_, rfl, h⟩
  · split
    · rename_i h; exact .inr ⟨_, rfl, h⟩
    · exact .inl ⟨_, rfl⟩
def rval (A2 : Option Addr) (n2 c2 : Nat) (s : Option Value) (e : Int) : Value := match s with
  | none => .tuple #[.agg #[.slice none 0 0, .slice none 0 0, .int .i64 0], .int .i64 e]
  | some v => .tuple #[.agg #[v, .slice A2 n2 c2, .int .i64 0], .int .i64 0]
def rok (s : Option Value) (r : Option T × Int) : Prop := match s with
  | none => r.1 = none ∧ r.2 ≠ 0
  | some _ => ∃ m, r = (some m, 0)
def rpost (B : Nat) (s : Option Value) (r : Option T × Int) : List Atom := match s with
  | none => []
  | some v => [Row B kV 26 v (r.1.getD t00).V]
theorem tArgs_yes {m : T} {xs : List ByteArray} (h : (tArgs m xs).2 = 0) : tArgs m xs = ({ m with A := xs }, 0) := by
  unfold tArgs at h ⊢
  split
  · rename_i hc; rw [if_pos hc] at h; cases h
  · rfl
section
variable (B : Nat) (Av : Option Addr) (cv : Nat) (m : T) (hm : m.Ok) (hmA : m.A.length = 0) (S : World → Prop) (hBS : ∀ w, S w → B ≤ w.heap.size)
theorem rset_yes0 (hm : m.Ok) (hmA : m.A.length = 0) (a b : ByteArray) (hBS : ∀ w, S w → B ≤ w.heap.size) (hCV : ∀ w, S w → kV.C w Av m.V.length m.V) (hyes : (tSet m a b).2 = 0) : Con Try.prog 24 [.agg #[.slice Av m.V.length cv, .slice none 0 0, .int .i64 m.st], .string a, .string b] S [] (fun v : Value => .tuple #[.agg #[v, .slice none 0 0, .int .i64 m.st], .int .i64 0]) (fun _ => True) (fun v => [Row B kV 26 v (putV m.V a b)]) := by
  have := rset_yes B Av none cv 0 m hm a b S hBS hCV hyes
  rw [hmA] at this
  exact this
theorem rset_no0 (hm : m.Ok) (hmA : m.A.length = 0) (a b : ByteArray) (hBS : ∀ w, S w → B ≤ w.heap.size) (hCV : ∀ w, S w → kV.C w Av m.V.length m.V) (hno : (tSet m a b).2 ≠ 0) : Con Try.prog 24 [.agg #[.slice Av m.V.length cv, .slice none 0 0, .int .i64 m.st], .string a, .string b] S [] (fun _ : Unit => .tuple #[.agg #[.slice Av m.V.length cv, .slice none 0 0, .int .i64 m.st], .int .i64 (tSet m a b).2]) (fun _ => True) (fun _ => []) := by
  have := rset_no B Av none cv 0 m hm a b S hBS hCV hno
  rw [hmA] at this
  exact this
theorem rargs_yes0 (hm : m.Ok) (hmA : m.A.length = 0) (A : Option Addr) (n c : Nat) (xs : List ByteArray) (hBS : ∀ w, S w → B ≤ w.heap.size) (hC : ∀ w, S w → Kd.string.C w A n xs) (hq : (tArgs m xs).2 = 0) : Con Try.prog 25 [.agg #[.slice Av m.V.length cv, .slice none 0 0, .int .i64 m.st], .slice A n c] S [] (fun _ : Unit => .tuple #[.agg #[.slice Av m.V.length cv, .slice A n c, .int .i64 m.st], .int .i64 0]) (fun _ => True) (fun _ => []) := by
  have := rsetArgs_con B Av none cv 0 m hm A n c xs S hBS hC
  rw [hmA, if_pos hq, hq] at this
  exact this
theorem rargs_no0 (hm : m.Ok) (hmA : m.A.length = 0) (A : Option Addr) (n c : Nat) (xs : List ByteArray) (hBS : ∀ w, S w → B ≤ w.heap.size) (hC : ∀ w, S w → Kd.string.C w A n xs) (hq : (tArgs m xs).2 ≠ 0) : Con Try.prog 25 [.agg #[.slice Av m.V.length cv, .slice none 0 0, .int .i64 m.st], .slice A n c] S [] (fun _ : Unit => .tuple #[.agg #[.slice Av m.V.length cv, .slice none 0 0, .int .i64 m.st], .int .i64 (tArgs m xs).2]) (fun _ => True) (fun _ => []) := by
  have := rsetArgs_con B Av none cv 0 m hm A n c xs S hBS hC
  rw [hmA, if_neg hq] at this
  exact this
end
theorem set_st (m : T) (a b : ByteArray) : (tSet m a b).1.st = m.st := by
  unfold tSet
  split
  · rfl
  split
  · rfl
  split <;> rfl
theorem set_V {m : T} {a b : ByteArray} (h : (tSet m a b).2 = 0) : (tSet m a b).1.V = putV m.V a b := by
  unfold tSet at h ⊢
  split
  · rename_i hc; rw [if_pos hc] at h; cases h
  · rename_i hc
    rw [if_neg hc] at h
    split
    · rename_i hd; rw [if_pos hd] at h; cases h
    · rename_i hd
      rw [if_neg hd] at h
      split
      · rename_i he; rw [if_pos he] at h; cases h
      · rfl
set_option maxRecDepth 100000 in
set_option maxHeartbeats 1000000 in
theorem rnew_gen (B : Nat) (A1 A2 : Option Addr) (n1 c1 n2 c2 : Nat) (l : List VT) (xs : List ByteArray) (S : World → Prop) (hBS : ∀ w, S w → B ≤ w.heap.size) (hC1 : ∀ w, S w → kV.C w A1 n1 l) (hC2 : ∀ w, S w → Kd.string.C w A2 n2 xs) :
    Con Try.prog 9 [.slice A1 n1 c1, .slice A2 n2 c2] S [] (fun s : Option Value => rval A2 n2 c2 s (newT l xs).2) (fun s => rok s (newT l xs)) (fun s => rpost B s (newT l xs)) := by
 refine Con.of_none fun w hS => ?_
 have hs : Sep w (fun _ => False) [] := trivial
 have hB := hBS w hS
 have hlen := (C_lenm (hC1 w hS)).1
 have hn63 := (C_lenm (hC1 w hS)).2
 refine enter (args := [.slice A1 n1 c1, .slice A2 n2 c2]) Try.func9 rfl rfl rfl hs ?_
 refine GC.seq ?_
 refine GC.region ?_
 refine GL.does [] rfl rfl rfl rfl (Does.alloc (Bs hB) rfl al36) fun gr hgr => ?_
 refine GL.gives rfl rfl rfl (Gives.assign rfl rfl) ?_
 refine GL.nil ?_
 refine GQ.thenN ?_
 refine GC.seq ?_
 refine GC.region ?_
 refine GL.does [] rfl rfl rfl rfl (Does.alloc (Bs hB) rfl al36) fun gt hgt => ?_
 refine GL.nil ?_
 refine GQ.thenN ?_
 refine GC.seq ?_
 refine GC.region ?_
 refine GL.gives rfl rfl rfl (Gives.assign rfl rfl) ?_
 refine GL.nil ?_
 refine GQ.thenN ?_
 refine GC.seq ?_
 refine GC.seq ?_
 refine GC.region ?_
 refine GL.gives rfl rfl rfl (Gives.assign rfl rfl) ?_
 refine GL.nil ?_
 refine GQ.thenN ?_
 refine GC.block ?_
 refine GC.turn [] rfl (Turns.nilRow (B := B) (e := 26) kV) ?_
 refine GC.loop (σ := Int × T × Value) (fun s => [(0, .slice A1 n1 c1), (1, .slice A2 n2 c2), (4, .pointer (some ⟨gr, 0, none⟩)), (6, .pointer (some ⟨gt, 0, none⟩)), (8, .int .i64 s.1)]) (fun s => [Cells gt #[s.2.2, .slice none 0 0, .int .i64 s.2.1.st] 36, Cells gr #[.slice none 0 0, .slice none 0 0, .int .i64 0] 36, Row B kV 26 s.2.2 s.2.1.V]) (fun s => (0 ≤ s.1 ∧ s.1 ≤ n1) ∧ Ran l s.1 s.2.1) (fun s => (n1 - s.1).toNat) (0, t00, .slice none 0 0) [1, 1, 0] ⟨⟨by simp, by simp⟩, rfl⟩ ⟨rfl, rfl, rfl, rfl, rfl, trivial⟩ rfl ?_
 rintro ⟨k, m, vl⟩ ⟨⟨hk0, hk1⟩, hr⟩
 dsimp only at hk0 hk1 hr ⊢
 have hm := ran_ok hr
 have hmA : m.A.length = 0 := by rw [(ran_st hr).2]; rfl
 refine GC.know (row_slice (i := 2) rfl) fun ⟨Av, cv, hvl, hcv⟩ => ?_
 subst hvl
 refine GC.seq ?_
 refine GC.seq ?_
 refine GC.region ?_
 refine GL.gives rfl rfl rfl (Gives.move rfl rfl) ?_
 refine GL.gives rfl rfl rfl (Gives.move rfl rfl) ?_
 refine GL.gives rfl rfl rfl (Gives.len rfl rfl Try.underlying22) ?_
 refine GL.gives rfl rfl rfl (Gives.lss rfl rfl rfl) ?_
 refine GL.nil ?_
 refine GQ.thenN ?_
 refine GC.split (t := 12) rfl (fun h12 => ?_) (fun h12 => ?_)
 ·
   replace h12 := of_decide_eq_true h12
   refine GC.condT rfl rfl ?_
   refine GC.skip ?_
   refine GQ.thenN ?_
   refine GC.seq ?_
   refine GC.block ?_
   refine GC.seq ?_
   by_cases hz : (tSet m (rdOf zV l k).1 (rdOf zV l k).2).2 = 0
   ·
     obtain ⟨p, hp⟩ := C_some (hC1 w hS) (by omega)
     subst hp
     refine GC.draw (fun w => St _ _ w _) [15] #[false, false, false, false, false, false, false, false, false, false, false, false, false, false, false, false, false] mixed_ rfl rfl (fun _ h => h) ?_
     refine GA.take 0 #[true, false, false, false, false, false, false, false, false, false, false, false, false, false, false, false, false] (by repeat (first | exact PanicOk.body | refine PanicOk.then ?_ | refine PanicOk.block ?_)) rfl rfl (by kernel_rfl) rfl rfl (fun _ h => h) (Gives.loadb (cs := #[.slice Av m.V.length cv, .slice none 0 0, .int .i64 m.st]) 0 rfl rfl ag36 sz36 rfl) ?_
     refine GA.pure 1 #[true, true, false, false, false, false, false, false, false, false, false, false, false, false, false, false, false] (by repeat (first | exact PanicOk.body | refine PanicOk.then ?_ | refine PanicOk.block ?_)) rfl rfl (by kernel_rfl) rfl rfl (Gives.move rfl rfl) ?_
     refine GA.pure 2 #[true, true, true, false, false, false, false, false, false, false, false, false, false, false, false, false, false] (by repeat (first | exact PanicOk.body | refine PanicOk.then ?_ | refine PanicOk.block ?_)) rfl rfl (by kernel_rfl) rfl rfl (Gives.move rfl rfl) ?_
     refine GA.pure 3 #[true, true, true, true, false, false, false, false, false, false, false, false, false, false, false, false, false] (by repeat (first | exact PanicOk.body | refine PanicOk.then ?_ | refine PanicOk.block ?_)) rfl rfl (by kernel_rfl) rfl rfl (Gives.indexAddr (i := k) rfl rfl rfl Try.underlying22 sz26 (by omega) (by omega)) ?_
     refine GA.pure 4 #[true, true, true, true, true, false, false, false, false, false, false, false, false, false, false, false, false] (by repeat (first | exact PanicOk.body | refine PanicOk.then ?_ | refine PanicOk.block ?_)) rfl rfl (by kernel_rfl) rfl rfl (Gives.fieldAddr (q := (p.add (k.toNat * 2))) rfl rfl (fun _ => by kernel_rfl)) ?_
     refine GA.take 5 #[true, true, true, true, true, true, false, false, false, false, false, false, false, false, false, false, false] (by repeat (first | exact PanicOk.body | refine PanicOk.then ?_ | refine PanicOk.block ?_)) rfl rfl (by kernel_rfl) rfl rfl (fun _ h => h) (Gives.load rfl rfl pl9 (fun w' hs' => (cV (Kd.C_below (hC1 w hS) hs'.below) k (by omega) (by omega)).1)) ?_
     refine GA.pure 6 #[true, true, true, true, true, true, true, false, false, false, false, false, false, false, false, false, false] (by repeat (first | exact PanicOk.body | refine PanicOk.then ?_ | refine PanicOk.block ?_)) rfl rfl (by kernel_rfl) rfl rfl (Gives.move rfl rfl) ?_
     refine GA.pure 7 #[true, true, true, true, true, true, true, true, false, false, false, false, false, false, false, false, false] (by repeat (first | exact PanicOk.body | refine PanicOk.then ?_ | refine PanicOk.block ?_)) rfl rfl (by kernel_rfl) rfl rfl (Gives.move rfl rfl) ?_
     refine GA.pure 8 #[true, true, true, true, true, true, true, true, true, false, false, false, false, false, false, false, false] (by repeat (first | exact PanicOk.body | refine PanicOk.then ?_ | refine PanicOk.block ?_)) rfl rfl (by kernel_rfl) rfl rfl (Gives.indexAddr (i := k) rfl rfl rfl Try.underlying22 sz26 (by omega) (by omega)) ?_
     refine GA.pure 9 #[true, true, true, true, true, true, true, true, true, true, false, false, false, false, false, false, false] (by repeat (first | exact PanicOk.body | refine PanicOk.then ?_ | refine PanicOk.block ?_)) rfl rfl (by kernel_rfl) rfl rfl (Gives.fieldAddr (q := ⟨(p.add (k.toNat * 2)).block, (p.add (k.toNat * 2)).off + 1, none⟩) rfl rfl (fun _ => by kernel_rfl)) ?_
     refine GA.take 10 #[true, true, true, true, true, true, true, true, true, true, true, false, false, false, false, false, false] (by repeat (first | exact PanicOk.body | refine PanicOk.then ?_ | refine PanicOk.block ?_)) rfl rfl (by kernel_rfl) rfl rfl (fun _ h => h) (Gives.load rfl rfl pl9 (fun w' hs' => (cV (Kd.C_below (hC1 w hS) hs'.below) k (by omega) (by omega)).2)) ?_
     refine GA.one 11 #[true, true, true, true, true, true, true, true, true, true, true, true, false, false, false, false, false] [] rfl rfl (by kernel_rfl) (by decide) rfl rfl rfl (Does.call rfl rfl Try.func24 rfl rfl (rset_yes0 B Av cv m _ hm hmA (rdOf zV l k).1 (rdOf zV l k).2 (Bs hB) (row_C (i := 2) rfl) hz)) (fun _ _ _ h => h.take (is := [1, 1, 1]) rfl) fun v' _ => ?_
     refine GA.know (one_row (i := 0) rfl) fun h1 => ?_
     refine GA.pure 12 #[true, true, true, true, true, true, true, true, true, true, true, true, true, false, false, false, false] (by repeat (first | exact PanicOk.body | refine PanicOk.then ?_ | refine PanicOk.block ?_)) rfl rfl (by kernel_rfl) rfl rfl (Gives.move rfl rfl) ?_
     refine GA.pure 13 #[true, true, true, true, true, true, true, true, true, true, true, true, true, true, false, false, false] (by repeat (first | exact PanicOk.body | refine PanicOk.then ?_ | refine PanicOk.block ?_)) rfl rfl (by kernel_rfl) rfl rfl (Gives.extract (v := .agg #[v', .slice none 0 0, .int .i64 m.st]) rfl rfl rfl) ?_
     refine GA.pure 14 #[true, true, true, true, true, true, true, true, true, true, true, true, true, true, true, false, false] (by repeat (first | exact PanicOk.body | refine PanicOk.then ?_ | refine PanicOk.block ?_)) rfl rfl (by kernel_rfl) rfl rfl (Gives.extract (v := .int .i64 0) rfl rfl rfl) ?_
     refine GA.last0 15 #[true, true, true, true, true, true, true, true, true, true, true, true, true, true, true, true, false] [1] rfl rfl (by kernel_rfl) (by decide) rfl rfl (Does.storeb rfl rfl rfl sz36 (by first | (simp [Value.oneCell']; done) | (simp [one_int, one_bool, one_string, one_slice, one_pointer, *]; done)) rfl) fun _ _ => ?_
     refine GA.pure 16 #[true, true, true, true, true, true, true, true, true, true, true, true, true, true, true, true, true] (by repeat (first | exact PanicOk.body | refine PanicOk.then ?_ | refine PanicOk.block ?_)) rfl rfl (by kernel_rfl) rfl rfl (Gives.assign rfl rfl) ?_
     refine GA.done (by kernel_rfl) ?_
     refine GQ.thenN ?_
     refine GC.seq ?_
     refine GC.region ?_
     refine GL.gives rfl rfl rfl (Gives.move rfl rfl) ?_
     refine GL.gives rfl rfl rfl (Gives.nei rfl rfl rfl) ?_
     refine GL.nil ?_
     refine GQ.thenN ?_
     refine GC.condF rfl (by rfl) ?_
     refine GC.skip ?_
     refine GQ.blkN ?_
     refine GQ.thenN ?_
     refine GC.region ?_
     refine GL.gives rfl rfl rfl (Gives.move rfl rfl) ?_
     refine GL.gives rfl rfl rfl (Gives.add rfl rfl rfl (by omega)) ?_
     refine GL.gives rfl rfl rfl (Gives.assign rfl rfl) ?_
     refine GL.nil ?_
     refine GQ.back (k + 1, (tSet m (rdOf zV l k).1 (rdOf zV l k).2).1, v') [0, 1, 0] ⟨⟨by dsimp only; omega, by dsimp only; omega⟩, ran_next hr hk0 (by omega) hz⟩ (by dsimp only; omega) ⟨rfl, rfl, rfl, rfl, rfl, trivial⟩ (by dsimp only; rw [set_st m _ _, set_V hz]; rfl)
   ·
     obtain ⟨p, hp⟩ := C_some (hC1 w hS) (by omega)
     subst hp
     refine GC.draw (fun w => St _ _ w _) [15] #[false, false, false, false, false, false, false, false, false, false, false, false, false, false, false, false, false] mixed_ rfl rfl (fun _ h => h) ?_
     refine GA.take 0 #[true, false, false, false, false, false, false, false, false, false, false, false, false, false, false, false, false] (by repeat (first | exact PanicOk.body | refine PanicOk.then ?_ | refine PanicOk.block ?_)) rfl rfl (by kernel_rfl) rfl rfl (fun _ h => h) (Gives.loadb (cs := #[.slice Av m.V.length cv, .slice none 0 0, .int .i64 m.st]) 0 rfl rfl ag36 sz36 rfl) ?_
     refine GA.pure 1 #[true, true, false, false, false, false, false, false, false, false, false, false, false, false, false, false, false] (by repeat (first | exact PanicOk.body | refine PanicOk.then ?_ | refine PanicOk.block ?_)) rfl rfl (by kernel_rfl) rfl rfl (Gives.move rfl rfl) ?_
     refine GA.pure 2 #[true, true, true, false, false, false, false, false, false, false, false, false, false, false, false, false, false] (by repeat (first | exact PanicOk.body | refine PanicOk.then ?_ | refine PanicOk.block ?_)) rfl rfl (by kernel_rfl) rfl rfl (Gives.move rfl rfl) ?_
     refine GA.pure 3 #[true, true, true, true, false, false, false, false, false, false, false, false, false, false, false, false, false] (by repeat (first | exact PanicOk.body | refine PanicOk.then ?_ | refine PanicOk.block ?_)) rfl rfl (by kernel_rfl) rfl rfl (Gives.indexAddr (i := k) rfl rfl rfl Try.underlying22 sz26 (by omega) (by omega)) ?_
     refine GA.pure 4 #[true, true, true, true, true, false, false, false, false, false, false, false, false, false, false, false, false] (by repeat (first | exact PanicOk.body | refine PanicOk.then ?_ | refine PanicOk.block ?_)) rfl rfl (by kernel_rfl) rfl rfl (Gives.fieldAddr (q := (p.add (k.toNat * 2))) rfl rfl (fun _ => by kernel_rfl)) ?_
     refine GA.take 5 #[true, true, true, true, true, true, false, false, false, false, false, false, false, false, false, false, false] (by repeat (first | exact PanicOk.body | refine PanicOk.then ?_ | refine PanicOk.block ?_)) rfl rfl (by kernel_rfl) rfl rfl (fun _ h => h) (Gives.load rfl rfl pl9 (fun w' hs' => (cV (Kd.C_below (hC1 w hS) hs'.below) k (by omega) (by omega)).1)) ?_
     refine GA.pure 6 #[true, true, true, true, true, true, true, false, false, false, false, false, false, false, false, false, false] (by repeat (first | exact PanicOk.body | refine PanicOk.then ?_ | refine PanicOk.block ?_)) rfl rfl (by kernel_rfl) rfl rfl (Gives.move rfl rfl) ?_
     refine GA.pure 7 #[true, true, true, true, true, true, true, true, false, false, false, false, false, false, false, false, false] (by repeat (first | exact PanicOk.body | refine PanicOk.then ?_ | refine PanicOk.block ?_)) rfl rfl (by kernel_rfl) rfl rfl (Gives.move rfl rfl) ?_
     refine GA.pure 8 #[true, true, true, true, true, true, true, true, true, false, false, false, false, false, false, false, false] (by repeat (first | exact PanicOk.body | refine PanicOk.then ?_ | refine PanicOk.block ?_)) rfl rfl (by kernel_rfl) rfl rfl (Gives.indexAddr (i := k) rfl rfl rfl Try.underlying22 sz26 (by omega) (by omega)) ?_
     refine GA.pure 9 #[true, true, true, true, true, true, true, true, true, true, false, false, false, false, false, false, false] (by repeat (first | exact PanicOk.body | refine PanicOk.then ?_ | refine PanicOk.block ?_)) rfl rfl (by kernel_rfl) rfl rfl (Gives.fieldAddr (q := ⟨(p.add (k.toNat * 2)).block, (p.add (k.toNat * 2)).off + 1, none⟩) rfl rfl (fun _ => by kernel_rfl)) ?_
     refine GA.take 10 #[true, true, true, true, true, true, true, true, true, true, true, false, false, false, false, false, false] (by repeat (first | exact PanicOk.body | refine PanicOk.then ?_ | refine PanicOk.block ?_)) rfl rfl (by kernel_rfl) rfl rfl (fun _ h => h) (Gives.load rfl rfl pl9 (fun w' hs' => (cV (Kd.C_below (hC1 w hS) hs'.below) k (by omega) (by omega)).2)) ?_
     refine GA.one 11 #[true, true, true, true, true, true, true, true, true, true, true, true, false, false, false, false, false] [] rfl rfl (by kernel_rfl) (by decide) rfl rfl rfl (Does.call rfl rfl Try.func24 rfl rfl (rset_no0 B Av cv m _ hm hmA (rdOf zV l k).1 (rdOf zV l k).2 (Bs hB) (row_C (i := 2) rfl) hz)) (fun _ _ _ h => h) fun _ _ => ?_
     refine GA.pure 12 #[true, true, true, true, true, true, true, true, true, true, true, true, true, false, false, false, false] (by repeat (first | exact PanicOk.body | refine PanicOk.then ?_ | refine PanicOk.block ?_)) rfl rfl (by kernel_rfl) rfl rfl (Gives.move rfl rfl) ?_
     refine GA.pure 13 #[true, true, true, true, true, true, true, true, true, true, true, true, true, true, false, false, false] (by repeat (first | exact PanicOk.body | refine PanicOk.then ?_ | refine PanicOk.block ?_)) rfl rfl (by kernel_rfl) rfl rfl (Gives.extract (v := .agg #[.slice Av m.V.length cv, .slice none 0 0, .int .i64 m.st]) rfl rfl rfl) ?_
     refine GA.pure 14 #[true, true, true, true, true, true, true, true, true, true, true, true, true, true, true, false, false] (by repeat (first | exact PanicOk.body | refine PanicOk.then ?_ | refine PanicOk.block ?_)) rfl rfl (by kernel_rfl) rfl rfl (Gives.extract (v := .int .i64 (tSet m (rdOf zV l k).1 (rdOf zV l k).2).2) rfl rfl rfl) ?_
     refine GA.last0 15 #[true, true, true, true, true, true, true, true, true, true, true, true, true, true, true, true, false] [0] rfl rfl (by kernel_rfl) (by decide) rfl rfl (Does.storeb rfl rfl rfl sz36 (by first | (simp [Value.oneCell']; done) | (simp [one_int, one_bool, one_string, one_slice, one_pointer, *]; done)) rfl) fun _ _ => ?_
     refine GA.pure 16 #[true, true, true, true, true, true, true, true, true, true, true, true, true, true, true, true, true] (by repeat (first | exact PanicOk.body | refine PanicOk.then ?_ | refine PanicOk.block ?_)) rfl rfl (by kernel_rfl) rfl rfl (Gives.assign rfl rfl) ?_
     refine GA.done (by kernel_rfl) ?_
     refine GQ.thenN ?_
     refine GC.seq ?_
     refine GC.region ?_
     refine GL.gives rfl rfl rfl (Gives.move rfl rfl) ?_
     refine GL.gives rfl rfl rfl (Gives.nei rfl rfl rfl) ?_
     refine GL.nil ?_
     refine GQ.thenN ?_
     refine GC.condT rfl (bne_iff_ne.2 hz) ?_
     refine GC.seq ?_
     refine GC.region ?_
     refine GL.gives rfl rfl rfl (Gives.build (v := .agg #[.slice none 0 0, .slice none 0 0, .int .i64 0]) rfl rfl (fun _ => by kernel_rfl)) ?_
     refine GL.gives rfl rfl rfl (Gives.move rfl rfl) ?_
     refine GL.does0 [1] rfl rfl rfl (Does.storeb rfl rfl rfl sz36 (by first | (simp [Value.oneCell']; done) | (simp [one_int, one_bool, one_string, one_slice, one_pointer, *]; done)) rfl) fun _ _ => ?_
     refine GL.gives rfl rfl rfl (Gives.assign rfl rfl) ?_
     refine GL.nil ?_
     refine GQ.thenN ?_
     refine GC.ret ?_
     refine GQ.blkR ?_
     refine GQ.thenR ?_
     refine GQ.thenR ?_
     refine GQ.blkR ?_
     refine GQ.thenR ?_
     refine GQ.retT (vs := [.agg #[.slice none 0 0, .slice none 0 0, .int .i64 0], .int .i64 (tSet m (rdOf zV l k).1 (rdOf zV l k).2).2]) (.inl rfl) rfl rfl ⟨⟨_, rfl, lv_agg (cs := #[.slice none 0 0, .slice none 0 0, .int .i64 0]) (i := 0) rfl ag36 sz36⟩, rfl, trivial⟩ ?_
     intro w' hs
     rw [ran_stop hr hk0 (by omega) hz xs]
     exact ⟨none, rfl, ⟨rfl, hz⟩, hs.nil⟩
 ·
   replace h12 := of_decide_eq_false h12
   refine GC.condF rfl rfl ?_
   refine GC.exit ?_
   refine GQ.thenX ?_
   refine GQ.thenX ?_
   refine GQ.blkX ?_
   refine GQ.thenN ?_
   refine GC.seq ?_
   by_cases hq : (tArgs m xs).2 = 0
   ·
     obtain rfl : k = n1 := by omega
     rw [hlen.symm] at hr
     have hend := ran_end hr xs
     refine GC.region ?_
     refine GL.gives rfl rfl rfl (Gives.loadb (cs := #[.slice Av m.V.length cv, .slice none 0 0, .int .i64 m.st]) 0 rfl rfl ag36 sz36 rfl) ?_
     refine GL.gives rfl rfl rfl (Gives.move rfl rfl) ?_
     refine GL.does [] rfl rfl rfl rfl (Does.call rfl rfl Try.func25 rfl rfl (rargs_yes0 B Av cv m _ hm hmA A2 n2 c2 xs (Bs hB) (fun w' hs' => Kd.C_below (hC2 w hS) hs'.below) hq)) fun _ _ => ?_
     refine GL.gives rfl rfl rfl (Gives.move rfl rfl) ?_
     refine GL.gives rfl rfl rfl (Gives.extract (v := .agg #[.slice Av m.V.length cv, .slice A2 n2 c2, .int .i64 m.st]) rfl rfl rfl) ?_
     refine GL.gives rfl rfl rfl (Gives.extract (v := .int .i64 0) rfl rfl rfl) ?_
     refine GL.does0 [0] rfl rfl rfl (Does.storeb rfl rfl rfl sz36 (by first | (simp [Value.oneCell']; done) | (simp [one_int, one_bool, one_string, one_slice, one_pointer, *]; done)) rfl) fun _ _ => ?_
     refine GL.gives rfl rfl rfl (Gives.assign rfl rfl) ?_
     refine GL.nil ?_
     refine GQ.thenN ?_
     refine GC.seq ?_
     refine GC.seq ?_
     refine GC.region ?_
     refine GL.gives rfl rfl rfl (Gives.move rfl rfl) ?_
     refine GL.gives rfl rfl rfl (Gives.nei rfl rfl rfl) ?_
     refine GL.nil ?_
     refine GQ.thenN ?_
     refine GC.condF rfl (by rfl) ?_
     refine GC.skip ?_
     refine GQ.thenN ?_
     refine GC.seq ?_
     refine GC.region ?_
     refine GL.gives rfl rfl rfl (Gives.loadb (cs := #[.slice Av m.V.length cv, .slice A2 n2 c2, .int .i64 m.st]) 0 rfl rfl ag36 sz36 rfl) ?_
     refine GL.does0 [1] rfl rfl rfl (Does.storeb rfl rfl rfl sz36 (by first | (simp [Value.oneCell']; done) | (simp [one_int, one_bool, one_string, one_slice, one_pointer, *]; done)) rfl) fun _ _ => ?_
     refine GL.gives rfl rfl rfl (Gives.assign rfl rfl) ?_
     refine GL.nil ?_
     refine GQ.thenN ?_
     refine GC.ret ?_
     refine GQ.retT (vs := [.agg #[.slice Av m.V.length cv, .slice A2 n2 c2, .int .i64 m.st], .int .i64 0]) (.inl rfl) rfl rfl ⟨⟨_, rfl, lv_agg (cs := #[.slice Av m.V.length cv, .slice A2 n2 c2, .int .i64 m.st]) (i := 0) rfl ag36 sz36⟩, rfl, trivial⟩ ?_
     intro w' hs
     rw [hend, if_neg (by simpa using hq), tArgs_yes hq, (ran_st hr).1]
     exact ⟨some (.slice Av m.V.length cv), rfl, ⟨_, rfl⟩, hs.take (is := [2]) rfl⟩
   ·
     obtain rfl : k = n1 := by omega
     rw [hlen.symm] at hr
     have hend := ran_end hr xs
     refine GC.region ?_
     refine GL.gives rfl rfl rfl (Gives.loadb (cs := #[.slice Av m.V.length cv, .slice none 0 0, .int .i64 m.st]) 0 rfl rfl ag36 sz36 rfl) ?_
     refine GL.gives rfl rfl rfl (Gives.move rfl rfl) ?_
     refine GL.does [] rfl rfl rfl rfl (Does.call rfl rfl Try.func25 rfl rfl (rargs_no0 B Av cv m _ hm hmA A2 n2 c2 xs (Bs hB) (fun w' hs' => Kd.C_below (hC2 w hS) hs'.below) hq)) fun _ _ => ?_
     refine GL.gives rfl rfl rfl (Gives.move rfl rfl) ?_
     refine GL.gives rfl rfl rfl (Gives.extract (v := .agg #[.slice Av m.V.length cv, .slice none 0 0, .int .i64 m.st]) rfl rfl rfl) ?_
     refine GL.gives rfl rfl rfl (Gives.extract (v := .int .i64 (tArgs m xs).2) rfl rfl rfl) ?_
     refine GL.does0 [0] rfl rfl rfl (Does.storeb rfl rfl rfl sz36 (by first | (simp [Value.oneCell']; done) | (simp [one_int, one_bool, one_string, one_slice, one_pointer, *]; done)) rfl) fun _ _ => ?_
     refine GL.gives rfl rfl rfl (Gives.assign rfl rfl) ?_
     refine GL.nil ?_
     refine GQ.thenN ?_
     refine GC.seq ?_
     refine GC.seq ?_
     refine GC.region ?_
     refine GL.gives rfl rfl rfl (Gives.move rfl rfl) ?_
     refine GL.gives rfl rfl rfl (Gives.nei rfl rfl rfl) ?_
     refine GL.nil ?_
     refine GQ.thenN ?_
     refine GC.condT rfl (bne_iff_ne.2 hq) ?_
     refine GC.seq ?_
     refine GC.region ?_
     refine GL.gives rfl rfl rfl (Gives.build (v := .agg #[.slice none 0 0, .slice none 0 0, .int .i64 0]) rfl rfl (fun _ => by kernel_rfl)) ?_
     refine GL.gives rfl rfl rfl (Gives.move rfl rfl) ?_
     refine GL.does0 [1] rfl rfl rfl (Does.storeb rfl rfl rfl sz36 (by first | (simp [Value.oneCell']; done) | (simp [one_int, one_bool, one_string, one_slice, one_pointer, *]; done)) rfl) fun _ _ => ?_
     refine GL.gives rfl rfl rfl (Gives.assign rfl rfl) ?_
     refine GL.nil ?_
     refine GQ.thenN ?_
     refine GC.ret ?_
     refine GQ.thenR ?_
     refine GQ.retT (vs := [.agg #[.slice none 0 0, .slice none 0 0, .int .i64 0], .int .i64 (tArgs m xs).2]) (.inl rfl) rfl rfl ⟨⟨_, rfl, lv_agg (cs := #[.slice none 0 0, .slice none 0 0, .int .i64 0]) (i := 0) rfl ag36 sz36⟩, rfl, trivial⟩ ?_
     intro w' hs
     rw [hend, if_pos hq]
     exact ⟨none, rfl, ⟨rfl, hq⟩, hs.nil⟩

end Go.Proofs.Yteckdfgllipilaa.VY
