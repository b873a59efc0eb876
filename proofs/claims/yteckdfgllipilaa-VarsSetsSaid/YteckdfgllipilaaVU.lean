/- A shell's table of variables: its parameters; what no table does. -/
import Derived.Test.YteckdfgllipilaaVT
namespace Go.Proofs.Yteckdfgllipilaa.VU
open Go.RowKit Go.Proofs.YteckdfgllipilaaW.PrintWords Go.Proofs.YteckdfgllipilaaW.PrintLast Go.Proofs.YteckdfgllipilaaS Go.Proofs.Yteckdfgllipilaa.NU Go.Proofs.Yteckdfgllipilaa.NV Go.Proofs.Yteckdfgllipilaa.NW Go.Proofs.Yteckdfgllipilaa.VP Go.Proofs.Yteckdfgllipilaa.VT

/-- A part that shows a row. -/
def Shows {α : Type} (X : Atom) (kd : Kd α) (A : Option Addr) (n : Nat) (xs : List α) : Prop := ∀ w F, X.p w F → kd.C w A n xs
theorem shows_C {α : Type} {X : Atom} {kd : Kd α} {A : Option Addr} {n i : Nat} {xs : List α} {w0 : World} {F0 : Nat → Prop} {L R : List Atom} (h : Shows X kd A n xs) (hL : rem1 i L = some (X, R)) : ∀ w, St w0 F0 w L → kd.C w A n xs := fun w hs => by
  obtain ⟨F, _, h2⟩ := (hs.at hL).sep.one
  exact h w F h2
theorem shows_row {α : Type} {kd : Kd α} {B e n c : Nat} {A : Option Addr} {xs : List α} : Shows (Row B kd e (.slice A n c) xs) kd A n xs := fun w F h => by
  obtain ⟨h1, _, h3⟩ := Kd.R_reads' h
  subst h1
  exact h3
theorem shows_old {α : Type} {d : Kd α} (hd : NoW d) {wb : World} {A : Option Addr} {m : Nat} {xs : List α} (h : d.C wb A m xs) : Shows (Old wb.heap.size wb) d A m xs := fun w F hp => C_old hd h hp.2
theorem cS {w : World} {mm : Nat} {p : Addr} {xs : List ByteArray} (h : Kd.string.C w (some p) mm xs) (k : Int) (h0 : 0 ≤ k) (h1 : k < mm) : w.cell? (p.add (k.toNat * 1)) = some (.string (rdOf e0 xs k)) := by
  obtain ⟨ad, c, h2, h3, h4, h5⟩ := h.get_ (⟨#[]⟩ : ByteArray) k h0 h1
  obtain rfl := Option.some.inj h2
  have h6 : c = [.string (rdOf ⟨#[]⟩ xs k)] := h4
  subst h6
  exact h5 0 _ rfl
def long (xs : List ByteArray) : Bool := xs.any fun a => decide (4096 < a.size)
theorem long_not {xs : List ByteArray} (h : ∀ k : Int, 0 ≤ k → k < xs.length → (rdOf e0 xs k).size ≤ 4096) : long xs = false ∧ ∀ a ∈ xs, a.size ≤ 4096 := by
  have key : ∀ a ∈ xs, a.size ≤ 4096 := fun a ha => by
    obtain ⟨j, hj, rfl⟩ := List.mem_iff_getElem.1 ha
    have := h j (by omega) (by omega)
    simpa [rdOf, List.getD_eq_getElem?_getD, List.getElem?_eq_getElem hj] using this
  refine ⟨?_, key⟩
  rw [← Bool.not_eq_true]
  intro hl
  simp only [long, List.any_eq_true, decide_eq_true_eq] at hl
  obtain ⟨a, ha, hl⟩ := hl
  have := key a ha
  omega
theorem long_yes {xs : List ByteArray} {k : Int} (h0 : 0 ≤ k) (h1 : k < xs.length) (h : 4096 < (rdOf e0 xs k).size) : long xs = true := by
  have hk : k.toNat < xs.length := by omega
  simp only [long, List.any_eq_true, decide_eq_true_eq]
  exact ⟨xs[k.toNat], List.getElem_mem hk, by simpa [rdOf, List.getD_eq_getElem?_getD, List.getElem?_eq_getElem hk] using h⟩
def tArgs (m : T) (xs : List ByteArray) : T × Int := if 256 < xs.length ∨ long xs = true then (m, 2) else ({ m with A := xs }, 0)
def tShift (m : T) (n : Int) : T × Bool := if n < 0 ∨ m.A.length < n then (m, false) else ({ m with A := m.A.drop n.toNat }, true)
theorem setArgs_ok {m : T} (hm : m.Ok) (xs : List ByteArray) : (tArgs m xs).1.Ok := by
  unfold tArgs
  split
  · exact hm
  · rename_i h
    refine ⟨hm.up, hm.names, hm.nV, ?_, fun a ha => ?_, hm.st⟩
    · show xs.length ≤ 256
      omega
    · have h2 : long xs ≠ true := fun h' => h (.inr h')
      simp only [long, List.any_eq_true, decide_eq_true_eq, ne_eq, not_exists, not_and] at h2
      have := h2 a ha
      omega
theorem shift_ok {m : T} (hm : m.Ok) (n : Int) : (tShift m n).1.Ok := by
  unfold tShift
  split
  · exact hm
  · exact ⟨hm.up, hm.names, hm.nV, by show (m.A.drop n.toNat).length ≤ 256; have := hm.nA; rw [List.length_drop]; omega, fun a ha => hm.lA a (List.mem_of_mem_drop ha), hm.st⟩

theorem mixed_ : Try.prog.follows .mixedOrders = true := by kernel_rfl
theorem pl9 : Plain Try.prog 9 := plain_string Try.underlying9
theorem sz9 (w : World) : (sizeOf 9).run Try.prog w = .ok 1 w := by kernel_rfl
theorem sz23 (w : World) : (sizeOf 23).run Try.prog w = .ok 1 w := by kernel_rfl
set_option maxRecDepth 100000 in
set_option maxHeartbeats 1000000 in
theorem set_nobody (a b : ByteArray) (S : World → Prop) : Con Try.prog 15 [.pointer none, .string a, .string b] S [] (fun _ : Unit => .int .i64 3) (fun _ => True) (fun _ => []) := by
 intro w F0 hS hs hlt
 refine enter (args := [.pointer none, .string a, .string b]) Try.func15 rfl rfl rfl hs ?_
 refine GC.seq ?_
 refine GC.region ?_
 refine GL.gives rfl rfl rfl (Gives.assign rfl rfl) ?_
 refine GL.nil ?_
 refine GQ.thenN ?_
 refine GC.seq ?_
 refine GC.block ?_
 refine GC.seq ?_
 refine GC.region ?_
 refine GL.gives rfl rfl rfl (Gives.move rfl rfl) ?_
 refine GL.gives rfl rfl rfl (Gives.eqp rfl rfl rfl Try.underlying31) ?_
 refine GL.gives rfl rfl rfl (Gives.assign rfl rfl) ?_
 refine GL.nil ?_
 refine GQ.thenN ?_
 refine GC.condT rfl rfl ?_
 refine GC.seq ?_
 refine GC.region ?_
 refine GL.gives rfl rfl rfl (Gives.assign rfl rfl) ?_
 refine GL.nil ?_
 refine GQ.thenN ?_
 refine GC.ret ?_
 refine GQ.blkR ?_
 refine GQ.thenR ?_
 refine GQ.ret1 (.inl rfl) rfl rfl ?_
 intro w hs
 exact ⟨(), rfl, trivial, hs⟩

set_option maxRecDepth 100000 in
set_option maxHeartbeats 1000000 in
theorem unset_nobody (a : ByteArray) (S : World → Prop) : Con Try.prog 17 [.pointer none, .string a] S [] (fun _ : Unit => .tuple #[]) (fun _ => True) (fun _ => []) := by
 intro w F0 hS hs hlt
 refine enter (args := [.pointer none, .string a]) Try.func17 rfl rfl rfl hs ?_
 refine GC.seq ?_
 refine GC.seq ?_
 refine GC.region ?_
 refine GL.gives rfl rfl rfl (Gives.move rfl rfl) ?_
 refine GL.gives rfl rfl rfl (Gives.eqp rfl rfl rfl Try.underlying31) ?_
 refine GL.nil ?_
 refine GQ.thenN ?_
 refine GC.condT rfl rfl ?_
 refine GC.ret ?_
 refine GQ.thenR ?_
 refine GQ.ret0 (.inl rfl) rfl ?_
 intro w hs
 exact ⟨(), rfl, trivial, hs⟩

set_option maxRecDepth 100000 in
set_option maxHeartbeats 1000000 in
theorem setArgs_nobody (v : Value) (S : World → Prop) : Con Try.prog 19 [.pointer none, v] S [] (fun _ : Unit => .int .i64 3) (fun _ => True) (fun _ => []) := by
 intro w F0 hS hs hlt
 refine enter (args := [.pointer none, v]) Try.func19 rfl rfl rfl hs ?_
 refine GC.seq ?_
 refine GC.region ?_
 refine GL.gives rfl rfl rfl (Gives.assign rfl rfl) ?_
 refine GL.nil ?_
 refine GQ.thenN ?_
 refine GC.seq ?_
 refine GC.seq ?_
 refine GC.region ?_
 refine GL.gives rfl rfl rfl (Gives.move rfl rfl) ?_
 refine GL.gives rfl rfl rfl (Gives.eqp rfl rfl rfl Try.underlying31) ?_
 refine GL.nil ?_
 refine GQ.thenN ?_
 refine GC.condT rfl rfl ?_
 refine GC.seq ?_
 refine GC.region ?_
 refine GL.gives rfl rfl rfl (Gives.assign rfl rfl) ?_
 refine GL.nil ?_
 refine GQ.thenN ?_
 refine GC.ret ?_
 refine GQ.thenR ?_
 refine GQ.ret1 (.inl rfl) rfl rfl ?_
 intro w hs
 exact ⟨(), rfl, trivial, hs⟩

set_option maxRecDepth 100000 in
set_option maxHeartbeats 1000000 in
theorem shift_nobody (n : Int) (S : World → Prop) : Con Try.prog 20 [.pointer none, .int .i64 n] S [] (fun _ : Unit => .bool false) (fun _ => True) (fun _ => []) := by
 intro w F0 hS hs hlt
 refine enter (args := [.pointer none, .int .i64 n]) Try.func20 rfl rfl rfl hs ?_
 refine GC.seq ?_
 refine GC.region ?_
 refine GL.gives rfl rfl rfl (Gives.assign rfl rfl) ?_
 refine GL.nil ?_
 refine GQ.thenN ?_
 refine GC.seq ?_
 refine GC.seq ?_
 refine GC.region ?_
 refine GL.gives rfl rfl rfl (Gives.move rfl rfl) ?_
 refine GL.gives rfl rfl rfl (Gives.eqp rfl rfl rfl Try.underlying31) ?_
 refine GL.gives rfl rfl rfl (Gives.move rfl rfl) ?_
 refine GL.skip rfl rfl rfl ?_
 refine GL.skip rfl rfl rfl ?_
 refine GL.gives rfl rfl rfl (Gives.pickT rfl rfl rfl rfl) ?_
 refine GL.gives rfl rfl rfl (Gives.move rfl rfl) ?_
 refine GL.skip rfl rfl rfl ?_
 refine GL.skip rfl rfl rfl ?_
 refine GL.skip rfl rfl rfl ?_
 refine GL.skip rfl rfl rfl ?_
 refine GL.skip rfl rfl rfl ?_
 refine GL.skip rfl rfl rfl ?_
 refine GL.skip rfl rfl rfl ?_
 refine GL.gives rfl rfl rfl (Gives.pickT rfl rfl rfl rfl) ?_
 refine GL.nil ?_
 refine GQ.thenN ?_
 refine GC.condT rfl rfl ?_
 refine GC.seq ?_
 refine GC.region ?_
 refine GL.gives rfl rfl rfl (Gives.assign rfl rfl) ?_
 refine GL.nil ?_
 refine GQ.thenN ?_
 refine GC.ret ?_
 refine GQ.thenR ?_
 refine GQ.ret1 (.inl rfl) rfl rfl ?_
 intro w hs
 exact ⟨(), rfl, trivial, hs⟩

set_option maxRecDepth 100000 in
set_option maxHeartbeats 1000000 in
theorem copy_nobody (S : World → Prop) : Con Try.prog 21 [.pointer none] S [] (fun _ : Unit => .pointer none) (fun _ => True) (fun _ => []) := by
 intro w F0 hS hs hlt
 refine enter (args := [.pointer none]) Try.func21 rfl rfl rfl hs ?_
 refine GC.seq ?_
 refine GC.region ?_
 refine GL.gives rfl rfl rfl (Gives.assign rfl rfl) ?_
 refine GL.nil ?_
 refine GQ.thenN ?_
 refine GC.seq ?_
 refine GC.seq ?_
 refine GC.region ?_
 refine GL.gives rfl rfl rfl (Gives.move rfl rfl) ?_
 refine GL.gives rfl rfl rfl (Gives.eqp rfl rfl rfl Try.underlying31) ?_
 refine GL.nil ?_
 refine GQ.thenN ?_
 refine GC.condT rfl rfl ?_
 refine GC.seq ?_
 refine GC.region ?_
 refine GL.gives rfl rfl rfl (Gives.assign rfl rfl) ?_
 refine GL.nil ?_
 refine GQ.thenN ?_
 refine GC.ret ?_
 refine GQ.thenR ?_
 refine GQ.ret1 (.inl rfl) rfl rfl ?_
 intro w hs
 exact ⟨(), rfl, trivial, hs⟩

set_option maxRecDepth 100000 in
set_option maxHeartbeats 1000000 in
theorem vars_nobody (S : World → Prop) : Con Try.prog 22 [.pointer none] S [] (fun _ : Unit => .slice none 0 0) (fun _ => True) (fun _ => []) := by
 intro w F0 hS hs hlt
 refine enter (args := [.pointer none]) Try.func22 rfl rfl rfl hs ?_
 refine GC.seq ?_
 refine GC.region ?_
 refine GL.gives rfl rfl rfl (Gives.assign rfl rfl) ?_
 refine GL.nil ?_
 refine GQ.thenN ?_
 refine GC.seq ?_
 refine GC.seq ?_
 refine GC.region ?_
 refine GL.gives rfl rfl rfl (Gives.move rfl rfl) ?_
 refine GL.gives rfl rfl rfl (Gives.eqp rfl rfl rfl Try.underlying31) ?_
 refine GL.nil ?_
 refine GQ.thenN ?_
 refine GC.condT rfl rfl ?_
 refine GC.seq ?_
 refine GC.region ?_
 refine GL.gives rfl rfl rfl (Gives.assign rfl rfl) ?_
 refine GL.nil ?_
 refine GQ.thenN ?_
 refine GC.ret ?_
 refine GQ.thenR ?_
 refine GQ.ret1 (.inl rfl) rfl rfl ?_
 intro w hs
 exact ⟨(), rfl, trivial, hs⟩

set_option maxRecDepth 100000 in
set_option maxHeartbeats 1000000 in
theorem args_nobody (S : World → Prop) : Con Try.prog 23 [.pointer none] S [] (fun _ : Unit => .slice none 0 0) (fun _ => True) (fun _ => []) := by
 intro w F0 hS hs hlt
 refine enter (args := [.pointer none]) Try.func23 rfl rfl rfl hs ?_
 refine GC.seq ?_
 refine GC.region ?_
 refine GL.gives rfl rfl rfl (Gives.assign rfl rfl) ?_
 refine GL.nil ?_
 refine GQ.thenN ?_
 refine GC.seq ?_
 refine GC.seq ?_
 refine GC.region ?_
 refine GL.gives rfl rfl rfl (Gives.move rfl rfl) ?_
 refine GL.gives rfl rfl rfl (Gives.eqp rfl rfl rfl Try.underlying31) ?_
 refine GL.nil ?_
 refine GQ.thenN ?_
 refine GC.condT rfl rfl ?_
 refine GC.seq ?_
 refine GC.region ?_
 refine GL.gives rfl rfl rfl (Gives.assign rfl rfl) ?_
 refine GL.nil ?_
 refine GQ.thenN ?_
 refine GC.ret ?_
 refine GQ.thenR ?_
 refine GQ.ret1 (.inl rfl) rfl rfl ?_
 intro w hs
 exact ⟨(), rfl, trivial, hs⟩

theorem one_row {α : Type} {w0 : World} {F0 : Nat → Prop} {L R : List Atom} {B e i : Nat} {kd : Kd α} {v : Value} {xs : List α} (hL : rem1 i L = some (Row B kd e v xs, R)) : ∀ w, St w0 F0 w L → v.oneCell' = true := fun w hs => by
  obtain ⟨A, c, h, _⟩ := row_slice hL w hs
  subst h
  rfl
theorem cells_one {v : Value} (h : v.oneCell' = true) : v.cells = #[v] := by
  cases v <;> first | rfl | cases h
set_option maxRecDepth 100000 in
set_option maxHeartbeats 1000000 in
theorem setArgs_con (B g : Nat) (vl al : Value) (m : T) (X : Atom) (A : Option Addr) (n c : Nat) (xs : List ByteArray) (hX : Shows X Kd.string A n xs) (S : World → Prop) (hBS : ∀ w, S w → B ≤ w.heap.size) :
    Con Try.prog 19 [.pointer (some ⟨g, 0, none⟩), .slice A n c] S (TK B g vl al m ++ [X]) (fun _ : Value => .int .i64 (tArgs m xs).2) (fun _ => True) (fun al' => TK B g vl al' (tArgs m xs).1 ++ [X]) := by
 intro w F0 hS hs hlt
 have hB := hBS w hS
 have hCw := shows_C (i := 3) hX rfl w (St.start hs)
 have hlen := (C_lenm hCw).1
 refine enter (args := [.pointer (some ⟨g, 0, none⟩), .slice A n c]) Try.func19 rfl rfl rfl hs ?_
 refine GC.seq ?_
 refine GC.region ?_
 refine GL.gives rfl rfl rfl (Gives.assign rfl rfl) ?_
 refine GL.nil ?_
 refine GQ.thenN ?_
 refine GC.seq ?_
 refine GC.seq ?_
 refine GC.region ?_
 refine GL.gives rfl rfl rfl (Gives.move rfl rfl) ?_
 refine GL.gives rfl rfl rfl (Gives.eqp rfl rfl rfl Try.underlying31) ?_
 refine GL.nil ?_
 refine GQ.thenN ?_
 refine GC.condF rfl rfl ?_
 refine GC.skip ?_
 refine GQ.thenN ?_
 refine GC.seq ?_
 refine GC.seq ?_
 refine GC.region ?_
 refine GL.gives rfl rfl rfl (Gives.move rfl rfl) ?_
 refine GL.gives rfl rfl rfl (Gives.len rfl rfl Try.underlying23) ?_
 refine GL.gives rfl rfl rfl (Gives.gtr rfl rfl rfl) ?_
 refine GL.nil ?_
 refine GQ.thenN ?_
 refine GC.split (t := 11) rfl (fun h11 => ?_) (fun h11 => ?_)
 ·
   replace h11 := of_decide_eq_true h11
   refine GC.condT rfl rfl ?_
   refine GC.seq ?_
   refine GC.region ?_
   refine GL.gives rfl rfl rfl (Gives.assign rfl rfl) ?_
   refine GL.nil ?_
   refine GQ.thenN ?_
   refine GC.ret ?_
   refine GQ.thenR ?_
   refine GQ.ret1 (.inl rfl) rfl rfl ?_
   intro w hs
   refine ⟨al, ?_, trivial, ?_⟩ <;> (unfold tArgs; rw [if_pos (.inl (by omega))])
   exact hs
 ·
   replace h11 := of_decide_eq_false h11
   refine GC.condF rfl rfl ?_
   refine GC.skip ?_
   refine GQ.thenN ?_
   refine GC.seq ?_
   refine GC.seq ?_
   refine GC.region ?_
   refine GL.gives rfl rfl rfl (Gives.move rfl rfl) ?_
   refine GL.gives rfl rfl rfl (Gives.len rfl rfl Try.underlying23) ?_
   refine GL.gives rfl rfl rfl (Gives.move rfl rfl) ?_
   refine GL.nil ?_
   refine GQ.thenN ?_
   refine GC.block ?_
   refine GC.loop (σ := Int) (fun k => [(0, .pointer (some ⟨g, 0, none⟩)), (1, .slice A n c), (12, .slice A n c), (13, .int .i64 ((n : Nat) : Int)), (14, .int .i64 k)]) (fun _ => TK B g vl al m ++ [X]) (fun k => (0 ≤ k ∧ k ≤ n) ∧ ∀ j : Int, 0 ≤ j → j < k → (rdOf e0 xs j).size ≤ 4096) (fun k => (n - k).toNat) 0 [0, 0, 0, 0] ⟨⟨by omega, by omega⟩, fun j h0 h1 => by omega⟩ ⟨rfl, rfl, rfl, rfl, rfl, trivial⟩ rfl ?_
   rintro k ⟨⟨hk0, hk1⟩, hall⟩
   refine GC.norm (L' := [Cells g #[vl, al, .int .i64 m.st] 57, Row B kV 26 vl m.V, Row B Kd.string 9 al m.A, X]) rfl ?_
   refine GC.seq ?_
   refine GC.region ?_
   refine GL.gives rfl rfl rfl (Gives.lss rfl rfl rfl) ?_
   refine GL.nil ?_
   refine GQ.thenN ?_
   refine GC.seq ?_
   refine GC.split (t := 15) rfl (fun h15 => ?_) (fun h15 => ?_)
   ·
     replace h15 := of_decide_eq_true h15
     refine GC.condT rfl rfl ?_
     refine GC.skip ?_
     refine GQ.thenN ?_
     refine GC.seq ?_
     refine GC.block ?_
     refine GC.seq ?_
     refine GC.region ?_
     obtain ⟨p, hp⟩ := C_some hCw (by omega)
     subst hp
     refine GL.gives rfl rfl rfl (Gives.indexAddr (i := k) rfl rfl rfl Try.underlying23 sz9 (by omega) (by omega)) ?_
     refine GL.gives rfl rfl rfl (Gives.load rfl rfl pl9 (fun w' hs' => cS (shows_C (i := 3) hX rfl w' hs') k (by omega) (by omega))) ?_
     refine GL.gives rfl rfl rfl (Gives.assign rfl rfl) ?_
     refine GL.nil ?_
     refine GQ.thenN ?_
     refine GC.seq ?_
     refine GC.region ?_
     refine GL.gives rfl rfl rfl (Gives.move rfl rfl) ?_
     refine GL.gives rfl rfl rfl (Gives.lens rfl rfl Try.underlying9) ?_
     refine GL.gives rfl rfl rfl (Gives.gtr rfl rfl rfl) ?_
     refine GL.nil ?_
     refine GQ.thenN ?_
     refine GC.split (t := 20) rfl (fun h20 => ?_) (fun h20 => ?_)
     ·
       replace h20 := of_decide_eq_true h20
       refine GC.condT rfl rfl ?_
       refine GC.seq ?_
       refine GC.region ?_
       refine GL.gives rfl rfl rfl (Gives.assign rfl rfl) ?_
       refine GL.nil ?_
       refine GQ.thenN ?_
       refine GC.ret ?_
       refine GQ.blkR ?_
       refine GQ.thenR ?_
       refine GQ.thenR ?_
       refine GQ.blkR ?_
       refine GQ.thenR ?_
       refine GQ.ret1 (.inl rfl) rfl rfl ?_
       intro w hs
       have hl := long_yes (xs := xs) hk0 (by omega) (by omega)
       refine ⟨al, ?_, trivial, ?_⟩ <;> (unfold tArgs; rw [if_pos (.inr hl)])
       exact hs
     ·
       replace h20 := of_decide_eq_false h20
       refine GC.condF rfl rfl ?_
       refine GC.skip ?_
       refine GQ.blkN ?_
       refine GQ.thenN ?_
       refine GC.region ?_
       refine GL.gives rfl rfl rfl (Gives.add rfl rfl rfl (by omega)) ?_
       refine GL.gives rfl rfl rfl (Gives.move rfl rfl) ?_
       refine GL.nil ?_
       refine GQ.back (k + 1) [0, 0, 0, 0] ⟨⟨by omega, by omega⟩, fun j h0 h1 => ?_⟩ (by omega) ⟨rfl, rfl, rfl, rfl, rfl, trivial⟩ rfl
       by_cases hjk : j = k
       · subst hjk; omega
       · exact hall j h0 (by omega)
   ·
     replace h15 := of_decide_eq_false h15
     refine GC.condF rfl rfl ?_
     refine GC.exit ?_
     refine GQ.thenX ?_
     refine GQ.thenX ?_
     refine GQ.blkX ?_
     refine GQ.thenN ?_
     refine GC.seq ?_
     refine GC.region ?_
     refine GL.gives rfl rfl rfl (Gives.move rfl rfl) ?_
     refine GL.gives rfl rfl rfl (Gives.move rfl rfl) ?_
     obtain ⟨hlg, _⟩ := long_not (xs := xs) (fun j h0 h1 => hall j h0 (by omega))
     have hset : tArgs m xs = ({ m with A := xs }, 0) := if_neg (by rw [hlg]; simp; omega)
     refine GL.does [] rfl rfl rfl rfl (Does.call rfl rfl Try.func42 rfl rfl (copyS_con B A n c xs (by omega) _ (Bs hB) (shows_C (i := 3) hX rfl))) fun al' _ => ?_
     refine GL.know (one_row (i := 0) rfl) fun h1 => ?_
     refine GL.gives rfl rfl rfl (Gives.nilCheck rfl rfl) ?_
     refine GL.gives rfl rfl rfl (Gives.fieldAddr (q := ⟨g, 1, none⟩) rfl rfl (fun _ => by kernel_rfl)) ?_
     refine GL.does0 [1] rfl rfl rfl (Does.store rfl rfl rfl sz23 (cells_one h1) h1 rfl rfl) fun _ _ => ?_
     refine GL.nil ?_
     refine GQ.thenN ?_
     refine GC.seq ?_
     refine GC.region ?_
     refine GL.gives rfl rfl rfl (Gives.assign rfl rfl) ?_
     refine GL.nil ?_
     refine GQ.thenN ?_
     refine GC.ret ?_
     refine GQ.ret1 (.inl rfl) rfl rfl ?_
     intro w hs
     rw [hset]
     exact ⟨al', rfl, trivial, hs.take (is := [0, 1, 0, 1]) rfl⟩

end Go.Proofs.Yteckdfgllipilaa.VU
