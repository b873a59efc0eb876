/- The block device's functions, walked in the small logic: what each does with its disk. -/
import Derived.Test.YtanbpjlnomifhaaSA
import Derived.Test.YtanbpjlnomifhaaProg
import Derived.WalkSmall
namespace Go.Proofs.Ytanbpjlnomifhaa.SL
open Go.RowKit Go.Proofs.YtanbpjlnomifhaaW.PrintWords Go.Proofs.YtanbpjlnomifhaaW.PrintLast Go.Proofs.YtanbpjlnomifhaaS

/-! ### What a disk is -/
abbrev WS := Int × ByteArray
def kW : Kd WS := Kd.pair (Kd.int .i64) Kd.string
theorem kW_flat : Flat kW := flat_pair flat_int flat_string
theorem kW_encs : Encs kW (fun x => [.int .i64 x.1, .string x.2]) := fun w x cs h => encs_pair (a := Kd.int .i64) (b := Kd.string) encs_scalar encs_scalar w x cs h
def zW : WS := (0, ⟨#[]⟩)
structure M where
  S : List ByteArray
  L : List WS
  f : Int
  b : Bool
def laid (S : List ByteArray) (L : List WS) : List ByteArray := L.foldl (fun S w => S.set w.1.toNat w.2) S
def kept (mask : Int) (S : List ByteArray) : List WS → Int → List ByteArray
  | [], _ => S
  | w :: L, i => kept mask (if (mask / 2 ^ (i % 64).toNat) % 2 = 1 then S.set w.1.toNat w.2 else S) L (i + 1)
def M.burn (m : M) : M × Int := if m.b = true ∨ m.f = 0 then ({ m with b := true }, 91) else ({ m with f := if 0 < m.f then m.f - 1 else m.f }, 0)
def M.sync (m : M) : M × Int := if m.burn.2 = 0 then ({ m.burn.1 with S := laid m.S m.L, L := [] }, 0) else m.burn
def M.write (m : M) (i : Int) (d : ByteArray) : M × Int := if m.b = false ∧ (i < 0 ∨ m.S.length ≤ i ∨ 256 < d.size) then (m, 90) else if m.burn.2 = 0 then ({ m.burn.1 with L := m.L ++ [(i, d)] }, 0) else m.burn
def lst (L : List WS) (i : Int) (s : ByteArray) : ByteArray := L.foldl (fun s w => if w.1 = i then w.2 else s) s
def M.read (m : M) (i : Int) : ByteArray × Int := if m.b = true then (⟨#[]⟩, 91) else if i < 0 ∨ m.S.length ≤ i then (⟨#[]⟩, 90) else (lst m.L i (rdOf ⟨#[]⟩ m.S i), 0)
def M.crash (m : M) (mask : Int) : M := { S := kept mask m.S m.L 0, L := [], f := -1, b := false }
structure M.Ok (m : M) (n : Nat) : Prop where
  len : m.S.length = n
  pos : 1 ≤ n ∧ n ≤ 4096
  late : ∀ w ∈ m.L, 0 ≤ w.1 ∧ w.1 < n
  fuse : -9223372036854775808 ≤ m.f ∧ m.f ≤ 9223372036854775807
  room : m.L.length ≤ 1000000000000
def DK (B g gs cs n : Nat) (vl : Value) (m : M) : List Atom := [Cells g #[.slice (some ⟨gs, 0, none⟩) n cs, vl, .int .i64 m.f, .bool m.b] 50, Row B Kd.string 9 (.slice (some ⟨gs, 0, none⟩) n cs) m.S, Row B kW 59 vl m.L]
theorem laid_length (L : List WS) : ∀ S, (laid S L).length = S.length := by
  unfold laid
  induction L with
  | nil => intro S; rfl
  | cons w L ih => intro S; rw [List.foldl_cons, ih]; simp
theorem laid_snoc (S : List ByteArray) (L : List WS) (w : WS) : laid S (L ++ [w]) = (laid S L).set w.1.toNat w.2 := by simp [laid]
theorem kept_length (mask : Int) (L : List WS) : ∀ S i, (kept mask S L i).length = S.length := by
  induction L with
  | nil => intro S i; rfl
  | cons w L ih => intro S i; rw [kept, ih]; split <;> simp
theorem kept_snoc (mask : Int) (w : WS) (L : List WS) : ∀ S i, kept mask S (L ++ [w]) i = if (mask / 2 ^ ((i + L.length) % 64).toNat) % 2 = 1 then (kept mask S L i).set w.1.toNat w.2 else kept mask S L i := by
  induction L with
  | nil => intro S i; simp [kept]
  | cons u L ih => intro S i; rw [List.cons_append, kept, ih, kept]; simp [Int.add_assoc, Int.add_comm 1]
theorem take_rd (L : List WS) (k : Int) (h0 : 0 ≤ k) (h1 : k < L.length) : L.take (k + 1).toNat = L.take k.toNat ++ [rdOf zW L k] := by
  rw [show (k + 1).toNat = k.toNat + 1 by omega, List.take_succ_eq_append_getElem (by omega)]
  simp [rdOf, List.getD_eq_getElem?_getD, List.getElem?_eq_getElem (show k.toNat < L.length by omega)]
theorem rd_mem (L : List WS) (k : Int) (h0 : 0 ≤ k) (h1 : k < L.length) : rdOf zW L k ∈ L := by
  have : k.toNat < L.length := by omega
  simp [rdOf, List.getD_eq_getElem?_getD, List.getElem?_eq_getElem this]
theorem burn_keeps (m : M) : m.burn.1.S = m.S ∧ m.burn.1.L = m.L := by unfold M.burn; split <;> exact ⟨rfl, rfl⟩

theorem mixed_ : Try.prog.follows .mixedOrders = true := by kernel_rfl
theorem ag59 (w : World) : (isAgg 59).run Try.prog w = .ok true w := by kernel_rfl
theorem al59 (w : World) : (Instr.alloc 59 true (.tuple #[])).run Try.prog w = .ok (.pointer (some ⟨w.heap.size, 0, none⟩)) (w.alloc (.cells #[.int .i64 0, .string (⟨#[]⟩ : ByteArray)] 59 (0, 0))) := by kernel_rfl
theorem in9 : (Try.prog.info? 9).map (fun i => (i.zero, i.size, i.bytes)) = some (some (.string (⟨#[]⟩ : ByteArray)), 1, 16) := by kernel_rfl
theorem in59 : (Try.prog.info? 59).map (fun i => (i.zero, i.size, i.bytes)) = some (some (.agg #[.int .i64 0, .string (⟨#[]⟩ : ByteArray)]), 2, 24) := by kernel_rfl
theorem pl3 : Plain Try.prog 3 := plain_int Try.underlying3
theorem pl4 : Plain Try.prog 4 := plain_bool Try.underlying4
theorem pl9 : Plain Try.prog 9 := plain_string Try.underlying9
theorem pl28 : Plain Try.prog 28 := plain_slice Try.underlying28
theorem pl48 : Plain Try.prog 48 := plain_slice Try.underlying48
theorem sz3 (w : World) : (sizeOf 3).run Try.prog w = .ok 1 w := by kernel_rfl
theorem sz4 (w : World) : (sizeOf 4).run Try.prog w = .ok 1 w := by kernel_rfl
theorem sz9 (w : World) : (sizeOf 9).run Try.prog w = .ok 1 w := by kernel_rfl
theorem sz48 (w : World) : (sizeOf 48).run Try.prog w = .ok 1 w := by kernel_rfl
theorem sz59 (w : World) : (sizeOf 59).run Try.prog w = .ok 2 w := by kernel_rfl
set_option maxRecDepth 100000 in
set_option maxHeartbeats 1000000 in
theorem spend_con (g gs cs n : Nat) (vl : Value) (m : M) (hf : -9223372036854775808 ≤ m.f ∧ m.f ≤ 9223372036854775807) (S : World → Prop) :
    Con Try.prog 19 [.pointer (some ⟨g, 0, none⟩)] S [Cells g #[.slice (some ⟨gs, 0, none⟩) n cs, vl, .int .i64 m.f, .bool m.b] 50] (fun _ : Unit => .int .i64 m.burn.2) (fun _ => True)
      (fun _ => [Cells g #[.slice (some ⟨gs, 0, none⟩) n cs, vl, .int .i64 m.burn.1.f, .bool m.burn.1.b] 50]) := by
 intro w F0 _ hs hlt
 refine enter (args := [.pointer (some ⟨g, 0, none⟩)]) Try.func19 rfl rfl rfl hs ?_
 refine GC.seq ?_
 refine GC.region ?_
 refine GL.gives rfl rfl rfl (Gives.assign rfl rfl) ?_
 refine GL.nil ?_
 refine GQ.thenN ?_
 refine GC.seq ?_
 refine GC.block ?_
 refine GC.seq ?_
 refine GC.region ?_
 refine GL.gives rfl rfl rfl (Gives.move rfl rfl) ?_
 refine GL.gives rfl rfl rfl (Gives.eqp rfl rfl rfl Try.underlying24) ?_
 refine GL.gives rfl rfl rfl (Gives.move rfl rfl) ?_
 refine GL.gives rfl rfl rfl (Gives.move rfl rfl) ?_
 refine GL.gives rfl rfl rfl (Gives.nilCheck rfl rfl) ?_
 refine GL.gives rfl rfl rfl (Gives.fieldAddr (q := ⟨g, 0, none⟩) rfl rfl (fun _ => by kernel_rfl)) ?_
 refine GL.gives rfl rfl rfl (Gives.loadc (v := .slice (some ⟨gs, 0, none⟩) n cs) 0 rfl rfl pl28 rfl rfl) ?_
 refine GL.gives rfl rfl rfl (Gives.eqsl rfl rfl rfl Try.underlying28) ?_
 refine GL.gives rfl rfl rfl (Gives.pickF rfl rfl rfl rfl) ?_
 refine GL.gives rfl rfl rfl (Gives.assign rfl rfl) ?_
 refine GL.nil ?_
 refine GQ.thenN ?_
 refine GC.condF rfl rfl ?_
 refine GC.seq ?_
 refine GC.seq ?_
 refine GC.region ?_
 refine GL.gives rfl rfl rfl (Gives.move rfl rfl) ?_
 refine GL.gives rfl rfl rfl (Gives.nilCheck rfl rfl) ?_
 refine GL.gives rfl rfl rfl (Gives.fieldAddr (q := ⟨g, 3, none⟩) rfl rfl (fun _ => by kernel_rfl)) ?_
 refine GL.gives rfl rfl rfl (Gives.loadc (v := .bool m.b) 0 rfl rfl pl4 rfl rfl) ?_
 refine GL.gives rfl rfl rfl (Gives.assign rfl rfl) ?_
 refine GL.nil ?_
 refine GQ.thenN ?_
 refine GC.split (t := 13) rfl (fun hc13 => ?_) (fun hc13 => ?_)
 ·
   have _ := hc13
   refine GC.condT rfl rfl ?_
   refine GC.skip ?_
   refine GQ.thenN ?_
   refine GC.condT rfl rfl ?_
   refine GC.seq ?_
   refine GC.region ?_
   refine GL.gives rfl rfl rfl (Gives.move rfl rfl) ?_
   refine GL.gives rfl rfl rfl (Gives.nilCheck rfl rfl) ?_
   refine GL.gives rfl rfl rfl (Gives.fieldAddr (q := ⟨g, 3, none⟩) rfl rfl (fun _ => by kernel_rfl)) ?_
   refine GL.does0 [0] rfl rfl rfl (Does.store rfl rfl rfl sz4 rfl rfl rfl rfl) fun _ _ => ?_
   refine GL.nil ?_
   refine GQ.thenN ?_
   refine GC.seq ?_
   refine GC.region ?_
   refine GL.gives rfl rfl rfl (Gives.assign rfl rfl) ?_
   refine GL.nil ?_
   refine GQ.thenN ?_
   refine GC.ret ?_
   refine GQ.blkR ?_
   refine GQ.thenR ?_
   refine GQ.ret1 (.inl rfl) rfl rfl ?_
   intro w hs
   refine ⟨(), ?_, trivial, ?_⟩
   · simp [M.burn, *]
   · simpa [M.burn, *] using hs
 ·
   have _ := hc13
   refine GC.condF rfl rfl ?_
   refine GC.region ?_
   refine GL.gives rfl rfl rfl (Gives.move rfl rfl) ?_
   refine GL.gives rfl rfl rfl (Gives.nilCheck rfl rfl) ?_
   refine GL.gives rfl rfl rfl (Gives.fieldAddr (q := ⟨g, 2, none⟩) rfl rfl (fun _ => by kernel_rfl)) ?_
   refine GL.gives rfl rfl rfl (Gives.loadc (v := .int .i64 m.f) 0 rfl rfl pl3 rfl rfl) ?_
   refine GL.gives rfl rfl rfl (Gives.eqi rfl rfl rfl) ?_
   refine GL.gives rfl rfl rfl (Gives.assign rfl rfl) ?_
   refine GL.nil ?_
   refine GQ.thenN ?_
   refine GC.split (t := 13) rfl (fun hc13 => ?_) (fun hc13 => ?_)
   ·
     replace hc13 := by simpa using hc13
     refine GC.condT rfl rfl ?_
     refine GC.seq ?_
     refine GC.region ?_
     refine GL.gives rfl rfl rfl (Gives.move rfl rfl) ?_
     refine GL.gives rfl rfl rfl (Gives.nilCheck rfl rfl) ?_
     refine GL.gives rfl rfl rfl (Gives.fieldAddr (q := ⟨g, 3, none⟩) rfl rfl (fun _ => by kernel_rfl)) ?_
     refine GL.does0 [0] rfl rfl rfl (Does.store rfl rfl rfl sz4 rfl rfl rfl rfl) fun _ _ => ?_
     refine GL.nil ?_
     refine GQ.thenN ?_
     refine GC.seq ?_
     refine GC.region ?_
     refine GL.gives rfl rfl rfl (Gives.assign rfl rfl) ?_
     refine GL.nil ?_
     refine GQ.thenN ?_
     refine GC.ret ?_
     refine GQ.blkR ?_
     refine GQ.thenR ?_
     refine GQ.ret1 (.inl rfl) rfl rfl ?_
     intro w hs
     refine ⟨(), ?_, trivial, ?_⟩
     · simp [M.burn, *]
     · simpa [M.burn, *] using hs
   ·
     replace hc13 := by simpa using hc13
     refine GC.condF rfl rfl ?_
     refine GC.seq ?_
     refine GC.region ?_
     refine GL.gives rfl rfl rfl (Gives.move rfl rfl) ?_
     refine GL.gives rfl rfl rfl (Gives.nilCheck rfl rfl) ?_
     refine GL.gives rfl rfl rfl (Gives.fieldAddr (q := ⟨g, 2, none⟩) rfl rfl (fun _ => by kernel_rfl)) ?_
     refine GL.gives rfl rfl rfl (Gives.loadc (v := .int .i64 m.f) 0 rfl rfl pl3 rfl rfl) ?_
     refine GL.gives rfl rfl rfl (Gives.gtr rfl rfl rfl) ?_
     refine GL.gives rfl rfl rfl (Gives.assign rfl rfl) ?_
     refine GL.nil ?_
     refine GQ.thenN ?_
     refine GC.split (t := 26) rfl (fun hc26 => ?_) (fun hc26 => ?_)
     ·
       replace hc26 := of_decide_eq_true hc26
       refine GC.condT rfl rfl ?_
       refine GC.region ?_
       refine GL.gives rfl rfl rfl (Gives.move rfl rfl) ?_
       refine GL.gives rfl rfl rfl (Gives.nilCheck rfl rfl) ?_
       refine GL.gives rfl rfl rfl (Gives.fieldAddr (q := ⟨g, 2, none⟩) rfl rfl (fun _ => by kernel_rfl)) ?_
       refine GL.gives rfl rfl rfl (Gives.loadc (v := .int .i64 m.f) 0 rfl rfl pl3 rfl rfl) ?_
       refine GL.gives rfl rfl rfl (Gives.sub rfl rfl rfl (by omega)) ?_
       refine GL.gives rfl rfl rfl (Gives.nilCheck rfl rfl) ?_
       refine GL.gives rfl rfl rfl (Gives.fieldAddr (q := ⟨g, 2, none⟩) rfl rfl (fun _ => by kernel_rfl)) ?_
       refine GL.does0 [0] rfl rfl rfl (Does.store rfl rfl rfl sz3 rfl rfl rfl rfl) fun _ _ => ?_
       refine GL.nil ?_
       refine GQ.blkN ?_
       refine GQ.thenN ?_
       refine GC.seq ?_
       refine GC.region ?_
       refine GL.gives rfl rfl rfl (Gives.assign rfl rfl) ?_
       refine GL.nil ?_
       refine GQ.thenN ?_
       refine GC.ret ?_
       refine GQ.ret1 (.inl rfl) rfl rfl ?_
       intro w hs
       refine ⟨(), ?_, trivial, ?_⟩
       · simp [M.burn, *]
       · simpa [M.burn, *] using hs
     ·
       replace hc26 := of_decide_eq_false hc26
       refine GC.condF rfl rfl ?_
       refine GC.skip ?_
       refine GQ.blkN ?_
       refine GQ.thenN ?_
       refine GC.seq ?_
       refine GC.region ?_
       refine GL.gives rfl rfl rfl (Gives.assign rfl rfl) ?_
       refine GL.nil ?_
       refine GQ.thenN ?_
       refine GC.ret ?_
       refine GQ.ret1 (.inl rfl) rfl rfl ?_
       intro w hs
       refine ⟨(), ?_, trivial, ?_⟩
       · simp [M.burn, *]
       · simpa [M.burn, *] using hs

set_option maxRecDepth 100000 in
set_option maxHeartbeats 1000000 in
theorem blocks_con (g gs cs n : Nat) (vl : Value) (m : M) (S : World → Prop) :
    Con Try.prog 7 [.pointer (some ⟨g, 0, none⟩)] S [Cells g #[.slice (some ⟨gs, 0, none⟩) n cs, vl, .int .i64 m.f, .bool m.b] 50] (fun _ : Unit => .int .i64 (n : Nat)) (fun _ => True)
      (fun _ => [Cells g #[.slice (some ⟨gs, 0, none⟩) n cs, vl, .int .i64 m.f, .bool m.b] 50]) := by
 intro w F0 _ hs hlt
 refine enter (args := [.pointer (some ⟨g, 0, none⟩)]) Try.func7 rfl rfl rfl hs ?_
 refine GC.seq ?_
 refine GC.region ?_
 refine GL.gives rfl rfl rfl (Gives.assign rfl rfl) ?_
 refine GL.nil ?_
 refine GQ.thenN ?_
 refine GC.seq ?_
 refine GC.seq ?_
 refine GC.region ?_
 refine GL.gives rfl rfl rfl (Gives.move rfl rfl) ?_
 refine GL.gives rfl rfl rfl (Gives.eqp rfl rfl rfl Try.underlying24) ?_
 refine GL.nil ?_
 refine GQ.thenN ?_
 refine GC.condF rfl rfl ?_
 refine GC.skip ?_
 refine GQ.thenN ?_
 refine GC.seq ?_
 refine GC.region ?_
 refine GL.gives rfl rfl rfl (Gives.move rfl rfl) ?_
 refine GL.gives rfl rfl rfl (Gives.nilCheck rfl rfl) ?_
 refine GL.gives rfl rfl rfl (Gives.fieldAddr (q := ⟨g, 0, none⟩) rfl rfl (fun _ => by kernel_rfl)) ?_
 refine GL.gives rfl rfl rfl (Gives.loadc (v := .slice (some ⟨gs, 0, none⟩) n cs) 0 rfl rfl pl28 rfl rfl) ?_
 refine GL.gives rfl rfl rfl (Gives.len rfl rfl Try.underlying28) ?_
 refine GL.gives rfl rfl rfl (Gives.assign rfl rfl) ?_
 refine GL.nil ?_
 refine GQ.thenN ?_
 refine GC.ret ?_
 refine GQ.ret1 (.inl rfl) rfl rfl ?_
 intro w hs
 exact ⟨(), rfl, trivial, hs⟩

set_option maxRecDepth 100000 in
set_option maxHeartbeats 1000000 in
theorem blocks_nil (S : World → Prop) : Con Try.prog 7 [.pointer none] S [] (fun _ : Unit => .int .i64 0) (fun _ => True) (fun _ => []) := by
 intro w F0 _ hs hlt
 refine enter (args := [.pointer none]) Try.func7 rfl rfl rfl hs ?_
 refine GC.seq ?_
 refine GC.region ?_
 refine GL.gives rfl rfl rfl (Gives.assign rfl rfl) ?_
 refine GL.nil ?_
 refine GQ.thenN ?_
 refine GC.seq ?_
 refine GC.seq ?_
 refine GC.region ?_
 refine GL.gives rfl rfl rfl (Gives.move rfl rfl) ?_
 refine GL.gives rfl rfl rfl (Gives.eqp rfl rfl rfl Try.underlying24) ?_
 refine GL.nil ?_
 refine GQ.thenN ?_
 refine GC.condT rfl rfl ?_
 refine GC.seq ?_
 refine GC.region ?_
 refine GL.gives rfl rfl rfl (Gives.assign rfl rfl) ?_
 refine GL.nil ?_
 refine GQ.thenN ?_
 refine GC.ret ?_
 refine GQ.thenR ?_
 refine GQ.ret1 (.inl rfl) rfl rfl ?_
 intro w hs
 exact ⟨(), rfl, trivial, hs⟩

set_option maxRecDepth 100000 in
set_option maxHeartbeats 1000000 in
theorem fuse_con (g gs cs n : Nat) (vl : Value) (m : M) (k : Int) (S : World → Prop) :
    Con Try.prog 16 [.pointer (some ⟨g, 0, none⟩), .int .i64 k] S [Cells g #[.slice (some ⟨gs, 0, none⟩) n cs, vl, .int .i64 m.f, .bool m.b] 50] (fun _ : Unit => .tuple #[]) (fun _ => True)
      (fun _ => [Cells g #[.slice (some ⟨gs, 0, none⟩) n cs, vl, .int .i64 k, .bool m.b] 50]) := by
 intro w F0 _ hs hlt
 refine enter (args := [.pointer (some ⟨g, 0, none⟩), .int .i64 k]) Try.func16 rfl rfl rfl hs ?_
 refine GC.seq ?_
 refine GC.region ?_
 refine GL.gives rfl rfl rfl (Gives.move rfl rfl) ?_
 refine GL.gives rfl rfl rfl (Gives.nep rfl rfl rfl Try.underlying24) ?_
 refine GL.nil ?_
 refine GQ.thenN ?_
 refine GC.condT rfl rfl ?_
 refine GC.region ?_
 refine GL.gives rfl rfl rfl (Gives.move rfl rfl) ?_
 refine GL.gives rfl rfl rfl (Gives.move rfl rfl) ?_
 refine GL.gives rfl rfl rfl (Gives.nilCheck rfl rfl) ?_
 refine GL.gives rfl rfl rfl (Gives.fieldAddr (q := ⟨g, 2, none⟩) rfl rfl (fun _ => by kernel_rfl)) ?_
 refine GL.does0 [0] rfl rfl rfl (Does.store rfl rfl rfl sz3 rfl rfl rfl rfl) fun _ _ => ?_
 refine GL.nil ?_
 refine GQ.ret0 (.inr rfl) rfl ?_
 intro w hs
 exact ⟨(), rfl, trivial, hs⟩

set_option maxRecDepth 100000 in
set_option maxHeartbeats 1000000 in
theorem new_no (n : Int) (hn : n < 1 ∨ 4096 < n) (S : World → Prop) : Con Try.prog 5 [.int .i64 n] S [] (fun _ : Unit => .tuple #[.pointer none, .int .i64 1]) (fun _ => True) (fun _ => []) := by
 intro w F0 _ hs hlt
 refine enter (args := [.int .i64 n]) Try.func5 rfl rfl rfl hs ?_
 refine GC.seq ?_
 refine GC.region ?_
 refine GL.gives rfl rfl rfl (Gives.assign rfl rfl) ?_
 refine GL.gives rfl rfl rfl (Gives.assign rfl rfl) ?_
 refine GL.nil ?_
 refine GQ.thenN ?_
 refine GC.seq ?_
 refine GC.seq ?_
 refine GC.region ?_
 refine GL.gives rfl rfl rfl (Gives.move rfl rfl) ?_
 refine GL.gives rfl rfl rfl (Gives.lss rfl rfl rfl) ?_
 refine GL.gives rfl rfl rfl (Gives.move rfl rfl) ?_
 refine GL.split (t := 6) rfl (fun ht6 => ?_) (fun ht6 => ?_)
 ·
   replace ht6 := of_decide_eq_true ht6
   refine GL.skip rfl rfl rfl ?_
   refine GL.skip rfl rfl rfl ?_
   refine GL.gives rfl rfl rfl (Gives.pickT rfl rfl rfl rfl) ?_
   refine GL.nil ?_
   refine GQ.thenN ?_
   refine GC.condT rfl rfl ?_
   refine GC.seq ?_
   refine GC.region ?_
   refine GL.gives rfl rfl rfl (Gives.assign rfl rfl) ?_
   refine GL.gives rfl rfl rfl (Gives.assign rfl rfl) ?_
   refine GL.nil ?_
   refine GQ.thenN ?_
   refine GC.ret ?_
   refine GQ.thenR ?_
   refine GQ.ret2 (.inl rfl) rfl rfl rfl ?_
   intro w hs
   exact ⟨(), rfl, trivial, hs⟩
 ·
   replace ht6 := of_decide_eq_false ht6
   refine GL.gives rfl rfl rfl (Gives.move rfl rfl) ?_
   refine GL.gives rfl rfl rfl (Gives.gtr rfl rfl rfl) ?_
   refine GL.gives rfl rfl rfl (Gives.pickF rfl rfl rfl rfl) ?_
   refine GL.nil ?_
   refine GQ.thenN ?_
   refine GC.condT rfl (decide_eq_true (by omega)) ?_
   refine GC.seq ?_
   refine GC.region ?_
   refine GL.gives rfl rfl rfl (Gives.assign rfl rfl) ?_
   refine GL.gives rfl rfl rfl (Gives.assign rfl rfl) ?_
   refine GL.nil ?_
   refine GQ.thenN ?_
   refine GC.ret ?_
   refine GQ.thenR ?_
   refine GQ.ret2 (.inl rfl) rfl rfl rfl ?_
   intro w hs
   exact ⟨(), rfl, trivial, hs⟩

set_option maxRecDepth 100000 in
set_option maxHeartbeats 1000000 in
theorem new_con (B : Nat) (n : Int) (hn : 1 ≤ n ∧ n ≤ 4096) (S : World → Prop) (hBS : ∀ w, S w → B ≤ w.heap.size) : Con Try.prog 5 [.int .i64 n] S [] (fun s : Nat × Nat × Nat => .tuple #[.pointer (some ⟨s.1, 0, none⟩), .int .i64 0]) (fun _ => True)
      (fun s => DK B s.1 s.2.1 s.2.2 n.toNat (.slice none 0 0) ⟨List.replicate n.toNat ⟨#[]⟩, [], -1, false⟩) := by
 intro w F0 hS hs hlt
 have hB := hBS w hS
 refine enter (args := [.int .i64 n]) Try.func5 rfl rfl rfl hs ?_
 refine GC.seq ?_
 refine GC.region ?_
 refine GL.gives rfl rfl rfl (Gives.assign rfl rfl) ?_
 refine GL.gives rfl rfl rfl (Gives.assign rfl rfl) ?_
 refine GL.nil ?_
 refine GQ.thenN ?_
 refine GC.seq ?_
 refine GC.seq ?_
 refine GC.region ?_
 refine GL.gives rfl rfl rfl (Gives.move rfl rfl) ?_
 refine GL.gives rfl rfl rfl (Gives.lss rfl rfl rfl) ?_
 refine GL.gives rfl rfl rfl (Gives.move rfl rfl) ?_
 refine GL.learn (t := 6) (v' := .bool false) rfl (congrArg Value.bool (decide_eq_false (by omega))) ?_
 refine GL.gives rfl rfl rfl (Gives.move rfl rfl) ?_
 refine GL.gives rfl rfl rfl (Gives.gtr rfl rfl rfl) ?_
 refine GL.gives rfl rfl rfl (Gives.pickF rfl rfl rfl rfl) ?_
 refine GL.nil ?_
 refine GQ.thenN ?_
 refine GC.condF rfl (decide_eq_false (by omega)) ?_
 refine GC.skip ?_
 refine GQ.thenN ?_
 refine GC.seq ?_
 refine GC.region ?_
 refine GL.gives rfl rfl rfl (Gives.move rfl rfl) ?_
 refine GL.does [] rfl rfl rfl rfl (Does.make (kd := Kd.string) (⟨#[]⟩ : ByteArray) (Bs hB) rfl rfl rfl Try.underlying28 in9 rfl (by decide) (by decide) (fun _ _ => rfl) (by omega) (by omega)) fun v _ => ?_
 refine GL.know (row_form (i := 0) rfl (by simp; omega)) fun ⟨gs, cs, hv⟩ => ?_
 rw [List.length_replicate] at hv
 subst hv
 refine GL.gives rfl rfl rfl (Gives.build (v := .agg #[.slice (some ⟨gs, 0, none⟩) n.toNat cs, .slice none 0 0, .int .i64 (-1), .bool false]) rfl rfl (fun _ => by kernel_rfl)) ?_
 refine GL.does [] rfl rfl rfl rfl (Does.box (cs := #[.slice (some ⟨gs, 0, none⟩) n.toNat cs, .slice none 0 0, .int .i64 (-1), .bool false]) (Bs hB) rfl rfl rfl) fun g hg => ?_
 refine GL.gives rfl rfl rfl (Gives.assign rfl rfl) ?_
 refine GL.gives rfl rfl rfl (Gives.assign rfl rfl) ?_
 refine GL.nil ?_
 refine GQ.thenN ?_
 refine GC.ret ?_
 refine GQ.ret2 (.inl rfl) rfl rfl rfl ?_
 intro w hs
 exact ⟨(g, gs, cs), rfl, trivial, (hs.turn (is := []) rfl (Turns.nilRow (B := B) (e := 59) kW)).take (is := [1, 1, 0]) rfl⟩

set_option maxRecDepth 100000 in
set_option maxHeartbeats 1000000 in
theorem write_con (B g gs cs n : Nat) (vl : Value) (m : M) (i : Int) (d : ByteArray) (hm : m.Ok n) (hr : m.L.length < 1000000000000) (S : World → Prop) (hBS : ∀ w, S w → B ≤ w.heap.size) :
    Con Try.prog 11 [.pointer (some ⟨g, 0, none⟩), .int .i64 i, .string d] S (DK B g gs cs n vl m) (fun _ : Value => .int .i64 (m.write i d).2) (fun _ => True) (fun vl' => DK B g gs cs n vl' (m.write i d).1) := by
 intro w F0 hS hs hlt
 have hB := hBS w hS
 have hlen := hm.len
 obtain ⟨hk1, hk2⟩ := burn_keeps m
 refine enter (args := [.pointer (some ⟨g, 0, none⟩), .int .i64 i, .string d]) Try.func11 rfl rfl rfl hs ?_
 refine GC.seq ?_
 refine GC.region ?_
 refine GL.gives rfl rfl rfl (Gives.assign rfl rfl) ?_
 refine GL.nil ?_
 refine GQ.thenN ?_
 refine GC.meet (σ := Unit) (fun _ => [(0, .pointer (some ⟨g, 0, none⟩)), (1, .int .i64 i), (2, .string d)]) (fun _ => DK B g gs cs n vl m) (fun _ => ¬ (m.b = false ∧ (i < 0 ∨ m.S.length ≤ i ∨ 256 < d.size))) ?_ ?_
 ·
   refine GC.seq ?_
   refine GC.region ?_
   refine GL.gives rfl rfl rfl (Gives.move rfl rfl) ?_
   refine GL.gives rfl rfl rfl (Gives.nep rfl rfl rfl Try.underlying24) ?_
   refine GL.gives rfl rfl rfl (Gives.move rfl rfl) ?_
   refine GL.gives rfl rfl rfl (Gives.move rfl rfl) ?_
   refine GL.gives rfl rfl rfl (Gives.nilCheck rfl rfl) ?_
   refine GL.gives rfl rfl rfl (Gives.fieldAddr (q := ⟨g, 0, none⟩) rfl rfl (fun _ => by kernel_rfl)) ?_
   refine GL.gives rfl rfl rfl (Gives.loadc (v := .slice (some ⟨gs, 0, none⟩) n cs) 0 rfl rfl pl28 rfl rfl) ?_
   refine GL.gives rfl rfl rfl (Gives.nesl rfl rfl rfl Try.underlying28) ?_
   refine GL.gives rfl rfl rfl (Gives.pickT rfl rfl rfl rfl) ?_
   refine GL.gives rfl rfl rfl (Gives.move rfl rfl) ?_
   refine GL.gives rfl rfl rfl (Gives.move rfl rfl) ?_
   refine GL.gives rfl rfl rfl (Gives.nilCheck rfl rfl) ?_
   refine GL.gives rfl rfl rfl (Gives.fieldAddr (q := ⟨g, 3, none⟩) rfl rfl (fun _ => by kernel_rfl)) ?_
   refine GL.gives rfl rfl rfl (Gives.loadc (v := .bool m.b) 0 rfl rfl pl4 rfl rfl) ?_
   refine GL.gives rfl rfl rfl (Gives.not rfl rfl) ?_
   refine GL.gives rfl rfl rfl (Gives.pickT rfl rfl rfl rfl) ?_
   refine GL.gives rfl rfl rfl (Gives.move rfl rfl) ?_
   refine GL.split (t := 24) rfl (fun ht24 => ?_) (fun ht24 => ?_)
   ·
     replace ht24 := by simpa using ht24
     refine GL.gives rfl rfl rfl (Gives.move rfl rfl) ?_
     refine GL.gives rfl rfl rfl (Gives.lss rfl rfl rfl) ?_
     refine GL.gives rfl rfl rfl (Gives.move rfl rfl) ?_
     refine GL.split (t := 27) rfl (fun ht27 => ?_) (fun ht27 => ?_)
     ·
       replace ht27 := of_decide_eq_true ht27
       refine GL.skip rfl rfl rfl ?_
       refine GL.skip rfl rfl rfl ?_
       refine GL.skip rfl rfl rfl ?_
       refine GL.skip rfl rfl rfl ?_
       refine GL.skip rfl rfl rfl ?_
       refine GL.skip rfl rfl rfl ?_
       refine GL.skip rfl rfl rfl ?_
       refine GL.gives rfl rfl rfl (Gives.pickT rfl rfl rfl rfl) ?_
       refine GL.gives rfl rfl rfl (Gives.move rfl rfl) ?_
       refine GL.skip rfl rfl rfl ?_
       refine GL.skip rfl rfl rfl ?_
       refine GL.skip rfl rfl rfl ?_
       refine GL.gives rfl rfl rfl (Gives.pickT rfl rfl rfl rfl) ?_
       refine GL.gives rfl rfl rfl (Gives.pickT rfl rfl rfl rfl) ?_
       refine GL.nil ?_
       refine GQ.thenN ?_
       refine GC.condT rfl rfl ?_
       refine GC.seq ?_
       refine GC.region ?_
       refine GL.gives rfl rfl rfl (Gives.assign rfl rfl) ?_
       refine GL.nil ?_
       refine GQ.thenN ?_
       refine GC.ret ?_
       refine GQ.thenR ?_
       refine GQ.ret1 (.inl rfl) rfl rfl ?_
       intro w hs
       refine ⟨vl, ?_, trivial, ?_⟩
       · unfold M.write; rw [if_pos ⟨by assumption, by omega⟩]
       · unfold M.write; rw [if_pos ⟨by assumption, by omega⟩]; exact hs
     ·
       replace ht27 := of_decide_eq_false ht27
       refine GL.gives rfl rfl rfl (Gives.move rfl rfl) ?_
       refine GL.gives rfl rfl rfl (Gives.move rfl rfl) ?_
       refine GL.gives rfl rfl rfl (Gives.nilCheck rfl rfl) ?_
       refine GL.gives rfl rfl rfl (Gives.fieldAddr (q := ⟨g, 0, none⟩) rfl rfl (fun _ => by kernel_rfl)) ?_
       refine GL.gives rfl rfl rfl (Gives.loadc (v := .slice (some ⟨gs, 0, none⟩) n cs) 0 rfl rfl pl28 rfl rfl) ?_
       refine GL.gives rfl rfl rfl (Gives.len rfl rfl Try.underlying28) ?_
       refine GL.gives rfl rfl rfl (Gives.geq rfl rfl rfl) ?_
       refine GL.gives rfl rfl rfl (Gives.pickF rfl rfl rfl rfl) ?_
       refine GL.gives rfl rfl rfl (Gives.move rfl rfl) ?_
       refine GL.split (t := 36) rfl (fun ht36 => ?_) (fun ht36 => ?_)
       ·
         replace ht36 := of_decide_eq_true ht36
         refine GL.skip rfl rfl rfl ?_
         refine GL.skip rfl rfl rfl ?_
         refine GL.skip rfl rfl rfl ?_
         refine GL.gives rfl rfl rfl (Gives.pickT rfl rfl rfl rfl) ?_
         refine GL.gives rfl rfl rfl (Gives.pickT rfl rfl rfl rfl) ?_
         refine GL.nil ?_
         refine GQ.thenN ?_
         refine GC.condT rfl rfl ?_
         refine GC.seq ?_
         refine GC.region ?_
         refine GL.gives rfl rfl rfl (Gives.assign rfl rfl) ?_
         refine GL.nil ?_
         refine GQ.thenN ?_
         refine GC.ret ?_
         refine GQ.thenR ?_
         refine GQ.ret1 (.inl rfl) rfl rfl ?_
         intro w hs
         refine ⟨vl, ?_, trivial, ?_⟩
         · unfold M.write; rw [if_pos ⟨by assumption, by omega⟩]
         · unfold M.write; rw [if_pos ⟨by assumption, by omega⟩]; exact hs
       ·
         replace ht36 := of_decide_eq_false ht36
         refine GL.gives rfl rfl rfl (Gives.move rfl rfl) ?_
         refine GL.gives rfl rfl rfl (Gives.lens rfl rfl Try.underlying9) ?_
         refine GL.gives rfl rfl rfl (Gives.gtr rfl rfl rfl) ?_
         refine GL.gives rfl rfl rfl (Gives.pickF rfl rfl rfl rfl) ?_
         refine GL.gives rfl rfl rfl (Gives.pickT rfl rfl rfl rfl) ?_
         refine GL.nil ?_
         refine GQ.thenN ?_
         refine GC.split (t := 41) rfl (fun hc41 => ?_) (fun hc41 => ?_)
         ·
           replace hc41 := of_decide_eq_true hc41
           refine GC.condT rfl rfl ?_
           refine GC.seq ?_
           refine GC.region ?_
           refine GL.gives rfl rfl rfl (Gives.assign rfl rfl) ?_
           refine GL.nil ?_
           refine GQ.thenN ?_
           refine GC.ret ?_
           refine GQ.thenR ?_
           refine GQ.ret1 (.inl rfl) rfl rfl ?_
           intro w hs
           refine ⟨vl, ?_, trivial, ?_⟩
           · unfold M.write; rw [if_pos ⟨by assumption, by omega⟩]
           · unfold M.write; rw [if_pos ⟨by assumption, by omega⟩]; exact hs
         ·
           replace hc41 := of_decide_eq_false hc41
           refine GC.condF rfl rfl ?_
           refine GC.skip ?_
           refine GQ.meet () [0, 0, 0] (fun hc => ?_) ⟨rfl, rfl, rfl, trivial⟩ rfl
           first | omega | simp_all
   ·
     replace ht24 := by simpa using ht24
     refine GL.skip rfl rfl rfl ?_
     refine GL.skip rfl rfl rfl ?_
     refine GL.skip rfl rfl rfl ?_
     refine GL.skip rfl rfl rfl ?_
     refine GL.skip rfl rfl rfl ?_
     refine GL.skip rfl rfl rfl ?_
     refine GL.skip rfl rfl rfl ?_
     refine GL.skip rfl rfl rfl ?_
     refine GL.skip rfl rfl rfl ?_
     refine GL.skip rfl rfl rfl ?_
     refine GL.skip rfl rfl rfl ?_
     refine GL.skip rfl rfl rfl ?_
     refine GL.skip rfl rfl rfl ?_
     refine GL.skip rfl rfl rfl ?_
     refine GL.skip rfl rfl rfl ?_
     refine GL.skip rfl rfl rfl ?_
     refine GL.gives rfl rfl rfl (Gives.pickF rfl rfl rfl rfl) ?_
     refine GL.nil ?_
     refine GQ.thenN ?_
     refine GC.condF rfl rfl ?_
     refine GC.skip ?_
     refine GQ.meet () [0, 0, 0] (fun hc => ?_) ⟨rfl, rfl, rfl, trivial⟩ rfl
     first | omega | simp_all
 ·
   rintro _ hno
   change GC _ _ _ _ _ _ [Cells g #[.slice (some ⟨gs, 0, none⟩) n cs, vl, .int .i64 m.f, .bool m.b] 50, Row B Kd.string 9 (.slice (some ⟨gs, 0, none⟩) n cs) m.S, Row B kW 59 vl m.L] _
   refine GC.seq ?_
   refine GC.seq ?_
   refine GC.region ?_
   refine GL.gives rfl rfl rfl (Gives.move rfl rfl) ?_
   refine GL.does [0] rfl rfl rfl rfl (Does.call rfl rfl Try.func19 rfl rfl (spend_con g gs cs n vl m hm.fuse _)) fun _ _ => ?_
   refine GL.gives rfl rfl rfl (Gives.assign rfl rfl) ?_
   refine GL.nil ?_
   refine GQ.thenN ?_
   refine GC.seq ?_
   refine GC.region ?_
   refine GL.gives rfl rfl rfl (Gives.move rfl rfl) ?_
   refine GL.gives rfl rfl rfl (Gives.nei rfl rfl rfl) ?_
   refine GL.nil ?_
   refine GQ.thenN ?_
   refine GC.split (t := 45) rfl (fun he => ?_) (fun he => ?_)
   ·
     replace he := by simpa using he
     refine GC.condT rfl rfl ?_
     refine GC.seq ?_
     refine GC.region ?_
     refine GL.gives rfl rfl rfl (Gives.move rfl rfl) ?_
     refine GL.gives rfl rfl rfl (Gives.assign rfl rfl) ?_
     refine GL.nil ?_
     refine GQ.thenN ?_
     refine GC.ret ?_
     refine GQ.thenR ?_
     refine GQ.ret1 (.inl rfl) rfl rfl ?_
     intro w hs
     refine ⟨vl, ?_, trivial, ?_⟩
     · unfold M.write; rw [if_neg hno, if_neg he]
     · unfold M.write; rw [if_neg hno, if_neg he]; unfold DK; rw [hk1, hk2]; exact hs
   ·
     replace he := by simpa using he
     refine GC.condF rfl rfl ?_
     refine GC.skip ?_
     refine GQ.thenN ?_
     refine GC.seq ?_
     refine GC.region ?_
     refine GL.gives rfl rfl rfl (Gives.move rfl rfl) ?_
     refine GL.gives rfl rfl rfl (Gives.move rfl rfl) ?_
     refine GL.gives rfl rfl rfl (Gives.nilCheck rfl rfl) ?_
     refine GL.gives rfl rfl rfl (Gives.fieldAddr (q := ⟨g, 1, none⟩) rfl rfl (fun _ => by kernel_rfl)) ?_
     refine GL.gives rfl rfl rfl (Gives.loadc (v := vl) 0 rfl rfl pl48 rfl rfl) ?_
     refine GL.gives rfl rfl rfl (Gives.move rfl rfl) ?_
     refine GL.gives rfl rfl rfl (Gives.move rfl rfl) ?_
     refine GL.gives rfl rfl rfl (Gives.build (v := .agg #[.int .i64 i, .string d]) rfl rfl (fun _ => by kernel_rfl)) ?_
     refine GL.does [] rfl rfl rfl rfl (Does.lit (m := 1) (cs := #[.int .i64 i, .string d]) (e := 59) (Bs hB) rfl rfl (fun _ => by kernel_rfl)) fun g1 hg1 => ?_
     
     refine GL.does [3] rfl rfl rfl rfl (Does.appends (kd := kW) (Bs hB) rfl rfl rfl Try.underlying48 in59 rfl (by decide) (by decide) kW_flat (C_box (kd := kW) (i := 0) (p := (i, d)) (inner := [.int .i64 i, .string d]) rfl (fun w => ⟨[_], [_], rfl, rfl, rfl⟩)) (by omega)) fun vl' _ => ?_
     refine GL.know (row_slice (i := 0) rfl) fun ⟨A', c', hv', _⟩ => ?_
     subst hv'
     refine GL.gives rfl rfl rfl (Gives.nilCheck rfl rfl) ?_
     refine GL.gives rfl rfl rfl (Gives.fieldAddr (q := ⟨g, 1, none⟩) rfl rfl (fun _ => by kernel_rfl)) ?_
     refine GL.does0 [2] rfl rfl rfl (Does.store rfl rfl rfl sz48 rfl rfl rfl rfl) fun _ _ => ?_
     refine GL.nil ?_
     refine GQ.thenN ?_
     refine GC.seq ?_
     refine GC.region ?_
     refine GL.gives rfl rfl rfl (Gives.assign rfl rfl) ?_
     refine GL.nil ?_
     refine GQ.thenN ?_
     refine GC.ret ?_
     refine GQ.ret1 (.inl rfl) rfl rfl ?_
     intro w hs
     refine ⟨.slice A' (m.L ++ [(i, d)]).length c', ?_, trivial, ?_⟩
     · unfold M.write; rw [if_neg hno, if_pos he]
     · unfold M.write; rw [if_neg hno, if_pos he]; unfold DK; simp only [hk1]; exact hs.take (is := [0, 2, 0]) rfl

set_option maxRecDepth 100000 in
set_option maxHeartbeats 1000000 in
theorem sync_con (B g gs cs n : Nat) (vl : Value) (m : M) (hm : m.Ok n) (S : World → Prop) (hBS : ∀ w, S w → B ≤ w.heap.size) :
    Con Try.prog 12 [.pointer (some ⟨g, 0, none⟩)] S (DK B g gs cs n vl m) (fun _ : Value => .int .i64 m.sync.2) (fun _ => True) (fun vl' => DK B g gs cs n vl' m.sync.1) := by
 intro w F0 hS hs hlt
 have hB := hBS w hS
 have hlen := hm.len
 have hroom := hm.room
 obtain ⟨hk1, hk2⟩ := burn_keeps m
 refine enter (args := [.pointer (some ⟨g, 0, none⟩)]) Try.func12 rfl rfl rfl hs ?_
 refine GC.seq ?_
 refine GC.region ?_
 refine GL.gives rfl rfl rfl (Gives.assign rfl rfl) ?_
 refine GL.nil ?_
 refine GQ.thenN ?_
 refine GC.seq ?_
 refine GC.seq ?_
 refine GC.region ?_
 refine GL.gives rfl rfl rfl (Gives.move rfl rfl) ?_
 refine GL.does [0] rfl rfl rfl rfl (Does.call rfl rfl Try.func19 rfl rfl (spend_con g gs cs n vl m hm.fuse _)) fun _ _ => ?_
 refine GL.gives rfl rfl rfl (Gives.assign rfl rfl) ?_
 refine GL.nil ?_
 refine GQ.thenN ?_
 refine GC.seq ?_
 refine GC.region ?_
 refine GL.gives rfl rfl rfl (Gives.move rfl rfl) ?_
 refine GL.gives rfl rfl rfl (Gives.nei rfl rfl rfl) ?_
 refine GL.nil ?_
 refine GQ.thenN ?_
 refine GC.split (t := 9) rfl (fun he => ?_) (fun he => ?_)
 ·
   replace he := by simpa using he
   refine GC.condT rfl rfl ?_
   refine GC.seq ?_
   refine GC.region ?_
   refine GL.gives rfl rfl rfl (Gives.move rfl rfl) ?_
   refine GL.gives rfl rfl rfl (Gives.assign rfl rfl) ?_
   refine GL.nil ?_
   refine GQ.thenN ?_
   refine GC.ret ?_
   refine GQ.thenR ?_
   refine GQ.ret1 (.inl rfl) rfl rfl ?_
   intro w hs
   refine ⟨vl, ?_, trivial, ?_⟩
   · unfold M.sync; rw [if_neg he]
   · unfold M.sync; rw [if_neg he]; unfold DK; rw [hk1, hk2]; exact hs
 ·
   replace he := by simpa using he
   refine GC.condF rfl rfl ?_
   refine GC.skip ?_
   refine GQ.thenN ?_
   refine GC.seq ?_
   refine GC.seq ?_
   refine GC.know (row_slice (i := 2) rfl) fun ⟨A, c, hv, hle⟩ => ?_
   subst hv
   refine GC.region ?_
   refine GL.gives rfl rfl rfl (Gives.move rfl rfl) ?_
   refine GL.gives rfl rfl rfl (Gives.nilCheck rfl rfl) ?_
   refine GL.gives rfl rfl rfl (Gives.fieldAddr (q := ⟨g, 1, none⟩) rfl rfl (fun _ => by kernel_rfl)) ?_
   refine GL.gives rfl rfl rfl (Gives.loadc (v := .slice A m.L.length c) 0 rfl rfl pl48 rfl rfl) ?_
   refine GL.gives rfl rfl rfl (Gives.len rfl rfl Try.underlying48) ?_
   refine GL.gives rfl rfl rfl (Gives.move rfl rfl) ?_
   refine GL.nil ?_
   refine GQ.thenN ?_
   refine GC.block ?_
   refine GC.loop (σ := Int) (fun k => [(0, .pointer (some ⟨g, 0, none⟩)), (14, .slice A m.L.length c), (15, .int .i64 ((m.L.length : Nat) : Int)), (16, .int .i64 k)])
     (fun k => [Cells g #[.slice (some ⟨gs, 0, none⟩) n cs, .slice A m.L.length c, .int .i64 m.burn.1.f, .bool m.burn.1.b] 50, Row B Kd.string 9 (.slice (some ⟨gs, 0, none⟩) n cs) (laid m.S (m.L.take k.toNat)), Row B kW 59 (.slice A m.L.length c) m.L]) (fun k => 0 ≤ k ∧ k ≤ m.L.length) (fun k => (m.L.length - k).toNat) 0 [0, 0, 0] ⟨by omega, by omega⟩ ⟨rfl, rfl, rfl, rfl, trivial⟩ rfl ?_
   rintro k ⟨hk0, hkl⟩
   refine GC.seq ?_
   refine GC.region ?_
   refine GL.gives rfl rfl rfl (Gives.lss rfl rfl rfl) ?_
   refine GL.nil ?_
   refine GQ.thenN ?_
   refine GC.seq ?_
   refine GC.split (t := 17) rfl (fun hlt_ => ?_) (fun hlt_ => ?_)
   ·
     replace hlt_ := of_decide_eq_true hlt_
     refine GC.condT rfl rfl ?_
     refine GC.skip ?_
     refine GQ.thenN ?_
     refine GC.seq ?_
     refine GC.block ?_
     refine GC.seq ?_
     refine GC.region ?_
     refine GL.know (row_some (i := 2) rfl (by omega)) fun ⟨p, hp⟩ => ?_
     subst hp
     refine GL.gives rfl rfl rfl (Gives.indexAddr (i := k) rfl rfl rfl Try.underlying48 sz59 (by omega) (by omega)) ?_
     refine GL.gives rfl rfl rfl (show Gives _ _ _ _ _ (.agg #[.int .i64 (rdOf zW m.L k).1, .string (rdOf zW m.L k).2]) from Gives.loadRow (kd := kW) (p := p) (m := m.L.length) (i := k) zW kW_encs rfl rfl ag59 sz59 (row_C (i := 2) rfl) (by omega) (by omega)) ?_
     refine GL.does [] rfl rfl rfl rfl (Does.alloc (Bs hB) rfl al59) fun g1 hg1 => ?_
     refine GL.does0 [0] rfl rfl rfl (Does.storeb rfl rfl rfl sz59 (by simp [Value.oneCell']) rfl) fun _ _ => ?_
     refine GL.nil ?_
     refine GQ.thenN ?_
     refine GC.draw (fun w => St _ _ w _) [9] #[false, false, false, false, false, false, false, false, false, false] mixed_ rfl rfl (fun _ h => h) ?_
     refine GA.pure 0 #[true, false, false, false, false, false, false, false, false, false] (by repeat (first | exact PanicOk.body | refine PanicOk.then ?_ | refine PanicOk.block ?_)) rfl rfl (by kernel_rfl) rfl rfl (Gives.move rfl rfl) ?_
     refine GA.pure 1 #[true, true, false, false, false, false, false, false, false, false] (by repeat (first | exact PanicOk.body | refine PanicOk.then ?_ | refine PanicOk.block ?_)) rfl rfl (by kernel_rfl) rfl rfl (Gives.nilCheck rfl rfl) ?_
     refine GA.pure 2 #[true, true, true, false, false, false, false, false, false, false] (by repeat (first | exact PanicOk.body | refine PanicOk.then ?_ | refine PanicOk.block ?_)) rfl rfl (by kernel_rfl) rfl rfl (Gives.fieldAddr (q := ⟨g, 0, none⟩) rfl rfl (fun _ => by kernel_rfl)) ?_
     refine GA.take 3 #[true, true, true, true, false, false, false, false, false, false] (by repeat (first | exact PanicOk.body | refine PanicOk.then ?_ | refine PanicOk.block ?_)) rfl rfl (by kernel_rfl) rfl rfl (fun _ h => h) (Gives.loadc (v := .slice (some ⟨gs, 0, none⟩) n cs) 1 rfl rfl pl28 rfl rfl) ?_
     refine GA.pure 4 #[true, true, true, true, true, false, false, false, false, false] (by repeat (first | exact PanicOk.body | refine PanicOk.then ?_ | refine PanicOk.block ?_)) rfl rfl (by kernel_rfl) rfl rfl (Gives.fieldAddr (q := ⟨g1, 0, none⟩) rfl rfl (fun _ => by kernel_rfl)) ?_
     refine GA.take 5 #[true, true, true, true, true, true, false, false, false, false] (by repeat (first | exact PanicOk.body | refine PanicOk.then ?_ | refine PanicOk.block ?_)) rfl rfl (by kernel_rfl) rfl rfl (fun _ h => h) (Gives.loadc (v := .int .i64 (rdOf zW m.L k).1) 0 rfl rfl pl3 rfl rfl) ?_
     refine GA.pure 6 #[true, true, true, true, true, true, true, false, false, false] (by repeat (first | exact PanicOk.body | refine PanicOk.then ?_ | refine PanicOk.block ?_)) rfl rfl (by kernel_rfl) rfl rfl (Gives.fieldAddr (q := ⟨g1, 1, none⟩) rfl rfl (fun _ => by kernel_rfl)) ?_
     refine GA.take 7 #[true, true, true, true, true, true, true, true, false, false] (by repeat (first | exact PanicOk.body | refine PanicOk.then ?_ | refine PanicOk.block ?_)) rfl rfl (by kernel_rfl) rfl rfl (fun _ h => h) (Gives.loadc (v := .string (rdOf zW m.L k).2) 0 rfl rfl pl9 rfl rfl) ?_
     refine GA.pure 8 #[true, true, true, true, true, true, true, true, true, false] (by repeat (first | exact PanicOk.body | refine PanicOk.then ?_ | refine PanicOk.block ?_)) rfl rfl (by kernel_rfl) rfl rfl (Gives.indexAddr1 (i := (rdOf zW m.L k).1) rfl rfl rfl Try.underlying28 sz9 (hm.late _ (rd_mem m.L k hk0 (by omega))).1 (hm.late _ (rd_mem m.L k hk0 (by omega))).2) ?_
     refine GA.last0 9 #[true, true, true, true, true, true, true, true, true, true] [2] rfl rfl (by kernel_rfl) (by decide) rfl rfl (Does.rowStore (enc := Value.string) (⟨#[]⟩ : ByteArray) (B := B) (i := (rdOf zW m.L k).1) rfl rfl rfl sz9 rfl (hm.late _ (rd_mem m.L k hk0 (by omega))).1 (hm.late _ (rd_mem m.L k hk0 (by omega))).2) fun _ _ => ?_
     refine GA.done (by kernel_rfl) ?_
     refine GQ.blkN ?_
     refine GQ.thenN ?_
     refine GC.region ?_
     refine GL.gives rfl rfl rfl (Gives.add rfl rfl rfl (by omega)) ?_
     refine GL.gives rfl rfl rfl (Gives.move rfl rfl) ?_
     refine GL.nil ?_
     refine GQ.back (k + 1) [2, 0, 1] ⟨by omega, by omega⟩ (by omega) ⟨rfl, rfl, rfl, rfl, trivial⟩ (by rw [take_rd m.L k hk0 (by omega), laid_snoc]; rfl)
   ·
     replace hlt_ := of_decide_eq_false hlt_
     refine GC.condF rfl rfl ?_
     refine GC.exit ?_
     refine GQ.thenX ?_
     refine GQ.thenX ?_
     refine GQ.blkX ?_
     refine GQ.thenN ?_
     refine GC.seq ?_
     refine GC.region ?_
     refine GL.gives rfl rfl rfl (Gives.move rfl rfl) ?_
     refine GL.gives rfl rfl rfl (Gives.nilCheck rfl rfl) ?_
     refine GL.gives rfl rfl rfl (Gives.fieldAddr (q := ⟨g, 1, none⟩) rfl rfl (fun _ => by kernel_rfl)) ?_
     refine GL.does0 [0] rfl rfl rfl (Does.store rfl rfl rfl sz48 rfl rfl rfl rfl) fun _ _ => ?_
     refine GL.nil ?_
     refine GQ.thenN ?_
     refine GC.seq ?_
     refine GC.region ?_
     refine GL.gives rfl rfl rfl (Gives.assign rfl rfl) ?_
     refine GL.nil ?_
     refine GQ.thenN ?_
     refine GC.ret ?_
     refine GQ.ret1 (.inl rfl) rfl rfl ?_
     intro w hs
     refine ⟨.slice none 0 0, ?_, trivial, ?_⟩
     · unfold M.sync; rw [if_pos he]
     · unfold M.sync; rw [if_pos he]; unfold DK; rw [List.take_of_length_le (by omega)] at hs; exact (hs.turn (is := []) rfl (Turns.nilRow (B := B) (e := 59) kW)).take (is := [1, 1, 0]) rfl

theorem wrap_small (k : Int) (h : 0 ≤ k) : IntKind.u64.wrap (k % 64) = k % 64 := by
  have : IntKind.u64.wrap (k % 64) = (k % 64) % 18446744073709551616 := by simp [IntKind.wrap, IntKind.bits, IntKind.signed]
  omega
theorem div_bd (mask : Int) (j : Nat) (h : 0 ≤ mask ∧ mask ≤ 18446744073709551615) : 0 ≤ mask / 2 ^ j ∧ mask / 2 ^ j ≤ 18446744073709551615 := by
  have h1 : (0 : Int) < 2 ^ j := Int.pow_pos (by decide)
  exact ⟨Int.ediv_nonneg h.1 (Int.le_of_lt h1), Int.le_trans (Int.ediv_le_self _ h.1) h.2⟩
set_option maxRecDepth 100000 in
set_option maxHeartbeats 1000000 in
theorem crash_con (B g gs cs n : Nat) (vl : Value) (m : M) (mask : Int) (hmask : 0 ≤ mask ∧ mask ≤ 18446744073709551615) (hm : m.Ok n) (S : World → Prop) (hBS : ∀ w, S w → B ≤ w.heap.size) :
    Con Try.prog 13 [.pointer (some ⟨g, 0, none⟩), .int .u64 mask] S (DK B g gs cs n vl m) (fun _ : Value => .tuple #[]) (fun _ => True) (fun vl' => DK B g gs cs n vl' (m.crash mask)) := by
 intro w F0 hS hs hlt
 have hB := hBS w hS
 have hlen := hm.len
 have hroom := hm.room
 refine enter (args := [.pointer (some ⟨g, 0, none⟩), .int .u64 mask]) Try.func13 rfl rfl rfl hs ?_
 refine GC.seq ?_
 refine GC.seq ?_
 refine GC.region ?_
 refine GL.gives rfl rfl rfl (Gives.move rfl rfl) ?_
 refine GL.gives rfl rfl rfl (Gives.eqp rfl rfl rfl Try.underlying24) ?_
 refine GL.nil ?_
 refine GQ.thenN ?_
 refine GC.condF rfl rfl ?_
 refine GC.skip ?_
 refine GQ.thenN ?_
 refine GC.seq ?_
 refine GC.seq ?_
 refine GC.know (row_slice (i := 2) rfl) fun ⟨A, c, hv, hle⟩ => ?_
 subst hv
 refine GC.region ?_
 refine GL.gives rfl rfl rfl (Gives.move rfl rfl) ?_
 refine GL.gives rfl rfl rfl (Gives.nilCheck rfl rfl) ?_
 refine GL.gives rfl rfl rfl (Gives.fieldAddr (q := ⟨g, 1, none⟩) rfl rfl (fun _ => by kernel_rfl)) ?_
 refine GL.gives rfl rfl rfl (Gives.loadc (v := .slice A m.L.length c) 0 rfl rfl pl48 rfl rfl) ?_
 refine GL.gives rfl rfl rfl (Gives.len rfl rfl Try.underlying48) ?_
 refine GL.gives rfl rfl rfl (Gives.move rfl rfl) ?_
 refine GL.nil ?_
 refine GQ.thenN ?_
 refine GC.block ?_
 refine GC.loop (σ := Int) (fun k => [(0, .pointer (some ⟨g, 0, none⟩)), (1, .int .u64 mask), (11, .slice A m.L.length c), (12, .int .i64 ((m.L.length : Nat) : Int)), (13, .int .i64 k)])
   (fun k => [Cells g #[.slice (some ⟨gs, 0, none⟩) n cs, .slice A m.L.length c, .int .i64 m.f, .bool m.b] 50, Row B Kd.string 9 (.slice (some ⟨gs, 0, none⟩) n cs) (kept mask m.S (m.L.take k.toNat) 0), Row B kW 59 (.slice A m.L.length c) m.L]) (fun k => 0 ≤ k ∧ k ≤ m.L.length) (fun k => (m.L.length - k).toNat) 0 [0, 0, 0] ⟨by omega, by omega⟩ ⟨rfl, rfl, rfl, rfl, rfl, trivial⟩ rfl ?_
 rintro k ⟨hk0, hkl⟩
 refine GC.seq ?_
 refine GC.region ?_
 refine GL.gives rfl rfl rfl (Gives.lss rfl rfl rfl) ?_
 refine GL.nil ?_
 refine GQ.thenN ?_
 refine GC.seq ?_
 refine GC.split (t := 14) rfl (fun hlt_ => ?_) (fun hlt_ => ?_)
 ·
   replace hlt_ := of_decide_eq_true hlt_
   have htk : (0 + ((List.take k.toNat m.L).length : Int)) = k := by rw [List.length_take]; omega
   refine GC.condT rfl rfl ?_
   refine GC.skip ?_
   refine GQ.thenN ?_
   refine GC.seq ?_
   refine GC.block ?_
   refine GC.seq ?_
   refine GC.region ?_
   refine GL.gives rfl rfl rfl (Gives.move rfl rfl) ?_
   refine GL.know (row_some (i := 2) rfl (by omega)) fun ⟨p, hp⟩ => ?_
   subst hp
   refine GL.gives rfl rfl rfl (Gives.indexAddr (i := k) rfl rfl rfl Try.underlying48 sz59 (by omega) (by omega)) ?_
   refine GL.gives rfl rfl rfl (show Gives _ _ _ _ _ (.agg #[.int .i64 (rdOf zW m.L k).1, .string (rdOf zW m.L k).2]) from Gives.loadRow (kd := kW) (p := p) (m := m.L.length) (i := k) zW kW_encs rfl rfl ag59 sz59 (row_C (i := 2) rfl) (by omega) (by omega)) ?_
   refine GL.does [] rfl rfl rfl rfl (Does.alloc (Bs hB) rfl al59) fun g1 hg1 => ?_
   refine GL.gives rfl rfl rfl (Gives.assign rfl rfl) ?_
   refine GL.does0 [0] rfl rfl rfl (Does.storeb rfl rfl rfl sz59 (by simp [Value.oneCell']) rfl) fun _ _ => ?_
   refine GL.nil ?_
   refine GQ.thenN ?_
   refine GC.seq ?_
   refine GC.region ?_
   refine GL.gives rfl rfl rfl (Gives.move rfl rfl) ?_
   refine GL.gives rfl rfl rfl (Gives.move rfl rfl) ?_
   refine GL.gives rfl rfl rfl (Gives.rem (a := k) (b := 64) rfl rfl rfl hk0 (by omega) (by omega)) ?_
   refine GL.gives rfl rfl rfl (Gives.conv (k := .i64) (k' := .u64) rfl rfl Try.underlying3 Try.underlying62 (wrap_small k hk0)) ?_
   refine GL.gives rfl rfl rfl (Gives.bin (v := .int .u64 (mask / 2 ^ (k % 64).toNat)) rfl rfl rfl (eqGuard_shr _ _ _ _ _) (fun w => by rw [binOp_shr, shift_shr_any _ _ _ _ (by omega), Nat.min_eq_left (by simp [IntKind.bits]; omega)]; rfl)) ?_
   refine GL.gives rfl rfl rfl (Gives.bin (v := .int .u64 (mask / 2 ^ (k % 64).toNat % 2)) rfl rfl rfl (eqGuard_and _ _ _ _ _) (fun w => by rw [binOp_and, intBits_and, and_one_u64 _ (div_bd mask _ hmask).1 (div_bd mask _ hmask).2]; rfl)) ?_
   refine GL.gives rfl rfl rfl (Gives.eqi rfl rfl rfl) ?_
   refine GL.nil ?_
   refine GQ.thenN ?_
   refine GC.split (t := 24) rfl (fun hbit => ?_) (fun hbit => ?_)
   ·
     replace hbit := by simpa using hbit
     refine GC.condT rfl rfl ?_
     refine GC.draw (fun w => St _ _ w _) [9] #[false, false, false, false, false, false, false, false, false, false] mixed_ rfl rfl (fun _ h => h) ?_
     refine GA.pure 0 #[true, false, false, false, false, false, false, false, false, false] (by repeat (first | exact PanicOk.body | refine PanicOk.then ?_ | refine PanicOk.block ?_)) rfl rfl (by kernel_rfl) rfl rfl (Gives.move rfl rfl) ?_
     refine GA.pure 1 #[true, true, false, false, false, false, false, false, false, false] (by repeat (first | exact PanicOk.body | refine PanicOk.then ?_ | refine PanicOk.block ?_)) rfl rfl (by kernel_rfl) rfl rfl (Gives.nilCheck rfl rfl) ?_
     refine GA.pure 2 #[true, true, true, false, false, false, false, false, false, false] (by repeat (first | exact PanicOk.body | refine PanicOk.then ?_ | refine PanicOk.block ?_)) rfl rfl (by kernel_rfl) rfl rfl (Gives.fieldAddr (q := ⟨g, 0, none⟩) rfl rfl (fun _ => by kernel_rfl)) ?_
     refine GA.take 3 #[true, true, true, true, false, false, false, false, false, false] (by repeat (first | exact PanicOk.body | refine PanicOk.then ?_ | refine PanicOk.block ?_)) rfl rfl (by kernel_rfl) rfl rfl (fun _ h => h) (Gives.loadc (v := .slice (some ⟨gs, 0, none⟩) n cs) 1 rfl rfl pl28 rfl rfl) ?_
     refine GA.pure 4 #[true, true, true, true, true, false, false, false, false, false] (by repeat (first | exact PanicOk.body | refine PanicOk.then ?_ | refine PanicOk.block ?_)) rfl rfl (by kernel_rfl) rfl rfl (Gives.fieldAddr (q := ⟨g1, 0, none⟩) rfl rfl (fun _ => by kernel_rfl)) ?_
     refine GA.take 5 #[true, true, true, true, true, true, false, false, false, false] (by repeat (first | exact PanicOk.body | refine PanicOk.then ?_ | refine PanicOk.block ?_)) rfl rfl (by kernel_rfl) rfl rfl (fun _ h => h) (Gives.loadc (v := .int .i64 (rdOf zW m.L k).1) 0 rfl rfl pl3 rfl rfl) ?_
     refine GA.pure 6 #[true, true, true, true, true, true, true, false, false, false] (by repeat (first | exact PanicOk.body | refine PanicOk.then ?_ | refine PanicOk.block ?_)) rfl rfl (by kernel_rfl) rfl rfl (Gives.fieldAddr (q := ⟨g1, 1, none⟩) rfl rfl (fun _ => by kernel_rfl)) ?_
     refine GA.take 7 #[true, true, true, true, true, true, true, true, false, false] (by repeat (first | exact PanicOk.body | refine PanicOk.then ?_ | refine PanicOk.block ?_)) rfl rfl (by kernel_rfl) rfl rfl (fun _ h => h) (Gives.loadc (v := .string (rdOf zW m.L k).2) 0 rfl rfl pl9 rfl rfl) ?_
     refine GA.pure 8 #[true, true, true, true, true, true, true, true, true, false] (by repeat (first | exact PanicOk.body | refine PanicOk.then ?_ | refine PanicOk.block ?_)) rfl rfl (by kernel_rfl) rfl rfl (Gives.indexAddr1 (i := (rdOf zW m.L k).1) rfl rfl rfl Try.underlying28 sz9 (hm.late _ (rd_mem m.L k hk0 (by omega))).1 (hm.late _ (rd_mem m.L k hk0 (by omega))).2) ?_
     refine GA.last0 9 #[true, true, true, true, true, true, true, true, true, true] [2] rfl rfl (by kernel_rfl) (by decide) rfl rfl (Does.rowStore (enc := Value.string) (⟨#[]⟩ : ByteArray) (B := B) (i := (rdOf zW m.L k).1) rfl rfl rfl sz9 rfl (hm.late _ (rd_mem m.L k hk0 (by omega))).1 (hm.late _ (rd_mem m.L k hk0 (by omega))).2) fun _ _ => ?_
     refine GA.done (by kernel_rfl) ?_
     refine GQ.blkN ?_
     refine GQ.thenN ?_
     refine GC.region ?_
     refine GL.gives rfl rfl rfl (Gives.add rfl rfl rfl (by omega)) ?_
     refine GL.gives rfl rfl rfl (Gives.move rfl rfl) ?_
     refine GL.nil ?_
     refine GQ.back (k + 1) [2, 0, 1] ⟨by omega, by omega⟩ (by omega) ⟨rfl, rfl, rfl, rfl, rfl, trivial⟩ (by rw [take_rd m.L k hk0 (by omega), kept_snoc, htk]; (first | rw [if_pos hbit] | rw [if_neg hbit]); rfl)
   ·
     replace hbit := by simpa using hbit
     refine GC.condF rfl rfl ?_
     refine GC.skip ?_
     refine GQ.blkN ?_
     refine GQ.thenN ?_
     refine GC.region ?_
     refine GL.gives rfl rfl rfl (Gives.add rfl rfl rfl (by omega)) ?_
     refine GL.gives rfl rfl rfl (Gives.move rfl rfl) ?_
     refine GL.nil ?_
     refine GQ.back (k + 1) [1, 1, 1] ⟨by omega, by omega⟩ (by omega) ⟨rfl, rfl, rfl, rfl, rfl, trivial⟩ (by rw [take_rd m.L k hk0 (by omega), kept_snoc, htk]; (first | rw [if_pos hbit] | rw [if_neg hbit]); rfl)
 ·
   replace hlt_ := of_decide_eq_false hlt_
   refine GC.condF rfl rfl ?_
   refine GC.exit ?_
   refine GQ.thenX ?_
   refine GQ.thenX ?_
   refine GQ.blkX ?_
   refine GQ.thenN ?_
   refine GC.region ?_
   refine GL.gives rfl rfl rfl (Gives.move rfl rfl) ?_
   refine GL.gives rfl rfl rfl (Gives.move rfl rfl) ?_
   refine GL.gives rfl rfl rfl (Gives.move rfl rfl) ?_
   refine GL.gives rfl rfl rfl (Gives.nilCheck rfl rfl) ?_
   refine GL.gives rfl rfl rfl (Gives.fieldAddr (q := ⟨g, 1, none⟩) rfl rfl (fun _ => by kernel_rfl)) ?_
   refine GL.does0 [0] rfl rfl rfl (Does.store rfl rfl rfl sz48 rfl rfl rfl rfl) fun _ _ => ?_
   refine GL.gives rfl rfl rfl (Gives.nilCheck rfl rfl) ?_
   refine GL.gives rfl rfl rfl (Gives.fieldAddr (q := ⟨g, 3, none⟩) rfl rfl (fun _ => by kernel_rfl)) ?_
   refine GL.does0 [0] rfl rfl rfl (Does.store rfl rfl rfl sz4 rfl rfl rfl rfl) fun _ _ => ?_
   refine GL.gives rfl rfl rfl (Gives.nilCheck rfl rfl) ?_
   refine GL.gives rfl rfl rfl (Gives.fieldAddr (q := ⟨g, 2, none⟩) rfl rfl (fun _ => by kernel_rfl)) ?_
   refine GL.does0 [0] rfl rfl rfl (Does.store rfl rfl rfl sz3 rfl rfl rfl rfl) fun _ _ => ?_
   refine GL.nil ?_
   refine GQ.ret0 (.inr rfl) rfl ?_
   intro w hs
   refine ⟨.slice none 0 0, rfl, trivial, ?_⟩
   unfold M.crash DK
   rw [List.take_of_length_le (by omega)] at hs
   exact (hs.turn (is := []) rfl (Turns.nilRow (B := B) (e := 59) kW)).take (is := [1, 1, 0]) rfl

end Go.Proofs.Ytanbpjlnomifhaa.SL
