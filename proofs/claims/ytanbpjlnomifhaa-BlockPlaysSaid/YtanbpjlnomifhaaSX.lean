/- The block law: a disk and the document's disk, call by call. -/
import Derived.Test.YtanbpjlnomifhaaSR
import Derived.Test.YtanbpjlnomifhaaRead
namespace Go.Proofs.Ytanbpjlnomifhaa.SX
open Go.RowKit Go.Proofs.YtanbpjlnomifhaaW.PrintWords Go.Proofs.YtanbpjlnomifhaaW.PrintLast Go.Proofs.YtanbpjlnomifhaaS Go.Proofs.Ytanbpjlnomifhaa.SL Go.Proofs.Ytanbpjlnomifhaa.SR Go.Proofs.Ytanbpjlnomifhaa.SB

theorem mixed_ : Try.prog.follows .mixedOrders = true := by kernel_rfl
theorem al9 (w : World) : (Instr.alloc 9 true (.tuple #[])).run Try.prog w = .ok (.pointer (some ⟨w.heap.size, 0, none⟩)) (w.alloc (.cells #[.string (⟨#[]⟩ : ByteArray)] 9 (0, 0))) := by kernel_rfl
theorem al25 (w : World) : (Instr.alloc 25 true (.tuple #[])).run Try.prog w = .ok (.pointer (some ⟨w.heap.size, 0, none⟩)) (w.alloc (.cells #[.int .i64 0] 25 (0, 0))) := by kernel_rfl
theorem pl3 : Plain Try.prog 3 := plain_int Try.underlying3
theorem pl4 : Plain Try.prog 4 := plain_bool Try.underlying4
theorem pl9 : Plain Try.prog 9 := plain_string Try.underlying9
theorem pl25 : Plain Try.prog 25 := plain_int Try.underlying25
theorem pl28 : Plain Try.prog 28 := plain_slice Try.underlying28
theorem sz9 (w : World) : (sizeOf 9).run Try.prog w = .ok 1 w := by kernel_rfl
theorem sz25 (w : World) : (sizeOf 25).run Try.prog w = .ok 1 w := by kernel_rfl
set_option maxRecDepth 100000 in
set_option maxHeartbeats 1000000 in
theorem read_no (B g gs cs n : Nat) (vl : Value) (m : M) (i : Int) (hm : m.Ok n) (hno : m.b = true ∨ i < 0 ∨ n ≤ i) (S : World → Prop) (hBS : ∀ w, S w → B ≤ w.heap.size) :
    Con Try.prog 9 [.pointer (some ⟨g, 0, none⟩), .int .i64 i] S (DK B g gs cs n vl m) (fun _ : Unit => .tuple #[.string (m.read i).1, .int .i64 (m.read i).2]) (fun _ => True) (fun _ => DK B g gs cs n vl m) := by
 intro w F0 hS hs hlt
 have hB := hBS w hS
 have hlen := hm.len
 refine enter (args := [.pointer (some ⟨g, 0, none⟩), .int .i64 i]) Try.func9 rfl rfl rfl hs ?_
 refine GC.seq ?_
 refine GC.region ?_
 refine GL.does [] rfl rfl rfl rfl (Does.box (cs := #[.int .i64 i]) (Bs hB) rfl rfl rfl) fun g1 hg1 => ?_
 refine GL.does [] rfl rfl rfl rfl (Does.alloc (Bs hB) rfl al9) fun g2 hg2 => ?_
 refine GL.does [] rfl rfl rfl rfl (Does.alloc (Bs hB) rfl al25) fun g3 hg3 => ?_
 refine GL.nil ?_
 refine GQ.thenN ?_
 refine GC.seq ?_
 refine GC.block ?_
 refine GC.seq ?_
 refine GC.region ?_
 refine GL.gives rfl rfl rfl (Gives.move rfl rfl) ?_
 refine GL.gives rfl rfl rfl (Gives.eqp rfl rfl rfl Try.underlying24) ?_
 refine GL.gives rfl rfl rfl (Gives.move rfl rfl) ?_
 refine GL.gives rfl rfl rfl (Gives.move rfl rfl) ?_
 refine GL.gives rfl rfl rfl (Gives.nilCheck rfl rfl) ?_
 refine GL.gives rfl rfl rfl (Gives.fieldAddr (q := ⟨g, 0, none⟩) rfl rfl (fun _ => by kernel_rfl)) ?_
 refine GL.gives rfl rfl rfl (Gives.loadc (v := .slice (some ⟨gs, 0, none⟩) n cs) 3 rfl rfl pl28 rfl rfl) ?_
 refine GL.gives rfl rfl rfl (Gives.eqsl rfl rfl rfl Try.underlying28) ?_
 refine GL.gives rfl rfl rfl (Gives.pickF rfl rfl rfl rfl) ?_
 refine GL.gives rfl rfl rfl (Gives.assign rfl rfl) ?_
 refine GL.nil ?_
 refine GQ.thenN ?_
 refine GC.condF rfl rfl ?_
 refine GC.seq ?_
 refine GC.region ?_
 refine GL.gives rfl rfl rfl (Gives.move rfl rfl) ?_
 refine GL.gives rfl rfl rfl (Gives.nilCheck rfl rfl) ?_
 refine GL.gives rfl rfl rfl (Gives.fieldAddr (q := ⟨g, 3, none⟩) rfl rfl (fun _ => by kernel_rfl)) ?_
 refine GL.gives rfl rfl rfl (Gives.loadc (v := .bool m.b) 3 rfl rfl pl4 rfl rfl) ?_
 refine GL.gives rfl rfl rfl (Gives.assign rfl rfl) ?_
 refine GL.nil ?_
 refine GQ.thenN ?_
 refine GC.split (t := 18) rfl (fun hb => ?_) (fun hb => ?_)
 ·
   have _ := hb
   refine GC.condT rfl rfl ?_
   refine GC.seq ?_
   refine GC.region ?_
   refine GL.does0 [1] rfl rfl rfl (Does.store rfl rfl rfl sz9 rfl rfl rfl rfl) fun _ _ => ?_
   refine GL.does0 [1] rfl rfl rfl (Does.store rfl rfl rfl sz25 rfl rfl rfl rfl) fun _ _ => ?_
   refine GL.nil ?_
   refine GQ.thenN ?_
   refine GC.ret ?_
   refine GQ.blkR ?_
   refine GQ.thenR ?_
   refine GQ.retT (vs := [.string (⟨#[]⟩ : ByteArray), .int .i64 91]) (.inl rfl) rfl rfl ⟨⟨_, rfl, lv_cell (i := 1) rfl pl9 rfl⟩, ⟨_, rfl, lv_cell (i := 0) rfl pl25 rfl⟩, trivial⟩ ?_
   intro w hs
   exact ⟨(), (by unfold M.read; rw [if_pos hb]), trivial, hs.take (is := [3, 3, 3]) rfl⟩
 ·
   have _ := hb
   refine GC.condF rfl rfl ?_
   refine GC.seq ?_
   refine GC.draw (fun w => St _ _ w _) [] #[false, false, false, false, false, false, false, false, false, false, false, false] mixed_ rfl rfl (fun _ h => h) ?_
   refine GA.take 0 #[true, false, false, false, false, false, false, false, false, false, false, false] (by repeat (first | exact PanicOk.body | refine PanicOk.then ?_ | refine PanicOk.block ?_)) rfl rfl (by kernel_rfl) rfl rfl (fun _ h => h) (Gives.loadc (v := .int .i64 i) 2 rfl rfl pl3 rfl rfl) ?_
   refine GA.pure 1 #[true, true, false, false, false, false, false, false, false, false, false, false] (by repeat (first | exact PanicOk.body | refine PanicOk.then ?_ | refine PanicOk.block ?_)) rfl rfl (by kernel_rfl) rfl rfl (Gives.lss rfl rfl rfl) ?_
   refine GA.pure 2 #[true, true, true, false, false, false, false, false, false, false, false, false] (by repeat (first | exact PanicOk.body | refine PanicOk.then ?_ | refine PanicOk.block ?_)) rfl rfl (by kernel_rfl) rfl rfl (Gives.move rfl rfl) ?_
   refine GA.split (t := 26) rfl (fun ht26 => ?_) (fun ht26 => ?_)
   ·
     replace ht26 := of_decide_eq_true ht26
     refine GA.off 3 #[true, true, true, true, false, false, false, false, false, false, false, false] (by repeat (first | exact PanicOk.body | refine PanicOk.then ?_ | refine PanicOk.block ?_)) rfl rfl (by kernel_rfl) rfl rfl ?_
     refine GA.off 4 #[true, true, true, true, true, false, false, false, false, false, false, false] (by repeat (first | exact PanicOk.body | refine PanicOk.then ?_ | refine PanicOk.block ?_)) rfl rfl (by kernel_rfl) rfl rfl ?_
     refine GA.off 5 #[true, true, true, true, true, true, false, false, false, false, false, false] (by repeat (first | exact PanicOk.body | refine PanicOk.then ?_ | refine PanicOk.block ?_)) rfl rfl (by kernel_rfl) rfl rfl ?_
     refine GA.off 6 #[true, true, true, true, true, true, true, false, false, false, false, false] (by repeat (first | exact PanicOk.body | refine PanicOk.then ?_ | refine PanicOk.block ?_)) rfl rfl (by kernel_rfl) rfl rfl ?_
     refine GA.off 7 #[true, true, true, true, true, true, true, true, false, false, false, false] (by repeat (first | exact PanicOk.body | refine PanicOk.then ?_ | refine PanicOk.block ?_)) rfl rfl (by kernel_rfl) rfl rfl ?_
     refine GA.off 8 #[true, true, true, true, true, true, true, true, true, false, false, false] (by repeat (first | exact PanicOk.body | refine PanicOk.then ?_ | refine PanicOk.block ?_)) rfl rfl (by kernel_rfl) rfl rfl ?_
     refine GA.off 9 #[true, true, true, true, true, true, true, true, true, true, false, false] (by repeat (first | exact PanicOk.body | refine PanicOk.then ?_ | refine PanicOk.block ?_)) rfl rfl (by kernel_rfl) rfl rfl ?_
     refine GA.pure 10 #[true, true, true, true, true, true, true, true, true, true, true, false] (by repeat (first | exact PanicOk.body | refine PanicOk.then ?_ | refine PanicOk.block ?_)) rfl rfl (by kernel_rfl) rfl rfl (Gives.pickT rfl rfl rfl rfl) ?_
     refine GA.pure 11 #[true, true, true, true, true, true, true, true, true, true, true, true] (by repeat (first | exact PanicOk.body | refine PanicOk.then ?_ | refine PanicOk.block ?_)) rfl rfl (by kernel_rfl) rfl rfl (Gives.assign rfl rfl) ?_
     refine GA.done (by kernel_rfl) ?_
     refine GQ.thenN ?_
     refine GC.condT rfl rfl ?_
     refine GC.seq ?_
     refine GC.region ?_
     refine GL.does0 [1] rfl rfl rfl (Does.store rfl rfl rfl sz9 rfl rfl rfl rfl) fun _ _ => ?_
     refine GL.does0 [1] rfl rfl rfl (Does.store rfl rfl rfl sz25 rfl rfl rfl rfl) fun _ _ => ?_
     refine GL.nil ?_
     refine GQ.thenN ?_
     refine GC.ret ?_
     refine GQ.blkR ?_
     refine GQ.thenR ?_
     refine GQ.retT (vs := [.string (⟨#[]⟩ : ByteArray), .int .i64 90]) (.inl rfl) rfl rfl ⟨⟨_, rfl, lv_cell (i := 1) rfl pl9 rfl⟩, ⟨_, rfl, lv_cell (i := 0) rfl pl25 rfl⟩, trivial⟩ ?_
     intro w hs
     exact ⟨(), (by unfold M.read; rw [if_neg (by simp [hb]), if_pos (by omega)]), trivial, hs.take (is := [3, 3, 3]) rfl⟩
   ·
     replace ht26 := of_decide_eq_false ht26
     refine GA.take 3 #[true, true, true, true, false, false, false, false, false, false, false, false] (by repeat (first | exact PanicOk.body | refine PanicOk.then ?_ | refine PanicOk.block ?_)) rfl rfl (by kernel_rfl) rfl rfl (fun _ h => h) (Gives.loadc (v := .int .i64 i) 2 rfl rfl pl3 rfl rfl) ?_
     refine GA.pure 4 #[true, true, true, true, true, false, false, false, false, false, false, false] (by repeat (first | exact PanicOk.body | refine PanicOk.then ?_ | refine PanicOk.block ?_)) rfl rfl (by kernel_rfl) rfl rfl (Gives.move rfl rfl) ?_
     refine GA.pure 5 #[true, true, true, true, true, true, false, false, false, false, false, false] (by repeat (first | exact PanicOk.body | refine PanicOk.then ?_ | refine PanicOk.block ?_)) rfl rfl (by kernel_rfl) rfl rfl (Gives.nilCheck rfl rfl) ?_
     refine GA.pure 6 #[true, true, true, true, true, true, true, false, false, false, false, false] (by repeat (first | exact PanicOk.body | refine PanicOk.then ?_ | refine PanicOk.block ?_)) rfl rfl (by kernel_rfl) rfl rfl (Gives.fieldAddr (q := ⟨g, 0, none⟩) rfl rfl (fun _ => by kernel_rfl)) ?_
     refine GA.take 7 #[true, true, true, true, true, true, true, true, false, false, false, false] (by repeat (first | exact PanicOk.body | refine PanicOk.then ?_ | refine PanicOk.block ?_)) rfl rfl (by kernel_rfl) rfl rfl (fun _ h => h) (Gives.loadc (v := .slice (some ⟨gs, 0, none⟩) n cs) 3 rfl rfl pl28 rfl rfl) ?_
     refine GA.pure 8 #[true, true, true, true, true, true, true, true, true, false, false, false] (by repeat (first | exact PanicOk.body | refine PanicOk.then ?_ | refine PanicOk.block ?_)) rfl rfl (by kernel_rfl) rfl rfl (Gives.len rfl rfl Try.underlying28) ?_
     refine GA.pure 9 #[true, true, true, true, true, true, true, true, true, true, false, false] (by repeat (first | exact PanicOk.body | refine PanicOk.then ?_ | refine PanicOk.block ?_)) rfl rfl (by kernel_rfl) rfl rfl (Gives.geq rfl rfl rfl) ?_
     refine GA.pure 10 #[true, true, true, true, true, true, true, true, true, true, true, false] (by repeat (first | exact PanicOk.body | refine PanicOk.then ?_ | refine PanicOk.block ?_)) rfl rfl (by kernel_rfl) rfl rfl (Gives.pickF rfl rfl rfl rfl) ?_
     refine GA.pure 11 #[true, true, true, true, true, true, true, true, true, true, true, true] (by repeat (first | exact PanicOk.body | refine PanicOk.then ?_ | refine PanicOk.block ?_)) rfl rfl (by kernel_rfl) rfl rfl (Gives.assign rfl rfl) ?_
     refine GA.done (by kernel_rfl) ?_
     refine GQ.thenN ?_
     refine GC.split (t := 23) rfl (fun hge => ?_) (fun hge => ?_)
     ·
       replace hge := of_decide_eq_true hge
       refine GC.condT rfl rfl ?_
       refine GC.seq ?_
       refine GC.region ?_
       refine GL.does0 [1] rfl rfl rfl (Does.store rfl rfl rfl sz9 rfl rfl rfl rfl) fun _ _ => ?_
       refine GL.does0 [1] rfl rfl rfl (Does.store rfl rfl rfl sz25 rfl rfl rfl rfl) fun _ _ => ?_
       refine GL.nil ?_
       refine GQ.thenN ?_
       refine GC.ret ?_
       refine GQ.blkR ?_
       refine GQ.thenR ?_
       refine GQ.retT (vs := [.string (⟨#[]⟩ : ByteArray), .int .i64 90]) (.inl rfl) rfl rfl ⟨⟨_, rfl, lv_cell (i := 1) rfl pl9 rfl⟩, ⟨_, rfl, lv_cell (i := 0) rfl pl25 rfl⟩, trivial⟩ ?_
       intro w hs
       exact ⟨(), (by unfold M.read; rw [if_neg (by simp [hb]), if_pos (by omega)]), trivial, hs.take (is := [3, 3, 3]) rfl⟩
     ·
       exfalso
       replace hge := of_decide_eq_false hge
       rcases hno with h | h | h
       · rw [h] at hb; cases hb
       · omega
       · omega

theorem read_con (B g gs cs n : Nat) (vl : Value) (m : M) (i : Int) (hm : m.Ok n) (S : World → Prop) (hBS : ∀ w, S w → B ≤ w.heap.size) :
    Con Try.prog 9 [.pointer (some ⟨g, 0, none⟩), .int .i64 i] S (DK B g gs cs n vl m) (fun _ : Unit => .tuple #[.string (m.read i).1, .int .i64 (m.read i).2]) (fun _ => True) (fun _ => DK B g gs cs n vl m) := by
  by_cases hno : m.b = true ∨ i < 0 ∨ n ≤ i
  · exact read_no B g gs cs n vl m i hm hno S hBS
  · intro w F hS hs hlt
    have hst : St w F w (DK B g gs cs n vl m) := St.start hs
    have hb : m.b = false := by
      cases h : m.b with
      | true => exact absurd (.inl h) hno
      | false => rfl
    have hi : 0 ≤ i ∧ i < n := by omega
    obtain ⟨A, c, hv, hc⟩ := row_slice (i := 2) (B := B) (e := 59) (kd := kW) (v := vl) (xs := m.L) rfl w hst
    subst hv
    have hg := (hst.at (i := 0) rfl).cells
    have hcell := row_cell (j := 1) (g := gs) (m := n) (c := cs) (i := i) (xs := m.S) (h1 := fun _ => rfl) (enc := Value.string) (B := B) (e := 9) (⟨#[]⟩ : ByteArray) rfl hi.1 hi.2 w hst
    have hL : LateIs w.heap.size w A c m.L := by
      rcases Nat.eq_zero_or_pos m.L.length with h0 | h0
      · exact .inl (List.eq_nil_of_length_eq_zero h0)
      · obtain ⟨gl, cl, h1⟩ := row_form (i := 2) (B := B) (e := 59) (kd := kW) (v := .slice A m.L.length c) (xs := m.L) rfl h0 w hst
        injection h1 with h1 _ _
        subst h1
        have hC := rowW (w0 := w) (F0 := F) (L := DK B g gs cs n (.slice (some ⟨gl, 0, none⟩) m.L.length c) m) (i := 2) (B := B) (e := 59) (c := c) (mm := m.L.length) (p := ⟨gl, 0, none⟩) (xs := m.L) rfl
        have key : ∀ j : Int, 0 ≤ j → j < m.L.length → w.cell? ⟨gl, j.toNat * 2, none⟩ = some (.int .i64 (rdOf zW m.L j).1) ∧ w.cell? ⟨gl, j.toNat * 2 + 1, none⟩ = some (.string (rdOf zW m.L j).2) := fun j h2 h3 => by
          have := hC j h2 h3 w hst
          simp only [add_plain] at this
          exact this
        exact .inr ⟨gl, rfl, World.block_lt_of_cell? w _ (key 0 (by omega) (by omega)).1, key⟩
    have := callsIn_wide.1 (read_in 3 (by omega) g gs cs n c A m i w hb hi hm.len hm.room hg hcell hL)
    exact this.mono fun e w' hh => ⟨(), hh.1, trivial, hst.step0 hh.2⟩
end Go.Proofs.Ytanbpjlnomifhaa.SX
