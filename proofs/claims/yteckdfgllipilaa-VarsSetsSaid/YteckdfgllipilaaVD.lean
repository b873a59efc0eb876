/- slices.Delete over a table's variables. -/
import Derived.Test.YteckdfgllipilaaVI
namespace Go.Proofs.Yteckdfgllipilaa.VD
open Go.RowKit Go.Proofs.YteckdfgllipilaaW.PrintWords Go.Proofs.YteckdfgllipilaaW.PrintLast Go.Proofs.YteckdfgllipilaaS Go.Proofs.Yteckdfgllipilaa.NU Go.Proofs.Yteckdfgllipilaa.NV Go.Proofs.Yteckdfgllipilaa.NW Go.Proofs.Yteckdfgllipilaa.VP Go.Proofs.Yteckdfgllipilaa.VT Go.Proofs.Yteckdfgllipilaa.VU Go.Proofs.Yteckdfgllipilaa.VI

def del (V : List VT) (i : Nat) : List VT := V.take i ++ V.drop (i + 1)
theorem del_len {V : List VT} {i : Nat} (hi : i < V.length) : (del V i).length = V.length - 1 := by simp [del]; omega
abbrev zz : Value := .agg #[.string ⟨#[]⟩, .string ⟨#[]⟩]
theorem zz1 : (Builtin.zeroCells zz.cells 1).toList = [.string ⟨#[]⟩, .string ⟨#[]⟩] := by kernel_rfl
theorem sliced_p (g n c l : Nat) (hl : l ≤ n) (hc : n ≤ c) : ∃ A' : Option Addr, (0 < n - l → A' = some ⟨g, 0 + l * 2, none⟩) ∧ sliced (some ⟨g, 0, none⟩) l n c 2 = .slice A' (n - l) (c - l) := by
  refine ⟨_, fun h => ?_, rfl⟩
  rw [if_neg (by omega)]
  simp only [Option.map_some, Addr.add]
  by_cases hq : l * 2 = 0 <;> simp [hq]
theorem del_done (V : List VT) (i : Nat) (cur : Array Value) (hi : i < V.length) (hs : V.length * 2 ≤ cur.size) (ht : cur.toList.take (V.length * 2) = V.flatMap eV) (z : List Value) (hz : z.length = 2) :
    (putAt (putAt cur (i * 2) ((V.drop (i + 1)).flatMap eV)) ((V.length - 1) * 2) z).toList.take ((V.length - 1) * 2) = (del V i).flatMap eV := by
  have hd : ((V.drop (i + 1)).flatMap eV).length = (V.length - (i + 1)) * 2 := by rw [eV_flen, List.length_drop]
  have hsz : cur.toList.length = cur.size := rfl
  have e4 : (cur.toList.take (i * 2)).length = i * 2 := by rw [List.length_take]; omega
  have e1 : (putAt cur (i * 2) ((V.drop (i + 1)).flatMap eV)).toList = cur.toList.take (i * 2) ++ (V.drop (i + 1)).flatMap eV ++ cur.toList.drop (i * 2 + ((V.drop (i + 1)).flatMap eV).length) := rfl
  have e2 : (cur.toList.take (i * 2) ++ (V.drop (i + 1)).flatMap eV).length = (V.length - 1) * 2 := by rw [List.length_append, e4, hd]; omega
  have e3 : (putAt cur (i * 2) ((V.drop (i + 1)).flatMap eV)).toList.take ((V.length - 1) * 2) = cur.toList.take (i * 2) ++ (V.drop (i + 1)).flatMap eV := by rw [e1, List.take_left' e2]
  show ((putAt cur (i * 2) ((V.drop (i + 1)).flatMap eV)).toList.take ((V.length - 1) * 2) ++ z ++ _).take _ = _
  rw [e3, List.append_assoc, List.take_left' e2]
  have e5 : cur.toList.take (i * 2) = (V.take i).flatMap eV := by
    rw [flat_take eV_len V i (by omega), ← ht, List.take_take, Nat.min_eq_left (by show i * 2 ≤ _; omega)]
    rfl
  rw [e5, del, List.flatMap_append]

theorem mixed_ : Try.prog.follows .mixedOrders = true := by kernel_rfl
theorem in26 : (Try.prog.info? 26).map (fun i => (i.zero, i.size, i.bytes)) = some (some (.agg #[.string (⟨#[]⟩ : ByteArray), .string (⟨#[]⟩ : ByteArray)]), 2, 32) := by kernel_rfl
theorem sz26 (w : World) : (sizeOf 26).run Try.prog w = .ok 2 w := by kernel_rfl
set_option maxRecDepth 100000 in
set_option maxHeartbeats 1000000 in
theorem delete_con (B : Nat) (Av : Option Addr) (n c : Nat) (V : List VT) (i : Int) (hi : 0 ≤ i ∧ i < n) (hn : n ≤ 1000000) (S : World → Prop) (hBS : ∀ w, S w → B ≤ w.heap.size) :
    Con Try.prog 40 [.slice Av n c, .int .i64 i, .int .i64 (i + 1)] S [Row B kV 26 (.slice Av n c) V] (fun v : Value => v) (fun _ => True) (fun v => [Row B kV 26 v (del V i.toNat)]) := by
 intro w F0 hS hs hlt
 have hB := hBS w hS
 obtain ⟨hlen, hnc⟩ := row_len (i := 0) (B := B) (e := 26) (kd := kV) (A := Av) (m := n) (c := c) (xs := V) rfl w (St.start hs)
 have hi0 := hi.1
 have hi1 := hi.2
 refine enter (args := [.slice Av n c, .int .i64 i, .int .i64 (i + 1)]) Try.func40 rfl rfl rfl hs ?_
 refine GC.seq ?_
 refine GC.region ?_
 refine GL.gives rfl rfl rfl (Gives.assign rfl rfl) ?_
 refine GL.nil ?_
 refine GQ.thenN ?_
 refine GC.seq ?_
 refine GC.region ?_
 refine GL.gives rfl rfl rfl (Gives.move rfl rfl) ?_
 refine GL.gives rfl rfl rfl (Gives.move rfl rfl) ?_
 refine GL.gives rfl rfl rfl (Gives.move rfl rfl) ?_
 refine GL.gives rfl rfl rfl (Gives.move rfl rfl) ?_
 refine GL.gives rfl rfl rfl (Gives.len rfl rfl Try.underlying22) ?_
 refine GL.gives rfl rfl rfl (Gives.sl3 rfl rfl rfl rfl rfl Try.underlying22 sz26 (by omega) (by omega) (by omega) (by omega)) ?_
 refine GL.nil ?_
 refine GQ.thenN ?_
 refine GC.seq ?_
 refine GC.seq ?_
 refine GC.region ?_
 refine GL.gives rfl rfl rfl (Gives.move rfl rfl) ?_
 refine GL.gives rfl rfl rfl (Gives.move rfl rfl) ?_
 refine GL.gives rfl rfl rfl (Gives.eqi rfl rfl rfl) ?_
 refine GL.nil ?_
 refine GQ.thenN ?_
 refine GC.condF rfl (beq_false_of_ne (by omega)) ?_
 refine GC.skip ?_
 refine GQ.thenN ?_
 refine GC.seq ?_
 refine GC.know (row_form (i := 0) rfl (by omega)) fun ⟨g, c', hv⟩ => ?_
 injection hv with hv1 _ _
 subst hv1
 refine GC.openRow (enc := eV) [0] kV_encs rfl fun cur hcs hct hg hcm => ?_
 have hcs' : cur.size = c * 2 := hcs
 refine GC.region ?_
 refine GL.gives rfl rfl rfl (Gives.move rfl rfl) ?_
 refine GL.gives rfl rfl rfl (Gives.len rfl rfl Try.underlying22) ?_
 refine GL.gives rfl rfl rfl (Gives.assign rfl rfl) ?_
 refine GL.nil ?_
 refine GQ.thenN ?_
 refine GC.seq ?_
 refine GC.draw (fun w => St _ _ w _) [6] #[false, false, false, false, false, false, false, false] mixed_ rfl rfl (fun _ h => h) ?_
 refine GA.pure 0 #[true, false, false, false, false, false, false, false] (by repeat (first | exact PanicOk.body | refine PanicOk.then ?_ | refine PanicOk.block ?_)) rfl rfl (by kernel_rfl) rfl rfl (Gives.move rfl rfl) ?_
 refine GA.pure 1 #[true, true, false, false, false, false, false, false] (by repeat (first | exact PanicOk.body | refine PanicOk.then ?_ | refine PanicOk.block ?_)) rfl rfl (by kernel_rfl) rfl rfl (Gives.move rfl rfl) ?_
 refine GA.take 2 #[true, true, true, false, false, false, false, false] (by repeat (first | exact PanicOk.body | refine PanicOk.then ?_ | refine PanicOk.block ?_)) rfl rfl (by kernel_rfl) rfl rfl (fun _ h => h) (Gives.slhp rfl rfl rfl Try.underlying22 sz26 (by omega) (by omega)) ?_
 refine GA.pure 3 #[true, true, true, true, false, false, false, false] (by repeat (first | exact PanicOk.body | refine PanicOk.then ?_ | refine PanicOk.block ?_)) rfl rfl (by kernel_rfl) rfl rfl (Gives.move rfl rfl) ?_
 refine GA.pure 4 #[true, true, true, true, true, false, false, false] (by repeat (first | exact PanicOk.body | refine PanicOk.then ?_ | refine PanicOk.block ?_)) rfl rfl (by kernel_rfl) rfl rfl (Gives.move rfl rfl) ?_
 refine GA.take 5 #[true, true, true, true, true, true, false, false] (by repeat (first | exact PanicOk.body | refine PanicOk.then ?_ | refine PanicOk.block ?_)) rfl rfl (by kernel_rfl) rfl rfl (fun _ h => h) (Gives.sl0 rfl rfl rfl Try.underlying22 sz26 (by omega) (by omega)) ?_
 obtain ⟨A', hA', hv⟩ := sliced_p g n c (i + 1).toNat (by omega) hnc
 refine GA.learn (t := 25) (v' := .slice A' (n - (i + 1).toNat) (c - (i + 1).toNat)) rfl hv ?_
 refine GA.last 6 #[true, true, true, true, true, true, true, false] [0] rfl rfl (by kernel_rfl) (by decide) rfl rfl rfl (Does.appendRoom ((V.drop (i + 1).toNat).flatMap eV) rfl rfl rfl Try.underlying22 sz26 (by rw [eV_flen, List.length_drop]; omega) (fun w hs hq => ⟨_, hA' hq, Go.Proofs.Yteckdfgllipilaa.VI.cells_from (i := 0) rfl (cur_drop hlen (by omega) hct) w hs⟩) eV_one (by omega) (by rw [hcs', eV_flen, List.length_drop]; omega)) fun _ _ => ?_
 have hk2 : i.toNat + (n - (i + 1).toNat) = n - 1 := by omega
 refine GA.learn (t := 26) (v' := .slice (some ⟨g, 0, none⟩) (n - 1) c) rfl (by rw [hk2]) ?_
 refine GA.pure 7 #[true, true, true, true, true, true, true, true] (by repeat (first | exact PanicOk.body | refine PanicOk.then ?_ | refine PanicOk.block ?_)) rfl rfl (by kernel_rfl) rfl rfl (Gives.assign rfl rfl) ?_
 refine GA.done (by kernel_rfl) ?_
 refine GQ.thenN ?_
 refine GC.seq ?_
 refine GC.region ?_
 refine GL.gives rfl rfl rfl (Gives.move rfl rfl) ?_
 refine GL.gives rfl rfl rfl (Gives.move rfl rfl) ?_
 refine GL.gives rfl rfl rfl (Gives.len rfl rfl Try.underlying22) ?_
 refine GL.gives rfl rfl rfl (Gives.move rfl rfl) ?_
 refine GL.gives rfl rfl rfl (Gives.sllhp rfl rfl rfl rfl Try.underlying22 sz26 (by omega) (by omega) (by omega) (by omega)) ?_
 have hk3 : (((n - 1 : Nat) : Int)).toNat = n - 1 := by omega
 have hk4 : (((n : Nat) : Int)).toNat - (n - 1) = 1 := by omega
 refine GL.learn (t := 31) (v' := .slice (some ⟨g, (n - 1) * 2, none⟩) 1 (c - (n - 1))) rfl (by rw [hk3, hk4, Nat.zero_add]) ?_
 refine GL.does0 [0] rfl rfl rfl (Does.clear (z := zz) rfl rfl Try.underlying22 in26 (by rw [zz1]; simp [Value.oneCell']) (by omega) (by rw [zz1, putAt_size _ _ _ (by rw [hcs', eV_flen, List.length_drop]; omega), hcs']; simp; omega)) fun _ _ => ?_
 refine GL.nil ?_
 refine GQ.thenN ?_
 refine GC.seq ?_
 refine GC.region ?_
 refine GL.gives rfl rfl rfl (Gives.move rfl rfl) ?_
 refine GL.gives rfl rfl rfl (Gives.assign rfl rfl) ?_
 refine GL.nil ?_
 refine GQ.thenN ?_
 refine GC.ret ?_
 refine GQ.ret1 (.inl rfl) rfl rfl ?_
 intro w hs
 refine ⟨.slice (some ⟨g, 0, none⟩) (n - 1) c, rfl, trivial, (hs.turn (is := [0]) rfl (Turns.shut (kd := kV) (enc := eV) eV_M eV_len hg (by rw [del_len (by omega)]; omega) (by omega) hcm ?_ ?_)).take (is := [0]) rfl⟩
 · rw [putAt_size _ _ _ (by rw [zz1, putAt_size _ _ _ (by rw [hcs', eV_flen, List.length_drop]; omega), hcs']; simp; omega), putAt_size _ _ _ (by rw [hcs', eV_flen, List.length_drop]; omega), hcs]
 · have := del_done V i.toNat cur (by omega) (by rw [hcs']; omega) (by rw [← hlen]; exact hct) _ (congrArg List.length zz1)
   rw [show (i + 1).toNat = i.toNat + 1 by omega, hlen]
   exact this

end Go.Proofs.Yteckdfgllipilaa.VD
