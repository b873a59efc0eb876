/- The block law: a disk and the document's disk, call by call. -/
import Derived.Test.YtanbpjlnomifhaaSX
namespace Go.Proofs.Ytanbpjlnomifhaa.SY
open Go.RowKit Go.Proofs.YtanbpjlnomifhaaW.PrintWords Go.Proofs.YtanbpjlnomifhaaW.PrintLast Go.Proofs.YtanbpjlnomifhaaS Go.Proofs.Ytanbpjlnomifhaa.SL Go.Proofs.Ytanbpjlnomifhaa.SR Go.Proofs.Ytanbpjlnomifhaa.SB Go.Proofs.Ytanbpjlnomifhaa.SX

/-- A call: its kind, the block, the data, the mask. -/
abbrev AT := Int × Int × ByteArray × Int
def act (m : M) (a : AT) : M := if a.1 = 0 then (m.write a.2.1 a.2.2.1).1 else if a.1 = 1 then m.sync.1 else if a.1 = 2 then m else if a.1 = 3 then { m with f := a.2.1 } else m.crash a.2.2.2
def OkAct (a : AT) : Prop := (-9223372036854775808 ≤ a.2.1 ∧ a.2.1 ≤ 9223372036854775807) ∧ 0 ≤ a.2.2.2 ∧ a.2.2.2 ≤ 18446744073709551615
theorem one_row {α : Type} {w0 : World} {F0 : Nat → Prop} {L R : List Atom} {B e i : Nat} {kd : Kd α} {v : Value} {xs : List α} (hL : rem1 i L = some (Row B kd e v xs, R)) : ∀ w, St w0 F0 w L → v.oneCell' = true := fun w hs => by
  obtain ⟨A, c, h, _⟩ := row_slice hL w hs
  subst h
  rfl
theorem write_ok {m : M} {n : Nat} (hm : m.Ok n) (hr : m.L.length < 1000000000000) (i : Int) (d : ByteArray) : (m.write i d).1.Ok n ∧ (m.write i d).1.L.length ≤ m.L.length + 1 := by
  obtain ⟨hk1, hk2⟩ := burn_keeps m
  have hf := burn_fuse m hm.fuse
  unfold M.write
  split
  · exact ⟨hm, Nat.le_succ _⟩
  · rename_i hno
    split
    · rename_i he
      refine ⟨⟨by show m.burn.1.S.length = n; rw [hk1]; exact hm.len, hm.pos, ?_, hf, by show (m.L ++ [(i, d)]).length ≤ _; simp; omega⟩, by show (m.L ++ [(i, d)]).length ≤ _; simp⟩
      have hb : m.b = false := by
        cases hb : m.b with
        | false => rfl
        | true => unfold M.burn at he; rw [if_pos (.inl hb)] at he; simp at he
      intro w hw
      rcases List.mem_append.1 hw with hw | hw
      · exact hm.late w hw
      · obtain rfl := List.mem_singleton.1 hw
        have := hm.len
        have : ¬ (i < 0 ∨ m.S.length ≤ i ∨ 256 < d.size) := fun h => hno ⟨hb, h⟩
        show 0 ≤ i ∧ i < n
        omega
    · exact ⟨⟨by rw [hk1]; exact hm.len, hm.pos, by rw [hk2]; exact hm.late, hf, by rw [hk2]; exact hm.room⟩, by rw [hk2]; omega⟩
theorem sync_ok {m : M} {n : Nat} (hm : m.Ok n) : m.sync.1.Ok n ∧ m.sync.1.L.length ≤ m.L.length := by
  obtain ⟨hk1, hk2⟩ := burn_keeps m
  have hf := burn_fuse m hm.fuse
  unfold M.sync
  split
  · exact ⟨⟨by show (laid m.S m.L).length = n; rw [laid_length]; exact hm.len, hm.pos, fun w hw => by (have hw' : w ∈ ([] : List WS) := hw; cases hw'), hf, Nat.zero_le _⟩, Nat.zero_le _⟩
  · exact ⟨⟨by rw [hk1]; exact hm.len, hm.pos, by rw [hk2]; exact hm.late, hf, by rw [hk2]; exact hm.room⟩, by rw [hk2]; omega⟩
theorem crash_ok {m : M} {n : Nat} (hm : m.Ok n) (mask : Int) : (m.crash mask).Ok n ∧ (m.crash mask).L.length ≤ m.L.length :=
  ⟨⟨by show (kept mask m.S m.L 0).length = n; rw [kept_length]; exact hm.len, hm.pos, fun w hw => by (have hw' : w ∈ ([] : List WS) := hw; cases hw'), by show -9223372036854775808 ≤ (-1 : Int) ∧ (-1 : Int) ≤ 9223372036854775807; omega, Nat.zero_le _⟩, Nat.zero_le _⟩
theorem act_ok {m : M} {n : Nat} (hm : m.Ok n) (hr : m.L.length < 1000000000000) (a : AT) (ha : OkAct a) : (act m a).Ok n ∧ (act m a).L.length ≤ m.L.length + 1 := by
  unfold act
  split
  · exact write_ok hm hr _ _
  split
  · exact ⟨(sync_ok hm).1, by have := (sync_ok hm).2; omega⟩
  split
  · exact ⟨hm, by omega⟩
  split
  · exact ⟨⟨hm.len, hm.pos, hm.late, ha.1, hm.room⟩, by show m.L.length ≤ _; omega⟩
  · exact ⟨(crash_ok hm _).1, by have := (crash_ok hm a.2.2.2).2; omega⟩

theorem mixed_ : Try.prog.follows .mixedOrders = true := by kernel_rfl
theorem ag31 (w : World) : (isAgg 31).run Try.prog w = .ok true w := by kernel_rfl
theorem al31 (w : World) : (Instr.alloc 31 true (.tuple #[])).run Try.prog w = .ok (.pointer (some ⟨w.heap.size, 0, none⟩)) (w.alloc (.cells #[.slice none 0 0, .slice none 0 0, .int .i64 0, .bool false] 31 (0, 0))) := by kernel_rfl
theorem pl3 : Plain Try.prog 3 := plain_int Try.underlying3
theorem pl9 : Plain Try.prog 9 := plain_string Try.underlying9
theorem pl37 : Plain Try.prog 37 := plain_int Try.underlying37
theorem sz3 (w : World) : (sizeOf 3).run Try.prog w = .ok 1 w := by kernel_rfl
theorem sz31 (w : World) : (sizeOf 31).run Try.prog w = .ok 4 w := by kernel_rfl
set_option maxRecDepth 100000 in
set_option maxHeartbeats 1000000 in
theorem does_con (B g gs cs n gr : Nat) (vl sv lv : Value) (m : M) (kd i : Int) (d : ByteArray) (ma : Int) (ha : OkAct (kd, i, d, ma)) (hm : m.Ok n) (hr : m.L.length < 1000000000000) (S : World → Prop) (hBS : ∀ w, S w → B ≤ w.heap.size) :
    Con Try.prog 8 [.pointer (some ⟨g, 0, none⟩), .pointer (some ⟨gr, 0, none⟩), .agg #[.int .i64 kd, .int .i64 i, .string d, .int .u64 ma]] S (DK B g gs cs n vl m ++ Cells gr #[sv, lv, .int .i64 m.f, .bool m.b] 31 :: RK B sv lv m) (fun _ : Value × Value × Value => .bool true) (fun _ => True)
      (fun s => DK B g gs cs n s.1 (act m (kd, i, d, ma)) ++ Cells gr #[s.2.1, s.2.2, .int .i64 (act m (kd, i, d, ma)).f, .bool (act m (kd, i, d, ma)).b] 31 :: RK B s.2.1 s.2.2 (act m (kd, i, d, ma))) := by
 intro w F0 hS hs hlt
 have hB := hBS w hS
 have h1 := one_row (i := 4) (v := sv) (xs := m.S) rfl w (St.start hs)
 have h2 := one_row (i := 5) (v := lv) (xs := m.L) rfl w (St.start hs)
 refine enter (args := [.pointer (some ⟨g, 0, none⟩), .pointer (some ⟨gr, 0, none⟩), .agg #[.int .i64 kd, .int .i64 i, .string d, .int .u64 ma]]) Try.func8 rfl rfl rfl hs ?_
 refine GC.seq ?_
 refine GC.region ?_
 refine GL.does [] rfl rfl rfl rfl (Does.box (cs := #[.int .i64 kd, .int .i64 i, .string d, .int .u64 ma]) (Bs hB) rfl rfl rfl) fun ga hga => ?_
 refine GL.gives rfl rfl rfl (Gives.assign rfl rfl) ?_
 refine GL.nil ?_
 refine GQ.thenN ?_
 refine GC.seq ?_
 refine GC.region ?_
 refine GL.gives rfl rfl rfl (Gives.assign rfl rfl) ?_
 refine GL.gives rfl rfl rfl (Gives.assign rfl rfl) ?_
 refine GL.nil ?_
 refine GQ.thenN ?_
 refine GC.seq ?_
 refine GC.region ?_
 refine GL.gives rfl rfl rfl (Gives.move rfl rfl) ?_
 refine GL.gives rfl rfl rfl (Gives.nilCheck rfl rfl) ?_
 refine GL.gives rfl rfl rfl (Gives.loadb (cs := #[sv, lv, .int .i64 m.f, .bool m.b]) 4 rfl rfl ag31 sz31 rfl) ?_
 refine GL.does [] rfl rfl rfl rfl (Does.alloc (Bs hB) rfl al31) fun gn hgn => ?_
 refine GL.does0 [0] rfl rfl rfl (Does.storeb rfl rfl rfl sz31 (by first | (simp [Value.oneCell']; done) | (simp [one_int, one_bool, one_string, one_slice, one_pointer, *]; done)) rfl) fun _ _ => ?_
 refine GL.nil ?_
 refine GQ.thenN ?_
 refine GC.seq ?_
 refine GC.seq ?_
 refine GC.region ?_
 refine GL.gives rfl rfl rfl (Gives.fieldAddr (q := ⟨ga, 0, none⟩) rfl rfl (fun _ => by kernel_rfl)) ?_
 refine GL.gives rfl rfl rfl (Gives.loadc (v := .int .i64 kd) 1 rfl rfl pl3 rfl rfl) ?_
 refine GL.nil ?_
 refine GQ.thenN ?_
 refine GC.block ?_
 refine GC.seq ?_
 refine GC.region ?_
 refine GL.gives rfl rfl rfl (Gives.eqi rfl rfl rfl) ?_
 refine GL.gives rfl rfl rfl (Gives.assign rfl rfl) ?_
 refine GL.nil ?_
 refine GQ.thenN ?_
 refine GC.split (t := 29) rfl (fun ha0 => ?_) (fun ha0 => ?_)
 ·
   replace ha0 := by simpa using ha0
   refine GC.condT rfl rfl ?_
   refine GC.seq ?_
   refine GC.draw (fun w => St _ _ w _) [7, 11] #[false, false, false, false, false, false, false, false, false, false, false, false, false] mixed_ rfl rfl (fun _ h => h) ?_
   refine GA.pure 0 #[true, false, false, false, false, false, false, false, false, false, false, false, false] (by repeat (first | exact PanicOk.body | refine PanicOk.then ?_ | refine PanicOk.block ?_)) rfl rfl (by kernel_rfl) rfl rfl (Gives.move rfl rfl) ?_
   refine GA.pure 1 #[true, true, false, false, false, false, false, false, false, false, false, false, false] (by repeat (first | exact PanicOk.body | refine PanicOk.then ?_ | refine PanicOk.block ?_)) rfl rfl (by kernel_rfl) rfl rfl (Gives.nilCheck rfl rfl) ?_
   refine GA.take 2 #[true, true, true, false, false, false, false, false, false, false, false, false, false] (by repeat (first | exact PanicOk.body | refine PanicOk.then ?_ | refine PanicOk.block ?_)) rfl rfl (by kernel_rfl) rfl rfl (fun _ h => h) (Gives.loadb (cs := #[sv, lv, .int .i64 m.f, .bool m.b]) 5 rfl rfl ag31 sz31 rfl) ?_
   refine GA.pure 3 #[true, true, true, true, false, false, false, false, false, false, false, false, false] (by repeat (first | exact PanicOk.body | refine PanicOk.then ?_ | refine PanicOk.block ?_)) rfl rfl (by kernel_rfl) rfl rfl (Gives.fieldAddr (q := ⟨ga, 1, none⟩) rfl rfl (fun _ => by kernel_rfl)) ?_
   refine GA.take 4 #[true, true, true, true, true, false, false, false, false, false, false, false, false] (by repeat (first | exact PanicOk.body | refine PanicOk.then ?_ | refine PanicOk.block ?_)) rfl rfl (by kernel_rfl) rfl rfl (fun _ h => h) (Gives.loadc (v := .int .i64 i) 1 rfl rfl pl3 rfl rfl) ?_
   refine GA.pure 5 #[true, true, true, true, true, true, false, false, false, false, false, false, false] (by repeat (first | exact PanicOk.body | refine PanicOk.then ?_ | refine PanicOk.block ?_)) rfl rfl (by kernel_rfl) rfl rfl (Gives.fieldAddr (q := ⟨ga, 2, none⟩) rfl rfl (fun _ => by kernel_rfl)) ?_
   refine GA.take 6 #[true, true, true, true, true, true, true, false, false, false, false, false, false] (by repeat (first | exact PanicOk.body | refine PanicOk.then ?_ | refine PanicOk.block ?_)) rfl rfl (by kernel_rfl) rfl rfl (fun _ h => h) (Gives.loadc (v := .string d) 1 rfl rfl pl9 rfl rfl) ?_
   refine GA.last 7 #[true, true, true, true, true, true, true, true, false, false, false, false, false] [6, 6] rfl rfl (by kernel_rfl) (by decide) rfl rfl rfl (Does.call rfl rfl Try.func14 rfl rfl (rwrite_con B sv lv m n hm hr i d _ (Bs hB))) fun lv' _ => ?_
   refine GA.know (one_row (i := 1) rfl) fun h3 => ?_
   refine GA.pure 8 #[true, true, true, true, true, true, true, true, true, false, false, false, false] (by repeat (first | exact PanicOk.body | refine PanicOk.then ?_ | refine PanicOk.block ?_)) rfl rfl (by kernel_rfl) rfl rfl (Gives.move rfl rfl) ?_
   refine GA.pure 9 #[true, true, true, true, true, true, true, true, true, true, false, false, false] (by repeat (first | exact PanicOk.body | refine PanicOk.then ?_ | refine PanicOk.block ?_)) rfl rfl (by kernel_rfl) rfl rfl (Gives.extract (v := .agg #[sv, lv', .int .i64 (m.write i d).1.f, .bool (m.write i d).1.b]) rfl rfl rfl) ?_
   refine GA.pure 10 #[true, true, true, true, true, true, true, true, true, true, true, false, false] (by repeat (first | exact PanicOk.body | refine PanicOk.then ?_ | refine PanicOk.block ?_)) rfl rfl (by kernel_rfl) rfl rfl (Gives.extract (v := .int .i64 (m.write i d).2) rfl rfl rfl) ?_
   refine GA.last0 11 #[true, true, true, true, true, true, true, true, true, true, true, true, false] [2] rfl rfl (by kernel_rfl) (by decide) rfl rfl (Does.storeb rfl rfl rfl sz31 (by first | (simp [Value.oneCell']; done) | (simp [one_int, one_bool, one_string, one_slice, one_pointer, *]; done)) rfl) fun _ _ => ?_
   refine GA.pure 12 #[true, true, true, true, true, true, true, true, true, true, true, true, true] (by repeat (first | exact PanicOk.body | refine PanicOk.then ?_ | refine PanicOk.block ?_)) rfl rfl (by kernel_rfl) rfl rfl (Gives.assign rfl rfl) ?_
   refine GA.done (by kernel_rfl) ?_
   refine GQ.thenN ?_
   refine GC.region ?_
   refine GL.gives rfl rfl rfl (Gives.move rfl rfl) ?_
   refine GL.gives rfl rfl rfl (Gives.fieldAddr (q := ⟨ga, 1, none⟩) rfl rfl (fun _ => by kernel_rfl)) ?_
   refine GL.gives rfl rfl rfl (Gives.loadc (v := .int .i64 i) 3 rfl rfl pl3 rfl rfl) ?_
   refine GL.gives rfl rfl rfl (Gives.fieldAddr (q := ⟨ga, 2, none⟩) rfl rfl (fun _ => by kernel_rfl)) ?_
   refine GL.gives rfl rfl rfl (Gives.loadc (v := .string d) 3 rfl rfl pl9 rfl rfl) ?_
   refine GL.does [4, 4, 4] rfl rfl rfl rfl (Does.call rfl rfl Try.func11 rfl rfl (write_con B g gs cs n vl m i d hm hr _ (Bs hB))) fun vl' _ => ?_
   refine GL.gives rfl rfl rfl (Gives.assign rfl rfl) ?_
   refine GL.nil ?_
   refine GQ.blkN ?_
   refine GQ.thenN ?_
   refine GC.seq ?_
   refine GC.region ?_
   refine GL.gives rfl rfl rfl (Gives.move rfl rfl) ?_
   refine GL.gives rfl rfl rfl (Gives.loadb (cs := #[sv, lv', .int .i64 (m.write i d).1.f, .bool (m.write i d).1.b]) 3 rfl rfl ag31 sz31 rfl) ?_
   refine GL.gives rfl rfl rfl (Gives.nilCheck rfl rfl) ?_
   refine GL.does0 [7] rfl rfl rfl (Does.storeb rfl rfl rfl sz31 (by first | (simp [Value.oneCell']; done) | (simp [one_int, one_bool, one_string, one_slice, one_pointer, *]; done)) rfl) fun _ _ => ?_
   refine GL.nil ?_
   refine GQ.thenN ?_
   refine GC.seq ?_
   refine GC.region ?_
   refine GL.gives rfl rfl rfl (Gives.move rfl rfl) ?_
   refine GL.gives rfl rfl rfl (Gives.move rfl rfl) ?_
   refine GL.gives rfl rfl rfl (Gives.eqi rfl rfl rfl) ?_
   refine GL.gives rfl rfl rfl (Gives.assign rfl rfl) ?_
   refine GL.nil ?_
   refine GQ.thenN ?_
   refine GC.ret ?_
   refine GQ.ret1 (.inl rfl) rfl rfl ?_
   intro w hs
   refine ⟨(vl', sv, lv'), ?_, trivial, ?_⟩
   · simp
   · rw [show act m (kd, i, d, ma) = _ from (if_pos ha0)]; unfold DK RK; exact hs.take (is := [1, 1, 1, 0, 1, 1]) rfl
 ·
   replace ha0 := by simpa using ha0
   refine GC.condF rfl rfl ?_
   refine GC.seq ?_
   refine GC.region ?_
   refine GL.gives rfl rfl rfl (Gives.eqi rfl rfl rfl) ?_
   refine GL.gives rfl rfl rfl (Gives.assign rfl rfl) ?_
   refine GL.nil ?_
   refine GQ.thenN ?_
   refine GC.split (t := 48) rfl (fun ha1 => ?_) (fun ha1 => ?_)
   ·
     replace ha1 := by simpa using ha1
     refine GC.condT rfl rfl ?_
     refine GC.seq ?_
     refine GC.region ?_
     refine GL.gives rfl rfl rfl (Gives.move rfl rfl) ?_
     refine GL.gives rfl rfl rfl (Gives.nilCheck rfl rfl) ?_
     refine GL.gives rfl rfl rfl (Gives.loadb (cs := #[sv, lv, .int .i64 m.f, .bool m.b]) 5 rfl rfl ag31 sz31 rfl) ?_
     refine GL.does [6, 6] rfl rfl rfl rfl (Does.call rfl rfl Try.func15 rfl rfl (rsync_con B sv lv m n hm _ (Bs hB))) fun ⟨sv', lv'⟩ _ => ?_
     refine GL.know (one_row (i := 0) rfl) fun h3 => ?_
     refine GL.know (one_row (i := 1) rfl) fun h4 => ?_
     refine GL.gives rfl rfl rfl (Gives.move rfl rfl) ?_
     refine GL.gives rfl rfl rfl (Gives.extract (v := .agg #[sv', lv', .int .i64 m.sync.1.f, .bool m.sync.1.b]) rfl rfl rfl) ?_
     refine GL.gives rfl rfl rfl (Gives.extract (v := .int .i64 m.sync.2) rfl rfl rfl) ?_
     refine GL.does0 [2] rfl rfl rfl (Does.storeb rfl rfl rfl sz31 (by first | (simp [Value.oneCell']; done) | (simp [one_int, one_bool, one_string, one_slice, one_pointer, *]; done)) rfl) fun _ _ => ?_
     refine GL.gives rfl rfl rfl (Gives.assign rfl rfl) ?_
     refine GL.nil ?_
     refine GQ.thenN ?_
     refine GC.region ?_
     refine GL.gives rfl rfl rfl (Gives.move rfl rfl) ?_
     refine GL.does [4, 4, 4] rfl rfl rfl rfl (Does.call rfl rfl Try.func12 rfl rfl (sync_con B g gs cs n vl m hm _ (Bs hB))) fun vl' _ => ?_
     refine GL.gives rfl rfl rfl (Gives.assign rfl rfl) ?_
     refine GL.nil ?_
     refine GQ.blkN ?_
     refine GQ.thenN ?_
     refine GC.seq ?_
     refine GC.region ?_
     refine GL.gives rfl rfl rfl (Gives.move rfl rfl) ?_
     refine GL.gives rfl rfl rfl (Gives.loadb (cs := #[sv', lv', .int .i64 m.sync.1.f, .bool m.sync.1.b]) 3 rfl rfl ag31 sz31 rfl) ?_
     refine GL.gives rfl rfl rfl (Gives.nilCheck rfl rfl) ?_
     refine GL.does0 [7] rfl rfl rfl (Does.storeb rfl rfl rfl sz31 (by first | (simp [Value.oneCell']; done) | (simp [one_int, one_bool, one_string, one_slice, one_pointer, *]; done)) rfl) fun _ _ => ?_
     refine GL.nil ?_
     refine GQ.thenN ?_
     refine GC.seq ?_
     refine GC.region ?_
     refine GL.gives rfl rfl rfl (Gives.move rfl rfl) ?_
     refine GL.gives rfl rfl rfl (Gives.move rfl rfl) ?_
     refine GL.gives rfl rfl rfl (Gives.eqi rfl rfl rfl) ?_
     refine GL.gives rfl rfl rfl (Gives.assign rfl rfl) ?_
     refine GL.nil ?_
     refine GQ.thenN ?_
     refine GC.ret ?_
     refine GQ.ret1 (.inl rfl) rfl rfl ?_
     intro w hs
     refine ⟨(vl', sv', lv'), ?_, trivial, ?_⟩
     · simp
     · rw [show act m (kd, i, d, ma) = _ from ((if_neg ha0).trans (if_pos ha1))]; unfold DK RK; exact hs.take (is := [1, 1, 1, 0, 1, 1]) rfl
   ·
     replace ha1 := by simpa using ha1
     refine GC.condF rfl rfl ?_
     refine GC.seq ?_
     refine GC.region ?_
     refine GL.gives rfl rfl rfl (Gives.eqi rfl rfl rfl) ?_
     refine GL.gives rfl rfl rfl (Gives.assign rfl rfl) ?_
     refine GL.nil ?_
     refine GQ.thenN ?_
     refine GC.split (t := 59) rfl (fun ha2 => ?_) (fun ha2 => ?_)
     ·
       replace ha2 := by simpa using ha2
       refine GC.condT rfl rfl ?_
       refine GC.seq ?_
       refine GC.draw (fun w => St _ _ w _) [5] #[false, false, false, false, false, false, false, false, false, false, false] mixed_ rfl rfl (fun _ h => h) ?_
       refine GA.pure 0 #[true, false, false, false, false, false, false, false, false, false, false] (by repeat (first | exact PanicOk.body | refine PanicOk.then ?_ | refine PanicOk.block ?_)) rfl rfl (by kernel_rfl) rfl rfl (Gives.move rfl rfl) ?_
       refine GA.pure 1 #[true, true, false, false, false, false, false, false, false, false, false] (by repeat (first | exact PanicOk.body | refine PanicOk.then ?_ | refine PanicOk.block ?_)) rfl rfl (by kernel_rfl) rfl rfl (Gives.nilCheck rfl rfl) ?_
       refine GA.take 2 #[true, true, true, false, false, false, false, false, false, false, false] (by repeat (first | exact PanicOk.body | refine PanicOk.then ?_ | refine PanicOk.block ?_)) rfl rfl (by kernel_rfl) rfl rfl (fun _ h => h) (Gives.loadb (cs := #[sv, lv, .int .i64 m.f, .bool m.b]) 5 rfl rfl ag31 sz31 rfl) ?_
       refine GA.pure 3 #[true, true, true, true, false, false, false, false, false, false, false] (by repeat (first | exact PanicOk.body | refine PanicOk.then ?_ | refine PanicOk.block ?_)) rfl rfl (by kernel_rfl) rfl rfl (Gives.fieldAddr (q := ⟨ga, 1, none⟩) rfl rfl (fun _ => by kernel_rfl)) ?_
       refine GA.take 4 #[true, true, true, true, true, false, false, false, false, false, false] (by repeat (first | exact PanicOk.body | refine PanicOk.then ?_ | refine PanicOk.block ?_)) rfl rfl (by kernel_rfl) rfl rfl (fun _ h => h) (Gives.loadc (v := .int .i64 i) 1 rfl rfl pl3 rfl rfl) ?_
       refine GA.last 5 #[true, true, true, true, true, true, false, false, false, false, false] [6, 6] rfl rfl (by kernel_rfl) (by decide) rfl rfl rfl (Does.call rfl rfl Try.func10 rfl rfl (rread_con B sv lv m n hm i _ (Bs hB))) fun _ _ => ?_
       refine GA.pure 6 #[true, true, true, true, true, true, true, false, false, false, false] (by repeat (first | exact PanicOk.body | refine PanicOk.then ?_ | refine PanicOk.block ?_)) rfl rfl (by kernel_rfl) rfl rfl (Gives.move rfl rfl) ?_
       refine GA.pure 7 #[true, true, true, true, true, true, true, true, false, false, false] (by repeat (first | exact PanicOk.body | refine PanicOk.then ?_ | refine PanicOk.block ?_)) rfl rfl (by kernel_rfl) rfl rfl (Gives.extract (v := .string (m.read i).1) rfl rfl rfl) ?_
       refine GA.pure 8 #[true, true, true, true, true, true, true, true, true, false, false] (by repeat (first | exact PanicOk.body | refine PanicOk.then ?_ | refine PanicOk.block ?_)) rfl rfl (by kernel_rfl) rfl rfl (Gives.extract (v := .int .i64 (m.read i).2) rfl rfl rfl) ?_
       refine GA.pure 9 #[true, true, true, true, true, true, true, true, true, true, false] (by repeat (first | exact PanicOk.body | refine PanicOk.then ?_ | refine PanicOk.block ?_)) rfl rfl (by kernel_rfl) rfl rfl (Gives.assign rfl rfl) ?_
       refine GA.pure 10 #[true, true, true, true, true, true, true, true, true, true, true] (by repeat (first | exact PanicOk.body | refine PanicOk.then ?_ | refine PanicOk.block ?_)) rfl rfl (by kernel_rfl) rfl rfl (Gives.assign rfl rfl) ?_
       refine GA.done (by kernel_rfl) ?_
       refine GQ.thenN ?_
       refine GC.seq ?_
       refine GC.region ?_
       refine GL.gives rfl rfl rfl (Gives.move rfl rfl) ?_
       refine GL.gives rfl rfl rfl (Gives.fieldAddr (q := ⟨ga, 1, none⟩) rfl rfl (fun _ => by kernel_rfl)) ?_
       refine GL.gives rfl rfl rfl (Gives.loadc (v := .int .i64 i) 3 rfl rfl pl3 rfl rfl) ?_
       refine GL.does [4, 4, 4] rfl rfl rfl rfl (Does.call rfl rfl Try.func9 rfl rfl (read_con B g gs cs n vl m i hm _ (Bs hB))) fun _ _ => ?_
       refine GL.gives rfl rfl rfl (Gives.move rfl rfl) ?_
       refine GL.gives rfl rfl rfl (Gives.extract (v := .string (m.read i).1) rfl rfl rfl) ?_
       refine GL.gives rfl rfl rfl (Gives.extract (v := .int .i64 (m.read i).2) rfl rfl rfl) ?_
       refine GL.gives rfl rfl rfl (Gives.assign rfl rfl) ?_
       refine GL.gives rfl rfl rfl (Gives.assign rfl rfl) ?_
       refine GL.nil ?_
       refine GQ.thenN ?_
       refine GC.seq ?_
       refine GC.region ?_
       refine GL.gives rfl rfl rfl (Gives.move rfl rfl) ?_
       refine GL.gives rfl rfl rfl (Gives.move rfl rfl) ?_
       refine GL.gives rfl rfl rfl (Gives.eqs rfl rfl rfl) ?_
       refine GL.gives rfl rfl rfl (Gives.move rfl rfl) ?_
       refine GL.learn (t := 80) (v' := .bool true) rfl (congrArg Value.bool (by simp)) ?_
       refine GL.gives rfl rfl rfl (Gives.move rfl rfl) ?_
       refine GL.gives rfl rfl rfl (Gives.move rfl rfl) ?_
       refine GL.gives rfl rfl rfl (Gives.eqi rfl rfl rfl) ?_
       refine GL.gives rfl rfl rfl (Gives.pickT rfl rfl rfl rfl) ?_
       refine GL.gives rfl rfl rfl (Gives.assign rfl rfl) ?_
       refine GL.nil ?_
       refine GQ.thenN ?_
       refine GC.ret ?_
       refine GQ.blkR ?_
       refine GQ.thenR ?_
       refine GQ.ret1 (.inl rfl) rfl rfl ?_
       intro w hs
       refine ⟨(vl, sv, lv), ?_, trivial, ?_⟩
       · simp
       · rw [show act m (kd, i, d, ma) = _ from ((if_neg ha0).trans ((if_neg ha1).trans (if_pos ha2)))]; unfold DK RK; exact hs.take (is := [0, 0, 0, 4, 0, 0]) rfl
     ·
       replace ha2 := by simpa using ha2
       refine GC.condF rfl rfl ?_
       refine GC.seq ?_
       refine GC.region ?_
       refine GL.gives rfl rfl rfl (Gives.eqi rfl rfl rfl) ?_
       refine GL.gives rfl rfl rfl (Gives.assign rfl rfl) ?_
       refine GL.nil ?_
       refine GQ.thenN ?_
       refine GC.split (t := 85) rfl (fun ha3 => ?_) (fun ha3 => ?_)
       ·
         replace ha3 := by simpa using ha3
         refine GC.condT rfl rfl ?_
         refine GC.seq ?_
         refine GC.region ?_
         refine GL.gives rfl rfl rfl (Gives.fieldAddr (q := ⟨ga, 1, none⟩) rfl rfl (fun _ => by kernel_rfl)) ?_
         refine GL.gives rfl rfl rfl (Gives.loadc (v := .int .i64 i) 1 rfl rfl pl3 rfl rfl) ?_
         refine GL.gives rfl rfl rfl (Gives.fieldAddr (q := ⟨gn, 2, none⟩) rfl rfl (fun _ => by kernel_rfl)) ?_
         refine GL.does0 [0] rfl rfl rfl (Does.store rfl rfl rfl sz3 rfl rfl rfl rfl) fun _ _ => ?_
         refine GL.nil ?_
         refine GQ.thenN ?_
         refine GC.region ?_
         refine GL.gives rfl rfl rfl (Gives.move rfl rfl) ?_
         refine GL.gives rfl rfl rfl (Gives.fieldAddr (q := ⟨ga, 1, none⟩) rfl rfl (fun _ => by kernel_rfl)) ?_
         refine GL.gives rfl rfl rfl (Gives.loadc (v := .int .i64 i) 1 rfl rfl pl3 rfl rfl) ?_
         refine GL.does [2] rfl rfl rfl rfl (Does.call rfl rfl Try.func16 rfl rfl (fuse_con g gs cs n vl m i _)) fun _ _ => ?_
         refine GL.nil ?_
         refine GQ.blkN ?_
         refine GQ.thenN ?_
         refine GC.seq ?_
         refine GC.region ?_
         refine GL.gives rfl rfl rfl (Gives.move rfl rfl) ?_
         refine GL.gives rfl rfl rfl (Gives.loadb (cs := #[sv, lv, .int .i64 i, .bool m.b]) 1 rfl rfl ag31 sz31 rfl) ?_
         refine GL.gives rfl rfl rfl (Gives.nilCheck rfl rfl) ?_
         refine GL.does0 [5] rfl rfl rfl (Does.storeb rfl rfl rfl sz31 (by first | (simp [Value.oneCell']; done) | (simp [one_int, one_bool, one_string, one_slice, one_pointer, *]; done)) rfl) fun _ _ => ?_
         refine GL.nil ?_
         refine GQ.thenN ?_
         refine GC.seq ?_
         refine GC.region ?_
         refine GL.gives rfl rfl rfl (Gives.move rfl rfl) ?_
         refine GL.gives rfl rfl rfl (Gives.move rfl rfl) ?_
         refine GL.gives rfl rfl rfl (Gives.eqi rfl rfl rfl) ?_
         refine GL.gives rfl rfl rfl (Gives.assign rfl rfl) ?_
         refine GL.nil ?_
         refine GQ.thenN ?_
         refine GC.ret ?_
         refine GQ.ret1 (.inl rfl) rfl rfl ?_
         intro w hs
         refine ⟨(vl, sv, lv), ?_, trivial, ?_⟩
         · simp
         · rw [show act m (kd, i, d, ma) = _ from ((if_neg ha0).trans ((if_neg ha1).trans ((if_neg ha2).trans (if_pos ha3))))]; unfold DK RK; exact hs.take (is := [1, 3, 3, 0, 2, 2]) rfl
       ·
         replace ha3 := by simpa using ha3
         refine GC.condF rfl rfl ?_
         refine GC.seq ?_
         refine GC.draw (fun w => St _ _ w _) [5, 6] #[false, false, false, false, false, false, false] mixed_ rfl rfl (fun _ h => h) ?_
         refine GA.pure 0 #[true, false, false, false, false, false, false] (by repeat (first | exact PanicOk.body | refine PanicOk.then ?_ | refine PanicOk.block ?_)) rfl rfl (by kernel_rfl) rfl rfl (Gives.move rfl rfl) ?_
         refine GA.pure 1 #[true, true, false, false, false, false, false] (by repeat (first | exact PanicOk.body | refine PanicOk.then ?_ | refine PanicOk.block ?_)) rfl rfl (by kernel_rfl) rfl rfl (Gives.nilCheck rfl rfl) ?_
         refine GA.take 2 #[true, true, true, false, false, false, false] (by repeat (first | exact PanicOk.body | refine PanicOk.then ?_ | refine PanicOk.block ?_)) rfl rfl (by kernel_rfl) rfl rfl (fun _ h => h) (Gives.loadb (cs := #[sv, lv, .int .i64 m.f, .bool m.b]) 5 rfl rfl ag31 sz31 rfl) ?_
         refine GA.pure 3 #[true, true, true, true, false, false, false] (by repeat (first | exact PanicOk.body | refine PanicOk.then ?_ | refine PanicOk.block ?_)) rfl rfl (by kernel_rfl) rfl rfl (Gives.fieldAddr (q := ⟨ga, 3, none⟩) rfl rfl (fun _ => by kernel_rfl)) ?_
         refine GA.take 4 #[true, true, true, true, true, false, false] (by repeat (first | exact PanicOk.body | refine PanicOk.then ?_ | refine PanicOk.block ?_)) rfl rfl (by kernel_rfl) rfl rfl (fun _ h => h) (Gives.loadc (v := .int .u64 ma) 1 rfl rfl pl37 rfl rfl) ?_
         refine GA.last 5 #[true, true, true, true, true, true, false] [6, 6] rfl rfl (by kernel_rfl) (by decide) rfl rfl rfl (Does.call rfl rfl Try.func17 rfl rfl (rcrash_con B sv lv m n hm ma ha.2 _ (Bs hB))) fun ⟨sv', lv'⟩ _ => ?_
         refine GA.know (one_row (i := 0) rfl) fun h3 => ?_
         refine GA.know (one_row (i := 1) rfl) fun h4 => ?_
         refine GA.last0 6 #[true, true, true, true, true, true, true] [2] rfl rfl (by kernel_rfl) (by decide) rfl rfl (Does.storeb rfl rfl rfl sz31 (by first | (simp [Value.oneCell']; done) | (simp [one_int, one_bool, one_string, one_slice, one_pointer, *]; done)) rfl) fun _ _ => ?_
         refine GA.done (by kernel_rfl) ?_
         refine GQ.thenN ?_
         refine GC.region ?_
         refine GL.gives rfl rfl rfl (Gives.move rfl rfl) ?_
         refine GL.gives rfl rfl rfl (Gives.fieldAddr (q := ⟨ga, 3, none⟩) rfl rfl (fun _ => by kernel_rfl)) ?_
         refine GL.gives rfl rfl rfl (Gives.loadc (v := .int .u64 ma) 3 rfl rfl pl37 rfl rfl) ?_
         refine GL.does [4, 4, 4] rfl rfl rfl rfl (Does.call rfl rfl Try.func13 rfl rfl (crash_con B g gs cs n vl m ma ha.2 hm _ (Bs hB))) fun vl' _ => ?_
         refine GL.nil ?_
         refine GQ.blkN ?_
         refine GQ.thenN ?_
         refine GC.seq ?_
         refine GC.region ?_
         refine GL.gives rfl rfl rfl (Gives.move rfl rfl) ?_
         refine GL.gives rfl rfl rfl (Gives.loadb (cs := #[sv', lv', .int .i64 (m.crash ma).f, .bool (m.crash ma).b]) 3 rfl rfl ag31 sz31 rfl) ?_
         refine GL.gives rfl rfl rfl (Gives.nilCheck rfl rfl) ?_
         refine GL.does0 [7] rfl rfl rfl (Does.storeb rfl rfl rfl sz31 (by first | (simp [Value.oneCell']; done) | (simp [one_int, one_bool, one_string, one_slice, one_pointer, *]; done)) rfl) fun _ _ => ?_
         refine GL.nil ?_
         refine GQ.thenN ?_
         refine GC.seq ?_
         refine GC.region ?_
         refine GL.gives rfl rfl rfl (Gives.move rfl rfl) ?_
         refine GL.gives rfl rfl rfl (Gives.move rfl rfl) ?_
         refine GL.gives rfl rfl rfl (Gives.eqi rfl rfl rfl) ?_
         refine GL.gives rfl rfl rfl (Gives.assign rfl rfl) ?_
         refine GL.nil ?_
         refine GQ.thenN ?_
         refine GC.ret ?_
         refine GQ.ret1 (.inl rfl) rfl rfl ?_
         intro w hs
         refine ⟨(vl', sv', lv'), ?_, trivial, ?_⟩
         · simp
         · rw [show act m (kd, i, d, ma) = _ from ((if_neg ha0).trans ((if_neg ha1).trans ((if_neg ha2).trans (if_neg ha3))))]; unfold DK RK; exact hs.take (is := [1, 1, 1, 0, 1, 1]) rfl

end Go.Proofs.Ytanbpjlnomifhaa.SY
