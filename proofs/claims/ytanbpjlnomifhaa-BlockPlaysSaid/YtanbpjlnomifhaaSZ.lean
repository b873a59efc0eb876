/- The block law itself. -/
import Derived.Test.YtanbpjlnomifhaaSY
import Derived.Test.YtanbpjlnomifhaaOpen
namespace Go.Proofs.Ytanbpjlnomifhaa.SZ
open Go.RowKit Go.Proofs.YtanbpjlnomifhaaW.PrintWords Go.Proofs.YtanbpjlnomifhaaW.PrintLast Go.Proofs.YtanbpjlnomifhaaS Go.Proofs.Ytanbpjlnomifhaa.SL Go.Proofs.Ytanbpjlnomifhaa.SR Go.Proofs.Ytanbpjlnomifhaa.SB Go.Proofs.Ytanbpjlnomifhaa.SX Go.Proofs.Ytanbpjlnomifhaa.SY Go.Proofs.YtanbpjlnomifhaaO

abbrev sa : ByteArray := ⟨#[97]⟩
abbrev sb : ByteArray := ⟨#[98]⟩
def M0 (n : Nat) : M := ⟨List.replicate n ⟨#[]⟩, [], -1, false⟩
def m1 : M := ⟨[⟨#[]⟩], [(0, sa)], -1, false⟩
def m2 : M := ⟨[sa], [], -1, false⟩
def m3 : M := ⟨[sa], [(0, sb)], -1, false⟩
def m6 : M := ⟨[sb], [], -1, false⟩
theorem M0_ok {n : Nat} (h : 1 ≤ n ∧ n ≤ 4096) : (M0 n).Ok n := ⟨by simp [M0], h, fun w hw => by simp [M0] at hw, by simp [M0], by simp [M0]⟩
theorem m2_ok : m2.Ok 1 := ⟨rfl, by omega, fun w hw => by simp [m2] at hw, by simp [m2], by simp [m2]⟩
theorem m6_ok : m6.Ok 1 := ⟨rfl, by omega, fun w hw => by simp [m6] at hw, by simp [m6], by simp [m6]⟩
theorem m1_ok : m1.Ok 1 := ⟨rfl, by omega, fun w hw => by simp [m1] at hw; subst hw; simp, by simp [m1], by simp [m1]⟩
theorem m3_ok : m3.Ok 1 := ⟨rfl, by omega, fun w hw => by simp [m3] at hw; subst hw; simp, by simp [m3], by simp [m3]⟩
theorem e1 : (M0 1).write 0 sa = (m1, 0) := by rfl
theorem e2 : m1.sync = (m2, 0) := by rfl
theorem e3 : m2.write 0 sb = (m3, 0) := by rfl
theorem e4 : m3.crash 0 = m2 := by rfl
theorem e5 : m2.read 0 = (sa, 0) := by rfl
theorem e6 : m3.crash 1 = m6 := by rfl
theorem e7 : m6.read 0 = (sb, 0) := by rfl
theorem write_to (B g gs cs n : Nat) (vl : Value) (m m' : M) (S : World → Prop) (hBS : ∀ w, S w → B ≤ w.heap.size) (i : Int) (d : ByteArray) (e : Int) (h : m.write i d = (m', e)) (hm : m.Ok n) (hr : m.L.length < 1000000000000) : Con Try.prog 11 [.pointer (some ⟨g, 0, none⟩), .int .i64 i, .string d] S (DK B g gs cs n vl m) (fun _ : Value => .int .i64 e) (fun _ => True) (fun vl' => DK B g gs cs n vl' m') := by
  have := write_con B g gs cs n vl m i d hm hr S hBS
  rw [h] at this; exact this
theorem sync_to (B g gs cs n : Nat) (vl : Value) (m m' : M) (S : World → Prop) (hBS : ∀ w, S w → B ≤ w.heap.size) (e : Int) (h : m.sync = (m', e)) (hm : m.Ok n) : Con Try.prog 12 [.pointer (some ⟨g, 0, none⟩)] S (DK B g gs cs n vl m) (fun _ : Value => .int .i64 e) (fun _ => True) (fun vl' => DK B g gs cs n vl' m') := by
  have := sync_con B g gs cs n vl m hm S hBS
  rw [h] at this; exact this
theorem crash_to (B g gs cs n : Nat) (vl : Value) (m m' : M) (S : World → Prop) (hBS : ∀ w, S w → B ≤ w.heap.size) (k : Int) (h : m.crash k = m') (hk : 0 ≤ k ∧ k ≤ 18446744073709551615) (hm : m.Ok n) : Con Try.prog 13 [.pointer (some ⟨g, 0, none⟩), .int .u64 k] S (DK B g gs cs n vl m) (fun _ : Value => .tuple #[]) (fun _ => True) (fun vl' => DK B g gs cs n vl' m') := by
  have := crash_con B g gs cs n vl m k hk hm S hBS
  rw [h] at this; exact this
theorem read_to (B g gs cs n : Nat) (vl : Value) (m : M) (S : World → Prop) (hBS : ∀ w, S w → B ≤ w.heap.size) (i : Int) (s : ByteArray) (e : Int) (h : m.read i = (s, e)) (hm : m.Ok n) : Con Try.prog 9 [.pointer (some ⟨g, 0, none⟩), .int .i64 i] S (DK B g gs cs n vl m) (fun _ : Unit => .tuple #[.string s, .int .i64 e]) (fun _ => True) (fun _ => DK B g gs cs n vl m) := by
  have := read_con B g gs cs n vl m i hm S hBS
  rw [h] at this; exact this
def kA : Kd AT := Kd.pair (Kd.int .i64) (Kd.pair (Kd.int .i64) (Kd.pair Kd.string (Kd.int .u64)))
theorem kA_encs : Encs kA (fun x => [.int .i64 x.1, .int .i64 x.2.1, .string x.2.2.1, .int .u64 x.2.2.2]) := fun w x cs h => encs_pair (a := Kd.int .i64) encs_scalar (encs_pair (a := Kd.int .i64) encs_scalar (encs_pair (a := Kd.string) (b := Kd.int .u64) encs_scalar encs_scalar)) w x cs h
def zA : AT := (0, 0, ⟨#[]⟩, 0)

theorem mixed_ : Try.prog.follows .mixedOrders = true := by kernel_rfl
theorem ag31 (w : World) : (isAgg 31).run Try.prog w = .ok true w := by kernel_rfl
theorem ag39 (w : World) : (isAgg 39).run Try.prog w = .ok true w := by kernel_rfl
theorem al31 (w : World) : (Instr.alloc 31 true (.tuple #[])).run Try.prog w = .ok (.pointer (some ⟨w.heap.size, 0, none⟩)) (w.alloc (.cells #[.slice none 0 0, .slice none 0 0, .int .i64 0, .bool false] 31 (0, 0))) := by kernel_rfl
theorem pl28 : Plain Try.prog 28 := plain_slice Try.underlying28
theorem sz31 (w : World) : (sizeOf 31).run Try.prog w = .ok 4 w := by kernel_rfl
theorem sz39 (w : World) : (sizeOf 39).run Try.prog w = .ok 4 w := by kernel_rfl
set_option maxRecDepth 100000 in
set_option maxHeartbeats 1000000 in
theorem awake_con (B : Nat) (S : World → Prop) (hBS : ∀ w, S w → B ≤ w.heap.size) : Con Try.prog 4 [] S [] (fun _ : Unit => .bool true) (fun _ => True) (fun _ => []) := by
 intro w F0 hS hs hlt
 have hB := hBS w hS
 refine enter (args := []) Try.func4 rfl rfl rfl hs ?_
 refine GC.seq ?_
 refine GC.region ?_
 refine GL.gives rfl rfl rfl (Gives.assign rfl rfl) ?_
 refine GL.nil ?_
 refine GQ.thenN ?_
 refine GC.seq ?_
 refine GC.region ?_
 refine GL.does [] rfl rfl rfl rfl (Does.call rfl rfl Try.func5 rfl rfl (new_con B 1 (by omega) _ (Bs hB))) fun ⟨g, gs, cs⟩ _ => ?_
 refine GL.gives rfl rfl rfl (Gives.move rfl rfl) ?_
 refine GL.gives rfl rfl rfl (Gives.extract (v := .pointer (some ⟨g, 0, none⟩)) rfl rfl rfl) ?_
 refine GL.gives rfl rfl rfl (Gives.extract (v := .int .i64 0) rfl rfl rfl) ?_
 refine GL.gives rfl rfl rfl (Gives.assign rfl rfl) ?_
 refine GL.gives rfl rfl rfl (Gives.assign rfl rfl) ?_
 refine GL.nil ?_
 refine GQ.thenN ?_
 refine GC.seq ?_
 refine GC.seq ?_
 refine GC.region ?_
 refine GL.gives rfl rfl rfl (Gives.move rfl rfl) ?_
 refine GL.gives rfl rfl rfl (Gives.nei rfl rfl rfl) ?_
 refine GL.gives rfl rfl rfl (Gives.move rfl rfl) ?_
 refine GL.learn (t := 14) (v' := .bool false) rfl (congrArg Value.bool (by rfl)) ?_
 refine GL.gives rfl rfl rfl (Gives.move rfl rfl) ?_
 refine GL.does [0, 0, 0] rfl rfl rfl rfl (Does.call rfl rfl Try.func11 rfl rfl (write_to B g gs cs 1 (.slice none 0 0) (M0 1) m1 _ (Bs hB) 0 sa 0 e1 (M0_ok (by omega)) (by simp [M0]))) fun v1 _ => ?_
 refine GL.gives rfl rfl rfl (Gives.move rfl rfl) ?_
 refine GL.gives rfl rfl rfl (Gives.nei rfl rfl rfl) ?_
 refine GL.gives rfl rfl rfl (Gives.pickF rfl rfl rfl rfl) ?_
 refine GL.gives rfl rfl rfl (Gives.move rfl rfl) ?_
 refine GL.learn (t := 20) (v' := .bool false) rfl (congrArg Value.bool (by rfl)) ?_
 refine GL.gives rfl rfl rfl (Gives.move rfl rfl) ?_
 refine GL.does [0, 0, 0] rfl rfl rfl rfl (Does.call rfl rfl Try.func12 rfl rfl (sync_to B g gs cs 1 (v1) m1 m2 _ (Bs hB) 0 e2 m1_ok)) fun v2 _ => ?_
 refine GL.gives rfl rfl rfl (Gives.move rfl rfl) ?_
 refine GL.gives rfl rfl rfl (Gives.nei rfl rfl rfl) ?_
 refine GL.gives rfl rfl rfl (Gives.pickF rfl rfl rfl rfl) ?_
 refine GL.gives rfl rfl rfl (Gives.move rfl rfl) ?_
 refine GL.learn (t := 26) (v' := .bool false) rfl (congrArg Value.bool (by rfl)) ?_
 refine GL.gives rfl rfl rfl (Gives.move rfl rfl) ?_
 refine GL.does [0, 0, 0] rfl rfl rfl rfl (Does.call rfl rfl Try.func11 rfl rfl (write_to B g gs cs 1 (v2) m2 m3 _ (Bs hB) 0 sb 0 e3 m2_ok (by simp [m2]))) fun v3 _ => ?_
 refine GL.gives rfl rfl rfl (Gives.move rfl rfl) ?_
 refine GL.gives rfl rfl rfl (Gives.nei rfl rfl rfl) ?_
 refine GL.gives rfl rfl rfl (Gives.pickF rfl rfl rfl rfl) ?_
 refine GL.nil ?_
 refine GQ.thenN ?_
 refine GC.condF rfl (by rfl) ?_
 refine GC.skip ?_
 refine GQ.thenN ?_
 refine GC.seq ?_
 refine GC.region ?_
 refine GL.gives rfl rfl rfl (Gives.move rfl rfl) ?_
 refine GL.does [0, 0, 0] rfl rfl rfl rfl (Does.call rfl rfl Try.func13 rfl rfl (crash_to B g gs cs 1 (v3) m3 m2 _ (Bs hB) 0 e4 (by omega) m3_ok)) fun v4 _ => ?_
 refine GL.nil ?_
 refine GQ.thenN ?_
 refine GC.seq ?_
 refine GC.region ?_
 refine GL.gives rfl rfl rfl (Gives.move rfl rfl) ?_
 refine GL.does [0, 0, 0] rfl rfl rfl rfl (Does.call rfl rfl Try.func9 rfl rfl (read_to B g gs cs 1 (v4) m2 _ (Bs hB) 0 sa 0 e5 m2_ok)) fun _ _ => ?_
 refine GL.gives rfl rfl rfl (Gives.move rfl rfl) ?_
 refine GL.gives rfl rfl rfl (Gives.extract (v := .string sa) rfl rfl rfl) ?_
 refine GL.gives rfl rfl rfl (Gives.extract (v := .int .i64 0) rfl rfl rfl) ?_
 refine GL.gives rfl rfl rfl (Gives.assign rfl rfl) ?_
 refine GL.gives rfl rfl rfl (Gives.assign rfl rfl) ?_
 refine GL.nil ?_
 refine GQ.thenN ?_
 refine GC.seq ?_
 refine GC.region ?_
 refine GL.gives rfl rfl rfl (Gives.move rfl rfl) ?_
 refine GL.does [0, 0, 0] rfl rfl rfl rfl (Does.call rfl rfl Try.func11 rfl rfl (write_to B g gs cs 1 (v4) m2 m3 _ (Bs hB) 0 sb 0 e3 m2_ok (by simp [m2]))) fun v6 _ => ?_
 refine GL.gives rfl rfl rfl (Gives.assign rfl rfl) ?_
 refine GL.nil ?_
 refine GQ.thenN ?_
 refine GC.seq ?_
 refine GC.region ?_
 refine GL.gives rfl rfl rfl (Gives.move rfl rfl) ?_
 refine GL.does [0, 0, 0] rfl rfl rfl rfl (Does.call rfl rfl Try.func13 rfl rfl (crash_to B g gs cs 1 (v6) m3 m6 _ (Bs hB) 1 e6 (by omega) m3_ok)) fun v7 _ => ?_
 refine GL.nil ?_
 refine GQ.thenN ?_
 refine GC.seq ?_
 refine GC.region ?_
 refine GL.gives rfl rfl rfl (Gives.move rfl rfl) ?_
 refine GL.does [0, 0, 0] rfl rfl rfl rfl (Does.call rfl rfl Try.func9 rfl rfl (read_to B g gs cs 1 (v7) m6 _ (Bs hB) 0 sb 0 e7 m6_ok)) fun _ _ => ?_
 refine GL.gives rfl rfl rfl (Gives.move rfl rfl) ?_
 refine GL.gives rfl rfl rfl (Gives.extract (v := .string sb) rfl rfl rfl) ?_
 refine GL.gives rfl rfl rfl (Gives.extract (v := .int .i64 0) rfl rfl rfl) ?_
 refine GL.gives rfl rfl rfl (Gives.assign rfl rfl) ?_
 refine GL.gives rfl rfl rfl (Gives.assign rfl rfl) ?_
 refine GL.nil ?_
 refine GQ.thenN ?_
 refine GC.seq ?_
 
 refine GC.region ?_
 refine GL.gives rfl rfl rfl (Gives.move rfl rfl) ?_
 refine GL.gives rfl rfl rfl (Gives.eqs rfl rfl rfl) ?_
 refine GL.gives rfl rfl rfl (Gives.move rfl rfl) ?_
 refine GL.learn (t := 50) (v' := .bool true) rfl (congrArg Value.bool (by kernel_rfl)) ?_
 refine GL.gives rfl rfl rfl (Gives.move rfl rfl) ?_
 refine GL.gives rfl rfl rfl (Gives.move rfl rfl) ?_
 refine GL.gives rfl rfl rfl (Gives.eqi rfl rfl rfl) ?_
 refine GL.gives rfl rfl rfl (Gives.pickT rfl rfl rfl rfl) ?_
 refine GL.gives rfl rfl rfl (Gives.move rfl rfl) ?_
 refine GL.learn (t := 55) (v' := .bool true) rfl (congrArg Value.bool (by rfl)) ?_
 refine GL.gives rfl rfl rfl (Gives.move rfl rfl) ?_
 refine GL.gives rfl rfl rfl (Gives.eqs rfl rfl rfl) ?_
 refine GL.gives rfl rfl rfl (Gives.pickT rfl rfl rfl rfl) ?_
 refine GL.gives rfl rfl rfl (Gives.move rfl rfl) ?_
 refine GL.learn (t := 59) (v' := .bool true) rfl (congrArg Value.bool (by kernel_rfl)) ?_
 refine GL.gives rfl rfl rfl (Gives.move rfl rfl) ?_
 refine GL.gives rfl rfl rfl (Gives.move rfl rfl) ?_
 refine GL.gives rfl rfl rfl (Gives.eqi rfl rfl rfl) ?_
 refine GL.gives rfl rfl rfl (Gives.pickT rfl rfl rfl rfl) ?_
 refine GL.learn (t := 63) (v' := .bool true) rfl (congrArg Value.bool (by kernel_rfl)) ?_
 refine GL.gives rfl rfl rfl (Gives.assign rfl rfl) ?_
 refine GL.nil ?_
 refine GQ.thenN ?_
 refine GC.ret ?_
 refine GQ.ret1 (.inl rfl) rfl rfl ?_
 intro w hs
 exact ⟨(), rfl, trivial, hs.nil⟩

set_option maxRecDepth 100000 in
set_option maxHeartbeats 1000000 in
theorem plays_far (n : Int) (A : Option Addr) (la ca : Nat) (xs : List AT) (w : World) (hC : kA.C w A la xs) (hOK : ∀ a ∈ xs, OkAct a) (hn : 20 < n ∧ n ≤ 4096) : Calls Try.prog 3 [.int .i64 n, .slice A la ca].toArray w (fun e w' => e = .returned (.bool true) ∧ Below w.heap.size w w') := by
 have hs : Sep w (fun _ => False) [] := trivial
 obtain ⟨B, hBB⟩ : ∃ B, B = w.heap.size := ⟨_, rfl⟩
 have hB : B ≤ w.heap.size := Nat.le_of_eq hBB
 have hla := (C_lenm hC).1
 have hla2 := (C_lenm hC).2
 refine enter (args := [.int .i64 n, .slice A la ca]) Try.func3 rfl rfl rfl hs ?_
 refine GC.seq ?_
 refine GC.region ?_
 refine GL.gives rfl rfl rfl (Gives.assign rfl rfl) ?_
 refine GL.nil ?_
 refine GQ.thenN ?_
 refine GC.seq ?_
 refine GC.seq ?_
 refine GC.region ?_
 refine GL.gives rfl rfl rfl (Gives.move rfl rfl) ?_
 refine GL.gives rfl rfl rfl (Gives.gtr rfl rfl rfl) ?_
 refine GL.gives rfl rfl rfl (Gives.move rfl rfl) ?_
 refine GL.learn (t := 17) (v' := .bool true) rfl (congrArg Value.bool (decide_eq_true (by omega))) ?_
 refine GL.gives rfl rfl rfl (Gives.move rfl rfl) ?_
 refine GL.gives rfl rfl rfl (Gives.leq rfl rfl rfl) ?_
 refine GL.gives rfl rfl rfl (Gives.pickT rfl rfl rfl rfl) ?_
 refine GL.nil ?_
 refine GQ.thenN ?_
 refine GC.condT rfl (decide_eq_true (by omega)) ?_
 refine GC.seq ?_
 refine GC.region ?_
 refine GL.does [] rfl rfl rfl rfl (Does.call rfl rfl Try.func4 rfl rfl (awake_con B _ (Bs hB))) fun _ _ => ?_
 refine GL.gives rfl rfl rfl (Gives.assign rfl rfl) ?_
 refine GL.nil ?_
 refine GQ.thenN ?_
 refine GC.ret ?_
 refine GQ.thenR ?_
 refine GQ.ret1 (.inl rfl) rfl rfl ?_
 intro w' hs
 exact ⟨rfl, hs.below⟩

set_option maxRecDepth 100000 in
set_option maxHeartbeats 1000000 in
theorem plays_no (n : Int) (A : Option Addr) (la ca : Nat) (xs : List AT) (w : World) (hC : kA.C w A la xs) (hOK : ∀ a ∈ xs, OkAct a) (hn : n < 1 ∨ 4096 < n) : Calls Try.prog 3 [.int .i64 n, .slice A la ca].toArray w (fun e w' => e = .returned (.bool true) ∧ Below w.heap.size w w') := by
 have hs : Sep w (fun _ => False) [] := trivial
 obtain ⟨B, hBB⟩ : ∃ B, B = w.heap.size := ⟨_, rfl⟩
 have hB : B ≤ w.heap.size := Nat.le_of_eq hBB
 have hla := (C_lenm hC).1
 have hla2 := (C_lenm hC).2
 refine enter (args := [.int .i64 n, .slice A la ca]) Try.func3 rfl rfl rfl hs ?_
 refine GC.seq ?_
 refine GC.region ?_
 refine GL.gives rfl rfl rfl (Gives.assign rfl rfl) ?_
 refine GL.nil ?_
 refine GQ.thenN ?_
 refine GC.seq ?_
 refine GC.seq ?_
 refine GC.region ?_
 refine GL.gives rfl rfl rfl (Gives.move rfl rfl) ?_
 refine GL.gives rfl rfl rfl (Gives.gtr rfl rfl rfl) ?_
 refine GL.gives rfl rfl rfl (Gives.move rfl rfl) ?_
 refine GL.split (t := 17) rfl (fun ht17 => ?_) (fun ht17 => ?_)
 ·
   replace ht17 := of_decide_eq_true ht17
   refine GL.gives rfl rfl rfl (Gives.move rfl rfl) ?_
   refine GL.gives rfl rfl rfl (Gives.leq rfl rfl rfl) ?_
   refine GL.gives rfl rfl rfl (Gives.pickT rfl rfl rfl rfl) ?_
   refine GL.nil ?_
   refine GQ.thenN ?_
   refine GC.condF rfl (decide_eq_false (by omega)) ?_
   refine GC.skip ?_
   refine GQ.thenN ?_
   refine GC.seq ?_
   refine GC.region ?_
   refine GL.gives rfl rfl rfl (Gives.move rfl rfl) ?_
   refine GL.does [] rfl rfl rfl rfl (Does.call rfl rfl Try.func5 rfl rfl (new_no n hn _)) fun _ _ => ?_
   refine GL.gives rfl rfl rfl (Gives.move rfl rfl) ?_
   refine GL.gives rfl rfl rfl (Gives.extract (v := .pointer none) rfl rfl rfl) ?_
   refine GL.gives rfl rfl rfl (Gives.extract (v := .int .i64 1) rfl rfl rfl) ?_
   refine GL.gives rfl rfl rfl (Gives.assign rfl rfl) ?_
   refine GL.gives rfl rfl rfl (Gives.assign rfl rfl) ?_
   refine GL.nil ?_
   refine GQ.thenN ?_
   refine GC.seq ?_
   refine GC.region ?_
   refine GL.gives rfl rfl rfl (Gives.move rfl rfl) ?_
   refine GL.does [] rfl rfl rfl rfl (Does.call rfl rfl Try.func6 rfl rfl (rnew_no B n hn _ (Bs hB))) fun _ _ => ?_
   refine GL.gives rfl rfl rfl (Gives.move rfl rfl) ?_
   refine GL.gives rfl rfl rfl (Gives.extract (v := .agg #[.slice none 0 0, .slice none 0 0, .int .i64 0, .bool false]) rfl rfl rfl) ?_
   refine GL.gives rfl rfl rfl (Gives.extract (v := .int .i64 1) rfl rfl rfl) ?_
   refine GL.does [] rfl rfl rfl rfl (Does.alloc (Bs hB) rfl al31) fun gr hgr => ?_
   refine GL.does0 [0] rfl rfl rfl (Does.storeb rfl rfl rfl sz31 (by first | (simp [Value.oneCell']; done) | (simp [one_int, one_bool, one_string, one_slice, one_pointer, *]; done)) rfl) fun _ _ => ?_
   refine GL.gives rfl rfl rfl (Gives.assign rfl rfl) ?_
   refine GL.nil ?_
   refine GQ.thenN ?_
   refine GC.seq ?_
   refine GC.seq ?_
   refine GC.draw (fun w => St _ _ w _) [] #[false, false, false, false, false, false, false, false, false, false, false, false, false, false, false, false, false, false] mixed_ rfl rfl (fun _ h => h) ?_
   refine GA.pure 0 #[true, false, false, false, false, false, false, false, false, false, false, false, false, false, false, false, false, false] (by repeat (first | exact PanicOk.body | refine PanicOk.then ?_ | refine PanicOk.block ?_)) rfl rfl (by kernel_rfl) rfl rfl (Gives.move rfl rfl) ?_
   refine GA.pure 1 #[true, true, false, false, false, false, false, false, false, false, false, false, false, false, false, false, false, false] (by repeat (first | exact PanicOk.body | refine PanicOk.then ?_ | refine PanicOk.block ?_)) rfl rfl (by kernel_rfl) rfl rfl (Gives.move rfl rfl) ?_
   refine GA.pure 2 #[true, true, true, false, false, false, false, false, false, false, false, false, false, false, false, false, false, false] (by repeat (first | exact PanicOk.body | refine PanicOk.then ?_ | refine PanicOk.block ?_)) rfl rfl (by kernel_rfl) rfl rfl (Gives.nei rfl rfl rfl) ?_
   refine GA.pure 3 #[true, true, true, true, false, false, false, false, false, false, false, false, false, false, false, false, false, false] (by repeat (first | exact PanicOk.body | refine PanicOk.then ?_ | refine PanicOk.block ?_)) rfl rfl (by kernel_rfl) rfl rfl (Gives.move rfl rfl) ?_
   refine GA.learn (t := 35) (v' := .bool false) rfl (congrArg Value.bool (by rfl)) ?_
   refine GA.pure 4 #[true, true, true, true, true, false, false, false, false, false, false, false, false, false, false, false, false, false] (by repeat (first | exact PanicOk.body | refine PanicOk.then ?_ | refine PanicOk.block ?_)) rfl rfl (by kernel_rfl) rfl rfl (Gives.move rfl rfl) ?_
   refine GA.pure 5 #[true, true, true, true, true, true, false, false, false, false, false, false, false, false, false, false, false, false] (by repeat (first | exact PanicOk.body | refine PanicOk.then ?_ | refine PanicOk.block ?_)) rfl rfl (by kernel_rfl) rfl rfl (Gives.nep rfl rfl rfl Try.underlying24) ?_
   refine GA.pure 6 #[true, true, true, true, true, true, true, false, false, false, false, false, false, false, false, false, false, false] (by repeat (first | exact PanicOk.body | refine PanicOk.then ?_ | refine PanicOk.block ?_)) rfl rfl (by kernel_rfl) rfl rfl (Gives.move rfl rfl) ?_
   refine GA.pure 7 #[true, true, true, true, true, true, true, true, false, false, false, false, false, false, false, false, false, false] (by repeat (first | exact PanicOk.body | refine PanicOk.then ?_ | refine PanicOk.block ?_)) rfl rfl (by kernel_rfl) rfl rfl (Gives.eqi rfl rfl rfl) ?_
   refine GA.pure 8 #[true, true, true, true, true, true, true, true, true, false, false, false, false, false, false, false, false, false] (by repeat (first | exact PanicOk.body | refine PanicOk.then ?_ | refine PanicOk.block ?_)) rfl rfl (by kernel_rfl) rfl rfl (Gives.neb Try.underlying4 rfl rfl rfl) ?_
   refine GA.pure 9 #[true, true, true, true, true, true, true, true, true, true, false, false, false, false, false, false, false, false] (by repeat (first | exact PanicOk.body | refine PanicOk.then ?_ | refine PanicOk.block ?_)) rfl rfl (by kernel_rfl) rfl rfl (Gives.pickF rfl rfl rfl rfl) ?_
   refine GA.pure 10 #[true, true, true, true, true, true, true, true, true, true, true, false, false, false, false, false, false, false] (by repeat (first | exact PanicOk.body | refine PanicOk.then ?_ | refine PanicOk.block ?_)) rfl rfl (by kernel_rfl) rfl rfl (Gives.move rfl rfl) ?_
   refine GA.learn (t := 42) (v' := .bool false) rfl (congrArg Value.bool (by rfl)) ?_
   refine GA.pure 11 #[true, true, true, true, true, true, true, true, true, true, true, true, false, false, false, false, false, false] (by repeat (first | exact PanicOk.body | refine PanicOk.then ?_ | refine PanicOk.block ?_)) rfl rfl (by kernel_rfl) rfl rfl (Gives.move rfl rfl) ?_
   refine GA.pure 13 #[true, true, true, true, true, true, true, true, true, true, true, true, false, true, false, false, false, false] (by repeat (first | exact PanicOk.body | refine PanicOk.then ?_ | refine PanicOk.block ?_)) rfl rfl (by kernel_rfl) rfl rfl (Gives.fieldAddr (q := ⟨gr, 0, none⟩) rfl rfl (fun _ => by kernel_rfl)) ?_
   refine GA.take 14 #[true, true, true, true, true, true, true, true, true, true, true, true, false, true, true, false, false, false] (by repeat (first | exact PanicOk.body | refine PanicOk.then ?_ | refine PanicOk.block ?_)) rfl rfl (by kernel_rfl) rfl rfl (fun _ h => h) (Gives.loadc (v := .slice none 0 0) 0 rfl rfl pl28 rfl rfl) ?_
   refine GA.pure 15 #[true, true, true, true, true, true, true, true, true, true, true, true, false, true, true, true, false, false] (by repeat (first | exact PanicOk.body | refine PanicOk.then ?_ | refine PanicOk.block ?_)) rfl rfl (by kernel_rfl) rfl rfl (Gives.len rfl rfl Try.underlying28) ?_
   refine GA.one 12 #[true, true, true, true, true, true, true, true, true, true, true, true, true, true, true, true, false, false] [] rfl rfl (by kernel_rfl) (by decide) rfl rfl rfl (Does.call rfl rfl Try.func7 rfl rfl (blocks_nil _)) (fun _ _ _ h => h) fun _ _ => ?_
   refine GA.pure 16 #[true, true, true, true, true, true, true, true, true, true, true, true, true, true, true, true, true, false] (by repeat (first | exact PanicOk.body | refine PanicOk.then ?_ | refine PanicOk.block ?_)) rfl rfl (by kernel_rfl) rfl rfl (Gives.nei rfl rfl rfl) ?_
   refine GA.pure 17 #[true, true, true, true, true, true, true, true, true, true, true, true, true, true, true, true, true, true] (by repeat (first | exact PanicOk.body | refine PanicOk.then ?_ | refine PanicOk.block ?_)) rfl rfl (by kernel_rfl) rfl rfl (Gives.pickF rfl rfl rfl rfl) ?_
   refine GA.done (by kernel_rfl) ?_
   refine GQ.thenN ?_
   refine GC.condF rfl (by rfl) ?_
   refine GC.skip ?_
   refine GQ.thenN ?_
   refine GC.seq ?_
   refine GC.seq ?_
   refine GC.region ?_
   refine GL.gives rfl rfl rfl (Gives.assign rfl rfl) ?_
   refine GL.nil ?_
   refine GQ.thenN ?_
   refine GC.block ?_
   refine GC.loop (σ := Unit) (fun _ => [(0, .int .i64 n), (1, .slice A la ca), (5, .pointer none), (7, .pointer (some ⟨gr, 0, none⟩)), (9, .int .i64 0)])
     (fun _ => [Cells gr #[.slice none 0 0, .slice none 0 0, .int .i64 0, .bool false] 31]) (fun _ => True) (fun _ => 0) () [0] trivial ⟨rfl, rfl, rfl, rfl, rfl, trivial⟩ rfl ?_
   rintro _ _
   refine GC.seq ?_
   refine GC.seq ?_
   refine GC.region ?_
   refine GL.gives rfl rfl rfl (Gives.move rfl rfl) ?_
   refine GL.gives rfl rfl rfl (Gives.move rfl rfl) ?_
   refine GL.gives rfl rfl rfl (Gives.len rfl rfl Try.underlying22) ?_
   refine GL.gives rfl rfl rfl (Gives.lss rfl rfl rfl) ?_
   refine GL.gives rfl rfl rfl (Gives.move rfl rfl) ?_
   refine GL.split (t := 54) rfl (fun h54 => ?_) (fun h54 => ?_)
   ·
     replace h54 := of_decide_eq_true h54
     refine GL.gives rfl rfl rfl (Gives.move rfl rfl) ?_
     refine GL.gives rfl rfl rfl (Gives.lss rfl rfl rfl) ?_
     refine GL.gives rfl rfl rfl (Gives.pickT rfl rfl rfl rfl) ?_
     refine GL.gives rfl rfl rfl (Gives.move rfl rfl) ?_
     refine GL.split (t := 58) rfl (fun h58 => ?_) (fun h58 => ?_)
     ·
       replace h58 := of_decide_eq_true h58
       refine GL.gives rfl rfl rfl (Gives.move rfl rfl) ?_
       refine GL.gives rfl rfl rfl (Gives.nep rfl rfl rfl Try.underlying24) ?_
       refine GL.gives rfl rfl rfl (Gives.pickT rfl rfl rfl rfl) ?_
       refine GL.nil ?_
       refine GQ.thenN ?_
       refine GC.condF rfl rfl ?_
       refine GC.exit ?_
       refine GQ.thenX ?_
       refine GQ.thenX ?_
       refine GQ.blkX ?_
       refine GQ.thenN ?_
       refine GC.seq ?_
       refine GC.region ?_
       refine GL.does [] rfl rfl rfl rfl (Does.call rfl rfl Try.func4 rfl rfl (awake_con B _ (Bs hB))) fun _ _ => ?_
       refine GL.gives rfl rfl rfl (Gives.assign rfl rfl) ?_
       refine GL.nil ?_
       refine GQ.thenN ?_
       refine GC.ret ?_
       refine GQ.ret1 (.inl rfl) rfl rfl ?_
       intro w' hs
       exact ⟨rfl, hs.below⟩
     ·
       replace h58 := of_decide_eq_false h58
       refine GL.skip rfl rfl rfl ?_
       refine GL.skip rfl rfl rfl ?_
       refine GL.gives rfl rfl rfl (Gives.pickF rfl rfl rfl rfl) ?_
       refine GL.nil ?_
       refine GQ.thenN ?_
       refine GC.condF rfl rfl ?_
       refine GC.exit ?_
       refine GQ.thenX ?_
       refine GQ.thenX ?_
       refine GQ.blkX ?_
       refine GQ.thenN ?_
       refine GC.seq ?_
       refine GC.region ?_
       refine GL.does [] rfl rfl rfl rfl (Does.call rfl rfl Try.func4 rfl rfl (awake_con B _ (Bs hB))) fun _ _ => ?_
       refine GL.gives rfl rfl rfl (Gives.assign rfl rfl) ?_
       refine GL.nil ?_
       refine GQ.thenN ?_
       refine GC.ret ?_
       refine GQ.ret1 (.inl rfl) rfl rfl ?_
       intro w' hs
       exact ⟨rfl, hs.below⟩
   ·
     replace h54 := of_decide_eq_false h54
     refine GL.skip rfl rfl rfl ?_
     refine GL.skip rfl rfl rfl ?_
     refine GL.gives rfl rfl rfl (Gives.pickF rfl rfl rfl rfl) ?_
     refine GL.gives rfl rfl rfl (Gives.move rfl rfl) ?_
     refine GL.skip rfl rfl rfl ?_
     refine GL.skip rfl rfl rfl ?_
     refine GL.gives rfl rfl rfl (Gives.pickF rfl rfl rfl rfl) ?_
     refine GL.nil ?_
     refine GQ.thenN ?_
     refine GC.condF rfl rfl ?_
     refine GC.exit ?_
     refine GQ.thenX ?_
     refine GQ.thenX ?_
     refine GQ.blkX ?_
     refine GQ.thenN ?_
     refine GC.seq ?_
     refine GC.region ?_
     refine GL.does [] rfl rfl rfl rfl (Does.call rfl rfl Try.func4 rfl rfl (awake_con B _ (Bs hB))) fun _ _ => ?_
     refine GL.gives rfl rfl rfl (Gives.assign rfl rfl) ?_
     refine GL.nil ?_
     refine GQ.thenN ?_
     refine GC.ret ?_
     refine GQ.ret1 (.inl rfl) rfl rfl ?_
     intro w' hs
     exact ⟨rfl, hs.below⟩
 ·
   replace ht17 := of_decide_eq_false ht17
   refine GL.skip rfl rfl rfl ?_
   refine GL.skip rfl rfl rfl ?_
   refine GL.gives rfl rfl rfl (Gives.pickF rfl rfl rfl rfl) ?_
   refine GL.nil ?_
   refine GQ.thenN ?_
   refine GC.condF rfl rfl ?_
   refine GC.skip ?_
   refine GQ.thenN ?_
   refine GC.seq ?_
   refine GC.region ?_
   refine GL.gives rfl rfl rfl (Gives.move rfl rfl) ?_
   refine GL.does [] rfl rfl rfl rfl (Does.call rfl rfl Try.func5 rfl rfl (new_no n hn _)) fun _ _ => ?_
   refine GL.gives rfl rfl rfl (Gives.move rfl rfl) ?_
   refine GL.gives rfl rfl rfl (Gives.extract (v := .pointer none) rfl rfl rfl) ?_
   refine GL.gives rfl rfl rfl (Gives.extract (v := .int .i64 1) rfl rfl rfl) ?_
   refine GL.gives rfl rfl rfl (Gives.assign rfl rfl) ?_
   refine GL.gives rfl rfl rfl (Gives.assign rfl rfl) ?_
   refine GL.nil ?_
   refine GQ.thenN ?_
   refine GC.seq ?_
   refine GC.region ?_
   refine GL.gives rfl rfl rfl (Gives.move rfl rfl) ?_
   refine GL.does [] rfl rfl rfl rfl (Does.call rfl rfl Try.func6 rfl rfl (rnew_no B n hn _ (Bs hB))) fun _ _ => ?_
   refine GL.gives rfl rfl rfl (Gives.move rfl rfl) ?_
   refine GL.gives rfl rfl rfl (Gives.extract (v := .agg #[.slice none 0 0, .slice none 0 0, .int .i64 0, .bool false]) rfl rfl rfl) ?_
   refine GL.gives rfl rfl rfl (Gives.extract (v := .int .i64 1) rfl rfl rfl) ?_
   refine GL.does [] rfl rfl rfl rfl (Does.alloc (Bs hB) rfl al31) fun gr hgr => ?_
   refine GL.does0 [0] rfl rfl rfl (Does.storeb rfl rfl rfl sz31 (by first | (simp [Value.oneCell']; done) | (simp [one_int, one_bool, one_string, one_slice, one_pointer, *]; done)) rfl) fun _ _ => ?_
   refine GL.gives rfl rfl rfl (Gives.assign rfl rfl) ?_
   refine GL.nil ?_
   refine GQ.thenN ?_
   refine GC.seq ?_
   refine GC.seq ?_
   refine GC.draw (fun w => St _ _ w _) [] #[false, false, false, false, false, false, false, false, false, false, false, false, false, false, false, false, false, false] mixed_ rfl rfl (fun _ h => h) ?_
   refine GA.pure 0 #[true, false, false, false, false, false, false, false, false, false, false, false, false, false, false, false, false, false] (by repeat (first | exact PanicOk.body | refine PanicOk.then ?_ | refine PanicOk.block ?_)) rfl rfl (by kernel_rfl) rfl rfl (Gives.move rfl rfl) ?_
   refine GA.pure 1 #[true, true, false, false, false, false, false, false, false, false, false, false, false, false, false, false, false, false] (by repeat (first | exact PanicOk.body | refine PanicOk.then ?_ | refine PanicOk.block ?_)) rfl rfl (by kernel_rfl) rfl rfl (Gives.move rfl rfl) ?_
   refine GA.pure 2 #[true, true, true, false, false, false, false, false, false, false, false, false, false, false, false, false, false, false] (by repeat (first | exact PanicOk.body | refine PanicOk.then ?_ | refine PanicOk.block ?_)) rfl rfl (by kernel_rfl) rfl rfl (Gives.nei rfl rfl rfl) ?_
   refine GA.pure 3 #[true, true, true, true, false, false, false, false, false, false, false, false, false, false, false, false, false, false] (by repeat (first | exact PanicOk.body | refine PanicOk.then ?_ | refine PanicOk.block ?_)) rfl rfl (by kernel_rfl) rfl rfl (Gives.move rfl rfl) ?_
   refine GA.learn (t := 35) (v' := .bool false) rfl (congrArg Value.bool (by rfl)) ?_
   refine GA.pure 4 #[true, true, true, true, true, false, false, false, false, false, false, false, false, false, false, false, false, false] (by repeat (first | exact PanicOk.body | refine PanicOk.then ?_ | refine PanicOk.block ?_)) rfl rfl (by kernel_rfl) rfl rfl (Gives.move rfl rfl) ?_
   refine GA.pure 5 #[true, true, true, true, true, true, false, false, false, false, false, false, false, false, false, false, false, false] (by repeat (first | exact PanicOk.body | refine PanicOk.then ?_ | refine PanicOk.block ?_)) rfl rfl (by kernel_rfl) rfl rfl (Gives.nep rfl rfl rfl Try.underlying24) ?_
   refine GA.pure 6 #[true, true, true, true, true, true, true, false, false, false, false, false, false, false, false, false, false, false] (by repeat (first | exact PanicOk.body | refine PanicOk.then ?_ | refine PanicOk.block ?_)) rfl rfl (by kernel_rfl) rfl rfl (Gives.move rfl rfl) ?_
   refine GA.pure 7 #[true, true, true, true, true, true, true, true, false, false, false, false, false, false, false, false, false, false] (by repeat (first | exact PanicOk.body | refine PanicOk.then ?_ | refine PanicOk.block ?_)) rfl rfl (by kernel_rfl) rfl rfl (Gives.eqi rfl rfl rfl) ?_
   refine GA.pure 8 #[true, true, true, true, true, true, true, true, true, false, false, false, false, false, false, false, false, false] (by repeat (first | exact PanicOk.body | refine PanicOk.then ?_ | refine PanicOk.block ?_)) rfl rfl (by kernel_rfl) rfl rfl (Gives.neb Try.underlying4 rfl rfl rfl) ?_
   refine GA.pure 9 #[true, true, true, true, true, true, true, true, true, true, false, false, false, false, false, false, false, false] (by repeat (first | exact PanicOk.body | refine PanicOk.then ?_ | refine PanicOk.block ?_)) rfl rfl (by kernel_rfl) rfl rfl (Gives.pickF rfl rfl rfl rfl) ?_
   refine GA.pure 10 #[true, true, true, true, true, true, true, true, true, true, true, false, false, false, false, false, false, false] (by repeat (first | exact PanicOk.body | refine PanicOk.then ?_ | refine PanicOk.block ?_)) rfl rfl (by kernel_rfl) rfl rfl (Gives.move rfl rfl) ?_
   refine GA.learn (t := 42) (v' := .bool false) rfl (congrArg Value.bool (by rfl)) ?_
   refine GA.pure 11 #[true, true, true, true, true, true, true, true, true, true, true, true, false, false, false, false, false, false] (by repeat (first | exact PanicOk.body | refine PanicOk.then ?_ | refine PanicOk.block ?_)) rfl rfl (by kernel_rfl) rfl rfl (Gives.move rfl rfl) ?_
   refine GA.pure 13 #[true, true, true, true, true, true, true, true, true, true, true, true, false, true, false, false, false, false] (by repeat (first | exact PanicOk.body | refine PanicOk.then ?_ | refine PanicOk.block ?_)) rfl rfl (by kernel_rfl) rfl rfl (Gives.fieldAddr (q := ⟨gr, 0, none⟩) rfl rfl (fun _ => by kernel_rfl)) ?_
   refine GA.take 14 #[true, true, true, true, true, true, true, true, true, true, true, true, false, true, true, false, false, false] (by repeat (first | exact PanicOk.body | refine PanicOk.then ?_ | refine PanicOk.block ?_)) rfl rfl (by kernel_rfl) rfl rfl (fun _ h => h) (Gives.loadc (v := .slice none 0 0) 0 rfl rfl pl28 rfl rfl) ?_
   refine GA.pure 15 #[true, true, true, true, true, true, true, true, true, true, true, true, false, true, true, true, false, false] (by repeat (first | exact PanicOk.body | refine PanicOk.then ?_ | refine PanicOk.block ?_)) rfl rfl (by kernel_rfl) rfl rfl (Gives.len rfl rfl Try.underlying28) ?_
   refine GA.one 12 #[true, true, true, true, true, true, true, true, true, true, true, true, true, true, true, true, false, false] [] rfl rfl (by kernel_rfl) (by decide) rfl rfl rfl (Does.call rfl rfl Try.func7 rfl rfl (blocks_nil _)) (fun _ _ _ h => h) fun _ _ => ?_
   refine GA.pure 16 #[true, true, true, true, true, true, true, true, true, true, true, true, true, true, true, true, true, false] (by repeat (first | exact PanicOk.body | refine PanicOk.then ?_ | refine PanicOk.block ?_)) rfl rfl (by kernel_rfl) rfl rfl (Gives.nei rfl rfl rfl) ?_
   refine GA.pure 17 #[true, true, true, true, true, true, true, true, true, true, true, true, true, true, true, true, true, true] (by repeat (first | exact PanicOk.body | refine PanicOk.then ?_ | refine PanicOk.block ?_)) rfl rfl (by kernel_rfl) rfl rfl (Gives.pickF rfl rfl rfl rfl) ?_
   refine GA.done (by kernel_rfl) ?_
   refine GQ.thenN ?_
   refine GC.condF rfl (by rfl) ?_
   refine GC.skip ?_
   refine GQ.thenN ?_
   refine GC.seq ?_
   refine GC.seq ?_
   refine GC.region ?_
   refine GL.gives rfl rfl rfl (Gives.assign rfl rfl) ?_
   refine GL.nil ?_
   refine GQ.thenN ?_
   refine GC.block ?_
   refine GC.loop (σ := Unit) (fun _ => [(0, .int .i64 n), (1, .slice A la ca), (5, .pointer none), (7, .pointer (some ⟨gr, 0, none⟩)), (9, .int .i64 0)])
     (fun _ => [Cells gr #[.slice none 0 0, .slice none 0 0, .int .i64 0, .bool false] 31]) (fun _ => True) (fun _ => 0) () [0] trivial ⟨rfl, rfl, rfl, rfl, rfl, trivial⟩ rfl ?_
   rintro _ _
   refine GC.seq ?_
   refine GC.seq ?_
   refine GC.region ?_
   refine GL.gives rfl rfl rfl (Gives.move rfl rfl) ?_
   refine GL.gives rfl rfl rfl (Gives.move rfl rfl) ?_
   refine GL.gives rfl rfl rfl (Gives.len rfl rfl Try.underlying22) ?_
   refine GL.gives rfl rfl rfl (Gives.lss rfl rfl rfl) ?_
   refine GL.gives rfl rfl rfl (Gives.move rfl rfl) ?_
   refine GL.split (t := 54) rfl (fun h54 => ?_) (fun h54 => ?_)
   ·
     replace h54 := of_decide_eq_true h54
     refine GL.gives rfl rfl rfl (Gives.move rfl rfl) ?_
     refine GL.gives rfl rfl rfl (Gives.lss rfl rfl rfl) ?_
     refine GL.gives rfl rfl rfl (Gives.pickT rfl rfl rfl rfl) ?_
     refine GL.gives rfl rfl rfl (Gives.move rfl rfl) ?_
     refine GL.split (t := 58) rfl (fun h58 => ?_) (fun h58 => ?_)
     ·
       replace h58 := of_decide_eq_true h58
       refine GL.gives rfl rfl rfl (Gives.move rfl rfl) ?_
       refine GL.gives rfl rfl rfl (Gives.nep rfl rfl rfl Try.underlying24) ?_
       refine GL.gives rfl rfl rfl (Gives.pickT rfl rfl rfl rfl) ?_
       refine GL.nil ?_
       refine GQ.thenN ?_
       refine GC.condF rfl rfl ?_
       refine GC.exit ?_
       refine GQ.thenX ?_
       refine GQ.thenX ?_
       refine GQ.blkX ?_
       refine GQ.thenN ?_
       refine GC.seq ?_
       refine GC.region ?_
       refine GL.does [] rfl rfl rfl rfl (Does.call rfl rfl Try.func4 rfl rfl (awake_con B _ (Bs hB))) fun _ _ => ?_
       refine GL.gives rfl rfl rfl (Gives.assign rfl rfl) ?_
       refine GL.nil ?_
       refine GQ.thenN ?_
       refine GC.ret ?_
       refine GQ.ret1 (.inl rfl) rfl rfl ?_
       intro w' hs
       exact ⟨rfl, hs.below⟩
     ·
       replace h58 := of_decide_eq_false h58
       refine GL.skip rfl rfl rfl ?_
       refine GL.skip rfl rfl rfl ?_
       refine GL.gives rfl rfl rfl (Gives.pickF rfl rfl rfl rfl) ?_
       refine GL.nil ?_
       refine GQ.thenN ?_
       refine GC.condF rfl rfl ?_
       refine GC.exit ?_
       refine GQ.thenX ?_
       refine GQ.thenX ?_
       refine GQ.blkX ?_
       refine GQ.thenN ?_
       refine GC.seq ?_
       refine GC.region ?_
       refine GL.does [] rfl rfl rfl rfl (Does.call rfl rfl Try.func4 rfl rfl (awake_con B _ (Bs hB))) fun _ _ => ?_
       refine GL.gives rfl rfl rfl (Gives.assign rfl rfl) ?_
       refine GL.nil ?_
       refine GQ.thenN ?_
       refine GC.ret ?_
       refine GQ.ret1 (.inl rfl) rfl rfl ?_
       intro w' hs
       exact ⟨rfl, hs.below⟩
   ·
     replace h54 := of_decide_eq_false h54
     refine GL.skip rfl rfl rfl ?_
     refine GL.skip rfl rfl rfl ?_
     refine GL.gives rfl rfl rfl (Gives.pickF rfl rfl rfl rfl) ?_
     refine GL.gives rfl rfl rfl (Gives.move rfl rfl) ?_
     refine GL.skip rfl rfl rfl ?_
     refine GL.skip rfl rfl rfl ?_
     refine GL.gives rfl rfl rfl (Gives.pickF rfl rfl rfl rfl) ?_
     refine GL.nil ?_
     refine GQ.thenN ?_
     refine GC.condF rfl rfl ?_
     refine GC.exit ?_
     refine GQ.thenX ?_
     refine GQ.thenX ?_
     refine GQ.blkX ?_
     refine GQ.thenN ?_
     refine GC.seq ?_
     refine GC.region ?_
     refine GL.does [] rfl rfl rfl rfl (Does.call rfl rfl Try.func4 rfl rfl (awake_con B _ (Bs hB))) fun _ _ => ?_
     refine GL.gives rfl rfl rfl (Gives.assign rfl rfl) ?_
     refine GL.nil ?_
     refine GQ.thenN ?_
     refine GC.ret ?_
     refine GQ.ret1 (.inl rfl) rfl rfl ?_
     intro w' hs
     exact ⟨rfl, hs.below⟩

theorem rdA_mem (L : List AT) (k : Int) (h0 : 0 ≤ k) (h1 : k < L.length) : rdOf zA L k ∈ L := by
  have : k.toNat < L.length := by omega
  simp [rdOf, List.getD_eq_getElem?_getD, List.getElem?_eq_getElem this]
set_option maxRecDepth 100000 in
set_option maxHeartbeats 1000000 in
theorem plays_near (n : Int) (A : Option Addr) (la ca : Nat) (xs : List AT) (w : World) (hC : kA.C w A la xs) (hOK : ∀ a ∈ xs, OkAct a) (hn : 1 ≤ n ∧ n ≤ 20) : Calls Try.prog 3 [.int .i64 n, .slice A la ca].toArray w (fun e w' => e = .returned (.bool true) ∧ Below w.heap.size w w') := by
 have hs : Sep w (fun _ => False) [] := trivial
 obtain ⟨B, hBB⟩ : ∃ B, B = w.heap.size := ⟨_, rfl⟩
 have hB : B ≤ w.heap.size := Nat.le_of_eq hBB
 have hla := (C_lenm hC).1
 have hla2 := (C_lenm hC).2
 refine enter (args := [.int .i64 n, .slice A la ca]) Try.func3 rfl rfl rfl hs ?_
 refine GC.seq ?_
 refine GC.region ?_
 refine GL.gives rfl rfl rfl (Gives.assign rfl rfl) ?_
 refine GL.nil ?_
 refine GQ.thenN ?_
 refine GC.seq ?_
 refine GC.seq ?_
 refine GC.region ?_
 refine GL.gives rfl rfl rfl (Gives.move rfl rfl) ?_
 refine GL.gives rfl rfl rfl (Gives.gtr rfl rfl rfl) ?_
 refine GL.gives rfl rfl rfl (Gives.move rfl rfl) ?_
 refine GL.learn (t := 17) (v' := .bool false) rfl (congrArg Value.bool (decide_eq_false (by omega))) ?_
 refine GL.skip rfl rfl rfl ?_
 refine GL.skip rfl rfl rfl ?_
 refine GL.gives rfl rfl rfl (Gives.pickF rfl rfl rfl rfl) ?_
 refine GL.nil ?_
 refine GQ.thenN ?_
 refine GC.condF rfl rfl ?_
 refine GC.skip ?_
 refine GQ.thenN ?_
 refine GC.seq ?_
 refine GC.region ?_
 refine GL.gives rfl rfl rfl (Gives.move rfl rfl) ?_
 refine GL.does [] rfl rfl rfl rfl (Does.call rfl rfl Try.func5 rfl rfl (new_con B n (by omega) _ (Bs hB))) fun ⟨g, gs, cs⟩ _ => ?_
 refine GL.gives rfl rfl rfl (Gives.move rfl rfl) ?_
 refine GL.gives rfl rfl rfl (Gives.extract (v := .pointer (some ⟨g, 0, none⟩)) rfl rfl rfl) ?_
 refine GL.gives rfl rfl rfl (Gives.extract (v := .int .i64 0) rfl rfl rfl) ?_
 refine GL.gives rfl rfl rfl (Gives.assign rfl rfl) ?_
 refine GL.gives rfl rfl rfl (Gives.assign rfl rfl) ?_
 refine GL.nil ?_
 refine GQ.thenN ?_
 refine GC.seq ?_
 refine GC.region ?_
 refine GL.gives rfl rfl rfl (Gives.move rfl rfl) ?_
 refine GL.does [] rfl rfl rfl rfl (Does.call rfl rfl Try.func6 rfl rfl (rnew_con B n (by omega) _ (Bs hB))) fun ⟨ra, rc⟩ _ => ?_
 refine GL.gives rfl rfl rfl (Gives.move rfl rfl) ?_
 refine GL.gives rfl rfl rfl (Gives.extract (v := .agg #[.slice ra n.toNat rc, .slice none 0 0, .int .i64 (M0 n.toNat).f, .bool (M0 n.toNat).b]) rfl rfl rfl) ?_
 refine GL.gives rfl rfl rfl (Gives.extract (v := .int .i64 0) rfl rfl rfl) ?_
 refine GL.does [] rfl rfl rfl rfl (Does.alloc (Bs hB) rfl al31) fun gr hgr => ?_
 refine GL.does0 [0] rfl rfl rfl (Does.storeb rfl rfl rfl sz31 (by first | (simp [Value.oneCell']; done) | (simp [one_int, one_bool, one_string, one_slice, one_pointer, *]; done)) rfl) fun _ _ => ?_
 refine GL.gives rfl rfl rfl (Gives.assign rfl rfl) ?_
 refine GL.nil ?_
 refine GQ.thenN ?_
 refine GC.seq ?_
 refine GC.seq ?_
 refine GC.draw (fun w => St _ _ w _) [] #[false, false, false, false, false, false, false, false, false, false, false, false, false, false, false, false, false, false] mixed_ rfl rfl (fun _ h => h) ?_
 refine GA.pure 0 #[true, false, false, false, false, false, false, false, false, false, false, false, false, false, false, false, false, false] (by repeat (first | exact PanicOk.body | refine PanicOk.then ?_ | refine PanicOk.block ?_)) rfl rfl (by kernel_rfl) rfl rfl (Gives.move rfl rfl) ?_
 refine GA.pure 1 #[true, true, false, false, false, false, false, false, false, false, false, false, false, false, false, false, false, false] (by repeat (first | exact PanicOk.body | refine PanicOk.then ?_ | refine PanicOk.block ?_)) rfl rfl (by kernel_rfl) rfl rfl (Gives.move rfl rfl) ?_
 refine GA.pure 2 #[true, true, true, false, false, false, false, false, false, false, false, false, false, false, false, false, false, false] (by repeat (first | exact PanicOk.body | refine PanicOk.then ?_ | refine PanicOk.block ?_)) rfl rfl (by kernel_rfl) rfl rfl (Gives.nei rfl rfl rfl) ?_
 refine GA.pure 3 #[true, true, true, true, false, false, false, false, false, false, false, false, false, false, false, false, false, false] (by repeat (first | exact PanicOk.body | refine PanicOk.then ?_ | refine PanicOk.block ?_)) rfl rfl (by kernel_rfl) rfl rfl (Gives.move rfl rfl) ?_
 refine GA.learn (t := 35) (v' := .bool false) rfl (congrArg Value.bool (by rfl)) ?_
 refine GA.pure 4 #[true, true, true, true, true, false, false, false, false, false, false, false, false, false, false, false, false, false] (by repeat (first | exact PanicOk.body | refine PanicOk.then ?_ | refine PanicOk.block ?_)) rfl rfl (by kernel_rfl) rfl rfl (Gives.move rfl rfl) ?_
 refine GA.pure 5 #[true, true, true, true, true, true, false, false, false, false, false, false, false, false, false, false, false, false] (by repeat (first | exact PanicOk.body | refine PanicOk.then ?_ | refine PanicOk.block ?_)) rfl rfl (by kernel_rfl) rfl rfl (Gives.nep rfl rfl rfl Try.underlying24) ?_
 refine GA.pure 6 #[true, true, true, true, true, true, true, false, false, false, false, false, false, false, false, false, false, false] (by repeat (first | exact PanicOk.body | refine PanicOk.then ?_ | refine PanicOk.block ?_)) rfl rfl (by kernel_rfl) rfl rfl (Gives.move rfl rfl) ?_
 refine GA.pure 7 #[true, true, true, true, true, true, true, true, false, false, false, false, false, false, false, false, false, false] (by repeat (first | exact PanicOk.body | refine PanicOk.then ?_ | refine PanicOk.block ?_)) rfl rfl (by kernel_rfl) rfl rfl (Gives.eqi rfl rfl rfl) ?_
 refine GA.pure 8 #[true, true, true, true, true, true, true, true, true, false, false, false, false, false, false, false, false, false] (by repeat (first | exact PanicOk.body | refine PanicOk.then ?_ | refine PanicOk.block ?_)) rfl rfl (by kernel_rfl) rfl rfl (Gives.neb Try.underlying4 rfl rfl rfl) ?_
 refine GA.pure 9 #[true, true, true, true, true, true, true, true, true, true, false, false, false, false, false, false, false, false] (by repeat (first | exact PanicOk.body | refine PanicOk.then ?_ | refine PanicOk.block ?_)) rfl rfl (by kernel_rfl) rfl rfl (Gives.pickF rfl rfl rfl rfl) ?_
 refine GA.pure 10 #[true, true, true, true, true, true, true, true, true, true, true, false, false, false, false, false, false, false] (by repeat (first | exact PanicOk.body | refine PanicOk.then ?_ | refine PanicOk.block ?_)) rfl rfl (by kernel_rfl) rfl rfl (Gives.move rfl rfl) ?_
 refine GA.learn (t := 42) (v' := .bool false) rfl (congrArg Value.bool (by rfl)) ?_
 refine GA.pure 11 #[true, true, true, true, true, true, true, true, true, true, true, true, false, false, false, false, false, false] (by repeat (first | exact PanicOk.body | refine PanicOk.then ?_ | refine PanicOk.block ?_)) rfl rfl (by kernel_rfl) rfl rfl (Gives.move rfl rfl) ?_
 refine GA.pure 13 #[true, true, true, true, true, true, true, true, true, true, true, true, false, true, false, false, false, false] (by repeat (first | exact PanicOk.body | refine PanicOk.then ?_ | refine PanicOk.block ?_)) rfl rfl (by kernel_rfl) rfl rfl (Gives.fieldAddr (q := ⟨gr, 0, none⟩) rfl rfl (fun _ => by kernel_rfl)) ?_
 refine GA.take 14 #[true, true, true, true, true, true, true, true, true, true, true, true, false, true, true, false, false, false] (by repeat (first | exact PanicOk.body | refine PanicOk.then ?_ | refine PanicOk.block ?_)) rfl rfl (by kernel_rfl) rfl rfl (fun _ h => h) (Gives.loadc (v := .slice ra n.toNat rc) 0 rfl rfl pl28 rfl rfl) ?_
 refine GA.pure 15 #[true, true, true, true, true, true, true, true, true, true, true, true, false, true, true, true, false, false] (by repeat (first | exact PanicOk.body | refine PanicOk.then ?_ | refine PanicOk.block ?_)) rfl rfl (by kernel_rfl) rfl rfl (Gives.len rfl rfl Try.underlying28) ?_
 refine GA.one 12 #[true, true, true, true, true, true, true, true, true, true, true, true, true, true, true, true, false, false] [3] rfl rfl (by kernel_rfl) (by decide) rfl rfl rfl (Does.call rfl rfl Try.func7 rfl rfl (blocks_con g gs cs n.toNat (.slice none 0 0) (M0 n.toNat) _)) (fun _ _ _ h => h.take (is := [1, 1, 1, 0, 0, 0]) rfl) fun _ _ => ?_
 refine GA.pure 16 #[true, true, true, true, true, true, true, true, true, true, true, true, true, true, true, true, true, false] (by repeat (first | exact PanicOk.body | refine PanicOk.then ?_ | refine PanicOk.block ?_)) rfl rfl (by kernel_rfl) rfl rfl (Gives.nei rfl rfl rfl) ?_
 refine GA.pure 17 #[true, true, true, true, true, true, true, true, true, true, true, true, true, true, true, true, true, true] (by repeat (first | exact PanicOk.body | refine PanicOk.then ?_ | refine PanicOk.block ?_)) rfl rfl (by kernel_rfl) rfl rfl (Gives.pickF rfl rfl rfl rfl) ?_
 refine GA.done (by kernel_rfl) ?_
 refine GQ.thenN ?_
 refine GC.condF rfl (by simp) ?_
 refine GC.skip ?_
 refine GQ.thenN ?_
 refine GC.seq ?_
 refine GC.seq ?_
 refine GC.region ?_
 refine GL.gives rfl rfl rfl (Gives.assign rfl rfl) ?_
 refine GL.nil ?_
 refine GQ.thenN ?_
 refine GC.block ?_
 refine GC.loop (σ := Int × M × Value × Value × Value) (fun s => [(0, .int .i64 n), (1, .slice A la ca), (5, .pointer (some ⟨g, 0, none⟩)), (7, .pointer (some ⟨gr, 0, none⟩)), (9, .int .i64 s.1)])
   (fun s => DK B g gs cs n.toNat s.2.2.1 s.2.1 ++ Cells gr #[s.2.2.2.1, s.2.2.2.2, .int .i64 s.2.1.f, .bool s.2.1.b] 31 :: RK B s.2.2.2.1 s.2.2.2.2 s.2.1) (fun s => (0 ≤ s.1 ∧ s.1 ≤ la) ∧ s.2.1.Ok n.toNat ∧ s.2.1.L.length ≤ s.1) (fun s => (la - s.1).toNat) (0, M0 n.toNat, .slice none 0 0, .slice ra n.toNat rc, .slice none 0 0) [0, 3, 3, 0, 0, 0] ⟨⟨by simp, by simp⟩, M0_ok (by omega), by simp [M0]⟩ ⟨rfl, rfl, rfl, rfl, rfl, trivial⟩ rfl ?_
 rintro ⟨i, m, vl, sv, lv⟩ ⟨⟨hi0, hi1⟩, hm, hl⟩
 dsimp only at hi0 hi1 hm hl ⊢
 refine GC.norm (L' := [Cells g #[.slice (some ⟨gs, 0, none⟩) n.toNat cs, vl, .int .i64 m.f, .bool m.b] 50, Row B Kd.string 9 (.slice (some ⟨gs, 0, none⟩) n.toNat cs) m.S, Row B kW 59 vl m.L, Cells gr #[sv, lv, .int .i64 m.f, .bool m.b] 31, Row B Kd.string 9 sv m.S, Row B kW 61 lv m.L]) rfl ?_
 refine GC.seq ?_
 refine GC.seq ?_
 refine GC.region ?_
 refine GL.gives rfl rfl rfl (Gives.move rfl rfl) ?_
 refine GL.gives rfl rfl rfl (Gives.move rfl rfl) ?_
 refine GL.gives rfl rfl rfl (Gives.len rfl rfl Try.underlying22) ?_
 refine GL.gives rfl rfl rfl (Gives.lss rfl rfl rfl) ?_
 refine GL.gives rfl rfl rfl (Gives.move rfl rfl) ?_
 refine GL.split (t := 54) rfl (fun h54 => ?_) (fun h54 => ?_)
 ·
   replace h54 := of_decide_eq_true h54
   refine GL.gives rfl rfl rfl (Gives.move rfl rfl) ?_
   refine GL.gives rfl rfl rfl (Gives.lss rfl rfl rfl) ?_
   refine GL.gives rfl rfl rfl (Gives.pickT rfl rfl rfl rfl) ?_
   refine GL.gives rfl rfl rfl (Gives.move rfl rfl) ?_
   refine GL.split (t := 58) rfl (fun h58 => ?_) (fun h58 => ?_)
   ·
     have hc58 : i < 100 := of_decide_eq_true h58
     refine GL.gives rfl rfl rfl (Gives.move rfl rfl) ?_
     refine GL.gives rfl rfl rfl (Gives.nep rfl rfl rfl Try.underlying24) ?_
     refine GL.gives rfl rfl rfl (Gives.pickT rfl rfl rfl rfl) ?_
     refine GL.nil ?_
     refine GQ.thenN ?_
     refine GC.condT rfl rfl ?_
     refine GC.skip ?_
     refine GQ.thenN ?_
     refine GC.seq ?_
     refine GC.block ?_
     refine GC.seq ?_
     refine GC.seq ?_
     refine GC.region ?_
     refine GL.gives rfl rfl rfl (Gives.move rfl rfl) ?_
     refine GL.gives rfl rfl rfl (Gives.move rfl rfl) ?_
     refine GL.gives rfl rfl rfl (Gives.move rfl rfl) ?_
     obtain ⟨p, hp⟩ := C_some hC (by omega)
     subst hp
     refine GL.gives rfl rfl rfl (Gives.indexAddr (i := i) rfl rfl rfl Try.underlying22 sz39 (by omega) (by omega)) ?_
     refine GL.gives rfl rfl rfl (show Gives _ _ _ _ _ (.agg #[.int .i64 (rdOf zA xs i).1, .int .i64 (rdOf zA xs i).2.1, .string (rdOf zA xs i).2.2.1, .int .u64 (rdOf zA xs i).2.2.2]) from Gives.loadRow (kd := kA) (p := p) (m := la) (i := i) zA kA_encs rfl rfl ag39 sz39 (fun w' hs => Kd.C_below hC hs.below) hi0 (by omega)) ?_
     have hX : OkAct (rdOf zA xs i) := hOK _ (rdA_mem xs i hi0 (by omega))
     refine GL.does [0, 0, 0, 0, 0, 0] rfl rfl rfl rfl (Does.call rfl rfl Try.func8 rfl rfl (does_con B g gs cs n.toNat gr vl sv lv m (rdOf zA xs i).1 (rdOf zA xs i).2.1 (rdOf zA xs i).2.2.1 (rdOf zA xs i).2.2.2 hX hm (by omega) _ (Bs hB))) fun ⟨vl', sv', lv'⟩ _ => ?_
     have hm2 := act_ok hm (by omega) (rdOf zA xs i) hX
     revert hm2
     show (act m (rdOf zA xs i)).Ok n.toNat ∧ _ → GL _ _ _ _ _ _ _ (DK B g gs cs n.toNat vl' (act m (rdOf zA xs i)) ++ Cells gr #[sv', lv', .int .i64 (act m (rdOf zA xs i)).f, .bool (act m (rdOf zA xs i)).b] 31 :: RK B sv' lv' (act m (rdOf zA xs i))) _
     generalize act m (rdOf zA xs i) = m2
     intro hm2
     refine GL.gives rfl rfl rfl (Gives.not rfl rfl) ?_
     refine GL.nil ?_
     refine GQ.thenN ?_
     refine GC.condF rfl rfl ?_
     refine GC.skip ?_
     refine GQ.thenN ?_
     refine GC.seq ?_
     refine GC.region ?_
     refine GL.gives rfl rfl rfl (Gives.assign rfl rfl) ?_
     refine GL.nil ?_
     refine GQ.thenN ?_
     refine GC.block ?_
     refine GC.norm (L' := [Cells g #[.slice (some ⟨gs, 0, none⟩) n.toNat cs, vl', .int .i64 m2.f, .bool m2.b] 50, Row B Kd.string 9 (.slice (some ⟨gs, 0, none⟩) n.toNat cs) m2.S, Row B kW 59 vl' m2.L, Cells gr #[sv', lv', .int .i64 m2.f, .bool m2.b] 31, Row B Kd.string 9 sv' m2.S, Row B kW 61 lv' m2.L]) rfl ?_
     refine GC.loop (σ := Int) (fun k => [(0, .int .i64 n), (1, .slice (some p) la ca), (5, .pointer (some ⟨g, 0, none⟩)), (7, .pointer (some ⟨gr, 0, none⟩)), (9, .int .i64 i), (10, .int .i64 k)])
       (fun _ => [Cells g #[.slice (some ⟨gs, 0, none⟩) n.toNat cs, vl', .int .i64 m2.f, .bool m2.b] 50, Row B Kd.string 9 (.slice (some ⟨gs, 0, none⟩) n.toNat cs) m2.S, Row B kW 59 vl' m2.L, Cells gr #[sv', lv', .int .i64 m2.f, .bool m2.b] 31, Row B Kd.string 9 sv' m2.S, Row B kW 61 lv' m2.L]) (fun k => -1 ≤ k ∧ k ≤ n + 1) (fun k => (n + 1 - k).toNat) (-1) [0, 0, 0, 0, 0, 0] ⟨by omega, by omega⟩ ⟨rfl, rfl, rfl, rfl, rfl, rfl, trivial⟩ rfl ?_
     rintro k ⟨hk0, hk1⟩
     refine GC.seq ?_
     refine GC.seq ?_
     refine GC.region ?_
     refine GL.gives rfl rfl rfl (Gives.move rfl rfl) ?_
     refine GL.gives rfl rfl rfl (Gives.move rfl rfl) ?_
     refine GL.gives rfl rfl rfl (Gives.leq rfl rfl rfl) ?_
     refine GL.nil ?_
     refine GQ.thenN ?_
     refine GC.split (t := 73) rfl (fun hc73 => ?_) (fun hc73 => ?_)
     ·
       replace hc73 := of_decide_eq_true hc73
       refine GC.condT rfl rfl ?_
       refine GC.skip ?_
       refine GQ.thenN ?_
       refine GC.seq ?_
       refine GC.block ?_
       refine GC.seq ?_
       refine GC.region ?_
       refine GL.gives rfl rfl rfl (Gives.move rfl rfl) ?_
       refine GL.gives rfl rfl rfl (Gives.move rfl rfl) ?_
       refine GL.does [0, 0, 0] rfl rfl rfl rfl (Does.call rfl rfl Try.func9 rfl rfl (read_con B g gs cs n.toNat vl' m2 k hm2.1 _ (Bs hB))) fun _ _ => ?_
       refine GL.gives rfl rfl rfl (Gives.move rfl rfl) ?_
       refine GL.gives rfl rfl rfl (Gives.extract (v := .string (m2.read k).1) rfl rfl rfl) ?_
       refine GL.gives rfl rfl rfl (Gives.extract (v := .int .i64 (m2.read k).2) rfl rfl rfl) ?_
       refine GL.gives rfl rfl rfl (Gives.assign rfl rfl) ?_
       refine GL.gives rfl rfl rfl (Gives.assign rfl rfl) ?_
       refine GL.nil ?_
       refine GQ.thenN ?_
       refine GC.seq ?_
       refine GC.region ?_
       refine GL.gives rfl rfl rfl (Gives.loadb (cs := #[sv', lv', .int .i64 m2.f, .bool m2.b]) 3 rfl rfl ag31 sz31 rfl) ?_
       refine GL.gives rfl rfl rfl (Gives.move rfl rfl) ?_
       refine GL.does [4, 4] rfl rfl rfl rfl (Does.call rfl rfl Try.func10 rfl rfl (rread_con B sv' lv' m2 n.toNat hm2.1 k _ (Bs hB))) fun _ _ => ?_
       refine GL.gives rfl rfl rfl (Gives.move rfl rfl) ?_
       refine GL.gives rfl rfl rfl (Gives.extract (v := .string (m2.read k).1) rfl rfl rfl) ?_
       refine GL.gives rfl rfl rfl (Gives.extract (v := .int .i64 (m2.read k).2) rfl rfl rfl) ?_
       refine GL.gives rfl rfl rfl (Gives.assign rfl rfl) ?_
       refine GL.gives rfl rfl rfl (Gives.assign rfl rfl) ?_
       refine GL.nil ?_
       refine GQ.thenN ?_
       refine GC.seq ?_
       refine GC.region ?_
       refine GL.gives rfl rfl rfl (Gives.move rfl rfl) ?_
       refine GL.gives rfl rfl rfl (Gives.move rfl rfl) ?_
       refine GL.gives rfl rfl rfl (Gives.nes rfl rfl rfl) ?_
       refine GL.gives rfl rfl rfl (Gives.move rfl rfl) ?_
       refine GL.learn (t := 91) (v' := .bool false) rfl (congrArg Value.bool (by simp)) ?_
       refine GL.gives rfl rfl rfl (Gives.move rfl rfl) ?_
       refine GL.gives rfl rfl rfl (Gives.move rfl rfl) ?_
       refine GL.gives rfl rfl rfl (Gives.nei rfl rfl rfl) ?_
       refine GL.gives rfl rfl rfl (Gives.pickF rfl rfl rfl rfl) ?_
       refine GL.nil ?_
       refine GQ.thenN ?_
       refine GC.condF rfl (by simp) ?_
       refine GC.skip ?_
       refine GQ.blkN ?_
       refine GQ.thenN ?_
       refine GC.region ?_
       refine GL.gives rfl rfl rfl (Gives.move rfl rfl) ?_
       refine GL.gives rfl rfl rfl (Gives.add rfl rfl rfl (by omega)) ?_
       refine GL.gives rfl rfl rfl (Gives.assign rfl rfl) ?_
       refine GL.nil ?_
       refine GQ.back (k + 1) [2, 2, 2, 2, 0, 0] ⟨by omega, by omega⟩ (by omega) ⟨rfl, rfl, rfl, rfl, rfl, rfl, trivial⟩ rfl
     ·
       replace hc73 := of_decide_eq_false hc73
       refine GC.condF rfl rfl ?_
       refine GC.exit ?_
       refine GQ.thenX ?_
       refine GQ.thenX ?_
       refine GQ.blkX ?_
       refine GQ.blkN ?_
       refine GQ.thenN ?_
       refine GC.region ?_
       refine GL.gives rfl rfl rfl (Gives.move rfl rfl) ?_
       refine GL.gives rfl rfl rfl (Gives.add rfl rfl rfl (by omega)) ?_
       refine GL.gives rfl rfl rfl (Gives.assign rfl rfl) ?_
       refine GL.nil ?_
       refine GQ.back (i + 1, m2, vl', sv', lv') [0, 0, 0, 0, 0, 0] ⟨⟨by dsimp only; omega, by dsimp only; omega⟩, hm2.1, by have := hm2.2; dsimp only; omega⟩ (by dsimp only; omega) ⟨rfl, rfl, rfl, rfl, rfl, trivial⟩ rfl
   ·
     replace h58 := of_decide_eq_false h58
     refine GL.skip rfl rfl rfl ?_
     refine GL.skip rfl rfl rfl ?_
     refine GL.gives rfl rfl rfl (Gives.pickF rfl rfl rfl rfl) ?_
     refine GL.nil ?_
     refine GQ.thenN ?_
     refine GC.condF rfl rfl ?_
     refine GC.exit ?_
     refine GQ.thenX ?_
     refine GQ.thenX ?_
     refine GQ.blkX ?_
     refine GQ.thenN ?_
     refine GC.seq ?_
     refine GC.region ?_
     refine GL.does [] rfl rfl rfl rfl (Does.call rfl rfl Try.func4 rfl rfl (awake_con B _ (Bs hB))) fun _ _ => ?_
     refine GL.gives rfl rfl rfl (Gives.assign rfl rfl) ?_
     refine GL.nil ?_
     refine GQ.thenN ?_
     refine GC.ret ?_
     refine GQ.ret1 (.inl rfl) rfl rfl ?_
     intro w' hs
     exact ⟨rfl, hs.below⟩
 ·
   replace h54 := of_decide_eq_false h54
   refine GL.skip rfl rfl rfl ?_
   refine GL.skip rfl rfl rfl ?_
   refine GL.gives rfl rfl rfl (Gives.pickF rfl rfl rfl rfl) ?_
   refine GL.gives rfl rfl rfl (Gives.move rfl rfl) ?_
   refine GL.skip rfl rfl rfl ?_
   refine GL.skip rfl rfl rfl ?_
   refine GL.gives rfl rfl rfl (Gives.pickF rfl rfl rfl rfl) ?_
   refine GL.nil ?_
   refine GQ.thenN ?_
   refine GC.condF rfl rfl ?_
   refine GC.exit ?_
   refine GQ.thenX ?_
   refine GQ.thenX ?_
   refine GQ.blkX ?_
   refine GQ.thenN ?_
   refine GC.seq ?_
   refine GC.region ?_
   refine GL.does [] rfl rfl rfl rfl (Does.call rfl rfl Try.func4 rfl rfl (awake_con B _ (Bs hB))) fun _ _ => ?_
   refine GL.gives rfl rfl rfl (Gives.assign rfl rfl) ?_
   refine GL.nil ?_
   refine GQ.thenN ?_
   refine GC.ret ?_
   refine GQ.ret1 (.inl rfl) rfl rfl ?_
   intro w' hs
   exact ⟨rfl, hs.below⟩

theorem plays (W : World) (n : Int) (A : Option Addr) (la ca : Nat) (xs : List AT) (hC : kA.C W A la xs) (hOK : ∀ a ∈ xs, OkAct a) : Calls Try.prog 3 #[.int .i64 n, .slice A la ca] W (fun e w' => e = .returned (.bool true) ∧ Below W.heap.size W w') := by
  by_cases h1 : 20 < n ∧ n ≤ 4096
  · exact plays_far n A la ca xs W hC hOK h1
  · by_cases h2 : 1 ≤ n ∧ n ≤ 20
    · exact plays_near n A la ca xs W hC hOK h2
    · exact plays_no n A la ca xs W hC hOK (by omega)
abbrev OA (a : AT) : Prop := (Lit.int .i64 a.1).wf = true ∧ (Lit.int .i64 a.2.1).wf = true ∧ a.2.2.1.size ≤ maxLen ∧ (Lit.int .u64 a.2.2.2).wf = true
theorem okAct_of {a : AT} (h : OA a) : OkAct a := by
  obtain ⟨_, h1, _, h2⟩ := h
  simp [Lit.wf, IntKind.min, IntKind.max, IntKind.bits, IntKind.signed] at h1 h2
  exact ⟨by omega, by omega⟩
theorem opens_act : Opens Try.prog 39 kA OA := opens_struct Try.underlying39 (by kernel_rfl) (opens_more rfl (opens_int Try.underlying3) (opens_more (by kernel_rfl) (opens_int Try.underlying3) (opens_more (by kernel_rfl) (opens_string Try.underlying9) (opens_last (by kernel_rfl) (opens_int Try.underlying37)))))
end Go.Proofs.Ytanbpjlnomifhaa.SZ
