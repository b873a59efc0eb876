/- Letters, names, numbers: what the program's functions and the document's answer, walked in the small logic. -/
import Derived.Test.YteckdfgllipilaaSB
import Derived.Test.YteckdfgllipilaaProg
import Derived.WalkSmall
import Derived.Lib.Bytealg
import Derived.Lib.Strings
namespace Go.Proofs.Yteckdfgllipilaa.NU
open Go.RowKit Go.Proofs.YteckdfgllipilaaW.PrintWords Go.Proofs.YteckdfgllipilaaW.PrintLast Go.Proofs.YteckdfgllipilaaS

def isDig (c : Int) : Bool := decide (48 ≤ c ∧ c ≤ 57)
def isLet (c : Int) : Bool := decide (c = 95 ∨ (97 ≤ c ∧ c ≤ 122) ∨ (65 ≤ c ∧ c ≤ 90))
theorem isDig_iff {c : Int} : isDig c = true ↔ 48 ≤ c ∧ c ≤ 57 := by unfold isDig; exact decide_eq_true_iff
theorem isLet_iff {c : Int} : isLet c = true ↔ (c = 95 ∨ (97 ≤ c ∧ c ≤ 122) ∨ (65 ≤ c ∧ c ≤ 90)) := by unfold isLet; exact decide_eq_true_iff
/-- May a letter stand at a place of a name? -/
def okAt (s : ByteArray) (i : Int) : Prop := isLet (byteAt s i) = true ∨ (0 < i ∧ isDig (byteAt s i) = true)
def Pre (s : ByteArray) (k : Int) : Prop := ∀ i, 0 ≤ i → i < k → okAt s i
def Stop (s : ByteArray) (r : Int) : Prop := (0 ≤ r ∧ r ≤ s.size) ∧ Pre s r ∧ (r < s.size → ¬ okAt s r)
theorem Stop.one {s : ByteArray} {r q : Int} (h : Stop s r) (h' : Stop s q) : r = q := by
  rcases Int.lt_trichotomy r q with hl | he | hl
  · exact absurd (h'.2.1 r h.1.1 hl) (h.2.2 (by have := h'.1.2; omega))
  · exact he
  · exact absurd (h.2.1 q h'.1.1 hl) (h'.2.2 (by have := h.1.2; omega))
noncomputable def isName (s : ByteArray) : Bool := @decide (0 < s.size ∧ s.size ≤ 64 ∧ Pre s s.size) (Classical.propDecidable _)
theorem isName_iff {s : ByteArray} : isName s = true ↔ 0 < s.size ∧ s.size ≤ 64 ∧ Pre s s.size := by unfold isName; exact @decide_eq_true_iff _ (Classical.propDecidable _)
theorem isName_of {s : ByteArray} {r : Int} (h : Stop s r) (h0 : 0 < s.size ∧ s.size ≤ 64) : isName s = decide (r = s.size) := by
  by_cases hr : r = s.size
  · rw [decide_eq_true hr]; exact isName_iff.2 ⟨h0.1, h0.2, by have := h.2.1; rwa [hr] at this⟩
  · rw [decide_eq_false hr, ← Bool.not_eq_true, isName_iff]
    rintro ⟨_, _, h2⟩
    have := h.1
    exact h.2.2 (by omega) (h2 r h.1.1 (by omega))
theorem isName_no {s : ByteArray} (h : ¬ (0 < s.size ∧ s.size ≤ 64)) : isName s = false := by
  rw [← Bool.not_eq_true, isName_iff]
  rintro ⟨h1, h2, _⟩
  exact h ⟨h1, h2⟩
theorem pre_one {s : ByteArray} (h : okAt s 0) : Pre s 1 := fun i h0 h1 => by
  obtain rfl : i = 0 := by omega
  exact h
theorem retb {a b : Bool} (h : a = b) : Ending.returned (.bool a) = Ending.returned (.bool b) := by rw [h]
theorem dec_beq (a b : Int) : (a == b) = decide (a = b) := rfl

theorem mixed_ : Try.prog.follows .mixedOrders = true := by kernel_rfl

set_option maxRecDepth 100000 in
set_option maxHeartbeats 1000000 in
theorem word_Digit_con (c : Int) (S : World → Prop) : Con Try.prog 30 [.int .u8 c] S [] (fun _ : Unit => .bool (isDig c)) (fun _ => True) (fun _ => []) := by
 intro w F0 _ hs hlt
 refine enter (args := [.int .u8 c]) Try.func30 rfl rfl rfl hs ?_
 refine GC.seq ?_
 refine GC.region ?_
 refine GL.gives rfl rfl rfl (Gives.assign rfl rfl) ?_
 refine GL.nil ?_
 refine GQ.thenN ?_
 refine GC.seq ?_
 refine GC.region ?_
 refine GL.gives rfl rfl rfl (Gives.move rfl rfl) ?_
 refine GL.gives rfl rfl rfl (Gives.geq rfl rfl rfl) ?_
 refine GL.gives rfl rfl rfl (Gives.move rfl rfl) ?_
 refine GL.split (t := 5) rfl (fun ht5 => ?_) (fun ht5 => ?_)
 ·
   replace ht5 := of_decide_eq_true ht5
   refine GL.gives rfl rfl rfl (Gives.move rfl rfl) ?_
   refine GL.gives rfl rfl rfl (Gives.leq rfl rfl rfl) ?_
   refine GL.gives rfl rfl rfl (Gives.pickT rfl rfl rfl rfl) ?_
   refine GL.gives rfl rfl rfl (Gives.assign rfl rfl) ?_
   refine GL.nil ?_
   refine GQ.thenN ?_
   refine GC.ret ?_
   refine GQ.ret1 (.inl rfl) rfl rfl ?_
   intro w hs
   refine ⟨(), retb ?_, trivial, hs⟩
   unfold isDig
   first | rfl | exact (decide_eq_true (by omega)).symm | exact (decide_eq_false (by omega)).symm | exact decide_eq_decide.2 (by omega) | (rw [dec_beq]; exact decide_eq_decide.2 (by omega))
 ·
   replace ht5 := of_decide_eq_false ht5
   refine GL.skip rfl rfl rfl ?_
   refine GL.skip rfl rfl rfl ?_
   refine GL.gives rfl rfl rfl (Gives.pickF rfl rfl rfl rfl) ?_
   refine GL.gives rfl rfl rfl (Gives.assign rfl rfl) ?_
   refine GL.nil ?_
   refine GQ.thenN ?_
   refine GC.ret ?_
   refine GQ.ret1 (.inl rfl) rfl rfl ?_
   intro w hs
   refine ⟨(), retb ?_, trivial, hs⟩
   unfold isDig
   first | rfl | exact (decide_eq_true (by omega)).symm | exact (decide_eq_false (by omega)).symm | exact decide_eq_decide.2 (by omega) | (rw [dec_beq]; exact decide_eq_decide.2 (by omega))

set_option maxRecDepth 100000 in
set_option maxHeartbeats 1000000 in
theorem ref_Digit_con (c : Int) (S : World → Prop) : Con Try.prog 35 [.int .u8 c] S [] (fun _ : Unit => .bool (isDig c)) (fun _ => True) (fun _ => []) := by
 intro w F0 _ hs hlt
 refine enter (args := [.int .u8 c]) Try.func35 rfl rfl rfl hs ?_
 refine GC.seq ?_
 refine GC.region ?_
 refine GL.gives rfl rfl rfl (Gives.assign rfl rfl) ?_
 refine GL.nil ?_
 refine GQ.thenN ?_
 refine GC.seq ?_
 refine GC.region ?_
 refine GL.gives rfl rfl rfl (Gives.move rfl rfl) ?_
 refine GL.gives rfl rfl rfl (Gives.geq rfl rfl rfl) ?_
 refine GL.gives rfl rfl rfl (Gives.move rfl rfl) ?_
 refine GL.split (t := 5) rfl (fun ht5 => ?_) (fun ht5 => ?_)
 ·
   replace ht5 := of_decide_eq_true ht5
   refine GL.gives rfl rfl rfl (Gives.move rfl rfl) ?_
   refine GL.gives rfl rfl rfl (Gives.leq rfl rfl rfl) ?_
   refine GL.gives rfl rfl rfl (Gives.pickT rfl rfl rfl rfl) ?_
   refine GL.gives rfl rfl rfl (Gives.assign rfl rfl) ?_
   refine GL.nil ?_
   refine GQ.thenN ?_
   refine GC.ret ?_
   refine GQ.ret1 (.inl rfl) rfl rfl ?_
   intro w hs
   refine ⟨(), retb ?_, trivial, hs⟩
   unfold isDig
   first | rfl | exact (decide_eq_true (by omega)).symm | exact (decide_eq_false (by omega)).symm | exact decide_eq_decide.2 (by omega) | (rw [dec_beq]; exact decide_eq_decide.2 (by omega))
 ·
   replace ht5 := of_decide_eq_false ht5
   refine GL.skip rfl rfl rfl ?_
   refine GL.skip rfl rfl rfl ?_
   refine GL.gives rfl rfl rfl (Gives.pickF rfl rfl rfl rfl) ?_
   refine GL.gives rfl rfl rfl (Gives.assign rfl rfl) ?_
   refine GL.nil ?_
   refine GQ.thenN ?_
   refine GC.ret ?_
   refine GQ.ret1 (.inl rfl) rfl rfl ?_
   intro w hs
   refine ⟨(), retb ?_, trivial, hs⟩
   unfold isDig
   first | rfl | exact (decide_eq_true (by omega)).symm | exact (decide_eq_false (by omega)).symm | exact decide_eq_decide.2 (by omega) | (rw [dec_beq]; exact decide_eq_decide.2 (by omega))

set_option maxRecDepth 100000 in
set_option maxHeartbeats 1000000 in
theorem word_Letter_con (c : Int) (S : World → Prop) : Con Try.prog 65 [.int .u8 c] S [] (fun _ : Unit => .bool (isLet c)) (fun _ => True) (fun _ => []) := by
 intro w F0 _ hs hlt
 refine enter (args := [.int .u8 c]) Try.func65 rfl rfl rfl hs ?_
 refine GC.seq ?_
 refine GC.region ?_
 refine GL.gives rfl rfl rfl (Gives.assign rfl rfl) ?_
 refine GL.nil ?_
 refine GQ.thenN ?_
 refine GC.seq ?_
 refine GC.region ?_
 refine GL.gives rfl rfl rfl (Gives.move rfl rfl) ?_
 refine GL.gives rfl rfl rfl (Gives.eqi rfl rfl rfl) ?_
 refine GL.gives rfl rfl rfl (Gives.move rfl rfl) ?_
 refine GL.split (t := 5) rfl (fun ht5 => ?_) (fun ht5 => ?_)
 ·
   replace ht5 := by simpa using ht5
   refine GL.skip rfl rfl rfl ?_
   refine GL.skip rfl rfl rfl ?_
   refine GL.skip rfl rfl rfl ?_
   refine GL.skip rfl rfl rfl ?_
   refine GL.skip rfl rfl rfl ?_
   refine GL.skip rfl rfl rfl ?_
   refine GL.gives rfl rfl rfl (Gives.pickT rfl rfl rfl rfl) ?_
   refine GL.gives rfl rfl rfl (Gives.move rfl rfl) ?_
   refine GL.skip rfl rfl rfl ?_
   refine GL.skip rfl rfl rfl ?_
   refine GL.skip rfl rfl rfl ?_
   refine GL.skip rfl rfl rfl ?_
   refine GL.skip rfl rfl rfl ?_
   refine GL.skip rfl rfl rfl ?_
   refine GL.gives rfl rfl rfl (Gives.pickT rfl rfl rfl rfl) ?_
   refine GL.gives rfl rfl rfl (Gives.assign rfl rfl) ?_
   refine GL.nil ?_
   refine GQ.thenN ?_
   refine GC.ret ?_
   refine GQ.ret1 (.inl rfl) rfl rfl ?_
   intro w hs
   refine ⟨(), retb ?_, trivial, hs⟩
   unfold isLet
   first | rfl | exact (decide_eq_true (by omega)).symm | exact (decide_eq_false (by omega)).symm | exact decide_eq_decide.2 (by omega) | (rw [dec_beq]; exact decide_eq_decide.2 (by omega))
 ·
   replace ht5 := by simpa using ht5
   refine GL.gives rfl rfl rfl (Gives.move rfl rfl) ?_
   refine GL.gives rfl rfl rfl (Gives.geq rfl rfl rfl) ?_
   refine GL.gives rfl rfl rfl (Gives.move rfl rfl) ?_
   refine GL.split (t := 8) rfl (fun ht8 => ?_) (fun ht8 => ?_)
   ·
     replace ht8 := of_decide_eq_true ht8
     refine GL.gives rfl rfl rfl (Gives.move rfl rfl) ?_
     refine GL.gives rfl rfl rfl (Gives.leq rfl rfl rfl) ?_
     refine GL.gives rfl rfl rfl (Gives.pickT rfl rfl rfl rfl) ?_
     refine GL.gives rfl rfl rfl (Gives.pickF rfl rfl rfl rfl) ?_
     refine GL.gives rfl rfl rfl (Gives.move rfl rfl) ?_
     refine GL.split (t := 13) rfl (fun ht13 => ?_) (fun ht13 => ?_)
     ·
       replace ht13 := of_decide_eq_true ht13
       refine GL.skip rfl rfl rfl ?_
       refine GL.skip rfl rfl rfl ?_
       refine GL.skip rfl rfl rfl ?_
       refine GL.skip rfl rfl rfl ?_
       refine GL.skip rfl rfl rfl ?_
       refine GL.skip rfl rfl rfl ?_
       refine GL.gives rfl rfl rfl (Gives.pickT rfl rfl rfl rfl) ?_
       refine GL.gives rfl rfl rfl (Gives.assign rfl rfl) ?_
       refine GL.nil ?_
       refine GQ.thenN ?_
       refine GC.ret ?_
       refine GQ.ret1 (.inl rfl) rfl rfl ?_
       intro w hs
       refine ⟨(), retb ?_, trivial, hs⟩
       unfold isLet
       first | rfl | exact (decide_eq_true (by omega)).symm | exact (decide_eq_false (by omega)).symm | exact decide_eq_decide.2 (by omega) | (rw [dec_beq]; exact decide_eq_decide.2 (by omega))
     ·
       replace ht13 := of_decide_eq_false ht13
       refine GL.gives rfl rfl rfl (Gives.move rfl rfl) ?_
       refine GL.gives rfl rfl rfl (Gives.geq rfl rfl rfl) ?_
       refine GL.gives rfl rfl rfl (Gives.move rfl rfl) ?_
       refine GL.split (t := 16) rfl (fun ht16 => ?_) (fun ht16 => ?_)
       ·
         replace ht16 := of_decide_eq_true ht16
         refine GL.gives rfl rfl rfl (Gives.move rfl rfl) ?_
         refine GL.gives rfl rfl rfl (Gives.leq rfl rfl rfl) ?_
         refine GL.gives rfl rfl rfl (Gives.pickT rfl rfl rfl rfl) ?_
         refine GL.gives rfl rfl rfl (Gives.pickF rfl rfl rfl rfl) ?_
         refine GL.gives rfl rfl rfl (Gives.assign rfl rfl) ?_
         refine GL.nil ?_
         refine GQ.thenN ?_
         refine GC.ret ?_
         refine GQ.ret1 (.inl rfl) rfl rfl ?_
         intro w hs
         refine ⟨(), retb ?_, trivial, hs⟩
         unfold isLet
         first | rfl | exact (decide_eq_true (by omega)).symm | exact (decide_eq_false (by omega)).symm | exact decide_eq_decide.2 (by omega) | (rw [dec_beq]; exact decide_eq_decide.2 (by omega))
       ·
         replace ht16 := of_decide_eq_false ht16
         refine GL.skip rfl rfl rfl ?_
         refine GL.skip rfl rfl rfl ?_
         refine GL.gives rfl rfl rfl (Gives.pickF rfl rfl rfl rfl) ?_
         refine GL.gives rfl rfl rfl (Gives.pickF rfl rfl rfl rfl) ?_
         refine GL.gives rfl rfl rfl (Gives.assign rfl rfl) ?_
         refine GL.nil ?_
         refine GQ.thenN ?_
         refine GC.ret ?_
         refine GQ.ret1 (.inl rfl) rfl rfl ?_
         intro w hs
         refine ⟨(), retb ?_, trivial, hs⟩
         unfold isLet
         first | rfl | exact (decide_eq_true (by omega)).symm | exact (decide_eq_false (by omega)).symm | exact decide_eq_decide.2 (by omega) | (rw [dec_beq]; exact decide_eq_decide.2 (by omega))
   ·
     replace ht8 := of_decide_eq_false ht8
     refine GL.skip rfl rfl rfl ?_
     refine GL.skip rfl rfl rfl ?_
     refine GL.gives rfl rfl rfl (Gives.pickF rfl rfl rfl rfl) ?_
     refine GL.gives rfl rfl rfl (Gives.pickF rfl rfl rfl rfl) ?_
     refine GL.gives rfl rfl rfl (Gives.move rfl rfl) ?_
     refine GL.gives rfl rfl rfl (Gives.move rfl rfl) ?_
     refine GL.gives rfl rfl rfl (Gives.geq rfl rfl rfl) ?_
     refine GL.gives rfl rfl rfl (Gives.move rfl rfl) ?_
     refine GL.split (t := 16) rfl (fun ht16 => ?_) (fun ht16 => ?_)
     ·
       replace ht16 := of_decide_eq_true ht16
       refine GL.gives rfl rfl rfl (Gives.move rfl rfl) ?_
       refine GL.gives rfl rfl rfl (Gives.leq rfl rfl rfl) ?_
       refine GL.gives rfl rfl rfl (Gives.pickT rfl rfl rfl rfl) ?_
       refine GL.gives rfl rfl rfl (Gives.pickF rfl rfl rfl rfl) ?_
       refine GL.gives rfl rfl rfl (Gives.assign rfl rfl) ?_
       refine GL.nil ?_
       refine GQ.thenN ?_
       refine GC.ret ?_
       refine GQ.ret1 (.inl rfl) rfl rfl ?_
       intro w hs
       refine ⟨(), retb ?_, trivial, hs⟩
       unfold isLet
       first | rfl | exact (decide_eq_true (by omega)).symm | exact (decide_eq_false (by omega)).symm | exact decide_eq_decide.2 (by omega) | (rw [dec_beq]; exact decide_eq_decide.2 (by omega))
     ·
       replace ht16 := of_decide_eq_false ht16
       refine GL.skip rfl rfl rfl ?_
       refine GL.skip rfl rfl rfl ?_
       refine GL.gives rfl rfl rfl (Gives.pickF rfl rfl rfl rfl) ?_
       refine GL.gives rfl rfl rfl (Gives.pickF rfl rfl rfl rfl) ?_
       refine GL.gives rfl rfl rfl (Gives.assign rfl rfl) ?_
       refine GL.nil ?_
       refine GQ.thenN ?_
       refine GC.ret ?_
       refine GQ.ret1 (.inl rfl) rfl rfl ?_
       intro w hs
       refine ⟨(), retb ?_, trivial, hs⟩
       unfold isLet
       first | rfl | exact (decide_eq_true (by omega)).symm | exact (decide_eq_false (by omega)).symm | exact decide_eq_decide.2 (by omega) | (rw [dec_beq]; exact decide_eq_decide.2 (by omega))

set_option maxRecDepth 100000 in
set_option maxHeartbeats 1000000 in
theorem ref_Letter_con (c : Int) (S : World → Prop) : Con Try.prog 58 [.int .u8 c] S [] (fun _ : Unit => .bool (isLet c)) (fun _ => True) (fun _ => []) := by
 intro w F0 _ hs hlt
 refine enter (args := [.int .u8 c]) Try.func58 rfl rfl rfl hs ?_
 refine GC.seq ?_
 refine GC.region ?_
 refine GL.gives rfl rfl rfl (Gives.assign rfl rfl) ?_
 refine GL.nil ?_
 refine GQ.thenN ?_
 refine GC.seq ?_
 refine GC.region ?_
 refine GL.gives rfl rfl rfl (Gives.move rfl rfl) ?_
 refine GL.gives rfl rfl rfl (Gives.eqi rfl rfl rfl) ?_
 refine GL.gives rfl rfl rfl (Gives.move rfl rfl) ?_
 refine GL.split (t := 5) rfl (fun ht5 => ?_) (fun ht5 => ?_)
 ·
   replace ht5 := by simpa using ht5
   refine GL.skip rfl rfl rfl ?_
   refine GL.skip rfl rfl rfl ?_
   refine GL.skip rfl rfl rfl ?_
   refine GL.skip rfl rfl rfl ?_
   refine GL.skip rfl rfl rfl ?_
   refine GL.skip rfl rfl rfl ?_
   refine GL.gives rfl rfl rfl (Gives.pickT rfl rfl rfl rfl) ?_
   refine GL.gives rfl rfl rfl (Gives.move rfl rfl) ?_
   refine GL.skip rfl rfl rfl ?_
   refine GL.skip rfl rfl rfl ?_
   refine GL.skip rfl rfl rfl ?_
   refine GL.skip rfl rfl rfl ?_
   refine GL.skip rfl rfl rfl ?_
   refine GL.skip rfl rfl rfl ?_
   refine GL.gives rfl rfl rfl (Gives.pickT rfl rfl rfl rfl) ?_
   refine GL.gives rfl rfl rfl (Gives.assign rfl rfl) ?_
   refine GL.nil ?_
   refine GQ.thenN ?_
   refine GC.ret ?_
   refine GQ.ret1 (.inl rfl) rfl rfl ?_
   intro w hs
   refine ⟨(), retb ?_, trivial, hs⟩
   unfold isLet
   first | rfl | exact (decide_eq_true (by omega)).symm | exact (decide_eq_false (by omega)).symm | exact decide_eq_decide.2 (by omega) | (rw [dec_beq]; exact decide_eq_decide.2 (by omega))
 ·
   replace ht5 := by simpa using ht5
   refine GL.gives rfl rfl rfl (Gives.move rfl rfl) ?_
   refine GL.gives rfl rfl rfl (Gives.geq rfl rfl rfl) ?_
   refine GL.gives rfl rfl rfl (Gives.move rfl rfl) ?_
   refine GL.split (t := 8) rfl (fun ht8 => ?_) (fun ht8 => ?_)
   ·
     replace ht8 := of_decide_eq_true ht8
     refine GL.gives rfl rfl rfl (Gives.move rfl rfl) ?_
     refine GL.gives rfl rfl rfl (Gives.leq rfl rfl rfl) ?_
     refine GL.gives rfl rfl rfl (Gives.pickT rfl rfl rfl rfl) ?_
     refine GL.gives rfl rfl rfl (Gives.pickF rfl rfl rfl rfl) ?_
     refine GL.gives rfl rfl rfl (Gives.move rfl rfl) ?_
     refine GL.split (t := 13) rfl (fun ht13 => ?_) (fun ht13 => ?_)
     ·
       replace ht13 := of_decide_eq_true ht13
       refine GL.skip rfl rfl rfl ?_
       refine GL.skip rfl rfl rfl ?_
       refine GL.skip rfl rfl rfl ?_
       refine GL.skip rfl rfl rfl ?_
       refine GL.skip rfl rfl rfl ?_
       refine GL.skip rfl rfl rfl ?_
       refine GL.gives rfl rfl rfl (Gives.pickT rfl rfl rfl rfl) ?_
       refine GL.gives rfl rfl rfl (Gives.assign rfl rfl) ?_
       refine GL.nil ?_
       refine GQ.thenN ?_
       refine GC.ret ?_
       refine GQ.ret1 (.inl rfl) rfl rfl ?_
       intro w hs
       refine ⟨(), retb ?_, trivial, hs⟩
       unfold isLet
       first | rfl | exact (decide_eq_true (by omega)).symm | exact (decide_eq_false (by omega)).symm | exact decide_eq_decide.2 (by omega) | (rw [dec_beq]; exact decide_eq_decide.2 (by omega))
     ·
       replace ht13 := of_decide_eq_false ht13
       refine GL.gives rfl rfl rfl (Gives.move rfl rfl) ?_
       refine GL.gives rfl rfl rfl (Gives.geq rfl rfl rfl) ?_
       refine GL.gives rfl rfl rfl (Gives.move rfl rfl) ?_
       refine GL.split (t := 16) rfl (fun ht16 => ?_) (fun ht16 => ?_)
       ·
         replace ht16 := of_decide_eq_true ht16
         refine GL.gives rfl rfl rfl (Gives.move rfl rfl) ?_
         refine GL.gives rfl rfl rfl (Gives.leq rfl rfl rfl) ?_
         refine GL.gives rfl rfl rfl (Gives.pickT rfl rfl rfl rfl) ?_
         refine GL.gives rfl rfl rfl (Gives.pickF rfl rfl rfl rfl) ?_
         refine GL.gives rfl rfl rfl (Gives.assign rfl rfl) ?_
         refine GL.nil ?_
         refine GQ.thenN ?_
         refine GC.ret ?_
         refine GQ.ret1 (.inl rfl) rfl rfl ?_
         intro w hs
         refine ⟨(), retb ?_, trivial, hs⟩
         unfold isLet
         first | rfl | exact (decide_eq_true (by omega)).symm | exact (decide_eq_false (by omega)).symm | exact decide_eq_decide.2 (by omega) | (rw [dec_beq]; exact decide_eq_decide.2 (by omega))
       ·
         replace ht16 := of_decide_eq_false ht16
         refine GL.skip rfl rfl rfl ?_
         refine GL.skip rfl rfl rfl ?_
         refine GL.gives rfl rfl rfl (Gives.pickF rfl rfl rfl rfl) ?_
         refine GL.gives rfl rfl rfl (Gives.pickF rfl rfl rfl rfl) ?_
         refine GL.gives rfl rfl rfl (Gives.assign rfl rfl) ?_
         refine GL.nil ?_
         refine GQ.thenN ?_
         refine GC.ret ?_
         refine GQ.ret1 (.inl rfl) rfl rfl ?_
         intro w hs
         refine ⟨(), retb ?_, trivial, hs⟩
         unfold isLet
         first | rfl | exact (decide_eq_true (by omega)).symm | exact (decide_eq_false (by omega)).symm | exact decide_eq_decide.2 (by omega) | (rw [dec_beq]; exact decide_eq_decide.2 (by omega))
   ·
     replace ht8 := of_decide_eq_false ht8
     refine GL.skip rfl rfl rfl ?_
     refine GL.skip rfl rfl rfl ?_
     refine GL.gives rfl rfl rfl (Gives.pickF rfl rfl rfl rfl) ?_
     refine GL.gives rfl rfl rfl (Gives.pickF rfl rfl rfl rfl) ?_
     refine GL.gives rfl rfl rfl (Gives.move rfl rfl) ?_
     refine GL.gives rfl rfl rfl (Gives.move rfl rfl) ?_
     refine GL.gives rfl rfl rfl (Gives.geq rfl rfl rfl) ?_
     refine GL.gives rfl rfl rfl (Gives.move rfl rfl) ?_
     refine GL.split (t := 16) rfl (fun ht16 => ?_) (fun ht16 => ?_)
     ·
       replace ht16 := of_decide_eq_true ht16
       refine GL.gives rfl rfl rfl (Gives.move rfl rfl) ?_
       refine GL.gives rfl rfl rfl (Gives.leq rfl rfl rfl) ?_
       refine GL.gives rfl rfl rfl (Gives.pickT rfl rfl rfl rfl) ?_
       refine GL.gives rfl rfl rfl (Gives.pickF rfl rfl rfl rfl) ?_
       refine GL.gives rfl rfl rfl (Gives.assign rfl rfl) ?_
       refine GL.nil ?_
       refine GQ.thenN ?_
       refine GC.ret ?_
       refine GQ.ret1 (.inl rfl) rfl rfl ?_
       intro w hs
       refine ⟨(), retb ?_, trivial, hs⟩
       unfold isLet
       first | rfl | exact (decide_eq_true (by omega)).symm | exact (decide_eq_false (by omega)).symm | exact decide_eq_decide.2 (by omega) | (rw [dec_beq]; exact decide_eq_decide.2 (by omega))
     ·
       replace ht16 := of_decide_eq_false ht16
       refine GL.skip rfl rfl rfl ?_
       refine GL.skip rfl rfl rfl ?_
       refine GL.gives rfl rfl rfl (Gives.pickF rfl rfl rfl rfl) ?_
       refine GL.gives rfl rfl rfl (Gives.pickF rfl rfl rfl rfl) ?_
       refine GL.gives rfl rfl rfl (Gives.assign rfl rfl) ?_
       refine GL.nil ?_
       refine GQ.thenN ?_
       refine GC.ret ?_
       refine GQ.ret1 (.inl rfl) rfl rfl ?_
       intro w hs
       refine ⟨(), retb ?_, trivial, hs⟩
       unfold isLet
       first | rfl | exact (decide_eq_true (by omega)).symm | exact (decide_eq_false (by omega)).symm | exact decide_eq_decide.2 (by omega) | (rw [dec_beq]; exact decide_eq_decide.2 (by omega))

set_option maxRecDepth 100000 in
set_option maxHeartbeats 1000000 in
theorem named_con (s : ByteArray) (hz : s.size ≤ 9223372036854775806) (S : World → Prop) : Con Try.prog 55 [.string s] S [] (fun r : Int => .int .i64 r) (fun r => Stop s r) (fun _ => []) := by
 intro w F0 _ hs hlt
 refine enter (args := [.string s]) Try.func55 rfl rfl rfl hs ?_
 refine GC.seq ?_
 refine GC.region ?_
 refine GL.gives rfl rfl rfl (Gives.assign rfl rfl) ?_
 refine GL.nil ?_
 refine GQ.thenN ?_
 refine GC.seq ?_
 refine GC.seq ?_
 refine GC.region ?_
 refine GL.gives rfl rfl rfl (Gives.move rfl rfl) ?_
 refine GL.gives rfl rfl rfl (Gives.eqs rfl rfl rfl) ?_
 refine GL.gives rfl rfl rfl (Gives.move rfl rfl) ?_
 refine GL.split (t := 6) rfl (fun h6 => ?_) (fun h6 => ?_)
 ·
   have hn := str_eq.1 h6
   refine GL.skip rfl rfl rfl ?_
   refine GL.skip rfl rfl rfl ?_
   refine GL.skip rfl rfl rfl ?_
   refine GL.skip rfl rfl rfl ?_
   refine GL.gives rfl rfl rfl (Gives.pickT rfl rfl rfl rfl) ?_
   refine GL.nil ?_
   refine GQ.thenN ?_
   refine GC.condT rfl rfl ?_
   refine GC.seq ?_
   refine GC.region ?_
   refine GL.gives rfl rfl rfl (Gives.assign rfl rfl) ?_
   refine GL.nil ?_
   refine GQ.thenN ?_
   refine GC.ret ?_
   refine GQ.thenR ?_
   refine GQ.ret1 (.inl rfl) rfl rfl ?_
   intro w hs
   exact ⟨0, rfl, ⟨⟨by omega, by omega⟩, fun i h0 h1 => by omega, fun hlt => by rw [hn] at hlt; exact absurd hlt (by decide)⟩, hs⟩
 ·
   have hn := size_pos (str_ne h6)
   refine GL.gives rfl rfl rfl (Gives.move rfl rfl) ?_
   refine GL.gives rfl rfl rfl (Gives.index rfl rfl rfl Try.underlying9 (Int.le_refl _) (by omega)) ?_
   refine GL.does [] rfl rfl rfl rfl (Does.call rfl rfl Try.func65 rfl rfl (word_Letter_con (byteAt s 0) _)) fun _ _ => ?_
   refine GL.gives rfl rfl rfl (Gives.not rfl rfl) ?_
   refine GL.gives rfl rfl rfl (Gives.pickF rfl rfl rfl rfl) ?_
   refine GL.nil ?_
   refine GQ.thenN ?_
   refine GC.split (t := 11) rfl (fun h11 => ?_) (fun h11 => ?_)
   ·
     replace h11 := by simpa using h11
     refine GC.condT rfl rfl ?_
     refine GC.seq ?_
     refine GC.region ?_
     refine GL.gives rfl rfl rfl (Gives.assign rfl rfl) ?_
     refine GL.nil ?_
     refine GQ.thenN ?_
     refine GC.ret ?_
     refine GQ.thenR ?_
     refine GQ.ret1 (.inl rfl) rfl rfl ?_
     intro w hs
     exact ⟨0, rfl, ⟨⟨by omega, by omega⟩, fun i h0 h1 => by omega, fun hlt => fun hk => hk.elim (fun hl => by simp [hl] at h11) (fun hd => by omega)⟩, hs⟩
   ·
     replace h11 := by simpa using h11
     refine GC.condF rfl rfl ?_
     refine GC.skip ?_
     refine GQ.thenN ?_
     refine GC.seq ?_
     refine GC.region ?_
     refine GL.gives rfl rfl rfl (Gives.assign rfl rfl) ?_
     refine GL.nil ?_
     refine GQ.thenN ?_
     refine GC.seq ?_
     refine GC.block ?_
     have hok0 : okAt s 0 := .inl (by simpa using h11)
     refine GC.loop (σ := Int) (fun k => [(0, .string s), (3, .int .i64 k)]) (fun _ => []) (fun k => (1 ≤ k ∧ k ≤ s.size) ∧ Pre s k) (fun k => (s.size - k).toNat) 1 [] ⟨⟨by omega, by omega⟩, pre_one hok0⟩ ⟨rfl, rfl, trivial⟩ rfl ?_
     rintro k ⟨⟨hk0, hk1⟩, hp⟩
     refine GC.seq ?_
     refine GC.seq ?_
     refine GC.region ?_
     refine GL.gives rfl rfl rfl (Gives.move rfl rfl) ?_
     refine GL.gives rfl rfl rfl (Gives.move rfl rfl) ?_
     refine GL.gives rfl rfl rfl (Gives.lens rfl rfl Try.underlying9) ?_
     refine GL.gives rfl rfl rfl (Gives.lss rfl rfl rfl) ?_
     refine GL.gives rfl rfl rfl (Gives.move rfl rfl) ?_
     refine GL.split (t := 16) rfl (fun h16 => ?_) (fun h16 => ?_)
     ·
       replace h16 := of_decide_eq_true h16
       refine GL.gives rfl rfl rfl (Gives.move rfl rfl) ?_
       refine GL.gives rfl rfl rfl (Gives.move rfl rfl) ?_
       refine GL.gives rfl rfl rfl (Gives.index rfl rfl rfl Try.underlying9 (by omega) (by omega)) ?_
       refine GL.does [] rfl rfl rfl rfl (Does.call rfl rfl Try.func65 rfl rfl (word_Letter_con (byteAt s k) _)) fun _ _ => ?_
       refine GL.gives rfl rfl rfl (Gives.move rfl rfl) ?_
       refine GL.split (t := 21) rfl (fun h21 => ?_) (fun h21 => ?_)
       ·
         have _ := h21
         refine GL.skip rfl rfl rfl ?_
         refine GL.skip rfl rfl rfl ?_
         refine GL.skip rfl rfl rfl ?_
         refine GL.skip rfl rfl rfl ?_
         refine GL.gives rfl rfl rfl (Gives.pickT rfl rfl rfl rfl) ?_
         refine GL.gives rfl rfl rfl (Gives.pickT rfl rfl rfl rfl) ?_
         refine GL.nil ?_
         refine GQ.thenN ?_
         refine GC.condT rfl rfl ?_
         refine GC.skip ?_
         refine GQ.thenN ?_
         refine GC.block ?_
         refine GC.region ?_
         refine GL.gives rfl rfl rfl (Gives.move rfl rfl) ?_
         refine GL.gives rfl rfl rfl (Gives.add rfl rfl rfl (by omega)) ?_
         refine GL.gives rfl rfl rfl (Gives.assign rfl rfl) ?_
         refine GL.nil ?_
         refine GQ.blkN ?_
         refine GQ.back (k + 1) [] ⟨⟨by omega, by omega⟩, fun i h0 h1 => ?_⟩ (by omega) ⟨rfl, rfl, trivial⟩ rfl
         by_cases hik : i = k
         · subst hik; first | exact .inl h21 | exact .inr ⟨by omega, by assumption⟩
         · exact hp i h0 (by omega)
       ·
         have _ := h21
         refine GL.gives rfl rfl rfl (Gives.move rfl rfl) ?_
         refine GL.gives rfl rfl rfl (Gives.move rfl rfl) ?_
         refine GL.gives rfl rfl rfl (Gives.index rfl rfl rfl Try.underlying9 (by omega) (by omega)) ?_
         refine GL.does [] rfl rfl rfl rfl (Does.call rfl rfl Try.func30 rfl rfl (word_Digit_con (byteAt s k) _)) fun _ _ => ?_
         refine GL.gives rfl rfl rfl (Gives.pickF rfl rfl rfl rfl) ?_
         refine GL.gives rfl rfl rfl (Gives.pickT rfl rfl rfl rfl) ?_
         refine GL.nil ?_
         refine GQ.thenN ?_
         refine GC.split (t := 27) rfl (fun h27 => ?_) (fun h27 => ?_)
         ·
           have _ := h27
           refine GC.condT rfl rfl ?_
           refine GC.skip ?_
           refine GQ.thenN ?_
           refine GC.block ?_
           refine GC.region ?_
           refine GL.gives rfl rfl rfl (Gives.move rfl rfl) ?_
           refine GL.gives rfl rfl rfl (Gives.add rfl rfl rfl (by omega)) ?_
           refine GL.gives rfl rfl rfl (Gives.assign rfl rfl) ?_
           refine GL.nil ?_
           refine GQ.blkN ?_
           refine GQ.back (k + 1) [] ⟨⟨by omega, by omega⟩, fun i h0 h1 => ?_⟩ (by omega) ⟨rfl, rfl, trivial⟩ rfl
           by_cases hik : i = k
           · subst hik; first | exact .inl h21 | exact .inr ⟨by omega, by assumption⟩
           · exact hp i h0 (by omega)
         ·
           have _ := h27
           refine GC.condF rfl rfl ?_
           refine GC.exit ?_
           refine GQ.thenX ?_
           refine GQ.thenX ?_
           refine GQ.blkX ?_
           refine GQ.thenN ?_
           refine GC.seq ?_
           refine GC.region ?_
           refine GL.gives rfl rfl rfl (Gives.move rfl rfl) ?_
           refine GL.gives rfl rfl rfl (Gives.assign rfl rfl) ?_
           refine GL.nil ?_
           refine GQ.thenN ?_
           refine GC.ret ?_
           refine GQ.ret1 (.inl rfl) rfl rfl ?_
           intro w hs
           refine ⟨k, rfl, ⟨⟨by omega, by omega⟩, hp, fun hlt => ?_⟩, hs⟩
           rintro (hl | ⟨_, hd⟩)
           all_goals first | omega | simp_all
     ·
       replace h16 := of_decide_eq_false h16
       refine GL.skip rfl rfl rfl ?_
       refine GL.skip rfl rfl rfl ?_
       refine GL.skip rfl rfl rfl ?_
       refine GL.skip rfl rfl rfl ?_
       refine GL.skip rfl rfl rfl ?_
       refine GL.skip rfl rfl rfl ?_
       refine GL.skip rfl rfl rfl ?_
       refine GL.skip rfl rfl rfl ?_
       refine GL.skip rfl rfl rfl ?_
       refine GL.skip rfl rfl rfl ?_
       refine GL.gives rfl rfl rfl (Gives.pickF rfl rfl rfl rfl) ?_
       refine GL.nil ?_
       refine GQ.thenN ?_
       refine GC.condF rfl rfl ?_
       refine GC.exit ?_
       refine GQ.thenX ?_
       refine GQ.thenX ?_
       refine GQ.blkX ?_
       refine GQ.thenN ?_
       refine GC.seq ?_
       refine GC.region ?_
       refine GL.gives rfl rfl rfl (Gives.move rfl rfl) ?_
       refine GL.gives rfl rfl rfl (Gives.assign rfl rfl) ?_
       refine GL.nil ?_
       refine GQ.thenN ?_
       refine GC.ret ?_
       refine GQ.ret1 (.inl rfl) rfl rfl ?_
       intro w hs
       refine ⟨k, rfl, ⟨⟨by omega, by omega⟩, hp, fun hlt => ?_⟩, hs⟩
       rintro (hl | ⟨_, hd⟩)
       all_goals first | omega | simp_all

set_option maxRecDepth 100000 in
set_option maxHeartbeats 1000000 in
theorem nameAt_con (s : ByteArray) (hz : s.size ≤ 9223372036854775806) (S : World → Prop) : Con Try.prog 41 [.string s, .int .i64 0] S [] (fun r : Int => .int .i64 r) (fun r => Stop s r) (fun _ => []) := by
 intro w F0 _ hs hlt
 refine enter (args := [.string s, .int .i64 0]) Try.func41 rfl rfl rfl hs ?_
 refine GC.seq ?_
 refine GC.region ?_
 refine GL.gives rfl rfl rfl (Gives.assign rfl rfl) ?_
 refine GL.nil ?_
 refine GQ.thenN ?_
 refine GC.seq ?_
 refine GC.region ?_
 refine GL.gives rfl rfl rfl (Gives.assign rfl rfl) ?_
 refine GL.nil ?_
 refine GQ.thenN ?_
 refine GC.seq ?_
 refine GC.block ?_
 refine GC.loop (σ := Int) (fun k => [(0, .string s), (1, .int .i64 0), (5, .int .i64 k)]) (fun _ => []) (fun k => (0 ≤ k ∧ k ≤ s.size) ∧ Pre s k) (fun k => (s.size - k).toNat) 0 [] ⟨⟨by omega, by omega⟩, fun i h0 h1 => by omega⟩ ⟨rfl, rfl, rfl, trivial⟩ rfl ?_
 rintro k ⟨⟨hk0, hk1⟩, hp⟩
 refine GC.seq ?_
 refine GC.seq ?_
 refine GC.region ?_
 refine GL.gives rfl rfl rfl (Gives.move rfl rfl) ?_
 refine GL.gives rfl rfl rfl (Gives.move rfl rfl) ?_
 refine GL.gives rfl rfl rfl (Gives.add rfl rfl rfl (by omega)) ?_
 refine GL.gives rfl rfl rfl (Gives.move rfl rfl) ?_
 refine GL.gives rfl rfl rfl (Gives.lens rfl rfl Try.underlying9) ?_
 refine GL.gives rfl rfl rfl (Gives.lss rfl rfl rfl) ?_
 refine GL.gives rfl rfl rfl (Gives.move rfl rfl) ?_
 refine GL.split (t := 12) rfl (fun h12 => ?_) (fun h12 => ?_)
 ·
   replace h12 := of_decide_eq_true h12
   refine GL.gives rfl rfl rfl (Gives.move rfl rfl) ?_
   refine GL.gives rfl rfl rfl (Gives.move rfl rfl) ?_
   refine GL.gives rfl rfl rfl (Gives.move rfl rfl) ?_
   refine GL.gives rfl rfl rfl (Gives.add rfl rfl rfl (by omega)) ?_
   refine GL.gives rfl rfl rfl (Gives.index rfl rfl rfl Try.underlying9 (by omega) (by omega)) ?_
   refine GL.does [] rfl rfl rfl rfl (Does.call rfl rfl Try.func58 rfl rfl (ref_Letter_con (byteAt s (0 + k)) _)) fun _ _ => ?_
   refine GL.gives rfl rfl rfl (Gives.move rfl rfl) ?_
   refine GL.split (t := 19) rfl (fun h19 => ?_) (fun h19 => ?_)
   ·
     have _ := h19
     refine GL.skip rfl rfl rfl ?_
     refine GL.skip rfl rfl rfl ?_
     refine GL.skip rfl rfl rfl ?_
     refine GL.skip rfl rfl rfl ?_
     refine GL.skip rfl rfl rfl ?_
     refine GL.skip rfl rfl rfl ?_
     refine GL.skip rfl rfl rfl ?_
     refine GL.skip rfl rfl rfl ?_
     refine GL.skip rfl rfl rfl ?_
     refine GL.skip rfl rfl rfl ?_
     refine GL.gives rfl rfl rfl (Gives.pickT rfl rfl rfl rfl) ?_
     refine GL.gives rfl rfl rfl (Gives.pickT rfl rfl rfl rfl) ?_
     refine GL.nil ?_
     refine GQ.thenN ?_
     refine GC.condT rfl rfl ?_
     refine GC.skip ?_
     refine GQ.thenN ?_
     refine GC.block ?_
     refine GC.region ?_
     refine GL.gives rfl rfl rfl (Gives.move rfl rfl) ?_
     refine GL.gives rfl rfl rfl (Gives.add rfl rfl rfl (by omega)) ?_
     refine GL.gives rfl rfl rfl (Gives.assign rfl rfl) ?_
     refine GL.nil ?_
     refine GQ.blkN ?_
     refine GQ.back (k + 1) [] ⟨⟨by omega, by omega⟩, fun i h0 h1 => ?_⟩ (by omega) ⟨rfl, rfl, rfl, trivial⟩ rfl
     by_cases hik : i = k
     · subst hik; first | exact .inl (by simpa using h19) | exact .inr ⟨by omega, by simp_all⟩
     · exact hp i h0 (by omega)
   ·
     have _ := h19
     refine GL.gives rfl rfl rfl (Gives.move rfl rfl) ?_
     refine GL.gives rfl rfl rfl (Gives.gtr rfl rfl rfl) ?_
     refine GL.gives rfl rfl rfl (Gives.move rfl rfl) ?_
     refine GL.split (t := 22) rfl (fun h22 => ?_) (fun h22 => ?_)
     ·
       replace h22 := of_decide_eq_true h22
       refine GL.gives rfl rfl rfl (Gives.move rfl rfl) ?_
       refine GL.gives rfl rfl rfl (Gives.move rfl rfl) ?_
       refine GL.gives rfl rfl rfl (Gives.move rfl rfl) ?_
       refine GL.gives rfl rfl rfl (Gives.add rfl rfl rfl (by omega)) ?_
       refine GL.gives rfl rfl rfl (Gives.index rfl rfl rfl Try.underlying9 (by omega) (by omega)) ?_
       refine GL.does [] rfl rfl rfl rfl (Does.call rfl rfl Try.func35 rfl rfl (ref_Digit_con (byteAt s (0 + k)) _)) fun _ _ => ?_
       refine GL.gives rfl rfl rfl (Gives.pickT rfl rfl rfl rfl) ?_
       refine GL.gives rfl rfl rfl (Gives.pickF rfl rfl rfl rfl) ?_
       refine GL.gives rfl rfl rfl (Gives.pickT rfl rfl rfl rfl) ?_
       refine GL.nil ?_
       refine GQ.thenN ?_
       refine GC.split (t := 31) rfl (fun h31 => ?_) (fun h31 => ?_)
       ·
         have _ := h31
         refine GC.condT rfl rfl ?_
         refine GC.skip ?_
         refine GQ.thenN ?_
         refine GC.block ?_
         refine GC.region ?_
         refine GL.gives rfl rfl rfl (Gives.move rfl rfl) ?_
         refine GL.gives rfl rfl rfl (Gives.add rfl rfl rfl (by omega)) ?_
         refine GL.gives rfl rfl rfl (Gives.assign rfl rfl) ?_
         refine GL.nil ?_
         refine GQ.blkN ?_
         refine GQ.back (k + 1) [] ⟨⟨by omega, by omega⟩, fun i h0 h1 => ?_⟩ (by omega) ⟨rfl, rfl, rfl, trivial⟩ rfl
         by_cases hik : i = k
         · subst hik; first | exact .inl (by simpa using h19) | exact .inr ⟨by omega, by simp_all⟩
         · exact hp i h0 (by omega)
       ·
         have _ := h31
         refine GC.condF rfl rfl ?_
         refine GC.exit ?_
         refine GQ.thenX ?_
         refine GQ.thenX ?_
         refine GQ.blkX ?_
         refine GQ.thenN ?_
         refine GC.seq ?_
         refine GC.region ?_
         refine GL.gives rfl rfl rfl (Gives.move rfl rfl) ?_
         refine GL.gives rfl rfl rfl (Gives.assign rfl rfl) ?_
         refine GL.nil ?_
         refine GQ.thenN ?_
         refine GC.ret ?_
         refine GQ.ret1 (.inl rfl) rfl rfl ?_
         intro w hs
         refine ⟨k, rfl, ⟨⟨by omega, by omega⟩, hp, fun hlt => ?_⟩, hs⟩
         rintro (hl | ⟨_, hd⟩)
         all_goals first | omega | simp_all
     ·
       replace h22 := of_decide_eq_false h22
       refine GL.skip rfl rfl rfl ?_
       refine GL.skip rfl rfl rfl ?_
       refine GL.skip rfl rfl rfl ?_
       refine GL.skip rfl rfl rfl ?_
       refine GL.skip rfl rfl rfl ?_
       refine GL.skip rfl rfl rfl ?_
       refine GL.gives rfl rfl rfl (Gives.pickF rfl rfl rfl rfl) ?_
       refine GL.gives rfl rfl rfl (Gives.pickF rfl rfl rfl rfl) ?_
       refine GL.gives rfl rfl rfl (Gives.pickT rfl rfl rfl rfl) ?_
       refine GL.nil ?_
       refine GQ.thenN ?_
       refine GC.condF rfl rfl ?_
       refine GC.exit ?_
       refine GQ.thenX ?_
       refine GQ.thenX ?_
       refine GQ.blkX ?_
       refine GQ.thenN ?_
       refine GC.seq ?_
       refine GC.region ?_
       refine GL.gives rfl rfl rfl (Gives.move rfl rfl) ?_
       refine GL.gives rfl rfl rfl (Gives.assign rfl rfl) ?_
       refine GL.nil ?_
       refine GQ.thenN ?_
       refine GC.ret ?_
       refine GQ.ret1 (.inl rfl) rfl rfl ?_
       intro w hs
       refine ⟨k, rfl, ⟨⟨by omega, by omega⟩, hp, fun hlt => ?_⟩, hs⟩
       rintro (hl | ⟨_, hd⟩)
       all_goals first | omega | simp_all
 ·
   replace h12 := of_decide_eq_false h12
   refine GL.skip rfl rfl rfl ?_
   refine GL.skip rfl rfl rfl ?_
   refine GL.skip rfl rfl rfl ?_
   refine GL.skip rfl rfl rfl ?_
   refine GL.skip rfl rfl rfl ?_
   refine GL.skip rfl rfl rfl ?_
   refine GL.skip rfl rfl rfl ?_
   refine GL.skip rfl rfl rfl ?_
   refine GL.skip rfl rfl rfl ?_
   refine GL.skip rfl rfl rfl ?_
   refine GL.skip rfl rfl rfl ?_
   refine GL.skip rfl rfl rfl ?_
   refine GL.skip rfl rfl rfl ?_
   refine GL.skip rfl rfl rfl ?_
   refine GL.skip rfl rfl rfl ?_
   refine GL.skip rfl rfl rfl ?_
   refine GL.skip rfl rfl rfl ?_
   refine GL.skip rfl rfl rfl ?_
   refine GL.gives rfl rfl rfl (Gives.pickF rfl rfl rfl rfl) ?_
   refine GL.nil ?_
   refine GQ.thenN ?_
   refine GC.condF rfl rfl ?_
   refine GC.exit ?_
   refine GQ.thenX ?_
   refine GQ.thenX ?_
   refine GQ.blkX ?_
   refine GQ.thenN ?_
   refine GC.seq ?_
   refine GC.region ?_
   refine GL.gives rfl rfl rfl (Gives.move rfl rfl) ?_
   refine GL.gives rfl rfl rfl (Gives.assign rfl rfl) ?_
   refine GL.nil ?_
   refine GQ.thenN ?_
   refine GC.ret ?_
   refine GQ.ret1 (.inl rfl) rfl rfl ?_
   intro w hs
   refine ⟨k, rfl, ⟨⟨by omega, by omega⟩, hp, fun hlt => ?_⟩, hs⟩
   rintro (hl | ⟨_, hd⟩)
   all_goals first | omega | simp_all

set_option maxRecDepth 100000 in
set_option maxHeartbeats 1000000 in
theorem word_Name_con (s : ByteArray) (S : World → Prop) : Con Try.prog 38 [.string s] S [] (fun _ : Unit => .bool (isName s)) (fun _ => True) (fun _ => []) := by
 intro w F0 _ hs hlt
 refine enter (args := [.string s]) Try.func38 rfl rfl rfl hs ?_
 refine GC.seq ?_
 refine GC.region ?_
 refine GL.gives rfl rfl rfl (Gives.assign rfl rfl) ?_
 refine GL.nil ?_
 refine GQ.thenN ?_
 refine GC.seq ?_
 refine GC.region ?_
 refine GL.gives rfl rfl rfl (Gives.move rfl rfl) ?_
 refine GL.gives rfl rfl rfl (Gives.nes rfl rfl rfl) ?_
 refine GL.gives rfl rfl rfl (Gives.move rfl rfl) ?_
 refine GL.split (t := 5) rfl (fun h5 => ?_) (fun h5 => ?_)
 ·
   have h5' := size_pos (str_neq h5)
   refine GL.gives rfl rfl rfl (Gives.move rfl rfl) ?_
   refine GL.gives rfl rfl rfl (Gives.lens rfl rfl Try.underlying9) ?_
   refine GL.gives rfl rfl rfl (Gives.leq rfl rfl rfl) ?_
   refine GL.gives rfl rfl rfl (Gives.pickT rfl rfl rfl rfl) ?_
   refine GL.gives rfl rfl rfl (Gives.move rfl rfl) ?_
   refine GL.split (t := 10) rfl (fun h10 => ?_) (fun h10 => ?_)
   ·
     replace h10 := of_decide_eq_true h10
     refine GL.gives rfl rfl rfl (Gives.move rfl rfl) ?_
     refine GL.does [] rfl rfl rfl rfl (Does.call rfl rfl Try.func55 rfl rfl (named_con s (by omega) _)) fun r hr => ?_
     refine GL.gives rfl rfl rfl (Gives.move rfl rfl) ?_
     refine GL.gives rfl rfl rfl (Gives.lens rfl rfl Try.underlying9) ?_
     refine GL.gives rfl rfl rfl (Gives.eqi rfl rfl rfl) ?_
     refine GL.gives rfl rfl rfl (Gives.pickT rfl rfl rfl rfl) ?_
     refine GL.gives rfl rfl rfl (Gives.assign rfl rfl) ?_
     refine GL.nil ?_
     refine GQ.thenN ?_
     refine GC.ret ?_
     refine GQ.ret1 (.inl rfl) rfl rfl ?_
     intro w hs
     refine ⟨(), retb ?_, trivial, hs⟩
     first | exact (isName_of hr ⟨by omega, by omega⟩).symm | exact (isName_no (by omega)).symm
   ·
     replace h10 := of_decide_eq_false h10
     refine GL.skip rfl rfl rfl ?_
     refine GL.skip rfl rfl rfl ?_
     refine GL.skip rfl rfl rfl ?_
     refine GL.skip rfl rfl rfl ?_
     refine GL.skip rfl rfl rfl ?_
     refine GL.gives rfl rfl rfl (Gives.pickF rfl rfl rfl rfl) ?_
     refine GL.gives rfl rfl rfl (Gives.assign rfl rfl) ?_
     refine GL.nil ?_
     refine GQ.thenN ?_
     refine GC.ret ?_
     refine GQ.ret1 (.inl rfl) rfl rfl ?_
     intro w hs
     refine ⟨(), retb ?_, trivial, hs⟩
     first | exact (isName_of hr ⟨by omega, by omega⟩).symm | exact (isName_no (by omega)).symm
 ·
   have h5' : s.size = 0 := by rw [str_nne h5]; rfl
   refine GL.skip rfl rfl rfl ?_
   refine GL.skip rfl rfl rfl ?_
   refine GL.skip rfl rfl rfl ?_
   refine GL.gives rfl rfl rfl (Gives.pickF rfl rfl rfl rfl) ?_
   refine GL.gives rfl rfl rfl (Gives.move rfl rfl) ?_
   refine GL.skip rfl rfl rfl ?_
   refine GL.skip rfl rfl rfl ?_
   refine GL.skip rfl rfl rfl ?_
   refine GL.skip rfl rfl rfl ?_
   refine GL.skip rfl rfl rfl ?_
   refine GL.gives rfl rfl rfl (Gives.pickF rfl rfl rfl rfl) ?_
   refine GL.gives rfl rfl rfl (Gives.assign rfl rfl) ?_
   refine GL.nil ?_
   refine GQ.thenN ?_
   refine GC.ret ?_
   refine GQ.ret1 (.inl rfl) rfl rfl ?_
   intro w hs
   refine ⟨(), retb ?_, trivial, hs⟩
   first | exact (isName_of hr ⟨by omega, by omega⟩).symm | exact (isName_no (by omega)).symm

set_option maxRecDepth 100000 in
set_option maxHeartbeats 1000000 in
theorem ref_Name_con (s : ByteArray) (S : World → Prop) : Con Try.prog 18 [.string s] S [] (fun _ : Unit => .bool (isName s)) (fun _ => True) (fun _ => []) := by
 intro w F0 _ hs hlt
 refine enter (args := [.string s]) Try.func18 rfl rfl rfl hs ?_
 refine GC.seq ?_
 refine GC.region ?_
 refine GL.gives rfl rfl rfl (Gives.assign rfl rfl) ?_
 refine GL.nil ?_
 refine GQ.thenN ?_
 refine GC.seq ?_
 refine GC.region ?_
 refine GL.gives rfl rfl rfl (Gives.move rfl rfl) ?_
 refine GL.gives rfl rfl rfl (Gives.lens rfl rfl Try.underlying9) ?_
 refine GL.gives rfl rfl rfl (Gives.gtr rfl rfl rfl) ?_
 refine GL.gives rfl rfl rfl (Gives.move rfl rfl) ?_
 refine GL.split (t := 6) rfl (fun h6 => ?_) (fun h6 => ?_)
 ·
   replace h6 := of_decide_eq_true h6
   refine GL.gives rfl rfl rfl (Gives.move rfl rfl) ?_
   refine GL.gives rfl rfl rfl (Gives.lens rfl rfl Try.underlying9) ?_
   refine GL.gives rfl rfl rfl (Gives.leq rfl rfl rfl) ?_
   refine GL.gives rfl rfl rfl (Gives.pickT rfl rfl rfl rfl) ?_
   refine GL.gives rfl rfl rfl (Gives.move rfl rfl) ?_
   refine GL.split (t := 11) rfl (fun h11 => ?_) (fun h11 => ?_)
   ·
     replace h11 := of_decide_eq_true h11
     refine GL.gives rfl rfl rfl (Gives.move rfl rfl) ?_
     refine GL.does [] rfl rfl rfl rfl (Does.call rfl rfl Try.func41 rfl rfl (nameAt_con s (by omega) _)) fun r hr => ?_
     refine GL.gives rfl rfl rfl (Gives.move rfl rfl) ?_
     refine GL.gives rfl rfl rfl (Gives.lens rfl rfl Try.underlying9) ?_
     refine GL.gives rfl rfl rfl (Gives.eqi rfl rfl rfl) ?_
     refine GL.gives rfl rfl rfl (Gives.pickT rfl rfl rfl rfl) ?_
     refine GL.gives rfl rfl rfl (Gives.assign rfl rfl) ?_
     refine GL.nil ?_
     refine GQ.thenN ?_
     refine GC.ret ?_
     refine GQ.ret1 (.inl rfl) rfl rfl ?_
     intro w hs
     refine ⟨(), retb ?_, trivial, hs⟩
     first | exact (isName_of hr ⟨by omega, by omega⟩).symm | exact (isName_no (by omega)).symm
   ·
     replace h11 := of_decide_eq_false h11
     refine GL.skip rfl rfl rfl ?_
     refine GL.skip rfl rfl rfl ?_
     refine GL.skip rfl rfl rfl ?_
     refine GL.skip rfl rfl rfl ?_
     refine GL.skip rfl rfl rfl ?_
     refine GL.gives rfl rfl rfl (Gives.pickF rfl rfl rfl rfl) ?_
     refine GL.gives rfl rfl rfl (Gives.assign rfl rfl) ?_
     refine GL.nil ?_
     refine GQ.thenN ?_
     refine GC.ret ?_
     refine GQ.ret1 (.inl rfl) rfl rfl ?_
     intro w hs
     refine ⟨(), retb ?_, trivial, hs⟩
     first | exact (isName_of hr ⟨by omega, by omega⟩).symm | exact (isName_no (by omega)).symm
 ·
   replace h6 := of_decide_eq_false h6
   refine GL.skip rfl rfl rfl ?_
   refine GL.skip rfl rfl rfl ?_
   refine GL.skip rfl rfl rfl ?_
   refine GL.gives rfl rfl rfl (Gives.pickF rfl rfl rfl rfl) ?_
   refine GL.gives rfl rfl rfl (Gives.move rfl rfl) ?_
   refine GL.skip rfl rfl rfl ?_
   refine GL.skip rfl rfl rfl ?_
   refine GL.skip rfl rfl rfl ?_
   refine GL.skip rfl rfl rfl ?_
   refine GL.skip rfl rfl rfl ?_
   refine GL.gives rfl rfl rfl (Gives.pickF rfl rfl rfl rfl) ?_
   refine GL.gives rfl rfl rfl (Gives.assign rfl rfl) ?_
   refine GL.nil ?_
   refine GQ.thenN ?_
   refine GC.ret ?_
   refine GQ.ret1 (.inl rfl) rfl rfl ?_
   intro w hs
   refine ⟨(), retb ?_, trivial, hs⟩
   first | exact (isName_of hr ⟨by omega, by omega⟩).symm | exact (isName_no (by omega)).symm

end Go.Proofs.Yteckdfgllipilaa.NU
