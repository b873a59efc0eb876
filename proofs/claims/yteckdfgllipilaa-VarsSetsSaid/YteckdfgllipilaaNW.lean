/- Texts as numbers in decimal digits: the program's and the document's. -/
import Derived.Test.YteckdfgllipilaaNV
namespace Go.Proofs.Yteckdfgllipilaa.NW
open Go.RowKit Go.Proofs.YteckdfgllipilaaW.PrintWords Go.Proofs.YteckdfgllipilaaW.PrintLast Go.Proofs.YteckdfgllipilaaS Go.Proofs.Yteckdfgllipilaa.NU Go.Proofs.Yteckdfgllipilaa.NV

/-- What a letter is worth as a decimal digit: at least 10: nothing. -/
def IsVal (c r : Int) : Prop := (r < 10 → 0 ≤ r → c = 48 + r) ∧ (48 ≤ c → c ≤ 57 → r = c - 48)
theorem isVal_dig {c r : Int} (h : IsVal c r) : (0 ≤ r ∧ r < 10) ↔ isDig c = true := by
  rw [isDig_iff]
  constructor
  · rintro ⟨h0, h1⟩; have := h.1 h1 h0; omega
  · rintro ⟨h0, h1⟩; have := h.2 h0 h1; omega
def numTo (s : ByteArray) : Nat → Int
  | 0 => 0
  | k + 1 => numTo s k * 10 + (byteAt s k - 48)
def allDig (s : ByteArray) (k : Nat) : Bool := (List.range k).all fun i => isDig (byteAt s i)
theorem allDig_succ (s : ByteArray) (k : Nat) : allDig s (k + 1) = (allDig s k && isDig (byteAt s k)) := by simp [allDig, List.range_succ]
theorem allDig_at {s : ByteArray} {k : Nat} (h : allDig s k = true) (i : Nat) (hi : i < k) : isDig (byteAt s i) = true := by
  simp [allDig] at h
  exact h i hi
theorem allDig_not {s : ByteArray} {k : Nat} (i : Nat) (hi : i < k) (h : isDig (byteAt s i) = false) : allDig s k = false := by
  rw [← Bool.not_eq_true]
  intro h2
  rw [allDig_at h2 i hi] at h
  cases h
theorem numTo_nonneg {s : ByteArray} : ∀ {k : Nat}, allDig s k = true → 0 ≤ numTo s k
  | 0, _ => by simp [numTo]
  | k + 1, h => by
    rw [allDig_succ, Bool.and_eq_true] at h
    have := numTo_nonneg h.1
    have := isDig_iff.1 h.2
    rw [numTo]
    omega
theorem numTo_mono {s : ByteArray} {n : Nat} (h : allDig s n = true) : ∀ (d k : Nat), k + d = n → numTo s k ≤ numTo s n
  | 0, k, e => by subst e; exact Int.le_refl _
  | d + 1, k, e => by
    refine Int.le_trans ?_ (numTo_mono h d (k + 1) (by omega))
    have h2 := isDig_iff.1 (allDig_at h k (by omega))
    have h3 : allDig s k = true := by
      simp only [allDig, List.all_eq_true, List.mem_range]
      exact fun i hi => allDig_at h i (by omega)
    have := numTo_nonneg h3
    rw [numTo]
    omega
/-- What a text is as a number of decimal digits, at most a greatest one. -/
def rdRes (s : ByteArray) (most : Int) : Int × Int := if s.size = 0 ∨ allDig s s.size = false then (0, 40) else if most < numTo s s.size then (0, 41) else (numTo s s.size, 0)
def lowC (c : Int) : Int := if 65 ≤ c ∧ c ≤ 70 then c + 32 else c
theorem idx_val {c : Int} (h : 0 ≤ c ∧ c ≤ 255) : IsVal c (Lib.indexByte sgn16.data.toList (lowC c).toNat.toUInt8) ∧ -1 ≤ Lib.indexByte sgn16.data.toList (lowC c).toNat.toUInt8 ∧ Lib.indexByte sgn16.data.toList (lowC c).toNat.toUInt8 ≤ 15 := by
  have key : ∀ j : Fin 256, (fun (c r : Int) => decide ((r < 10 → 0 ≤ r → c = 48 + r) ∧ (48 ≤ c → c ≤ 57 → r = c - 48)) && decide (-1 ≤ r ∧ r ≤ 15)) (j.val : Int) (Lib.indexByte sgn16.data.toList (lowC (j.val : Int)).toNat.toUInt8) = true := by decide +kernel
  have := key ⟨c.toNat, by omega⟩
  have hk : ((c.toNat : Nat) : Int) = c := by omega
  simp only [hk, Bool.and_eq_true, decide_eq_true_eq] at this
  exact ⟨this.1, this.2⟩
theorem index_any (s : ByteArray) (c : Int) (w : World) :
    Calls Try.prog 73 #[.string s, .int .u8 c] w fun e w' => e = .returned (.int .i64 (Lib.indexByte s.data.toList c.toNat.toUInt8)) ∧ w = w' := by
  go_enter Try.func73, Try.ntmps73
  go_wp2
  rw [run_callFunc_extern Try.func74 (by kernel_rfl) (by kernel_rfl) (by kernel_rfl) (e := Extern.BytealgIndexByte.indexByte) (by kernel_rfl), Lib.run_indexByteString]
  simp only [Result.andThen]
  rw [Oper.upon_value]
  go_wp2
  go_ret
  exact ⟨rfl, rfl⟩
theorem index1_con (s : ByteArray) (c : Int) (S : World → Prop) : Con Try.prog 73 [.string s, .int .u8 c] S [] (fun _ : Unit => .int .i64 (Lib.indexByte s.data.toList c.toNat.toUInt8)) (fun _ => True) (fun _ => []) := fun w F _ hs _ =>
  (index_any s c w).mono fun e w' h => ⟨(), h.1, trivial, by obtain ⟨_, rfl⟩ := h; exact St.start hs⟩

theorem mixed_ : Try.prog.follows .mixedOrders = true := by kernel_rfl

set_option maxRecDepth 100000 in
set_option maxHeartbeats 1000000 in
theorem index_con (s : ByteArray) (c : Int) (S : World → Prop) : Con Try.prog 70 [.string s, .int .u8 c] S [] (fun _ : Unit => .int .i64 (Lib.indexByte s.data.toList c.toNat.toUInt8)) (fun _ => True) (fun _ => []) := by
 intro w F0 hS hs hlt
 refine enter (args := [.string s, .int .u8 c]) Try.func70 rfl rfl rfl hs ?_
 refine GC.seq ?_
 refine GC.region ?_
 refine GL.gives rfl rfl rfl (Gives.assign rfl rfl) ?_
 refine GL.nil ?_
 refine GQ.thenN ?_
 refine GC.seq ?_
 refine GC.region ?_
 refine GL.gives rfl rfl rfl (Gives.move rfl rfl) ?_
 refine GL.gives rfl rfl rfl (Gives.move rfl rfl) ?_
 refine GL.does [] rfl rfl rfl rfl (Does.call rfl rfl Try.func73 rfl rfl (index1_con s c _)) fun _ _ => ?_
 refine GL.gives rfl rfl rfl (Gives.assign rfl rfl) ?_
 refine GL.nil ?_
 refine GQ.thenN ?_
 refine GC.ret ?_
 refine GQ.ret1 (.inl rfl) rfl rfl ?_
 intro w hs
 exact ⟨(), rfl, trivial, hs⟩

set_option maxRecDepth 100000 in
set_option maxHeartbeats 1000000 in
theorem value_con (c : Int) (hc : 0 ≤ c ∧ c ≤ 255) (S : World → Prop) : Con Try.prog 62 [.int .u8 c] S [] (fun r : Int => .int .i64 r) (fun r => IsVal c r ∧ -1 ≤ r ∧ r ≤ 15) (fun _ => []) := by
 intro w F0 hS hs hlt
 have hv := idx_val hc
 refine enter (args := [.int .u8 c]) Try.func62 rfl rfl rfl hs ?_
 refine GC.seq ?_
 refine GC.region ?_
 refine GL.gives rfl rfl rfl (Gives.assign rfl rfl) ?_
 refine GL.nil ?_
 refine GQ.thenN ?_
 refine GC.seq ?_
 refine GC.seq ?_
 refine GC.region ?_
 refine GL.gives rfl rfl rfl (Gives.move rfl rfl) ?_
 refine GL.gives rfl rfl rfl (Gives.geq rfl rfl rfl) ?_
 refine GL.gives rfl rfl rfl (Gives.move rfl rfl) ?_
 refine GL.split (t := 5) rfl (fun h5 => ?_) (fun h5 => ?_)
 ·
   replace h5 := of_decide_eq_true h5
   refine GL.gives rfl rfl rfl (Gives.move rfl rfl) ?_
   refine GL.gives rfl rfl rfl (Gives.leq rfl rfl rfl) ?_
   refine GL.gives rfl rfl rfl (Gives.pickT rfl rfl rfl rfl) ?_
   refine GL.nil ?_
   refine GQ.thenN ?_
   refine GC.split (t := 8) rfl (fun h8 => ?_) (fun h8 => ?_)
   ·
     replace h8 := of_decide_eq_true h8
     refine GC.condT rfl rfl ?_
     refine GC.region ?_
     refine GL.gives rfl rfl rfl (Gives.move rfl rfl) ?_
     refine GL.gives rfl rfl rfl (Gives.addk rfl rfl rfl (wrap_u8 (by omega))) ?_
     refine GL.gives rfl rfl rfl (Gives.assign rfl rfl) ?_
     refine GL.nil ?_
     refine GQ.thenN ?_
     refine GC.seq ?_
     refine GC.region ?_
     refine GL.gives rfl rfl rfl (Gives.move rfl rfl) ?_
     refine GL.does [] rfl rfl rfl rfl (Does.call rfl rfl Try.func70 rfl rfl (index_con (⟨#[48, 49, 50, 51, 52, 53, 54, 55, 56, 57, 97, 98, 99, 100, 101, 102]⟩ : ByteArray) (c + 32) _)) fun _ _ => ?_
     refine GL.gives rfl rfl rfl (Gives.assign rfl rfl) ?_
     refine GL.nil ?_
     refine GQ.thenN ?_
     refine GC.ret ?_
     refine GQ.ret1 (.inl rfl) rfl rfl ?_
     intro w hs
     have hl : lowC c = c + 32 := by unfold lowC; rw [if_pos (by omega)]
     rw [hl] at hv
     exact ⟨_, rfl, hv, hs⟩
   ·
     replace h8 := of_decide_eq_false h8
     refine GC.condF rfl rfl ?_
     refine GC.skip ?_
     refine GQ.thenN ?_
     refine GC.seq ?_
     refine GC.region ?_
     refine GL.gives rfl rfl rfl (Gives.move rfl rfl) ?_
     refine GL.does [] rfl rfl rfl rfl (Does.call rfl rfl Try.func70 rfl rfl (index_con (⟨#[48, 49, 50, 51, 52, 53, 54, 55, 56, 57, 97, 98, 99, 100, 101, 102]⟩ : ByteArray) c _)) fun _ _ => ?_
     refine GL.gives rfl rfl rfl (Gives.assign rfl rfl) ?_
     refine GL.nil ?_
     refine GQ.thenN ?_
     refine GC.ret ?_
     refine GQ.ret1 (.inl rfl) rfl rfl ?_
     intro w hs
     have hl : lowC c = c := by unfold lowC; rw [if_neg (by omega)]
     rw [hl] at hv
     exact ⟨_, rfl, hv, hs⟩
 ·
   replace h5 := of_decide_eq_false h5
   refine GL.skip rfl rfl rfl ?_
   refine GL.skip rfl rfl rfl ?_
   refine GL.gives rfl rfl rfl (Gives.pickF rfl rfl rfl rfl) ?_
   refine GL.nil ?_
   refine GQ.thenN ?_
   refine GC.condF rfl rfl ?_
   refine GC.skip ?_
   refine GQ.thenN ?_
   refine GC.seq ?_
   refine GC.region ?_
   refine GL.gives rfl rfl rfl (Gives.move rfl rfl) ?_
   refine GL.does [] rfl rfl rfl rfl (Does.call rfl rfl Try.func70 rfl rfl (index_con (⟨#[48, 49, 50, 51, 52, 53, 54, 55, 56, 57, 97, 98, 99, 100, 101, 102]⟩ : ByteArray) c _)) fun _ _ => ?_
   refine GL.gives rfl rfl rfl (Gives.assign rfl rfl) ?_
   refine GL.nil ?_
   refine GQ.thenN ?_
   refine GC.ret ?_
   refine GQ.ret1 (.inl rfl) rfl rfl ?_
   intro w hs
   have hl : lowC c = c := by unfold lowC; rw [if_neg (by omega)]
   rw [hl] at hv
   exact ⟨_, rfl, hv, hs⟩

set_option maxRecDepth 100000 in
set_option maxHeartbeats 1000000 in
theorem digit_con (c : Int) (hc : 0 ≤ c ∧ c ≤ 255) (S : World → Prop) : Con Try.prog 64 [.int .u8 c] S [] (fun r : Int => .int .i64 r) (fun r => IsVal c r ∧ 0 ≤ r ∧ r ≤ 16) (fun _ => []) := by
 intro w F0 hS hs hlt
 refine enter (args := [.int .u8 c]) Try.func64 rfl rfl rfl hs ?_
 refine GC.seq ?_
 refine GC.region ?_
 refine GL.gives rfl rfl rfl (Gives.assign rfl rfl) ?_
 refine GL.nil ?_
 refine GQ.thenN ?_
 refine GC.seq ?_
 refine GC.seq ?_
 refine GC.region ?_
 refine GL.gives rfl rfl rfl (Gives.assign rfl rfl) ?_
 refine GL.nil ?_
 refine GQ.thenN ?_
 refine GC.block ?_
 refine GC.loop (σ := Int) (fun k => [(0, .int .u8 c), (3, .int .i64 k)]) (fun _ => []) (fun k => (0 ≤ k ∧ k ≤ 16) ∧ (c < 48 ∨ 57 < c ∨ k ≤ c - 48)) (fun k => (16 - k).toNat) 0 [] ⟨by omega, by omega⟩ ⟨rfl, rfl, trivial⟩ rfl ?_
 rintro k ⟨⟨hk0, hk1⟩, hp⟩
 refine GC.seq ?_
 refine GC.seq ?_
 refine GC.region ?_
 refine GL.gives rfl rfl rfl (Gives.move rfl rfl) ?_
 refine GL.gives rfl rfl rfl (Gives.lss rfl rfl rfl) ?_
 refine GL.nil ?_
 refine GQ.thenN ?_
 refine GC.split (t := 5) rfl (fun hc5 => ?_) (fun hc5 => ?_)
 ·
   replace hc5 := of_decide_eq_true hc5
   refine GC.condT rfl rfl ?_
   refine GC.skip ?_
   refine GQ.thenN ?_
   refine GC.seq ?_
   refine GC.block ?_
   refine GC.seq ?_
   refine GC.region ?_
   refine GL.gives rfl rfl rfl (Gives.move rfl rfl) ?_
   refine GL.gives rfl rfl rfl (Gives.index rfl rfl rfl Try.underlying9 (by omega) (by show k < 16; omega)) ?_
   refine GL.gives rfl rfl rfl (Gives.move rfl rfl) ?_
   refine GL.gives rfl rfl rfl (Gives.eqi rfl rfl rfl) ?_
   refine GL.gives rfl rfl rfl (Gives.move rfl rfl) ?_
   refine GL.split (t := 12) rfl (fun h12 => ?_) (fun h12 => ?_)
   ·
     replace h12 := by first | exact eq_of_beq h12 | simpa using h12
     refine GL.skip rfl rfl rfl ?_
     refine GL.skip rfl rfl rfl ?_
     refine GL.skip rfl rfl rfl ?_
     refine GL.skip rfl rfl rfl ?_
     refine GL.skip rfl rfl rfl ?_
     refine GL.skip rfl rfl rfl ?_
     refine GL.skip rfl rfl rfl ?_
     refine GL.skip rfl rfl rfl ?_
     refine GL.skip rfl rfl rfl ?_
     refine GL.skip rfl rfl rfl ?_
     refine GL.skip rfl rfl rfl ?_
     refine GL.skip rfl rfl rfl ?_
     refine GL.skip rfl rfl rfl ?_
     refine GL.gives rfl rfl rfl (Gives.pickT rfl rfl rfl rfl) ?_
     refine GL.nil ?_
     refine GQ.thenN ?_
     refine GC.condT rfl rfl ?_
     refine GC.seq ?_
     refine GC.region ?_
     refine GL.gives rfl rfl rfl (Gives.move rfl rfl) ?_
     refine GL.gives rfl rfl rfl (Gives.assign rfl rfl) ?_
     refine GL.nil ?_
     refine GQ.thenN ?_
     refine GC.ret ?_
     refine GQ.blkR ?_
     refine GQ.thenR ?_
     refine GQ.thenR ?_
     refine GQ.blkR ?_
     refine GQ.thenR ?_
     refine GQ.ret1 (.inl rfl) rfl rfl ?_
     intro w hs
     refine ⟨k, rfl, ⟨⟨fun h9 _ => ?_, fun h0 h1 => ?_⟩, by omega, by omega⟩, hs⟩
     · have := sgn_at (k := k) ⟨hk0, h9⟩
       have h12' : byteAt sgn16 k = c := h12
       omega
     · have h12' : byteAt sgn16 k = c := h12
       have := sgn_at (k := k) ⟨hk0, by omega⟩
       omega
   ·
     replace h12 := by first | exact ne_of_beq_false h12 | simpa using h12
     refine GL.gives rfl rfl rfl (Gives.move rfl rfl) ?_
     refine GL.gives rfl rfl rfl (Gives.geq rfl rfl rfl) ?_
     refine GL.gives rfl rfl rfl (Gives.move rfl rfl) ?_
     refine GL.split (t := 15) rfl (fun h15 => ?_) (fun h15 => ?_)
     ·
       replace h15 := of_decide_eq_true h15
       refine GL.gives rfl rfl rfl (Gives.move rfl rfl) ?_
       refine GL.gives rfl rfl rfl (Gives.index rfl rfl rfl Try.underlying9 (by omega) (by show k < 16; omega)) ?_
       refine GL.gives rfl rfl rfl (Gives.move rfl rfl) ?_
       refine GL.gives rfl rfl rfl (Gives.addw rfl rfl rfl) ?_
       refine GL.gives rfl rfl rfl (Gives.eqi rfl rfl rfl) ?_
       refine GL.gives rfl rfl rfl (Gives.pickT rfl rfl rfl rfl) ?_
       refine GL.gives rfl rfl rfl (Gives.move rfl rfl) ?_
       refine GL.split (t := 22) rfl (fun h22 => ?_) (fun h22 => ?_)
       ·
         replace h22 := by first | exact eq_of_beq h22 | simpa using h22
         refine GL.gives rfl rfl rfl (Gives.move rfl rfl) ?_
         refine GL.gives rfl rfl rfl (Gives.lss rfl rfl rfl) ?_
         refine GL.gives rfl rfl rfl (Gives.pickT rfl rfl rfl rfl) ?_
         refine GL.gives rfl rfl rfl (Gives.pickF rfl rfl rfl rfl) ?_
         refine GL.nil ?_
         refine GQ.thenN ?_
         refine GC.split (t := 26) rfl (fun h26 => ?_) (fun h26 => ?_)
         ·
           replace h26 := of_decide_eq_true h26
           refine GC.condT rfl rfl ?_
           refine GC.seq ?_
           refine GC.region ?_
           refine GL.gives rfl rfl rfl (Gives.move rfl rfl) ?_
           refine GL.gives rfl rfl rfl (Gives.assign rfl rfl) ?_
           refine GL.nil ?_
           refine GQ.thenN ?_
           refine GC.ret ?_
           refine GQ.blkR ?_
           refine GQ.thenR ?_
           refine GQ.thenR ?_
           refine GQ.blkR ?_
           refine GQ.thenR ?_
           refine GQ.ret1 (.inl rfl) rfl rfl ?_
           intro w hs
           refine ⟨k, rfl, ⟨⟨fun h9 _ => ?_, fun h0 h1 => ?_⟩, by omega, by omega⟩, hs⟩
           · omega
           · omega
         ·
           replace h26 := of_decide_eq_false h26
           refine GC.condF rfl rfl ?_
           refine GC.skip ?_
           refine GQ.blkN ?_
           refine GQ.thenN ?_
           refine GC.region ?_
           refine GL.gives rfl rfl rfl (Gives.move rfl rfl) ?_
           refine GL.gives rfl rfl rfl (Gives.add rfl rfl rfl (by omega)) ?_
           refine GL.gives rfl rfl rfl (Gives.assign rfl rfl) ?_
           refine GL.nil ?_
           refine GQ.back (k + 1) [] ⟨by omega, ?_⟩ (by omega) ⟨rfl, rfl, trivial⟩ rfl
           by_cases hk9 : k < 10
           · have := sgn_at (k := k) ⟨hk0, hk9⟩
             have h12' : byteAt sgn16 k ≠ c := h12
             omega
           · omega
       ·
         replace h22 := by first | exact ne_of_beq_false h22 | simpa using h22
         refine GL.skip rfl rfl rfl ?_
         refine GL.skip rfl rfl rfl ?_
         refine GL.gives rfl rfl rfl (Gives.pickF rfl rfl rfl rfl) ?_
         refine GL.gives rfl rfl rfl (Gives.pickF rfl rfl rfl rfl) ?_
         refine GL.nil ?_
         refine GQ.thenN ?_
         refine GC.condF rfl rfl ?_
         refine GC.skip ?_
         refine GQ.blkN ?_
         refine GQ.thenN ?_
         refine GC.region ?_
         refine GL.gives rfl rfl rfl (Gives.move rfl rfl) ?_
         refine GL.gives rfl rfl rfl (Gives.add rfl rfl rfl (by omega)) ?_
         refine GL.gives rfl rfl rfl (Gives.assign rfl rfl) ?_
         refine GL.nil ?_
         refine GQ.back (k + 1) [] ⟨by omega, ?_⟩ (by omega) ⟨rfl, rfl, trivial⟩ rfl
         by_cases hk9 : k < 10
         · have := sgn_at (k := k) ⟨hk0, hk9⟩
           have h12' : byteAt sgn16 k ≠ c := h12
           omega
         · omega
     ·
       replace h15 := of_decide_eq_false h15
       refine GL.skip rfl rfl rfl ?_
       refine GL.skip rfl rfl rfl ?_
       refine GL.skip rfl rfl rfl ?_
       refine GL.skip rfl rfl rfl ?_
       refine GL.skip rfl rfl rfl ?_
       refine GL.gives rfl rfl rfl (Gives.pickF rfl rfl rfl rfl) ?_
       refine GL.gives rfl rfl rfl (Gives.move rfl rfl) ?_
       refine GL.skip rfl rfl rfl ?_
       refine GL.skip rfl rfl rfl ?_
       refine GL.gives rfl rfl rfl (Gives.pickF rfl rfl rfl rfl) ?_
       refine GL.gives rfl rfl rfl (Gives.pickF rfl rfl rfl rfl) ?_
       refine GL.nil ?_
       refine GQ.thenN ?_
       refine GC.condF rfl rfl ?_
       refine GC.skip ?_
       refine GQ.blkN ?_
       refine GQ.thenN ?_
       refine GC.region ?_
       refine GL.gives rfl rfl rfl (Gives.move rfl rfl) ?_
       refine GL.gives rfl rfl rfl (Gives.add rfl rfl rfl (by omega)) ?_
       refine GL.gives rfl rfl rfl (Gives.assign rfl rfl) ?_
       refine GL.nil ?_
       refine GQ.back (k + 1) [] ⟨by omega, ?_⟩ (by omega) ⟨rfl, rfl, trivial⟩ rfl
       by_cases hk9 : k < 10
       · have := sgn_at (k := k) ⟨hk0, hk9⟩
         have h12' : byteAt sgn16 k ≠ c := h12
         omega
       · omega
 ·
   replace hc5 := of_decide_eq_false hc5
   refine GC.condF rfl rfl ?_
   refine GC.exit ?_
   refine GQ.thenX ?_
   refine GQ.thenX ?_
   refine GQ.blkX ?_
   refine GQ.thenN ?_
   refine GC.seq ?_
   refine GC.region ?_
   refine GL.gives rfl rfl rfl (Gives.assign rfl rfl) ?_
   refine GL.nil ?_
   refine GQ.thenN ?_
   refine GC.ret ?_
   refine GQ.ret1 (.inl rfl) rfl rfl ?_
   intro w hs
   exact ⟨16, rfl, ⟨⟨fun h9 _ => by omega, fun h0 h1 => by omega⟩, by omega, by omega⟩, hs⟩

set_option maxRecDepth 100000 in
set_option maxHeartbeats 1000000 in
theorem read_con (s : ByteArray) (most : Int) (hm : 16 ≤ most ∧ most ≤ 9223372036854775808) (hz : s.size ≤ 9223372036854775806) (S : World → Prop) : Con Try.prog 49 [.string s, .int .i64 10, .int .u64 most] S [] (fun _ : Unit => .tuple #[.int .u64 (rdRes s most).1, .int .i64 (rdRes s most).2]) (fun _ => True) (fun _ => []) := by
 intro w F0 hS hs hlt
 refine enter (args := [.string s, .int .i64 10, .int .u64 most]) Try.func49 rfl rfl rfl hs ?_
 refine GC.seq ?_
 refine GC.region ?_
 refine GL.gives rfl rfl rfl (Gives.assign rfl rfl) ?_
 refine GL.gives rfl rfl rfl (Gives.assign rfl rfl) ?_
 refine GL.nil ?_
 refine GQ.thenN ?_
 refine GC.seq ?_
 refine GC.seq ?_
 refine GC.region ?_
 refine GL.gives rfl rfl rfl (Gives.move rfl rfl) ?_
 refine GL.gives rfl rfl rfl (Gives.eqs rfl rfl rfl) ?_
 refine GL.nil ?_
 refine GQ.thenN ?_
 refine GC.split (t := 13) rfl (fun h13 => ?_) (fun h13 => ?_)
 ·
   replace h13 := str_eq.1 h13
   refine GC.condT rfl rfl ?_
   refine GC.seq ?_
   refine GC.region ?_
   refine GL.gives rfl rfl rfl (Gives.assign rfl rfl) ?_
   refine GL.gives rfl rfl rfl (Gives.assign rfl rfl) ?_
   refine GL.nil ?_
   refine GQ.thenN ?_
   refine GC.ret ?_
   refine GQ.thenR ?_
   refine GQ.ret2 (.inl rfl) rfl rfl rfl ?_
   intro w hs
   exact ⟨(), by rw [show rdRes s most = (0, 40) from if_pos (.inl (by rw [h13]; rfl))], trivial, hs⟩
 ·
   replace h13 := str_ne h13
   refine GC.condF rfl rfl ?_
   refine GC.skip ?_
   refine GQ.thenN ?_
   refine GC.seq ?_
   refine GC.region ?_
   refine GL.gives rfl rfl rfl (Gives.assign rfl rfl) ?_
   refine GL.gives rfl rfl rfl (Gives.assign rfl rfl) ?_
   refine GL.nil ?_
   refine GQ.thenN ?_
   refine GC.seq ?_
   refine GC.seq ?_
   refine GC.region ?_
   refine GL.gives rfl rfl rfl (Gives.move rfl rfl) ?_
   refine GL.gives rfl rfl rfl (Gives.lens rfl rfl Try.underlying9) ?_
   refine GL.gives rfl rfl rfl (Gives.move rfl rfl) ?_
   refine GL.nil ?_
   refine GQ.thenN ?_
   refine GC.block ?_
   have hpos := size_pos h13
   refine GC.loop (σ := Int × Int × Bool) (fun t => [(0, .string s), (1, .int .i64 10), (2, .int .u64 most), (8, .int .u64 t.2.1), (9, .bool t.2.2), (15, .int .i64 ((s.size : Nat) : Int)), (16, .int .i64 t.1)]) (fun _ => []) (fun t => (0 ≤ t.1 ∧ t.1 ≤ s.size) ∧ allDig s t.1.toNat = true ∧ t.2.2 = decide (most < numTo s t.1.toNat) ∧ (t.2.2 = false → t.2.1 = numTo s t.1.toNat) ∧ 0 ≤ t.2.1 ∧ t.2.1 ≤ 18446744073709551615) (fun t => (s.size - t.1).toNat) (0, 0, false) [] ⟨⟨by omega, by omega⟩, rfl, by simp [numTo]; omega, fun _ => rfl, (by decide : (0 : Int) ≤ 0), (by decide : (0 : Int) ≤ 18446744073709551615)⟩ ⟨rfl, rfl, rfl, rfl, rfl, rfl, rfl, trivial⟩ rfl ?_
   rintro ⟨k, m, over⟩ ⟨⟨hk0, hk1⟩, had, hov, hmn, hm0, hm1⟩
   dsimp only at hk0 hk1 had hov hmn hm0 hm1 ⊢
   have hnn := numTo_nonneg had
   refine GC.seq ?_
   refine GC.region ?_
   refine GL.gives rfl rfl rfl (Gives.lss rfl rfl rfl) ?_
   refine GL.nil ?_
   refine GQ.thenN ?_
   refine GC.seq ?_
   refine GC.split (t := 17) rfl (fun h17 => ?_) (fun h17 => ?_)
   ·
     replace h17 := of_decide_eq_true h17
     refine GC.condT rfl rfl ?_
     refine GC.skip ?_
     refine GQ.thenN ?_
     refine GC.seq ?_
     refine GC.block ?_
     refine GC.seq ?_
     refine GC.region ?_
     refine GL.gives rfl rfl rfl (Gives.move rfl rfl) ?_
     refine GL.gives rfl rfl rfl (Gives.assign rfl rfl) ?_
     refine GL.nil ?_
     refine GQ.thenN ?_
     refine GC.seq ?_
     refine GC.region ?_
     refine GL.gives rfl rfl rfl (Gives.move rfl rfl) ?_
     refine GL.gives rfl rfl rfl (Gives.move rfl rfl) ?_
     refine GL.gives rfl rfl rfl (Gives.index rfl rfl rfl Try.underlying9 (by omega) (by omega)) ?_
     refine GL.does [] rfl rfl rfl rfl (Does.call rfl rfl Try.func62 rfl rfl (value_con (byteAt s k) (byteAt_bd _ _) _)) fun v ⟨hv, hv0, hv1⟩ => ?_
     refine GL.gives rfl rfl rfl (Gives.assign rfl rfl) ?_
     refine GL.nil ?_
     refine GQ.thenN ?_
     refine GC.seq ?_
     refine GC.seq ?_
     refine GC.region ?_
     refine GL.gives rfl rfl rfl (Gives.move rfl rfl) ?_
     refine GL.gives rfl rfl rfl (Gives.lss rfl rfl rfl) ?_
     refine GL.gives rfl rfl rfl (Gives.move rfl rfl) ?_
     refine GL.split (t := 25) rfl (fun h25 => ?_) (fun h25 => ?_)
     ·
       replace h25 := of_decide_eq_true h25
       refine GL.skip rfl rfl rfl ?_
       refine GL.skip rfl rfl rfl ?_
       refine GL.skip rfl rfl rfl ?_
       refine GL.gives rfl rfl rfl (Gives.pickT rfl rfl rfl rfl) ?_
       refine GL.nil ?_
       refine GQ.thenN ?_
       refine GC.condT rfl rfl ?_
       refine GC.seq ?_
       refine GC.region ?_
       refine GL.gives rfl rfl rfl (Gives.assign rfl rfl) ?_
       refine GL.gives rfl rfl rfl (Gives.assign rfl rfl) ?_
       refine GL.nil ?_
       refine GQ.thenN ?_
       refine GC.ret ?_
       refine GQ.thenR ?_
       refine GQ.blkR ?_
       refine GQ.thenR ?_
       refine GQ.thenR ?_
       refine GQ.blkR ?_
       refine GQ.thenR ?_
       refine GQ.ret2 (.inl rfl) rfl rfl rfl ?_
       intro w hs
       have hnd : isDig (byteAt s k) = false := by
         rw [← Bool.not_eq_true, ← isVal_dig hv]; omega
       exact ⟨(), by rw [show rdRes s most = (0, 40) from if_pos (.inr (allDig_not k.toNat (by omega) (by rw [show ((k.toNat : Nat) : Int) = k by omega]; exact hnd)))], trivial, hs⟩
     ·
       replace h25 := of_decide_eq_false h25
       refine GL.gives rfl rfl rfl (Gives.move rfl rfl) ?_
       refine GL.gives rfl rfl rfl (Gives.move rfl rfl) ?_
       refine GL.gives rfl rfl rfl (Gives.geq rfl rfl rfl) ?_
       refine GL.gives rfl rfl rfl (Gives.pickF rfl rfl rfl rfl) ?_
       refine GL.nil ?_
       refine GQ.thenN ?_
       refine GC.split (t := 29) rfl (fun h29 => ?_) (fun h29 => ?_)
       ·
         replace h29 := of_decide_eq_true h29
         refine GC.condT rfl rfl ?_
         refine GC.seq ?_
         refine GC.region ?_
         refine GL.gives rfl rfl rfl (Gives.assign rfl rfl) ?_
         refine GL.gives rfl rfl rfl (Gives.assign rfl rfl) ?_
         refine GL.nil ?_
         refine GQ.thenN ?_
         refine GC.ret ?_
         refine GQ.thenR ?_
         refine GQ.blkR ?_
         refine GQ.thenR ?_
         refine GQ.thenR ?_
         refine GQ.blkR ?_
         refine GQ.thenR ?_
         refine GQ.ret2 (.inl rfl) rfl rfl rfl ?_
         intro w hs
         have hnd : isDig (byteAt s k) = false := by
           rw [← Bool.not_eq_true, ← isVal_dig hv]; omega
         exact ⟨(), by rw [show rdRes s most = (0, 40) from if_pos (.inr (allDig_not k.toNat (by omega) (by rw [show ((k.toNat : Nat) : Int) = k by omega]; exact hnd)))], trivial, hs⟩
       ·
         replace h29 := of_decide_eq_false h29
         refine GC.condF rfl rfl ?_
         refine GC.skip ?_
         refine GQ.thenN ?_
         refine GC.seq ?_
         refine GC.region ?_
         refine GL.gives rfl rfl rfl (Gives.move rfl rfl) ?_
         refine GL.gives rfl rfl rfl (Gives.move rfl rfl) ?_
         refine GL.split (t := 31) rfl (fun h31 => ?_) (fun h31 => ?_)
         ·
           have _ := h31
           refine GL.skip rfl rfl rfl ?_
           refine GL.skip rfl rfl rfl ?_
           refine GL.skip rfl rfl rfl ?_
           refine GL.skip rfl rfl rfl ?_
           refine GL.skip rfl rfl rfl ?_
           refine GL.skip rfl rfl rfl ?_
           refine GL.skip rfl rfl rfl ?_
           refine GL.skip rfl rfl rfl ?_
           refine GL.skip rfl rfl rfl ?_
           refine GL.gives rfl rfl rfl (Gives.pickT rfl rfl rfl rfl) ?_
           refine GL.gives rfl rfl rfl (Gives.assign rfl rfl) ?_
           refine GL.nil ?_
           refine GQ.thenN ?_
           refine GC.region ?_
           refine GL.gives rfl rfl rfl (Gives.move rfl rfl) ?_
           refine GL.gives rfl rfl rfl (Gives.move rfl rfl) ?_
           refine GL.gives rfl rfl rfl (Gives.conv (k := .i64) (k' := .u64) rfl rfl Try.underlying3 Try.underlying79 rfl) ?_
           refine GL.gives rfl rfl rfl (Gives.mulw rfl rfl rfl) ?_
           refine GL.gives rfl rfl rfl (Gives.move rfl rfl) ?_
           refine GL.gives rfl rfl rfl (Gives.conv (k := .i64) (k' := .u64) rfl rfl Try.underlying3 Try.underlying79 (wrap_u64 (by omega))) ?_
           refine GL.gives rfl rfl rfl (Gives.addw rfl rfl rfl) ?_
           refine GL.gives rfl rfl rfl (Gives.assign rfl rfl) ?_
           refine GL.nil ?_
           refine GQ.blkN ?_
           refine GQ.thenN ?_
           refine GC.region ?_
           refine GL.gives rfl rfl rfl (Gives.add rfl rfl rfl (by omega)) ?_
           refine GL.gives rfl rfl rfl (Gives.move rfl rfl) ?_
           refine GL.nil ?_
           have hd : isDig (byteAt s k) = true := (isVal_dig hv).1 ⟨by omega, by omega⟩
           have hd2 := isDig_iff.1 hd
           have hve : v = byteAt s k - 48 := hv.2 hd2.1 hd2.2
           have hk : ((k.toNat : Nat) : Int) = k := by omega
           have hk1' : (k + 1).toNat = k.toNat + 1 := by omega
           have hnum : numTo s (k + 1).toNat = numTo s k.toNat * 10 + (byteAt s k - 48) := by rw [hk1', numTo, hk]
           have had' : allDig s (k + 1).toNat = true := by rw [hk1', allDig_succ, had, hk, hd]; rfl
           have hw : 0 ≤ IntKind.u64.wrap (IntKind.u64.wrap (m * 10) + v) ∧ IntKind.u64.wrap (IntKind.u64.wrap (m * 10) + v) ≤ 18446744073709551615 := by
             have : ∀ x : Int, IntKind.u64.wrap x = x % 18446744073709551616 := fun x => by simp [IntKind.wrap, IntKind.bits, IntKind.signed]
             rw [this]; omega
           refine GQ.back (k + 1, _, true) [] ⟨⟨by dsimp only; omega, by dsimp only; omega⟩, had', ?_, fun h => (by cases h), hw.1, hw.2⟩ (by dsimp only; omega) ⟨rfl, rfl, rfl, rfl, rfl, rfl, rfl, trivial⟩ rfl
           dsimp only
           rw [hnum]
           have : most < numTo s k.toNat := of_decide_eq_true (hov ▸ h31)
           exact (decide_eq_true (by omega)).symm
         ·
           have _ := h31
           refine GL.gives rfl rfl rfl (Gives.move rfl rfl) ?_
           refine GL.gives rfl rfl rfl (Gives.move rfl rfl) ?_
           refine GL.gives rfl rfl rfl (Gives.move rfl rfl) ?_
           refine GL.gives rfl rfl rfl (Gives.conv (k := .i64) (k' := .u64) rfl rfl Try.underlying3 Try.underlying79 (wrap_u64 (by omega))) ?_
           refine GL.gives rfl rfl rfl (Gives.subk rfl rfl rfl (wrap_u64 (by omega))) ?_
           refine GL.gives rfl rfl rfl (Gives.move rfl rfl) ?_
           refine GL.gives rfl rfl rfl (Gives.conv (k := .i64) (k' := .u64) rfl rfl Try.underlying3 Try.underlying79 rfl) ?_
           refine GL.gives rfl rfl rfl (Gives.quok rfl rfl rfl (by omega) (by omega) (wrap_u64 (by omega))) ?_
           refine GL.gives rfl rfl rfl (Gives.gtr rfl rfl rfl) ?_
           refine GL.gives rfl rfl rfl (Gives.pickF rfl rfl rfl rfl) ?_
           refine GL.gives rfl rfl rfl (Gives.assign rfl rfl) ?_
           refine GL.nil ?_
           refine GQ.thenN ?_
           refine GC.region ?_
           refine GL.gives rfl rfl rfl (Gives.move rfl rfl) ?_
           refine GL.gives rfl rfl rfl (Gives.move rfl rfl) ?_
           refine GL.gives rfl rfl rfl (Gives.conv (k := .i64) (k' := .u64) rfl rfl Try.underlying3 Try.underlying79 rfl) ?_
           refine GL.gives rfl rfl rfl (Gives.mulw rfl rfl rfl) ?_
           refine GL.gives rfl rfl rfl (Gives.move rfl rfl) ?_
           refine GL.gives rfl rfl rfl (Gives.conv (k := .i64) (k' := .u64) rfl rfl Try.underlying3 Try.underlying79 (wrap_u64 (by omega))) ?_
           refine GL.gives rfl rfl rfl (Gives.addw rfl rfl rfl) ?_
           refine GL.gives rfl rfl rfl (Gives.assign rfl rfl) ?_
           refine GL.nil ?_
           refine GQ.blkN ?_
           refine GQ.thenN ?_
           refine GC.region ?_
           refine GL.gives rfl rfl rfl (Gives.add rfl rfl rfl (by omega)) ?_
           refine GL.gives rfl rfl rfl (Gives.move rfl rfl) ?_
           refine GL.nil ?_
           have hd : isDig (byteAt s k) = true := (isVal_dig hv).1 ⟨by omega, by omega⟩
           have hd2 := isDig_iff.1 hd
           have hve : v = byteAt s k - 48 := hv.2 hd2.1 hd2.2
           have hk : ((k.toNat : Nat) : Int) = k := by omega
           have hk1' : (k + 1).toNat = k.toNat + 1 := by omega
           have hnum : numTo s (k + 1).toNat = numTo s k.toNat * 10 + (byteAt s k - 48) := by rw [hk1', numTo, hk]
           have had' : allDig s (k + 1).toNat = true := by rw [hk1', allDig_succ, had, hk, hd]; rfl
           have hw : 0 ≤ IntKind.u64.wrap (IntKind.u64.wrap (m * 10) + v) ∧ IntKind.u64.wrap (IntKind.u64.wrap (m * 10) + v) ≤ 18446744073709551615 := by
             have : ∀ x : Int, IntKind.u64.wrap x = x % 18446744073709551616 := fun x => by simp [IntKind.wrap, IntKind.bits, IntKind.signed]
             rw [this]; omega
           have hmk := hmn h31
           have hle : ¬ most < numTo s k.toNat := of_decide_eq_false (hov ▸ h31)
           by_cases hb : (most - v) / 10 < m
           · refine GQ.back (k + 1, _, true) [] ⟨⟨by dsimp only; omega, by dsimp only; omega⟩, had', ?_, fun h => (by cases h), hw.1, hw.2⟩ (by dsimp only; omega) ⟨rfl, rfl, rfl, rfl, (show some (Value.bool _) = some (Value.bool _) from congrArg some (congrArg Value.bool (decide_eq_true hb))), rfl, rfl, trivial⟩ rfl
             dsimp only
             rw [hnum]
             exact (decide_eq_true (by omega)).symm
           · have hw2 : IntKind.u64.wrap (IntKind.u64.wrap (m * 10) + v) = m * 10 + v := by rw [wrap_u64 (x := m * 10) (by omega), wrap_u64 (by omega)]
             refine GQ.back (k + 1, _, false) [] ⟨⟨by dsimp only; omega, by dsimp only; omega⟩, had', ?_, fun _ => ?_, hw.1, hw.2⟩ (by dsimp only; omega) ⟨rfl, rfl, rfl, rfl, (show some (Value.bool _) = some (Value.bool _) from congrArg some (congrArg Value.bool (decide_eq_false hb))), rfl, rfl, trivial⟩ rfl
             · dsimp only
               rw [hnum]
               exact (decide_eq_false (by omega)).symm
             · show IntKind.u64.wrap (IntKind.u64.wrap (m * 10) + v) = numTo s (k + 1).toNat
               rw [hw2, hnum]; omega
   ·
     replace h17 := of_decide_eq_false h17
     refine GC.condF rfl rfl ?_
     refine GC.exit ?_
     refine GQ.thenX ?_
     refine GQ.thenX ?_
     refine GQ.blkX ?_
     refine GQ.thenN ?_
     refine GC.seq ?_
     refine GC.seq ?_
     obtain rfl : k = s.size := by omega
     simp only [Int.toNat_natCast] at had hov hmn
     refine GC.region ?_
     refine GL.gives rfl rfl rfl (Gives.move rfl rfl) ?_
     refine GL.nil ?_
     refine GQ.thenN ?_
     refine GC.split (t := 50) rfl (fun h50 => ?_) (fun h50 => ?_)
     ·
       have hlt_ : most < numTo s s.size := of_decide_eq_true (hov ▸ h50)
       refine GC.condT rfl rfl ?_
       refine GC.seq ?_
       refine GC.region ?_
       refine GL.gives rfl rfl rfl (Gives.assign rfl rfl) ?_
       refine GL.gives rfl rfl rfl (Gives.assign rfl rfl) ?_
       refine GL.nil ?_
       refine GQ.thenN ?_
       refine GC.ret ?_
       refine GQ.thenR ?_
       refine GQ.ret2 (.inl rfl) rfl rfl rfl ?_
       intro w hs
       exact ⟨(), by rw [show rdRes s most = (0, 41) from (if_neg (fun h => h.elim (fun h => by omega) (fun h => by rw [had] at h; cases h))).trans (if_pos hlt_)], trivial, hs⟩
     ·
       have hle : ¬ most < numTo s s.size := of_decide_eq_false (hov ▸ h50)
       refine GC.condF rfl rfl ?_
       refine GC.skip ?_
       refine GQ.thenN ?_
       refine GC.seq ?_
       refine GC.region ?_
       refine GL.gives rfl rfl rfl (Gives.move rfl rfl) ?_
       refine GL.gives rfl rfl rfl (Gives.assign rfl rfl) ?_
       refine GL.gives rfl rfl rfl (Gives.assign rfl rfl) ?_
       refine GL.nil ?_
       refine GQ.thenN ?_
       refine GC.ret ?_
       refine GQ.ret2 (.inl rfl) rfl rfl rfl ?_
       intro w hs
       exact ⟨(), by rw [show rdRes s most = (numTo s s.size, 0) from (if_neg (fun h => h.elim (fun h => by omega) (fun h => by rw [had] at h; cases h))).trans (if_neg hle), hmn h50], trivial, hs⟩

set_option maxRecDepth 100000 in
set_option maxHeartbeats 1000000 in
theorem digits_con (s : ByteArray) (most : Int) (hm : 16 ≤ most ∧ most ≤ 9223372036854775808) (hz : s.size ≤ 9223372036854775806) (S : World → Prop) : Con Try.prog 54 [.string s, .int .i64 10, .int .u64 most] S [] (fun _ : Unit => .tuple #[.int .u64 (rdRes s most).1, .int .i64 (rdRes s most).2]) (fun _ => True) (fun _ => []) := by
 intro w F0 hS hs hlt
 refine enter (args := [.string s, .int .i64 10, .int .u64 most]) Try.func54 rfl rfl rfl hs ?_
 refine GC.seq ?_
 refine GC.region ?_
 refine GL.gives rfl rfl rfl (Gives.assign rfl rfl) ?_
 refine GL.gives rfl rfl rfl (Gives.assign rfl rfl) ?_
 refine GL.nil ?_
 refine GQ.thenN ?_
 refine GC.seq ?_
 refine GC.seq ?_
 refine GC.region ?_
 refine GL.gives rfl rfl rfl (Gives.move rfl rfl) ?_
 refine GL.gives rfl rfl rfl (Gives.lens rfl rfl Try.underlying9) ?_
 refine GL.gives rfl rfl rfl (Gives.eqi rfl rfl rfl) ?_
 refine GL.nil ?_
 refine GQ.thenN ?_
 refine GC.split (t := 14) rfl (fun h14 => ?_) (fun h14 => ?_)
 ·
   replace h14 := by first | exact eq_of_beq h14 | simpa using h14
   refine GC.condT rfl rfl ?_
   refine GC.seq ?_
   refine GC.region ?_
   refine GL.gives rfl rfl rfl (Gives.assign rfl rfl) ?_
   refine GL.gives rfl rfl rfl (Gives.assign rfl rfl) ?_
   refine GL.nil ?_
   refine GQ.thenN ?_
   refine GC.ret ?_
   refine GQ.thenR ?_
   refine GQ.ret2 (.inl rfl) rfl rfl rfl ?_
   intro w hs
   exact ⟨(), by rw [show rdRes s most = (0, 40) from if_pos (.inl (by omega))], trivial, hs⟩
 ·
   replace h14 := by first | exact ne_of_beq_false h14 | simpa using h14
   refine GC.condF rfl rfl ?_
   refine GC.skip ?_
   refine GQ.thenN ?_
   refine GC.seq ?_
   refine GC.seq ?_
   refine GC.region ?_
   refine GL.gives rfl rfl rfl (Gives.assign rfl rfl) ?_
   refine GL.nil ?_
   refine GQ.thenN ?_
   refine GC.block ?_
   refine GC.loop (σ := Int) (fun k => [(0, .string s), (1, .int .i64 10), (2, .int .u64 most), (8, .int .i64 k)]) (fun _ => []) (fun k => (0 ≤ k ∧ k ≤ s.size) ∧ allDig s k.toNat = true) (fun k => (s.size - k).toNat) 0 [] ⟨⟨by omega, by omega⟩, rfl⟩ ⟨rfl, rfl, rfl, rfl, trivial⟩ rfl ?_
   rintro k ⟨⟨hk0, hk1⟩, had⟩
   refine GC.seq ?_
   refine GC.seq ?_
   refine GC.region ?_
   refine GL.gives rfl rfl rfl (Gives.move rfl rfl) ?_
   refine GL.gives rfl rfl rfl (Gives.move rfl rfl) ?_
   refine GL.gives rfl rfl rfl (Gives.lens rfl rfl Try.underlying9) ?_
   refine GL.gives rfl rfl rfl (Gives.lss rfl rfl rfl) ?_
   refine GL.nil ?_
   refine GQ.thenN ?_
   refine GC.split (t := 18) rfl (fun h18 => ?_) (fun h18 => ?_)
   ·
     replace h18 := of_decide_eq_true h18
     refine GC.condT rfl rfl ?_
     refine GC.skip ?_
     refine GQ.thenN ?_
     refine GC.seq ?_
     refine GC.block ?_
     refine GC.seq ?_
     refine GC.region ?_
     refine GL.gives rfl rfl rfl (Gives.move rfl rfl) ?_
     refine GL.gives rfl rfl rfl (Gives.move rfl rfl) ?_
     refine GL.gives rfl rfl rfl (Gives.index rfl rfl rfl Try.underlying9 (by omega) (by omega)) ?_
     refine GL.does [] rfl rfl rfl rfl (Does.call rfl rfl Try.func64 rfl rfl (digit_con (byteAt s k) (byteAt_bd _ _) _)) fun v ⟨hv, hv0, hv1⟩ => ?_
     refine GL.gives rfl rfl rfl (Gives.move rfl rfl) ?_
     refine GL.gives rfl rfl rfl (Gives.geq rfl rfl rfl) ?_
     refine GL.nil ?_
     refine GQ.thenN ?_
     refine GC.split (t := 26) rfl (fun h26 => ?_) (fun h26 => ?_)
     ·
       replace h26 := of_decide_eq_true h26
       refine GC.condT rfl rfl ?_
       refine GC.seq ?_
       refine GC.region ?_
       refine GL.gives rfl rfl rfl (Gives.assign rfl rfl) ?_
       refine GL.gives rfl rfl rfl (Gives.assign rfl rfl) ?_
       refine GL.nil ?_
       refine GQ.thenN ?_
       refine GC.ret ?_
       refine GQ.blkR ?_
       refine GQ.thenR ?_
       refine GQ.thenR ?_
       refine GQ.blkR ?_
       refine GQ.thenR ?_
       refine GQ.ret2 (.inl rfl) rfl rfl rfl ?_
       intro w hs
       have hnd : isDig (byteAt s k) = false := by
         rw [← Bool.not_eq_true, ← isVal_dig hv]; omega
       exact ⟨(), by rw [show rdRes s most = (0, 40) from if_pos (.inr (allDig_not k.toNat (by omega) (by rw [show ((k.toNat : Nat) : Int) = k by omega]; exact hnd)))], trivial, hs⟩
     ·
       replace h26 := of_decide_eq_false h26
       refine GC.condF rfl rfl ?_
       refine GC.skip ?_
       refine GQ.blkN ?_
       refine GQ.thenN ?_
       refine GC.region ?_
       refine GL.gives rfl rfl rfl (Gives.move rfl rfl) ?_
       refine GL.gives rfl rfl rfl (Gives.add rfl rfl rfl (by omega)) ?_
       refine GL.gives rfl rfl rfl (Gives.assign rfl rfl) ?_
       refine GL.nil ?_
       have hd : isDig (byteAt s k) = true := (isVal_dig hv).1 ⟨by omega, by omega⟩
       refine GQ.back (k + 1) [] ⟨⟨by omega, by omega⟩, by rw [show (k + 1).toNat = k.toNat + 1 by omega, allDig_succ, had, show ((k.toNat : Nat) : Int) = k by omega, hd]; rfl⟩ (by omega) ⟨rfl, rfl, rfl, rfl, trivial⟩ rfl
   ·
     replace h18 := of_decide_eq_false h18
     refine GC.condF rfl rfl ?_
     refine GC.exit ?_
     refine GQ.thenX ?_
     refine GQ.thenX ?_
     refine GQ.blkX ?_
     refine GQ.thenN ?_
     refine GC.seq ?_
     refine GC.region ?_
     refine GL.gives rfl rfl rfl (Gives.assign rfl rfl) ?_
     refine GL.nil ?_
     refine GQ.thenN ?_
     refine GC.seq ?_
     refine GC.seq ?_
     refine GC.region ?_
     refine GL.gives rfl rfl rfl (Gives.assign rfl rfl) ?_
     refine GL.nil ?_
     refine GQ.thenN ?_
     refine GC.block ?_
     obtain rfl : k = s.size := by omega
     simp only [Int.toNat_natCast] at had
     refine GC.loop (σ := Int) (fun j => [(0, .string s), (1, .int .i64 10), (2, .int .u64 most), (9, .int .u64 (numTo s j.toNat)), (10, .int .i64 j)]) (fun _ => []) (fun j => (0 ≤ j ∧ j ≤ s.size) ∧ numTo s j.toNat ≤ most) (fun j => (s.size - j).toNat) 0 [] ⟨⟨by omega, by omega⟩, by simp [numTo]; omega⟩ ⟨rfl, rfl, rfl, rfl, rfl, trivial⟩ rfl ?_
     rintro j ⟨⟨hj0, hj1⟩, hle⟩
     have hadj : allDig s j.toNat = true := by
       simp only [allDig, List.all_eq_true, List.mem_range]
       exact fun i hi => allDig_at had i (by omega)
     have hnn := numTo_nonneg hadj
     obtain ⟨m, hm_⟩ : ∃ m, m = numTo s j.toNat := ⟨_, rfl⟩
     rw [← hm_] at hle hnn ⊢
     refine GC.seq ?_
     refine GC.seq ?_
     refine GC.region ?_
     refine GL.gives rfl rfl rfl (Gives.move rfl rfl) ?_
     refine GL.gives rfl rfl rfl (Gives.move rfl rfl) ?_
     refine GL.gives rfl rfl rfl (Gives.lens rfl rfl Try.underlying9) ?_
     refine GL.gives rfl rfl rfl (Gives.lss rfl rfl rfl) ?_
     refine GL.nil ?_
     refine GQ.thenN ?_
     refine GC.split (t := 30) rfl (fun h30 => ?_) (fun h30 => ?_)
     ·
       replace h30 := of_decide_eq_true h30
       refine GC.condT rfl rfl ?_
       refine GC.skip ?_
       refine GQ.thenN ?_
       refine GC.seq ?_
       refine GC.block ?_
       refine GC.seq ?_
       refine GC.region ?_
       refine GL.gives rfl rfl rfl (Gives.move rfl rfl) ?_
       refine GL.gives rfl rfl rfl (Gives.move rfl rfl) ?_
       refine GL.gives rfl rfl rfl (Gives.index rfl rfl rfl Try.underlying9 (by omega) (by omega)) ?_
       refine GL.does [] rfl rfl rfl rfl (Does.call rfl rfl Try.func64 rfl rfl (digit_con (byteAt s j) (byteAt_bd _ _) _)) fun v ⟨hv, hv0, hv1⟩ => ?_
       have hd := allDig_at had j.toNat (by omega)
       rw [show ((j.toNat : Nat) : Int) = j by omega] at hd
       have hd2 := isDig_iff.1 hd
       have hve : v = byteAt s j - 48 := hv.2 hd2.1 hd2.2
       have hnum : numTo s (j + 1).toNat = m * 10 + (byteAt s j - 48) := by rw [show (j + 1).toNat = j.toNat + 1 by omega, numTo, ← hm_, show ((j.toNat : Nat) : Int) = j by omega]
       refine GL.gives rfl rfl rfl (Gives.conv (k := .i64) (k' := .u64) rfl rfl Try.underlying3 Try.underlying79 (wrap_u64 (by omega))) ?_
       refine GL.gives rfl rfl rfl (Gives.assign rfl rfl) ?_
       refine GL.nil ?_
       refine GQ.thenN ?_
       refine GC.seq ?_
       refine GC.seq ?_
       refine GC.region ?_
       refine GL.gives rfl rfl rfl (Gives.move rfl rfl) ?_
       refine GL.gives rfl rfl rfl (Gives.move rfl rfl) ?_
       refine GL.gives rfl rfl rfl (Gives.move rfl rfl) ?_
       refine GL.gives rfl rfl rfl (Gives.conv (k := .i64) (k' := .u64) rfl rfl Try.underlying3 Try.underlying79 rfl) ?_
       refine GL.gives rfl rfl rfl (Gives.quok rfl rfl rfl (by omega) (by omega) (wrap_u64 (by omega))) ?_
       refine GL.gives rfl rfl rfl (Gives.gtr rfl rfl rfl) ?_
       refine GL.gives rfl rfl rfl (Gives.move rfl rfl) ?_
       refine GL.split (t := 44) rfl (fun h44 => ?_) (fun h44 => ?_)
       ·
         replace h44 := of_decide_eq_true h44
         refine GL.skip rfl rfl rfl ?_
         refine GL.skip rfl rfl rfl ?_
         refine GL.skip rfl rfl rfl ?_
         refine GL.skip rfl rfl rfl ?_
         refine GL.skip rfl rfl rfl ?_
         refine GL.skip rfl rfl rfl ?_
         refine GL.skip rfl rfl rfl ?_
         refine GL.skip rfl rfl rfl ?_
         refine GL.gives rfl rfl rfl (Gives.pickT rfl rfl rfl rfl) ?_
         refine GL.nil ?_
         refine GQ.thenN ?_
         refine GC.condT rfl rfl ?_
         refine GC.seq ?_
         refine GC.region ?_
         refine GL.gives rfl rfl rfl (Gives.assign rfl rfl) ?_
         refine GL.gives rfl rfl rfl (Gives.assign rfl rfl) ?_
         refine GL.nil ?_
         refine GQ.thenN ?_
         refine GC.ret ?_
         refine GQ.thenR ?_
         refine GQ.blkR ?_
         refine GQ.thenR ?_
         refine GQ.thenR ?_
         refine GQ.blkR ?_
         refine GQ.thenR ?_
         refine GQ.ret2 (.inl rfl) rfl rfl rfl ?_
         intro w hs
         have hmono := numTo_mono had (s.size - (j + 1).toNat) (j + 1).toNat (by omega)
         rw [hnum] at hmono
         exact ⟨(), by rw [show rdRes s most = (0, 41) from (if_neg (fun h => h.elim (fun h => by omega) (fun h => by rw [had] at h; cases h))).trans (if_pos (by omega))], trivial, hs⟩
       ·
         replace h44 := of_decide_eq_false h44
         refine GL.gives rfl rfl rfl (Gives.move rfl rfl) ?_
         refine GL.gives rfl rfl rfl (Gives.move rfl rfl) ?_
         refine GL.gives rfl rfl rfl (Gives.conv (k := .i64) (k' := .u64) rfl rfl Try.underlying3 Try.underlying79 rfl) ?_
         refine GL.gives rfl rfl rfl (Gives.mulk rfl rfl rfl (wrap_u64 (by omega))) ?_
         refine GL.gives rfl rfl rfl (Gives.move rfl rfl) ?_
         refine GL.gives rfl rfl rfl (Gives.move rfl rfl) ?_
         refine GL.gives rfl rfl rfl (Gives.subk rfl rfl rfl (wrap_u64 (by omega))) ?_
         refine GL.gives rfl rfl rfl (Gives.gtr rfl rfl rfl) ?_
         refine GL.gives rfl rfl rfl (Gives.pickF rfl rfl rfl rfl) ?_
         refine GL.nil ?_
         refine GQ.thenN ?_
         refine GC.split (t := 53) rfl (fun h53 => ?_) (fun h53 => ?_)
         ·
           replace h53 := of_decide_eq_true h53
           refine GC.condT rfl rfl ?_
           refine GC.seq ?_
           refine GC.region ?_
           refine GL.gives rfl rfl rfl (Gives.assign rfl rfl) ?_
           refine GL.gives rfl rfl rfl (Gives.assign rfl rfl) ?_
           refine GL.nil ?_
           refine GQ.thenN ?_
           refine GC.ret ?_
           refine GQ.thenR ?_
           refine GQ.blkR ?_
           refine GQ.thenR ?_
           refine GQ.thenR ?_
           refine GQ.blkR ?_
           refine GQ.thenR ?_
           refine GQ.ret2 (.inl rfl) rfl rfl rfl ?_
           intro w hs
           have hmono := numTo_mono had (s.size - (j + 1).toNat) (j + 1).toNat (by omega)
           rw [hnum] at hmono
           exact ⟨(), by rw [show rdRes s most = (0, 41) from (if_neg (fun h => h.elim (fun h => by omega) (fun h => by rw [had] at h; cases h))).trans (if_pos (by omega))], trivial, hs⟩
         ·
           replace h53 := of_decide_eq_false h53
           refine GC.condF rfl rfl ?_
           refine GC.skip ?_
           refine GQ.thenN ?_
           refine GC.region ?_
           refine GL.gives rfl rfl rfl (Gives.move rfl rfl) ?_
           refine GL.gives rfl rfl rfl (Gives.move rfl rfl) ?_
           refine GL.gives rfl rfl rfl (Gives.conv (k := .i64) (k' := .u64) rfl rfl Try.underlying3 Try.underlying79 rfl) ?_
           refine GL.gives rfl rfl rfl (Gives.mulk rfl rfl rfl (wrap_u64 (by omega))) ?_
           refine GL.gives rfl rfl rfl (Gives.move rfl rfl) ?_
           refine GL.gives rfl rfl rfl (Gives.addk rfl rfl rfl (wrap_u64 (by omega))) ?_
           refine GL.gives rfl rfl rfl (Gives.assign rfl rfl) ?_
           refine GL.nil ?_
           refine GQ.blkN ?_
           refine GQ.thenN ?_
           refine GC.region ?_
           refine GL.gives rfl rfl rfl (Gives.move rfl rfl) ?_
           refine GL.gives rfl rfl rfl (Gives.add rfl rfl rfl (by omega)) ?_
           refine GL.gives rfl rfl rfl (Gives.assign rfl rfl) ?_
           refine GL.nil ?_
           refine GQ.back (j + 1) [] ⟨⟨by omega, by omega⟩, by rw [hnum]; omega⟩ (by omega) ⟨rfl, rfl, rfl, (show some (Value.int _ _) = some (Value.int _ _) from by rw [hnum]; congr 2; omega), rfl, trivial⟩ rfl
     ·
       replace h30 := of_decide_eq_false h30
       refine GC.condF rfl rfl ?_
       refine GC.exit ?_
       refine GQ.thenX ?_
       refine GQ.thenX ?_
       refine GQ.blkX ?_
       refine GQ.thenN ?_
       refine GC.seq ?_
       refine GC.region ?_
       refine GL.gives rfl rfl rfl (Gives.move rfl rfl) ?_
       refine GL.gives rfl rfl rfl (Gives.assign rfl rfl) ?_
       refine GL.gives rfl rfl rfl (Gives.assign rfl rfl) ?_
       refine GL.nil ?_
       refine GQ.thenN ?_
       refine GC.ret ?_
       refine GQ.ret2 (.inl rfl) rfl rfl rfl ?_
       intro w hs
       obtain rfl : j = s.size := by omega
       simp only [Int.toNat_natCast] at hm_
       exact ⟨(), by rw [show rdRes s most = (numTo s s.size, 0) from (if_neg (fun h => h.elim (fun h => by omega) (fun h => by rw [had] at h; cases h))).trans (if_neg (by omega)), hm_], trivial, hs⟩

theorem pre_no {s : ByteArray} {p : UInt8} (h0 : 0 < s.size) (hp : byteAt s 0 ≠ p.toNat) : ((s.extract 0 ((((⟨#[p]⟩ : ByteArray).size : Nat) : Int)).toNat).toList == (⟨#[p]⟩ : ByteArray).toList) = false := by
  rw [← Bool.not_eq_true, str_eq]
  intro h
  apply hp
  have h1 : (s.extract 0 ((((⟨#[p]⟩ : ByteArray).size : Nat) : Int)).toNat).data.toList = [p] := by rw [h]
  have h2 : (s.extract 0 1).data.toList = [p] := h1
  rw [ByteArray.data_extract, Array.toList_extract] at h2
  have h3 : s.data.toList[0]? = some p := by
    have h4 : (List.extract s.data.toList 0 1)[0]? = some p := by rw [h2]; rfl
    simpa [List.extract] using h4
  unfold byteAt
  rw [List.getD_eq_getElem?_getD]
  simp [h3]
set_option maxRecDepth 100000 in
set_option maxHeartbeats 1000000 in
theorem hasp_con (s : ByteArray) (p : UInt8) (h0 : 0 < s.size) (hp : byteAt s 0 ≠ p.toNat) (S : World → Prop) : Con Try.prog 69 [.string s, .string ⟨#[p]⟩] S [] (fun _ : Unit => .bool false) (fun _ => True) (fun _ => []) := by
 intro w F0 hS hs hlt
 have hone : (⟨#[p]⟩ : ByteArray).size = 1 := rfl
 refine enter (args := [.string s, .string (⟨#[p]⟩ : ByteArray)]) Try.func69 rfl rfl rfl hs ?_
 refine GC.seq ?_
 refine GC.region ?_
 refine GL.gives rfl rfl rfl (Gives.assign rfl rfl) ?_
 refine GL.nil ?_
 refine GQ.thenN ?_
 refine GC.seq ?_
 refine GC.region ?_
 refine GL.gives rfl rfl rfl (Gives.move rfl rfl) ?_
 refine GL.gives rfl rfl rfl (Gives.lens rfl rfl Try.underlying9) ?_
 refine GL.gives rfl rfl rfl (Gives.move rfl rfl) ?_
 refine GL.gives rfl rfl rfl (Gives.lens rfl rfl Try.underlying9) ?_
 refine GL.gives rfl rfl rfl (Gives.geq rfl rfl rfl) ?_
 refine GL.gives rfl rfl rfl (Gives.move rfl rfl) ?_
 refine GL.learn (t := 10) (v' := .bool true) rfl (congrArg Value.bool (decide_eq_true (by rw [hone]; omega))) ?_
 refine GL.gives rfl rfl rfl (Gives.move rfl rfl) ?_
 refine GL.gives rfl rfl rfl (Gives.move rfl rfl) ?_
 refine GL.gives rfl rfl rfl (Gives.lens rfl rfl Try.underlying9) ?_
 refine GL.gives rfl rfl rfl (Gives.slTo rfl rfl rfl Try.underlying9 (by omega) (by rw [hone]; omega)) ?_
 refine GL.gives rfl rfl rfl (Gives.move rfl rfl) ?_
 refine GL.gives rfl rfl rfl (Gives.eqs rfl rfl rfl) ?_
 refine GL.learn (t := 16) (v' := .bool false) rfl (congrArg Value.bool (pre_no h0 hp)) ?_
 refine GL.gives rfl rfl rfl (Gives.pickT rfl rfl rfl rfl) ?_
 refine GL.gives rfl rfl rfl (Gives.assign rfl rfl) ?_
 refine GL.nil ?_
 refine GQ.thenN ?_
 refine GC.ret ?_
 refine GQ.ret1 (.inl rfl) rfl rfl ?_
 intro w hs
 exact ⟨(), rfl, trivial, hs⟩

set_option maxRecDepth 100000 in
set_option maxHeartbeats 1000000 in
theorem cutp1_con (s : ByteArray) (p : UInt8) (h0 : 0 < s.size) (hp : byteAt s 0 ≠ p.toNat) (S : World → Prop) : Con Try.prog 61 [.string s, .string ⟨#[p]⟩] S [] (fun _ : Unit => .tuple #[.string s, .bool false]) (fun _ => True) (fun _ => []) := by
 intro w F0 hS hs hlt
 refine enter (args := [.string s, .string (⟨#[p]⟩ : ByteArray)]) Try.func61 rfl rfl rfl hs ?_
 refine GC.seq ?_
 refine GC.region ?_
 refine GL.gives rfl rfl rfl (Gives.assign rfl rfl) ?_
 refine GL.gives rfl rfl rfl (Gives.assign rfl rfl) ?_
 refine GL.nil ?_
 refine GQ.thenN ?_
 refine GC.seq ?_
 refine GC.seq ?_
 refine GC.region ?_
 refine GL.gives rfl rfl rfl (Gives.move rfl rfl) ?_
 refine GL.gives rfl rfl rfl (Gives.move rfl rfl) ?_
 refine GL.does [] rfl rfl rfl rfl (Does.call rfl rfl Try.func69 rfl rfl (hasp_con s p h0 hp _)) fun _ _ => ?_
 refine GL.gives rfl rfl rfl (Gives.not rfl rfl) ?_
 refine GL.nil ?_
 refine GQ.thenN ?_
 refine GC.condT rfl rfl ?_
 refine GC.seq ?_
 refine GC.region ?_
 refine GL.gives rfl rfl rfl (Gives.move rfl rfl) ?_
 refine GL.gives rfl rfl rfl (Gives.assign rfl rfl) ?_
 refine GL.gives rfl rfl rfl (Gives.assign rfl rfl) ?_
 refine GL.nil ?_
 refine GQ.thenN ?_
 refine GC.ret ?_
 refine GQ.thenR ?_
 refine GQ.ret2 (.inl rfl) rfl rfl rfl ?_
 intro w hs
 exact ⟨(), rfl, trivial, hs⟩

set_option maxRecDepth 100000 in
set_option maxHeartbeats 1000000 in
theorem cutp_con (s : ByteArray) (p : UInt8) (h0 : 0 < s.size) (hp : byteAt s 0 ≠ p.toNat) (S : World → Prop) : Con Try.prog 48 [.string s, .string ⟨#[p]⟩] S [] (fun _ : Unit => .tuple #[.string s, .bool false]) (fun _ => True) (fun _ => []) := by
 intro w F0 hS hs hlt
 refine enter (args := [.string s, .string (⟨#[p]⟩ : ByteArray)]) Try.func48 rfl rfl rfl hs ?_
 refine GC.seq ?_
 refine GC.region ?_
 refine GL.gives rfl rfl rfl (Gives.assign rfl rfl) ?_
 refine GL.gives rfl rfl rfl (Gives.assign rfl rfl) ?_
 refine GL.nil ?_
 refine GQ.thenN ?_
 refine GC.seq ?_
 refine GC.region ?_
 refine GL.gives rfl rfl rfl (Gives.move rfl rfl) ?_
 refine GL.gives rfl rfl rfl (Gives.move rfl rfl) ?_
 refine GL.does [] rfl rfl rfl rfl (Does.call rfl rfl Try.func61 rfl rfl (cutp1_con s p h0 hp _)) fun _ _ => ?_
 refine GL.gives rfl rfl rfl (Gives.extract (v := .string s) rfl rfl rfl) ?_
 refine GL.gives rfl rfl rfl (Gives.extract (v := .bool false) rfl rfl rfl) ?_
 refine GL.gives rfl rfl rfl (Gives.assign rfl rfl) ?_
 refine GL.gives rfl rfl rfl (Gives.assign rfl rfl) ?_
 refine GL.nil ?_
 refine GQ.thenN ?_
 refine GC.ret ?_
 refine GQ.ret2 (.inl rfl) rfl rfl rfl ?_
 intro w hs
 exact ⟨(), rfl, trivial, hs⟩

theorem rd_bd (s : ByteArray) : -9223372036854775808 ≤ (rdRes s 9223372036854775807).1 ∧ (rdRes s 9223372036854775807).1 ≤ 9223372036854775807 := by
  unfold rdRes
  split
  · exact ⟨by simp, by simp⟩
  · rename_i h
    split
    · exact ⟨by simp, by simp⟩
    · have had : allDig s s.size = true := by
        cases hb : allDig s s.size with
        | true => rfl
        | false => exact absurd (.inr hb) h
      have := numTo_nonneg had
      exact ⟨by show _ ≤ numTo s s.size; omega, by show numTo s s.size ≤ _; omega⟩
set_option maxRecDepth 100000 in
set_option maxHeartbeats 1000000 in
theorem decimal_con (s : ByteArray) (h0 : 0 < s.size) (hd : isDig (byteAt s 0) = true) (hz : s.size ≤ 9223372036854775806) (S : World → Prop) : Con Try.prog 31 [.string s] S [] (fun _ : Unit => .tuple #[.int .i64 (rdRes s 9223372036854775807).1, .int .i64 (rdRes s 9223372036854775807).2]) (fun _ => True) (fun _ => []) := by
 intro w F0 hS hs hlt
 have hd2 := isDig_iff.1 hd
 have h45 : byteAt s 0 ≠ ((45 : UInt8).toNat : Int) := by show byteAt s 0 ≠ 45; omega
 have h43 : byteAt s 0 ≠ ((43 : UInt8).toNat : Int) := by show byteAt s 0 ≠ 43; omega
 refine enter (args := [.string s]) Try.func31 rfl rfl rfl hs ?_
 refine GC.seq ?_
 refine GC.region ?_
 refine GL.gives rfl rfl rfl (Gives.assign rfl rfl) ?_
 refine GL.gives rfl rfl rfl (Gives.assign rfl rfl) ?_
 refine GL.nil ?_
 refine GQ.thenN ?_
 refine GC.seq ?_
 refine GC.region ?_
 refine GL.gives rfl rfl rfl (Gives.move rfl rfl) ?_
 refine GL.does [] rfl rfl rfl rfl (Does.call rfl rfl Try.func48 rfl rfl (cutp_con s 45 h0 h45 _)) fun _ _ => ?_
 refine GL.gives rfl rfl rfl (Gives.move rfl rfl) ?_
 refine GL.gives rfl rfl rfl (Gives.extract (v := .string s) rfl rfl rfl) ?_
 refine GL.gives rfl rfl rfl (Gives.extract (v := .bool false) rfl rfl rfl) ?_
 refine GL.gives rfl rfl rfl (Gives.assign rfl rfl) ?_
 refine GL.gives rfl rfl rfl (Gives.assign rfl rfl) ?_
 refine GL.nil ?_
 refine GQ.thenN ?_
 refine GC.seq ?_
 refine GC.seq ?_
 refine GC.region ?_
 refine GL.gives rfl rfl rfl (Gives.move rfl rfl) ?_
 refine GL.gives rfl rfl rfl (Gives.not rfl rfl) ?_
 refine GL.nil ?_
 refine GQ.thenN ?_
 refine GC.condT rfl rfl ?_
 refine GC.region ?_
 refine GL.gives rfl rfl rfl (Gives.move rfl rfl) ?_
 refine GL.does [] rfl rfl rfl rfl (Does.call rfl rfl Try.func48 rfl rfl (cutp_con s 43 h0 h43 _)) fun _ _ => ?_
 refine GL.gives rfl rfl rfl (Gives.move rfl rfl) ?_
 refine GL.gives rfl rfl rfl (Gives.extract (v := .string s) rfl rfl rfl) ?_
 refine GL.gives rfl rfl rfl (Gives.extract (v := .bool false) rfl rfl rfl) ?_
 refine GL.gives rfl rfl rfl (Gives.assign rfl rfl) ?_
 refine GL.nil ?_
 refine GQ.thenN ?_
 refine GC.seq ?_
 refine GC.seq ?_
 refine GC.region ?_
 refine GL.gives rfl rfl rfl (Gives.move rfl rfl) ?_
 refine GL.nil ?_
 refine GQ.thenN ?_
 refine GC.condF rfl rfl ?_
 refine GC.skip ?_
 refine GQ.thenN ?_
 refine GC.seq ?_
 refine GC.region ?_
 refine GL.gives rfl rfl rfl (Gives.move rfl rfl) ?_
 refine GL.does [] rfl rfl rfl rfl (Does.call rfl rfl Try.func49 rfl rfl (read_con s 9223372036854775807 (by omega) (by omega) _)) fun _ _ => ?_
 refine GL.gives rfl rfl rfl (Gives.move rfl rfl) ?_
 refine GL.gives rfl rfl rfl (Gives.extract (v := .int .u64 (rdRes s 9223372036854775807).1) rfl rfl rfl) ?_
 refine GL.gives rfl rfl rfl (Gives.extract (v := .int .i64 (rdRes s 9223372036854775807).2) rfl rfl rfl) ?_
 refine GL.gives rfl rfl rfl (Gives.assign rfl rfl) ?_
 refine GL.gives rfl rfl rfl (Gives.assign rfl rfl) ?_
 refine GL.nil ?_
 refine GQ.thenN ?_
 refine GC.seq ?_
 refine GC.region ?_
 refine GL.gives rfl rfl rfl (Gives.move rfl rfl) ?_
 refine GL.gives rfl rfl rfl (Gives.conv (k := .u64) (k' := .i64) rfl rfl Try.underlying79 Try.underlying3 (wrap_i64 (rd_bd s))) ?_
 refine GL.gives rfl rfl rfl (Gives.move rfl rfl) ?_
 refine GL.gives rfl rfl rfl (Gives.assign rfl rfl) ?_
 refine GL.gives rfl rfl rfl (Gives.assign rfl rfl) ?_
 refine GL.nil ?_
 refine GQ.thenN ?_
 refine GC.ret ?_
 refine GQ.ret2 (.inl rfl) rfl rfl rfl ?_
 intro w hs
 exact ⟨(), rfl, trivial, hs⟩

set_option maxRecDepth 100000 in
set_option maxHeartbeats 1000000 in
theorem rdecimal_con (s : ByteArray) (h0 : 0 < s.size) (hd : isDig (byteAt s 0) = true) (hz : s.size ≤ 9223372036854775806) (S : World → Prop) : Con Try.prog 36 [.string s] S [] (fun _ : Unit => .tuple #[.int .i64 (rdRes s 9223372036854775807).1, .int .i64 (rdRes s 9223372036854775807).2]) (fun _ => True) (fun _ => []) := by
 intro w F0 hS hs hlt
 have hd2 := isDig_iff.1 hd
 refine enter (args := [.string s]) Try.func36 rfl rfl rfl hs ?_
 refine GC.seq ?_
 refine GC.region ?_
 refine GL.gives rfl rfl rfl (Gives.assign rfl rfl) ?_
 refine GL.gives rfl rfl rfl (Gives.assign rfl rfl) ?_
 refine GL.nil ?_
 refine GQ.thenN ?_
 refine GC.seq ?_
 refine GC.seq ?_
 refine GC.region ?_
 refine GL.gives rfl rfl rfl (Gives.move rfl rfl) ?_
 refine GL.gives rfl rfl rfl (Gives.lens rfl rfl Try.underlying9) ?_
 refine GL.gives rfl rfl rfl (Gives.gtr rfl rfl rfl) ?_
 refine GL.gives rfl rfl rfl (Gives.move rfl rfl) ?_
 refine GL.learn (t := 11) (v' := .bool true) rfl (congrArg Value.bool (decide_eq_true (by omega))) ?_
 refine GL.gives rfl rfl rfl (Gives.move rfl rfl) ?_
 refine GL.gives rfl rfl rfl (Gives.index rfl rfl rfl Try.underlying9 (by omega) (by omega)) ?_
 refine GL.gives rfl rfl rfl (Gives.eqi rfl rfl rfl) ?_
 refine GL.gives rfl rfl rfl (Gives.pickT rfl rfl rfl rfl) ?_
 refine GL.nil ?_
 refine GQ.thenN ?_
 refine GC.condF rfl (beq_false_of_ne (by omega)) ?_
 refine GC.skip ?_
 refine GQ.thenN ?_
 refine GC.seq ?_
 refine GC.seq ?_
 refine GC.region ?_
 refine GL.gives rfl rfl rfl (Gives.move rfl rfl) ?_
 refine GL.gives rfl rfl rfl (Gives.lens rfl rfl Try.underlying9) ?_
 refine GL.gives rfl rfl rfl (Gives.gtr rfl rfl rfl) ?_
 refine GL.gives rfl rfl rfl (Gives.move rfl rfl) ?_
 refine GL.learn (t := 29) (v' := .bool true) rfl (congrArg Value.bool (decide_eq_true (by omega))) ?_
 refine GL.gives rfl rfl rfl (Gives.move rfl rfl) ?_
 refine GL.gives rfl rfl rfl (Gives.index rfl rfl rfl Try.underlying9 (by omega) (by omega)) ?_
 refine GL.gives rfl rfl rfl (Gives.eqi rfl rfl rfl) ?_
 refine GL.gives rfl rfl rfl (Gives.pickT rfl rfl rfl rfl) ?_
 refine GL.nil ?_
 refine GQ.thenN ?_
 refine GC.condF rfl (beq_false_of_ne (by omega)) ?_
 refine GC.skip ?_
 refine GQ.thenN ?_
 refine GC.seq ?_
 refine GC.region ?_
 refine GL.gives rfl rfl rfl (Gives.move rfl rfl) ?_
 refine GL.does [] rfl rfl rfl rfl (Does.call rfl rfl Try.func54 rfl rfl (digits_con s 9223372036854775807 (by omega) (by omega) _)) fun _ _ => ?_
 refine GL.gives rfl rfl rfl (Gives.move rfl rfl) ?_
 refine GL.gives rfl rfl rfl (Gives.extract (v := .int .u64 (rdRes s 9223372036854775807).1) rfl rfl rfl) ?_
 refine GL.gives rfl rfl rfl (Gives.extract (v := .int .i64 (rdRes s 9223372036854775807).2) rfl rfl rfl) ?_
 refine GL.gives rfl rfl rfl (Gives.assign rfl rfl) ?_
 refine GL.gives rfl rfl rfl (Gives.assign rfl rfl) ?_
 refine GL.nil ?_
 refine GQ.thenN ?_
 refine GC.seq ?_
 refine GC.region ?_
 refine GL.gives rfl rfl rfl (Gives.move rfl rfl) ?_
 refine GL.gives rfl rfl rfl (Gives.conv (k := .u64) (k' := .i64) rfl rfl Try.underlying79 Try.underlying3 (wrap_i64 (rd_bd s))) ?_
 refine GL.gives rfl rfl rfl (Gives.move rfl rfl) ?_
 refine GL.gives rfl rfl rfl (Gives.assign rfl rfl) ?_
 refine GL.gives rfl rfl rfl (Gives.assign rfl rfl) ?_
 refine GL.nil ?_
 refine GQ.thenN ?_
 refine GC.ret ?_
 refine GQ.ret2 (.inl rfl) rfl rfl rfl ?_
 intro w hs
 exact ⟨(), rfl, trivial, hs⟩

end Go.Proofs.Yteckdfgllipilaa.NW
