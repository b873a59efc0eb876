/- Numbers as texts, and texts as numbers, in decimal digits. -/
import Derived.Test.YteckdfgllipilaaNU
namespace Go.Proofs.Yteckdfgllipilaa.NV
open Go.RowKit Go.Proofs.YteckdfgllipilaaW.PrintWords Go.Proofs.YteckdfgllipilaaW.PrintLast Go.Proofs.YteckdfgllipilaaS Go.Proofs.Yteckdfgllipilaa.NU

/-! ### what the digits of a number are -/
def digs : Nat → Nat → List Int
  | 0, _ => []
  | k + 1, n => if n < 10 then [48 + (n : Int)] else digs k (n / 10) ++ [48 + ((n % 10 : Nat) : Int)]
theorem digs_more : ∀ (k j n : Nat), n < k → k ≤ j → digs j n = digs k n
  | 0, _, n, h, _ => by omega
  | k + 1, 0, n, h, hj => by omega
  | k + 1, j + 1, n, h, hj => by
    rw [digs, digs]
    split
    · rfl
    · rw [digs_more k j (n / 10) (by omega) (by omega)]
/-- The digits of a number. -/
def dg (n : Int) : List Int := digs (n.toNat + 1) n.toNat
theorem dg_small {n : Int} (h0 : 0 ≤ n) (h : n < 10) : dg n = [48 + n] := by
  unfold dg
  rw [digs, if_pos (by omega)]
  congr 1
  omega
theorem dg_more {n : Int} (h : 10 ≤ n) : dg n = dg (n / 10) ++ [48 + n % 10] := by
  unfold dg
  have h1 : (n / 10).toNat = n.toNat / 10 := by omega
  rw [digs, if_neg (by omega), h1, digs_more (n.toNat / 10 + 1) n.toNat (n.toNat / 10) (by omega) (by omega)]
  congr 2
  omega
def txt (n : Int) : ByteArray := if n < 0 then strOf (45 :: dg (0 - n)) else strOf (dg n)
def sgn16 : ByteArray := ⟨#[48, 49, 50, 51, 52, 53, 54, 55, 56, 57, 97, 98, 99, 100, 101, 102]⟩
theorem sgn_at {k : Int} (h : 0 ≤ k ∧ k < 10) : byteAt sgn16 k = 48 + k := by
  have : ∀ j : Fin 10, byteAt sgn16 (j.val : Int) = 48 + (j.val : Int) := by decide
  have := this ⟨k.toNat, by omega⟩
  have hk : ((k.toNat : Nat) : Int) = k := by omega
  simpa [hk] using this
theorem sgn_ext {k : Int} (h : 0 ≤ k ∧ k < 10) : sgn16.extract k.toNat (k + 1).toNat = strOf [48 + k] := by
  have : ∀ j : Fin 10, (sgn16.extract j.val (j.val + 1)).data = (strOf [48 + (j.val : Int)]).data := by decide
  have := this ⟨k.toNat, by omega⟩
  have hk : ((k.toNat : Nat) : Int) = k := by omega
  have hk1 : (k + 1).toNat = k.toNat + 1 := by omega
  apply ByteArray.ext
  rw [hk1]
  simpa [hk] using this
/-! ### a text's digits in a block of 64 letters -/
def blk64 (acc : List Int) : Array Value := ((List.replicate (64 - acc.length) (0 : Int) ++ acc).map (Value.int .u8)).toArray
theorem blk64_size (acc : List Int) (h : acc.length ≤ 64) : (blk64 acc).size = 64 := by simp [blk64]; omega
theorem blk64_set (acc : List Int) (d : Int) (h : acc.length < 64) : (blk64 acc).setIfInBounds (64 - acc.length - 1) (.int .u8 d) = blk64 (d :: acc) := by
  obtain ⟨m, hm⟩ : ∃ m, 64 - acc.length = m + 1 := ⟨64 - acc.length - 1, by omega⟩
  apply Array.toList_inj.1
  simp only [blk64, hm, Array.toList_setIfInBounds, List.map_append, List.map_replicate, List.length_cons, show 64 - (acc.length + 1) = m by omega, Nat.add_sub_cancel]
  rw [List.replicate_succ', List.append_assoc, List.set_append_right _ _ (by simp)]
  simp
theorem blk64_in (acc : List Int) (h : acc.length < 64) : (blk64 acc)[64 - acc.length - 1]? = some (.int .u8 0) := by
  obtain ⟨m, hm⟩ : ∃ m, 64 - acc.length = m + 1 := ⟨64 - acc.length - 1, by omega⟩
  simp only [blk64, hm, List.map_append, List.map_replicate, Nat.add_sub_cancel, List.getElem?_toArray]
  rw [List.getElem?_append_left (by simp), List.getElem?_replicate_of_lt (by omega)]
theorem blk64_at (acc : List Int) (h : acc.length ≤ 64) (q : Nat) (u : Int) (hq : acc[q]? = some u) : (blk64 acc)[64 - acc.length + q]? = some (.int .u8 u) := by
  simp only [blk64, List.map_append, List.map_replicate, List.getElem?_toArray]
  rw [List.getElem?_append_right (by simp)]
  simp [hq]
/-- How far a number's text is made. -/
structure Made (N : Int) (first : Bool) (n : Int) (acc : List Int) : Prop where
  bd : 0 ≤ n ∧ n ≤ 18446744073709551615
  st : first = true → n = N ∧ acc = []
  fin : first = false → n = 0 → acc = dg N
  more : first = false → 0 < n → dg n ++ acc = dg N
  len : acc.length ≤ 20 ∧ n < 10 ^ (20 - acc.length)
theorem Made.start {N : Int} (h : 0 ≤ N ∧ N ≤ 18446744073709551615) : Made N true N [] := ⟨h, fun _ => ⟨rfl, rfl⟩, fun h => (by cases h), fun h => (by cases h), by simp, by simp; omega⟩
theorem Made.room {N n : Int} {first : Bool} {acc : List Int} (h : Made N first n acc) (hg : first = true ∨ 0 < n) : acc.length < 20 := by
  rcases hg with hg | hg
  · rw [(h.st hg).2]; simp
  · have h1 := h.len
    rcases Nat.lt_or_ge acc.length 20 with h2 | h2
    · exact h2
    · rw [show 20 - acc.length = 0 by omega] at h1
      simp at h1; omega
theorem Made.step {N n : Int} {first : Bool} {acc : List Int} (h : Made N first n acc) (hg : first = true ∨ 0 < n) : Made N false (n / 10) ((48 + n % 10) :: acc) := by
  have hr := h.room hg
  have hb := h.bd
  have key : dg N = dg n ++ acc := by
    cases hf : first with
    | true => obtain ⟨h1, h2⟩ := h.st hf; rw [h1, h2]; simp
    | false =>
      rcases hg with hg | hg
      · rw [hg] at hf; cases hf
      · exact (h.more hf hg).symm
  refine ⟨by omega, fun h => (by cases h), fun _ h0 => ?_, fun _ h0 => ?_, ?_⟩
  · rw [key, dg_small hb.1 (by omega), show n % 10 = n by omega]; rfl
  · rw [key, dg_more (n := n) (by omega), List.append_assoc]; rfl
  · obtain ⟨h1, h2⟩ := h.len
    rw [List.length_cons]
    refine ⟨by omega, ?_⟩
    rw [show 20 - acc.length = (20 - (acc.length + 1)) + 1 by omega, Int.pow_succ] at h2
    omega
theorem Made.done {N n : Int} {acc : List Int} (h : Made N false n acc) (hn : ¬ 0 < n) : acc = dg N := h.fin rfl (by have := h.bd; omega)
theorem bool_or {b : Bool} {p : Prop} (h : b = true ∨ p) : b = true ∨ p := h

theorem mixed_ : Try.prog.follows .mixedOrders = true := by kernel_rfl
theorem al100 (w : World) : (Instr.alloc 100 true (.tuple #[])).run Try.prog w = .ok (.pointer (some ⟨w.heap.size, 0, none⟩)) (w.alloc (.cells #[.int .u8 0, .int .u8 0, .int .u8 0, .int .u8 0, .int .u8 0, .int .u8 0, .int .u8 0, .int .u8 0, .int .u8 0, .int .u8 0, .int .u8 0, .int .u8 0, .int .u8 0, .int .u8 0, .int .u8 0, .int .u8 0, .int .u8 0, .int .u8 0, .int .u8 0, .int .u8 0, .int .u8 0, .int .u8 0, .int .u8 0, .int .u8 0, .int .u8 0, .int .u8 0, .int .u8 0, .int .u8 0, .int .u8 0, .int .u8 0, .int .u8 0, .int .u8 0, .int .u8 0, .int .u8 0, .int .u8 0, .int .u8 0, .int .u8 0, .int .u8 0, .int .u8 0, .int .u8 0, .int .u8 0, .int .u8 0, .int .u8 0, .int .u8 0, .int .u8 0, .int .u8 0, .int .u8 0, .int .u8 0, .int .u8 0, .int .u8 0, .int .u8 0, .int .u8 0, .int .u8 0, .int .u8 0, .int .u8 0, .int .u8 0, .int .u8 0, .int .u8 0, .int .u8 0, .int .u8 0, .int .u8 0, .int .u8 0, .int .u8 0, .int .u8 0] 100 (0, 0))) := by kernel_rfl
theorem sz5 (w : World) : (sizeOf 5).run Try.prog w = .ok 1 w := by kernel_rfl
theorem dg_ne (n : Int) : dg n ≠ [] := by
  unfold dg
  rw [digs]
  split <;> simp
set_option maxRecDepth 100000 in
set_option maxHeartbeats 1000000 in
theorem base_con (B : Nat) (n0 : Int) (hn : 0 ≤ n0 ∧ n0 ≤ 18446744073709551615) (S : World → Prop) (hBS : ∀ w, S w → B ≤ w.heap.size) : Con Try.prog 44 [.int .u64 n0, .int .i64 10] S [] (fun _ : Unit => .string (strOf (dg n0))) (fun _ => True) (fun _ => []) := by
 intro w F0 hS hs hlt
 have hB := hBS w hS
 refine enter (args := [.int .u64 n0, .int .i64 10]) Try.func44 rfl rfl rfl hs ?_
 refine GC.seq ?_
 refine GC.region ?_
 refine GL.gives rfl rfl rfl (Gives.assign rfl rfl) ?_
 refine GL.nil ?_
 refine GQ.thenN ?_
 refine GC.seq ?_
 refine GC.seq ?_
 refine GC.region ?_
 refine GL.gives rfl rfl rfl (Gives.move rfl rfl) ?_
 refine GL.gives rfl rfl rfl (Gives.lss rfl rfl rfl) ?_
 refine GL.gives rfl rfl rfl (Gives.move rfl rfl) ?_
 refine GL.learn (t := 10) (v' := .bool false) rfl (congrArg Value.bool (by rfl)) ?_
 refine GL.gives rfl rfl rfl (Gives.move rfl rfl) ?_
 refine GL.gives rfl rfl rfl (Gives.gtr rfl rfl rfl) ?_
 refine GL.gives rfl rfl rfl (Gives.pickF rfl rfl rfl rfl) ?_
 refine GL.nil ?_
 refine GQ.thenN ?_
 refine GC.condF rfl (by rfl) ?_
 refine GC.skip ?_
 refine GQ.thenN ?_
 refine GC.seq ?_
 refine GC.region ?_
 refine GL.does [] rfl rfl rfl rfl (Does.alloc (Bs hB) rfl al100) fun g hg => ?_
 refine GL.nil ?_
 refine GQ.thenN ?_
 refine GC.seq ?_
 refine GC.region ?_
 refine GL.gives rfl rfl rfl (Gives.assign rfl rfl) ?_
 refine GL.nil ?_
 refine GQ.thenN ?_
 refine GC.seq ?_
 refine GC.seq ?_
 refine GC.region ?_
 refine GL.gives rfl rfl rfl (Gives.assign rfl rfl) ?_
 refine GL.nil ?_
 refine GQ.thenN ?_
 refine GC.block ?_
 refine GC.loop (σ := Bool × Int × List Int) (fun s => [(0, .int .u64 s.2.1), (1, .int .i64 10), (5, .pointer (some ⟨g, 0, none⟩)), (6, .int .i64 (64 - (s.2.2.length : Int))), (7, .bool s.1)]) (fun s => [Cells g (blk64 s.2.2) 100]) (fun s => Made n0 s.1 s.2.1 s.2.2) (fun s => s.2.1.toNat + (if s.1 then 1 else 0)) (true, n0, []) [0] (Made.start hn) ⟨rfl, rfl, rfl, rfl, rfl, trivial⟩ rfl ?_
 rintro ⟨first, n, acc⟩ hm
 dsimp only at hm ⊢
 have hbd := hm.bd
 refine GC.seq ?_
 refine GC.seq ?_
 refine GC.region ?_
 refine GL.gives rfl rfl rfl (Gives.move rfl rfl) ?_
 refine GL.gives rfl rfl rfl (Gives.move rfl rfl) ?_
 refine GL.split (t := 15) rfl (fun h15 => ?_) (fun h15 => ?_)
 ·
   have _ := h15
   refine GL.skip rfl rfl rfl ?_
   refine GL.skip rfl rfl rfl ?_
   refine GL.gives rfl rfl rfl (Gives.pickT rfl rfl rfl rfl) ?_
   refine GL.nil ?_
   refine GQ.thenN ?_
   refine GC.condT rfl rfl ?_
   refine GC.skip ?_
   refine GQ.thenN ?_
   refine GC.seq ?_
   refine GC.block ?_
   refine GC.seq ?_
   refine GC.region ?_
   refine GL.gives rfl rfl rfl (Gives.move rfl rfl) ?_
   have hgo : first = true ∨ 0 < n := .inl h15
   have hroom := hm.room hgo
   refine GL.gives rfl rfl rfl (Gives.sub rfl rfl rfl (by omega)) ?_
   refine GL.gives rfl rfl rfl (Gives.assign rfl rfl) ?_
   refine GL.nil ?_
   refine GQ.thenN ?_
   refine GC.seq ?_
   refine GC.region ?_
   refine GL.gives rfl rfl rfl (Gives.move rfl rfl) ?_
   refine GL.gives rfl rfl rfl (Gives.move rfl rfl) ?_
   refine GL.gives rfl rfl rfl (Gives.move rfl rfl) ?_
   refine GL.gives rfl rfl rfl (Gives.conv (k := .i64) (k' := .u64) rfl rfl Try.underlying3 Try.underlying79 rfl) ?_
   refine GL.gives rfl rfl rfl (Gives.remk rfl rfl rfl (by omega) (by omega)) ?_
   refine GL.gives rfl rfl rfl (Gives.index rfl rfl rfl Try.underlying9 (by omega) (by show n % 10 < 16; omega)) ?_
   refine GL.learn (t := 26) (v' := .int .u8 (48 + n % 10)) rfl (congrArg (Value.int .u8) (sgn_at (k := n % 10) (by omega))) ?_
   refine GL.gives rfl rfl rfl (Gives.indexArr (m := 64) (i := 64 - (acc.length : Int) - 1) rfl rfl rfl Try.underlying100 sz5 (by omega) (by omega)) ?_
   refine GL.does0 [0] rfl rfl rfl (Does.store (v := .int .u8 (48 + n % 10)) (u := .int .u8 0) (cs' := blk64 ((48 + n % 10) :: acc)) rfl rfl rfl sz5 rfl rfl (by rw [show (64 - (acc.length : Int) - 1).toNat = 64 - acc.length - 1 by omega]; exact blk64_in acc (by omega)) (by rw [show (64 - (acc.length : Int) - 1).toNat = 64 - acc.length - 1 by omega]; exact blk64_set acc _ (by omega))) fun _ _ => ?_
   refine GL.nil ?_
   refine GQ.thenN ?_
   refine GC.region ?_
   refine GL.gives rfl rfl rfl (Gives.move rfl rfl) ?_
   refine GL.gives rfl rfl rfl (Gives.move rfl rfl) ?_
   refine GL.gives rfl rfl rfl (Gives.conv (k := .i64) (k' := .u64) rfl rfl Try.underlying3 Try.underlying79 rfl) ?_
   refine GL.gives rfl rfl rfl (Gives.quok rfl rfl rfl (by omega) (by omega) (wrap_u64 (by omega))) ?_
   refine GL.gives rfl rfl rfl (Gives.assign rfl rfl) ?_
   refine GL.nil ?_
   refine GQ.blkN ?_
   refine GQ.thenN ?_
   refine GC.region ?_
   refine GL.gives rfl rfl rfl (Gives.assign rfl rfl) ?_
   refine GL.nil ?_
   refine GQ.back (false, n / 10, (48 + n % 10) :: acc) [0] (hm.step hgo) (by dsimp only; rcases hgo with h | h <;> (try rw [h]) <;> simp <;> omega) ⟨rfl, rfl, rfl, (show some (Value.int _ _) = some (Value.int _ _) from by rw [List.length_cons]; congr 2; omega), rfl, trivial⟩ rfl
 ·
   subst h15
   refine GL.gives rfl rfl rfl (Gives.move rfl rfl) ?_
   refine GL.gives rfl rfl rfl (Gives.gtr rfl rfl rfl) ?_
   refine GL.gives rfl rfl rfl (Gives.pickF rfl rfl rfl rfl) ?_
   refine GL.nil ?_
   refine GQ.thenN ?_
   refine GC.split (t := 18) rfl (fun h18 => ?_) (fun h18 => ?_)
   ·
     replace h18 := of_decide_eq_true h18
     refine GC.condT rfl rfl ?_
     refine GC.skip ?_
     refine GQ.thenN ?_
     refine GC.seq ?_
     refine GC.block ?_
     refine GC.seq ?_
     refine GC.region ?_
     refine GL.gives rfl rfl rfl (Gives.move rfl rfl) ?_
     have hgo : false = true ∨ 0 < n := .inr h18
     have hroom := hm.room hgo
     refine GL.gives rfl rfl rfl (Gives.sub rfl rfl rfl (by omega)) ?_
     refine GL.gives rfl rfl rfl (Gives.assign rfl rfl) ?_
     refine GL.nil ?_
     refine GQ.thenN ?_
     refine GC.seq ?_
     refine GC.region ?_
     refine GL.gives rfl rfl rfl (Gives.move rfl rfl) ?_
     refine GL.gives rfl rfl rfl (Gives.move rfl rfl) ?_
     refine GL.gives rfl rfl rfl (Gives.move rfl rfl) ?_
     refine GL.gives rfl rfl rfl (Gives.conv (k := .i64) (k' := .u64) rfl rfl Try.underlying3 Try.underlying79 rfl) ?_
     refine GL.gives rfl rfl rfl (Gives.remk rfl rfl rfl (by omega) (by omega)) ?_
     refine GL.gives rfl rfl rfl (Gives.index rfl rfl rfl Try.underlying9 (by omega) (by show n % 10 < 16; omega)) ?_
     refine GL.learn (t := 26) (v' := .int .u8 (48 + n % 10)) rfl (congrArg (Value.int .u8) (sgn_at (k := n % 10) (by omega))) ?_
     refine GL.gives rfl rfl rfl (Gives.indexArr (m := 64) (i := 64 - (acc.length : Int) - 1) rfl rfl rfl Try.underlying100 sz5 (by omega) (by omega)) ?_
     refine GL.does0 [0] rfl rfl rfl (Does.store (v := .int .u8 (48 + n % 10)) (u := .int .u8 0) (cs' := blk64 ((48 + n % 10) :: acc)) rfl rfl rfl sz5 rfl rfl (by rw [show (64 - (acc.length : Int) - 1).toNat = 64 - acc.length - 1 by omega]; exact blk64_in acc (by omega)) (by rw [show (64 - (acc.length : Int) - 1).toNat = 64 - acc.length - 1 by omega]; exact blk64_set acc _ (by omega))) fun _ _ => ?_
     refine GL.nil ?_
     refine GQ.thenN ?_
     refine GC.region ?_
     refine GL.gives rfl rfl rfl (Gives.move rfl rfl) ?_
     refine GL.gives rfl rfl rfl (Gives.move rfl rfl) ?_
     refine GL.gives rfl rfl rfl (Gives.conv (k := .i64) (k' := .u64) rfl rfl Try.underlying3 Try.underlying79 rfl) ?_
     refine GL.gives rfl rfl rfl (Gives.quok rfl rfl rfl (by omega) (by omega) (wrap_u64 (by omega))) ?_
     refine GL.gives rfl rfl rfl (Gives.assign rfl rfl) ?_
     refine GL.nil ?_
     refine GQ.blkN ?_
     refine GQ.thenN ?_
     refine GC.region ?_
     refine GL.gives rfl rfl rfl (Gives.assign rfl rfl) ?_
     refine GL.nil ?_
     refine GQ.back (false, n / 10, (48 + n % 10) :: acc) [0] (hm.step hgo) (by dsimp only; rcases hgo with h | h <;> (try rw [h]) <;> simp <;> omega) ⟨rfl, rfl, rfl, (show some (Value.int _ _) = some (Value.int _ _) from by rw [List.length_cons]; congr 2; omega), rfl, trivial⟩ rfl
   ·
     replace h18 := of_decide_eq_false h18
     refine GC.condF rfl rfl ?_
     refine GC.exit ?_
     refine GQ.thenX ?_
     refine GQ.thenX ?_
     refine GQ.blkX ?_
     refine GQ.thenN ?_
     refine GC.seq ?_
     refine GC.region ?_
     refine GL.gives rfl rfl rfl (Gives.move rfl rfl) ?_
     have hacc := hm.len.1
     have hne : acc ≠ [] := by
       intro h0
       have := hm.done (by omega)
       rw [h0] at this
       have h9 := dg_ne n0
       exact h9 this.symm
     have hpos : 0 < acc.length := List.length_pos_iff.2 hne
     refine GL.gives rfl rfl rfl (Gives.sliceArr (m := 64) (i := 64 - (acc.length : Int)) rfl rfl rfl Try.underlying100 sz5 (by omega) (by omega)) ?_
     refine GL.gives rfl rfl rfl (Gives.bytesStr (e := 5) 0 acc rfl rfl Try.underlying81 Try.underlying5 Try.underlying9 rfl (by omega) (fun q u hq => by rw [show (64 - (acc.length : Int)).toNat = 64 - acc.length by omega]; exact blk64_at acc (by omega) q u hq)) ?_
     refine GL.gives rfl rfl rfl (Gives.assign rfl rfl) ?_
     refine GL.nil ?_
     refine GQ.thenN ?_
     refine GC.ret ?_
     refine GQ.ret1 (.inl rfl) rfl rfl ?_
     intro w hs
     exact ⟨(), by rw [hm.done (by omega)], trivial, hs.nil⟩

theorem strOf45 (l : List Int) : (⟨#[45]⟩ : ByteArray) ++ strOf l = strOf (45 :: l) := by
  rw [show (⟨#[45]⟩ : ByteArray) = strOf [45] from rfl, ← strOf_append]; rfl
theorem dg_len {n : Int} (h : 0 ≤ n ∧ n ≤ 18446744073709551615) : (dg n).length ≤ 20 := by
  have key : ∀ (k : Nat) (n : Int), 0 ≤ n → n < 10 ^ (k + 1) → (dg n).length ≤ k + 1 := by
    intro k
    induction k with
    | zero => intro n h0 h1; rw [dg_small h0 (by simpa using h1)]; simp
    | succ k ih =>
      intro n h0 h1
      by_cases h2 : n < 10
      · rw [dg_small h0 h2]; simp
      · rw [dg_more (by omega), List.length_append]
        have := ih (n / 10) (by omega) (by rw [Int.pow_succ] at h1; omega)
        simp; omega
  exact key 19 n h.1 (by simp; omega)
theorem txt_pos {n : Int} (h : 0 ≤ n) : txt n = strOf (dg n) := by unfold txt; rw [if_neg (by omega)]
theorem txt_neg {n : Int} (h : n < 0) : txt n = strOf (45 :: dg (0 - n)) := by unfold txt; rw [if_pos h]
set_option maxRecDepth 100000 in
set_option maxHeartbeats 1000000 in
theorem text_con (B : Nat) (n : Int) (hn : -9223372036854775808 ≤ n ∧ n ≤ 9223372036854775807) (S : World → Prop) (hBS : ∀ w, S w → B ≤ w.heap.size) : Con Try.prog 28 [.int .i64 n] S [] (fun _ : Unit => .string (txt n)) (fun _ => True) (fun _ => []) := by
 intro w F0 hS hs hlt
 have hB := hBS w hS
 refine enter (args := [.int .i64 n]) Try.func28 rfl rfl rfl hs ?_
 refine GC.seq ?_
 refine GC.region ?_
 refine GL.gives rfl rfl rfl (Gives.assign rfl rfl) ?_
 refine GL.nil ?_
 refine GQ.thenN ?_
 refine GC.seq ?_
 refine GC.seq ?_
 refine GC.region ?_
 refine GL.gives rfl rfl rfl (Gives.move rfl rfl) ?_
 refine GL.gives rfl rfl rfl (Gives.lss rfl rfl rfl) ?_
 refine GL.nil ?_
 refine GQ.thenN ?_
 refine GC.split (t := 4) rfl (fun h4 => ?_) (fun h4 => ?_)
 ·
   replace h4 := of_decide_eq_true h4
   refine GC.condT rfl rfl ?_
   refine GC.seq ?_
   refine GC.region ?_
   refine GL.gives rfl rfl rfl (Gives.move rfl rfl) ?_
   refine GL.gives rfl rfl rfl (Gives.add rfl rfl rfl (by omega)) ?_
   refine GL.gives rfl rfl rfl (show Gives _ _ _ _ _ (.int .i64 (0 - (n + 1))) from wrap_i64 (x := 0 - (n + 1)) (by omega) ▸ Gives.negw rfl rfl) ?_
   refine GL.gives rfl rfl rfl (Gives.conv (k := .i64) (k' := .u64) rfl rfl Try.underlying3 Try.underlying79 (wrap_u64 (by omega))) ?_
   refine GL.gives rfl rfl rfl (Gives.addk rfl rfl rfl (wrap_u64 (by omega))) ?_
   refine GL.does [] rfl rfl rfl rfl (Does.call rfl rfl Try.func44 rfl rfl (base_con B ((0 - (n + 1)) + 1) (by omega) _ (Bs hB))) fun _ _ => ?_
   have hl := dg_len (n := 0 - (n + 1) + 1) (by omega)
   refine GL.gives rfl rfl rfl (Gives.adds rfl rfl rfl (by rw [strOf_size]; show 1 + _ ≤ _; omega)) ?_
   refine GL.gives rfl rfl rfl (Gives.assign rfl rfl) ?_
   refine GL.nil ?_
   refine GQ.thenN ?_
   refine GC.ret ?_
   refine GQ.thenR ?_
   refine GQ.ret1 (.inl rfl) rfl rfl ?_
   intro w hs
   exact ⟨(), by rw [strOf45, txt_neg (by omega), show 0 - (n + 1) + 1 = 0 - n by omega], trivial, hs⟩
 ·
   replace h4 := of_decide_eq_false h4
   refine GC.condF rfl rfl ?_
   refine GC.skip ?_
   refine GQ.thenN ?_
   refine GC.seq ?_
   refine GC.region ?_
   refine GL.gives rfl rfl rfl (Gives.move rfl rfl) ?_
   refine GL.gives rfl rfl rfl (Gives.conv (k := .i64) (k' := .u64) rfl rfl Try.underlying3 Try.underlying79 (wrap_u64 (by omega))) ?_
   refine GL.does [] rfl rfl rfl rfl (Does.call rfl rfl Try.func44 rfl rfl (base_con B n (by omega) _ (Bs hB))) fun _ _ => ?_
   refine GL.gives rfl rfl rfl (Gives.assign rfl rfl) ?_
   refine GL.nil ?_
   refine GQ.thenN ?_
   refine GC.ret ?_
   refine GQ.ret1 (.inl rfl) rfl rfl ?_
   intro w hs
   exact ⟨(), by rw [txt_pos (by omega)], trivial, hs⟩

set_option maxRecDepth 100000 in
set_option maxHeartbeats 1000000 in
theorem rbase_step (n : Int) (hn : 0 ≤ n ∧ n ≤ 18446744073709551615) (S : World → Prop) (ih : 10 ≤ n → ∀ S', Con Try.prog 53 [.int .u64 (n / 10), .int .i64 10] S' [] (fun _ : Unit => .string (strOf (dg (n / 10)))) (fun _ => True) (fun _ => [])) : Con Try.prog 53 [.int .u64 n, .int .i64 10] S [] (fun _ : Unit => .string (strOf (dg n))) (fun _ => True) (fun _ => []) := by
 intro w F0 hS hs hlt
 refine enter (args := [.int .u64 n, .int .i64 10]) Try.func53 rfl rfl rfl hs ?_
 refine GC.seq ?_
 refine GC.region ?_
 refine GL.gives rfl rfl rfl (Gives.assign rfl rfl) ?_
 refine GL.nil ?_
 refine GQ.thenN ?_
 refine GC.seq ?_
 refine GC.seq ?_
 refine GC.region ?_
 refine GL.gives rfl rfl rfl (Gives.move rfl rfl) ?_
 refine GL.gives rfl rfl rfl (Gives.lss rfl rfl rfl) ?_
 refine GL.gives rfl rfl rfl (Gives.move rfl rfl) ?_
 refine GL.learn (t := 8) (v' := .bool false) rfl (congrArg Value.bool (by rfl)) ?_
 refine GL.gives rfl rfl rfl (Gives.move rfl rfl) ?_
 refine GL.gives rfl rfl rfl (Gives.gtr rfl rfl rfl) ?_
 refine GL.gives rfl rfl rfl (Gives.pickF rfl rfl rfl rfl) ?_
 refine GL.nil ?_
 refine GQ.thenN ?_
 refine GC.condF rfl (by rfl) ?_
 refine GC.skip ?_
 refine GQ.thenN ?_
 refine GC.seq ?_
 refine GC.draw (fun w => St _ _ w _) [] #[false, false, false, false, false, false, false, false, false, false, false] mixed_ rfl rfl (fun _ h => h) ?_
 refine GA.pure 0 #[true, false, false, false, false, false, false, false, false, false, false] (by repeat (first | exact PanicOk.body | refine PanicOk.then ?_ | refine PanicOk.block ?_)) rfl rfl (by kernel_rfl) rfl rfl (Gives.move rfl rfl) ?_
 refine GA.pure 1 #[true, true, false, false, false, false, false, false, false, false, false] (by repeat (first | exact PanicOk.body | refine PanicOk.then ?_ | refine PanicOk.block ?_)) rfl rfl (by kernel_rfl) rfl rfl (Gives.move rfl rfl) ?_
 refine GA.pure 2 #[true, true, true, false, false, false, false, false, false, false, false] (by repeat (first | exact PanicOk.body | refine PanicOk.then ?_ | refine PanicOk.block ?_)) rfl rfl (by kernel_rfl) rfl rfl (Gives.conv (k := .i64) (k' := .u64) rfl rfl Try.underlying3 Try.underlying79 rfl) ?_
 refine GA.take 3 #[true, true, true, true, false, false, false, false, false, false, false] (by repeat (first | exact PanicOk.body | refine PanicOk.then ?_ | refine PanicOk.block ?_)) rfl rfl (by kernel_rfl) rfl rfl (fun _ h => h) (Gives.remk rfl rfl rfl (by omega) (by omega)) ?_
 refine GA.pure 4 #[true, true, true, true, true, false, false, false, false, false, false] (by repeat (first | exact PanicOk.body | refine PanicOk.then ?_ | refine PanicOk.block ?_)) rfl rfl (by kernel_rfl) rfl rfl (Gives.move rfl rfl) ?_
 refine GA.pure 5 #[true, true, true, true, true, true, false, false, false, false, false] (by repeat (first | exact PanicOk.body | refine PanicOk.then ?_ | refine PanicOk.block ?_)) rfl rfl (by kernel_rfl) rfl rfl (Gives.move rfl rfl) ?_
 refine GA.pure 6 #[true, true, true, true, true, true, true, false, false, false, false] (by repeat (first | exact PanicOk.body | refine PanicOk.then ?_ | refine PanicOk.block ?_)) rfl rfl (by kernel_rfl) rfl rfl (Gives.conv (k := .i64) (k' := .u64) rfl rfl Try.underlying3 Try.underlying79 rfl) ?_
 refine GA.take 7 #[true, true, true, true, true, true, true, true, false, false, false] (by repeat (first | exact PanicOk.body | refine PanicOk.then ?_ | refine PanicOk.block ?_)) rfl rfl (by kernel_rfl) rfl rfl (fun _ h => h) (Gives.remk rfl rfl rfl (by omega) (by omega)) ?_
 refine GA.pure 8 #[true, true, true, true, true, true, true, true, true, false, false] (by repeat (first | exact PanicOk.body | refine PanicOk.then ?_ | refine PanicOk.block ?_)) rfl rfl (by kernel_rfl) rfl rfl (Gives.addk rfl rfl rfl (wrap_u64 (by omega))) ?_
 refine GA.take 9 #[true, true, true, true, true, true, true, true, true, true, false] (by repeat (first | exact PanicOk.body | refine PanicOk.then ?_ | refine PanicOk.block ?_)) rfl rfl (by kernel_rfl) rfl rfl (fun _ h => h) (Gives.slBoth rfl rfl rfl rfl Try.underlying9 (by omega) (by omega) (by show n % 10 + 1 ≤ 16; omega)) ?_
 refine GA.learn (t := 21) (v' := .string (strOf [48 + n % 10])) rfl (congrArg Value.string (sgn_ext (k := n % 10) (by omega))) ?_
 refine GA.pure 10 #[true, true, true, true, true, true, true, true, true, true, true] (by repeat (first | exact PanicOk.body | refine PanicOk.then ?_ | refine PanicOk.block ?_)) rfl rfl (by kernel_rfl) rfl rfl (Gives.assign rfl rfl) ?_
 refine GA.done (by kernel_rfl) ?_
 refine GQ.thenN ?_
 refine GC.seq ?_
 refine GC.seq ?_
 refine GC.region ?_
 refine GL.gives rfl rfl rfl (Gives.move rfl rfl) ?_
 refine GL.gives rfl rfl rfl (Gives.move rfl rfl) ?_
 refine GL.gives rfl rfl rfl (Gives.conv (k := .i64) (k' := .u64) rfl rfl Try.underlying3 Try.underlying79 rfl) ?_
 refine GL.gives rfl rfl rfl (Gives.lss rfl rfl rfl) ?_
 refine GL.nil ?_
 refine GQ.thenN ?_
 refine GC.split (t := 25) rfl (fun h25 => ?_) (fun h25 => ?_)
 ·
   replace h25 := of_decide_eq_true h25
   refine GC.condT rfl rfl ?_
   refine GC.seq ?_
   refine GC.region ?_
   refine GL.gives rfl rfl rfl (Gives.move rfl rfl) ?_
   refine GL.gives rfl rfl rfl (Gives.assign rfl rfl) ?_
   refine GL.nil ?_
   refine GQ.thenN ?_
   refine GC.ret ?_
   refine GQ.thenR ?_
   refine GQ.ret1 (.inl rfl) rfl rfl ?_
   intro w hs
   exact ⟨(), by rw [dg_small hn.1 h25, show n % 10 = n by omega], trivial, hs⟩
 ·
   replace h25 := of_decide_eq_false h25
   refine GC.condF rfl rfl ?_
   refine GC.skip ?_
   refine GQ.thenN ?_
   refine GC.seq ?_
   refine GC.region ?_
   refine GL.gives rfl rfl rfl (Gives.move rfl rfl) ?_
   refine GL.gives rfl rfl rfl (Gives.move rfl rfl) ?_
   refine GL.gives rfl rfl rfl (Gives.conv (k := .i64) (k' := .u64) rfl rfl Try.underlying3 Try.underlying79 rfl) ?_
   refine GL.gives rfl rfl rfl (Gives.quok rfl rfl rfl (by omega) (by omega) (wrap_u64 (by omega))) ?_
   refine GL.gives rfl rfl rfl (Gives.move rfl rfl) ?_
   refine GL.does [] rfl rfl rfl rfl (Does.call rfl rfl Try.func53 rfl rfl (ih (by omega) _)) fun _ _ => ?_
   refine GL.gives rfl rfl rfl (Gives.move rfl rfl) ?_
   have hl := dg_len (n := n / 10) (by omega)
   refine GL.gives rfl rfl rfl (Gives.adds rfl rfl rfl (by rw [strOf_size, strOf_size]; simp; omega)) ?_
   refine GL.gives rfl rfl rfl (Gives.assign rfl rfl) ?_
   refine GL.nil ?_
   refine GQ.thenN ?_
   refine GC.ret ?_
   refine GQ.ret1 (.inl rfl) rfl rfl ?_
   intro w hs
   exact ⟨(), by rw [← strOf_append, ← dg_more (by omega)], trivial, hs⟩

theorem rbase_con (n : Int) (hn : 0 ≤ n ∧ n ≤ 18446744073709551615) (S : World → Prop) : Con Try.prog 53 [.int .u64 n, .int .i64 10] S [] (fun _ : Unit => .string (strOf (dg n))) (fun _ => True) (fun _ => []) := by
  have key : ∀ (k : Nat) (n : Int), n.toNat < k → 0 ≤ n ∧ n ≤ 18446744073709551615 → ∀ S, Con Try.prog 53 [.int .u64 n, .int .i64 10] S [] (fun _ : Unit => .string (strOf (dg n))) (fun _ => True) (fun _ => []) := by
    intro k
    induction k with
    | zero => intro n h; omega
    | succ k ih => exact fun n h hn S => rbase_step n hn S (fun h10 S' => ih (n / 10) (by omega) (by omega) S')
  exact key (n.toNat + 1) n (by omega) hn S
set_option maxRecDepth 100000 in
set_option maxHeartbeats 1000000 in
theorem rtext_con (n : Int) (hn : -9223372036854775808 ≤ n ∧ n ≤ 9223372036854775807) (S : World → Prop) : Con Try.prog 33 [.int .i64 n] S [] (fun _ : Unit => .string (txt n)) (fun _ => True) (fun _ => []) := by
 intro w F0 hS hs hlt
 refine enter (args := [.int .i64 n]) Try.func33 rfl rfl rfl hs ?_
 refine GC.seq ?_
 refine GC.region ?_
 refine GL.gives rfl rfl rfl (Gives.assign rfl rfl) ?_
 refine GL.nil ?_
 refine GQ.thenN ?_
 refine GC.seq ?_
 refine GC.seq ?_
 refine GC.region ?_
 refine GL.gives rfl rfl rfl (Gives.move rfl rfl) ?_
 refine GL.gives rfl rfl rfl (Gives.geq rfl rfl rfl) ?_
 refine GL.nil ?_
 refine GQ.thenN ?_
 refine GC.split (t := 4) rfl (fun h4 => ?_) (fun h4 => ?_)
 ·
   replace h4 := of_decide_eq_true h4
   refine GC.condT rfl rfl ?_
   refine GC.seq ?_
   refine GC.region ?_
   refine GL.gives rfl rfl rfl (Gives.move rfl rfl) ?_
   refine GL.gives rfl rfl rfl (Gives.conv (k := .i64) (k' := .u64) rfl rfl Try.underlying3 Try.underlying79 (wrap_u64 (by omega))) ?_
   refine GL.does [] rfl rfl rfl rfl (Does.call rfl rfl Try.func53 rfl rfl (rbase_con n (by omega) _)) fun _ _ => ?_
   refine GL.gives rfl rfl rfl (Gives.assign rfl rfl) ?_
   refine GL.nil ?_
   refine GQ.thenN ?_
   refine GC.ret ?_
   refine GQ.thenR ?_
   refine GQ.ret1 (.inl rfl) rfl rfl ?_
   intro w hs
   exact ⟨(), by rw [txt_pos (by omega)], trivial, hs⟩
 ·
   replace h4 := of_decide_eq_false h4
   refine GC.condF rfl rfl ?_
   refine GC.skip ?_
   refine GQ.thenN ?_
   refine GC.seq ?_
   refine GC.region ?_
   refine GL.gives rfl rfl rfl (Gives.move rfl rfl) ?_
   refine GL.gives rfl rfl rfl (show Gives _ _ _ _ _ (.int .u64 (n + 18446744073709551616)) from (show IntKind.u64.wrap n = n + 18446744073709551616 from by have : IntKind.u64.wrap n = n % 18446744073709551616 := (by simp [IntKind.wrap, IntKind.bits, IntKind.signed]); omega) ▸ Gives.convw (k := .i64) rfl rfl Try.underlying3 Try.underlying79) ?_
   refine GL.gives rfl rfl rfl (show Gives _ _ _ _ _ (.int .u64 (0 - n)) from (show IntKind.u64.wrap (0 - (n + 18446744073709551616)) = 0 - n from by have : IntKind.u64.wrap (0 - (n + 18446744073709551616)) = (0 - (n + 18446744073709551616)) % 18446744073709551616 := (by simp [IntKind.wrap, IntKind.bits, IntKind.signed]); omega) ▸ Gives.subw rfl rfl rfl) ?_
   refine GL.does [] rfl rfl rfl rfl (Does.call rfl rfl Try.func53 rfl rfl (rbase_con (0 - n) (by omega) _)) fun _ _ => ?_
   have hl := dg_len (n := 0 - n) (by omega)
   refine GL.gives rfl rfl rfl (Gives.adds rfl rfl rfl (by rw [strOf_size]; show 1 + _ ≤ _; omega)) ?_
   refine GL.gives rfl rfl rfl (Gives.assign rfl rfl) ?_
   refine GL.nil ?_
   refine GQ.thenN ?_
   refine GC.ret ?_
   refine GQ.ret1 (.inl rfl) rfl rfl ?_
   intro w hs
   exact ⟨(), by rw [strOf45, txt_neg (by omega)], trivial, hs⟩

end Go.Proofs.Yteckdfgllipilaa.NV
