/- Where a variable stands among others by rising names. -/
import Derived.Test.YteckdfgllipilaaNW
import Derived.Test.YteckdfgllipilaaShelf
namespace Go.Proofs.Yteckdfgllipilaa.VP
open Go.RowKit Go.Proofs.YteckdfgllipilaaW.PrintWords Go.Proofs.YteckdfgllipilaaW.PrintLast Go.Proofs.YteckdfgllipilaaS Go.Proofs.Yteckdfgllipilaa.NU Go.Proofs.Yteckdfgllipilaa.NV Go.Proofs.Yteckdfgllipilaa.NW

abbrev VT := ByteArray × ByteArray
def kV : Kd VT := Kd.pair Kd.string Kd.string
theorem kV_flat : Flat kV := flat_pair flat_string flat_string
theorem kV_now : NoW kV := now_pair (a := Kd.string) (b := Kd.string) now_scalar now_scalar
theorem kV_encs : Encs kV (fun x => [.string x.1, .string x.2]) := fun w x cs h => encs_pair (a := Kd.string) (b := Kd.string) encs_scalar encs_scalar w x cs h
def zV : VT := (⟨#[]⟩, ⟨#[]⟩)
/-! ### the order of texts -/
theorem cmp_lt : ∀ (a b : List UInt8), (Lib.compareBytes a b < 0 ↔ a < b) ∧ (Lib.compareBytes a b = 0 ↔ a = b) ∧ -1 ≤ Lib.compareBytes a b ∧ Lib.compareBytes a b ≤ 1
  | [], [] => by simp [Lib.compareBytes]
  | [], _ :: _ => by simp [Lib.compareBytes]
  | _ :: _, [] => by simp [Lib.compareBytes]
  | a :: x, b :: y => by
    have ih := cmp_lt x y
    rw [Lib.compareBytes, List.cons_lt_cons_iff]
    by_cases h1 : a < b
    · rw [if_pos h1]
      refine ⟨by simp [h1], ?_, by omega, by omega⟩
      constructor
      · intro h; omega
      · intro h; injection h with h2 h3; subst h2; exact absurd h1 (UInt8.lt_irrefl _)
    · rw [if_neg h1]
      by_cases h2 : b < a
      · rw [if_pos h2]
        have hne : a ≠ b := fun e => by subst e; exact UInt8.lt_irrefl _ h2
        refine ⟨by simp [h1, hne], ?_, by omega, by omega⟩
        constructor
        · intro h; omega
        · intro h; injection h with h3 h4; exact absurd h3 hne
      · rw [if_neg h2]
        have he : a = b := UInt8.le_antisymm (UInt8.not_lt.1 h2) (UInt8.not_lt.1 h1)
        subst he
        refine ⟨by simp [ih.1, h1], ?_, ih.2.2.1, ih.2.2.2⟩
        rw [ih.2.1]
        constructor
        · intro h; rw [h]
        · intro h; injection h
def cmpS (a b : ByteArray) : Int := Lib.compareBytes a.data.toList b.data.toList
theorem cmp_slt {a b : ByteArray} : cmpS a b < 0 ↔ slt a b := (cmp_lt _ _).1
theorem cmp_eq {a b : ByteArray} : cmpS a b = 0 ↔ a = b := by
  unfold cmpS
  rw [(cmp_lt _ _).2.1]
  constructor
  · intro h; exact ByteArray.ext (Array.toList_inj.1 h)
  · rintro rfl; rfl
theorem slt_irrefl (a : ByteArray) : ¬ slt a a := List.lt_irrefl _
theorem slt_trans {a b c : ByteArray} (h : slt a b) (h' : slt b c) : slt a c := List.lt_trans h h'
theorem slt_asymm {a b : ByteArray} (h : slt a b) : ¬ slt b a := List.lt_asymm h
theorem slt_total {a b : ByteArray} (h : ¬ slt a b) (h' : ¬ slt b a) : a = b := by
  have h1 : b.data.toList ≤ a.data.toList := List.not_lt.mp h
  rcases List.le_iff_lt_or_eq.mp h1 with h2 | h2
  · exact absurd h2 h'
  · exact (ByteArray.ext (Array.toList_inj.1 h2)).symm
/-- By rising names. -/
def Up (V : List VT) : Prop := V.Pairwise (fun x y => slt x.1 y.1)
theorem rd_at {V : List VT} {k : Int} (h0 : 0 ≤ k) (h1 : k < V.length) : ∃ h : k.toNat < V.length, rdOf zV V k = V[k.toNat]'h := by
  have h : k.toNat < V.length := by omega
  exact ⟨h, by simp [rdOf, List.getD_eq_getElem?_getD, List.getElem?_eq_getElem h]⟩
theorem Up.at {V : List VT} (h : Up V) {i j : Int} (h0 : 0 ≤ i) (hij : i < j) (hj : j < V.length) : slt (rdOf zV V i).1 (rdOf zV V j).1 := by
  obtain ⟨hi', e1⟩ := rd_at (V := V) h0 (by omega)
  obtain ⟨hj', e2⟩ := rd_at (V := V) (k := j) (by omega) hj
  rw [e1, e2]
  exact List.pairwise_iff_getElem.1 h _ _ hi' hj' (by omega)
/-- Where a name stands: how many names are less. -/
structure At (V : List VT) (s : ByteArray) (i : Int) : Prop where
  bd : 0 ≤ i ∧ i ≤ V.length
  lo : ∀ k, 0 ≤ k → k < i → slt (rdOf zV V k).1 s
  hi : ∀ k, i ≤ k → k < V.length → ¬ slt (rdOf zV V k).1 s
theorem At.found {V : List VT} {s : ByteArray} {i : Int} (h : At V s i) (hu : Up V) {k : Int} (h0 : 0 ≤ k) (h1 : k < V.length) (he : (rdOf zV V k).1 = s) : k = i := by
  rcases Int.lt_trichotomy k i with hl | h | hl
  · have := h.lo k h0 hl; rw [he] at this; exact absurd this (slt_irrefl _)
  · exact h
  · have := hu.at h.bd.1 hl h1
    rw [he] at this
    exact absurd this (h.hi i (Int.le_refl _) (by omega))
theorem ret2b {v : Value} {a b : Bool} (h : a = b) : Ending.returned (.tuple #[v, .bool a]) = Ending.returned (.tuple #[v, .bool b]) := by rw [h]
theorem compare_con (a b : ByteArray) (S : World → Prop) : Con Try.prog 52 [.string a, .string b] S [] (fun _ : Unit => .int .i64 (cmpS a b)) (fun _ => True) (fun _ => []) := Con.below fun w _ => (Go.Proofs.Try.strings_Compare a b w).mono fun e w' h => ⟨h.1, by rw [h.2]; exact Below.refl _ _⟩

theorem mixed_ : Try.prog.follows .mixedOrders = true := by kernel_rfl
theorem ag26 (w : World) : (isAgg 26).run Try.prog w = .ok true w := by kernel_rfl
theorem pl9 : Plain Try.prog 9 := plain_string Try.underlying9
theorem sz26 (w : World) : (sizeOf 26).run Try.prog w = .ok 2 w := by kernel_rfl
set_option maxRecDepth 100000 in
set_option maxHeartbeats 1000000 in
theorem cmp_con (a b s : ByteArray) (S : World → Prop) : Con Try.prog 51 [.agg #[.string a, .string b], .string s] S [] (fun _ : Unit => .int .i64 (cmpS a s)) (fun _ => True) (fun _ => []) := by
 refine Con.of_none fun w hS => ?_
 have hs : Sep w (fun _ => False) [] := trivial
 obtain ⟨B, hBB⟩ : ∃ B, B = w.heap.size := ⟨_, rfl⟩
 have hB : B ≤ w.heap.size := Nat.le_of_eq hBB
 refine enter (args := [.agg #[.string a, .string b], .string s]) Try.func51 rfl rfl rfl hs ?_
 refine GC.seq ?_
 refine GC.region ?_
 refine GL.does [] rfl rfl rfl rfl (Does.box (cs := #[.string a, .string b]) (Bs hB) rfl rfl rfl) fun g1 hg1 => ?_
 refine GL.gives rfl rfl rfl (Gives.assign rfl rfl) ?_
 refine GL.nil ?_
 refine GQ.thenN ?_
 refine GC.seq ?_
 refine GC.region ?_
 refine GL.gives rfl rfl rfl (Gives.fieldAddr (q := ⟨g1, 0, none⟩) rfl rfl (fun _ => by kernel_rfl)) ?_
 refine GL.gives rfl rfl rfl (Gives.loadc (v := .string a) 0 rfl rfl pl9 rfl rfl) ?_
 refine GL.gives rfl rfl rfl (Gives.move rfl rfl) ?_
 refine GL.does [] rfl rfl rfl rfl (Does.call rfl rfl Try.func52 rfl rfl (compare_con a s _)) fun _ _ => ?_
 refine GL.gives rfl rfl rfl (Gives.assign rfl rfl) ?_
 refine GL.nil ?_
 refine GQ.thenN ?_
 refine GC.ret ?_
 refine GQ.ret1 (.inl rfl) rfl rfl ?_
 intro w' hs
 exact ⟨(), rfl, trivial, hs.nil⟩

set_option maxRecDepth 100000 in
set_option maxHeartbeats 1000000 in
theorem search_con (A : Option Addr) (n c : Nat) (V : List VT) (s : ByteArray) (hu : Up V) (hn : n ≤ 4611686018427387904) (S : World → Prop) (hC : ∀ w, S w → kV.C w A n V) : Con Try.prog 50 [.slice A n c, .string s, .func (.func 51) #[] #[]] S [] (fun i : Int => .tuple #[.int .i64 i, .bool (decide (i < n ∧ (rdOf zV V i).1 = s))]) (fun i => At V s i) (fun _ => []) := by
 refine Con.of_none fun w hS => ?_
 have hs : Sep w (fun _ => False) [] := trivial
 have hlen := (C_lenm (hC w hS)).1
 refine enter (args := [.slice A n c, .string s, .func (.func 51) #[] #[]]) Try.func50 rfl rfl rfl hs ?_
 refine GC.seq ?_
 refine GC.region ?_
 refine GL.gives rfl rfl rfl (Gives.assign rfl rfl) ?_
 refine GL.gives rfl rfl rfl (Gives.assign rfl rfl) ?_
 refine GL.nil ?_
 refine GQ.thenN ?_
 refine GC.seq ?_
 refine GC.region ?_
 refine GL.gives rfl rfl rfl (Gives.move rfl rfl) ?_
 refine GL.gives rfl rfl rfl (Gives.len rfl rfl Try.underlying22) ?_
 refine GL.gives rfl rfl rfl (Gives.assign rfl rfl) ?_
 refine GL.nil ?_
 refine GQ.thenN ?_
 refine GC.seq ?_
 refine GC.region ?_
 refine GL.gives rfl rfl rfl (Gives.move rfl rfl) ?_
 refine GL.gives rfl rfl rfl (Gives.assign rfl rfl) ?_
 refine GL.gives rfl rfl rfl (Gives.assign rfl rfl) ?_
 refine GL.nil ?_
 refine GQ.thenN ?_
 refine GC.seq ?_
 refine GC.block ?_
 refine GC.loop (σ := Int × Int) (fun t => [(0, .slice A n c), (1, .string s), (2, .func (.func 51) #[] #[]), (8, .int .i64 ((n : Nat) : Int)), (9, .int .i64 t.1), (10, .int .i64 t.2)]) (fun _ => []) (fun t => (0 ≤ t.1 ∧ t.1 ≤ t.2 ∧ t.2 ≤ n) ∧ (∀ k, 0 ≤ k → k < t.1 → slt (rdOf zV V k).1 s) ∧ (∀ k, t.2 ≤ k → k < V.length → ¬ slt (rdOf zV V k).1 s)) (fun t => (t.2 - t.1).toNat) (0, ((n : Nat) : Int)) [] ⟨⟨by omega, by omega, by omega⟩, fun k h0 h1 => by omega, fun k h0 h1 => by omega⟩ ⟨rfl, rfl, rfl, rfl, rfl, rfl, trivial⟩ rfl ?_
 rintro ⟨lo, hi⟩ ⟨⟨h0, h1, h2⟩, hlo, hhi⟩
 dsimp only at h0 h1 h2 hlo hhi ⊢
 refine GC.seq ?_
 refine GC.seq ?_
 refine GC.region ?_
 refine GL.gives rfl rfl rfl (Gives.move rfl rfl) ?_
 refine GL.gives rfl rfl rfl (Gives.move rfl rfl) ?_
 refine GL.gives rfl rfl rfl (Gives.lss rfl rfl rfl) ?_
 refine GL.nil ?_
 refine GQ.thenN ?_
 refine GC.split (t := 17) rfl (fun h17 => ?_) (fun h17 => ?_)
 ·
   replace h17 := of_decide_eq_true h17
   refine GC.condT rfl rfl ?_
   refine GC.skip ?_
   refine GQ.thenN ?_
   refine GC.block ?_
   refine GC.seq ?_
   refine GC.region ?_
   refine GL.gives rfl rfl rfl (Gives.move rfl rfl) ?_
   refine GL.gives rfl rfl rfl (Gives.move rfl rfl) ?_
   refine GL.gives rfl rfl rfl (Gives.add rfl rfl rfl (by omega)) ?_
   refine GL.gives rfl rfl rfl (Gives.conv (k := .i64) (k' := .u64) rfl rfl Try.underlying3 Try.underlying103 (wrap_u64 (by omega))) ?_
   refine GL.gives rfl rfl rfl (Gives.bin (v := .int .u64 ((lo + hi) / 2)) rfl rfl rfl (eqGuard_shr _ _ _ _ _) (fun w => by rw [binOp_shr, shift_shr_any _ _ _ _ (by omega), Nat.min_eq_left (by simp [IntKind.bits])]; rfl)) ?_
   refine GL.gives rfl rfl rfl (Gives.conv (k := .u64) (k' := .i64) rfl rfl Try.underlying103 Try.underlying3 (wrap_i64 (by omega))) ?_
   obtain ⟨m, hm⟩ : ∃ m, m = (lo + hi) / 2 := ⟨_, rfl⟩
   rw [← hm]
   refine GL.gives rfl rfl rfl (Gives.assign rfl rfl) ?_
   refine GL.nil ?_
   refine GQ.thenN ?_
   refine GC.seq ?_
   refine GC.region ?_
   refine GL.gives rfl rfl rfl (Gives.move rfl rfl) ?_
   refine GL.gives rfl rfl rfl (Gives.move rfl rfl) ?_
   refine GL.gives rfl rfl rfl (Gives.move rfl rfl) ?_
   obtain ⟨p, hp⟩ := C_some (hC w hS) (by omega)
   subst hp
   refine GL.gives rfl rfl rfl (Gives.indexAddr (i := m) rfl rfl rfl Try.underlying22 sz26 (by omega) (by omega)) ?_
   refine GL.gives rfl rfl rfl (show Gives _ _ _ _ _ (.agg #[.string (rdOf zV V m).1, .string (rdOf zV V m).2]) from Gives.loadRow (kd := kV) (p := p) (m := n) (i := m) zV kV_encs rfl rfl ag26 sz26 (fun w' hs' => Kd.C_below (hC w hS) hs'.below) (by omega) (by omega)) ?_
   refine GL.gives rfl rfl rfl (Gives.move rfl rfl) ?_
   refine GL.does [] rfl rfl rfl rfl (Does.calld rfl rfl rfl Try.func51 rfl rfl (cmp_con ((rdOf zV V m).1) ((rdOf zV V m).2) s _)) fun _ _ => ?_
   refine GL.gives rfl rfl rfl (Gives.lss rfl rfl rfl) ?_
   refine GL.nil ?_
   refine GQ.thenN ?_
   refine GC.split (t := 31) rfl (fun h31 => ?_) (fun h31 => ?_)
   ·
     replace h31 := of_decide_eq_true h31
     refine GC.condT rfl rfl ?_
     refine GC.region ?_
     refine GL.gives rfl rfl rfl (Gives.move rfl rfl) ?_
     refine GL.gives rfl rfl rfl (Gives.add rfl rfl rfl (by omega)) ?_
     refine GL.gives rfl rfl rfl (Gives.assign rfl rfl) ?_
     refine GL.nil ?_
     refine GQ.blkN ?_
     refine GQ.back (m + 1, hi) [] ⟨⟨by dsimp only; omega, by dsimp only; omega, by dsimp only; omega⟩, fun k h3 h4 => ?_, hhi⟩ (by dsimp only; omega) ⟨rfl, rfl, rfl, rfl, rfl, rfl, trivial⟩ rfl
     rcases Int.lt_or_eq_of_le (show k ≤ m by dsimp only at h4; omega) with h5 | h5
     · exact slt_trans (hu.at h3 h5 (by omega)) (cmp_slt.1 h31)
     · subst h5; exact cmp_slt.1 h31
   ·
     replace h31 := of_decide_eq_false h31
     refine GC.condF rfl rfl ?_
     refine GC.region ?_
     refine GL.gives rfl rfl rfl (Gives.move rfl rfl) ?_
     refine GL.gives rfl rfl rfl (Gives.assign rfl rfl) ?_
     refine GL.nil ?_
     refine GQ.blkN ?_
     refine GQ.back (lo, m) [] ⟨⟨by dsimp only; omega, by dsimp only; omega, by dsimp only; omega⟩, hlo, fun k h3 h4 h5 => ?_⟩ (by dsimp only; omega) ⟨rfl, rfl, rfl, rfl, rfl, rfl, trivial⟩ rfl
     have h6 : ¬ slt (rdOf zV V m).1 s := fun h => h31 (cmp_slt.2 h)
     rcases Int.lt_or_eq_of_le (show m ≤ k from h3) with h7 | h7
     · exact h6 (slt_trans (hu.at (by omega) h7 h4) h5)
     · subst h7; exact h6 h5
 ·
   replace h17 := of_decide_eq_false h17
   refine GC.condF rfl rfl ?_
   refine GC.exit ?_
   refine GQ.thenX ?_
   refine GQ.thenX ?_
   refine GQ.blkX ?_
   refine GQ.thenN ?_
   refine GC.seq ?_
   refine GC.region ?_
   refine GL.gives rfl rfl rfl (Gives.move rfl rfl) ?_
   refine GL.gives rfl rfl rfl (Gives.move rfl rfl) ?_
   refine GL.gives rfl rfl rfl (Gives.move rfl rfl) ?_
   refine GL.gives rfl rfl rfl (Gives.lss rfl rfl rfl) ?_
   refine GL.gives rfl rfl rfl (Gives.move rfl rfl) ?_
   refine GL.split (t := 39) rfl (fun h39 => ?_) (fun h39 => ?_)
   ·
     replace h39 := of_decide_eq_true h39
     refine GL.gives rfl rfl rfl (Gives.move rfl rfl) ?_
     refine GL.gives rfl rfl rfl (Gives.move rfl rfl) ?_
     refine GL.gives rfl rfl rfl (Gives.move rfl rfl) ?_
     obtain ⟨p, hp⟩ := C_some (hC w hS) (by omega)
     subst hp
     refine GL.gives rfl rfl rfl (Gives.indexAddr (i := lo) rfl rfl rfl Try.underlying22 sz26 (by omega) (by omega)) ?_
     refine GL.gives rfl rfl rfl (show Gives _ _ _ _ _ (.agg #[.string (rdOf zV V lo).1, .string (rdOf zV V lo).2]) from Gives.loadRow (kd := kV) (p := p) (m := n) (i := lo) zV kV_encs rfl rfl ag26 sz26 (fun w' hs' => Kd.C_below (hC w hS) hs'.below) (by omega) (by omega)) ?_
     refine GL.gives rfl rfl rfl (Gives.move rfl rfl) ?_
     refine GL.does [] rfl rfl rfl rfl (Does.calld rfl rfl rfl Try.func51 rfl rfl (cmp_con ((rdOf zV V lo).1) ((rdOf zV V lo).2) s _)) fun _ _ => ?_
     refine GL.gives rfl rfl rfl (Gives.eqi rfl rfl rfl) ?_
     refine GL.gives rfl rfl rfl (Gives.pickT rfl rfl rfl rfl) ?_
     refine GL.gives rfl rfl rfl (Gives.assign rfl rfl) ?_
     refine GL.gives rfl rfl rfl (Gives.assign rfl rfl) ?_
     refine GL.nil ?_
     refine GQ.thenN ?_
     refine GC.ret ?_
     refine GQ.ret2 (.inl rfl) rfl rfl rfl ?_
     obtain rfl : lo = hi := by omega
     intro w' hs
     refine ⟨lo, ?_, ⟨⟨by omega, by omega⟩, hlo, hhi⟩, hs⟩
     have he : (cmpS (rdOf zV V lo).1 s == 0) = decide ((rdOf zV V lo).1 = s) := by
       by_cases h : (rdOf zV V lo).1 = s
       · rw [decide_eq_true h, cmp_eq.2 h]; rfl
       · rw [decide_eq_false h]; exact beq_false_of_ne (fun h' => h (cmp_eq.1 h'))
     rw [he]
     refine ret2b ?_
     exact decide_eq_decide.2 ⟨fun h => ⟨by omega, h⟩, fun h => h.2⟩
   ·
     replace h39 := of_decide_eq_false h39
     refine GL.skip rfl rfl rfl ?_
     refine GL.skip rfl rfl rfl ?_
     refine GL.skip rfl rfl rfl ?_
     refine GL.skip rfl rfl rfl ?_
     refine GL.skip rfl rfl rfl ?_
     refine GL.skip rfl rfl rfl ?_
     refine GL.skip rfl rfl rfl ?_
     refine GL.skip rfl rfl rfl ?_
     refine GL.gives rfl rfl rfl (Gives.pickF rfl rfl rfl rfl) ?_
     refine GL.gives rfl rfl rfl (Gives.assign rfl rfl) ?_
     refine GL.gives rfl rfl rfl (Gives.assign rfl rfl) ?_
     refine GL.nil ?_
     refine GQ.thenN ?_
     refine GC.ret ?_
     refine GQ.ret2 (.inl rfl) rfl rfl rfl ?_
     obtain rfl : lo = hi := by omega
     intro w' hs
     refine ⟨lo, ?_, ⟨⟨by omega, by omega⟩, hlo, hhi⟩, hs⟩
     refine ret2b ?_
     exact (decide_eq_false (fun h => by omega)).symm

end Go.Proofs.Yteckdfgllipilaa.VP
