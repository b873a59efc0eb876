/- The document's table of variables: the other calls. -/
import Derived.Test.YteckdfgllipilaaVR
import Derived.Test.YteckdfgllipilaaVN
namespace Go.Proofs.Yteckdfgllipilaa.VQ
open Go.RowKit Go.Proofs.YteckdfgllipilaaW.PrintWords Go.Proofs.YteckdfgllipilaaW.PrintLast Go.Proofs.YteckdfgllipilaaS Go.Proofs.Yteckdfgllipilaa.NU Go.Proofs.Yteckdfgllipilaa.NV Go.Proofs.Yteckdfgllipilaa.NW Go.Proofs.Yteckdfgllipilaa.VP Go.Proofs.Yteckdfgllipilaa.VT Go.Proofs.Yteckdfgllipilaa.VU Go.Proofs.Yteckdfgllipilaa.VI Go.Proofs.Yteckdfgllipilaa.VD Go.Proofs.Yteckdfgllipilaa.VS Go.Proofs.Yteckdfgllipilaa.VR Go.Proofs.Yteckdfgllipilaa.VN

theorem del_next (V : List VT) (s : ByteArray) {k : Int} (h0 : 0 ≤ k) (h1 : k < V.length) : delV (V.take (k + 1).toNat) s = if (rdOf zV V k).1 = s then delV (V.take k.toNat) s else delV (V.take k.toNat) s ++ [rdOf zV V k] := by
  rw [take_next h0 h1]
  unfold delV
  rw [List.filter_append]
  split
  · rename_i h; simp [h]
  · rename_i h; simp [h]
theorem jn_next (xs : List ByteArray) {k : Int} (h0 : 0 ≤ k) : jnTo xs (k + 1).toNat = if k = 0 then rdOf e0 xs k else (jnTo xs k.toNat ++ ⟨#[32]⟩) ++ rdOf e0 xs k := by
  rw [show (k + 1).toNat = k.toNat + 1 by omega, jnTo]
  by_cases h : k = 0
  · subst h; rfl
  · rw [if_neg (by omega), if_neg h]; rfl
theorem jn_first (xs : List ByteArray) {k : Int} (h : k = 0) : jnTo xs (k + 1).toNat = jnTo xs k.toNat ++ rdOf e0 xs k := by
  subst h
  apply ByteArray.ext
  show (xs.getD 0 ⟨#[]⟩).data = (e0 ++ rdOf e0 xs 0).data
  rw [ByteArray.data_append]
  simp [rdOf]
theorem rd_size {m : T} (hm : m.Ok) (k : Int) (h0 : 0 ≤ k) (h1 : k < m.A.length) : (rdOf e0 m.A k).size ≤ 4096 := by
  have hk : k.toNat < m.A.length := by omega
  have : rdOf e0 m.A k = m.A[k.toNat] := by simp [rdOf, List.getD_eq_getElem?_getD, List.getElem?_eq_getElem hk]
  rw [this]
  exact hm.lA _ (List.getElem_mem hk)

theorem mixed_ : Try.prog.follows .mixedOrders = true := by kernel_rfl
theorem ag26 (w : World) : (isAgg 26).run Try.prog w = .ok true w := by kernel_rfl
theorem ag36 (w : World) : (isAgg 36).run Try.prog w = .ok true w := by kernel_rfl
theorem al36 (w : World) : (Instr.alloc 36 true (.tuple #[])).run Try.prog w = .ok (.pointer (some ⟨w.heap.size, 0, none⟩)) (w.alloc (.cells #[.slice none 0 0, .slice none 0 0, .int .i64 0] 36 (0, 0))) := by kernel_rfl
theorem in26 : (Try.prog.info? 26).map (fun i => (i.zero, i.size, i.bytes)) = some (some (.agg #[.string (⟨#[]⟩ : ByteArray), .string (⟨#[]⟩ : ByteArray)]), 2, 32) := by kernel_rfl
theorem pl9 : Plain Try.prog 9 := plain_string Try.underlying9
theorem pl22 : Plain Try.prog 22 := plain_slice Try.underlying22
theorem pl23 : Plain Try.prog 23 := plain_slice Try.underlying23
theorem sz9 (w : World) : (sizeOf 9).run Try.prog w = .ok 1 w := by kernel_rfl
theorem sz22 (w : World) : (sizeOf 22).run Try.prog w = .ok 1 w := by kernel_rfl
theorem sz23 (w : World) : (sizeOf 23).run Try.prog w = .ok 1 w := by kernel_rfl
theorem sz26 (w : World) : (sizeOf 26).run Try.prog w = .ok 2 w := by kernel_rfl
theorem sz36 (w : World) : (sizeOf 36).run Try.prog w = .ok 3 w := by kernel_rfl
set_option maxRecDepth 100000 in
set_option maxHeartbeats 1000000 in
theorem runset_con (B : Nat) (Av Aa : Option Addr) (cv ca : Nat) (m : T) (hm : m.Ok) (a : ByteArray) (S : World → Prop) (hBS : ∀ w, S w → B ≤ w.heap.size) (hCV : ∀ w, S w → kV.C w Av m.V.length m.V) :
    Con Try.prog 26 [.agg #[.slice Av m.V.length cv, .slice Aa m.A.length ca, .int .i64 m.st], .string a] S [] (fun v : Value => .agg #[v, .slice Aa m.A.length ca, .int .i64 m.st]) (fun v => True) (fun v => [Row B kV 26 v (delV m.V a)]) := by
 have hnV := hm.nV
 have hnA := hm.nA
 have hst := hm.st
 refine Con.of_none fun w hS => ?_
 have hs : Sep w (fun _ => False) [] := trivial
 have hB := hBS w hS
 have hlV := (C_lenm (hCV w hS)).1
 have hV := fun (w' : World) (M : List Atom) (h : St w (fun _ => False) w' M) => Kd.C_below (hCV w hS) h.below
 refine enter (args := [.agg #[.slice Av m.V.length cv, .slice Aa m.A.length ca, .int .i64 m.st], .string a]) Try.func26 rfl rfl rfl hs ?_
 refine GC.seq ?_
 refine GC.region ?_
 refine GL.does [] rfl rfl rfl rfl (Does.box (cs := #[.slice Av m.V.length cv, .slice Aa m.A.length ca, .int .i64 m.st]) (Bs hB) rfl rfl rfl) fun gt hgt => ?_
 refine GL.does [] rfl rfl rfl rfl (Does.alloc (Bs hB) rfl al36) fun gr hgr => ?_
 refine GL.nil ?_
 refine GQ.thenN ?_
 refine GC.seq ?_
 refine GC.region ?_
 refine GL.gives rfl rfl rfl (Gives.assign rfl rfl) ?_
 refine GL.nil ?_
 refine GQ.thenN ?_
 refine GC.seq ?_
 refine GC.seq ?_
 refine GC.region ?_
 refine GL.gives rfl rfl rfl (Gives.assign rfl rfl) ?_
 refine GL.nil ?_
 refine GQ.thenN ?_
 refine GC.block ?_
 refine GC.turn [] rfl (Turns.nilRow (B := B) (e := 26) kV) ?_
 refine GC.loop (σ := Int × Value) (fun s => [(1, .string a), (2, .pointer (some ⟨gt, 0, none⟩)), (4, .pointer (some ⟨gr, 0, none⟩)), (5, s.2), (6, .int .i64 s.1)]) (fun s => [Cells gt #[.slice Av m.V.length cv, .slice Aa m.A.length ca, .int .i64 m.st] 36, Cells gr #[.slice none 0 0, .slice none 0 0, .int .i64 0] 36, Row B kV 26 s.2 (delV (m.V.take s.1.toNat) a)]) (fun s => 0 ≤ s.1 ∧ s.1 ≤ m.V.length) (fun s => (m.V.length - s.1).toNat) (0, .slice none 0 0) [2, 1, 0] ⟨by simp, by simp⟩ ⟨rfl, rfl, rfl, rfl, rfl, trivial⟩ rfl ?_
 rintro ⟨k, v⟩ ⟨hk0, hk1⟩
 dsimp only at hk0 hk1 ⊢
 have hdl : (delV (m.V.take k.toNat) a).length ≤ 64 := by
     have := List.length_filter_le (fun x : VT => decide (x.1 ≠ a)) (m.V.take k.toNat)
     rw [List.length_take] at this
     show (List.filter _ _).length ≤ 64
     omega
 refine GC.seq ?_
 refine GC.seq ?_
 refine GC.region ?_
 refine GL.gives rfl rfl rfl (Gives.move rfl rfl) ?_
 refine GL.gives rfl rfl rfl (Gives.fieldAddr (q := ⟨gt, 0, none⟩) rfl rfl (fun _ => by kernel_rfl)) ?_
 refine GL.gives rfl rfl rfl (Gives.loadc (v := .slice Av m.V.length cv) 0 rfl rfl pl22 rfl rfl) ?_
 refine GL.gives rfl rfl rfl (Gives.len rfl rfl Try.underlying22) ?_
 refine GL.gives rfl rfl rfl (Gives.lss rfl rfl rfl) ?_
 refine GL.nil ?_
 refine GQ.thenN ?_
 refine GC.split (t := 11) rfl (fun h11 => ?_) (fun h11 => ?_)
 ·
   replace h11 := of_decide_eq_true h11
   refine GC.condT rfl rfl ?_
   refine GC.skip ?_
   refine GQ.thenN ?_
   refine GC.seq ?_
   refine GC.block ?_
   refine GC.seq ?_
   refine GC.region ?_
   refine GL.gives rfl rfl rfl (Gives.fieldAddr (q := ⟨gt, 0, none⟩) rfl rfl (fun _ => by kernel_rfl)) ?_
   refine GL.gives rfl rfl rfl (Gives.loadc (v := .slice Av m.V.length cv) 0 rfl rfl pl22 rfl rfl) ?_
   refine GL.gives rfl rfl rfl (Gives.move rfl rfl) ?_
   obtain ⟨p, hp⟩ := C_some (hCV w hS) (by omega)
   subst hp
   refine GL.gives rfl rfl rfl (Gives.indexAddr (i := k) rfl rfl rfl Try.underlying22 sz26 (by omega) (by omega)) ?_
   refine GL.gives rfl rfl rfl (Gives.fieldAddr (q := (p.add (k.toNat * 2))) rfl rfl (fun _ => by kernel_rfl)) ?_
   refine GL.gives rfl rfl rfl (Gives.load rfl rfl pl9 (fun w' hs' => (cV (hV w' _ hs') k (by omega) (by omega)).1)) ?_
   refine GL.gives rfl rfl rfl (Gives.move rfl rfl) ?_
   refine GL.gives rfl rfl rfl (Gives.nes rfl rfl rfl) ?_
   refine GL.nil ?_
   refine GQ.thenN ?_
   refine GC.split (t := 21) rfl (fun h21 => ?_) (fun h21 => ?_)
   ·
     replace h21 := str_neq h21
     refine GC.condT rfl rfl ?_
     refine GC.region ?_
     refine GL.gives rfl rfl rfl (Gives.move rfl rfl) ?_
     refine GL.gives rfl rfl rfl (Gives.fieldAddr (q := ⟨gt, 0, none⟩) rfl rfl (fun _ => by kernel_rfl)) ?_
     refine GL.gives rfl rfl rfl (Gives.loadc (v := .slice (some p) m.V.length cv) 0 rfl rfl pl22 rfl rfl) ?_
     refine GL.gives rfl rfl rfl (Gives.move rfl rfl) ?_
     refine GL.gives rfl rfl rfl (Gives.indexAddr (i := k) rfl rfl rfl Try.underlying22 sz26 (by omega) (by omega)) ?_
     refine GL.gives rfl rfl rfl (show Gives _ _ _ _ _ (.agg #[.string (rdOf zV m.V k).1, .string (rdOf zV m.V k).2]) from Gives.loadRow (kd := kV) (p := p) (m := m.V.length) (i := k) zV kV_encs rfl rfl ag26 sz26 (fun w' hs' => hV w' _ hs') (by omega) (by omega)) ?_
     refine GL.does [] rfl rfl rfl rfl (Does.lit (m := 1) (cs := #[.string (rdOf zV m.V k).1, .string (rdOf zV m.V k).2]) (e := 26) (Bs hB) rfl rfl (fun _ => by kernel_rfl)) fun g3 hg3 => ?_
     refine GL.does [3] rfl rfl rfl rfl (Does.appends (kd := kV) (Bs hB) rfl rfl rfl Try.underlying22 in26 rfl (by decide) (by decide) kV_flat (C_box (kd := kV) (i := 0) (p := (rdOf zV m.V k)) (inner := [.string (rdOf zV m.V k).1, .string (rdOf zV m.V k).2]) rfl (fun w => ⟨[_], [_], rfl, rfl, rfl⟩)) (by omega)) fun v2 _ => ?_
     refine GL.gives rfl rfl rfl (Gives.assign rfl rfl) ?_
     refine GL.nil ?_
     refine GQ.blkN ?_
     refine GQ.thenN ?_
     refine GC.region ?_
     refine GL.gives rfl rfl rfl (Gives.move rfl rfl) ?_
     refine GL.gives rfl rfl rfl (Gives.add rfl rfl rfl (by omega)) ?_
     refine GL.gives rfl rfl rfl (Gives.assign rfl rfl) ?_
     refine GL.nil ?_
     have hd := del_next m.V a hk0 (by omega)
     rw [if_neg h21] at hd
     refine GQ.back (k + 1, v2) [2, 2, 0] ⟨by dsimp only; omega, by dsimp only; omega⟩ (by dsimp only; omega) ⟨rfl, rfl, rfl, rfl, rfl, trivial⟩ (by dsimp only; rw [hd]; rfl)
   ·
     replace h21 := str_nne h21
     refine GC.condF rfl rfl ?_
     refine GC.skip ?_
     refine GQ.blkN ?_
     refine GQ.thenN ?_
     refine GC.region ?_
     refine GL.gives rfl rfl rfl (Gives.move rfl rfl) ?_
     refine GL.gives rfl rfl rfl (Gives.add rfl rfl rfl (by omega)) ?_
     refine GL.gives rfl rfl rfl (Gives.assign rfl rfl) ?_
     refine GL.nil ?_
     have hd := del_next m.V a hk0 (by omega)
     rw [if_pos h21] at hd
     refine GQ.back (k + 1, v) [0, 0, 0] ⟨by dsimp only; omega, by dsimp only; omega⟩ (by dsimp only; omega) ⟨rfl, rfl, rfl, rfl, rfl, trivial⟩ (by dsimp only; rw [hd]; rfl)
 ·
   replace h11 := of_decide_eq_false h11
   refine GC.condF rfl rfl ?_
   refine GC.exit ?_
   refine GQ.thenX ?_
   refine GQ.thenX ?_
   refine GQ.blkX ?_
   refine GQ.thenN ?_
   refine GC.seq ?_
   refine GC.know (one_row (i := 2) rfl) fun h1 => ?_
   refine GC.region ?_
   refine GL.gives rfl rfl rfl (Gives.move rfl rfl) ?_
   refine GL.gives rfl rfl rfl (Gives.fieldAddr (q := ⟨gt, 0, none⟩) rfl rfl (fun _ => by kernel_rfl)) ?_
   refine GL.does0 [0] rfl rfl rfl (Does.store rfl rfl rfl sz22 (cells_one h1) h1 rfl rfl) fun _ _ => ?_
   refine GL.nil ?_
   refine GQ.thenN ?_
   refine GC.seq ?_
   refine GC.region ?_
   refine GL.gives rfl rfl rfl (Gives.loadb (cs := #[v, .slice Aa m.A.length ca, .int .i64 m.st]) 0 rfl rfl ag36 sz36 rfl) ?_
   refine GL.does0 [1] rfl rfl rfl (Does.storeb rfl rfl rfl sz36 (by first | (simp [Value.oneCell']; done) | (simp [one_int, one_bool, one_string, one_slice, one_pointer, *]; done)) rfl) fun _ _ => ?_
   refine GL.nil ?_
   refine GQ.thenN ?_
   refine GC.ret ?_
   refine GQ.retS (v := .agg #[v, .slice Aa m.A.length ca, .int .i64 m.st]) (.inl rfl) rfl ⟨_, rfl, lv_agg (cs := #[v, .slice Aa m.A.length ca, .int .i64 m.st]) (i := 0) rfl ag36 sz36⟩ ?_
   intro w' hs
   obtain rfl : k = m.V.length := by omega
   rw [Int.toNat_natCast, List.take_length] at hs
   exact ⟨v, rfl, trivial, hs.take (is := [2]) rfl⟩

set_option maxRecDepth 100000 in
set_option maxHeartbeats 1000000 in
theorem rsetArgs_con (B : Nat) (Av Aa : Option Addr) (cv ca : Nat) (m : T) (hm : m.Ok) (A : Option Addr) (n c : Nat) (xs : List ByteArray) (S : World → Prop) (hBS : ∀ w, S w → B ≤ w.heap.size) (hC : ∀ w, S w → Kd.string.C w A n xs) :
    Con Try.prog 25 [.agg #[.slice Av m.V.length cv, .slice Aa m.A.length ca, .int .i64 m.st], .slice A n c] S [] (fun _ : Unit => .tuple #[.agg #[.slice Av m.V.length cv, (if (tArgs m xs).2 = 0 then .slice A n c else .slice Aa m.A.length ca), .int .i64 m.st], .int .i64 (tArgs m xs).2]) (fun _ => True) (fun _ => []) := by
 have hnV := hm.nV
 have hnA := hm.nA
 have hst := hm.st
 refine Con.of_none fun w hS => ?_
 have hs : Sep w (fun _ => False) [] := trivial
 have hB := hBS w hS
 have hlen := (C_lenm (hC w hS)).1
 refine enter (args := [.agg #[.slice Av m.V.length cv, .slice Aa m.A.length ca, .int .i64 m.st], .slice A n c]) Try.func25 rfl rfl rfl hs ?_
 refine GC.seq ?_
 refine GC.region ?_
 refine GL.does [] rfl rfl rfl rfl (Does.box (cs := #[.slice Av m.V.length cv, .slice Aa m.A.length ca, .int .i64 m.st]) (Bs hB) rfl rfl rfl) fun gt hgt => ?_
 refine GL.does [] rfl rfl rfl rfl (Does.alloc (Bs hB) rfl al36) fun gr hgr => ?_
 refine GL.gives rfl rfl rfl (Gives.assign rfl rfl) ?_
 refine GL.nil ?_
 refine GQ.thenN ?_
 refine GC.seq ?_
 refine GC.seq ?_
 refine GC.region ?_
 refine GL.gives rfl rfl rfl (Gives.move rfl rfl) ?_
 refine GL.gives rfl rfl rfl (Gives.len rfl rfl Try.underlying23) ?_
 refine GL.gives rfl rfl rfl (Gives.gtr rfl rfl rfl) ?_
 refine GL.nil ?_
 refine GQ.thenN ?_
 refine GC.split (t := 9) rfl (fun h9 => ?_) (fun h9 => ?_)
 ·
   replace h9 := of_decide_eq_true h9
   refine GC.condT rfl rfl ?_
   refine GC.seq ?_
   refine GC.region ?_
   refine GL.gives rfl rfl rfl (Gives.loadb (cs := #[.slice Av m.V.length cv, .slice Aa m.A.length ca, .int .i64 m.st]) 1 rfl rfl ag36 sz36 rfl) ?_
   refine GL.does0 [0] rfl rfl rfl (Does.storeb rfl rfl rfl sz36 (by first | (simp [Value.oneCell']; done) | (simp [one_int, one_bool, one_string, one_slice, one_pointer, *]; done)) rfl) fun _ _ => ?_
   refine GL.gives rfl rfl rfl (Gives.assign rfl rfl) ?_
   refine GL.nil ?_
   refine GQ.thenN ?_
   refine GC.ret ?_
   refine GQ.thenR ?_
   refine GQ.retT (vs := [.agg #[.slice Av m.V.length cv, .slice Aa m.A.length ca, .int .i64 m.st], .int .i64 2]) (.inl rfl) rfl rfl ⟨⟨_, rfl, lv_agg (cs := #[.slice Av m.V.length cv, .slice Aa m.A.length ca, .int .i64 m.st]) (i := 0) rfl ag36 sz36⟩, rfl, trivial⟩ ?_
   intro w' hs
   refine ⟨(), ?_, trivial, hs.nil⟩
   rw [show tArgs m xs = (m, 2) from if_pos (.inl (by omega))]
   rfl
 ·
   replace h9 := of_decide_eq_false h9
   refine GC.condF rfl rfl ?_
   refine GC.skip ?_
   refine GQ.thenN ?_
   refine GC.seq ?_
   refine GC.seq ?_
   refine GC.region ?_
   refine GL.gives rfl rfl rfl (Gives.assign rfl rfl) ?_
   refine GL.nil ?_
   refine GQ.thenN ?_
   refine GC.block ?_
   refine GC.loop (σ := Int) (fun k => [(1, .slice A n c), (2, .pointer (some ⟨gt, 0, none⟩)), (4, .pointer (some ⟨gr, 0, none⟩)), (6, .int .i64 k)]) (fun _ => [Cells gt #[.slice Av m.V.length cv, .slice Aa m.A.length ca, .int .i64 m.st] 36, Cells gr #[.slice none 0 0, .slice none 0 0, .int .i64 0] 36]) (fun k => (0 ≤ k ∧ k ≤ n) ∧ ∀ j : Int, 0 ≤ j → j < k → (rdOf e0 xs j).size ≤ 4096) (fun k => (n - k).toNat) 0 [1, 0] ⟨⟨by omega, by omega⟩, fun j h0 h1 => by omega⟩ ⟨rfl, rfl, rfl, rfl, trivial⟩ rfl ?_
   rintro k ⟨⟨hk0, hk1⟩, hall⟩
   refine GC.seq ?_
   refine GC.seq ?_
   refine GC.region ?_
   refine GL.gives rfl rfl rfl (Gives.move rfl rfl) ?_
   refine GL.gives rfl rfl rfl (Gives.move rfl rfl) ?_
   refine GL.gives rfl rfl rfl (Gives.len rfl rfl Try.underlying23) ?_
   refine GL.gives rfl rfl rfl (Gives.lss rfl rfl rfl) ?_
   refine GL.nil ?_
   refine GQ.thenN ?_
   refine GC.split (t := 14) rfl (fun h14 => ?_) (fun h14 => ?_)
   ·
     replace h14 := of_decide_eq_true h14
     refine GC.condT rfl rfl ?_
     refine GC.skip ?_
     refine GQ.thenN ?_
     refine GC.seq ?_
     refine GC.block ?_
     refine GC.seq ?_
     refine GC.region ?_
     refine GL.gives rfl rfl rfl (Gives.move rfl rfl) ?_
     refine GL.gives rfl rfl rfl (Gives.move rfl rfl) ?_
     obtain ⟨p, hp⟩ := C_some (hC w hS) (by omega)
     subst hp
     refine GL.gives rfl rfl rfl (Gives.indexAddr (i := k) rfl rfl rfl Try.underlying23 sz9 (by omega) (by omega)) ?_
     refine GL.gives rfl rfl rfl (Gives.load rfl rfl pl9 (fun w' hs' => cS (Kd.C_below (hC w hS) hs'.below) k (by omega) (by omega))) ?_
     refine GL.gives rfl rfl rfl (Gives.lens rfl rfl Try.underlying9) ?_
     refine GL.gives rfl rfl rfl (Gives.gtr rfl rfl rfl) ?_
     refine GL.nil ?_
     refine GQ.thenN ?_
     refine GC.split (t := 22) rfl (fun h22 => ?_) (fun h22 => ?_)
     ·
       replace h22 := of_decide_eq_true h22
       refine GC.condT rfl rfl ?_
       refine GC.seq ?_
       refine GC.region ?_
       refine GL.gives rfl rfl rfl (Gives.loadb (cs := #[.slice Av m.V.length cv, .slice Aa m.A.length ca, .int .i64 m.st]) 0 rfl rfl ag36 sz36 rfl) ?_
       refine GL.does0 [1] rfl rfl rfl (Does.storeb rfl rfl rfl sz36 (by first | (simp [Value.oneCell']; done) | (simp [one_int, one_bool, one_string, one_slice, one_pointer, *]; done)) rfl) fun _ _ => ?_
       refine GL.gives rfl rfl rfl (Gives.assign rfl rfl) ?_
       refine GL.nil ?_
       refine GQ.thenN ?_
       refine GC.ret ?_
       refine GQ.blkR ?_
       refine GQ.thenR ?_
       refine GQ.thenR ?_
       refine GQ.blkR ?_
       refine GQ.thenR ?_
       refine GQ.retT (vs := [.agg #[.slice Av m.V.length cv, .slice Aa m.A.length ca, .int .i64 m.st], .int .i64 2]) (.inl rfl) rfl rfl ⟨⟨_, rfl, lv_agg (cs := #[.slice Av m.V.length cv, .slice Aa m.A.length ca, .int .i64 m.st]) (i := 0) rfl ag36 sz36⟩, rfl, trivial⟩ ?_
       intro w' hs
       have hl := long_yes (xs := xs) hk0 (by omega) (by omega)
       refine ⟨(), ?_, trivial, hs.nil⟩
       rw [show tArgs m xs = (m, 2) from if_pos (.inr hl)]
       rfl
     ·
       replace h22 := of_decide_eq_false h22
       refine GC.condF rfl rfl ?_
       refine GC.skip ?_
       refine GQ.blkN ?_
       refine GQ.thenN ?_
       refine GC.region ?_
       refine GL.gives rfl rfl rfl (Gives.move rfl rfl) ?_
       refine GL.gives rfl rfl rfl (Gives.add rfl rfl rfl (by omega)) ?_
       refine GL.gives rfl rfl rfl (Gives.assign rfl rfl) ?_
       refine GL.nil ?_
       refine GQ.back (k + 1) [0, 0] ⟨⟨by omega, by omega⟩, fun j h0 h1 => ?_⟩ (by omega) ⟨rfl, rfl, rfl, rfl, trivial⟩ rfl
       by_cases hjk : j = k
       · subst hjk; omega
       · exact hall j h0 (by omega)
   ·
     replace h14 := of_decide_eq_false h14
     refine GC.condF rfl rfl ?_
     refine GC.exit ?_
     refine GQ.thenX ?_
     refine GQ.thenX ?_
     refine GQ.blkX ?_
     refine GQ.thenN ?_
     refine GC.seq ?_
     refine GC.region ?_
     refine GL.gives rfl rfl rfl (Gives.move rfl rfl) ?_
     refine GL.gives rfl rfl rfl (Gives.fieldAddr (q := ⟨gt, 1, none⟩) rfl rfl (fun _ => by kernel_rfl)) ?_
     refine GL.does0 [0] rfl rfl rfl (Does.store rfl rfl rfl sz23 rfl rfl rfl rfl) fun _ _ => ?_
     refine GL.nil ?_
     refine GQ.thenN ?_
     refine GC.seq ?_
     refine GC.region ?_
     refine GL.gives rfl rfl rfl (Gives.loadb (cs := #[.slice Av m.V.length cv, .slice A n c, .int .i64 m.st]) 0 rfl rfl ag36 sz36 rfl) ?_
     refine GL.does0 [1] rfl rfl rfl (Does.storeb rfl rfl rfl sz36 (by first | (simp [Value.oneCell']; done) | (simp [one_int, one_bool, one_string, one_slice, one_pointer, *]; done)) rfl) fun _ _ => ?_
     refine GL.gives rfl rfl rfl (Gives.assign rfl rfl) ?_
     refine GL.nil ?_
     refine GQ.thenN ?_
     refine GC.ret ?_
     refine GQ.retT (vs := [.agg #[.slice Av m.V.length cv, .slice A n c, .int .i64 m.st], .int .i64 0]) (.inl rfl) rfl rfl ⟨⟨_, rfl, lv_agg (cs := #[.slice Av m.V.length cv, .slice A n c, .int .i64 m.st]) (i := 0) rfl ag36 sz36⟩, rfl, trivial⟩ ?_
     intro w' hs
     obtain ⟨hlg, _⟩ := long_not (xs := xs) (fun j h0 h1 => hall j h0 (by omega))
     refine ⟨(), ?_, trivial, hs.nil⟩
     rw [show tArgs m xs = ({ m with A := xs }, 0) from if_neg (by rw [hlg]; simp; omega)]
     rfl

set_option maxRecDepth 100000 in
set_option maxHeartbeats 1000000 in
theorem rshift_con (B : Nat) (Av Aa : Option Addr) (cv ca : Nat) (m : T) (hm : m.Ok) (n : Int) (S : World → Prop) (hBS : ∀ w, S w → B ≤ w.heap.size) (hac : m.A.length ≤ ca) :
    Con Try.prog 27 [.agg #[.slice Av m.V.length cv, .slice Aa m.A.length ca, .int .i64 m.st], .int .i64 n] S [] (fun s : Option Addr × Nat => .tuple #[.agg #[.slice Av m.V.length cv, .slice s.1 (tShift m n).1.A.length s.2, .int .i64 m.st], .bool (tShift m n).2]) (fun s => (tShift m n).1.A.length ≤ s.2 ∧ ∀ w, Kd.string.C w Aa m.A.length m.A → Kd.string.C w s.1 (tShift m n).1.A.length (tShift m n).1.A) (fun s => []) := by
 have hnV := hm.nV
 have hnA := hm.nA
 have hst := hm.st
 refine Con.of_none fun w hS => ?_
 have hs : Sep w (fun _ => False) [] := trivial
 have hB := hBS w hS
 refine enter (args := [.agg #[.slice Av m.V.length cv, .slice Aa m.A.length ca, .int .i64 m.st], .int .i64 n]) Try.func27 rfl rfl rfl hs ?_
 refine GC.seq ?_
 refine GC.region ?_
 refine GL.does [] rfl rfl rfl rfl (Does.box (cs := #[.slice Av m.V.length cv, .slice Aa m.A.length ca, .int .i64 m.st]) (Bs hB) rfl rfl rfl) fun gt hgt => ?_
 refine GL.does [] rfl rfl rfl rfl (Does.alloc (Bs hB) rfl al36) fun gr hgr => ?_
 refine GL.gives rfl rfl rfl (Gives.assign rfl rfl) ?_
 refine GL.nil ?_
 refine GQ.thenN ?_
 refine GC.seq ?_
 refine GC.seq ?_
 refine GC.region ?_
 refine GL.gives rfl rfl rfl (Gives.move rfl rfl) ?_
 refine GL.gives rfl rfl rfl (Gives.lss rfl rfl rfl) ?_
 refine GL.gives rfl rfl rfl (Gives.move rfl rfl) ?_
 refine GL.split (t := 8) rfl (fun h8 => ?_) (fun h8 => ?_)
 ·
   replace h8 := of_decide_eq_true h8
   refine GL.skip rfl rfl rfl ?_
   refine GL.skip rfl rfl rfl ?_
   refine GL.skip rfl rfl rfl ?_
   refine GL.skip rfl rfl rfl ?_
   refine GL.skip rfl rfl rfl ?_
   refine GL.gives rfl rfl rfl (Gives.pickT rfl rfl rfl rfl) ?_
   refine GL.nil ?_
   refine GQ.thenN ?_
   refine GC.condT rfl rfl ?_
   refine GC.seq ?_
   refine GC.region ?_
   refine GL.gives rfl rfl rfl (Gives.loadb (cs := #[.slice Av m.V.length cv, .slice Aa m.A.length ca, .int .i64 m.st]) 1 rfl rfl ag36 sz36 rfl) ?_
   refine GL.does0 [0] rfl rfl rfl (Does.storeb rfl rfl rfl sz36 (by first | (simp [Value.oneCell']; done) | (simp [one_int, one_bool, one_string, one_slice, one_pointer, *]; done)) rfl) fun _ _ => ?_
   refine GL.gives rfl rfl rfl (Gives.assign rfl rfl) ?_
   refine GL.nil ?_
   refine GQ.thenN ?_
   refine GC.ret ?_
   refine GQ.thenR ?_
   refine GQ.retT (vs := [.agg #[.slice Av m.V.length cv, .slice Aa m.A.length ca, .int .i64 m.st], .bool false]) (.inl rfl) rfl rfl ⟨⟨_, rfl, lv_agg (cs := #[.slice Av m.V.length cv, .slice Aa m.A.length ca, .int .i64 m.st]) (i := 0) rfl ag36 sz36⟩, rfl, trivial⟩ ?_
   intro w' hs
   have hsh : tShift m n = (m, false) := if_pos (by omega)
   rw [hsh]
   exact ⟨(Aa, ca), rfl, ⟨hac, fun _ h => h⟩, hs.nil⟩
 ·
   replace h8 := of_decide_eq_false h8
   refine GL.gives rfl rfl rfl (Gives.move rfl rfl) ?_
   refine GL.gives rfl rfl rfl (Gives.fieldAddr (q := ⟨gt, 1, none⟩) rfl rfl (fun _ => by kernel_rfl)) ?_
   refine GL.gives rfl rfl rfl (Gives.loadc (v := .slice Aa m.A.length ca) 1 rfl rfl pl23 rfl rfl) ?_
   refine GL.gives rfl rfl rfl (Gives.len rfl rfl Try.underlying23) ?_
   refine GL.gives rfl rfl rfl (Gives.gtr rfl rfl rfl) ?_
   refine GL.gives rfl rfl rfl (Gives.pickF rfl rfl rfl rfl) ?_
   refine GL.nil ?_
   refine GQ.thenN ?_
   refine GC.split (t := 14) rfl (fun h14 => ?_) (fun h14 => ?_)
   ·
     replace h14 := of_decide_eq_true h14
     refine GC.condT rfl rfl ?_
     refine GC.seq ?_
     refine GC.region ?_
     refine GL.gives rfl rfl rfl (Gives.loadb (cs := #[.slice Av m.V.length cv, .slice Aa m.A.length ca, .int .i64 m.st]) 1 rfl rfl ag36 sz36 rfl) ?_
     refine GL.does0 [0] rfl rfl rfl (Does.storeb rfl rfl rfl sz36 (by first | (simp [Value.oneCell']; done) | (simp [one_int, one_bool, one_string, one_slice, one_pointer, *]; done)) rfl) fun _ _ => ?_
     refine GL.gives rfl rfl rfl (Gives.assign rfl rfl) ?_
     refine GL.nil ?_
     refine GQ.thenN ?_
     refine GC.ret ?_
     refine GQ.thenR ?_
     refine GQ.retT (vs := [.agg #[.slice Av m.V.length cv, .slice Aa m.A.length ca, .int .i64 m.st], .bool false]) (.inl rfl) rfl rfl ⟨⟨_, rfl, lv_agg (cs := #[.slice Av m.V.length cv, .slice Aa m.A.length ca, .int .i64 m.st]) (i := 0) rfl ag36 sz36⟩, rfl, trivial⟩ ?_
     intro w' hs
     have hsh : tShift m n = (m, false) := if_pos (by omega)
     rw [hsh]
     exact ⟨(Aa, ca), rfl, ⟨hac, fun _ h => h⟩, hs.nil⟩
   ·
     replace h14 := of_decide_eq_false h14
     refine GC.condF rfl rfl ?_
     refine GC.skip ?_
     refine GQ.thenN ?_
     refine GC.seq ?_
     refine GC.region ?_
     refine GL.gives rfl rfl rfl (Gives.fieldAddr (q := ⟨gt, 1, none⟩) rfl rfl (fun _ => by kernel_rfl)) ?_
     refine GL.gives rfl rfl rfl (Gives.loadc (v := .slice Aa m.A.length ca) 1 rfl rfl pl23 rfl rfl) ?_
     refine GL.gives rfl rfl rfl (Gives.move rfl rfl) ?_
     refine GL.gives rfl rfl rfl (Gives.sl0 rfl rfl rfl Try.underlying23 sz9 (by omega) (by omega)) ?_
     have hsh : tShift m n = ({ m with A := m.A.drop n.toNat }, true) := if_neg (by omega)
     obtain ⟨A', c', hv, hc', hC'⟩ := sliced_C (kd := Kd.string) (A := Aa) (l := n.toNat) (xs := m.A) (by omega) hac
     refine GL.learn (t := 19) (v' := .slice A' (m.A.length - n.toNat) c') rfl hv ?_
     refine GL.gives rfl rfl rfl (Gives.fieldAddr (q := ⟨gt, 1, none⟩) rfl rfl (fun _ => by kernel_rfl)) ?_
     refine GL.does0 [1] rfl rfl rfl (Does.store rfl rfl rfl sz23 rfl rfl rfl rfl) fun _ _ => ?_
     refine GL.nil ?_
     refine GQ.thenN ?_
     refine GC.seq ?_
     refine GC.region ?_
     refine GL.gives rfl rfl rfl (Gives.loadb (cs := #[.slice Av m.V.length cv, .slice A' (m.A.length - n.toNat) c', .int .i64 m.st]) 0 rfl rfl ag36 sz36 rfl) ?_
     refine GL.does0 [1] rfl rfl rfl (Does.storeb rfl rfl rfl sz36 (by first | (simp [Value.oneCell']; done) | (simp [one_int, one_bool, one_string, one_slice, one_pointer, *]; done)) rfl) fun _ _ => ?_
     refine GL.gives rfl rfl rfl (Gives.assign rfl rfl) ?_
     refine GL.nil ?_
     refine GQ.thenN ?_
     refine GC.ret ?_
     refine GQ.retT (vs := [.agg #[.slice Av m.V.length cv, .slice A' (m.A.length - n.toNat) c', .int .i64 m.st], .bool true]) (.inl rfl) rfl rfl ⟨⟨_, rfl, lv_agg (cs := #[.slice Av m.V.length cv, .slice A' (m.A.length - n.toNat) c', .int .i64 m.st]) (i := 0) rfl ag36 sz36⟩, rfl, trivial⟩ ?_
     intro w' hs
     rw [hsh]
     refine ⟨(A', c'), ?_, ⟨by simp only [List.length_drop]; exact hc', fun w h => by simp only [List.length_drop]; exact hC' w h⟩, hs.nil⟩
     simp only [List.length_drop]

set_option maxRecDepth 100000 in
set_option maxHeartbeats 1000000 in
theorem joined_con (A : Option Addr) (n c : Nat) (m : T) (hm : m.Ok) (hn : n = m.A.length) (S : World → Prop) (hC : ∀ w, S w → Kd.string.C w A n m.A) : Con Try.prog 34 [.slice A n c, .string ⟨#[32]⟩] S [] (fun _ : Unit => .string (jn m.A)) (fun _ => True) (fun _ => []) := by
 have hnA := hm.nA
 refine Con.of_none fun w hS => ?_
 have hs : Sep w (fun _ => False) [] := trivial
 refine enter (args := [.slice A n c, .string (⟨#[32]⟩ : ByteArray)]) Try.func34 rfl rfl rfl hs ?_
 refine GC.seq ?_
 refine GC.region ?_
 refine GL.gives rfl rfl rfl (Gives.assign rfl rfl) ?_
 refine GL.nil ?_
 refine GQ.thenN ?_
 refine GC.seq ?_
 refine GC.region ?_
 refine GL.gives rfl rfl rfl (Gives.assign rfl rfl) ?_
 refine GL.nil ?_
 refine GQ.thenN ?_
 refine GC.seq ?_
 refine GC.seq ?_
 refine GC.region ?_
 refine GL.gives rfl rfl rfl (Gives.assign rfl rfl) ?_
 refine GL.nil ?_
 refine GQ.thenN ?_
 refine GC.block ?_
 refine GC.loop (σ := Int) (fun k => [(0, .slice A n c), (1, .string ⟨#[32]⟩), (5, .string (jnTo m.A k.toNat)), (6, .int .i64 k)]) (fun _ => []) (fun k => 0 ≤ k ∧ k ≤ n) (fun k => (n - k).toNat) 0 [] ⟨by omega, by omega⟩ ⟨rfl, rfl, rfl, rfl, trivial⟩ rfl ?_
 rintro k ⟨hk0, hk1⟩
 have hsz := jnTo_size m.A hm.lA k.toNat
 refine GC.seq ?_
 refine GC.seq ?_
 refine GC.region ?_
 refine GL.gives rfl rfl rfl (Gives.move rfl rfl) ?_
 refine GL.gives rfl rfl rfl (Gives.move rfl rfl) ?_
 refine GL.gives rfl rfl rfl (Gives.len rfl rfl Try.underlying23) ?_
 refine GL.gives rfl rfl rfl (Gives.lss rfl rfl rfl) ?_
 refine GL.nil ?_
 refine GQ.thenN ?_
 refine GC.split (t := 10) rfl (fun h10 => ?_) (fun h10 => ?_)
 ·
   replace h10 := of_decide_eq_true h10
   refine GC.condT rfl rfl ?_
   refine GC.skip ?_
   refine GQ.thenN ?_
   refine GC.seq ?_
   refine GC.block ?_
   refine GC.seq ?_
   refine GC.seq ?_
   refine GC.region ?_
   refine GL.gives rfl rfl rfl (Gives.move rfl rfl) ?_
   refine GL.gives rfl rfl rfl (Gives.gtr rfl rfl rfl) ?_
   refine GL.nil ?_
   refine GQ.thenN ?_
   refine GC.split (t := 14) rfl (fun h14 => ?_) (fun h14 => ?_)
   ·
     replace h14 := of_decide_eq_true h14
     refine GC.condT rfl rfl ?_
     refine GC.region ?_
     refine GL.gives rfl rfl rfl (Gives.move rfl rfl) ?_
     refine GL.gives rfl rfl rfl (Gives.move rfl rfl) ?_
     have h1 : (⟨#[32]⟩ : ByteArray).size = 1 := rfl
     refine GL.gives rfl rfl rfl (Gives.adds rfl rfl rfl (by omega)) ?_
     refine GL.gives rfl rfl rfl (Gives.assign rfl rfl) ?_
     refine GL.nil ?_
     refine GQ.thenN ?_
     refine GC.region ?_
     refine GL.gives rfl rfl rfl (Gives.move rfl rfl) ?_
     refine GL.gives rfl rfl rfl (Gives.move rfl rfl) ?_
     refine GL.gives rfl rfl rfl (Gives.move rfl rfl) ?_
     obtain ⟨p, hp⟩ := C_some (hC w hS) (by omega)
     subst hp
     refine GL.gives rfl rfl rfl (Gives.indexAddr (i := k) rfl rfl rfl Try.underlying23 sz9 (by omega) (by omega)) ?_
     refine GL.gives rfl rfl rfl (Gives.load rfl rfl pl9 (fun w' hs' => cS (Kd.C_below (hC w hS) hs'.below) k (by omega) (by omega))) ?_
     have hrs := rd_size hm k hk0 (by omega)
     refine GL.gives rfl rfl rfl (Gives.adds rfl rfl rfl (by first | omega | (rw [ByteArray.size_append]; omega))) ?_
     refine GL.gives rfl rfl rfl (Gives.assign rfl rfl) ?_
     refine GL.nil ?_
     refine GQ.blkN ?_
     refine GQ.thenN ?_
     refine GC.region ?_
     refine GL.gives rfl rfl rfl (Gives.move rfl rfl) ?_
     refine GL.gives rfl rfl rfl (Gives.add rfl rfl rfl (by omega)) ?_
     refine GL.gives rfl rfl rfl (Gives.assign rfl rfl) ?_
     refine GL.nil ?_
     have hj := jn_next m.A hk0
     rw [if_neg (by omega)] at hj
     refine GQ.back (k + 1) [] ⟨by omega, by omega⟩ (by omega) ⟨rfl, rfl, (show some (Value.string _) = some (Value.string _) from congrArg some (congrArg Value.string hj.symm)), rfl, trivial⟩ rfl
   ·
     replace h14 := of_decide_eq_false h14
     refine GC.condF rfl rfl ?_
     refine GC.skip ?_
     refine GQ.thenN ?_
     refine GC.region ?_
     refine GL.gives rfl rfl rfl (Gives.move rfl rfl) ?_
     refine GL.gives rfl rfl rfl (Gives.move rfl rfl) ?_
     refine GL.gives rfl rfl rfl (Gives.move rfl rfl) ?_
     obtain ⟨p, hp⟩ := C_some (hC w hS) (by omega)
     subst hp
     refine GL.gives rfl rfl rfl (Gives.indexAddr (i := k) rfl rfl rfl Try.underlying23 sz9 (by omega) (by omega)) ?_
     refine GL.gives rfl rfl rfl (Gives.load rfl rfl pl9 (fun w' hs' => cS (Kd.C_below (hC w hS) hs'.below) k (by omega) (by omega))) ?_
     have hrs := rd_size hm k hk0 (by omega)
     refine GL.gives rfl rfl rfl (Gives.adds rfl rfl rfl (by first | omega | (rw [ByteArray.size_append]; omega))) ?_
     refine GL.gives rfl rfl rfl (Gives.assign rfl rfl) ?_
     refine GL.nil ?_
     refine GQ.blkN ?_
     refine GQ.thenN ?_
     refine GC.region ?_
     refine GL.gives rfl rfl rfl (Gives.move rfl rfl) ?_
     refine GL.gives rfl rfl rfl (Gives.add rfl rfl rfl (by omega)) ?_
     refine GL.gives rfl rfl rfl (Gives.assign rfl rfl) ?_
     refine GL.nil ?_
     have hj := jn_first m.A (k := k) (by omega)
     refine GQ.back (k + 1) [] ⟨by omega, by omega⟩ (by omega) ⟨rfl, rfl, (show some (Value.string _) = some (Value.string _) from congrArg some (congrArg Value.string hj.symm)), rfl, trivial⟩ rfl
 ·
   replace h10 := of_decide_eq_false h10
   refine GC.condF rfl rfl ?_
   refine GC.exit ?_
   refine GQ.thenX ?_
   refine GQ.thenX ?_
   refine GQ.blkX ?_
   refine GQ.thenN ?_
   refine GC.seq ?_
   refine GC.region ?_
   refine GL.gives rfl rfl rfl (Gives.move rfl rfl) ?_
   refine GL.gives rfl rfl rfl (Gives.assign rfl rfl) ?_
   refine GL.nil ?_
   refine GQ.thenN ?_
   refine GC.ret ?_
   refine GQ.ret1 (.inl rfl) rfl rfl ?_
   intro w' hs
   obtain rfl : k = n := by omega
   exact ⟨(), by rw [Int.toNat_natCast, hn]; rfl, trivial, hs⟩

end Go.Proofs.Yteckdfgllipilaa.VQ
