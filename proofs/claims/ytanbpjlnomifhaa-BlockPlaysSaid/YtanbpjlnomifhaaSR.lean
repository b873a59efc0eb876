/- The document's answers for the block device, walked in the small logic. -/
import Derived.Test.YtanbpjlnomifhaaSL
namespace Go.Proofs.Ytanbpjlnomifhaa.SR
open Go.RowKit Go.Proofs.YtanbpjlnomifhaaW.PrintWords Go.Proofs.YtanbpjlnomifhaaW.PrintLast Go.Proofs.YtanbpjlnomifhaaS Go.Proofs.Ytanbpjlnomifhaa.SL

abbrev RA (sv lv : Value) (m : M) : Value := .agg #[sv, lv, .int .i64 m.f, .bool m.b]
def RK (B : Nat) (sv lv : Value) (m : M) : List Atom := [Row B Kd.string 9 sv m.S, Row B kW 61 lv m.L]
theorem lst_snoc (L : List WS) (w : WS) (i : Int) (s : ByteArray) : lst (L ++ [w]) i s = if w.1 = i then w.2 else lst L i s := by simp [lst]
theorem bit1 (i : Int) : ((18446744073709551615 : Int) / 2 ^ (i % 64).toNat) % 2 = 1 := by
  have h : (i % 64).toNat < 64 := by omega
  generalize (i % 64).toNat = j at h
  have : ∀ j : Fin 64, ((18446744073709551615 : Int) / 2 ^ j.val) % 2 = 1 := by decide
  exact this ⟨j, h⟩
theorem kept_all (L : List WS) : ∀ S i, kept 18446744073709551615 S L i = laid S L := by
  induction L with
  | nil => intro S i; rfl
  | cons w L ih => intro S i; rw [kept, if_pos (bit1 i), ih]; rfl
theorem halve (mask : Int) (j : Int) (h0 : 0 ≤ j) : mask / 2 ^ j.toNat / 2 = mask / 2 ^ (j + 1).toNat := by
  rw [show (j + 1).toNat = j.toNat + 1 by omega, Int.pow_succ, Int.ediv_ediv_of_nonneg (Int.le_of_lt (Int.pow_pos (by decide)))]
theorem wrap_half (mask : Int) (j : Nat) (h : 0 ≤ mask ∧ mask ≤ 18446744073709551615) : IntKind.u64.wrap (mask / 2 ^ j / 2) = mask / 2 ^ j / 2 := by
  have h1 := div_bd mask j h
  have : IntKind.u64.wrap (mask / 2 ^ j / 2) = (mask / 2 ^ j / 2) % 18446744073709551616 := by simp [IntKind.wrap, IntKind.bits, IntKind.signed]
  omega

theorem mixed_ : Try.prog.follows .mixedOrders = true := by kernel_rfl
theorem ag31 (w : World) : (isAgg 31).run Try.prog w = .ok true w := by kernel_rfl
theorem al31 (w : World) : (Instr.alloc 31 true (.tuple #[])).run Try.prog w = .ok (.pointer (some ⟨w.heap.size, 0, none⟩)) (w.alloc (.cells #[.slice none 0 0, .slice none 0 0, .int .i64 0, .bool false] 31 (0, 0))) := by kernel_rfl
theorem in9 : (Try.prog.info? 9).map (fun i => (i.zero, i.size, i.bytes)) = some (some (.string (⟨#[]⟩ : ByteArray)), 1, 16) := by kernel_rfl
theorem in61 : (Try.prog.info? 61).map (fun i => (i.zero, i.size, i.bytes)) = some (some (.agg #[.int .i64 0, .string (⟨#[]⟩ : ByteArray)]), 2, 24) := by kernel_rfl
theorem pl3 : Plain Try.prog 3 := plain_int Try.underlying3
theorem pl4 : Plain Try.prog 4 := plain_bool Try.underlying4
theorem pl9 : Plain Try.prog 9 := plain_string Try.underlying9
theorem pl28 : Plain Try.prog 28 := plain_slice Try.underlying28
theorem pl29 : Plain Try.prog 29 := plain_slice Try.underlying29
theorem sz3 (w : World) : (sizeOf 3).run Try.prog w = .ok 1 w := by kernel_rfl
theorem sz4 (w : World) : (sizeOf 4).run Try.prog w = .ok 1 w := by kernel_rfl
theorem sz9 (w : World) : (sizeOf 9).run Try.prog w = .ok 1 w := by kernel_rfl
theorem sz28 (w : World) : (sizeOf 28).run Try.prog w = .ok 1 w := by kernel_rfl
theorem sz29 (w : World) : (sizeOf 29).run Try.prog w = .ok 1 w := by kernel_rfl
theorem sz31 (w : World) : (sizeOf 31).run Try.prog w = .ok 4 w := by kernel_rfl
theorem sz61 (w : World) : (sizeOf 61).run Try.prog w = .ok 2 w := by kernel_rfl
theorem rowW {w0 : World} {F0 : Nat → Prop} {L R : List Atom} {B e c i mm : Nat} {p : Addr} {xs : List WS} (hL : rem1 i L = some (Row B kW e (.slice (some p) mm c) xs, R)) (k : Int) (h0 : 0 ≤ k) (h1 : k < mm) : ∀ w, St w0 F0 w L → w.cell? (p.add (k.toNat * 2)) = some (.int .i64 (rdOf zW xs k).1) ∧ w.cell? ⟨(p.add (k.toNat * 2)).block, (p.add (k.toNat * 2)).off + 1, none⟩ = some (.string (rdOf zW xs k).2) := fun w hs => by
  obtain ⟨ad, c, h2, h3, h4, h5⟩ := (row_C hL w hs).get_ zW k h0 h1
  obtain rfl := Option.some.inj h2
  have h6 := kW_encs w _ c h4
  subst h6
  have e0 := h5 0 _ rfl
  have e1 := h5 1 _ rfl
  rw [add_field _ _ 1 (by decide)] at e1
  exact ⟨e0, e1⟩
set_option maxRecDepth 100000 in
set_option maxHeartbeats 1000000 in
theorem burn_con (B : Nat) (sv lv : Value) (m : M) (hf : -9223372036854775808 ≤ m.f ∧ m.f ≤ 9223372036854775807) (S : World → Prop) (hBS : ∀ w, S w → B ≤ w.heap.size) :
    Con Try.prog 20 [RA sv lv m] S (RK B sv lv m) (fun _ : Unit => .tuple #[RA sv lv m.burn.1, .int .i64 m.burn.2]) (fun _ => True) (fun _ => RK B sv lv m.burn.1) := by
 intro w F0 hS hs hlt
 have hB := hBS w hS
 obtain ⟨A1, c1, hsv, _⟩ := row_slice (i := 0) (B := B) (e := 9) (kd := Kd.string) (v := sv) (xs := m.S) rfl w (St.start hs)
 obtain ⟨A2, c2, hlv, _⟩ := row_slice (i := 1) (B := B) (e := 61) (kd := kW) (v := lv) (xs := m.L) rfl w (St.start hs)
 subst hsv hlv
 refine enter (args := [.agg #[.slice A1 m.S.length c1, .slice A2 m.L.length c2, .int .i64 m.f, .bool m.b]]) Try.func20 rfl rfl rfl hs ?_
 refine GC.seq ?_
 refine GC.region ?_
 refine GL.does [] rfl rfl rfl rfl (Does.box (cs := #[.slice A1 m.S.length c1, .slice A2 m.L.length c2, .int .i64 m.f, .bool m.b]) (Bs hB) rfl rfl rfl) fun g1 hg1 => ?_
 refine GL.does [] rfl rfl rfl rfl (Does.alloc (Bs hB) rfl al31) fun g2 hg2 => ?_
 refine GL.gives rfl rfl rfl (Gives.assign rfl rfl) ?_
 refine GL.nil ?_
 refine GQ.thenN ?_
 refine GC.seq ?_
 refine GC.seq ?_
 refine GC.region ?_
 refine GL.gives rfl rfl rfl (Gives.fieldAddr (q := ⟨g1, 3, none⟩) rfl rfl (fun _ => by kernel_rfl)) ?_
 refine GL.gives rfl rfl rfl (Gives.loadc (v := .bool m.b) 1 rfl rfl pl4 rfl rfl) ?_
 refine GL.gives rfl rfl rfl (Gives.move rfl rfl) ?_
 refine GL.split (t := 6) rfl (fun ht6 => ?_) (fun ht6 => ?_)
 ·
   have _ := ht6
   refine GL.skip rfl rfl rfl ?_
   refine GL.skip rfl rfl rfl ?_
   refine GL.skip rfl rfl rfl ?_
   refine GL.gives rfl rfl rfl (Gives.pickT rfl rfl rfl rfl) ?_
   refine GL.nil ?_
   refine GQ.thenN ?_
   refine GC.condT rfl rfl ?_
   refine GC.seq ?_
   refine GC.region ?_
   refine GL.gives rfl rfl rfl (Gives.fieldAddr (q := ⟨g1, 3, none⟩) rfl rfl (fun _ => by kernel_rfl)) ?_
   refine GL.does0 [1] rfl rfl rfl (Does.store rfl rfl rfl sz4 rfl rfl rfl rfl) fun _ _ => ?_
   refine GL.nil ?_
   refine GQ.thenN ?_
   refine GC.seq ?_
   refine GC.region ?_
   refine GL.gives rfl rfl rfl (Gives.loadb (cs := #[.slice A1 m.S.length c1, .slice A2 m.L.length c2, .int .i64 m.f, .bool true]) 0 rfl rfl ag31 sz31 rfl) ?_
   refine GL.does0 [1] rfl rfl rfl (Does.storeb rfl rfl rfl sz31 (by simp [Value.oneCell']) rfl) fun _ _ => ?_
   refine GL.gives rfl rfl rfl (Gives.assign rfl rfl) ?_
   refine GL.nil ?_
   refine GQ.thenN ?_
   refine GC.ret ?_
   refine GQ.thenR ?_
   refine GQ.retT (vs := [.agg #[.slice A1 m.S.length c1, .slice A2 m.L.length c2, .int .i64 m.f, .bool true], .int .i64 91]) (.inl rfl) rfl rfl ⟨⟨_, rfl, lv_agg (cs := #[.slice A1 m.S.length c1, .slice A2 m.L.length c2, .int .i64 m.f, .bool true]) (i := 0) rfl ag31 sz31⟩, rfl, trivial⟩ ?_
   intro w hs
   refine ⟨(), ?_, trivial, ?_⟩
   · simp [M.burn, *]
   · unfold RK; rw [(burn_keeps m).1, (burn_keeps m).2]; exact hs.take (is := [2, 2]) rfl
 ·
   have _ := ht6
   refine GL.gives rfl rfl rfl (Gives.fieldAddr (q := ⟨g1, 2, none⟩) rfl rfl (fun _ => by kernel_rfl)) ?_
   refine GL.gives rfl rfl rfl (Gives.loadc (v := .int .i64 m.f) 1 rfl rfl pl3 rfl rfl) ?_
   refine GL.gives rfl rfl rfl (Gives.eqi rfl rfl rfl) ?_
   refine GL.gives rfl rfl rfl (Gives.pickF rfl rfl rfl rfl) ?_
   refine GL.nil ?_
   refine GQ.thenN ?_
   refine GC.split (t := 10) rfl (fun hc10 => ?_) (fun hc10 => ?_)
   ·
     replace hc10 := by simpa using hc10
     refine GC.condT rfl rfl ?_
     refine GC.seq ?_
     refine GC.region ?_
     refine GL.gives rfl rfl rfl (Gives.fieldAddr (q := ⟨g1, 3, none⟩) rfl rfl (fun _ => by kernel_rfl)) ?_
     refine GL.does0 [1] rfl rfl rfl (Does.store rfl rfl rfl sz4 rfl rfl rfl rfl) fun _ _ => ?_
     refine GL.nil ?_
     refine GQ.thenN ?_
     refine GC.seq ?_
     refine GC.region ?_
     refine GL.gives rfl rfl rfl (Gives.loadb (cs := #[.slice A1 m.S.length c1, .slice A2 m.L.length c2, .int .i64 m.f, .bool true]) 0 rfl rfl ag31 sz31 rfl) ?_
     refine GL.does0 [1] rfl rfl rfl (Does.storeb rfl rfl rfl sz31 (by simp [Value.oneCell']) rfl) fun _ _ => ?_
     refine GL.gives rfl rfl rfl (Gives.assign rfl rfl) ?_
     refine GL.nil ?_
     refine GQ.thenN ?_
     refine GC.ret ?_
     refine GQ.thenR ?_
     refine GQ.retT (vs := [.agg #[.slice A1 m.S.length c1, .slice A2 m.L.length c2, .int .i64 m.f, .bool true], .int .i64 91]) (.inl rfl) rfl rfl ⟨⟨_, rfl, lv_agg (cs := #[.slice A1 m.S.length c1, .slice A2 m.L.length c2, .int .i64 m.f, .bool true]) (i := 0) rfl ag31 sz31⟩, rfl, trivial⟩ ?_
     intro w hs
     refine ⟨(), ?_, trivial, ?_⟩
     · simp [M.burn, *]
     · unfold RK; rw [(burn_keeps m).1, (burn_keeps m).2]; exact hs.take (is := [2, 2]) rfl
   ·
     replace hc10 := by simpa using hc10
     refine GC.condF rfl rfl ?_
     refine GC.skip ?_
     refine GQ.thenN ?_
     refine GC.seq ?_
     refine GC.seq ?_
     refine GC.region ?_
     refine GL.gives rfl rfl rfl (Gives.fieldAddr (q := ⟨g1, 2, none⟩) rfl rfl (fun _ => by kernel_rfl)) ?_
     refine GL.gives rfl rfl rfl (Gives.loadc (v := .int .i64 m.f) 1 rfl rfl pl3 rfl rfl) ?_
     refine GL.gives rfl rfl rfl (Gives.gtr rfl rfl rfl) ?_
     refine GL.nil ?_
     refine GQ.thenN ?_
     refine GC.split (t := 15) rfl (fun hc15 => ?_) (fun hc15 => ?_)
     ·
       replace hc15 := of_decide_eq_true hc15
       refine GC.condT rfl rfl ?_
       refine GC.region ?_
       refine GL.gives rfl rfl rfl (Gives.fieldAddr (q := ⟨g1, 2, none⟩) rfl rfl (fun _ => by kernel_rfl)) ?_
       refine GL.gives rfl rfl rfl (Gives.loadc (v := .int .i64 m.f) 1 rfl rfl pl3 rfl rfl) ?_
       refine GL.gives rfl rfl rfl (Gives.sub rfl rfl rfl (by omega)) ?_
       refine GL.gives rfl rfl rfl (Gives.fieldAddr (q := ⟨g1, 2, none⟩) rfl rfl (fun _ => by kernel_rfl)) ?_
       refine GL.does0 [1] rfl rfl rfl (Does.store rfl rfl rfl sz3 rfl rfl rfl rfl) fun _ _ => ?_
       refine GL.nil ?_
       refine GQ.thenN ?_
       refine GC.seq ?_
       refine GC.region ?_
       refine GL.gives rfl rfl rfl (Gives.loadb (cs := #[.slice A1 m.S.length c1, .slice A2 m.L.length c2, .int .i64 (m.f - 1), .bool m.b]) 0 rfl rfl ag31 sz31 rfl) ?_
       refine GL.does0 [1] rfl rfl rfl (Does.storeb rfl rfl rfl sz31 (by simp [Value.oneCell']) rfl) fun _ _ => ?_
       refine GL.gives rfl rfl rfl (Gives.assign rfl rfl) ?_
       refine GL.nil ?_
       refine GQ.thenN ?_
       refine GC.ret ?_
       refine GQ.retT (vs := [.agg #[.slice A1 m.S.length c1, .slice A2 m.L.length c2, .int .i64 (m.f - 1), .bool m.b], .int .i64 0]) (.inl rfl) rfl rfl ⟨⟨_, rfl, lv_agg (cs := #[.slice A1 m.S.length c1, .slice A2 m.L.length c2, .int .i64 (m.f - 1), .bool m.b]) (i := 0) rfl ag31 sz31⟩, rfl, trivial⟩ ?_
       intro w hs
       refine ⟨(), ?_, trivial, ?_⟩
       · simp [M.burn, *]
       · unfold RK; rw [(burn_keeps m).1, (burn_keeps m).2]; exact hs.take (is := [2, 2]) rfl
     ·
       replace hc15 := of_decide_eq_false hc15
       refine GC.condF rfl rfl ?_
       refine GC.skip ?_
       refine GQ.thenN ?_
       refine GC.seq ?_
       refine GC.region ?_
       refine GL.gives rfl rfl rfl (Gives.loadb (cs := #[.slice A1 m.S.length c1, .slice A2 m.L.length c2, .int .i64 m.f, .bool m.b]) 1 rfl rfl ag31 sz31 rfl) ?_
       refine GL.does0 [0] rfl rfl rfl (Does.storeb rfl rfl rfl sz31 (by simp [Value.oneCell']) rfl) fun _ _ => ?_
       refine GL.gives rfl rfl rfl (Gives.assign rfl rfl) ?_
       refine GL.nil ?_
       refine GQ.thenN ?_
       refine GC.ret ?_
       refine GQ.retT (vs := [.agg #[.slice A1 m.S.length c1, .slice A2 m.L.length c2, .int .i64 m.f, .bool m.b], .int .i64 0]) (.inl rfl) rfl rfl ⟨⟨_, rfl, lv_agg (cs := #[.slice A1 m.S.length c1, .slice A2 m.L.length c2, .int .i64 m.f, .bool m.b]) (i := 0) rfl ag31 sz31⟩, rfl, trivial⟩ ?_
       intro w hs
       refine ⟨(), ?_, trivial, ?_⟩
       · simp [M.burn, *]
       · unfold RK; rw [(burn_keeps m).1, (burn_keeps m).2]; exact hs.take (is := [2, 2]) rfl

set_option maxRecDepth 100000 in
set_option maxHeartbeats 1000000 in
theorem rnew_no (B : Nat) (n : Int) (hn : n < 1 ∨ 4096 < n) (S : World → Prop) (hBS : ∀ w, S w → B ≤ w.heap.size) : Con Try.prog 6 [.int .i64 n] S [] (fun _ : Unit => .tuple #[.agg #[.slice none 0 0, .slice none 0 0, .int .i64 0, .bool false], .int .i64 1]) (fun _ => True) (fun _ => []) := by
 intro w F0 hS hs hlt
 have hB := hBS w hS
 refine enter (args := [.int .i64 n]) Try.func6 rfl rfl rfl hs ?_
 refine GC.seq ?_
 refine GC.region ?_
 refine GL.does [] rfl rfl rfl rfl (Does.alloc (Bs hB) rfl al31) fun g1 hg1 => ?_
 refine GL.gives rfl rfl rfl (Gives.assign rfl rfl) ?_
 refine GL.nil ?_
 refine GQ.thenN ?_
 refine GC.seq ?_
 refine GC.seq ?_
 refine GC.region ?_
 refine GL.gives rfl rfl rfl (Gives.move rfl rfl) ?_
 refine GL.gives rfl rfl rfl (Gives.lss rfl rfl rfl) ?_
 refine GL.gives rfl rfl rfl (Gives.move rfl rfl) ?_
 refine GL.split (t := 8) rfl (fun ht8 => ?_) (fun ht8 => ?_)
 ·
   replace ht8 := of_decide_eq_true ht8
   refine GL.skip rfl rfl rfl ?_
   refine GL.skip rfl rfl rfl ?_
   refine GL.gives rfl rfl rfl (Gives.pickT rfl rfl rfl rfl) ?_
   refine GL.nil ?_
   refine GQ.thenN ?_
   refine GC.condT rfl rfl ?_
   refine GC.seq ?_
   refine GC.region ?_
   refine GL.gives rfl rfl rfl (Gives.build (v := .agg #[.slice none 0 0, .slice none 0 0, .int .i64 0, .bool false]) rfl rfl (fun _ => by kernel_rfl)) ?_
   refine GL.does0 [0] rfl rfl rfl (Does.storeb rfl rfl rfl sz31 (by simp [Value.oneCell']) rfl) fun _ _ => ?_
   refine GL.gives rfl rfl rfl (Gives.assign rfl rfl) ?_
   refine GL.nil ?_
   refine GQ.thenN ?_
   refine GC.ret ?_
   refine GQ.thenR ?_
   refine GQ.retT (vs := [.agg #[.slice none 0 0, .slice none 0 0, .int .i64 0, .bool false], .int .i64 1]) (.inl rfl) rfl rfl ⟨⟨_, rfl, lv_agg (cs := #[.slice none 0 0, .slice none 0 0, .int .i64 0, .bool false]) (i := 0) rfl ag31 sz31⟩, rfl, trivial⟩ ?_
   intro w hs
   exact ⟨(), rfl, trivial, hs.take (is := []) rfl⟩
 ·
   replace ht8 := of_decide_eq_false ht8
   refine GL.gives rfl rfl rfl (Gives.move rfl rfl) ?_
   refine GL.gives rfl rfl rfl (Gives.gtr rfl rfl rfl) ?_
   refine GL.gives rfl rfl rfl (Gives.pickF rfl rfl rfl rfl) ?_
   refine GL.nil ?_
   refine GQ.thenN ?_
   refine GC.condT rfl (decide_eq_true (by omega)) ?_
   refine GC.seq ?_
   refine GC.region ?_
   refine GL.gives rfl rfl rfl (Gives.build (v := .agg #[.slice none 0 0, .slice none 0 0, .int .i64 0, .bool false]) rfl rfl (fun _ => by kernel_rfl)) ?_
   refine GL.does0 [0] rfl rfl rfl (Does.storeb rfl rfl rfl sz31 (by simp [Value.oneCell']) rfl) fun _ _ => ?_
   refine GL.gives rfl rfl rfl (Gives.assign rfl rfl) ?_
   refine GL.nil ?_
   refine GQ.thenN ?_
   refine GC.ret ?_
   refine GQ.thenR ?_
   refine GQ.retT (vs := [.agg #[.slice none 0 0, .slice none 0 0, .int .i64 0, .bool false], .int .i64 1]) (.inl rfl) rfl rfl ⟨⟨_, rfl, lv_agg (cs := #[.slice none 0 0, .slice none 0 0, .int .i64 0, .bool false]) (i := 0) rfl ag31 sz31⟩, rfl, trivial⟩ ?_
   intro w hs
   exact ⟨(), rfl, trivial, hs.take (is := []) rfl⟩

set_option maxRecDepth 100000 in
set_option maxHeartbeats 1000000 in
theorem rkept_con (B : Nat) (sv lv : Value) (m : M) (n : Nat) (hm : m.Ok n) (mask : Int) (hmask : 0 ≤ mask ∧ mask ≤ 18446744073709551615) (S : World → Prop) (hBS : ∀ w, S w → B ≤ w.heap.size) :
    Con Try.prog 21 [RA sv lv m, .int .u64 mask] S (RK B sv lv m) (fun sv' : Value => sv') (fun _ => True) (fun sv' => Row B Kd.string 9 sv' (kept mask m.S m.L 0) :: RK B sv lv m) := by
 intro w F0 hS hs hlt
 have hB := hBS w hS
 obtain ⟨A1, c1, hsv, _⟩ := row_slice (i := 0) (B := B) (e := 9) (kd := Kd.string) (v := sv) (xs := m.S) rfl w (St.start hs)
 obtain ⟨A2, c2, hlv, _⟩ := row_slice (i := 1) (B := B) (e := 61) (kd := kW) (v := lv) (xs := m.L) rfl w (St.start hs)
 subst hsv hlv
 have hlen := hm.len
 have hroom := hm.room
 have hpos := hm.pos
 refine enter (args := [.agg #[.slice A1 m.S.length c1, .slice A2 m.L.length c2, .int .i64 m.f, .bool m.b], .int .u64 mask]) Try.func21 rfl rfl rfl hs ?_
 refine GC.seq ?_
 refine GC.region ?_
 refine GL.does [] rfl rfl rfl rfl (Does.box (cs := #[.slice A1 m.S.length c1, .slice A2 m.L.length c2, .int .i64 m.f, .bool m.b]) (Bs hB) rfl rfl rfl) fun g1 hg1 => ?_
 refine GL.gives rfl rfl rfl (Gives.assign rfl rfl) ?_
 refine GL.nil ?_
 refine GQ.thenN ?_
 refine GC.seq ?_
 refine GC.region ?_
 refine GL.does [] rfl rfl rfl rfl (Does.lit (m := 0) (cs := #[]) (e := 9) (Bs hB) rfl rfl (fun _ => by kernel_rfl)) fun gs hgs => ?_
 refine GL.turn [0] rfl (Turns.row (kd := Kd.string) (B := B) (xs := ([] : List ByteArray)) (inner := []) hgs rfl (by simp) (fun _ _ => Reps.none _ _)) ?_
 refine GL.gives rfl rfl rfl (Gives.fieldAddr (q := ⟨g1, 0, none⟩) rfl rfl (fun _ => by kernel_rfl)) ?_
 refine GL.gives rfl rfl rfl (Gives.loadc (v := .slice A1 m.S.length c1) 1 rfl rfl pl28 rfl rfl) ?_
 refine GL.does [0] rfl rfl rfl rfl (Does.appends (kd := Kd.string) (Bs hB) rfl rfl rfl Try.underlying28 in9 rfl (by decide) (by decide) flat_string (row_C (i := 2) rfl) (by simp; omega)) fun v _ => ?_
 refine GL.know (row_form (i := 0) rfl (by simp; omega)) fun ⟨g5, c5, hv⟩ => ?_
 rw [List.nil_append] at hv
 subst hv
 rw [List.nil_append]
 refine GL.gives rfl rfl rfl (Gives.assign rfl rfl) ?_
 refine GL.nil ?_
 refine GQ.thenN ?_
 refine GC.seq ?_
 refine GC.seq ?_
 refine GC.region ?_
 refine GL.gives rfl rfl rfl (Gives.assign rfl rfl) ?_
 refine GL.nil ?_
 refine GQ.thenN ?_
 refine GC.block ?_
 refine GC.loop (σ := Int) (fun k => [(1, .int .u64 mask), (2, .pointer (some ⟨g1, 0, none⟩)), (5, .slice (some ⟨g5, 0, none⟩) m.S.length c5), (6, .int .i64 k)])
   (fun k => [Row B Kd.string 9 (.slice (some ⟨g5, 0, none⟩) m.S.length c5) (kept mask m.S (m.L.take k.toNat) 0), Cells g1 #[.slice A1 m.S.length c1, .slice A2 m.L.length c2, .int .i64 m.f, .bool m.b] 31, Row B Kd.string 9 (.slice A1 m.S.length c1) m.S, Row B kW 61 (.slice A2 m.L.length c2) m.L]) (fun k => 0 ≤ k ∧ k ≤ m.L.length) (fun k => (m.L.length - k).toNat) 0 [0, 0, 0, 0] ⟨by omega, by omega⟩ ⟨rfl, rfl, rfl, rfl, trivial⟩ rfl ?_
 rintro k ⟨hk0, hkl⟩
 refine GC.seq ?_
 refine GC.seq ?_
 refine GC.region ?_
 refine GL.gives rfl rfl rfl (Gives.move rfl rfl) ?_
 refine GL.gives rfl rfl rfl (Gives.fieldAddr (q := ⟨g1, 1, none⟩) rfl rfl (fun _ => by kernel_rfl)) ?_
 refine GL.gives rfl rfl rfl (Gives.loadc (v := .slice A2 m.L.length c2) 1 rfl rfl pl29 rfl rfl) ?_
 refine GL.gives rfl rfl rfl (Gives.len rfl rfl Try.underlying29) ?_
 refine GL.gives rfl rfl rfl (Gives.lss rfl rfl rfl) ?_
 refine GL.nil ?_
 refine GQ.thenN ?_
 refine GC.split (t := 17) rfl (fun hlt_ => ?_) (fun hlt_ => ?_)
 ·
   replace hlt_ := of_decide_eq_true hlt_
   have htk : (0 + ((List.take k.toNat m.L).length : Int)) = k := by rw [List.length_take]; omega
   refine GC.condT rfl rfl ?_
   refine GC.skip ?_
   refine GQ.thenN ?_
   refine GC.seq ?_
   refine GC.block ?_
   refine GC.seq ?_
   refine GC.region ?_
   refine GL.gives rfl rfl rfl (Gives.move rfl rfl) ?_
   refine GL.gives rfl rfl rfl (Gives.assign rfl rfl) ?_
   refine GL.nil ?_
   refine GQ.thenN ?_
   refine GC.seq ?_
   refine GC.seq ?_
   refine GC.region ?_
   refine GL.gives rfl rfl rfl (Gives.assign rfl rfl) ?_
   refine GL.nil ?_
   refine GQ.thenN ?_
   refine GC.block ?_
   refine GC.loop (σ := Int) (fun j => [(1, .int .u64 mask), (2, .pointer (some ⟨g1, 0, none⟩)), (5, .slice (some ⟨g5, 0, none⟩) m.S.length c5), (6, .int .i64 k), (7, .int .u64 (mask / 2 ^ j.toNat)), (8, .int .i64 j)])
     (fun _ => [Row B Kd.string 9 (.slice (some ⟨g5, 0, none⟩) m.S.length c5) (kept mask m.S (m.L.take k.toNat) 0), Cells g1 #[.slice A1 m.S.length c1, .slice A2 m.L.length c2, .int .i64 m.f, .bool m.b] 31, Row B Kd.string 9 (.slice A1 m.S.length c1) m.S, Row B kW 61 (.slice A2 m.L.length c2) m.L]) (fun j => 0 ≤ j ∧ j ≤ k % 64) (fun j => (64 - j).toNat) 0 [0, 0, 0, 0] ⟨by omega, by omega⟩ ⟨rfl, rfl, rfl, rfl, (show some (Value.int .u64 mask) = some (Value.int .u64 (mask / 2 ^ (0 : Int).toNat)) from by simp), rfl, trivial⟩ rfl ?_
   rintro j ⟨hj0, hjl⟩
   refine GC.seq ?_
   refine GC.seq ?_
   refine GC.region ?_
   refine GL.gives rfl rfl rfl (Gives.move rfl rfl) ?_
   refine GL.gives rfl rfl rfl (Gives.move rfl rfl) ?_
   refine GL.gives rfl rfl rfl (Gives.rem (a := k) (b := 64) rfl rfl rfl hk0 (by omega) (by omega)) ?_
   refine GL.gives rfl rfl rfl (Gives.lss rfl rfl rfl) ?_
   refine GL.nil ?_
   refine GQ.thenN ?_
   refine GC.split (t := 24) rfl (fun hj_ => ?_) (fun hj_ => ?_)
   ·
     replace hj_ := of_decide_eq_true hj_
     refine GC.condT rfl rfl ?_
     refine GC.skip ?_
     refine GQ.thenN ?_
     refine GC.seq ?_
     refine GC.block ?_
     refine GC.region ?_
     refine GL.gives rfl rfl rfl (Gives.move rfl rfl) ?_
     refine GL.gives rfl rfl rfl (Gives.quok (k := .u64) (a := mask / 2 ^ j.toNat) (b := 2) rfl rfl rfl (div_bd mask _ hmask).1 (by decide) (wrap_half mask _ hmask)) ?_
     refine GL.gives rfl rfl rfl (Gives.assign rfl rfl) ?_
     refine GL.nil ?_
     refine GQ.blkN ?_
     refine GQ.thenN ?_
     refine GC.region ?_
     refine GL.gives rfl rfl rfl (Gives.move rfl rfl) ?_
     refine GL.gives rfl rfl rfl (Gives.add rfl rfl rfl (by omega)) ?_
     refine GL.gives rfl rfl rfl (Gives.assign rfl rfl) ?_
     refine GL.nil ?_
     refine GQ.back (j + 1) [0, 0, 0, 0] ⟨by omega, by omega⟩ (by omega) ⟨rfl, rfl, rfl, rfl, (show some (Value.int .u64 (mask / 2 ^ j.toNat / 2)) = some (Value.int .u64 (mask / 2 ^ (j + 1).toNat)) from by rw [halve mask j hj0]), rfl, trivial⟩ rfl
   ·
     replace hj_ := of_decide_eq_false hj_
     refine GC.condF rfl rfl ?_
     refine GC.exit ?_
     refine GQ.thenX ?_
     refine GQ.thenX ?_
     refine GQ.blkX ?_
     refine GQ.thenN ?_
     refine GC.seq ?_
     refine GC.region ?_
     refine GL.gives rfl rfl rfl (Gives.move rfl rfl) ?_
     obtain rfl : j = k % 64 := by omega
     refine GL.gives rfl rfl rfl (Gives.remk (k := .u64) (a := mask / 2 ^ (k % 64).toNat) (b := 2) rfl rfl rfl (div_bd mask _ hmask).1 (by decide)) ?_
     refine GL.gives rfl rfl rfl (Gives.eqi rfl rfl rfl) ?_
     refine GL.nil ?_
     refine GQ.thenN ?_
     refine GC.split (t := 31) rfl (fun hbit => ?_) (fun hbit => ?_)
     ·
       replace hbit := by simpa using hbit
       refine GC.condT rfl rfl ?_
       refine GC.draw (fun w => St _ _ w _) [14] #[false, false, false, false, false, false, false, false, false, false, false, false, false, false, false] mixed_ rfl rfl (fun _ h => h) ?_
       refine GA.pure 0 #[true, false, false, false, false, false, false, false, false, false, false, false, false, false, false] (by repeat (first | exact PanicOk.body | refine PanicOk.then ?_ | refine PanicOk.block ?_)) rfl rfl (by kernel_rfl) rfl rfl (Gives.move rfl rfl) ?_
       refine GA.pure 1 #[true, true, false, false, false, false, false, false, false, false, false, false, false, false, false] (by repeat (first | exact PanicOk.body | refine PanicOk.then ?_ | refine PanicOk.block ?_)) rfl rfl (by kernel_rfl) rfl rfl (Gives.fieldAddr (q := ⟨g1, 1, none⟩) rfl rfl (fun _ => by kernel_rfl)) ?_
       refine GA.take 2 #[true, true, true, false, false, false, false, false, false, false, false, false, false, false, false] (by repeat (first | exact PanicOk.body | refine PanicOk.then ?_ | refine PanicOk.block ?_)) rfl rfl (by kernel_rfl) rfl rfl (fun _ h => h) (Gives.loadc (v := .slice A2 m.L.length c2) 1 rfl rfl pl29 rfl rfl) ?_
       refine GA.pure 3 #[true, true, true, true, false, false, false, false, false, false, false, false, false, false, false] (by repeat (first | exact PanicOk.body | refine PanicOk.then ?_ | refine PanicOk.block ?_)) rfl rfl (by kernel_rfl) rfl rfl (Gives.move rfl rfl) ?_
       refine GA.know (row_some (i := 3) rfl (by omega)) fun ⟨p, hp⟩ => ?_
       subst hp
       refine GA.pure 4 #[true, true, true, true, true, false, false, false, false, false, false, false, false, false, false] (by repeat (first | exact PanicOk.body | refine PanicOk.then ?_ | refine PanicOk.block ?_)) rfl rfl (by kernel_rfl) rfl rfl (Gives.indexAddr (i := k) rfl rfl rfl Try.underlying29 sz61 (by omega) (by omega)) ?_
       refine GA.pure 5 #[true, true, true, true, true, true, false, false, false, false, false, false, false, false, false] (by repeat (first | exact PanicOk.body | refine PanicOk.then ?_ | refine PanicOk.block ?_)) rfl rfl (by kernel_rfl) rfl rfl (Gives.fieldAddr (q := (p.add (k.toNat * 2))) rfl rfl (fun _ => by kernel_rfl)) ?_
       refine GA.take 6 #[true, true, true, true, true, true, true, false, false, false, false, false, false, false, false] (by repeat (first | exact PanicOk.body | refine PanicOk.then ?_ | refine PanicOk.block ?_)) rfl rfl (by kernel_rfl) rfl rfl (fun _ h => h) (Gives.load rfl rfl pl3 (fun w hs => (rowW (i := 3) (p := p) (xs := m.L) rfl k hk0 (by omega) w hs).1)) ?_
       refine GA.pure 7 #[true, true, true, true, true, true, true, true, false, false, false, false, false, false, false] (by repeat (first | exact PanicOk.body | refine PanicOk.then ?_ | refine PanicOk.block ?_)) rfl rfl (by kernel_rfl) rfl rfl (Gives.fieldAddr (q := ⟨g1, 1, none⟩) rfl rfl (fun _ => by kernel_rfl)) ?_
       refine GA.take 8 #[true, true, true, true, true, true, true, true, true, false, false, false, false, false, false] (by repeat (first | exact PanicOk.body | refine PanicOk.then ?_ | refine PanicOk.block ?_)) rfl rfl (by kernel_rfl) rfl rfl (fun _ h => h) (Gives.loadc (v := .slice (some p) m.L.length c2) 1 rfl rfl pl29 rfl rfl) ?_
       refine GA.pure 9 #[true, true, true, true, true, true, true, true, true, true, false, false, false, false, false] (by repeat (first | exact PanicOk.body | refine PanicOk.then ?_ | refine PanicOk.block ?_)) rfl rfl (by kernel_rfl) rfl rfl (Gives.move rfl rfl) ?_
       refine GA.pure 10 #[true, true, true, true, true, true, true, true, true, true, true, false, false, false, false] (by repeat (first | exact PanicOk.body | refine PanicOk.then ?_ | refine PanicOk.block ?_)) rfl rfl (by kernel_rfl) rfl rfl (Gives.indexAddr (i := k) rfl rfl rfl Try.underlying29 sz61 (by omega) (by omega)) ?_
       refine GA.pure 11 #[true, true, true, true, true, true, true, true, true, true, true, true, false, false, false] (by repeat (first | exact PanicOk.body | refine PanicOk.then ?_ | refine PanicOk.block ?_)) rfl rfl (by kernel_rfl) rfl rfl (Gives.fieldAddr (q := ⟨(p.add (k.toNat * 2)).block, (p.add (k.toNat * 2)).off + 1, none⟩) rfl rfl (fun _ => by kernel_rfl)) ?_
       refine GA.take 12 #[true, true, true, true, true, true, true, true, true, true, true, true, true, false, false] (by repeat (first | exact PanicOk.body | refine PanicOk.then ?_ | refine PanicOk.block ?_)) rfl rfl (by kernel_rfl) rfl rfl (fun _ h => h) (Gives.load rfl rfl pl9 (fun w hs => (rowW (i := 3) (p := p) (xs := m.L) rfl k hk0 (by omega) w hs).2)) ?_
       refine GA.pure 13 #[true, true, true, true, true, true, true, true, true, true, true, true, true, true, false] (by repeat (first | exact PanicOk.body | refine PanicOk.then ?_ | refine PanicOk.block ?_)) rfl rfl (by kernel_rfl) rfl rfl (Gives.indexAddr1 (i := (rdOf zW m.L k).1) rfl rfl rfl Try.underlying28 sz9 (hm.late _ (rd_mem m.L k hk0 (by omega))).1 (by have := (hm.late _ (rd_mem m.L k hk0 (by omega))).2; omega)) ?_
       refine GA.last0 14 #[true, true, true, true, true, true, true, true, true, true, true, true, true, true, true] [0] rfl rfl (by kernel_rfl) (by decide) rfl rfl (Does.rowStore (enc := Value.string) (⟨#[]⟩ : ByteArray) (B := B) (i := (rdOf zW m.L k).1) rfl rfl rfl sz9 rfl (hm.late _ (rd_mem m.L k hk0 (by omega))).1 (by have := (hm.late _ (rd_mem m.L k hk0 (by omega))).2; omega)) fun _ _ => ?_
       refine GA.done (by kernel_rfl) ?_
       refine GQ.blkN ?_
       refine GQ.thenN ?_
       refine GC.region ?_
       refine GL.gives rfl rfl rfl (Gives.move rfl rfl) ?_
       refine GL.gives rfl rfl rfl (Gives.add rfl rfl rfl (by omega)) ?_
       refine GL.gives rfl rfl rfl (Gives.assign rfl rfl) ?_
       refine GL.nil ?_
       refine GQ.back (k + 1) [0, 0, 0, 0] ⟨by omega, by omega⟩ (by omega) ⟨rfl, rfl, rfl, rfl, trivial⟩ (by rw [take_rd m.L k hk0 (by omega), kept_snoc, htk]; (first | rw [if_pos hbit] | rw [if_neg hbit]); rfl)
     ·
       replace hbit := by simpa using hbit
       refine GC.condF rfl rfl ?_
       refine GC.skip ?_
       refine GQ.blkN ?_
       refine GQ.thenN ?_
       refine GC.region ?_
       refine GL.gives rfl rfl rfl (Gives.move rfl rfl) ?_
       refine GL.gives rfl rfl rfl (Gives.add rfl rfl rfl (by omega)) ?_
       refine GL.gives rfl rfl rfl (Gives.assign rfl rfl) ?_
       refine GL.nil ?_
       refine GQ.back (k + 1) [0, 0, 0, 0] ⟨by omega, by omega⟩ (by omega) ⟨rfl, rfl, rfl, rfl, trivial⟩ (by rw [take_rd m.L k hk0 (by omega), kept_snoc, htk]; (first | rw [if_pos hbit] | rw [if_neg hbit]); rfl)
 ·
   replace hlt_ := of_decide_eq_false hlt_
   refine GC.condF rfl rfl ?_
   refine GC.exit ?_
   refine GQ.thenX ?_
   refine GQ.thenX ?_
   refine GQ.blkX ?_
   refine GQ.thenN ?_
   refine GC.seq ?_
   refine GC.region ?_
   refine GL.gives rfl rfl rfl (Gives.move rfl rfl) ?_
   refine GL.gives rfl rfl rfl (Gives.assign rfl rfl) ?_
   refine GL.nil ?_
   refine GQ.thenN ?_
   refine GC.ret ?_
   refine GQ.ret1 (.inl rfl) rfl rfl ?_
   intro w hs
   refine ⟨_, rfl, trivial, ?_⟩
   rw [List.take_of_length_le (by omega)] at hs
   exact hs.take (is := [0, 1, 1]) rfl

set_option maxRecDepth 100000 in
set_option maxHeartbeats 1000000 in
theorem rnew_con (B : Nat) (n : Int) (hn : 1 ≤ n ∧ n ≤ 4096) (S : World → Prop) (hBS : ∀ w, S w → B ≤ w.heap.size) : Con Try.prog 6 [.int .i64 n] S [] (fun s : Option Addr × Nat => .tuple #[RA (.slice s.1 n.toNat s.2) (.slice none 0 0) ⟨List.replicate n.toNat ⟨#[]⟩, [], -1, false⟩, .int .i64 0]) (fun _ => True)
      (fun s => RK B (.slice s.1 n.toNat s.2) (.slice none 0 0) ⟨List.replicate n.toNat ⟨#[]⟩, [], -1, false⟩) := by
 intro w F0 hS hs hlt
 have hB := hBS w hS
 refine enter (args := [.int .i64 n]) Try.func6 rfl rfl rfl hs ?_
 refine GC.seq ?_
 refine GC.region ?_
 refine GL.does [] rfl rfl rfl rfl (Does.alloc (Bs hB) rfl al31) fun gr hgr => ?_
 refine GL.gives rfl rfl rfl (Gives.assign rfl rfl) ?_
 refine GL.nil ?_
 refine GQ.thenN ?_
 refine GC.seq ?_
 refine GC.seq ?_
 refine GC.region ?_
 refine GL.gives rfl rfl rfl (Gives.move rfl rfl) ?_
 refine GL.gives rfl rfl rfl (Gives.lss rfl rfl rfl) ?_
 refine GL.gives rfl rfl rfl (Gives.move rfl rfl) ?_
 refine GL.learn (t := 8) (v' := .bool false) rfl (congrArg Value.bool (decide_eq_false (by omega))) ?_
 refine GL.gives rfl rfl rfl (Gives.move rfl rfl) ?_
 refine GL.gives rfl rfl rfl (Gives.gtr rfl rfl rfl) ?_
 refine GL.gives rfl rfl rfl (Gives.pickF rfl rfl rfl rfl) ?_
 refine GL.nil ?_
 refine GQ.thenN ?_
 refine GC.condF rfl (decide_eq_false (by omega)) ?_
 refine GC.skip ?_
 refine GQ.thenN ?_
 refine GC.seq ?_
 refine GC.region ?_
 refine GL.gives rfl rfl rfl (Gives.build (v := .agg #[.slice none 0 0, .slice none 0 0, .int .i64 (-1), .bool false]) rfl rfl (fun _ => by kernel_rfl)) ?_
 refine GL.does [] rfl rfl rfl rfl (Does.alloc (Bs hB) rfl al31) fun gd hgd => ?_
 refine GL.does0 [0] rfl rfl rfl (Does.storeb rfl rfl rfl sz31 (by simp [Value.oneCell']) rfl) fun _ _ => ?_
 refine GL.nil ?_
 refine GQ.thenN ?_
 refine GC.seq ?_
 refine GC.seq ?_
 refine GC.region ?_
 refine GL.gives rfl rfl rfl (Gives.assign rfl rfl) ?_
 refine GL.nil ?_
 refine GQ.thenN ?_
 refine GC.block ?_
 refine GC.turn [] rfl (Turns.nilRow (B := B) (e := 9) Kd.string) ?_
 refine GC.loop (σ := Int × Option Addr × Nat) (fun s => [(0, .int .i64 n), (2, .pointer (some ⟨gr, 0, none⟩)), (4, .pointer (some ⟨gd, 0, none⟩)), (5, .int .i64 s.1)])
   (fun s => [Cells gd #[.slice s.2.1 s.1.toNat s.2.2, .slice none 0 0, .int .i64 (-1), .bool false] 31, Row B Kd.string 9 (.slice s.2.1 s.1.toNat s.2.2) (List.replicate s.1.toNat (⟨#[]⟩ : ByteArray)), Cells gr #[.slice none 0 0, .slice none 0 0, .int .i64 0, .bool false] 31]) (fun s => 0 ≤ s.1 ∧ s.1 ≤ n) (fun s => (n - s.1).toNat) (0, none, 0) [1, 0, 0] ⟨by omega, by omega⟩ ⟨rfl, rfl, rfl, rfl, trivial⟩ rfl ?_
 rintro ⟨i, A, c⟩ ⟨hi0, hil⟩
 dsimp only at hi0 hil ⊢
 refine GC.seq ?_
 refine GC.seq ?_
 refine GC.region ?_
 refine GL.gives rfl rfl rfl (Gives.move rfl rfl) ?_
 refine GL.gives rfl rfl rfl (Gives.move rfl rfl) ?_
 refine GL.gives rfl rfl rfl (Gives.lss rfl rfl rfl) ?_
 refine GL.nil ?_
 refine GQ.thenN ?_
 refine GC.split (t := 16) rfl (fun hc16 => ?_) (fun hc16 => ?_)
 ·
   replace hc16 := of_decide_eq_true hc16
   refine GC.condT rfl rfl ?_
   refine GC.skip ?_
   refine GQ.thenN ?_
   refine GC.seq ?_
   refine GC.block ?_
   refine GC.region ?_
   refine GL.gives rfl rfl rfl (Gives.fieldAddr (q := ⟨gd, 0, none⟩) rfl rfl (fun _ => by kernel_rfl)) ?_
   refine GL.gives rfl rfl rfl (Gives.loadc (v := .slice A i.toNat c) 0 rfl rfl pl28 rfl rfl) ?_
   refine GL.does [] rfl rfl rfl rfl (Does.lit (m := 1) (cs := #[.string (⟨#[]⟩ : ByteArray)]) (e := 9) (Bs hB) rfl rfl (fun _ => by kernel_rfl)) fun g3 hg3 => ?_
   have hrep : List.replicate i.toNat (⟨#[]⟩ : ByteArray) ++ [⟨#[]⟩] = List.replicate (i + 1).toNat ⟨#[]⟩ := by rw [show (i + 1).toNat = i.toNat + 1 by omega, List.replicate_succ']
   refine GL.does [2] rfl rfl rfl rfl (Does.appends (kd := Kd.string) (Bs hB) rfl rfl rfl Try.underlying28 in9 rfl (by decide) (by decide) flat_string (C_box (kd := Kd.string) (i := 0) (p := (⟨#[]⟩ : ByteArray)) (inner := [.string ⟨#[]⟩]) rfl (fun w => rfl)) (by simp; omega)) fun v _ => ?_
   refine GL.know (row_slice (i := 0) rfl) fun ⟨A', c', hv', _⟩ => ?_
   subst hv'
   refine GL.gives rfl rfl rfl (Gives.fieldAddr (q := ⟨gd, 0, none⟩) rfl rfl (fun _ => by kernel_rfl)) ?_
   refine GL.does0 [2] rfl rfl rfl (Does.store rfl rfl rfl sz28 rfl rfl rfl rfl) fun _ _ => ?_
   refine GL.nil ?_
   refine GQ.blkN ?_
   refine GQ.thenN ?_
   refine GC.region ?_
   refine GL.gives rfl rfl rfl (Gives.move rfl rfl) ?_
   refine GL.gives rfl rfl rfl (Gives.add rfl rfl rfl (by omega)) ?_
   refine GL.gives rfl rfl rfl (Gives.assign rfl rfl) ?_
   refine GL.nil ?_
   refine GQ.back (i + 1, A', c') [0, 0, 1] ⟨by dsimp only; omega, by dsimp only; omega⟩ (by dsimp only; omega) ⟨rfl, rfl, rfl, rfl, trivial⟩ (by dsimp only; rw [hrep, List.length_replicate]; rfl)
 ·
   replace hc16 := of_decide_eq_false hc16
   refine GC.condF rfl rfl ?_
   refine GC.exit ?_
   refine GQ.thenX ?_
   refine GQ.thenX ?_
   refine GQ.blkX ?_
   refine GQ.thenN ?_
   refine GC.seq ?_
   refine GC.region ?_
   refine GL.gives rfl rfl rfl (Gives.loadb (cs := #[.slice A i.toNat c, .slice none 0 0, .int .i64 (-1), .bool false]) 0 rfl rfl ag31 sz31 rfl) ?_
   refine GL.does0 [2] rfl rfl rfl (Does.storeb rfl rfl rfl sz31 (by simp [Value.oneCell']) rfl) fun _ _ => ?_
   refine GL.gives rfl rfl rfl (Gives.assign rfl rfl) ?_
   refine GL.nil ?_
   refine GQ.thenN ?_
   refine GC.ret ?_
   refine GQ.retT (vs := [.agg #[.slice A i.toNat c, .slice none 0 0, .int .i64 (-1), .bool false], .int .i64 0]) (.inl rfl) rfl rfl ⟨⟨_, rfl, lv_agg (cs := #[.slice A i.toNat c, .slice none 0 0, .int .i64 (-1), .bool false]) (i := 0) rfl ag31 sz31⟩, rfl, trivial⟩ ?_
   intro w hs
   obtain rfl : i = n := by omega
   exact ⟨(A, c), rfl, trivial, (hs.turn (is := []) rfl (Turns.nilRow (B := B) (e := 61) kW)).take (is := [3, 0]) rfl⟩

theorem rowS {w0 : World} {F0 : Nat → Prop} {L R : List Atom} {B e c i mm : Nat} {p : Addr} {xs : List ByteArray} (hL : rem1 i L = some (Row B Kd.string e (.slice (some p) mm c) xs, R)) (k : Int) (h0 : 0 ≤ k) (h1 : k < mm) : ∀ w, St w0 F0 w L → w.cell? (p.add (k.toNat * 1)) = some (.string (rdOf ⟨#[]⟩ xs k)) := fun w hs => by
  obtain ⟨ad, c, h2, h3, h4, h5⟩ := (row_C hL w hs).get_ (⟨#[]⟩ : ByteArray) k h0 h1
  obtain rfl := Option.some.inj h2
  have h6 : c = [.string (rdOf ⟨#[]⟩ xs k)] := h4
  subst h6
  exact h5 0 _ rfl
set_option maxRecDepth 100000 in
set_option maxHeartbeats 1000000 in
theorem rread_con (B : Nat) (sv lv : Value) (m : M) (n : Nat) (hm : m.Ok n) (i : Int) (S : World → Prop) (hBS : ∀ w, S w → B ≤ w.heap.size) :
    Con Try.prog 10 [RA sv lv m, .int .i64 i] S (RK B sv lv m) (fun _ : Unit => .tuple #[.string (m.read i).1, .int .i64 (m.read i).2]) (fun _ => True) (fun _ => RK B sv lv m) := by
 intro w F0 hS hs hlt
 have hB := hBS w hS
 obtain ⟨A1, c1, hsv, _⟩ := row_slice (i := 0) (B := B) (e := 9) (kd := Kd.string) (v := sv) (xs := m.S) rfl w (St.start hs)
 obtain ⟨A2, c2, hlv, _⟩ := row_slice (i := 1) (B := B) (e := 61) (kd := kW) (v := lv) (xs := m.L) rfl w (St.start hs)
 subst hsv hlv
 have hroom := hm.room
 refine enter (args := [.agg #[.slice A1 m.S.length c1, .slice A2 m.L.length c2, .int .i64 m.f, .bool m.b], .int .i64 i]) Try.func10 rfl rfl rfl hs ?_
 refine GC.seq ?_
 refine GC.region ?_
 refine GL.does [] rfl rfl rfl rfl (Does.box (cs := #[.slice A1 m.S.length c1, .slice A2 m.L.length c2, .int .i64 m.f, .bool m.b]) (Bs hB) rfl rfl rfl) fun g1 hg1 => ?_
 refine GL.gives rfl rfl rfl (Gives.assign rfl rfl) ?_
 refine GL.gives rfl rfl rfl (Gives.assign rfl rfl) ?_
 refine GL.nil ?_
 refine GQ.thenN ?_
 refine GC.seq ?_
 refine GC.seq ?_
 refine GC.region ?_
 refine GL.gives rfl rfl rfl (Gives.fieldAddr (q := ⟨g1, 3, none⟩) rfl rfl (fun _ => by kernel_rfl)) ?_
 refine GL.gives rfl rfl rfl (Gives.loadc (v := .bool m.b) 0 rfl rfl pl4 rfl rfl) ?_
 refine GL.nil ?_
 refine GQ.thenN ?_
 refine GC.split (t := 9) rfl (fun hb => ?_) (fun hb => ?_)
 ·
   have _ := hb
   refine GC.condT rfl rfl ?_
   refine GC.seq ?_
   refine GC.region ?_
   refine GL.gives rfl rfl rfl (Gives.assign rfl rfl) ?_
   refine GL.gives rfl rfl rfl (Gives.assign rfl rfl) ?_
   refine GL.nil ?_
   refine GQ.thenN ?_
   refine GC.ret ?_
   refine GQ.thenR ?_
   refine GQ.ret2 (.inl rfl) rfl rfl rfl ?_
   intro w hs
   refine ⟨(), ?_, trivial, hs.take (is := [1, 1]) rfl⟩
   unfold M.read; rw [if_pos ‹_›]
 ·
   have _ := hb
   refine GC.condF rfl rfl ?_
   refine GC.skip ?_
   refine GQ.thenN ?_
   refine GC.seq ?_
   refine GC.seq ?_
   refine GC.region ?_
   refine GL.gives rfl rfl rfl (Gives.move rfl rfl) ?_
   refine GL.gives rfl rfl rfl (Gives.lss rfl rfl rfl) ?_
   refine GL.gives rfl rfl rfl (Gives.move rfl rfl) ?_
   refine GL.split (t := 12) rfl (fun ht12 => ?_) (fun ht12 => ?_)
   ·
     replace ht12 := of_decide_eq_true ht12
     refine GL.skip rfl rfl rfl ?_
     refine GL.skip rfl rfl rfl ?_
     refine GL.skip rfl rfl rfl ?_
     refine GL.skip rfl rfl rfl ?_
     refine GL.skip rfl rfl rfl ?_
     refine GL.gives rfl rfl rfl (Gives.pickT rfl rfl rfl rfl) ?_
     refine GL.nil ?_
     refine GQ.thenN ?_
     refine GC.condT rfl rfl ?_
     refine GC.seq ?_
     refine GC.region ?_
     refine GL.gives rfl rfl rfl (Gives.assign rfl rfl) ?_
     refine GL.gives rfl rfl rfl (Gives.assign rfl rfl) ?_
     refine GL.nil ?_
     refine GQ.thenN ?_
     refine GC.ret ?_
     refine GQ.thenR ?_
     refine GQ.ret2 (.inl rfl) rfl rfl rfl ?_
     intro w hs
     refine ⟨(), ?_, trivial, hs.take (is := [1, 1]) rfl⟩
     unfold M.read; rw [if_neg (by simp [hb]), if_pos (by omega)]
   ·
     replace ht12 := of_decide_eq_false ht12
     refine GL.gives rfl rfl rfl (Gives.move rfl rfl) ?_
     refine GL.gives rfl rfl rfl (Gives.fieldAddr (q := ⟨g1, 0, none⟩) rfl rfl (fun _ => by kernel_rfl)) ?_
     refine GL.gives rfl rfl rfl (Gives.loadc (v := .slice A1 m.S.length c1) 0 rfl rfl pl28 rfl rfl) ?_
     refine GL.gives rfl rfl rfl (Gives.len rfl rfl Try.underlying28) ?_
     refine GL.gives rfl rfl rfl (Gives.geq rfl rfl rfl) ?_
     refine GL.gives rfl rfl rfl (Gives.pickF rfl rfl rfl rfl) ?_
     refine GL.nil ?_
     refine GQ.thenN ?_
     refine GC.split (t := 18) rfl (fun hc18 => ?_) (fun hc18 => ?_)
     ·
       replace hc18 := of_decide_eq_true hc18
       refine GC.condT rfl rfl ?_
       refine GC.seq ?_
       refine GC.region ?_
       refine GL.gives rfl rfl rfl (Gives.assign rfl rfl) ?_
       refine GL.gives rfl rfl rfl (Gives.assign rfl rfl) ?_
       refine GL.nil ?_
       refine GQ.thenN ?_
       refine GC.ret ?_
       refine GQ.thenR ?_
       refine GQ.ret2 (.inl rfl) rfl rfl rfl ?_
       intro w hs
       refine ⟨(), ?_, trivial, hs.take (is := [1, 1]) rfl⟩
       unfold M.read; rw [if_neg (by simp [hb]), if_pos (by omega)]
     ·
       replace hc18 := of_decide_eq_false hc18
       refine GC.condF rfl rfl ?_
       refine GC.skip ?_
       refine GQ.thenN ?_
       refine GC.seq ?_
       refine GC.region ?_
       refine GL.gives rfl rfl rfl (Gives.fieldAddr (q := ⟨g1, 0, none⟩) rfl rfl (fun _ => by kernel_rfl)) ?_
       refine GL.gives rfl rfl rfl (Gives.loadc (v := .slice A1 m.S.length c1) 0 rfl rfl pl28 rfl rfl) ?_
       refine GL.gives rfl rfl rfl (Gives.move rfl rfl) ?_
       refine GL.know (row_some (i := 1) rfl (by omega)) fun ⟨p1, hp1⟩ => ?_
       subst hp1
       refine GL.gives rfl rfl rfl (Gives.indexAddr (i := i) rfl rfl rfl Try.underlying28 sz9 (by omega) (by omega)) ?_
       refine GL.gives rfl rfl rfl (Gives.load rfl rfl pl9 (rowS (i := 1) (p := p1) (xs := m.S) rfl i (by omega) (by omega))) ?_
       refine GL.gives rfl rfl rfl (Gives.assign rfl rfl) ?_
       refine GL.nil ?_
       refine GQ.thenN ?_
       refine GC.seq ?_
       refine GC.seq ?_
       refine GC.region ?_
       refine GL.gives rfl rfl rfl (Gives.assign rfl rfl) ?_
       refine GL.nil ?_
       refine GQ.thenN ?_
       refine GC.block ?_
       refine GC.loop (σ := Int) (fun k => [(1, .int .i64 i), (2, .pointer (some ⟨g1, 0, none⟩)), (6, .string (lst (m.L.take k.toNat) i (rdOf ⟨#[]⟩ m.S i))), (7, .int .i64 k)])
         (fun _ => [Cells g1 #[.slice (some p1) m.S.length c1, .slice A2 m.L.length c2, .int .i64 m.f, .bool m.b] 31, Row B Kd.string 9 (.slice (some p1) m.S.length c1) m.S, Row B kW 61 (.slice A2 m.L.length c2) m.L]) (fun k => 0 ≤ k ∧ k ≤ m.L.length) (fun k => (m.L.length - k).toNat) 0 [0, 0, 0] ⟨by omega, by omega⟩ ⟨rfl, rfl, rfl, rfl, trivial⟩ rfl ?_
       rintro k ⟨hk0, hkl⟩
       refine GC.seq ?_
       refine GC.seq ?_
       refine GC.region ?_
       refine GL.gives rfl rfl rfl (Gives.move rfl rfl) ?_
       refine GL.gives rfl rfl rfl (Gives.fieldAddr (q := ⟨g1, 1, none⟩) rfl rfl (fun _ => by kernel_rfl)) ?_
       refine GL.gives rfl rfl rfl (Gives.loadc (v := .slice A2 m.L.length c2) 0 rfl rfl pl29 rfl rfl) ?_
       refine GL.gives rfl rfl rfl (Gives.len rfl rfl Try.underlying29) ?_
       refine GL.gives rfl rfl rfl (Gives.lss rfl rfl rfl) ?_
       refine GL.nil ?_
       refine GQ.thenN ?_
       refine GC.split (t := 28) rfl (fun hc28 => ?_) (fun hc28 => ?_)
       ·
         replace hc28 := of_decide_eq_true hc28
         refine GC.condT rfl rfl ?_
         refine GC.skip ?_
         refine GQ.thenN ?_
         refine GC.seq ?_
         refine GC.block ?_
         refine GC.seq ?_
         refine GC.region ?_
         refine GL.gives rfl rfl rfl (Gives.fieldAddr (q := ⟨g1, 1, none⟩) rfl rfl (fun _ => by kernel_rfl)) ?_
         refine GL.gives rfl rfl rfl (Gives.loadc (v := .slice A2 m.L.length c2) 0 rfl rfl pl29 rfl rfl) ?_
         refine GL.gives rfl rfl rfl (Gives.move rfl rfl) ?_
         refine GL.know (row_some (i := 2) rfl (by omega)) fun ⟨p, hp⟩ => ?_
         subst hp
         refine GL.gives rfl rfl rfl (Gives.indexAddr (i := k) rfl rfl rfl Try.underlying29 sz61 (by omega) (by omega)) ?_
         refine GL.gives rfl rfl rfl (Gives.fieldAddr (q := (p.add (k.toNat * 2))) rfl rfl (fun _ => by kernel_rfl)) ?_
         refine GL.gives rfl rfl rfl (Gives.load rfl rfl pl3 (fun w hs => (rowW (i := 2) (p := p) (xs := m.L) rfl k hk0 (by omega) w hs).1)) ?_
         refine GL.gives rfl rfl rfl (Gives.move rfl rfl) ?_
         refine GL.gives rfl rfl rfl (Gives.eqi rfl rfl rfl) ?_
         refine GL.nil ?_
         refine GQ.thenN ?_
         refine GC.split (t := 38) rfl (fun hat => ?_) (fun hat => ?_)
         ·
           replace hat := by simpa using hat
           refine GC.condT rfl rfl ?_
           refine GC.region ?_
           refine GL.gives rfl rfl rfl (Gives.fieldAddr (q := ⟨g1, 1, none⟩) rfl rfl (fun _ => by kernel_rfl)) ?_
           refine GL.gives rfl rfl rfl (Gives.loadc (v := .slice (some p) m.L.length c2) 0 rfl rfl pl29 rfl rfl) ?_
           refine GL.gives rfl rfl rfl (Gives.move rfl rfl) ?_
           refine GL.gives rfl rfl rfl (Gives.indexAddr (i := k) rfl rfl rfl Try.underlying29 sz61 (by omega) (by omega)) ?_
           refine GL.gives rfl rfl rfl (Gives.fieldAddr (q := ⟨(p.add (k.toNat * 2)).block, (p.add (k.toNat * 2)).off + 1, none⟩) rfl rfl (fun _ => by kernel_rfl)) ?_
           refine GL.gives rfl rfl rfl (Gives.load rfl rfl pl9 (fun w hs => (rowW (i := 2) (p := p) (xs := m.L) rfl k hk0 (by omega) w hs).2)) ?_
           refine GL.gives rfl rfl rfl (Gives.assign rfl rfl) ?_
           refine GL.nil ?_
           refine GQ.blkN ?_
           refine GQ.thenN ?_
           refine GC.region ?_
           refine GL.gives rfl rfl rfl (Gives.move rfl rfl) ?_
           refine GL.gives rfl rfl rfl (Gives.add rfl rfl rfl (by omega)) ?_
           refine GL.gives rfl rfl rfl (Gives.assign rfl rfl) ?_
           refine GL.nil ?_
           refine GQ.back (k + 1) [0, 0, 0] ⟨by omega, by omega⟩ (by omega) ⟨rfl, rfl, (show some (Value.string _) = some (Value.string _) from by rw [take_rd m.L k hk0 (by omega), lst_snoc]; (first | rw [if_pos hat] | rw [if_neg hat])), rfl, trivial⟩ rfl
         ·
           replace hat := by simpa using hat
           refine GC.condF rfl rfl ?_
           refine GC.skip ?_
           refine GQ.blkN ?_
           refine GQ.thenN ?_
           refine GC.region ?_
           refine GL.gives rfl rfl rfl (Gives.move rfl rfl) ?_
           refine GL.gives rfl rfl rfl (Gives.add rfl rfl rfl (by omega)) ?_
           refine GL.gives rfl rfl rfl (Gives.assign rfl rfl) ?_
           refine GL.nil ?_
           refine GQ.back (k + 1) [0, 0, 0] ⟨by omega, by omega⟩ (by omega) ⟨rfl, rfl, (show some (Value.string _) = some (Value.string _) from by rw [take_rd m.L k hk0 (by omega), lst_snoc]; (first | rw [if_pos hat] | rw [if_neg hat])), rfl, trivial⟩ rfl
       ·
         replace hc28 := of_decide_eq_false hc28
         refine GC.condF rfl rfl ?_
         refine GC.exit ?_
         refine GQ.thenX ?_
         refine GQ.thenX ?_
         refine GQ.blkX ?_
         refine GQ.thenN ?_
         refine GC.seq ?_
         refine GC.region ?_
         refine GL.gives rfl rfl rfl (Gives.move rfl rfl) ?_
         refine GL.gives rfl rfl rfl (Gives.assign rfl rfl) ?_
         refine GL.gives rfl rfl rfl (Gives.assign rfl rfl) ?_
         refine GL.nil ?_
         refine GQ.thenN ?_
         refine GC.ret ?_
         refine GQ.ret2 (.inl rfl) rfl rfl rfl ?_
         intro w hs
         rw [List.take_of_length_le (by omega)]
         refine ⟨(), ?_, trivial, hs.take (is := [1, 1]) rfl⟩
         unfold M.read; rw [if_neg (by simp [hb]), if_neg (by omega)]

set_option maxRecDepth 100000 in
set_option maxHeartbeats 1000000 in
theorem rwrite_con (B : Nat) (sv lv : Value) (m : M) (n : Nat) (hm : m.Ok n) (hr : m.L.length < 1000000000000) (i : Int) (d : ByteArray) (S : World → Prop) (hBS : ∀ w, S w → B ≤ w.heap.size) :
    Con Try.prog 14 [RA sv lv m, .int .i64 i, .string d] S (RK B sv lv m) (fun lv' : Value => .tuple #[RA sv lv' (m.write i d).1, .int .i64 (m.write i d).2]) (fun _ => True) (fun lv' => RK B sv lv' (m.write i d).1) := by
 intro w F0 hS hs hlt
 have hB := hBS w hS
 obtain ⟨A1, c1, hsv, _⟩ := row_slice (i := 0) (B := B) (e := 9) (kd := Kd.string) (v := sv) (xs := m.S) rfl w (St.start hs)
 obtain ⟨A2, c2, hlv, _⟩ := row_slice (i := 1) (B := B) (e := 61) (kd := kW) (v := lv) (xs := m.L) rfl w (St.start hs)
 subst hsv hlv
 have hroom := hm.room
 have hlen := hm.len
 obtain ⟨hk1, hk2⟩ := burn_keeps m
 refine enter (args := [.agg #[.slice A1 m.S.length c1, .slice A2 m.L.length c2, .int .i64 m.f, .bool m.b], .int .i64 i, .string d]) Try.func14 rfl rfl rfl hs ?_
 refine GC.seq ?_
 refine GC.region ?_
 refine GL.does [] rfl rfl rfl rfl (Does.box (cs := #[.slice A1 m.S.length c1, .slice A2 m.L.length c2, .int .i64 m.f, .bool m.b]) (Bs hB) rfl rfl rfl) fun g1 hg1 => ?_
 refine GL.does [] rfl rfl rfl rfl (Does.alloc (Bs hB) rfl al31) fun g2 hg2 => ?_
 refine GL.gives rfl rfl rfl (Gives.assign rfl rfl) ?_
 refine GL.nil ?_
 refine GQ.thenN ?_
 refine GC.meet (σ := Unit) (fun _ => [(1, .int .i64 i), (2, .string d), (3, .pointer (some ⟨g1, 0, none⟩)), (6, .pointer (some ⟨g2, 0, none⟩))]) (fun _ => [Cells g1 #[.slice A1 m.S.length c1, .slice A2 m.L.length c2, .int .i64 m.f, .bool m.b] 31, Cells g2 #[.slice none 0 0, .slice none 0 0, .int .i64 0, .bool false] 31, Row B Kd.string 9 (.slice A1 m.S.length c1) m.S, Row B kW 61 (.slice A2 m.L.length c2) m.L]) (fun _ => ¬ (m.b = false ∧ (i < 0 ∨ m.S.length ≤ i ∨ 256 < d.size))) ?_ ?_
 ·
   refine GC.seq ?_
   refine GC.region ?_
   refine GL.gives rfl rfl rfl (Gives.fieldAddr (q := ⟨g1, 3, none⟩) rfl rfl (fun _ => by kernel_rfl)) ?_
   refine GL.gives rfl rfl rfl (Gives.loadc (v := .bool m.b) 1 rfl rfl pl4 rfl rfl) ?_
   refine GL.gives rfl rfl rfl (Gives.not rfl rfl) ?_
   refine GL.gives rfl rfl rfl (Gives.move rfl rfl) ?_
   refine GL.split (t := 12) rfl (fun ht12 => ?_) (fun ht12 => ?_)
   ·
     replace ht12 := by simpa using ht12
     refine GL.gives rfl rfl rfl (Gives.move rfl rfl) ?_
     refine GL.gives rfl rfl rfl (Gives.lss rfl rfl rfl) ?_
     refine GL.gives rfl rfl rfl (Gives.move rfl rfl) ?_
     refine GL.split (t := 15) rfl (fun ht15 => ?_) (fun ht15 => ?_)
     ·
       replace ht15 := of_decide_eq_true ht15
       refine GL.skip rfl rfl rfl ?_
       refine GL.skip rfl rfl rfl ?_
       refine GL.skip rfl rfl rfl ?_
       refine GL.skip rfl rfl rfl ?_
       refine GL.skip rfl rfl rfl ?_
       refine GL.gives rfl rfl rfl (Gives.pickT rfl rfl rfl rfl) ?_
       refine GL.gives rfl rfl rfl (Gives.move rfl rfl) ?_
       refine GL.skip rfl rfl rfl ?_
       refine GL.skip rfl rfl rfl ?_
       refine GL.skip rfl rfl rfl ?_
       refine GL.gives rfl rfl rfl (Gives.pickT rfl rfl rfl rfl) ?_
       refine GL.gives rfl rfl rfl (Gives.pickT rfl rfl rfl rfl) ?_
       refine GL.nil ?_
       refine GQ.thenN ?_
       refine GC.condT rfl rfl ?_
       refine GC.seq ?_
       refine GC.region ?_
       refine GL.gives rfl rfl rfl (Gives.loadb (cs := #[.slice A1 m.S.length c1, .slice A2 m.L.length c2, .int .i64 m.f, .bool m.b]) 1 rfl rfl ag31 sz31 rfl) ?_
       refine GL.does0 [0] rfl rfl rfl (Does.storeb rfl rfl rfl sz31 (by simp [Value.oneCell']) rfl) fun _ _ => ?_
       refine GL.gives rfl rfl rfl (Gives.assign rfl rfl) ?_
       refine GL.nil ?_
       refine GQ.thenN ?_
       refine GC.ret ?_
       refine GQ.thenR ?_
       refine GQ.retT (vs := [.agg #[.slice A1 m.S.length c1, .slice A2 m.L.length c2, .int .i64 m.f, .bool m.b], .int .i64 90]) (.inl rfl) rfl rfl ⟨⟨_, rfl, lv_agg (cs := #[.slice A1 m.S.length c1, .slice A2 m.L.length c2, .int .i64 m.f, .bool m.b]) (i := 0) rfl ag31 sz31⟩, rfl, trivial⟩ ?_
       intro w hs
       refine ⟨.slice A2 m.L.length c2, ?_, trivial, ?_⟩
       · unfold M.write; rw [if_pos ⟨by assumption, by omega⟩]
       · unfold M.write; rw [if_pos ⟨by assumption, by omega⟩]; exact hs.take (is := [2, 2]) rfl
     ·
       replace ht15 := of_decide_eq_false ht15
       refine GL.gives rfl rfl rfl (Gives.move rfl rfl) ?_
       refine GL.gives rfl rfl rfl (Gives.fieldAddr (q := ⟨g1, 0, none⟩) rfl rfl (fun _ => by kernel_rfl)) ?_
       refine GL.gives rfl rfl rfl (Gives.loadc (v := .slice A1 m.S.length c1) 1 rfl rfl pl28 rfl rfl) ?_
       refine GL.gives rfl rfl rfl (Gives.len rfl rfl Try.underlying28) ?_
       refine GL.gives rfl rfl rfl (Gives.geq rfl rfl rfl) ?_
       refine GL.gives rfl rfl rfl (Gives.pickF rfl rfl rfl rfl) ?_
       refine GL.gives rfl rfl rfl (Gives.move rfl rfl) ?_
       refine GL.split (t := 22) rfl (fun ht22 => ?_) (fun ht22 => ?_)
       ·
         replace ht22 := of_decide_eq_true ht22
         refine GL.skip rfl rfl rfl ?_
         refine GL.skip rfl rfl rfl ?_
         refine GL.skip rfl rfl rfl ?_
         refine GL.gives rfl rfl rfl (Gives.pickT rfl rfl rfl rfl) ?_
         refine GL.gives rfl rfl rfl (Gives.pickT rfl rfl rfl rfl) ?_
         refine GL.nil ?_
         refine GQ.thenN ?_
         refine GC.condT rfl rfl ?_
         refine GC.seq ?_
         refine GC.region ?_
         refine GL.gives rfl rfl rfl (Gives.loadb (cs := #[.slice A1 m.S.length c1, .slice A2 m.L.length c2, .int .i64 m.f, .bool m.b]) 1 rfl rfl ag31 sz31 rfl) ?_
         refine GL.does0 [0] rfl rfl rfl (Does.storeb rfl rfl rfl sz31 (by simp [Value.oneCell']) rfl) fun _ _ => ?_
         refine GL.gives rfl rfl rfl (Gives.assign rfl rfl) ?_
         refine GL.nil ?_
         refine GQ.thenN ?_
         refine GC.ret ?_
         refine GQ.thenR ?_
         refine GQ.retT (vs := [.agg #[.slice A1 m.S.length c1, .slice A2 m.L.length c2, .int .i64 m.f, .bool m.b], .int .i64 90]) (.inl rfl) rfl rfl ⟨⟨_, rfl, lv_agg (cs := #[.slice A1 m.S.length c1, .slice A2 m.L.length c2, .int .i64 m.f, .bool m.b]) (i := 0) rfl ag31 sz31⟩, rfl, trivial⟩ ?_
         intro w hs
         refine ⟨.slice A2 m.L.length c2, ?_, trivial, ?_⟩
         · unfold M.write; rw [if_pos ⟨by assumption, by omega⟩]
         · unfold M.write; rw [if_pos ⟨by assumption, by omega⟩]; exact hs.take (is := [2, 2]) rfl
       ·
         replace ht22 := of_decide_eq_false ht22
         refine GL.gives rfl rfl rfl (Gives.move rfl rfl) ?_
         refine GL.gives rfl rfl rfl (Gives.lens rfl rfl Try.underlying9) ?_
         refine GL.gives rfl rfl rfl (Gives.gtr rfl rfl rfl) ?_
         refine GL.gives rfl rfl rfl (Gives.pickF rfl rfl rfl rfl) ?_
         refine GL.gives rfl rfl rfl (Gives.pickT rfl rfl rfl rfl) ?_
         refine GL.nil ?_
         refine GQ.thenN ?_
         refine GC.split (t := 27) rfl (fun hc27 => ?_) (fun hc27 => ?_)
         ·
           replace hc27 := of_decide_eq_true hc27
           refine GC.condT rfl rfl ?_
           refine GC.seq ?_
           refine GC.region ?_
           refine GL.gives rfl rfl rfl (Gives.loadb (cs := #[.slice A1 m.S.length c1, .slice A2 m.L.length c2, .int .i64 m.f, .bool m.b]) 1 rfl rfl ag31 sz31 rfl) ?_
           refine GL.does0 [0] rfl rfl rfl (Does.storeb rfl rfl rfl sz31 (by simp [Value.oneCell']) rfl) fun _ _ => ?_
           refine GL.gives rfl rfl rfl (Gives.assign rfl rfl) ?_
           refine GL.nil ?_
           refine GQ.thenN ?_
           refine GC.ret ?_
           refine GQ.thenR ?_
           refine GQ.retT (vs := [.agg #[.slice A1 m.S.length c1, .slice A2 m.L.length c2, .int .i64 m.f, .bool m.b], .int .i64 90]) (.inl rfl) rfl rfl ⟨⟨_, rfl, lv_agg (cs := #[.slice A1 m.S.length c1, .slice A2 m.L.length c2, .int .i64 m.f, .bool m.b]) (i := 0) rfl ag31 sz31⟩, rfl, trivial⟩ ?_
           intro w hs
           refine ⟨.slice A2 m.L.length c2, ?_, trivial, ?_⟩
           · unfold M.write; rw [if_pos ⟨by assumption, by omega⟩]
           · unfold M.write; rw [if_pos ⟨by assumption, by omega⟩]; exact hs.take (is := [2, 2]) rfl
         ·
           replace hc27 := of_decide_eq_false hc27
           refine GC.condF rfl rfl ?_
           refine GC.skip ?_
           refine GQ.meet () [1, 0, 0, 0] (fun hc => ?_) ⟨rfl, rfl, rfl, rfl, trivial⟩ rfl
           first | omega | simp_all
   ·
     replace ht12 := by simpa using ht12
     refine GL.skip rfl rfl rfl ?_
     refine GL.skip rfl rfl rfl ?_
     refine GL.skip rfl rfl rfl ?_
     refine GL.skip rfl rfl rfl ?_
     refine GL.skip rfl rfl rfl ?_
     refine GL.skip rfl rfl rfl ?_
     refine GL.skip rfl rfl rfl ?_
     refine GL.skip rfl rfl rfl ?_
     refine GL.skip rfl rfl rfl ?_
     refine GL.skip rfl rfl rfl ?_
     refine GL.skip rfl rfl rfl ?_
     refine GL.skip rfl rfl rfl ?_
     refine GL.skip rfl rfl rfl ?_
     refine GL.skip rfl rfl rfl ?_
     refine GL.gives rfl rfl rfl (Gives.pickF rfl rfl rfl rfl) ?_
     refine GL.nil ?_
     refine GQ.thenN ?_
     refine GC.condF rfl rfl ?_
     refine GC.skip ?_
     refine GQ.meet () [1, 0, 0, 0] (fun hc => ?_) ⟨rfl, rfl, rfl, rfl, trivial⟩ rfl
     first | omega | simp_all
 ·
   rintro _ hno
   refine GC.seq ?_
   refine GC.region ?_
   refine GL.gives rfl rfl rfl (Gives.loadb (cs := #[.slice A1 m.S.length c1, .slice A2 m.L.length c2, .int .i64 m.f, .bool m.b]) 0 rfl rfl ag31 sz31 rfl) ?_
   refine GL.does [2, 2] rfl rfl rfl rfl (Does.call rfl rfl Try.func20 rfl rfl (burn_con B (.slice A1 m.S.length c1) (.slice A2 m.L.length c2) m hm.fuse _ (Bs hB))) fun _ _ => ?_
   refine GL.norm (L' := [Row B Kd.string 9 (.slice A1 m.S.length c1) m.S, Row B kW 61 (.slice A2 m.L.length c2) m.L, Cells g1 #[.slice A1 m.S.length c1, .slice A2 m.L.length c2, .int .i64 m.f, .bool m.b] 31, Cells g2 #[.slice none 0 0, .slice none 0 0, .int .i64 0, .bool false] 31]) (by unfold RK; rw [hk1, hk2]; rfl) ?_
   refine GL.gives rfl rfl rfl (Gives.move rfl rfl) ?_
   refine GL.gives rfl rfl rfl (Gives.extract (v := .agg #[.slice A1 m.S.length c1, .slice A2 m.L.length c2, .int .i64 m.burn.1.f, .bool m.burn.1.b]) rfl rfl rfl) ?_
   refine GL.gives rfl rfl rfl (Gives.extract (v := .int .i64 m.burn.2) rfl rfl rfl) ?_
   refine GL.does0 [2] rfl rfl rfl (Does.storeb rfl rfl rfl sz31 (by simp [Value.oneCell']) rfl) fun _ _ => ?_
   refine GL.gives rfl rfl rfl (Gives.assign rfl rfl) ?_
   refine GL.nil ?_
   refine GQ.thenN ?_
   refine GC.seq ?_
   refine GC.seq ?_
   refine GC.region ?_
   refine GL.gives rfl rfl rfl (Gives.move rfl rfl) ?_
   refine GL.gives rfl rfl rfl (Gives.eqi rfl rfl rfl) ?_
   refine GL.nil ?_
   refine GQ.thenN ?_
   refine GC.split (t := 35) rfl (fun he => ?_) (fun he => ?_)
   ·
     replace he := by simpa using he
     refine GC.condT rfl rfl ?_
     refine GC.region ?_
     refine GL.does [] rfl rfl rfl rfl (Does.lit (m := 0) (cs := #[]) (e := 61) (Bs hB) rfl rfl (fun _ => by kernel_rfl)) fun gs hgs => ?_
     refine GL.turn [0] rfl (Turns.row (kd := kW) (B := B) (xs := ([] : List WS)) (inner := []) hgs rfl (by simp) (fun _ _ => Reps.none _ _)) ?_
     refine GL.gives rfl rfl rfl (Gives.fieldAddr (q := ⟨g1, 1, none⟩) rfl rfl (fun _ => by kernel_rfl)) ?_
     refine GL.gives rfl rfl rfl (Gives.loadc (v := .slice A2 m.L.length c2) 1 rfl rfl pl29 rfl rfl) ?_
     refine GL.does [0] rfl rfl rfl rfl (Does.appends (kd := kW) (ys := m.L) (Bs hB) rfl rfl rfl Try.underlying29 in61 rfl (by decide) (by decide) kW_flat (row_C (i := 3) rfl) (by simp; omega)) fun v _ => ?_
     refine GL.gives rfl rfl rfl (Gives.move rfl rfl) ?_
     refine GL.gives rfl rfl rfl (Gives.move rfl rfl) ?_
     refine GL.gives rfl rfl rfl (Gives.build (v := .agg #[.int .i64 i, .string d]) rfl rfl (fun _ => by kernel_rfl)) ?_
     refine GL.does [] rfl rfl rfl rfl (Does.lit (m := 1) (cs := #[.int .i64 i, .string d]) (e := 61) (Bs hB) rfl rfl (fun _ => by kernel_rfl)) fun g4 hg4 => ?_
     refine GL.does [1] rfl rfl rfl rfl (Does.appends (kd := kW) (Bs hB) rfl rfl rfl Try.underlying29 in61 rfl (by decide) (by decide) kW_flat (C_box (kd := kW) (i := 0) (p := (i, d)) (inner := [.int .i64 i, .string d]) rfl (fun w => ⟨[_], [_], rfl, rfl, rfl⟩)) (by simp; omega)) fun vl' _ => ?_
     refine GL.know (row_slice (i := 0) rfl) fun ⟨A', c', hv', _⟩ => ?_
     subst hv'
     refine GL.gives rfl rfl rfl (Gives.fieldAddr (q := ⟨g1, 1, none⟩) rfl rfl (fun _ => by kernel_rfl)) ?_
     refine GL.does0 [2] rfl rfl rfl (Does.store rfl rfl rfl sz29 rfl rfl rfl rfl) fun _ _ => ?_
     refine GL.nil ?_
     refine GQ.thenN ?_
     refine GC.seq ?_
     refine GC.region ?_
     refine GL.gives rfl rfl rfl (Gives.loadb (cs := #[.slice A1 m.S.length c1, .slice A' (([] ++ m.L) ++ [(i, d)]).length c', .int .i64 m.burn.1.f, .bool m.burn.1.b]) 0 rfl rfl ag31 sz31 rfl) ?_
     refine GL.gives rfl rfl rfl (Gives.move rfl rfl) ?_
     refine GL.does0 [5] rfl rfl rfl (Does.storeb rfl rfl rfl sz31 (by simp [Value.oneCell']) rfl) fun _ _ => ?_
     refine GL.gives rfl rfl rfl (Gives.assign rfl rfl) ?_
     refine GL.nil ?_
     refine GQ.thenN ?_
     refine GC.ret ?_
     refine GQ.retT (vs := [.agg #[.slice A1 m.S.length c1, .slice A' (([] ++ m.L) ++ [(i, d)]).length c', .int .i64 m.burn.1.f, .bool m.burn.1.b], .int .i64 m.burn.2]) (.inl rfl) rfl rfl ⟨⟨_, rfl, lv_agg (cs := #[.slice A1 m.S.length c1, .slice A' (([] ++ m.L) ++ [(i, d)]).length c', .int .i64 m.burn.1.f, .bool m.burn.1.b]) (i := 0) rfl ag31 sz31⟩, rfl, trivial⟩ ?_
     intro w hs
     refine ⟨.slice A' (([] ++ m.L) ++ [(i, d)]).length c', ?_, trivial, ?_⟩
     · unfold M.write; rw [if_neg hno, if_pos he, he]
     · unfold M.write; rw [if_neg hno, if_pos he]; unfold RK; simp only [hk1]; exact hs.take (is := [4, 2]) rfl
   ·
     replace he := by simpa using he
     refine GC.condF rfl rfl ?_
     refine GC.skip ?_
     refine GQ.thenN ?_
     refine GC.seq ?_
     refine GC.region ?_
     refine GL.gives rfl rfl rfl (Gives.loadb (cs := #[.slice A1 m.S.length c1, .slice A2 m.L.length c2, .int .i64 m.burn.1.f, .bool m.burn.1.b]) 0 rfl rfl ag31 sz31 rfl) ?_
     refine GL.gives rfl rfl rfl (Gives.move rfl rfl) ?_
     refine GL.does0 [3] rfl rfl rfl (Does.storeb rfl rfl rfl sz31 (by simp [Value.oneCell']) rfl) fun _ _ => ?_
     refine GL.gives rfl rfl rfl (Gives.assign rfl rfl) ?_
     refine GL.nil ?_
     refine GQ.thenN ?_
     refine GC.ret ?_
     refine GQ.retT (vs := [.agg #[.slice A1 m.S.length c1, .slice A2 m.L.length c2, .int .i64 m.burn.1.f, .bool m.burn.1.b], .int .i64 m.burn.2]) (.inl rfl) rfl rfl ⟨⟨_, rfl, lv_agg (cs := #[.slice A1 m.S.length c1, .slice A2 m.L.length c2, .int .i64 m.burn.1.f, .bool m.burn.1.b]) (i := 0) rfl ag31 sz31⟩, rfl, trivial⟩ ?_
     intro w hs
     refine ⟨.slice A2 m.L.length c2, ?_, trivial, ?_⟩
     · unfold M.write; rw [if_neg hno, if_neg he]
     · unfold M.write; rw [if_neg hno, if_neg he]; unfold RK; rw [hk1, hk2]; exact hs.take (is := [2, 2]) rfl

theorem burn_fuse (m : M) (h : -9223372036854775808 ≤ m.f ∧ m.f ≤ 9223372036854775807) : -9223372036854775808 ≤ m.burn.1.f ∧ m.burn.1.f ≤ 9223372036854775807 := by
  unfold M.burn
  split
  · exact h
  · dsimp only; split <;> omega
theorem burn_eta (m : M) : m.burn.1 = ⟨m.S, m.L, m.burn.1.f, m.burn.1.b⟩ := by
  obtain ⟨h1, h2⟩ := burn_keeps m
  cases hb : m.burn.1 with
  | mk S L f b => rw [hb] at h1 h2; simp at h1 h2; rw [h1, h2]
set_option maxRecDepth 100000 in
set_option maxHeartbeats 1000000 in
theorem rsync_con (B : Nat) (sv lv : Value) (m : M) (n : Nat) (hm : m.Ok n) (S : World → Prop) (hBS : ∀ w, S w → B ≤ w.heap.size) :
    Con Try.prog 15 [RA sv lv m] S (RK B sv lv m) (fun s : Value × Value => .tuple #[RA s.1 s.2 m.sync.1, .int .i64 m.sync.2]) (fun _ => True) (fun s => RK B s.1 s.2 m.sync.1) := by
 intro w F0 hS hs hlt
 have hB := hBS w hS
 obtain ⟨A1, c1, hsv, _⟩ := row_slice (i := 0) (B := B) (e := 9) (kd := Kd.string) (v := sv) (xs := m.S) rfl w (St.start hs)
 obtain ⟨A2, c2, hlv, _⟩ := row_slice (i := 1) (B := B) (e := 61) (kd := kW) (v := lv) (xs := m.L) rfl w (St.start hs)
 subst hsv hlv
 have hroom := hm.room
 have hlen := hm.len
 have hpos := hm.pos
 obtain ⟨hk1, hk2⟩ := burn_keeps m
 have hok : m.burn.1.Ok n := ⟨by rw [hk1]; exact hm.len, hm.pos, by rw [hk2]; exact hm.late, (burn_fuse m hm.fuse), by rw [hk2]; exact hm.room⟩
 refine enter (args := [.agg #[.slice A1 m.S.length c1, .slice A2 m.L.length c2, .int .i64 m.f, .bool m.b]]) Try.func15 rfl rfl rfl hs ?_
 refine GC.seq ?_
 refine GC.region ?_
 refine GL.does [] rfl rfl rfl rfl (Does.box (cs := #[.slice A1 m.S.length c1, .slice A2 m.L.length c2, .int .i64 m.f, .bool m.b]) (Bs hB) rfl rfl rfl) fun g1 hg1 => ?_
 refine GL.does [] rfl rfl rfl rfl (Does.alloc (Bs hB) rfl al31) fun g2 hg2 => ?_
 refine GL.gives rfl rfl rfl (Gives.assign rfl rfl) ?_
 refine GL.nil ?_
 refine GQ.thenN ?_
 refine GC.seq ?_
 refine GC.region ?_
 refine GL.gives rfl rfl rfl (Gives.loadb (cs := #[.slice A1 m.S.length c1, .slice A2 m.L.length c2, .int .i64 m.f, .bool m.b]) 1 rfl rfl ag31 sz31 rfl) ?_
 refine GL.does [2, 2] rfl rfl rfl rfl (Does.call rfl rfl Try.func20 rfl rfl (burn_con B (.slice A1 m.S.length c1) (.slice A2 m.L.length c2) m hm.fuse _ (Bs hB))) fun _ _ => ?_
 refine GL.norm (L' := [Row B Kd.string 9 (.slice A1 m.S.length c1) m.S, Row B kW 61 (.slice A2 m.L.length c2) m.L, Cells g2 #[.slice none 0 0, .slice none 0 0, .int .i64 0, .bool false] 31, Cells g1 #[.slice A1 m.S.length c1, .slice A2 m.L.length c2, .int .i64 m.f, .bool m.b] 31]) (by unfold RK; rw [hk1, hk2]; rfl) ?_
 refine GL.gives rfl rfl rfl (Gives.move rfl rfl) ?_
 refine GL.gives rfl rfl rfl (Gives.extract (v := .agg #[.slice A1 m.S.length c1, .slice A2 m.L.length c2, .int .i64 m.burn.1.f, .bool m.burn.1.b]) rfl rfl rfl) ?_
 refine GL.gives rfl rfl rfl (Gives.extract (v := .int .i64 m.burn.2) rfl rfl rfl) ?_
 refine GL.does0 [3] rfl rfl rfl (Does.storeb rfl rfl rfl sz31 (by simp [Value.oneCell']) rfl) fun _ _ => ?_
 refine GL.gives rfl rfl rfl (Gives.assign rfl rfl) ?_
 refine GL.nil ?_
 refine GQ.thenN ?_
 refine GC.seq ?_
 refine GC.seq ?_
 refine GC.region ?_
 refine GL.gives rfl rfl rfl (Gives.move rfl rfl) ?_
 refine GL.gives rfl rfl rfl (Gives.eqi rfl rfl rfl) ?_
 refine GL.nil ?_
 refine GQ.thenN ?_
 refine GC.split (t := 11) rfl (fun he => ?_) (fun he => ?_)
 ·
   replace he := by simpa using he
   refine GC.condT rfl rfl ?_
   refine GC.region ?_
   refine GL.gives rfl rfl rfl (Gives.loadb (cs := #[.slice A1 m.S.length c1, .slice A2 m.L.length c2, .int .i64 m.burn.1.f, .bool m.burn.1.b]) 0 rfl rfl ag31 sz31 rfl) ?_
   refine GL.does [1, 1] rfl rfl rfl rfl (Does.call rfl rfl Try.func21 rfl rfl (rkept_con B (.slice A1 m.S.length c1) (.slice A2 m.L.length c2) ⟨m.S, m.L, m.burn.1.f, m.burn.1.b⟩ n (by have h := hok; rwa [burn_eta m] at h) 18446744073709551615 (by decide) _ (Bs hB))) fun sv' _ => ?_
   refine GL.know (row_slice (i := 0) rfl) fun ⟨A', c', hv', _⟩ => ?_
   subst hv'
   refine GL.gives rfl rfl rfl (Gives.fieldAddr (q := ⟨g1, 0, none⟩) rfl rfl (fun _ => by kernel_rfl)) ?_
   refine GL.does0 [3] rfl rfl rfl (Does.store rfl rfl rfl sz28 rfl rfl rfl rfl) fun _ _ => ?_
   refine GL.gives rfl rfl rfl (Gives.fieldAddr (q := ⟨g1, 1, none⟩) rfl rfl (fun _ => by kernel_rfl)) ?_
   refine GL.does0 [0] rfl rfl rfl (Does.store rfl rfl rfl sz29 rfl rfl rfl rfl) fun _ _ => ?_
   refine GL.nil ?_
   refine GQ.thenN ?_
   refine GC.seq ?_
   refine GC.region ?_
   refine GL.gives rfl rfl rfl (Gives.loadb (cs := #[.slice A' (kept 18446744073709551615 m.S m.L 0).length c', .slice none 0 0, .int .i64 m.burn.1.f, .bool m.burn.1.b]) 0 rfl rfl ag31 sz31 rfl) ?_
   refine GL.gives rfl rfl rfl (Gives.move rfl rfl) ?_
   refine GL.does0 [4] rfl rfl rfl (Does.storeb rfl rfl rfl sz31 (by simp [Value.oneCell']) rfl) fun _ _ => ?_
   refine GL.gives rfl rfl rfl (Gives.assign rfl rfl) ?_
   refine GL.nil ?_
   refine GQ.thenN ?_
   refine GC.ret ?_
   refine GQ.retT (vs := [.agg #[.slice A' (kept 18446744073709551615 m.S m.L 0).length c', .slice none 0 0, .int .i64 m.burn.1.f, .bool m.burn.1.b], .int .i64 m.burn.2]) (.inl rfl) rfl rfl ⟨⟨_, rfl, lv_agg (cs := #[.slice A' (kept 18446744073709551615 m.S m.L 0).length c', .slice none 0 0, .int .i64 m.burn.1.f, .bool m.burn.1.b]) (i := 0) rfl ag31 sz31⟩, rfl, trivial⟩ ?_
   intro w hs
   refine ⟨(.slice A' (kept 18446744073709551615 m.S m.L 0).length c', .slice none 0 0), ?_, trivial, ?_⟩
   · unfold M.sync; rw [if_pos he, he]
   · unfold M.sync; rw [if_pos he]; unfold RK; rw [kept_all] at hs; simp only [kept_all]; exact (hs.turn (is := []) rfl (Turns.nilRow (B := B) (e := 61) kW)).take (is := [3, 0]) rfl
 ·
   replace he := by simpa using he
   refine GC.condF rfl rfl ?_
   refine GC.skip ?_
   refine GQ.thenN ?_
   refine GC.seq ?_
   refine GC.region ?_
   refine GL.gives rfl rfl rfl (Gives.loadb (cs := #[.slice A1 m.S.length c1, .slice A2 m.L.length c2, .int .i64 m.burn.1.f, .bool m.burn.1.b]) 0 rfl rfl ag31 sz31 rfl) ?_
   refine GL.gives rfl rfl rfl (Gives.move rfl rfl) ?_
   refine GL.does0 [3] rfl rfl rfl (Does.storeb rfl rfl rfl sz31 (by simp [Value.oneCell']) rfl) fun _ _ => ?_
   refine GL.gives rfl rfl rfl (Gives.assign rfl rfl) ?_
   refine GL.nil ?_
   refine GQ.thenN ?_
   refine GC.ret ?_
   refine GQ.retT (vs := [.agg #[.slice A1 m.S.length c1, .slice A2 m.L.length c2, .int .i64 m.burn.1.f, .bool m.burn.1.b], .int .i64 m.burn.2]) (.inl rfl) rfl rfl ⟨⟨_, rfl, lv_agg (cs := #[.slice A1 m.S.length c1, .slice A2 m.L.length c2, .int .i64 m.burn.1.f, .bool m.burn.1.b]) (i := 0) rfl ag31 sz31⟩, rfl, trivial⟩ ?_
   intro w hs
   refine ⟨(.slice A1 m.S.length c1, .slice A2 m.L.length c2), ?_, trivial, ?_⟩
   · unfold M.sync; rw [if_neg he]
   · unfold M.sync; rw [if_neg he]; unfold RK; rw [hk1, hk2]; exact hs.take (is := [2, 2]) rfl

set_option maxRecDepth 100000 in
set_option maxHeartbeats 1000000 in
theorem rcrash_con (B : Nat) (sv lv : Value) (m : M) (n : Nat) (hm : m.Ok n) (mask : Int) (hmask : 0 ≤ mask ∧ mask ≤ 18446744073709551615) (S : World → Prop) (hBS : ∀ w, S w → B ≤ w.heap.size) :
    Con Try.prog 17 [RA sv lv m, .int .u64 mask] S (RK B sv lv m) (fun s : Value × Value => RA s.1 s.2 (m.crash mask)) (fun _ => True) (fun s => RK B s.1 s.2 (m.crash mask)) := by
 intro w F0 hS hs hlt
 have hB := hBS w hS
 obtain ⟨A1, c1, hsv, _⟩ := row_slice (i := 0) (B := B) (e := 9) (kd := Kd.string) (v := sv) (xs := m.S) rfl w (St.start hs)
 obtain ⟨A2, c2, hlv, _⟩ := row_slice (i := 1) (B := B) (e := 61) (kd := kW) (v := lv) (xs := m.L) rfl w (St.start hs)
 subst hsv hlv
 have hroom := hm.room
 refine enter (args := [.agg #[.slice A1 m.S.length c1, .slice A2 m.L.length c2, .int .i64 m.f, .bool m.b], .int .u64 mask]) Try.func17 rfl rfl rfl hs ?_
 refine GC.seq ?_
 refine GC.region ?_
 refine GL.does [] rfl rfl rfl rfl (Does.box (cs := #[.slice A1 m.S.length c1, .slice A2 m.L.length c2, .int .i64 m.f, .bool m.b]) (Bs hB) rfl rfl rfl) fun g1 hg1 => ?_
 refine GL.does [] rfl rfl rfl rfl (Does.alloc (Bs hB) rfl al31) fun g2 hg2 => ?_
 refine GL.nil ?_
 refine GQ.thenN ?_
 refine GC.seq ?_
 refine GC.region ?_
 refine GL.gives rfl rfl rfl (Gives.loadb (cs := #[.slice A1 m.S.length c1, .slice A2 m.L.length c2, .int .i64 m.f, .bool m.b]) 1 rfl rfl ag31 sz31 rfl) ?_
 refine GL.gives rfl rfl rfl (Gives.move rfl rfl) ?_
 refine GL.does [2, 2] rfl rfl rfl rfl (Does.call rfl rfl Try.func21 rfl rfl (rkept_con B (.slice A1 m.S.length c1) (.slice A2 m.L.length c2) m n hm mask hmask _ (Bs hB))) fun sv' _ => ?_
 refine GL.know (row_slice (i := 0) rfl) fun ⟨A', c', hv', _⟩ => ?_
 subst hv'
 refine GL.gives rfl rfl rfl (Gives.build (v := .agg #[.slice A' (kept mask m.S m.L 0).length c', .slice none 0 0, .int .i64 (-1), .bool false]) rfl rfl (fun _ => by kernel_rfl)) ?_
 refine GL.does0 [3] rfl rfl rfl (Does.storeb rfl rfl rfl sz31 (by simp [Value.oneCell']) rfl) fun _ _ => ?_
 refine GL.nil ?_
 refine GQ.thenN ?_
 refine GC.ret ?_
 refine GQ.retS (v := .agg #[.slice A' (kept mask m.S m.L 0).length c', .slice none 0 0, .int .i64 (-1), .bool false]) (.inl rfl) rfl ⟨_, rfl, lv_agg (cs := #[.slice A' (kept mask m.S m.L 0).length c', .slice none 0 0, .int .i64 (-1), .bool false]) (i := 0) rfl ag31 sz31⟩ ?_
 intro w hs
 refine ⟨(.slice A' (kept mask m.S m.L 0).length c', .slice none 0 0), rfl, trivial, ?_⟩
 unfold M.crash RK; exact (hs.turn (is := []) rfl (Turns.nilRow (B := B) (e := 61) kW)).take (is := [2, 0]) rfl

end Go.Proofs.Ytanbpjlnomifhaa.SR
