/- What no table does, and the chapter's example. -/
import Derived.Test.YteckdfgllipilaaVU
import Derived.Test.YteckdfgllipilaaOpen
namespace Go.Proofs.Yteckdfgllipilaa.VN
open Go.RowKit Go.Proofs.YteckdfgllipilaaW.PrintWords Go.Proofs.YteckdfgllipilaaW.PrintLast Go.Proofs.YteckdfgllipilaaS Go.Proofs.Yteckdfgllipilaa.NU Go.Proofs.Yteckdfgllipilaa.NV Go.Proofs.Yteckdfgllipilaa.NW Go.Proofs.Yteckdfgllipilaa.VP Go.Proofs.Yteckdfgllipilaa.VT Go.Proofs.Yteckdfgllipilaa.VU Go.Proofs.YteckdfgllipilaaO

theorem add_add' (ad : Addr) (x y : Nat) : (ad.add x).add y = ad.add (x + y) := by
  unfold Addr.add
  by_cases hq1 : x = 0 <;> by_cases hq2 : y = 0 <;> simp [hq1, hq2, Nat.add_assoc]
/-- A slice cut from the front. -/
theorem sliced_C {α : Type} {kd : Kd α} {A : Option Addr} {l m c : Nat} {xs : List α} (hl : l ≤ m) (hc : m ≤ c) : ∃ A' c', sliced A l m c kd.sz = .slice A' (m - l) c' ∧ m - l ≤ c' ∧ ∀ w, kd.C w A m xs → kd.C w A' (m - l) (xs.drop l) := by
  refine ⟨_, _, rfl, by omega, fun w h => ⟨by rw [List.length_drop, h.1], by have := h.2.1; omega, fun hp => ?_⟩⟩
  rw [if_neg (by omega)]
  obtain ⟨ad, e, h2⟩ := h.2.2 (by omega)
  subst e
  refine ⟨_, rfl, fun j p hj => ?_⟩
  rw [List.getElem?_drop] at hj
  obtain ⟨c', h3, h4, h5⟩ := h2 (l + j) p hj
  refine ⟨c', h3, h4, fun i u hi => ?_⟩
  have := h5 i u hi
  rw [add_add']
  rwa [show l * kd.sz + (j * kd.sz + i) = (l + j) * kd.sz + i by rw [Nat.add_mul]; omega]
abbrev sa : ByteArray := ⟨#[97]⟩
abbrev sb : ByteArray := ⟨#[98]⟩
def t0 : T := ⟨[], [sa, sb], 0⟩
def t1 : T := ⟨[], [sb], 0⟩
theorem t0_ok : t0.Ok := ⟨List.Pairwise.nil, fun x h => (by cases h), by simp [t0], by simp [t0], fun a h => (by simp [t0] at h; rcases h with rfl | rfl <;> decide), by simp [t0]⟩
theorem t1_ok : t1.Ok := ⟨List.Pairwise.nil, fun x h => (by cases h), by simp [t1], by simp [t1], fun a h => (by simp [t1] at h; subst h; decide), by simp [t1]⟩
theorem gg1 : t0.get ⟨#[50]⟩ = (sb, true) := by rfl
theorem gg2 : t0.get ⟨#[64]⟩ = (⟨#[97, 32, 98]⟩, true) := by rfl
theorem gg3 : t0.get ⟨#[35]⟩ = (⟨#[50]⟩, true) := by rfl
theorem gg4 : tShift t0 1 = (t1, true) := by rfl
theorem gg5 : t1.get ⟨#[49]⟩ = (sb, true) := by rfl
theorem get_to (B g : Nat) (vl al : Value) (m : T) (hm : m.Ok) (s r : ByteArray) (b : Bool) (h : m.get s = (r, b)) (hz : s.size ≤ 9223372036854775806) (S : World → Prop) (hBS : ∀ w, S w → B ≤ w.heap.size) : Con Try.prog 13 [.pointer (some ⟨g, 0, none⟩), .string s] S (TK B g vl al m) (fun _ : Unit => .tuple #[.string r, .bool b]) (fun _ => True) (fun _ => TK B g vl al m) := by
  have := get_con B g vl al m hm s hz S hBS
  rw [h] at this; exact this

theorem mixed_ : Try.prog.follows .mixedOrders = true := by kernel_rfl
theorem pl3 : Plain Try.prog 3 := plain_int Try.underlying3
theorem pl9 : Plain Try.prog 9 := plain_string Try.underlying9
theorem pl23 : Plain Try.prog 23 := plain_slice Try.underlying23
theorem sz9 (w : World) : (sizeOf 9).run Try.prog w = .ok 1 w := by kernel_rfl
theorem sz23 (w : World) : (sizeOf 23).run Try.prog w = .ok 1 w := by kernel_rfl
set_option maxRecDepth 100000 in
set_option maxHeartbeats 1000000 in
theorem shift_con (B g : Nat) (vl al : Value) (m : T) (hm : m.Ok) (n : Int) (S : World → Prop) (hBS : ∀ w, S w → B ≤ w.heap.size) :
    Con Try.prog 20 [.pointer (some ⟨g, 0, none⟩), .int .i64 n] S (TK B g vl al m) (fun al' : Value => .bool (tShift m n).2) (fun _ => True) (fun al' => TK B g vl al' (tShift m n).1) := by
 intro w F0 hS hs hlt
 have hB := hBS w hS
 obtain ⟨Av, cv, hvl, hcv⟩ := row_slice (i := 1) (B := B) (e := 26) (kd := kV) (v := vl) (xs := m.V) rfl w (St.start hs)
 obtain ⟨Aa, ca, hal, hca⟩ := row_slice (i := 2) (B := B) (e := 9) (kd := Kd.string) (v := al) (xs := m.A) rfl w (St.start hs)
 have hAa : 0 < m.A.length → ∃ g o, Aa = some ⟨g, o, none⟩ := fun h0 => by
     obtain ⟨g1, c1, h1⟩ := row_form (i := 2) (B := B) (e := 9) (kd := Kd.string) (v := al) (xs := m.A) rfl h0 w (St.start hs)
     rw [hal] at h1
     injection h1 with h2
     exact ⟨g1, 0, h2⟩
 subst hvl hal
 have hnV := hm.nV
 have hnA := hm.nA
 have hst := hm.st
 refine enter (args := [.pointer (some ⟨g, 0, none⟩), .int .i64 n]) Try.func20 rfl rfl rfl hs ?_
 refine GC.seq ?_
 refine GC.region ?_
 refine GL.gives rfl rfl rfl (Gives.assign rfl rfl) ?_
 refine GL.nil ?_
 refine GQ.thenN ?_
 refine GC.seq ?_
 refine GC.seq ?_
 refine GC.region ?_
 refine GL.gives rfl rfl rfl (Gives.move rfl rfl) ?_
 refine GL.gives rfl rfl rfl (Gives.eqp rfl rfl rfl Try.underlying31) ?_
 refine GL.gives rfl rfl rfl (Gives.move rfl rfl) ?_
 refine GL.gives rfl rfl rfl (Gives.move rfl rfl) ?_
 refine GL.gives rfl rfl rfl (Gives.lss rfl rfl rfl) ?_
 refine GL.gives rfl rfl rfl (Gives.pickF rfl rfl rfl rfl) ?_
 refine GL.gives rfl rfl rfl (Gives.move rfl rfl) ?_
 refine GL.split (t := 11) rfl (fun h11 => ?_) (fun h11 => ?_)
 ·
   replace h11 := of_decide_eq_true h11
   refine GL.skip rfl rfl rfl ?_
   refine GL.skip rfl rfl rfl ?_
   refine GL.skip rfl rfl rfl ?_
   refine GL.skip rfl rfl rfl ?_
   refine GL.skip rfl rfl rfl ?_
   refine GL.skip rfl rfl rfl ?_
   refine GL.skip rfl rfl rfl ?_
   refine GL.gives rfl rfl rfl (Gives.pickT rfl rfl rfl rfl) ?_
   refine GL.nil ?_
   refine GQ.thenN ?_
   refine GC.condT rfl rfl ?_
   refine GC.seq ?_
   refine GC.region ?_
   refine GL.gives rfl rfl rfl (Gives.assign rfl rfl) ?_
   refine GL.nil ?_
   refine GQ.thenN ?_
   refine GC.ret ?_
   refine GQ.thenR ?_
   refine GQ.ret1 (.inl rfl) rfl rfl ?_
   intro w hs
   refine ⟨.slice Aa m.A.length ca, ?_, trivial, ?_⟩ <;> (unfold tShift; rw [if_pos (by omega)])
   exact hs
 ·
   replace h11 := of_decide_eq_false h11
   refine GL.gives rfl rfl rfl (Gives.move rfl rfl) ?_
   refine GL.gives rfl rfl rfl (Gives.move rfl rfl) ?_
   refine GL.gives rfl rfl rfl (Gives.nilCheck rfl rfl) ?_
   refine GL.gives rfl rfl rfl (Gives.fieldAddr (q := ⟨g, 1, none⟩) rfl rfl (fun _ => by kernel_rfl)) ?_
   refine GL.gives rfl rfl rfl (Gives.loadc (v := .slice Aa m.A.length ca) 0 rfl rfl pl23 rfl rfl) ?_
   refine GL.gives rfl rfl rfl (Gives.len rfl rfl Try.underlying23) ?_
   refine GL.gives rfl rfl rfl (Gives.gtr rfl rfl rfl) ?_
   refine GL.gives rfl rfl rfl (Gives.pickF rfl rfl rfl rfl) ?_
   refine GL.nil ?_
   refine GQ.thenN ?_
   refine GC.split (t := 19) rfl (fun h19 => ?_) (fun h19 => ?_)
   ·
     replace h19 := of_decide_eq_true h19
     refine GC.condT rfl rfl ?_
     refine GC.seq ?_
     refine GC.region ?_
     refine GL.gives rfl rfl rfl (Gives.assign rfl rfl) ?_
     refine GL.nil ?_
     refine GQ.thenN ?_
     refine GC.ret ?_
     refine GQ.thenR ?_
     refine GQ.ret1 (.inl rfl) rfl rfl ?_
     intro w hs
     refine ⟨.slice Aa m.A.length ca, ?_, trivial, ?_⟩ <;> (unfold tShift; rw [if_pos (by omega)])
     exact hs
   ·
     replace h19 := of_decide_eq_false h19
     refine GC.condF rfl rfl ?_
     refine GC.skip ?_
     refine GQ.thenN ?_
     refine GC.seq ?_
     refine GC.region ?_
     refine GL.gives rfl rfl rfl (Gives.move rfl rfl) ?_
     refine GL.gives rfl rfl rfl (Gives.move rfl rfl) ?_
     refine GL.gives rfl rfl rfl (Gives.nilCheck rfl rfl) ?_
     refine GL.gives rfl rfl rfl (Gives.fieldAddr (q := ⟨g, 1, none⟩) rfl rfl (fun _ => by kernel_rfl)) ?_
     refine GL.gives rfl rfl rfl (Gives.loadc (v := .slice Aa m.A.length ca) 0 rfl rfl pl23 rfl rfl) ?_
     refine GL.gives rfl rfl rfl (Gives.move rfl rfl) ?_
     refine GL.gives rfl rfl rfl (Gives.sl0 rfl rfl rfl Try.underlying23 sz9 (by omega) (by omega)) ?_
     have hsh : tShift m n = ({ m with A := m.A.drop n.toNat }, true) := if_neg (by omega)
     obtain ⟨A', c', hv, _, hC'⟩ := sliced_C (kd := Kd.string) (A := Aa) (l := n.toNat) (xs := m.A) (by omega) hca
     refine GL.learn (t := 26) (v' := .slice A' (m.A.length - n.toNat) c') rfl hv ?_
     refine GL.does [] rfl rfl rfl rfl (Does.call rfl rfl Try.func42 rfl rfl (copyS_con B A' (m.A.length - n.toNat) c' (m.A.drop n.toNat) (by omega) _ (Bs hB) (fun w hs => hC' w (row_C (i := 2) rfl w hs)))) fun al' _ => ?_
     refine GL.know (one_row (i := 0) rfl) fun h1 => ?_
     refine GL.gives rfl rfl rfl (Gives.nilCheck rfl rfl) ?_
     refine GL.gives rfl rfl rfl (Gives.fieldAddr (q := ⟨g, 1, none⟩) rfl rfl (fun _ => by kernel_rfl)) ?_
     refine GL.does0 [1] rfl rfl rfl (Does.store rfl rfl rfl sz23 (cells_one h1) h1 rfl rfl) fun _ _ => ?_
     refine GL.nil ?_
     refine GQ.thenN ?_
     refine GC.seq ?_
     refine GC.region ?_
     refine GL.gives rfl rfl rfl (Gives.assign rfl rfl) ?_
     refine GL.nil ?_
     refine GQ.thenN ?_
     refine GC.ret ?_
     refine GQ.ret1 (.inl rfl) rfl rfl ?_
     intro w hs
     rw [hsh]
     exact ⟨al', rfl, trivial, hs.take (is := [0, 1, 0]) rfl⟩

theorem setArgs_to (B g : Nat) (vl al : Value) (m : T) (X : Atom) (A : Option Addr) (n c : Nat) (xs : List ByteArray) (hX : Shows X Kd.string A n xs) (m' : T) (e : Int) (h : tArgs m xs = (m', e)) (S : World → Prop) (hBS : ∀ w, S w → B ≤ w.heap.size) :
    Con Try.prog 19 [.pointer (some ⟨g, 0, none⟩), .slice A n c] S (TK B g vl al m ++ [X]) (fun _ : Value => .int .i64 e) (fun _ => True) (fun al' => TK B g vl al' m' ++ [X]) := by
  have := setArgs_con B g vl al m X A n c xs hX S hBS
  rw [h] at this; exact this
theorem shift_to (B g : Nat) (vl al : Value) (m : T) (hm : m.Ok) (n : Int) (m' : T) (b : Bool) (h : tShift m n = (m', b)) (S : World → Prop) (hBS : ∀ w, S w → B ≤ w.heap.size) :
    Con Try.prog 20 [.pointer (some ⟨g, 0, none⟩), .int .i64 n] S (TK B g vl al m) (fun _ : Value => .bool b) (fun _ => True) (fun al' => TK B g vl al' m') := by
  have := shift_con B g vl al m hm n S hBS
  rw [h] at this; exact this
set_option maxRecDepth 100000 in
set_option maxHeartbeats 1000000 in
theorem new0_con (B : Nat) (X : Atom) (A : Option Addr) (n c : Nat) (xs : List ByteArray) (hX : Shows X Kd.string A n xs) (he : tArgs ⟨[], [], 0⟩ xs = (⟨[], xs, 0⟩, 0)) (S : World → Prop) (hBS : ∀ w, S w → B ≤ w.heap.size) :
    Con Try.prog 8 [.slice none 0 0, .slice A n c] S [X] (fun s : Nat × Value => .tuple #[.pointer (some ⟨s.1, 0, none⟩), .int .i64 0]) (fun _ => True) (fun s => TK B s.1 (.slice none 0 0) s.2 ⟨[], xs, 0⟩ ++ [X]) := by
 intro w F0 hS hs hlt
 have hB := hBS w hS
 refine enter (args := [.slice none 0 0, .slice A n c]) Try.func8 rfl rfl rfl hs ?_
 refine GC.seq ?_
 refine GC.region ?_
 refine GL.gives rfl rfl rfl (Gives.assign rfl rfl) ?_
 refine GL.gives rfl rfl rfl (Gives.assign rfl rfl) ?_
 refine GL.nil ?_
 refine GQ.thenN ?_
 refine GC.seq ?_
 refine GC.region ?_
 refine GL.gives rfl rfl rfl (Gives.build (v := .agg #[.slice none 0 0, .slice none 0 0, .int .i64 0]) rfl rfl (fun _ => by kernel_rfl)) ?_
 refine GL.does [] rfl rfl rfl rfl (Does.box (cs := #[.slice none 0 0, .slice none 0 0, .int .i64 0]) (Bs hB) rfl rfl rfl) fun g hg => ?_
 refine GL.gives rfl rfl rfl (Gives.assign rfl rfl) ?_
 refine GL.nil ?_
 refine GQ.thenN ?_
 refine GC.seq ?_
 refine GC.seq ?_
 refine GC.region ?_
 refine GL.gives rfl rfl rfl (Gives.move rfl rfl) ?_
 refine GL.gives rfl rfl rfl (Gives.len rfl rfl Try.underlying22) ?_
 refine GL.gives rfl rfl rfl (Gives.move rfl rfl) ?_
 refine GL.nil ?_
 refine GQ.thenN ?_
 refine GC.block ?_
 refine GC.loop (σ := Unit) (fun _ => [(1, .slice A n c), (6, .pointer (some ⟨g, 0, none⟩)), (14, .int .i64 0), (15, .int .i64 0)]) (fun _ => [Cells g #[.slice none 0 0, .slice none 0 0, .int .i64 0] 57, X]) (fun _ => True) (fun _ => 0) () [0, 0] trivial ⟨rfl, rfl, rfl, rfl, trivial⟩ rfl ?_
 rintro _ _
 refine GC.seq ?_
 refine GC.region ?_
 refine GL.gives rfl rfl rfl (Gives.lss rfl rfl rfl) ?_
 refine GL.nil ?_
 refine GQ.thenN ?_
 refine GC.seq ?_
 refine GC.condF rfl (by rfl) ?_
 refine GC.exit ?_
 refine GQ.thenX ?_
 refine GQ.thenX ?_
 refine GQ.blkX ?_
 refine GQ.thenN ?_
 refine GC.seq ?_
 refine GC.seq ?_
 refine GC.region ?_
 refine GL.gives rfl rfl rfl (Gives.move rfl rfl) ?_
 refine GL.gives rfl rfl rfl (Gives.move rfl rfl) ?_
 refine GL.turn [] rfl (Turns.nilRow (B := B) (e := 26) kV) ?_
 refine GL.turn [] rfl (Turns.nilRow (B := B) (e := 9) Kd.string) ?_
 refine GL.does [2, 1, 0, 0] rfl rfl rfl rfl (Does.call rfl rfl Try.func19 rfl rfl (setArgs_to B g (.slice none 0 0) (.slice none 0 0) ⟨[], [], 0⟩ X A n c xs hX _ _ he _ (Bs hB))) fun al' _ => ?_
 refine GL.gives rfl rfl rfl (Gives.assign rfl rfl) ?_
 refine GL.nil ?_
 refine GQ.thenN ?_
 refine GC.seq ?_
 refine GC.region ?_
 refine GL.gives rfl rfl rfl (Gives.move rfl rfl) ?_
 refine GL.gives rfl rfl rfl (Gives.nei rfl rfl rfl) ?_
 refine GL.nil ?_
 refine GQ.thenN ?_
 refine GC.condF rfl (by rfl) ?_
 refine GC.skip ?_
 refine GQ.thenN ?_
 refine GC.seq ?_
 refine GC.region ?_
 refine GL.gives rfl rfl rfl (Gives.move rfl rfl) ?_
 refine GL.gives rfl rfl rfl (Gives.assign rfl rfl) ?_
 refine GL.gives rfl rfl rfl (Gives.assign rfl rfl) ?_
 refine GL.nil ?_
 refine GQ.thenN ?_
 refine GC.ret ?_
 refine GQ.ret2 (.inl rfl) rfl rfl rfl ?_
 intro w hs
 exact ⟨(g, al'), rfl, trivial, hs⟩

theorem reps_s2 (w : World) (base : Nat) (a b : ByteArray) : Reps (Kd.string.M w base (fun _ => False)) Kd.string.sz [a, b] [.string a, .string b] := by
  refine ⟨rfl, fun i p h => ?_⟩
  match i, h with
  | 0, h => obtain rfl := Option.some.inj h; rfl
  | 1, h => obtain rfl := Option.some.inj h; rfl
  | i + 2, h => cases h
set_option maxRecDepth 100000 in
set_option maxHeartbeats 1000000 in
theorem awake_con (B : Nat) (S : World → Prop) (hBS : ∀ w, S w → B ≤ w.heap.size) : Con Try.prog 6 [] S [] (fun _ : Unit => .bool true) (fun _ => True) (fun _ => []) := by
 intro w F0 hS hs hlt
 have hB := hBS w hS
 refine enter (args := []) Try.func6 rfl rfl rfl hs ?_
 refine GC.seq ?_
 refine GC.region ?_
 refine GL.gives rfl rfl rfl (Gives.assign rfl rfl) ?_
 refine GL.nil ?_
 refine GQ.thenN ?_
 refine GC.seq ?_
 refine GC.region ?_
 refine GL.does [] rfl rfl rfl rfl (Does.lit (m := 2) (cs := #[.string (⟨#[97]⟩ : ByteArray), .string (⟨#[98]⟩ : ByteArray)]) (e := 9) (Bs hB) rfl rfl (fun _ => by kernel_rfl)) fun g1 hg1 => ?_
 refine GL.turn [0] rfl (Turns.row (kd := Kd.string) (B := B) (xs := [sa, sb]) (inner := [.string sa, .string sb]) hg1 rfl (by simp) (fun _ _ => reps_s2 _ _ _ _)) ?_
 refine GL.does [0] rfl rfl rfl rfl (Does.call rfl rfl Try.func8 rfl rfl (new0_con B (Row B Kd.string 9 (.slice (some ⟨g1, 0, none⟩) 2 2) [sa, sb]) _ 2 2 [sa, sb] shows_row (by rfl) _ (Bs hB))) fun ⟨g, al⟩ _ => ?_
 refine GL.gives rfl rfl rfl (Gives.move rfl rfl) ?_
 refine GL.gives rfl rfl rfl (Gives.extract (v := .pointer (some ⟨g, 0, none⟩)) rfl rfl rfl) ?_
 refine GL.gives rfl rfl rfl (Gives.extract (v := .int .i64 0) rfl rfl rfl) ?_
 refine GL.gives rfl rfl rfl (Gives.assign rfl rfl) ?_
 refine GL.gives rfl rfl rfl (Gives.assign rfl rfl) ?_
 refine GL.nil ?_
 refine GQ.thenN ?_
 refine GC.seq ?_
 refine GC.seq ?_
 refine GC.region ?_
 refine GL.gives rfl rfl rfl (Gives.move rfl rfl) ?_
 refine GL.gives rfl rfl rfl (Gives.nei rfl rfl rfl) ?_
 refine GL.nil ?_
 refine GQ.thenN ?_
 refine GC.condF rfl (by rfl) ?_
 refine GC.skip ?_
 refine GQ.thenN ?_
 refine GC.seq ?_
 refine GC.region ?_
 refine GL.gives rfl rfl rfl (Gives.move rfl rfl) ?_
 refine GL.does [0, 0, 0] rfl rfl rfl rfl (Does.call rfl rfl Try.func13 rfl rfl (get_to B g (.slice none 0 0) al t0 t0_ok (⟨#[50]⟩ : ByteArray) _ _ gg1 (by decide) _ (Bs hB))) fun _ _ => ?_
 refine GL.gives rfl rfl rfl (Gives.move rfl rfl) ?_
 refine GL.gives rfl rfl rfl (Gives.extract (v := .string sb) rfl rfl rfl) ?_
 refine GL.gives rfl rfl rfl (Gives.extract (v := .bool true) rfl rfl rfl) ?_
 refine GL.gives rfl rfl rfl (Gives.assign rfl rfl) ?_
 refine GL.gives rfl rfl rfl (Gives.assign rfl rfl) ?_
 refine GL.nil ?_
 refine GQ.thenN ?_
 refine GC.seq ?_
 refine GC.region ?_
 refine GL.gives rfl rfl rfl (Gives.move rfl rfl) ?_
 refine GL.does [0, 0, 0] rfl rfl rfl rfl (Does.call rfl rfl Try.func13 rfl rfl (get_to B g (.slice none 0 0) al t0 t0_ok (⟨#[64]⟩ : ByteArray) _ _ gg2 (by decide) _ (Bs hB))) fun _ _ => ?_
 refine GL.gives rfl rfl rfl (Gives.move rfl rfl) ?_
 refine GL.gives rfl rfl rfl (Gives.extract (v := .string (⟨#[97, 32, 98]⟩ : ByteArray)) rfl rfl rfl) ?_
 refine GL.gives rfl rfl rfl (Gives.extract (v := .bool true) rfl rfl rfl) ?_
 refine GL.gives rfl rfl rfl (Gives.assign rfl rfl) ?_
 refine GL.gives rfl rfl rfl (Gives.assign rfl rfl) ?_
 refine GL.nil ?_
 refine GQ.thenN ?_
 refine GC.seq ?_
 refine GC.region ?_
 refine GL.gives rfl rfl rfl (Gives.move rfl rfl) ?_
 refine GL.does [0, 0, 0] rfl rfl rfl rfl (Does.call rfl rfl Try.func13 rfl rfl (get_to B g (.slice none 0 0) al t0 t0_ok (⟨#[35]⟩ : ByteArray) _ _ gg3 (by decide) _ (Bs hB))) fun _ _ => ?_
 refine GL.gives rfl rfl rfl (Gives.move rfl rfl) ?_
 refine GL.gives rfl rfl rfl (Gives.extract (v := .string (⟨#[50]⟩ : ByteArray)) rfl rfl rfl) ?_
 refine GL.gives rfl rfl rfl (Gives.extract (v := .bool true) rfl rfl rfl) ?_
 refine GL.gives rfl rfl rfl (Gives.assign rfl rfl) ?_
 refine GL.gives rfl rfl rfl (Gives.assign rfl rfl) ?_
 refine GL.nil ?_
 refine GQ.thenN ?_
 refine GC.seq ?_
 refine GC.region ?_
 refine GL.gives rfl rfl rfl (Gives.move rfl rfl) ?_
 refine GL.does [0, 0, 0] rfl rfl rfl rfl (Does.call rfl rfl Try.func20 rfl rfl (shift_to B g (.slice none 0 0) al t0 t0_ok 1 _ _ gg4 _ (Bs hB))) fun al' _ => ?_
 refine GL.gives rfl rfl rfl (Gives.assign rfl rfl) ?_
 refine GL.nil ?_
 refine GQ.thenN ?_
 refine GC.seq ?_
 refine GC.region ?_
 refine GL.gives rfl rfl rfl (Gives.move rfl rfl) ?_
 refine GL.does [0, 0, 0] rfl rfl rfl rfl (Does.call rfl rfl Try.func13 rfl rfl (get_to B g (.slice none 0 0) al' t1 t1_ok (⟨#[49]⟩ : ByteArray) _ _ gg5 (by decide) _ (Bs hB))) fun _ _ => ?_
 refine GL.gives rfl rfl rfl (Gives.move rfl rfl) ?_
 refine GL.gives rfl rfl rfl (Gives.extract (v := .string sb) rfl rfl rfl) ?_
 refine GL.gives rfl rfl rfl (Gives.extract (v := .bool true) rfl rfl rfl) ?_
 refine GL.gives rfl rfl rfl (Gives.assign rfl rfl) ?_
 refine GL.gives rfl rfl rfl (Gives.assign rfl rfl) ?_
 refine GL.nil ?_
 refine GQ.thenN ?_
 refine GC.seq ?_
 refine GC.region ?_
 refine GL.gives rfl rfl rfl (Gives.move rfl rfl) ?_
 refine GL.gives rfl rfl rfl (Gives.move rfl rfl) ?_
 refine GL.gives rfl rfl rfl (Gives.move rfl rfl) ?_
 refine GL.gives rfl rfl rfl (Gives.pickT rfl rfl rfl rfl) ?_
 refine GL.gives rfl rfl rfl (Gives.move rfl rfl) ?_
 refine GL.gives rfl rfl rfl (Gives.move rfl rfl) ?_
 refine GL.gives rfl rfl rfl (Gives.pickT rfl rfl rfl rfl) ?_
 refine GL.gives rfl rfl rfl (Gives.move rfl rfl) ?_
 refine GL.gives rfl rfl rfl (Gives.move rfl rfl) ?_
 refine GL.gives rfl rfl rfl (Gives.eqs rfl rfl rfl) ?_
 refine GL.gives rfl rfl rfl (Gives.pickT rfl rfl rfl rfl) ?_
 refine GL.gives rfl rfl rfl (Gives.move rfl rfl) ?_
 refine GL.learn (t := 52) (v' := .bool true) rfl (congrArg Value.bool (by kernel_rfl)) ?_
 refine GL.gives rfl rfl rfl (Gives.move rfl rfl) ?_
 refine GL.gives rfl rfl rfl (Gives.eqs rfl rfl rfl) ?_
 refine GL.gives rfl rfl rfl (Gives.pickT rfl rfl rfl rfl) ?_
 refine GL.gives rfl rfl rfl (Gives.move rfl rfl) ?_
 refine GL.learn (t := 56) (v' := .bool true) rfl (congrArg Value.bool (by kernel_rfl)) ?_
 refine GL.gives rfl rfl rfl (Gives.move rfl rfl) ?_
 refine GL.gives rfl rfl rfl (Gives.eqs rfl rfl rfl) ?_
 refine GL.gives rfl rfl rfl (Gives.pickT rfl rfl rfl rfl) ?_
 refine GL.gives rfl rfl rfl (Gives.move rfl rfl) ?_
 refine GL.learn (t := 60) (v' := .bool true) rfl (congrArg Value.bool (by kernel_rfl)) ?_
 refine GL.gives rfl rfl rfl (Gives.move rfl rfl) ?_
 refine GL.gives rfl rfl rfl (Gives.eqs rfl rfl rfl) ?_
 refine GL.gives rfl rfl rfl (Gives.pickT rfl rfl rfl rfl) ?_
 refine GL.learn (t := 63) (v' := .bool true) rfl (congrArg Value.bool (by kernel_rfl)) ?_
 refine GL.gives rfl rfl rfl (Gives.assign rfl rfl) ?_
 refine GL.nil ?_
 refine GQ.thenN ?_
 refine GC.ret ?_
 refine GQ.ret1 (.inl rfl) rfl rfl ?_
 intro w hs
 exact ⟨(), rfl, trivial, hs.nil⟩

set_option maxRecDepth 100000 in
set_option maxHeartbeats 1000000 in
theorem nobody (w : World) (kd N : Int) (a b : ByteArray) (A : Option Addr) (n c : Nat) : Calls Try.prog 5 [.agg #[.int .i64 kd, .string a, .string b, .slice A n c, .int .i64 N]].toArray w (fun e w' => e = .returned (.bool true) ∧ Below w.heap.size w w') := by
 have hs : Sep w (fun _ => False) [] := trivial
 obtain ⟨B, hBB⟩ : ∃ B, B = w.heap.size := ⟨_, rfl⟩
 have hB : B ≤ w.heap.size := Nat.le_of_eq hBB
 refine enter (args := [.agg #[.int .i64 kd, .string a, .string b, .slice A n c, .int .i64 N]]) Try.func5 rfl rfl rfl hs ?_
 refine GC.seq ?_
 refine GC.region ?_
 refine GL.does [] rfl rfl rfl rfl (Does.box (cs := #[.int .i64 kd, .string a, .string b, .slice A n c, .int .i64 N]) (Bs hB) rfl rfl rfl) fun g1 hg1 => ?_
 refine GL.gives rfl rfl rfl (Gives.assign rfl rfl) ?_
 refine GL.nil ?_
 refine GQ.thenN ?_
 refine GC.seq ?_
 refine GC.region ?_
 refine GL.gives rfl rfl rfl (Gives.assign rfl rfl) ?_
 refine GL.nil ?_
 refine GQ.thenN ?_
 refine GC.seq ?_
 refine GC.region ?_
 refine GL.gives rfl rfl rfl (Gives.move rfl rfl) ?_
 refine GL.gives rfl rfl rfl (Gives.fieldAddr (q := ⟨g1, 1, none⟩) rfl rfl (fun _ => by kernel_rfl)) ?_
 refine GL.gives rfl rfl rfl (Gives.loadc (v := .string a) 0 rfl rfl pl9 rfl rfl) ?_
 refine GL.does [] rfl rfl rfl rfl (Does.call rfl rfl Try.func13 rfl rfl (get_nobody a _)) fun _ _ => ?_
 refine GL.gives rfl rfl rfl (Gives.move rfl rfl) ?_
 refine GL.gives rfl rfl rfl (Gives.extract (v := .string e0) rfl rfl rfl) ?_
 refine GL.gives rfl rfl rfl (Gives.extract (v := .bool false) rfl rfl rfl) ?_
 refine GL.gives rfl rfl rfl (Gives.assign rfl rfl) ?_
 refine GL.gives rfl rfl rfl (Gives.assign rfl rfl) ?_
 refine GL.nil ?_
 refine GQ.thenN ?_
 refine GC.seq ?_
 refine GC.region ?_
 refine GL.gives rfl rfl rfl (Gives.move rfl rfl) ?_
 refine GL.gives rfl rfl rfl (Gives.fieldAddr (q := ⟨g1, 1, none⟩) rfl rfl (fun _ => by kernel_rfl)) ?_
 refine GL.gives rfl rfl rfl (Gives.loadc (v := .string a) 0 rfl rfl pl9 rfl rfl) ?_
 refine GL.gives rfl rfl rfl (Gives.fieldAddr (q := ⟨g1, 2, none⟩) rfl rfl (fun _ => by kernel_rfl)) ?_
 refine GL.gives rfl rfl rfl (Gives.loadc (v := .string b) 0 rfl rfl pl9 rfl rfl) ?_
 refine GL.does [] rfl rfl rfl rfl (Does.call rfl rfl Try.func15 rfl rfl (set_nobody a b _)) fun _ _ => ?_
 refine GL.gives rfl rfl rfl (Gives.assign rfl rfl) ?_
 refine GL.nil ?_
 refine GQ.thenN ?_
 refine GC.seq ?_
 refine GC.region ?_
 refine GL.gives rfl rfl rfl (Gives.move rfl rfl) ?_
 refine GL.gives rfl rfl rfl (Gives.fieldAddr (q := ⟨g1, 1, none⟩) rfl rfl (fun _ => by kernel_rfl)) ?_
 refine GL.gives rfl rfl rfl (Gives.loadc (v := .string a) 0 rfl rfl pl9 rfl rfl) ?_
 refine GL.does [] rfl rfl rfl rfl (Does.call rfl rfl Try.func17 rfl rfl (unset_nobody a _)) fun _ _ => ?_
 refine GL.nil ?_
 refine GQ.thenN ?_
 refine GC.seq ?_
 refine GC.region ?_
 refine GL.gives rfl rfl rfl (Gives.move rfl rfl) ?_
 refine GL.gives rfl rfl rfl (Gives.fieldAddr (q := ⟨g1, 3, none⟩) rfl rfl (fun _ => by kernel_rfl)) ?_
 refine GL.gives rfl rfl rfl (Gives.loadc (v := .slice A n c) 0 rfl rfl pl23 rfl rfl) ?_
 refine GL.does [] rfl rfl rfl rfl (Does.call rfl rfl Try.func19 rfl rfl (setArgs_nobody (.slice A n c) _)) fun _ _ => ?_
 refine GL.gives rfl rfl rfl (Gives.assign rfl rfl) ?_
 refine GL.nil ?_
 refine GQ.thenN ?_
 refine GC.seq ?_
 refine GC.region ?_
 refine GL.gives rfl rfl rfl (Gives.move rfl rfl) ?_
 refine GL.gives rfl rfl rfl (Gives.eqs rfl rfl rfl) ?_
 refine GL.gives rfl rfl rfl (Gives.move rfl rfl) ?_
 refine GL.learn (t := 31) (v' := .bool true) rfl (congrArg Value.bool (by kernel_rfl)) ?_
 refine GL.gives rfl rfl rfl (Gives.move rfl rfl) ?_
 refine GL.gives rfl rfl rfl (Gives.not rfl rfl) ?_
 refine GL.gives rfl rfl rfl (Gives.pickT rfl rfl rfl rfl) ?_
 refine GL.gives rfl rfl rfl (Gives.move rfl rfl) ?_
 refine GL.gives rfl rfl rfl (Gives.move rfl rfl) ?_
 refine GL.gives rfl rfl rfl (Gives.eqi rfl rfl rfl) ?_
 refine GL.gives rfl rfl rfl (Gives.pickT rfl rfl rfl rfl) ?_
 refine GL.gives rfl rfl rfl (Gives.move rfl rfl) ?_
 refine GL.learn (t := 39) (v' := .bool true) rfl (congrArg Value.bool (by kernel_rfl)) ?_
 refine GL.gives rfl rfl rfl (Gives.move rfl rfl) ?_
 refine GL.gives rfl rfl rfl (Gives.move rfl rfl) ?_
 refine GL.gives rfl rfl rfl (Gives.eqi rfl rfl rfl) ?_
 refine GL.gives rfl rfl rfl (Gives.pickT rfl rfl rfl rfl) ?_
 refine GL.gives rfl rfl rfl (Gives.move rfl rfl) ?_
 refine GL.learn (t := 44) (v' := .bool true) rfl (congrArg Value.bool (by kernel_rfl)) ?_
 refine GL.gives rfl rfl rfl (Gives.move rfl rfl) ?_
 refine GL.gives rfl rfl rfl (Gives.fieldAddr (q := ⟨g1, 4, none⟩) rfl rfl (fun _ => by kernel_rfl)) ?_
 refine GL.gives rfl rfl rfl (Gives.loadc (v := .int .i64 N) 0 rfl rfl pl3 rfl rfl) ?_
 refine GL.does [] rfl rfl rfl rfl (Does.call rfl rfl Try.func20 rfl rfl (shift_nobody N _)) fun _ _ => ?_
 refine GL.gives rfl rfl rfl (Gives.not rfl rfl) ?_
 refine GL.gives rfl rfl rfl (Gives.pickT rfl rfl rfl rfl) ?_
 refine GL.gives rfl rfl rfl (Gives.move rfl rfl) ?_
 refine GL.gives rfl rfl rfl (Gives.move rfl rfl) ?_
 refine GL.does [] rfl rfl rfl rfl (Does.call rfl rfl Try.func21 rfl rfl (copy_nobody _)) fun _ _ => ?_
 refine GL.gives rfl rfl rfl (Gives.eqp rfl rfl rfl Try.underlying31) ?_
 refine GL.gives rfl rfl rfl (Gives.pickT rfl rfl rfl rfl) ?_
 refine GL.gives rfl rfl rfl (Gives.move rfl rfl) ?_
 refine GL.gives rfl rfl rfl (Gives.move rfl rfl) ?_
 refine GL.does [] rfl rfl rfl rfl (Does.call rfl rfl Try.func22 rfl rfl (vars_nobody _)) fun _ _ => ?_
 refine GL.gives rfl rfl rfl (Gives.len rfl rfl Try.underlying22) ?_
 refine GL.gives rfl rfl rfl (Gives.eqi rfl rfl rfl) ?_
 refine GL.gives rfl rfl rfl (Gives.pickT rfl rfl rfl rfl) ?_
 refine GL.gives rfl rfl rfl (Gives.move rfl rfl) ?_
 refine GL.learn (t := 62) (v' := .bool true) rfl (congrArg Value.bool (by kernel_rfl)) ?_
 refine GL.gives rfl rfl rfl (Gives.move rfl rfl) ?_
 refine GL.does [] rfl rfl rfl rfl (Does.call rfl rfl Try.func23 rfl rfl (args_nobody _)) fun _ _ => ?_
 refine GL.gives rfl rfl rfl (Gives.len rfl rfl Try.underlying23) ?_
 refine GL.gives rfl rfl rfl (Gives.eqi rfl rfl rfl) ?_
 refine GL.gives rfl rfl rfl (Gives.pickT rfl rfl rfl rfl) ?_
 refine GL.gives rfl rfl rfl (Gives.move rfl rfl) ?_
 refine GL.learn (t := 68) (v' := .bool true) rfl (congrArg Value.bool (by kernel_rfl)) ?_
 refine GL.does [] rfl rfl rfl rfl (Does.call rfl rfl Try.func6 rfl rfl (awake_con B _ (Bs hB))) fun _ _ => ?_
 refine GL.gives rfl rfl rfl (Gives.pickT rfl rfl rfl rfl) ?_
 refine GL.gives rfl rfl rfl (Gives.assign rfl rfl) ?_
 refine GL.nil ?_
 refine GQ.thenN ?_
 refine GC.ret ?_
 refine GQ.ret1 (.inl rfl) rfl rfl ?_
 intro w' hs
 exact ⟨rfl, hs.below⟩

abbrev AT := Int × ByteArray × ByteArray × SlV ByteArray × Int
def kA : Kd AT := Kd.pair (Kd.int .i64) (Kd.pair Kd.string (Kd.pair Kd.string (Kd.pair (kSl Kd.string) (Kd.int .i64))))
theorem encs_sl {α : Type} {kd : Kd α} : Encs (kSl kd) (fun x => [.slice x.A x.n x.c]) := fun _ _ _ h => h.1
theorem kA_encs : Encs kA (fun x => [.int .i64 x.1, .string x.2.1, .string x.2.2.1, .slice x.2.2.2.1.A x.2.2.2.1.n x.2.2.2.1.c, .int .i64 x.2.2.2.2]) := fun w x cs h => encs_pair (a := Kd.int .i64) encs_scalar (encs_pair (a := Kd.string) encs_scalar (encs_pair (a := Kd.string) encs_scalar (encs_pair (a := kSl Kd.string) (b := Kd.int .i64) encs_sl encs_scalar))) w x cs h
abbrev OA (x : AT) : Prop := (Lit.int .i64 x.1).wf = true ∧ x.2.1.size ≤ maxLen ∧ x.2.2.1.size ≤ maxLen ∧ (∀ z ∈ x.2.2.2.1.xs, z.size ≤ maxLen) ∧ (Lit.int .i64 x.2.2.2.2).wf = true
set_option maxRecDepth 100000 in
theorem opens_act : Opens Try.prog 30 kA OA := opens_struct Try.underlying30 (by kernel_rfl) (opens_more rfl (opens_int Try.underlying3) (opens_more (by kernel_rfl) (opens_string Try.underlying9) (opens_more (by kernel_rfl) (opens_string Try.underlying9) (opens_more (by kernel_rfl) (opens_slice Try.underlying23 (by kernel_rfl) (opens_string Try.underlying9)) (opens_last (by kernel_rfl) (opens_int Try.underlying3))))))
theorem nobody' (W : World) (cs : Array Value) (z : AT) (hK : kA.K W z cs.toList) : Calls Try.prog 5 #[.agg cs] W (fun e w' => e = .returned (.bool true) ∧ Below W.heap.size W w') := by
  have h := kA_encs W z cs.toList hK
  have h2 : cs = #[.int .i64 z.1, .string z.2.1, .string z.2.2.1, .slice z.2.2.2.1.A z.2.2.2.1.n z.2.2.2.1.c, .int .i64 z.2.2.2.2] := Array.toList_inj.1 h
  rw [h2]
  exact nobody W z.1 z.2.2.2.2 z.2.1 z.2.2.1 z.2.2.2.1.A z.2.2.2.1.n z.2.2.2.1.c
end Go.Proofs.Yteckdfgllipilaa.VN
