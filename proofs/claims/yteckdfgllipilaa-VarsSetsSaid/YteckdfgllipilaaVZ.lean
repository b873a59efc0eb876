/- What is set is got; what is taken away is there no more. -/
import Derived.Test.YteckdfgllipilaaVY
namespace Go.Proofs.Yteckdfgllipilaa.VZ
open Go.RowKit Go.Proofs.YteckdfgllipilaaW.PrintWords Go.Proofs.YteckdfgllipilaaW.PrintLast Go.Proofs.YteckdfgllipilaaS Go.Proofs.Yteckdfgllipilaa.NU Go.Proofs.Yteckdfgllipilaa.NV Go.Proofs.Yteckdfgllipilaa.NW Go.Proofs.Yteckdfgllipilaa.VP Go.Proofs.Yteckdfgllipilaa.VT Go.Proofs.Yteckdfgllipilaa.VU Go.Proofs.Yteckdfgllipilaa.VI Go.Proofs.Yteckdfgllipilaa.VD Go.Proofs.Yteckdfgllipilaa.VS Go.Proofs.Yteckdfgllipilaa.VR Go.Proofs.Yteckdfgllipilaa.VN Go.Proofs.Yteckdfgllipilaa.VQ Go.Proofs.Yteckdfgllipilaa.VX Go.Proofs.Yteckdfgllipilaa.VY Go.Proofs.YteckdfgllipilaaO

theorem name_get {m : T} {s : ByteArray} (h : isName s = true) : m.get s = lookV m.V s := by
  obtain ⟨h1, _, h3⟩ := isName_iff.1 h
  have h4 : isLet (byteAt s 0) = true := by
    rcases h3 0 (by omega) (by omega) with h | ⟨h, _⟩
    · exact h
    · omega
  have h5 := isLet_iff.1 h4
  have key : ∀ c : UInt8, s = ⟨#[c]⟩ → byteAt s 0 = c.toNat := fun c hc => by subst hc; rfl
  refine get_var (fun hc => ?_) (fun hc => ?_) (fun hc => ?_) (fun hc => ?_) ?_
  · have := key 35 hc; rw [this] at h5; revert h5; decide
  · have := key 63 hc; rw [this] at h5; revert h5; decide
  · have := key 64 hc; rw [this] at h5; revert h5; decide
  · have := key 42 hc; rw [this] at h5; revert h5; decide
  · rintro ⟨_, hd⟩
    have := isDig_iff.1 hd
    omega
theorem get_congr {m : T} {V : List VT} {s : ByteArray} (h : lookV V s = lookV m.V s) : ({ m with V := V } : T).get s = m.get s := by
  unfold T.get
  simp only [h]
theorem look_put_same : ∀ {V : List VT} {s v : ByteArray}, Up V → lookV (putV V s v) s = (v, true)
  | [], s, v, _ => by simp [putV, lookV]
  | x :: V, s, v, h => by
    obtain ⟨h1, h2⟩ := List.pairwise_cons.1 h
    rw [putV]
    split
    · rename_i hx
      have hne : x.1 ≠ s := fun e => by rw [e] at hx; exact slt_irrefl _ hx
      have := look_put_same (s := s) (v := v) h2
      unfold lookV at this ⊢
      rw [List.find?_cons_of_neg (by simp [hne])]
      exact this
    · split <;> simp [lookV]
theorem look_put_other : ∀ {V : List VT} {s v o : ByteArray}, o ≠ s → lookV (putV V s v) o = lookV V o
  | [], s, v, o, h => by simp [putV, lookV, Ne.symm h]
  | x :: V, s, v, o, h => by
    have ih := look_put_other (V := V) (v := v) h
    rw [putV]
    split
    · unfold lookV at ih ⊢
      by_cases hx : x.1 = o
      · rw [List.find?_cons_of_pos (by simp [hx]), List.find?_cons_of_pos (by simp [hx])]
      · rw [List.find?_cons_of_neg (by simp [hx]), List.find?_cons_of_neg (by simp [hx])]
        exact ih
    · split
      · rename_i hx
        unfold lookV
        rw [List.find?_cons_of_neg (by simp [Ne.symm h]), List.find?_cons_of_neg (by simp [hx, Ne.symm h])]
      · unfold lookV
        rw [List.find?_cons_of_neg (by simp [Ne.symm h])]
theorem look_del_same {V : List VT} {s : ByteArray} : lookV (delV V s) s = (⟨#[]⟩, false) := lookV_none fun x hx => by
  have := (List.mem_filter.1 hx).2
  simpa using this
theorem look_del_other : ∀ {V : List VT} {s o : ByteArray}, o ≠ s → lookV (delV V s) o = lookV V o
  | [], _, _, _ => rfl
  | x :: V, s, o, h => by
    have ih := look_del_other (V := V) h
    unfold delV at ih ⊢
    by_cases hx : x.1 = s
    · rw [List.filter_cons_of_neg (by simp [hx])]
      rw [ih]
      unfold lookV
      rw [List.find?_cons_of_neg (by simp [hx, Ne.symm h])]
    · rw [List.filter_cons_of_pos (by simp [hx])]
      unfold lookV at ih ⊢
      by_cases hxo : x.1 = o
      · rw [List.find?_cons_of_pos (by simp [hxo]), List.find?_cons_of_pos (by simp [hxo])]
      · rw [List.find?_cons_of_neg (by simp [hxo]), List.find?_cons_of_neg (by simp [hxo])]
        exact ih
theorem tSet_cases (m : T) (a b : ByteArray) : (isName a = true ∧ tSet m a b = ({ m with V := putV m.V a b }, 0)) ∨ ∃ q, q ≠ 0 ∧ tSet m a b = (m, q) := by
  unfold tSet
  split
  · exact .inr ⟨70, by decide, rfl⟩
  · rename_i h
    split
    · exact .inr ⟨2, by decide, rfl⟩
    · split
      · exact .inr ⟨2, by decide, rfl⟩
      · exact .inl ⟨by simpa using h, rfl⟩
theorem set_to (B g : Nat) (vl al : Value) (m : T) (hm : m.Ok) (a b : ByteArray) (m1 : T) (q : Int) (h : tSet m a b = (m1, q)) (S : World → Prop) (hBS : ∀ w, S w → B ≤ w.heap.size) : Con Try.prog 15 [.pointer (some ⟨g, 0, none⟩), .string a, .string b] S (TK B g vl al m) (fun _ : Value => .int .i64 q) (fun _ => True) (fun vl' => TK B g vl' al m1) := by
  have := set_con B g vl al m hm a b S hBS
  rw [h] at this; exact this
theorem newT_nil {l : List VT} {m : T} (h : newT l [] = (some m, 0)) : m.st = 0 ∧ m.A = [] := by
  unfold newT at h
  split at h
  · cases h
  · split at h
    · cases h
    · rename_i h2
      injection h with h1 _
      injection h1 with h1
      have h3 := tArgs_yes (show (tArgs (setAll t00 l).1 []).2 = 0 by simpa using h2)
      rw [h3] at h1
      subst h1
      exact ⟨(setAll_st l t00).1, rfl⟩
theorem rnew_ok (B : Nat) (A1 A2 : Option Addr) (n1 c1 n2 c2 : Nat) (l : List VT) (xs : List ByteArray) (m : T) (h : newT l xs = (some m, 0)) (S : World → Prop) (hBS : ∀ w, S w → B ≤ w.heap.size) (hC1 : ∀ w, S w → kV.C w A1 n1 l) (hC2 : ∀ w, S w → Kd.string.C w A2 n2 xs) :
    Con Try.prog 9 [.slice A1 n1 c1, .slice A2 n2 c2] S [] (fun v : Value => .tuple #[.agg #[v, .slice A2 n2 c2, .int .i64 0], .int .i64 0]) (fun _ => True) (fun v => [Row B kV 26 v m.V]) := fun w F hw hs hlt => by
  have := rnew_gen B A1 A2 n1 c1 n2 c2 l xs S hBS hC1 hC2 w F hw hs hlt
  rw [h] at this
  refine this.mono ?_
  rintro e w' ⟨s, h1, h2, h3⟩
  match s, h1, h2, h3 with
  | none, _, h2, _ => exact absurd h2.1 (by simp)
  | some t, h1, _, h3 => exact ⟨t, h1, trivial, h3⟩
theorem rnew_bad (B : Nat) (A1 A2 : Option Addr) (n1 c1 n2 c2 : Nat) (l : List VT) (xs : List ByteArray) (q : Int) (h : newT l xs = (none, q)) (S : World → Prop) (hBS : ∀ w, S w → B ≤ w.heap.size) (hC1 : ∀ w, S w → kV.C w A1 n1 l) (hC2 : ∀ w, S w → Kd.string.C w A2 n2 xs) :
    Con Try.prog 9 [.slice A1 n1 c1, .slice A2 n2 c2] S [] (fun _ : Unit => .tuple #[.agg #[.slice none 0 0, .slice none 0 0, .int .i64 0], .int .i64 q]) (fun _ => True) (fun _ => []) := fun w F hw hs hlt => by
  have := rnew_gen B A1 A2 n1 c1 n2 c2 l xs S hBS hC1 hC2 w F hw hs hlt
  rw [h] at this
  refine this.mono ?_
  rintro e w' ⟨s, h1, h2, h3⟩
  match s, h1, h2, h3 with
  | none, h1, _, h3 => exact ⟨(), h1, trivial, h3⟩
  | some t, _, h2, _ =>
    obtain ⟨m, hm⟩ := h2
    cases hm
theorem C_nilS (w : World) : Kd.string.C w none 0 [] := ⟨rfl, by omega, fun h => by omega⟩

theorem mixed_ : Try.prog.follows .mixedOrders = true := by kernel_rfl
theorem ag36 (w : World) : (isAgg 36).run Try.prog w = .ok true w := by kernel_rfl
theorem al36 (w : World) : (Instr.alloc 36 true (.tuple #[])).run Try.prog w = .ok (.pointer (some ⟨w.heap.size, 0, none⟩)) (w.alloc (.cells #[.slice none 0 0, .slice none 0 0, .int .i64 0] 36 (0, 0))) := by kernel_rfl
theorem sz36 (w : World) : (sizeOf 36).run Try.prog w = .ok 3 w := by kernel_rfl
set_option maxRecDepth 100000 in
set_option maxHeartbeats 1000000 in
theorem first_con (B : Nat) (A1 : Option Addr) (n1 c1 : Nat) (l : List VT) (m : T) (h : newT l [] = (some m, 0)) (S : World → Prop) (hBS : ∀ w, S w → B ≤ w.heap.size) (hC1 : ∀ w, S w → kV.C w A1 n1 l) :
    Con Try.prog 16 [.slice A1 n1 c1] S [] (fun v : Value => .agg #[v, .slice none 0 0, .int .i64 0]) (fun _ => True) (fun v => [Row B kV 26 v m.V]) := by
 refine Con.of_none fun w hS => ?_
 have hs : Sep w (fun _ => False) [] := trivial
 have hB := hBS w hS
 refine enter (args := [.slice A1 n1 c1]) Try.func16 rfl rfl rfl hs ?_
 refine GC.seq ?_
 refine GC.region ?_
 refine GL.does [] rfl rfl rfl rfl (Does.alloc (Bs hB) rfl al36) fun gr hgr => ?_
 refine GL.nil ?_
 refine GQ.thenN ?_
 refine GC.seq ?_
 refine GC.region ?_
 refine GL.gives rfl rfl rfl (Gives.move rfl rfl) ?_
 refine GL.does [] rfl rfl rfl rfl (Does.call rfl rfl Try.func9 rfl rfl (rnew_ok B A1 none n1 c1 0 0 l [] m h _ (Bs hB) (fun w' hs' => Kd.C_below (hC1 w hS) hs'.below) (fun w' _ => C_nilS w'))) fun v _ => ?_
 refine GL.know (one_row (i := 0) rfl) fun h1 => ?_
 refine GL.gives rfl rfl rfl (Gives.move rfl rfl) ?_
 refine GL.gives rfl rfl rfl (Gives.extract (v := .agg #[v, .slice none 0 0, .int .i64 0]) rfl rfl rfl) ?_
 refine GL.gives rfl rfl rfl (Gives.extract (v := .int .i64 0) rfl rfl rfl) ?_
 refine GL.does [] rfl rfl rfl rfl (Does.alloc (Bs hB) rfl al36) fun gt hgt => ?_
 refine GL.does0 [0] rfl rfl rfl (Does.storeb rfl rfl rfl sz36 (by first | (simp [Value.oneCell']; done) | (simp [one_int, one_bool, one_string, one_slice, one_pointer, *]; done)) rfl) fun _ _ => ?_
 refine GL.gives rfl rfl rfl (Gives.assign rfl rfl) ?_
 refine GL.nil ?_
 refine GQ.thenN ?_
 refine GC.seq ?_
 refine GC.region ?_
 refine GL.gives rfl rfl rfl (Gives.loadb (cs := #[v, .slice none 0 0, .int .i64 0]) 0 rfl rfl ag36 sz36 rfl) ?_
 refine GL.does0 [2] rfl rfl rfl (Does.storeb rfl rfl rfl sz36 (by first | (simp [Value.oneCell']; done) | (simp [one_int, one_bool, one_string, one_slice, one_pointer, *]; done)) rfl) fun _ _ => ?_
 refine GL.nil ?_
 refine GQ.thenN ?_
 refine GC.ret ?_
 refine GQ.retS (v := .agg #[v, .slice none 0 0, .int .i64 0]) (.inl rfl) rfl ⟨_, rfl, lv_agg (cs := #[v, .slice none 0 0, .int .i64 0]) (i := 0) rfl ag36 sz36⟩ ?_
 intro w' hs
 exact ⟨v, rfl, trivial, hs.take (is := [2]) rfl⟩

set_option maxRecDepth 100000 in
set_option maxHeartbeats 1000000 in
theorem sets_no (w : World) (A1 : Option Addr) (n1 c1 : Nat) (l : List VT) (a b o : ByteArray) (hC1 : kV.C w A1 n1 l) (ha : a.size ≤ 9223372036854775806) (ho : o.size ≤ 9223372036854775806) (q : Int) (hq : q ≠ 0) (h : newT l [] = (none, q)) : Calls Try.prog 4 [.slice A1 n1 c1, .string a, .string b, .string o].toArray w (fun e w' => e = .returned (.bool true) ∧ Below w.heap.size w w') := by
 have hs : Sep w (fun k => k < w.heap.size) [Old w.heap.size w] := Old.start w
 have hB : w.heap.size ≤ w.heap.size := Nat.le_refl _
 have hX1 : Shows (Old w.heap.size w) kV A1 n1 l := shows_old kV_now hC1
 have hX2 : Shows (Old w.heap.size w) Kd.string none 0 [] := fun w' _ _ => C_nilS w'
 refine enter (args := [.slice A1 n1 c1, .string a, .string b, .string o]) Try.func4 rfl rfl rfl hs ?_
 refine GC.seq ?_
 refine GC.region ?_
 refine GL.gives rfl rfl rfl (Gives.assign rfl rfl) ?_
 refine GL.nil ?_
 refine GQ.thenN ?_
 refine GC.seq ?_
 refine GC.region ?_
 refine GL.gives rfl rfl rfl (Gives.move rfl rfl) ?_
 refine GL.does [0] rfl rfl rfl rfl (Does.call rfl rfl Try.func8 rfl rfl (new_bad w.heap.size (Old w.heap.size w) A1 none n1 c1 0 0 l [] hX1 hX2 q h _ (Bs hB))) fun _ _ => ?_
 refine GL.gives rfl rfl rfl (Gives.move rfl rfl) ?_
 refine GL.gives rfl rfl rfl (Gives.extract (v := .pointer none) rfl rfl rfl) ?_
 refine GL.gives rfl rfl rfl (Gives.extract (v := .int .i64 q) rfl rfl rfl) ?_
 refine GL.gives rfl rfl rfl (Gives.assign rfl rfl) ?_
 refine GL.gives rfl rfl rfl (Gives.assign rfl rfl) ?_
 refine GL.nil ?_
 refine GQ.thenN ?_
 refine GC.seq ?_
 refine GC.seq ?_
 refine GC.region ?_
 refine GL.gives rfl rfl rfl (Gives.move rfl rfl) ?_
 refine GL.gives rfl rfl rfl (Gives.nei rfl rfl rfl) ?_
 refine GL.nil ?_
 refine GQ.thenN ?_
 refine GC.condT rfl (bne_iff_ne.2 hq) ?_
 refine GC.seq ?_
 refine GC.region ?_
 refine GL.does [] rfl rfl rfl rfl (Does.call rfl rfl Try.func6 rfl rfl (awake_con w.heap.size _ (Bs hB))) fun _ _ => ?_
 refine GL.gives rfl rfl rfl (Gives.assign rfl rfl) ?_
 refine GL.nil ?_
 refine GQ.thenN ?_
 refine GC.ret ?_
 refine GQ.thenR ?_
 refine GQ.ret1 (.inl rfl) rfl rfl ?_
 intro w' hs
 exact ⟨rfl, hs.old_below (i := 0) rfl⟩

theorem same_to (B : Nat) (Av Aa Bv : Option Addr) (cv ca dv : Nat) (m : T) (hm : m.Ok) (hst0 : m.st = 0) (hA0 : m.A = []) (S : World → Prop) (hBS : ∀ w, S w → B ≤ w.heap.size) (hCV : ∀ w, S w → kV.C w Av m.V.length m.V) (hCA : ∀ w, S w → Kd.string.C w Aa m.A.length m.A) (hDV : ∀ w, S w → kV.C w Bv m.V.length m.V) :
    Con Try.prog 11 [.agg #[.slice Av m.V.length cv, .slice Aa m.A.length ca, .int .i64 m.st], .agg #[.slice Bv m.V.length dv, .slice none 0 0, .int .i64 0]] S [] (fun _ : Unit => .bool true) (fun _ => True) (fun _ => []) := by
  have h := same_con B Av Aa Bv none cv ca dv 0 m hm S hBS hCV hCA hDV (fun w _ => by rw [hA0]; exact C_nilS w)
  have e : (Value.agg #[.slice Bv m.V.length dv, .slice none m.A.length 0, .int .i64 m.st]) = .agg #[.slice Bv m.V.length dv, .slice none 0 0, .int .i64 0] := by rw [hA0, hst0]; rfl
  rw [e] at h
  exact h
theorem unset_to (B g : Nat) (vl al : Value) (m : T) (hm : m.Ok) (a : ByteArray) (m2 : T) (hu : m2 = tUnset m a) (S : World → Prop) (hBS : ∀ w, S w → B ≤ w.heap.size) : Con Try.prog 17 [.pointer (some ⟨g, 0, none⟩), .string a] S (TK B g vl al m) (fun _ : Value => .tuple #[]) (fun _ => True) (fun vl' => TK B g vl' al m2) := by
  rw [hu]; exact unset_con B g vl al m hm a S hBS
theorem sets (w : World) (A1 : Option Addr) (n1 c1 : Nat) (l : List VT) (a b o : ByteArray) (hC1 : kV.C w A1 n1 l) (ha : a.size ≤ 9223372036854775806) (ho : o.size ≤ 9223372036854775806) (sets_no : ∀ q, q ≠ 0 → newT l [] = (none, q) → Calls Try.prog 4 [.slice A1 n1 c1, .string a, .string b, .string o].toArray w (fun e w' => e = .returned (.bool true) ∧ Below w.heap.size w w'))
    (sets_yes : ∀ (m m1 m2 : T) (hm : m.Ok) (hm1 : m1.Ok) (hm2 : m2.Ok) (q : Int) (h : newT l [] = (some m, 0)) (hset : tSet m a b = (m1, q)) (hA : q = 0 → m1.get a = (b, true)) (hBq : q ≠ 0 → m1 = m) (hCo : a ≠ o → m1.get o = m.get o) (hu : m2 = tUnset m1 a) (hD : isName a = true → (m2.get a).2 = false) (hE : a ≠ o → m2.get o = m.get o), Calls Try.prog 4 [.slice A1 n1 c1, .string a, .string b, .string o].toArray w (fun e w' => e = .returned (.bool true) ∧ Below w.heap.size w w')) :
    Calls Try.prog 4 #[.slice A1 n1 c1, .string a, .string b, .string o] w (fun e w' => e = .returned (.bool true) ∧ Below w.heap.size w w') := by
  rcases newT_cases l [] with ⟨m, h⟩ | ⟨q, h, hq⟩
  · have hm := newT_ok h
    have hdel : ∀ m1 : T, isName a = true → ((tUnset m1 a).get a).2 = false := fun m1 hn => by
      rw [name_get hn]
      show (lookV (delV m1.V a) a).2 = false
      rw [look_del_same]
    have hdo : ∀ m1 : T, a ≠ o → (tUnset m1 a).get o = m1.get o := fun m1 hn => get_congr (look_del_other (Ne.symm hn))
    rcases tSet_cases m a b with ⟨hn, hset⟩ | ⟨q, hq, hset⟩
    · have hm1 := set_ok hm a b
      rw [hset] at hm1
      have hco : a ≠ o → ({ m with V := putV m.V a b } : T).get o = m.get o := fun h => get_congr (look_put_other (Ne.symm h))
      exact sets_yes m _ _ hm hm1 (unset_ok hm1 a) 0 h hset (fun _ => by rw [name_get hn]; exact look_put_same hm.up) (fun h => absurd rfl h) hco rfl (hdel _) (fun h => (hdo _ h).trans (hco h))
    · exact sets_yes m m _ hm hm (unset_ok hm a) q h hset (fun h0 => absurd h0 hq) (fun _ => rfl) (fun _ => rfl) rfl (hdel _) (hdo _)
  · exact sets_no q hq h
set_option maxRecDepth 100000 in
set_option maxHeartbeats 1000000 in
theorem sets_yes (w : World) (A1 : Option Addr) (n1 c1 : Nat) (l : List VT) (a b o : ByteArray) (hC1 : kV.C w A1 n1 l) (ha : a.size ≤ 9223372036854775806) (ho : o.size ≤ 9223372036854775806) (m m1 m2 : T) (hm : m.Ok) (hm1 : m1.Ok) (hm2 : m2.Ok) (q : Int) (h : newT l [] = (some m, 0)) (hset : tSet m a b = (m1, q)) (hA : q = 0 → m1.get a = (b, true)) (hBq : q ≠ 0 → m1 = m) (hCo : a ≠ o → m1.get o = m.get o) (hu : m2 = tUnset m1 a) (hD : isName a = true → (m2.get a).2 = false) (hE : a ≠ o → m2.get o = m.get o) : Calls Try.prog 4 [.slice A1 n1 c1, .string a, .string b, .string o].toArray w (fun e w' => e = .returned (.bool true) ∧ Below w.heap.size w w') := by
 have hs : Sep w (fun k => k < w.heap.size) [Old w.heap.size w] := Old.start w
 have hB : w.heap.size ≤ w.heap.size := Nat.le_refl _
 have hX1 : Shows (Old w.heap.size w) kV A1 n1 l := shows_old kV_now hC1
 have hX2 : Shows (Old w.heap.size w) Kd.string none 0 [] := fun w' _ _ => C_nilS w'
 refine enter (args := [.slice A1 n1 c1, .string a, .string b, .string o]) Try.func4 rfl rfl rfl hs ?_
 refine GC.seq ?_
 refine GC.region ?_
 refine GL.gives rfl rfl rfl (Gives.assign rfl rfl) ?_
 refine GL.nil ?_
 refine GQ.thenN ?_
 refine GC.seq ?_
 refine GC.region ?_
 refine GL.gives rfl rfl rfl (Gives.move rfl rfl) ?_
 refine GL.does [0] rfl rfl rfl rfl (Does.call rfl rfl Try.func8 rfl rfl (new_ok w.heap.size (Old w.heap.size w) A1 none n1 c1 0 0 l [] hX1 hX2 m h _ (Bs hB))) fun ⟨g, vl, al⟩ _ => ?_
 refine GL.gives rfl rfl rfl (Gives.move rfl rfl) ?_
 refine GL.gives rfl rfl rfl (Gives.extract (v := .pointer (some ⟨g, 0, none⟩)) rfl rfl rfl) ?_
 refine GL.gives rfl rfl rfl (Gives.extract (v := .int .i64 0) rfl rfl rfl) ?_
 refine GL.gives rfl rfl rfl (Gives.assign rfl rfl) ?_
 refine GL.gives rfl rfl rfl (Gives.assign rfl rfl) ?_
 refine GL.nil ?_
 refine GQ.thenN ?_
 refine GC.seq ?_
 refine GC.seq ?_
 refine GC.region ?_
 refine GL.gives rfl rfl rfl (Gives.move rfl rfl) ?_
 refine GL.gives rfl rfl rfl (Gives.nei rfl rfl rfl) ?_
 refine GL.nil ?_
 refine GQ.thenN ?_
 refine GC.condF rfl (by rfl) ?_
 refine GC.skip ?_
 refine GQ.thenN ?_
 refine GC.seq ?_
 refine GC.region ?_
 refine GL.gives rfl rfl rfl (Gives.move rfl rfl) ?_
 refine GL.gives rfl rfl rfl (Gives.move rfl rfl) ?_
 refine GL.does [0, 0, 0] rfl rfl rfl rfl (Does.call rfl rfl Try.func13 rfl rfl (get_con w.heap.size g vl al m hm o ho _ (Bs hB))) fun _ _ => ?_
 refine GL.gives rfl rfl rfl (Gives.move rfl rfl) ?_
 refine GL.gives rfl rfl rfl (Gives.extract (v := .string (m.get o).1) rfl rfl rfl) ?_
 refine GL.gives rfl rfl rfl (Gives.extract (v := .bool (m.get o).2) rfl rfl rfl) ?_
 refine GL.gives rfl rfl rfl (Gives.assign rfl rfl) ?_
 refine GL.gives rfl rfl rfl (Gives.assign rfl rfl) ?_
 refine GL.nil ?_
 refine GQ.thenN ?_
 refine GC.seq ?_
 refine GC.region ?_
 refine GL.gives rfl rfl rfl (Gives.move rfl rfl) ?_
 refine GL.gives rfl rfl rfl (Gives.move rfl rfl) ?_
 refine GL.gives rfl rfl rfl (Gives.move rfl rfl) ?_
 refine GL.does [0, 0, 0] rfl rfl rfl rfl (Does.call rfl rfl Try.func15 rfl rfl (set_to w.heap.size g vl al m hm a b m1 q hset _ (Bs hB))) fun vl1 _ => ?_
 refine GL.gives rfl rfl rfl (Gives.assign rfl rfl) ?_
 refine GL.nil ?_
 refine GQ.thenN ?_
 refine GC.seq ?_
 refine GC.region ?_
 refine GL.gives rfl rfl rfl (Gives.move rfl rfl) ?_
 refine GL.gives rfl rfl rfl (Gives.move rfl rfl) ?_
 refine GL.does [0, 0, 0] rfl rfl rfl rfl (Does.call rfl rfl Try.func13 rfl rfl (get_con w.heap.size g vl1 al m1 hm1 a ha _ (Bs hB))) fun _ _ => ?_
 refine GL.gives rfl rfl rfl (Gives.move rfl rfl) ?_
 refine GL.gives rfl rfl rfl (Gives.extract (v := .string (m1.get a).1) rfl rfl rfl) ?_
 refine GL.gives rfl rfl rfl (Gives.extract (v := .bool (m1.get a).2) rfl rfl rfl) ?_
 refine GL.gives rfl rfl rfl (Gives.assign rfl rfl) ?_
 refine GL.gives rfl rfl rfl (Gives.assign rfl rfl) ?_
 refine GL.nil ?_
 refine GQ.thenN ?_
 refine GC.seq ?_
 refine GC.region ?_
 refine GL.gives rfl rfl rfl (Gives.move rfl rfl) ?_
 refine GL.gives rfl rfl rfl (Gives.move rfl rfl) ?_
 refine GL.does [0, 0, 0] rfl rfl rfl rfl (Does.call rfl rfl Try.func13 rfl rfl (get_con w.heap.size g vl1 al m1 hm1 o ho _ (Bs hB))) fun _ _ => ?_
 refine GL.gives rfl rfl rfl (Gives.move rfl rfl) ?_
 refine GL.gives rfl rfl rfl (Gives.extract (v := .string (m1.get o).1) rfl rfl rfl) ?_
 refine GL.gives rfl rfl rfl (Gives.extract (v := .bool (m1.get o).2) rfl rfl rfl) ?_
 refine GL.gives rfl rfl rfl (Gives.assign rfl rfl) ?_
 refine GL.gives rfl rfl rfl (Gives.assign rfl rfl) ?_
 refine GL.nil ?_
 refine GQ.thenN ?_
 refine GC.seq ?_
 refine GC.seq ?_
 by_cases hz : q = 0
 ·
   refine GC.region ?_
   refine GL.gives rfl rfl rfl (Gives.move rfl rfl) ?_
   refine GL.gives rfl rfl rfl (Gives.eqi rfl rfl rfl) ?_
   refine GL.gives rfl rfl rfl (Gives.move rfl rfl) ?_
   refine GL.learn (t := 54) (v' := .bool true) rfl (congrArg Value.bool (beq_iff_eq.2 hz)) ?_
   refine GL.gives rfl rfl rfl (Gives.move rfl rfl) ?_
   refine GL.gives rfl rfl rfl (Gives.not rfl rfl) ?_
   refine GL.gives rfl rfl rfl (Gives.move rfl rfl) ?_
   refine GL.learn (t := 57) (v' := .bool false) rfl (congrArg Value.bool (by rw [hA hz]; rfl)) ?_
   refine GL.gives rfl rfl rfl (Gives.move rfl rfl) ?_
   refine GL.gives rfl rfl rfl (Gives.move rfl rfl) ?_
   refine GL.gives rfl rfl rfl (Gives.nes rfl rfl rfl) ?_
   refine GL.gives rfl rfl rfl (Gives.pickF rfl rfl rfl rfl) ?_
   refine GL.gives rfl rfl rfl (Gives.pickT rfl rfl rfl rfl) ?_
   refine GL.gives rfl rfl rfl (Gives.move rfl rfl) ?_
   refine GL.learn (t := 63) (v' := .bool false) rfl (congrArg Value.bool (by rw [hA hz]; simp)) ?_
   refine GL.gives rfl rfl rfl (Gives.move rfl rfl) ?_
   refine GL.gives rfl rfl rfl (Gives.nei rfl rfl rfl) ?_
   refine GL.gives rfl rfl rfl (Gives.move rfl rfl) ?_
   refine GL.learn (t := 66) (v' := .bool false) rfl (congrArg Value.bool (by rw [hz]; rfl)) ?_
   refine GL.skip rfl rfl rfl ?_
   refine GL.skip rfl rfl rfl ?_
   refine GL.skip rfl rfl rfl ?_
   refine GL.skip rfl rfl rfl ?_
   refine GL.skip rfl rfl rfl ?_
   refine GL.skip rfl rfl rfl ?_
   refine GL.gives rfl rfl rfl (Gives.pickF rfl rfl rfl rfl) ?_
   refine GL.gives rfl rfl rfl (Gives.pickF rfl rfl rfl rfl) ?_
   refine GL.gives rfl rfl rfl (Gives.move rfl rfl) ?_
   refine GL.gives rfl rfl rfl (Gives.move rfl rfl) ?_
   refine GL.gives rfl rfl rfl (Gives.move rfl rfl) ?_
   refine GL.gives rfl rfl rfl (Gives.nes rfl rfl rfl) ?_
   refine GL.gives rfl rfl rfl (Gives.move rfl rfl) ?_
   refine GL.split (t := 79) rfl (fun h79 => ?_) (fun h79 => ?_)
   ·
     replace h79 := str_neq h79
     refine GL.gives rfl rfl rfl (Gives.move rfl rfl) ?_
     refine GL.gives rfl rfl rfl (Gives.move rfl rfl) ?_
     refine GL.gives rfl rfl rfl (Gives.nes rfl rfl rfl) ?_
     refine GL.gives rfl rfl rfl (Gives.move rfl rfl) ?_
     refine GL.learn (t := 83) (v' := .bool false) rfl (congrArg Value.bool (by first | (rw [hCo h79]; simp; done) | simp)) ?_
     refine GL.gives rfl rfl rfl (Gives.move rfl rfl) ?_
     refine GL.gives rfl rfl rfl (Gives.move rfl rfl) ?_
     refine GL.gives rfl rfl rfl (Gives.neb Try.underlying4 rfl rfl rfl) ?_
     refine GL.gives rfl rfl rfl (Gives.pickF rfl rfl rfl rfl) ?_
     refine GL.gives rfl rfl rfl (Gives.pickT rfl rfl rfl rfl) ?_
     refine GL.gives rfl rfl rfl (Gives.pickF rfl rfl rfl rfl) ?_
     refine GL.nil ?_
     refine GQ.thenN ?_
     refine GC.condF rfl (by first | (rw [hCo h79]; simp; done) | simp) ?_
     refine GC.skip ?_
     refine GQ.thenN ?_
     refine GC.seq ?_
     refine GC.region ?_
     refine GL.gives rfl rfl rfl (Gives.move rfl rfl) ?_
     refine GL.gives rfl rfl rfl (Gives.move rfl rfl) ?_
     refine GL.does [0, 0, 0] rfl rfl rfl rfl (Does.call rfl rfl Try.func17 rfl rfl (unset_to w.heap.size g vl1 al m1 hm1 a m2 hu _ (Bs hB))) fun vl2 _ => ?_
     refine GL.nil ?_
     refine GQ.thenN ?_
     refine GC.seq ?_
     refine GC.region ?_
     refine GL.gives rfl rfl rfl (Gives.move rfl rfl) ?_
     refine GL.gives rfl rfl rfl (Gives.move rfl rfl) ?_
     refine GL.does [0, 0, 0] rfl rfl rfl rfl (Does.call rfl rfl Try.func13 rfl rfl (get_con w.heap.size g vl2 al m2 hm2 a ha _ (Bs hB))) fun _ _ => ?_
     refine GL.gives rfl rfl rfl (Gives.move rfl rfl) ?_
     refine GL.gives rfl rfl rfl (Gives.extract (v := .string (m2.get a).1) rfl rfl rfl) ?_
     refine GL.gives rfl rfl rfl (Gives.extract (v := .bool (m2.get a).2) rfl rfl rfl) ?_
     refine GL.gives rfl rfl rfl (Gives.assign rfl rfl) ?_
     refine GL.gives rfl rfl rfl (Gives.assign rfl rfl) ?_
     refine GL.nil ?_
     refine GQ.thenN ?_
     refine GC.seq ?_
     refine GC.region ?_
     refine GL.gives rfl rfl rfl (Gives.move rfl rfl) ?_
     refine GL.gives rfl rfl rfl (Gives.move rfl rfl) ?_
     refine GL.does [0, 0, 0] rfl rfl rfl rfl (Does.call rfl rfl Try.func13 rfl rfl (get_con w.heap.size g vl2 al m2 hm2 o ho _ (Bs hB))) fun _ _ => ?_
     refine GL.gives rfl rfl rfl (Gives.move rfl rfl) ?_
     refine GL.gives rfl rfl rfl (Gives.extract (v := .string (m2.get o).1) rfl rfl rfl) ?_
     refine GL.gives rfl rfl rfl (Gives.extract (v := .bool (m2.get o).2) rfl rfl rfl) ?_
     refine GL.gives rfl rfl rfl (Gives.assign rfl rfl) ?_
     refine GL.gives rfl rfl rfl (Gives.assign rfl rfl) ?_
     refine GL.nil ?_
     refine GQ.thenN ?_
     refine GC.seq ?_
     refine GC.region ?_
     refine GL.gives rfl rfl rfl (Gives.move rfl rfl) ?_
     refine GL.gives rfl rfl rfl (Gives.not rfl rfl) ?_
     refine GL.gives rfl rfl rfl (Gives.move rfl rfl) ?_
     refine GL.split (t := 107) rfl (fun h107 => ?_) (fun h107 => ?_)
     ·
       have _ := h107
       refine GL.skip rfl rfl rfl ?_
       refine GL.skip rfl rfl rfl ?_
       refine GL.skip rfl rfl rfl ?_
       refine GL.gives rfl rfl rfl (Gives.pickT rfl rfl rfl rfl) ?_
       refine GL.gives rfl rfl rfl (Gives.move rfl rfl) ?_
       refine GL.gives rfl rfl rfl (Gives.move rfl rfl) ?_
       refine GL.gives rfl rfl rfl (Gives.move rfl rfl) ?_
       refine GL.gives rfl rfl rfl (Gives.eqs rfl rfl rfl) ?_
       refine GL.gives rfl rfl rfl (Gives.move rfl rfl) ?_
       refine GL.split (t := 116) rfl (fun h116 => ?_) (fun h116 => ?_)
       ·
         replace h116 := str_eq.1 h116
         refine GL.skip rfl rfl rfl ?_
         refine GL.skip rfl rfl rfl ?_
         refine GL.skip rfl rfl rfl ?_
         refine GL.skip rfl rfl rfl ?_
         refine GL.skip rfl rfl rfl ?_
         refine GL.skip rfl rfl rfl ?_
         refine GL.skip rfl rfl rfl ?_
         refine GL.skip rfl rfl rfl ?_
         refine GL.gives rfl rfl rfl (Gives.pickT rfl rfl rfl rfl) ?_
         refine GL.gives rfl rfl rfl (Gives.pickT rfl rfl rfl rfl) ?_
         refine GL.gives rfl rfl rfl (Gives.move rfl rfl) ?_
         refine GL.does [] rfl rfl rfl rfl (Does.call rfl rfl Try.func6 rfl rfl (awake_con w.heap.size _ (Bs hB))) fun _ _ => ?_
         refine GL.gives rfl rfl rfl (Gives.pickT rfl rfl rfl rfl) ?_
         refine GL.gives rfl rfl rfl (Gives.assign rfl rfl) ?_
         refine GL.nil ?_
         refine GQ.thenN ?_
         refine GC.ret ?_
         refine GQ.ret1 (.inl rfl) rfl rfl ?_
         intro w' hs
         exact ⟨rfl, hs.old_below (i := 3) rfl⟩
       ·
         replace h116 := str_ne h116
         refine GL.gives rfl rfl rfl (Gives.move rfl rfl) ?_
         refine GL.gives rfl rfl rfl (Gives.move rfl rfl) ?_
         refine GL.gives rfl rfl rfl (Gives.eqs rfl rfl rfl) ?_
         refine GL.gives rfl rfl rfl (Gives.move rfl rfl) ?_
         refine GL.learn (t := 120) (v' := .bool true) rfl (congrArg Value.bool (by rw [hE h116]; simp)) ?_
         refine GL.gives rfl rfl rfl (Gives.move rfl rfl) ?_
         refine GL.gives rfl rfl rfl (Gives.move rfl rfl) ?_
         refine GL.gives rfl rfl rfl (Gives.eqb Try.underlying4 rfl rfl rfl) ?_
         refine GL.gives rfl rfl rfl (Gives.pickT rfl rfl rfl rfl) ?_
         refine GL.gives rfl rfl rfl (Gives.pickF rfl rfl rfl rfl) ?_
         refine GL.gives rfl rfl rfl (Gives.pickT rfl rfl rfl rfl) ?_
         refine GL.gives rfl rfl rfl (Gives.move rfl rfl) ?_
         refine GL.learn (t := 127) (v' := .bool true) rfl (congrArg Value.bool (by rw [hE h116]; simp)) ?_
         refine GL.does [] rfl rfl rfl rfl (Does.call rfl rfl Try.func6 rfl rfl (awake_con w.heap.size _ (Bs hB))) fun _ _ => ?_
         refine GL.gives rfl rfl rfl (Gives.pickT rfl rfl rfl rfl) ?_
         refine GL.gives rfl rfl rfl (Gives.assign rfl rfl) ?_
         refine GL.nil ?_
         refine GQ.thenN ?_
         refine GC.ret ?_
         refine GQ.ret1 (.inl rfl) rfl rfl ?_
         intro w' hs
         exact ⟨rfl, hs.old_below (i := 3) rfl⟩
     ·
       have h107' : (m2.get a).2 = true := by simpa using h107
       refine GL.gives rfl rfl rfl (Gives.move rfl rfl) ?_
       refine GL.does [] rfl rfl rfl rfl (Does.call rfl rfl Try.func18 rfl rfl (ref_Name_con a _)) fun _ _ => ?_
       refine GL.gives rfl rfl rfl (Gives.not rfl rfl) ?_
       refine GL.gives rfl rfl rfl (Gives.pickF rfl rfl rfl rfl) ?_
       refine GL.gives rfl rfl rfl (Gives.move rfl rfl) ?_
       refine GL.learn (t := 112) (v' := .bool true) rfl (congrArg Value.bool (by rw [Bool.not_eq_true']; exact Bool.eq_false_iff.2 (fun hn => by rw [hD hn] at h107'; cases h107'))) ?_
       refine GL.gives rfl rfl rfl (Gives.move rfl rfl) ?_
       refine GL.gives rfl rfl rfl (Gives.move rfl rfl) ?_
       refine GL.gives rfl rfl rfl (Gives.eqs rfl rfl rfl) ?_
       refine GL.gives rfl rfl rfl (Gives.move rfl rfl) ?_
       refine GL.split (t := 116) rfl (fun h116 => ?_) (fun h116 => ?_)
       ·
         replace h116 := str_eq.1 h116
         refine GL.skip rfl rfl rfl ?_
         refine GL.skip rfl rfl rfl ?_
         refine GL.skip rfl rfl rfl ?_
         refine GL.skip rfl rfl rfl ?_
         refine GL.skip rfl rfl rfl ?_
         refine GL.skip rfl rfl rfl ?_
         refine GL.skip rfl rfl rfl ?_
         refine GL.skip rfl rfl rfl ?_
         refine GL.gives rfl rfl rfl (Gives.pickT rfl rfl rfl rfl) ?_
         refine GL.gives rfl rfl rfl (Gives.pickT rfl rfl rfl rfl) ?_
         refine GL.gives rfl rfl rfl (Gives.move rfl rfl) ?_
         refine GL.does [] rfl rfl rfl rfl (Does.call rfl rfl Try.func6 rfl rfl (awake_con w.heap.size _ (Bs hB))) fun _ _ => ?_
         refine GL.gives rfl rfl rfl (Gives.pickT rfl rfl rfl rfl) ?_
         refine GL.gives rfl rfl rfl (Gives.assign rfl rfl) ?_
         refine GL.nil ?_
         refine GQ.thenN ?_
         refine GC.ret ?_
         refine GQ.ret1 (.inl rfl) rfl rfl ?_
         intro w' hs
         exact ⟨rfl, hs.old_below (i := 3) rfl⟩
       ·
         replace h116 := str_ne h116
         refine GL.gives rfl rfl rfl (Gives.move rfl rfl) ?_
         refine GL.gives rfl rfl rfl (Gives.move rfl rfl) ?_
         refine GL.gives rfl rfl rfl (Gives.eqs rfl rfl rfl) ?_
         refine GL.gives rfl rfl rfl (Gives.move rfl rfl) ?_
         refine GL.learn (t := 120) (v' := .bool true) rfl (congrArg Value.bool (by rw [hE h116]; simp)) ?_
         refine GL.gives rfl rfl rfl (Gives.move rfl rfl) ?_
         refine GL.gives rfl rfl rfl (Gives.move rfl rfl) ?_
         refine GL.gives rfl rfl rfl (Gives.eqb Try.underlying4 rfl rfl rfl) ?_
         refine GL.gives rfl rfl rfl (Gives.pickT rfl rfl rfl rfl) ?_
         refine GL.gives rfl rfl rfl (Gives.pickF rfl rfl rfl rfl) ?_
         refine GL.gives rfl rfl rfl (Gives.pickT rfl rfl rfl rfl) ?_
         refine GL.gives rfl rfl rfl (Gives.move rfl rfl) ?_
         refine GL.learn (t := 127) (v' := .bool true) rfl (congrArg Value.bool (by rw [hE h116]; simp)) ?_
         refine GL.does [] rfl rfl rfl rfl (Does.call rfl rfl Try.func6 rfl rfl (awake_con w.heap.size _ (Bs hB))) fun _ _ => ?_
         refine GL.gives rfl rfl rfl (Gives.pickT rfl rfl rfl rfl) ?_
         refine GL.gives rfl rfl rfl (Gives.assign rfl rfl) ?_
         refine GL.nil ?_
         refine GQ.thenN ?_
         refine GC.ret ?_
         refine GQ.ret1 (.inl rfl) rfl rfl ?_
         intro w' hs
         exact ⟨rfl, hs.old_below (i := 3) rfl⟩
   ·
     replace h79 := str_nne h79
     refine GL.skip rfl rfl rfl ?_
     refine GL.skip rfl rfl rfl ?_
     refine GL.skip rfl rfl rfl ?_
     refine GL.skip rfl rfl rfl ?_
     refine GL.skip rfl rfl rfl ?_
     refine GL.skip rfl rfl rfl ?_
     refine GL.skip rfl rfl rfl ?_
     refine GL.skip rfl rfl rfl ?_
     refine GL.gives rfl rfl rfl (Gives.pickF rfl rfl rfl rfl) ?_
     refine GL.gives rfl rfl rfl (Gives.pickF rfl rfl rfl rfl) ?_
     refine GL.nil ?_
     refine GQ.thenN ?_
     refine GC.condF rfl rfl ?_
     refine GC.skip ?_
     refine GQ.thenN ?_
     refine GC.seq ?_
     refine GC.region ?_
     refine GL.gives rfl rfl rfl (Gives.move rfl rfl) ?_
     refine GL.gives rfl rfl rfl (Gives.move rfl rfl) ?_
     refine GL.does [0, 0, 0] rfl rfl rfl rfl (Does.call rfl rfl Try.func17 rfl rfl (unset_to w.heap.size g vl1 al m1 hm1 a m2 hu _ (Bs hB))) fun vl2 _ => ?_
     refine GL.nil ?_
     refine GQ.thenN ?_
     refine GC.seq ?_
     refine GC.region ?_
     refine GL.gives rfl rfl rfl (Gives.move rfl rfl) ?_
     refine GL.gives rfl rfl rfl (Gives.move rfl rfl) ?_
     refine GL.does [0, 0, 0] rfl rfl rfl rfl (Does.call rfl rfl Try.func13 rfl rfl (get_con w.heap.size g vl2 al m2 hm2 a ha _ (Bs hB))) fun _ _ => ?_
     refine GL.gives rfl rfl rfl (Gives.move rfl rfl) ?_
     refine GL.gives rfl rfl rfl (Gives.extract (v := .string (m2.get a).1) rfl rfl rfl) ?_
     refine GL.gives rfl rfl rfl (Gives.extract (v := .bool (m2.get a).2) rfl rfl rfl) ?_
     refine GL.gives rfl rfl rfl (Gives.assign rfl rfl) ?_
     refine GL.gives rfl rfl rfl (Gives.assign rfl rfl) ?_
     refine GL.nil ?_
     refine GQ.thenN ?_
     refine GC.seq ?_
     refine GC.region ?_
     refine GL.gives rfl rfl rfl (Gives.move rfl rfl) ?_
     refine GL.gives rfl rfl rfl (Gives.move rfl rfl) ?_
     refine GL.does [0, 0, 0] rfl rfl rfl rfl (Does.call rfl rfl Try.func13 rfl rfl (get_con w.heap.size g vl2 al m2 hm2 o ho _ (Bs hB))) fun _ _ => ?_
     refine GL.gives rfl rfl rfl (Gives.move rfl rfl) ?_
     refine GL.gives rfl rfl rfl (Gives.extract (v := .string (m2.get o).1) rfl rfl rfl) ?_
     refine GL.gives rfl rfl rfl (Gives.extract (v := .bool (m2.get o).2) rfl rfl rfl) ?_
     refine GL.gives rfl rfl rfl (Gives.assign rfl rfl) ?_
     refine GL.gives rfl rfl rfl (Gives.assign rfl rfl) ?_
     refine GL.nil ?_
     refine GQ.thenN ?_
     refine GC.seq ?_
     refine GC.region ?_
     refine GL.gives rfl rfl rfl (Gives.move rfl rfl) ?_
     refine GL.gives rfl rfl rfl (Gives.not rfl rfl) ?_
     refine GL.gives rfl rfl rfl (Gives.move rfl rfl) ?_
     refine GL.split (t := 107) rfl (fun h107 => ?_) (fun h107 => ?_)
     ·
       have _ := h107
       refine GL.skip rfl rfl rfl ?_
       refine GL.skip rfl rfl rfl ?_
       refine GL.skip rfl rfl rfl ?_
       refine GL.gives rfl rfl rfl (Gives.pickT rfl rfl rfl rfl) ?_
       refine GL.gives rfl rfl rfl (Gives.move rfl rfl) ?_
       refine GL.gives rfl rfl rfl (Gives.move rfl rfl) ?_
       refine GL.gives rfl rfl rfl (Gives.move rfl rfl) ?_
       refine GL.gives rfl rfl rfl (Gives.eqs rfl rfl rfl) ?_
       refine GL.gives rfl rfl rfl (Gives.move rfl rfl) ?_
       refine GL.split (t := 116) rfl (fun h116 => ?_) (fun h116 => ?_)
       ·
         replace h116 := str_eq.1 h116
         refine GL.skip rfl rfl rfl ?_
         refine GL.skip rfl rfl rfl ?_
         refine GL.skip rfl rfl rfl ?_
         refine GL.skip rfl rfl rfl ?_
         refine GL.skip rfl rfl rfl ?_
         refine GL.skip rfl rfl rfl ?_
         refine GL.skip rfl rfl rfl ?_
         refine GL.skip rfl rfl rfl ?_
         refine GL.gives rfl rfl rfl (Gives.pickT rfl rfl rfl rfl) ?_
         refine GL.gives rfl rfl rfl (Gives.pickT rfl rfl rfl rfl) ?_
         refine GL.gives rfl rfl rfl (Gives.move rfl rfl) ?_
         refine GL.does [] rfl rfl rfl rfl (Does.call rfl rfl Try.func6 rfl rfl (awake_con w.heap.size _ (Bs hB))) fun _ _ => ?_
         refine GL.gives rfl rfl rfl (Gives.pickT rfl rfl rfl rfl) ?_
         refine GL.gives rfl rfl rfl (Gives.assign rfl rfl) ?_
         refine GL.nil ?_
         refine GQ.thenN ?_
         refine GC.ret ?_
         refine GQ.ret1 (.inl rfl) rfl rfl ?_
         intro w' hs
         exact ⟨rfl, hs.old_below (i := 3) rfl⟩
       ·
         replace h116 := str_ne h116
         refine GL.gives rfl rfl rfl (Gives.move rfl rfl) ?_
         refine GL.gives rfl rfl rfl (Gives.move rfl rfl) ?_
         refine GL.gives rfl rfl rfl (Gives.eqs rfl rfl rfl) ?_
         refine GL.gives rfl rfl rfl (Gives.move rfl rfl) ?_
         refine GL.learn (t := 120) (v' := .bool true) rfl (congrArg Value.bool (by rw [hE h116]; simp)) ?_
         refine GL.gives rfl rfl rfl (Gives.move rfl rfl) ?_
         refine GL.gives rfl rfl rfl (Gives.move rfl rfl) ?_
         refine GL.gives rfl rfl rfl (Gives.eqb Try.underlying4 rfl rfl rfl) ?_
         refine GL.gives rfl rfl rfl (Gives.pickT rfl rfl rfl rfl) ?_
         refine GL.gives rfl rfl rfl (Gives.pickF rfl rfl rfl rfl) ?_
         refine GL.gives rfl rfl rfl (Gives.pickT rfl rfl rfl rfl) ?_
         refine GL.gives rfl rfl rfl (Gives.move rfl rfl) ?_
         refine GL.learn (t := 127) (v' := .bool true) rfl (congrArg Value.bool (by rw [hE h116]; simp)) ?_
         refine GL.does [] rfl rfl rfl rfl (Does.call rfl rfl Try.func6 rfl rfl (awake_con w.heap.size _ (Bs hB))) fun _ _ => ?_
         refine GL.gives rfl rfl rfl (Gives.pickT rfl rfl rfl rfl) ?_
         refine GL.gives rfl rfl rfl (Gives.assign rfl rfl) ?_
         refine GL.nil ?_
         refine GQ.thenN ?_
         refine GC.ret ?_
         refine GQ.ret1 (.inl rfl) rfl rfl ?_
         intro w' hs
         exact ⟨rfl, hs.old_below (i := 3) rfl⟩
     ·
       have h107' : (m2.get a).2 = true := by simpa using h107
       refine GL.gives rfl rfl rfl (Gives.move rfl rfl) ?_
       refine GL.does [] rfl rfl rfl rfl (Does.call rfl rfl Try.func18 rfl rfl (ref_Name_con a _)) fun _ _ => ?_
       refine GL.gives rfl rfl rfl (Gives.not rfl rfl) ?_
       refine GL.gives rfl rfl rfl (Gives.pickF rfl rfl rfl rfl) ?_
       refine GL.gives rfl rfl rfl (Gives.move rfl rfl) ?_
       refine GL.learn (t := 112) (v' := .bool true) rfl (congrArg Value.bool (by rw [Bool.not_eq_true']; exact Bool.eq_false_iff.2 (fun hn => by rw [hD hn] at h107'; cases h107'))) ?_
       refine GL.gives rfl rfl rfl (Gives.move rfl rfl) ?_
       refine GL.gives rfl rfl rfl (Gives.move rfl rfl) ?_
       refine GL.gives rfl rfl rfl (Gives.eqs rfl rfl rfl) ?_
       refine GL.gives rfl rfl rfl (Gives.move rfl rfl) ?_
       refine GL.split (t := 116) rfl (fun h116 => ?_) (fun h116 => ?_)
       ·
         replace h116 := str_eq.1 h116
         refine GL.skip rfl rfl rfl ?_
         refine GL.skip rfl rfl rfl ?_
         refine GL.skip rfl rfl rfl ?_
         refine GL.skip rfl rfl rfl ?_
         refine GL.skip rfl rfl rfl ?_
         refine GL.skip rfl rfl rfl ?_
         refine GL.skip rfl rfl rfl ?_
         refine GL.skip rfl rfl rfl ?_
         refine GL.gives rfl rfl rfl (Gives.pickT rfl rfl rfl rfl) ?_
         refine GL.gives rfl rfl rfl (Gives.pickT rfl rfl rfl rfl) ?_
         refine GL.gives rfl rfl rfl (Gives.move rfl rfl) ?_
         refine GL.does [] rfl rfl rfl rfl (Does.call rfl rfl Try.func6 rfl rfl (awake_con w.heap.size _ (Bs hB))) fun _ _ => ?_
         refine GL.gives rfl rfl rfl (Gives.pickT rfl rfl rfl rfl) ?_
         refine GL.gives rfl rfl rfl (Gives.assign rfl rfl) ?_
         refine GL.nil ?_
         refine GQ.thenN ?_
         refine GC.ret ?_
         refine GQ.ret1 (.inl rfl) rfl rfl ?_
         intro w' hs
         exact ⟨rfl, hs.old_below (i := 3) rfl⟩
       ·
         replace h116 := str_ne h116
         refine GL.gives rfl rfl rfl (Gives.move rfl rfl) ?_
         refine GL.gives rfl rfl rfl (Gives.move rfl rfl) ?_
         refine GL.gives rfl rfl rfl (Gives.eqs rfl rfl rfl) ?_
         refine GL.gives rfl rfl rfl (Gives.move rfl rfl) ?_
         refine GL.learn (t := 120) (v' := .bool true) rfl (congrArg Value.bool (by rw [hE h116]; simp)) ?_
         refine GL.gives rfl rfl rfl (Gives.move rfl rfl) ?_
         refine GL.gives rfl rfl rfl (Gives.move rfl rfl) ?_
         refine GL.gives rfl rfl rfl (Gives.eqb Try.underlying4 rfl rfl rfl) ?_
         refine GL.gives rfl rfl rfl (Gives.pickT rfl rfl rfl rfl) ?_
         refine GL.gives rfl rfl rfl (Gives.pickF rfl rfl rfl rfl) ?_
         refine GL.gives rfl rfl rfl (Gives.pickT rfl rfl rfl rfl) ?_
         refine GL.gives rfl rfl rfl (Gives.move rfl rfl) ?_
         refine GL.learn (t := 127) (v' := .bool true) rfl (congrArg Value.bool (by rw [hE h116]; simp)) ?_
         refine GL.does [] rfl rfl rfl rfl (Does.call rfl rfl Try.func6 rfl rfl (awake_con w.heap.size _ (Bs hB))) fun _ _ => ?_
         refine GL.gives rfl rfl rfl (Gives.pickT rfl rfl rfl rfl) ?_
         refine GL.gives rfl rfl rfl (Gives.assign rfl rfl) ?_
         refine GL.nil ?_
         refine GQ.thenN ?_
         refine GC.ret ?_
         refine GQ.ret1 (.inl rfl) rfl rfl ?_
         intro w' hs
         exact ⟨rfl, hs.old_below (i := 3) rfl⟩
 ·
   obtain rfl : m = m1 := (hBq hz).symm
   obtain ⟨hst0, hA0⟩ := newT_nil h
   refine GC.region ?_
   refine GL.gives rfl rfl rfl (Gives.move rfl rfl) ?_
   refine GL.gives rfl rfl rfl (Gives.eqi rfl rfl rfl) ?_
   refine GL.gives rfl rfl rfl (Gives.move rfl rfl) ?_
   refine GL.learn (t := 54) (v' := .bool false) rfl (congrArg Value.bool (beq_false_of_ne hz)) ?_
   refine GL.skip rfl rfl rfl ?_
   refine GL.skip rfl rfl rfl ?_
   refine GL.skip rfl rfl rfl ?_
   refine GL.skip rfl rfl rfl ?_
   refine GL.skip rfl rfl rfl ?_
   refine GL.skip rfl rfl rfl ?_
   refine GL.skip rfl rfl rfl ?_
   refine GL.gives rfl rfl rfl (Gives.pickF rfl rfl rfl rfl) ?_
   refine GL.gives rfl rfl rfl (Gives.move rfl rfl) ?_
   refine GL.gives rfl rfl rfl (Gives.move rfl rfl) ?_
   refine GL.gives rfl rfl rfl (Gives.nei rfl rfl rfl) ?_
   refine GL.gives rfl rfl rfl (Gives.move rfl rfl) ?_
   refine GL.learn (t := 66) (v' := .bool true) rfl (congrArg Value.bool (bne_iff_ne.2 hz)) ?_
   refine GL.gives rfl rfl rfl (Gives.move rfl rfl) ?_
   refine GL.does [0, 0, 0] rfl rfl rfl rfl (Does.call rfl rfl Try.func12 rfl rfl (shown_con w.heap.size g vl1 al m hm _ (Bs hB))) fun ⟨nv, na⟩ _ => ?_
   refine GL.gives rfl rfl rfl (Gives.move rfl rfl) ?_
   refine GL.does [] rfl rfl rfl rfl (Does.call rfl rfl Try.func16 rfl rfl (first_con w.heap.size A1 n1 c1 l m h _ (Bs hB) (shows_C (i := 5) hX1 rfl))) fun fv _ => ?_
   refine GL.know (row_slice (i := 1) rfl) fun ⟨nA, nc, nh, _⟩ => ?_
   subst nh
   refine GL.know (row_slice (i := 2) rfl) fun ⟨dA, dc, dh, _⟩ => ?_
   subst dh
   refine GL.know (row_slice (i := 0) rfl) fun ⟨fA, fc, fh, _⟩ => ?_
   subst fh
   refine GL.does [] rfl rfl rfl rfl (Does.call rfl rfl Try.func11 rfl rfl (same_to w.heap.size nA dA fA nc dc fc m hm hst0 hA0 _ (Bs hB) (row_C (i := 1) rfl) (row_C (i := 2) rfl) (row_C (i := 0) rfl))) fun _ _ => ?_
   refine GL.gives rfl rfl rfl (Gives.not rfl rfl) ?_
   refine GL.gives rfl rfl rfl (Gives.pickT rfl rfl rfl rfl) ?_
   refine GL.gives rfl rfl rfl (Gives.pickF rfl rfl rfl rfl) ?_
   refine GL.gives rfl rfl rfl (Gives.move rfl rfl) ?_
   refine GL.gives rfl rfl rfl (Gives.move rfl rfl) ?_
   refine GL.gives rfl rfl rfl (Gives.move rfl rfl) ?_
   refine GL.gives rfl rfl rfl (Gives.nes rfl rfl rfl) ?_
   refine GL.gives rfl rfl rfl (Gives.move rfl rfl) ?_
   refine GL.split (t := 79) rfl (fun h79 => ?_) (fun h79 => ?_)
   ·
     replace h79 := str_neq h79
     refine GL.gives rfl rfl rfl (Gives.move rfl rfl) ?_
     refine GL.gives rfl rfl rfl (Gives.move rfl rfl) ?_
     refine GL.gives rfl rfl rfl (Gives.nes rfl rfl rfl) ?_
     refine GL.gives rfl rfl rfl (Gives.move rfl rfl) ?_
     refine GL.learn (t := 83) (v' := .bool false) rfl (congrArg Value.bool (by first | (rw [hCo h79]; simp; done) | simp)) ?_
     refine GL.gives rfl rfl rfl (Gives.move rfl rfl) ?_
     refine GL.gives rfl rfl rfl (Gives.move rfl rfl) ?_
     refine GL.gives rfl rfl rfl (Gives.neb Try.underlying4 rfl rfl rfl) ?_
     refine GL.gives rfl rfl rfl (Gives.pickF rfl rfl rfl rfl) ?_
     refine GL.gives rfl rfl rfl (Gives.pickT rfl rfl rfl rfl) ?_
     refine GL.gives rfl rfl rfl (Gives.pickF rfl rfl rfl rfl) ?_
     refine GL.nil ?_
     refine GQ.thenN ?_
     refine GC.condF rfl (by first | (rw [hCo h79]; simp; done) | simp) ?_
     refine GC.skip ?_
     refine GQ.thenN ?_
     refine GC.seq ?_
     refine GC.region ?_
     refine GL.gives rfl rfl rfl (Gives.move rfl rfl) ?_
     refine GL.gives rfl rfl rfl (Gives.move rfl rfl) ?_
     refine GL.does [3, 3, 3] rfl rfl rfl rfl (Does.call rfl rfl Try.func17 rfl rfl (unset_to w.heap.size g vl1 al m hm1 a m2 hu _ (Bs hB))) fun vl2 _ => ?_
     refine GL.nil ?_
     refine GQ.thenN ?_
     refine GC.seq ?_
     refine GC.region ?_
     refine GL.gives rfl rfl rfl (Gives.move rfl rfl) ?_
     refine GL.gives rfl rfl rfl (Gives.move rfl rfl) ?_
     refine GL.does [0, 0, 0] rfl rfl rfl rfl (Does.call rfl rfl Try.func13 rfl rfl (get_con w.heap.size g vl2 al m2 hm2 a ha _ (Bs hB))) fun _ _ => ?_
     refine GL.gives rfl rfl rfl (Gives.move rfl rfl) ?_
     refine GL.gives rfl rfl rfl (Gives.extract (v := .string (m2.get a).1) rfl rfl rfl) ?_
     refine GL.gives rfl rfl rfl (Gives.extract (v := .bool (m2.get a).2) rfl rfl rfl) ?_
     refine GL.gives rfl rfl rfl (Gives.assign rfl rfl) ?_
     refine GL.gives rfl rfl rfl (Gives.assign rfl rfl) ?_
     refine GL.nil ?_
     refine GQ.thenN ?_
     refine GC.seq ?_
     refine GC.region ?_
     refine GL.gives rfl rfl rfl (Gives.move rfl rfl) ?_
     refine GL.gives rfl rfl rfl (Gives.move rfl rfl) ?_
     refine GL.does [0, 0, 0] rfl rfl rfl rfl (Does.call rfl rfl Try.func13 rfl rfl (get_con w.heap.size g vl2 al m2 hm2 o ho _ (Bs hB))) fun _ _ => ?_
     refine GL.gives rfl rfl rfl (Gives.move rfl rfl) ?_
     refine GL.gives rfl rfl rfl (Gives.extract (v := .string (m2.get o).1) rfl rfl rfl) ?_
     refine GL.gives rfl rfl rfl (Gives.extract (v := .bool (m2.get o).2) rfl rfl rfl) ?_
     refine GL.gives rfl rfl rfl (Gives.assign rfl rfl) ?_
     refine GL.gives rfl rfl rfl (Gives.assign rfl rfl) ?_
     refine GL.nil ?_
     refine GQ.thenN ?_
     refine GC.seq ?_
     refine GC.region ?_
     refine GL.gives rfl rfl rfl (Gives.move rfl rfl) ?_
     refine GL.gives rfl rfl rfl (Gives.not rfl rfl) ?_
     refine GL.gives rfl rfl rfl (Gives.move rfl rfl) ?_
     refine GL.split (t := 107) rfl (fun h107 => ?_) (fun h107 => ?_)
     ·
       have _ := h107
       refine GL.skip rfl rfl rfl ?_
       refine GL.skip rfl rfl rfl ?_
       refine GL.skip rfl rfl rfl ?_
       refine GL.gives rfl rfl rfl (Gives.pickT rfl rfl rfl rfl) ?_
       refine GL.gives rfl rfl rfl (Gives.move rfl rfl) ?_
       refine GL.gives rfl rfl rfl (Gives.move rfl rfl) ?_
       refine GL.gives rfl rfl rfl (Gives.move rfl rfl) ?_
       refine GL.gives rfl rfl rfl (Gives.eqs rfl rfl rfl) ?_
       refine GL.gives rfl rfl rfl (Gives.move rfl rfl) ?_
       refine GL.split (t := 116) rfl (fun h116 => ?_) (fun h116 => ?_)
       ·
         replace h116 := str_eq.1 h116
         refine GL.skip rfl rfl rfl ?_
         refine GL.skip rfl rfl rfl ?_
         refine GL.skip rfl rfl rfl ?_
         refine GL.skip rfl rfl rfl ?_
         refine GL.skip rfl rfl rfl ?_
         refine GL.skip rfl rfl rfl ?_
         refine GL.skip rfl rfl rfl ?_
         refine GL.skip rfl rfl rfl ?_
         refine GL.gives rfl rfl rfl (Gives.pickT rfl rfl rfl rfl) ?_
         refine GL.gives rfl rfl rfl (Gives.pickT rfl rfl rfl rfl) ?_
         refine GL.gives rfl rfl rfl (Gives.move rfl rfl) ?_
         refine GL.does [] rfl rfl rfl rfl (Does.call rfl rfl Try.func6 rfl rfl (awake_con w.heap.size _ (Bs hB))) fun _ _ => ?_
         refine GL.gives rfl rfl rfl (Gives.pickT rfl rfl rfl rfl) ?_
         refine GL.gives rfl rfl rfl (Gives.assign rfl rfl) ?_
         refine GL.nil ?_
         refine GQ.thenN ?_
         refine GC.ret ?_
         refine GQ.ret1 (.inl rfl) rfl rfl ?_
         intro w' hs
         exact ⟨rfl, hs.old_below (i := 6) rfl⟩
       ·
         replace h116 := str_ne h116
         refine GL.gives rfl rfl rfl (Gives.move rfl rfl) ?_
         refine GL.gives rfl rfl rfl (Gives.move rfl rfl) ?_
         refine GL.gives rfl rfl rfl (Gives.eqs rfl rfl rfl) ?_
         refine GL.gives rfl rfl rfl (Gives.move rfl rfl) ?_
         refine GL.learn (t := 120) (v' := .bool true) rfl (congrArg Value.bool (by rw [hE h116]; simp)) ?_
         refine GL.gives rfl rfl rfl (Gives.move rfl rfl) ?_
         refine GL.gives rfl rfl rfl (Gives.move rfl rfl) ?_
         refine GL.gives rfl rfl rfl (Gives.eqb Try.underlying4 rfl rfl rfl) ?_
         refine GL.gives rfl rfl rfl (Gives.pickT rfl rfl rfl rfl) ?_
         refine GL.gives rfl rfl rfl (Gives.pickF rfl rfl rfl rfl) ?_
         refine GL.gives rfl rfl rfl (Gives.pickT rfl rfl rfl rfl) ?_
         refine GL.gives rfl rfl rfl (Gives.move rfl rfl) ?_
         refine GL.learn (t := 127) (v' := .bool true) rfl (congrArg Value.bool (by rw [hE h116]; simp)) ?_
         refine GL.does [] rfl rfl rfl rfl (Does.call rfl rfl Try.func6 rfl rfl (awake_con w.heap.size _ (Bs hB))) fun _ _ => ?_
         refine GL.gives rfl rfl rfl (Gives.pickT rfl rfl rfl rfl) ?_
         refine GL.gives rfl rfl rfl (Gives.assign rfl rfl) ?_
         refine GL.nil ?_
         refine GQ.thenN ?_
         refine GC.ret ?_
         refine GQ.ret1 (.inl rfl) rfl rfl ?_
         intro w' hs
         exact ⟨rfl, hs.old_below (i := 6) rfl⟩
     ·
       have h107' : (m2.get a).2 = true := by simpa using h107
       refine GL.gives rfl rfl rfl (Gives.move rfl rfl) ?_
       refine GL.does [] rfl rfl rfl rfl (Does.call rfl rfl Try.func18 rfl rfl (ref_Name_con a _)) fun _ _ => ?_
       refine GL.gives rfl rfl rfl (Gives.not rfl rfl) ?_
       refine GL.gives rfl rfl rfl (Gives.pickF rfl rfl rfl rfl) ?_
       refine GL.gives rfl rfl rfl (Gives.move rfl rfl) ?_
       refine GL.learn (t := 112) (v' := .bool true) rfl (congrArg Value.bool (by rw [Bool.not_eq_true']; exact Bool.eq_false_iff.2 (fun hn => by rw [hD hn] at h107'; cases h107'))) ?_
       refine GL.gives rfl rfl rfl (Gives.move rfl rfl) ?_
       refine GL.gives rfl rfl rfl (Gives.move rfl rfl) ?_
       refine GL.gives rfl rfl rfl (Gives.eqs rfl rfl rfl) ?_
       refine GL.gives rfl rfl rfl (Gives.move rfl rfl) ?_
       refine GL.split (t := 116) rfl (fun h116 => ?_) (fun h116 => ?_)
       ·
         replace h116 := str_eq.1 h116
         refine GL.skip rfl rfl rfl ?_
         refine GL.skip rfl rfl rfl ?_
         refine GL.skip rfl rfl rfl ?_
         refine GL.skip rfl rfl rfl ?_
         refine GL.skip rfl rfl rfl ?_
         refine GL.skip rfl rfl rfl ?_
         refine GL.skip rfl rfl rfl ?_
         refine GL.skip rfl rfl rfl ?_
         refine GL.gives rfl rfl rfl (Gives.pickT rfl rfl rfl rfl) ?_
         refine GL.gives rfl rfl rfl (Gives.pickT rfl rfl rfl rfl) ?_
         refine GL.gives rfl rfl rfl (Gives.move rfl rfl) ?_
         refine GL.does [] rfl rfl rfl rfl (Does.call rfl rfl Try.func6 rfl rfl (awake_con w.heap.size _ (Bs hB))) fun _ _ => ?_
         refine GL.gives rfl rfl rfl (Gives.pickT rfl rfl rfl rfl) ?_
         refine GL.gives rfl rfl rfl (Gives.assign rfl rfl) ?_
         refine GL.nil ?_
         refine GQ.thenN ?_
         refine GC.ret ?_
         refine GQ.ret1 (.inl rfl) rfl rfl ?_
         intro w' hs
         exact ⟨rfl, hs.old_below (i := 6) rfl⟩
       ·
         replace h116 := str_ne h116
         refine GL.gives rfl rfl rfl (Gives.move rfl rfl) ?_
         refine GL.gives rfl rfl rfl (Gives.move rfl rfl) ?_
         refine GL.gives rfl rfl rfl (Gives.eqs rfl rfl rfl) ?_
         refine GL.gives rfl rfl rfl (Gives.move rfl rfl) ?_
         refine GL.learn (t := 120) (v' := .bool true) rfl (congrArg Value.bool (by rw [hE h116]; simp)) ?_
         refine GL.gives rfl rfl rfl (Gives.move rfl rfl) ?_
         refine GL.gives rfl rfl rfl (Gives.move rfl rfl) ?_
         refine GL.gives rfl rfl rfl (Gives.eqb Try.underlying4 rfl rfl rfl) ?_
         refine GL.gives rfl rfl rfl (Gives.pickT rfl rfl rfl rfl) ?_
         refine GL.gives rfl rfl rfl (Gives.pickF rfl rfl rfl rfl) ?_
         refine GL.gives rfl rfl rfl (Gives.pickT rfl rfl rfl rfl) ?_
         refine GL.gives rfl rfl rfl (Gives.move rfl rfl) ?_
         refine GL.learn (t := 127) (v' := .bool true) rfl (congrArg Value.bool (by rw [hE h116]; simp)) ?_
         refine GL.does [] rfl rfl rfl rfl (Does.call rfl rfl Try.func6 rfl rfl (awake_con w.heap.size _ (Bs hB))) fun _ _ => ?_
         refine GL.gives rfl rfl rfl (Gives.pickT rfl rfl rfl rfl) ?_
         refine GL.gives rfl rfl rfl (Gives.assign rfl rfl) ?_
         refine GL.nil ?_
         refine GQ.thenN ?_
         refine GC.ret ?_
         refine GQ.ret1 (.inl rfl) rfl rfl ?_
         intro w' hs
         exact ⟨rfl, hs.old_below (i := 6) rfl⟩
   ·
     replace h79 := str_nne h79
     refine GL.skip rfl rfl rfl ?_
     refine GL.skip rfl rfl rfl ?_
     refine GL.skip rfl rfl rfl ?_
     refine GL.skip rfl rfl rfl ?_
     refine GL.skip rfl rfl rfl ?_
     refine GL.skip rfl rfl rfl ?_
     refine GL.skip rfl rfl rfl ?_
     refine GL.skip rfl rfl rfl ?_
     refine GL.gives rfl rfl rfl (Gives.pickF rfl rfl rfl rfl) ?_
     refine GL.gives rfl rfl rfl (Gives.pickF rfl rfl rfl rfl) ?_
     refine GL.nil ?_
     refine GQ.thenN ?_
     refine GC.condF rfl rfl ?_
     refine GC.skip ?_
     refine GQ.thenN ?_
     refine GC.seq ?_
     refine GC.region ?_
     refine GL.gives rfl rfl rfl (Gives.move rfl rfl) ?_
     refine GL.gives rfl rfl rfl (Gives.move rfl rfl) ?_
     refine GL.does [3, 3, 3] rfl rfl rfl rfl (Does.call rfl rfl Try.func17 rfl rfl (unset_to w.heap.size g vl1 al m hm1 a m2 hu _ (Bs hB))) fun vl2 _ => ?_
     refine GL.nil ?_
     refine GQ.thenN ?_
     refine GC.seq ?_
     refine GC.region ?_
     refine GL.gives rfl rfl rfl (Gives.move rfl rfl) ?_
     refine GL.gives rfl rfl rfl (Gives.move rfl rfl) ?_
     refine GL.does [0, 0, 0] rfl rfl rfl rfl (Does.call rfl rfl Try.func13 rfl rfl (get_con w.heap.size g vl2 al m2 hm2 a ha _ (Bs hB))) fun _ _ => ?_
     refine GL.gives rfl rfl rfl (Gives.move rfl rfl) ?_
     refine GL.gives rfl rfl rfl (Gives.extract (v := .string (m2.get a).1) rfl rfl rfl) ?_
     refine GL.gives rfl rfl rfl (Gives.extract (v := .bool (m2.get a).2) rfl rfl rfl) ?_
     refine GL.gives rfl rfl rfl (Gives.assign rfl rfl) ?_
     refine GL.gives rfl rfl rfl (Gives.assign rfl rfl) ?_
     refine GL.nil ?_
     refine GQ.thenN ?_
     refine GC.seq ?_
     refine GC.region ?_
     refine GL.gives rfl rfl rfl (Gives.move rfl rfl) ?_
     refine GL.gives rfl rfl rfl (Gives.move rfl rfl) ?_
     refine GL.does [0, 0, 0] rfl rfl rfl rfl (Does.call rfl rfl Try.func13 rfl rfl (get_con w.heap.size g vl2 al m2 hm2 o ho _ (Bs hB))) fun _ _ => ?_
     refine GL.gives rfl rfl rfl (Gives.move rfl rfl) ?_
     refine GL.gives rfl rfl rfl (Gives.extract (v := .string (m2.get o).1) rfl rfl rfl) ?_
     refine GL.gives rfl rfl rfl (Gives.extract (v := .bool (m2.get o).2) rfl rfl rfl) ?_
     refine GL.gives rfl rfl rfl (Gives.assign rfl rfl) ?_
     refine GL.gives rfl rfl rfl (Gives.assign rfl rfl) ?_
     refine GL.nil ?_
     refine GQ.thenN ?_
     refine GC.seq ?_
     refine GC.region ?_
     refine GL.gives rfl rfl rfl (Gives.move rfl rfl) ?_
     refine GL.gives rfl rfl rfl (Gives.not rfl rfl) ?_
     refine GL.gives rfl rfl rfl (Gives.move rfl rfl) ?_
     refine GL.split (t := 107) rfl (fun h107 => ?_) (fun h107 => ?_)
     ·
       have _ := h107
       refine GL.skip rfl rfl rfl ?_
       refine GL.skip rfl rfl rfl ?_
       refine GL.skip rfl rfl rfl ?_
       refine GL.gives rfl rfl rfl (Gives.pickT rfl rfl rfl rfl) ?_
       refine GL.gives rfl rfl rfl (Gives.move rfl rfl) ?_
       refine GL.gives rfl rfl rfl (Gives.move rfl rfl) ?_
       refine GL.gives rfl rfl rfl (Gives.move rfl rfl) ?_
       refine GL.gives rfl rfl rfl (Gives.eqs rfl rfl rfl) ?_
       refine GL.gives rfl rfl rfl (Gives.move rfl rfl) ?_
       refine GL.split (t := 116) rfl (fun h116 => ?_) (fun h116 => ?_)
       ·
         replace h116 := str_eq.1 h116
         refine GL.skip rfl rfl rfl ?_
         refine GL.skip rfl rfl rfl ?_
         refine GL.skip rfl rfl rfl ?_
         refine GL.skip rfl rfl rfl ?_
         refine GL.skip rfl rfl rfl ?_
         refine GL.skip rfl rfl rfl ?_
         refine GL.skip rfl rfl rfl ?_
         refine GL.skip rfl rfl rfl ?_
         refine GL.gives rfl rfl rfl (Gives.pickT rfl rfl rfl rfl) ?_
         refine GL.gives rfl rfl rfl (Gives.pickT rfl rfl rfl rfl) ?_
         refine GL.gives rfl rfl rfl (Gives.move rfl rfl) ?_
         refine GL.does [] rfl rfl rfl rfl (Does.call rfl rfl Try.func6 rfl rfl (awake_con w.heap.size _ (Bs hB))) fun _ _ => ?_
         refine GL.gives rfl rfl rfl (Gives.pickT rfl rfl rfl rfl) ?_
         refine GL.gives rfl rfl rfl (Gives.assign rfl rfl) ?_
         refine GL.nil ?_
         refine GQ.thenN ?_
         refine GC.ret ?_
         refine GQ.ret1 (.inl rfl) rfl rfl ?_
         intro w' hs
         exact ⟨rfl, hs.old_below (i := 6) rfl⟩
       ·
         replace h116 := str_ne h116
         refine GL.gives rfl rfl rfl (Gives.move rfl rfl) ?_
         refine GL.gives rfl rfl rfl (Gives.move rfl rfl) ?_
         refine GL.gives rfl rfl rfl (Gives.eqs rfl rfl rfl) ?_
         refine GL.gives rfl rfl rfl (Gives.move rfl rfl) ?_
         refine GL.learn (t := 120) (v' := .bool true) rfl (congrArg Value.bool (by rw [hE h116]; simp)) ?_
         refine GL.gives rfl rfl rfl (Gives.move rfl rfl) ?_
         refine GL.gives rfl rfl rfl (Gives.move rfl rfl) ?_
         refine GL.gives rfl rfl rfl (Gives.eqb Try.underlying4 rfl rfl rfl) ?_
         refine GL.gives rfl rfl rfl (Gives.pickT rfl rfl rfl rfl) ?_
         refine GL.gives rfl rfl rfl (Gives.pickF rfl rfl rfl rfl) ?_
         refine GL.gives rfl rfl rfl (Gives.pickT rfl rfl rfl rfl) ?_
         refine GL.gives rfl rfl rfl (Gives.move rfl rfl) ?_
         refine GL.learn (t := 127) (v' := .bool true) rfl (congrArg Value.bool (by rw [hE h116]; simp)) ?_
         refine GL.does [] rfl rfl rfl rfl (Does.call rfl rfl Try.func6 rfl rfl (awake_con w.heap.size _ (Bs hB))) fun _ _ => ?_
         refine GL.gives rfl rfl rfl (Gives.pickT rfl rfl rfl rfl) ?_
         refine GL.gives rfl rfl rfl (Gives.assign rfl rfl) ?_
         refine GL.nil ?_
         refine GQ.thenN ?_
         refine GC.ret ?_
         refine GQ.ret1 (.inl rfl) rfl rfl ?_
         intro w' hs
         exact ⟨rfl, hs.old_below (i := 6) rfl⟩
     ·
       have h107' : (m2.get a).2 = true := by simpa using h107
       refine GL.gives rfl rfl rfl (Gives.move rfl rfl) ?_
       refine GL.does [] rfl rfl rfl rfl (Does.call rfl rfl Try.func18 rfl rfl (ref_Name_con a _)) fun _ _ => ?_
       refine GL.gives rfl rfl rfl (Gives.not rfl rfl) ?_
       refine GL.gives rfl rfl rfl (Gives.pickF rfl rfl rfl rfl) ?_
       refine GL.gives rfl rfl rfl (Gives.move rfl rfl) ?_
       refine GL.learn (t := 112) (v' := .bool true) rfl (congrArg Value.bool (by rw [Bool.not_eq_true']; exact Bool.eq_false_iff.2 (fun hn => by rw [hD hn] at h107'; cases h107'))) ?_
       refine GL.gives rfl rfl rfl (Gives.move rfl rfl) ?_
       refine GL.gives rfl rfl rfl (Gives.move rfl rfl) ?_
       refine GL.gives rfl rfl rfl (Gives.eqs rfl rfl rfl) ?_
       refine GL.gives rfl rfl rfl (Gives.move rfl rfl) ?_
       refine GL.split (t := 116) rfl (fun h116 => ?_) (fun h116 => ?_)
       ·
         replace h116 := str_eq.1 h116
         refine GL.skip rfl rfl rfl ?_
         refine GL.skip rfl rfl rfl ?_
         refine GL.skip rfl rfl rfl ?_
         refine GL.skip rfl rfl rfl ?_
         refine GL.skip rfl rfl rfl ?_
         refine GL.skip rfl rfl rfl ?_
         refine GL.skip rfl rfl rfl ?_
         refine GL.skip rfl rfl rfl ?_
         refine GL.gives rfl rfl rfl (Gives.pickT rfl rfl rfl rfl) ?_
         refine GL.gives rfl rfl rfl (Gives.pickT rfl rfl rfl rfl) ?_
         refine GL.gives rfl rfl rfl (Gives.move rfl rfl) ?_
         refine GL.does [] rfl rfl rfl rfl (Does.call rfl rfl Try.func6 rfl rfl (awake_con w.heap.size _ (Bs hB))) fun _ _ => ?_
         refine GL.gives rfl rfl rfl (Gives.pickT rfl rfl rfl rfl) ?_
         refine GL.gives rfl rfl rfl (Gives.assign rfl rfl) ?_
         refine GL.nil ?_
         refine GQ.thenN ?_
         refine GC.ret ?_
         refine GQ.ret1 (.inl rfl) rfl rfl ?_
         intro w' hs
         exact ⟨rfl, hs.old_below (i := 6) rfl⟩
       ·
         replace h116 := str_ne h116
         refine GL.gives rfl rfl rfl (Gives.move rfl rfl) ?_
         refine GL.gives rfl rfl rfl (Gives.move rfl rfl) ?_
         refine GL.gives rfl rfl rfl (Gives.eqs rfl rfl rfl) ?_
         refine GL.gives rfl rfl rfl (Gives.move rfl rfl) ?_
         refine GL.learn (t := 120) (v' := .bool true) rfl (congrArg Value.bool (by rw [hE h116]; simp)) ?_
         refine GL.gives rfl rfl rfl (Gives.move rfl rfl) ?_
         refine GL.gives rfl rfl rfl (Gives.move rfl rfl) ?_
         refine GL.gives rfl rfl rfl (Gives.eqb Try.underlying4 rfl rfl rfl) ?_
         refine GL.gives rfl rfl rfl (Gives.pickT rfl rfl rfl rfl) ?_
         refine GL.gives rfl rfl rfl (Gives.pickF rfl rfl rfl rfl) ?_
         refine GL.gives rfl rfl rfl (Gives.pickT rfl rfl rfl rfl) ?_
         refine GL.gives rfl rfl rfl (Gives.move rfl rfl) ?_
         refine GL.learn (t := 127) (v' := .bool true) rfl (congrArg Value.bool (by rw [hE h116]; simp)) ?_
         refine GL.does [] rfl rfl rfl rfl (Does.call rfl rfl Try.func6 rfl rfl (awake_con w.heap.size _ (Bs hB))) fun _ _ => ?_
         refine GL.gives rfl rfl rfl (Gives.pickT rfl rfl rfl rfl) ?_
         refine GL.gives rfl rfl rfl (Gives.assign rfl rfl) ?_
         refine GL.nil ?_
         refine GQ.thenN ?_
         refine GC.ret ?_
         refine GQ.ret1 (.inl rfl) rfl rfl ?_
         intro w' hs
         exact ⟨rfl, hs.old_below (i := 6) rfl⟩

theorem sets_all (w : World) (A1 : Option Addr) (n1 c1 : Nat) (l : List VT) (a b o : ByteArray) (hC1 : kV.C w A1 n1 l) (ha : a.size ≤ 9223372036854775806) (ho : o.size ≤ 9223372036854775806) : Calls Try.prog 4 #[.slice A1 n1 c1, .string a, .string b, .string o] w (fun e w' => e = .returned (.bool true) ∧ Below w.heap.size w w') :=
  sets w A1 n1 c1 l a b o hC1 ha ho (sets_no w A1 n1 c1 l a b o hC1 ha ho) (sets_yes w A1 n1 c1 l a b o hC1 ha ho)
set_option maxRecDepth 100000 in
theorem opens_var : Opens Try.prog 26 kV (fun x => x.1.size ≤ maxLen ∧ x.2.size ≤ maxLen) := opens_struct Try.underlying26 (by kernel_rfl) (opens_more rfl (opens_string Try.underlying9) (opens_last (by kernel_rfl) (opens_string Try.underlying9)))
end Go.Proofs.Yteckdfgllipilaa.VZ
