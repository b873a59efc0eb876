/- The document's table of variables. -/
import Derived.Test.YteckdfgllipilaaVS
namespace Go.Proofs.Yteckdfgllipilaa.VR
open Go.RowKit Go.Proofs.YteckdfgllipilaaW.PrintWords Go.Proofs.YteckdfgllipilaaW.PrintLast Go.Proofs.YteckdfgllipilaaS Go.Proofs.Yteckdfgllipilaa.NU Go.Proofs.Yteckdfgllipilaa.NV Go.Proofs.Yteckdfgllipilaa.NW Go.Proofs.Yteckdfgllipilaa.VP Go.Proofs.Yteckdfgllipilaa.VT Go.Proofs.Yteckdfgllipilaa.VU Go.Proofs.Yteckdfgllipilaa.VI Go.Proofs.Yteckdfgllipilaa.VD Go.Proofs.Yteckdfgllipilaa.VS

theorem cV {w : World} {mm : Nat} {p : Addr} {xs : List VT} (h : kV.C w (some p) mm xs) (k : Int) (h0 : 0 ≤ k) (h1 : k < mm) : w.cell? (p.add (k.toNat * 2)) = some (.string (rdOf zV xs k).1) ∧ w.cell? ⟨(p.add (k.toNat * 2)).block, (p.add (k.toNat * 2)).off + 1, none⟩ = some (.string (rdOf zV xs k).2) := by
  obtain ⟨ad, c, h2, h3, h4, h5⟩ := h.get_ zV k h0 h1
  obtain rfl := Option.some.inj h2
  have h6 := kV_encs w _ c h4
  subst h6
  have e0 := h5 0 _ rfl
  have e1 := h5 1 _ rfl
  rw [add_field _ _ 1 (by decide)] at e1
  exact ⟨e0, e1⟩
theorem rd_mem {V : List VT} {k : Int} (h0 : 0 ≤ k) (h1 : k < V.length) : rdOf zV V k ∈ V := by
  obtain ⟨h, e⟩ := rd_at h0 h1
  rw [e]
  exact List.getElem_mem h
theorem no_name {V : List VT} {s : ByteArray} (h : ∀ j : Int, 0 ≤ j → j < V.length → (rdOf zV V j).1 ≠ s) : ∀ x ∈ V, x.1 ≠ s := fun x hx => by
  obtain ⟨j, hj, rfl⟩ := List.mem_iff_getElem.1 hx
  have := h j (by omega) (by omega)
  simpa [rdOf, List.getD_eq_getElem?_getD, List.getElem?_eq_getElem hj] using this
def Placed (V : List VT) (s : ByteArray) (i : Int) : Prop := (0 ≤ i ∧ i < V.length ∧ (rdOf zV V i).1 = s) ∨ (i = -1 ∧ ∀ x ∈ V, x.1 ≠ s)
theorem placed_has {V : List VT} {s : ByteArray} {i : Int} (h : Placed V s i) : has V s = false ↔ i < 0 := by
  rcases h with ⟨h0, h1, h2⟩ | ⟨rfl, h2⟩
  · have : has V s = true := has_iff.2 ⟨_, rd_mem h0 h1, h2⟩
    rw [this]
    constructor
    · intro h; cases h
    · intro h; omega
  · refine ⟨fun _ => by omega, fun _ => ?_⟩
    rw [← Bool.not_eq_true, has_iff]
    rintro ⟨x, hx, he⟩
    exact h2 x hx he
/-! ### a variable set, as the document does it -/
theorem put_all : ∀ {V : List VT} {s v : ByteArray}, (∀ x ∈ V, slt x.1 s) → putV V s v = V ++ [(s, v)]
  | [], s, v, _ => rfl
  | x :: V, s, v, h => by
    rw [putV, if_pos (h x List.mem_cons_self), put_all (fun y hy => h y (List.mem_cons_of_mem _ hy))]
    rfl
theorem put_first : ∀ {V : List VT} {x : VT} {s v : ByteArray}, (∀ y ∈ V, slt y.1 s) → ¬ slt x.1 s → putV (V ++ [x]) s v = if x.1 = s then V ++ [(s, v)] else (V ++ [(s, v)]) ++ [x]
  | [], x, s, v, _, hx => by
    show putV [x] s v = _
    rw [putV, if_neg hx]
    rfl
  | y :: V, x, s, v, h, hx => by
    rw [List.cons_append, putV, if_pos (h y List.mem_cons_self), put_first (fun z hz => h z (List.mem_cons_of_mem _ hz)) hx]
    split <;> rfl
theorem put_later : ∀ {V : List VT} {x : VT} {s v : ByteArray}, (∃ y ∈ V, ¬ slt y.1 s) → putV (V ++ [x]) s v = putV V s v ++ [x]
  | [], x, s, v, h => by obtain ⟨y, hy, _⟩ := h; cases hy
  | y :: V, x, s, v, h => by
    rw [List.cons_append, putV, putV]
    by_cases hy : slt y.1 s
    · have : ∃ z ∈ V, ¬ slt z.1 s := by
        obtain ⟨z, hz, hn⟩ := h
        rcases List.mem_cons.1 hz with rfl | hz
        · exact absurd hy hn
        · exact ⟨z, hz, hn⟩
      rw [if_pos hy, if_pos hy, put_later this]
      rfl
    · rw [if_neg hy, if_neg hy]
      split <;> rfl
/-- How far the document's setting is. -/
def Sat (V : List VT) (s v : ByteArray) (k : Nat) (done : Bool) (acc : List VT) : Prop := (done = false → (∀ x ∈ V.take k, slt x.1 s) ∧ acc = V.take k) ∧ (done = true → (∃ x ∈ V.take k, ¬ slt x.1 s) ∧ acc = putV (V.take k) s v)
theorem take_next {V : List VT} {k : Int} (h0 : 0 ≤ k) (h1 : k < V.length) : V.take (k + 1).toNat = V.take k.toNat ++ [rdOf zV V k] := by
  obtain ⟨h, e⟩ := rd_at h0 h1
  rw [e, show (k + 1).toNat = k.toNat + 1 by omega, List.take_succ_eq_append_getElem h]
theorem sat_less {V : List VT} {s v : ByteArray} {k : Int} {acc : List VT} (h : Sat V s v k.toNat false acc) (h0 : 0 ≤ k) (h1 : k < V.length) (hx : slt (rdOf zV V k).1 s) : Sat V s v (k + 1).toNat false (acc ++ [rdOf zV V k]) := by
  obtain ⟨h2, h3⟩ := h.1 rfl
  refine ⟨fun _ => ?_, fun h => by cases h⟩
  rw [take_next h0 h1, h3]
  refine ⟨fun x hx' => ?_, rfl⟩
  rcases List.mem_append.1 hx' with hx' | hx'
  · exact h2 x hx'
  · obtain rfl := List.mem_singleton.1 hx'
    exact hx
theorem sat_first {V : List VT} {s v : ByteArray} {k : Int} {acc : List VT} (h : Sat V s v k.toNat false acc) (h0 : 0 ≤ k) (h1 : k < V.length) (hx : ¬ slt (rdOf zV V k).1 s) : Sat V s v (k + 1).toNat true (if (rdOf zV V k).1 = s then acc ++ [(s, v)] else (acc ++ [(s, v)]) ++ [rdOf zV V k]) := by
  obtain ⟨h2, h3⟩ := h.1 rfl
  refine ⟨fun h => (by cases h), fun _ => ?_⟩
  rw [take_next h0 h1, put_first h2 hx, h3]
  exact ⟨⟨_, List.mem_append_right _ List.mem_cons_self, hx⟩, rfl⟩
theorem sat_later {V : List VT} {s v : ByteArray} {k : Int} {acc : List VT} (hu : Up V) (h : Sat V s v k.toNat true acc) (h0 : 0 ≤ k) (h1 : k < V.length) : (rdOf zV V k).1 ≠ s ∧ Sat V s v (k + 1).toNat true (acc ++ [rdOf zV V k]) := by
  obtain ⟨⟨x, hx, hn⟩, h3⟩ := h.2 rfl
  refine ⟨fun e => ?_, fun h => (by cases h), fun _ => ?_⟩
  · obtain ⟨j, hj, rfl⟩ := List.mem_iff_getElem.1 hx
    rw [List.length_take] at hj
    rw [List.getElem_take] at hn
    obtain ⟨hk, e2⟩ := rd_at h0 h1
    rw [e2] at e
    have := List.pairwise_iff_getElem.1 hu j k.toNat (by omega) hk (by omega)
    rw [e] at this
    exact hn this
  · rw [take_next h0 h1, put_later ⟨x, hx, hn⟩, h3]
    exact ⟨⟨x, List.mem_append_left _ hx, hn⟩, rfl⟩
theorem sat_end {V : List VT} {s v : ByteArray} {done : Bool} {acc : List VT} (h : Sat V s v V.length done acc) : (if done then acc else acc ++ [(s, v)]) = putV V s v := by
  cases done with
  | true => obtain ⟨_, h2⟩ := h.2 rfl; rw [h2, List.take_length]; rfl
  | false =>
    obtain ⟨h1, h2⟩ := h.1 rfl
    rw [List.take_length] at h1 h2
    rw [put_all h1, h2]
    rfl

theorem mixed_ : Try.prog.follows .mixedOrders = true := by kernel_rfl
theorem ag26 (w : World) : (isAgg 26).run Try.prog w = .ok true w := by kernel_rfl
theorem ag36 (w : World) : (isAgg 36).run Try.prog w = .ok true w := by kernel_rfl
theorem al36 (w : World) : (Instr.alloc 36 true (.tuple #[])).run Try.prog w = .ok (.pointer (some ⟨w.heap.size, 0, none⟩)) (w.alloc (.cells #[.slice none 0 0, .slice none 0 0, .int .i64 0] 36 (0, 0))) := by kernel_rfl
theorem in26 : (Try.prog.info? 26).map (fun i => (i.zero, i.size, i.bytes)) = some (some (.agg #[.string (⟨#[]⟩ : ByteArray), .string (⟨#[]⟩ : ByteArray)]), 2, 32) := by kernel_rfl
theorem pl9 : Plain Try.prog 9 := plain_string Try.underlying9
theorem pl22 : Plain Try.prog 22 := plain_slice Try.underlying22
theorem sz22 (w : World) : (sizeOf 22).run Try.prog w = .ok 1 w := by kernel_rfl
theorem sz26 (w : World) : (sizeOf 26).run Try.prog w = .ok 2 w := by kernel_rfl
theorem sz36 (w : World) : (sizeOf 36).run Try.prog w = .ok 3 w := by kernel_rfl
set_option maxRecDepth 100000 in
set_option maxHeartbeats 1000000 in
theorem rplace_con (B : Nat) (Av Aa : Option Addr) (cv ca : Nat) (m : T) (hm : m.Ok) (s : ByteArray) (S : World → Prop) (hBS : ∀ w, S w → B ≤ w.heap.size) (hCV : ∀ w, S w → kV.C w Av m.V.length m.V) :
    Con Try.prog 37 [.agg #[.slice Av m.V.length cv, .slice Aa m.A.length ca, .int .i64 m.st], .string s] S [] (fun i : Int => .int .i64 i) (fun i => Placed m.V s i) (fun i => []) := by
 have hnV := hm.nV
 have hnA := hm.nA
 have hst := hm.st
 refine Con.of_none fun w hS => ?_
 have hs : Sep w (fun _ => False) [] := trivial
 have hB := hBS w hS
 have hlV := (C_lenm (hCV w hS)).1
 have hV := fun (w' : World) (M : List Atom) (h : St w (fun _ => False) w' M) => Kd.C_below (hCV w hS) h.below
 refine enter (args := [.agg #[.slice Av m.V.length cv, .slice Aa m.A.length ca, .int .i64 m.st], .string s]) Try.func37 rfl rfl rfl hs ?_
 refine GC.seq ?_
 refine GC.region ?_
 refine GL.does [] rfl rfl rfl rfl (Does.box (cs := #[.slice Av m.V.length cv, .slice Aa m.A.length ca, .int .i64 m.st]) (Bs hB) rfl rfl rfl) fun g2 hg2 => ?_
 refine GL.gives rfl rfl rfl (Gives.assign rfl rfl) ?_
 refine GL.nil ?_
 refine GQ.thenN ?_
 refine GC.seq ?_
 refine GC.seq ?_
 refine GC.region ?_
 refine GL.gives rfl rfl rfl (Gives.assign rfl rfl) ?_
 refine GL.nil ?_
 refine GQ.thenN ?_
 refine GC.block ?_
 refine GC.loop (σ := Int) (fun k => [(1, .string s), (2, .pointer (some ⟨g2, 0, none⟩)), (5, .int .i64 k)]) (fun _ => [Cells g2 #[.slice Av m.V.length cv, .slice Aa m.A.length ca, .int .i64 m.st] 36]) (fun k => (0 ≤ k ∧ k ≤ m.V.length) ∧ ∀ j : Int, 0 ≤ j → j < k → (rdOf zV m.V j).1 ≠ s) (fun k => (m.V.length - k).toNat) 0 [0] ⟨⟨by omega, by omega⟩, fun j h0 h1 => by omega⟩ ⟨rfl, rfl, rfl, trivial⟩ rfl ?_
 rintro k ⟨⟨hk0, hk1⟩, hall⟩
 refine GC.seq ?_
 refine GC.seq ?_
 refine GC.region ?_
 refine GL.gives rfl rfl rfl (Gives.move rfl rfl) ?_
 refine GL.gives rfl rfl rfl (Gives.fieldAddr (q := ⟨g2, 0, none⟩) rfl rfl (fun _ => by kernel_rfl)) ?_
 refine GL.gives rfl rfl rfl (Gives.loadc (v := .slice Av m.V.length cv) 0 rfl rfl pl22 rfl rfl) ?_
 refine GL.gives rfl rfl rfl (Gives.len rfl rfl Try.underlying22) ?_
 refine GL.gives rfl rfl rfl (Gives.lss rfl rfl rfl) ?_
 refine GL.nil ?_
 refine GQ.thenN ?_
 refine GC.split (t := 10) rfl (fun h10 => ?_) (fun h10 => ?_)
 ·
   replace h10 := of_decide_eq_true h10
   refine GC.condT rfl rfl ?_
   refine GC.skip ?_
   refine GQ.thenN ?_
   refine GC.seq ?_
   refine GC.block ?_
   refine GC.seq ?_
   refine GC.region ?_
   refine GL.gives rfl rfl rfl (Gives.fieldAddr (q := ⟨g2, 0, none⟩) rfl rfl (fun _ => by kernel_rfl)) ?_
   refine GL.gives rfl rfl rfl (Gives.loadc (v := .slice Av m.V.length cv) 0 rfl rfl pl22 rfl rfl) ?_
   refine GL.gives rfl rfl rfl (Gives.move rfl rfl) ?_
   obtain ⟨p, hp⟩ := C_some (hCV w hS) (by omega)
   subst hp
   refine GL.gives rfl rfl rfl (Gives.indexAddr (i := k) rfl rfl rfl Try.underlying22 sz26 (by omega) (by omega)) ?_
   refine GL.gives rfl rfl rfl (Gives.fieldAddr (q := (p.add (k.toNat * 2))) rfl rfl (fun _ => by kernel_rfl)) ?_
   refine GL.gives rfl rfl rfl (Gives.load rfl rfl pl9 (fun w' hs' => (cV (hV w' _ hs') k (by omega) (by omega)).1)) ?_
   refine GL.gives rfl rfl rfl (Gives.move rfl rfl) ?_
   refine GL.gives rfl rfl rfl (Gives.eqs rfl rfl rfl) ?_
   refine GL.nil ?_
   refine GQ.thenN ?_
   refine GC.split (t := 20) rfl (fun h20 => ?_) (fun h20 => ?_)
   ·
     replace h20 := str_eq.1 h20
     refine GC.condT rfl rfl ?_
     refine GC.seq ?_
     refine GC.region ?_
     refine GL.gives rfl rfl rfl (Gives.move rfl rfl) ?_
     refine GL.gives rfl rfl rfl (Gives.assign rfl rfl) ?_
     refine GL.nil ?_
     refine GQ.thenN ?_
     refine GC.ret ?_
     refine GQ.blkR ?_
     refine GQ.thenR ?_
     refine GQ.thenR ?_
     refine GQ.blkR ?_
     refine GQ.thenR ?_
     refine GQ.ret1 (.inl rfl) rfl rfl ?_
     intro w' hs
     exact ⟨k, rfl, .inl ⟨hk0, by omega, h20⟩, hs.nil⟩
   ·
     replace h20 := str_ne h20
     refine GC.condF rfl rfl ?_
     refine GC.skip ?_
     refine GQ.blkN ?_
     refine GQ.thenN ?_
     refine GC.region ?_
     refine GL.gives rfl rfl rfl (Gives.move rfl rfl) ?_
     refine GL.gives rfl rfl rfl (Gives.add rfl rfl rfl (by omega)) ?_
     refine GL.gives rfl rfl rfl (Gives.assign rfl rfl) ?_
     refine GL.nil ?_
     refine GQ.back (k + 1) [0] ⟨⟨by omega, by omega⟩, fun j h0 h1 => ?_⟩ (by omega) ⟨rfl, rfl, rfl, trivial⟩ rfl
     by_cases hjk : j = k
     · subst hjk; exact h20
     · exact hall j h0 (by omega)
 ·
   replace h10 := of_decide_eq_false h10
   refine GC.condF rfl rfl ?_
   refine GC.exit ?_
   refine GQ.thenX ?_
   refine GQ.thenX ?_
   refine GQ.blkX ?_
   refine GQ.thenN ?_
   refine GC.seq ?_
   refine GC.region ?_
   refine GL.gives rfl rfl rfl (Gives.assign rfl rfl) ?_
   refine GL.nil ?_
   refine GQ.thenN ?_
   refine GC.ret ?_
   refine GQ.ret1 (.inl rfl) rfl rfl ?_
   intro w' hs
   exact ⟨-1, rfl, .inr ⟨rfl, no_name (fun j h0 h1 => hall j h0 (by omega))⟩, hs.nil⟩

set_option maxRecDepth 100000 in
set_option maxHeartbeats 1000000 in
theorem rset_no (B : Nat) (Av Aa : Option Addr) (cv ca : Nat) (m : T) (hm : m.Ok) (a b : ByteArray) (S : World → Prop) (hBS : ∀ w, S w → B ≤ w.heap.size) (hCV : ∀ w, S w → kV.C w Av m.V.length m.V) (hno : (tSet m a b).2 ≠ 0) :
    Con Try.prog 24 [.agg #[.slice Av m.V.length cv, .slice Aa m.A.length ca, .int .i64 m.st], .string a, .string b] S [] (fun _ : Unit => .tuple #[.agg #[.slice Av m.V.length cv, .slice Aa m.A.length ca, .int .i64 m.st], .int .i64 (tSet m a b).2]) (fun _ => True) (fun _ => []) := by
 have hnV := hm.nV
 have hnA := hm.nA
 have hst := hm.st
 refine Con.of_none fun w hS => ?_
 have hs : Sep w (fun _ => False) [] := trivial
 have hB := hBS w hS
 have hlV := (C_lenm (hCV w hS)).1
 have hV := fun (w' : World) (M : List Atom) (h : St w (fun _ => False) w' M) => Kd.C_below (hCV w hS) h.below
 refine enter (args := [.agg #[.slice Av m.V.length cv, .slice Aa m.A.length ca, .int .i64 m.st], .string a, .string b]) Try.func24 rfl rfl rfl hs ?_
 refine GC.seq ?_
 refine GC.region ?_
 refine GL.does [] rfl rfl rfl rfl (Does.box (cs := #[.slice Av m.V.length cv, .slice Aa m.A.length ca, .int .i64 m.st]) (Bs hB) rfl rfl rfl) fun gt hgt => ?_
 refine GL.does [] rfl rfl rfl rfl (Does.alloc (Bs hB) rfl al36) fun gr hgr => ?_
 refine GL.gives rfl rfl rfl (Gives.assign rfl rfl) ?_
 refine GL.nil ?_
 refine GQ.thenN ?_
 refine GC.seq ?_
 refine GC.seq ?_
 refine GC.region ?_
 refine GL.gives rfl rfl rfl (Gives.move rfl rfl) ?_
 refine GL.does [] rfl rfl rfl rfl (Does.call rfl rfl Try.func18 rfl rfl (ref_Name_con a _)) fun _ _ => ?_
 refine GL.gives rfl rfl rfl (Gives.not rfl rfl) ?_
 refine GL.nil ?_
 refine GQ.thenN ?_
 refine GC.split (t := 14) rfl (fun h14 => ?_) (fun h14 => ?_)
 ·
   replace h14 := by first | exact absurd h14 | simpa using h14
   refine GC.condT rfl rfl ?_
   refine GC.seq ?_
   refine GC.region ?_
   refine GL.gives rfl rfl rfl (Gives.loadb (cs := #[.slice Av m.V.length cv, .slice Aa m.A.length ca, .int .i64 m.st]) 1 rfl rfl ag36 sz36 rfl) ?_
   refine GL.does0 [0] rfl rfl rfl (Does.storeb rfl rfl rfl sz36 (by first | (simp [Value.oneCell']; done) | (simp [one_int, one_bool, one_string, one_slice, one_pointer, *]; done)) rfl) fun _ _ => ?_
   refine GL.gives rfl rfl rfl (Gives.assign rfl rfl) ?_
   refine GL.nil ?_
   refine GQ.thenN ?_
   refine GC.ret ?_
   refine GQ.thenR ?_
   refine GQ.retT (vs := [.agg #[.slice Av m.V.length cv, .slice Aa m.A.length ca, .int .i64 m.st], .int .i64 70]) (.inl rfl) rfl rfl ⟨⟨_, rfl, lv_agg (cs := #[.slice Av m.V.length cv, .slice Aa m.A.length ca, .int .i64 m.st]) (i := 0) rfl ag36 sz36⟩, rfl, trivial⟩ ?_
   intro w' hs
   exact ⟨(), by rw [set_name h14], trivial, hs.nil⟩
 ·
   replace h14 := by first | exact absurd h14 | simpa using h14
   refine GC.condF rfl rfl ?_
   refine GC.skip ?_
   refine GQ.thenN ?_
   refine GC.seq ?_
   refine GC.region ?_
   refine GL.gives rfl rfl rfl (Gives.loadb (cs := #[.slice Av m.V.length cv, .slice Aa m.A.length ca, .int .i64 m.st]) 1 rfl rfl ag36 sz36 rfl) ?_
   refine GL.gives rfl rfl rfl (Gives.move rfl rfl) ?_
   refine GL.does [] rfl rfl rfl rfl (Does.call rfl rfl Try.func37 rfl rfl (rplace_con B Av Aa cv ca m hm a _ (Bs hB) (fun w' hs' => hV w' _ hs'))) fun j hj => ?_
   refine GL.gives rfl rfl rfl (Gives.assign rfl rfl) ?_
   refine GL.nil ?_
   refine GQ.thenN ?_
   refine GC.seq ?_
   refine GC.seq ?_
   refine GC.region ?_
   refine GL.gives rfl rfl rfl (Gives.move rfl rfl) ?_
   refine GL.gives rfl rfl rfl (Gives.lens rfl rfl Try.underlying9) ?_
   refine GL.gives rfl rfl rfl (Gives.gtr rfl rfl rfl) ?_
   refine GL.gives rfl rfl rfl (Gives.move rfl rfl) ?_
   refine GL.split (t := 22) rfl (fun h22 => ?_) (fun h22 => ?_)
   ·
     replace h22 := of_decide_eq_true h22
     refine GL.skip rfl rfl rfl ?_
     refine GL.skip rfl rfl rfl ?_
     refine GL.skip rfl rfl rfl ?_
     refine GL.skip rfl rfl rfl ?_
     refine GL.skip rfl rfl rfl ?_
     refine GL.skip rfl rfl rfl ?_
     refine GL.skip rfl rfl rfl ?_
     refine GL.skip rfl rfl rfl ?_
     refine GL.gives rfl rfl rfl (Gives.pickT rfl rfl rfl rfl) ?_
     refine GL.nil ?_
     refine GQ.thenN ?_
     refine GC.condT rfl rfl ?_
     refine GC.seq ?_
     refine GC.region ?_
     refine GL.gives rfl rfl rfl (Gives.loadb (cs := #[.slice Av m.V.length cv, .slice Aa m.A.length ca, .int .i64 m.st]) 1 rfl rfl ag36 sz36 rfl) ?_
     refine GL.does0 [0] rfl rfl rfl (Does.storeb rfl rfl rfl sz36 (by first | (simp [Value.oneCell']; done) | (simp [one_int, one_bool, one_string, one_slice, one_pointer, *]; done)) rfl) fun _ _ => ?_
     refine GL.gives rfl rfl rfl (Gives.assign rfl rfl) ?_
     refine GL.nil ?_
     refine GQ.thenN ?_
     refine GC.ret ?_
     refine GQ.thenR ?_
     refine GQ.retT (vs := [.agg #[.slice Av m.V.length cv, .slice Aa m.A.length ca, .int .i64 m.st], .int .i64 2]) (.inl rfl) rfl rfl ⟨⟨_, rfl, lv_agg (cs := #[.slice Av m.V.length cv, .slice Aa m.A.length ca, .int .i64 m.st]) (i := 0) rfl ag36 sz36⟩, rfl, trivial⟩ ?_
     intro w' hs
     exact ⟨(), by rw [set_long h14 (by omega)], trivial, hs.nil⟩
   ·
     replace h22 := of_decide_eq_false h22
     refine GL.gives rfl rfl rfl (Gives.move rfl rfl) ?_
     refine GL.gives rfl rfl rfl (Gives.lss rfl rfl rfl) ?_
     refine GL.gives rfl rfl rfl (Gives.move rfl rfl) ?_
     refine GL.split (t := 25) rfl (fun h25 => ?_) (fun h25 => ?_)
     ·
       replace h25 := of_decide_eq_true h25
       refine GL.gives rfl rfl rfl (Gives.fieldAddr (q := ⟨gt, 0, none⟩) rfl rfl (fun _ => by kernel_rfl)) ?_
       refine GL.gives rfl rfl rfl (Gives.loadc (v := .slice Av m.V.length cv) 1 rfl rfl pl22 rfl rfl) ?_
       refine GL.gives rfl rfl rfl (Gives.len rfl rfl Try.underlying22) ?_
       refine GL.gives rfl rfl rfl (Gives.geq rfl rfl rfl) ?_
       refine GL.gives rfl rfl rfl (Gives.pickT rfl rfl rfl rfl) ?_
       refine GL.gives rfl rfl rfl (Gives.pickF rfl rfl rfl rfl) ?_
       refine GL.nil ?_
       refine GQ.thenN ?_
       refine GC.split (t := 31) rfl (fun h31 => ?_) (fun h31 => ?_)
       ·
         have _ := h31
         refine GC.condT rfl rfl ?_
         refine GC.seq ?_
         refine GC.region ?_
         refine GL.gives rfl rfl rfl (Gives.loadb (cs := #[.slice Av m.V.length cv, .slice Aa m.A.length ca, .int .i64 m.st]) 1 rfl rfl ag36 sz36 rfl) ?_
         refine GL.does0 [0] rfl rfl rfl (Does.storeb rfl rfl rfl sz36 (by first | (simp [Value.oneCell']; done) | (simp [one_int, one_bool, one_string, one_slice, one_pointer, *]; done)) rfl) fun _ _ => ?_
         refine GL.gives rfl rfl rfl (Gives.assign rfl rfl) ?_
         refine GL.nil ?_
         refine GQ.thenN ?_
         refine GC.ret ?_
         refine GQ.thenR ?_
         refine GQ.retT (vs := [.agg #[.slice Av m.V.length cv, .slice Aa m.A.length ca, .int .i64 m.st], .int .i64 2]) (.inl rfl) rfl rfl ⟨⟨_, rfl, lv_agg (cs := #[.slice Av m.V.length cv, .slice Aa m.A.length ca, .int .i64 m.st]) (i := 0) rfl ag36 sz36⟩, rfl, trivial⟩ ?_
         intro w' hs
         exact ⟨(), by rw [set_full h14 (by omega) ((placed_has hj).2 h25) (by have := of_decide_eq_true h31; omega)], trivial, hs.nil⟩
       ·
         have _ := h31
         refine GC.condF rfl rfl ?_
         refine GC.skip ?_
         refine GQ.thenN ?_
         refine GC.seq ?_
         exfalso
         apply hno
         rw [set_done h14 (by omega) (.inr (by have := of_decide_eq_false h31; omega))]
     ·
       replace h25 := of_decide_eq_false h25
       refine GL.skip rfl rfl rfl ?_
       refine GL.skip rfl rfl rfl ?_
       refine GL.skip rfl rfl rfl ?_
       refine GL.skip rfl rfl rfl ?_
       refine GL.gives rfl rfl rfl (Gives.pickF rfl rfl rfl rfl) ?_
       refine GL.gives rfl rfl rfl (Gives.pickF rfl rfl rfl rfl) ?_
       refine GL.nil ?_
       refine GQ.thenN ?_
       refine GC.condF rfl rfl ?_
       refine GC.skip ?_
       refine GQ.thenN ?_
       refine GC.seq ?_
       exfalso
       apply hno
       rw [set_done h14 (by omega) (.inl (by rw [← Bool.not_eq_false]; exact fun h => h25 ((placed_has hj).1 h)))]

set_option maxRecDepth 100000 in
set_option maxHeartbeats 1000000 in
theorem rset_yes (B : Nat) (Av Aa : Option Addr) (cv ca : Nat) (m : T) (hm : m.Ok) (a b : ByteArray) (S : World → Prop) (hBS : ∀ w, S w → B ≤ w.heap.size) (hCV : ∀ w, S w → kV.C w Av m.V.length m.V) (hyes : (tSet m a b).2 = 0) :
    Con Try.prog 24 [.agg #[.slice Av m.V.length cv, .slice Aa m.A.length ca, .int .i64 m.st], .string a, .string b] S [] (fun v : Value => .tuple #[.agg #[v, .slice Aa m.A.length ca, .int .i64 m.st], .int .i64 0]) (fun v => True) (fun v => [Row B kV 26 v (putV m.V a b)]) := by
 have hnV := hm.nV
 have hnA := hm.nA
 have hst := hm.st
 refine Con.of_none fun w hS => ?_
 have hs : Sep w (fun _ => False) [] := trivial
 have hB := hBS w hS
 have hlV := (C_lenm (hCV w hS)).1
 have hV := fun (w' : World) (M : List Atom) (h : St w (fun _ => False) w' M) => Kd.C_below (hCV w hS) h.below
 refine enter (args := [.agg #[.slice Av m.V.length cv, .slice Aa m.A.length ca, .int .i64 m.st], .string a, .string b]) Try.func24 rfl rfl rfl hs ?_
 refine GC.seq ?_
 refine GC.region ?_
 refine GL.does [] rfl rfl rfl rfl (Does.box (cs := #[.slice Av m.V.length cv, .slice Aa m.A.length ca, .int .i64 m.st]) (Bs hB) rfl rfl rfl) fun gt hgt => ?_
 refine GL.does [] rfl rfl rfl rfl (Does.alloc (Bs hB) rfl al36) fun gr hgr => ?_
 refine GL.gives rfl rfl rfl (Gives.assign rfl rfl) ?_
 refine GL.nil ?_
 refine GQ.thenN ?_
 refine GC.seq ?_
 refine GC.seq ?_
 refine GC.region ?_
 refine GL.gives rfl rfl rfl (Gives.move rfl rfl) ?_
 refine GL.does [] rfl rfl rfl rfl (Does.call rfl rfl Try.func18 rfl rfl (ref_Name_con a _)) fun _ _ => ?_
 refine GL.gives rfl rfl rfl (Gives.not rfl rfl) ?_
 refine GL.nil ?_
 refine GQ.thenN ?_
 refine GC.split (t := 14) rfl (fun h14 => ?_) (fun h14 => ?_)
 ·
   exfalso
   have h14' : isName a = false := by simpa using h14
   rw [set_name h14'] at hyes
   cases hyes
 ·
   replace h14 := by first | exact absurd h14 | simpa using h14
   refine GC.condF rfl rfl ?_
   refine GC.skip ?_
   refine GQ.thenN ?_
   refine GC.seq ?_
   refine GC.region ?_
   refine GL.gives rfl rfl rfl (Gives.loadb (cs := #[.slice Av m.V.length cv, .slice Aa m.A.length ca, .int .i64 m.st]) 1 rfl rfl ag36 sz36 rfl) ?_
   refine GL.gives rfl rfl rfl (Gives.move rfl rfl) ?_
   refine GL.does [] rfl rfl rfl rfl (Does.call rfl rfl Try.func37 rfl rfl (rplace_con B Av Aa cv ca m hm a _ (Bs hB) (fun w' hs' => hV w' _ hs'))) fun j hj => ?_
   refine GL.gives rfl rfl rfl (Gives.assign rfl rfl) ?_
   refine GL.nil ?_
   refine GQ.thenN ?_
   refine GC.seq ?_
   refine GC.seq ?_
   refine GC.region ?_
   refine GL.gives rfl rfl rfl (Gives.move rfl rfl) ?_
   refine GL.gives rfl rfl rfl (Gives.lens rfl rfl Try.underlying9) ?_
   refine GL.gives rfl rfl rfl (Gives.gtr rfl rfl rfl) ?_
   refine GL.gives rfl rfl rfl (Gives.move rfl rfl) ?_
   refine GL.split (t := 22) rfl (fun h22 => ?_) (fun h22 => ?_)
   ·
     exfalso
     have h14' : isName a = true := by simpa using h14
     rw [set_long h14' (by have := of_decide_eq_true h22; omega)] at hyes
     cases hyes
   ·
     replace h22 := of_decide_eq_false h22
     refine GL.gives rfl rfl rfl (Gives.move rfl rfl) ?_
     refine GL.gives rfl rfl rfl (Gives.lss rfl rfl rfl) ?_
     refine GL.gives rfl rfl rfl (Gives.move rfl rfl) ?_
     refine GL.split (t := 25) rfl (fun h25 => ?_) (fun h25 => ?_)
     ·
       replace h25 := of_decide_eq_true h25
       refine GL.gives rfl rfl rfl (Gives.fieldAddr (q := ⟨gt, 0, none⟩) rfl rfl (fun _ => by kernel_rfl)) ?_
       refine GL.gives rfl rfl rfl (Gives.loadc (v := .slice Av m.V.length cv) 1 rfl rfl pl22 rfl rfl) ?_
       refine GL.gives rfl rfl rfl (Gives.len rfl rfl Try.underlying22) ?_
       refine GL.gives rfl rfl rfl (Gives.geq rfl rfl rfl) ?_
       refine GL.gives rfl rfl rfl (Gives.pickT rfl rfl rfl rfl) ?_
       refine GL.gives rfl rfl rfl (Gives.pickF rfl rfl rfl rfl) ?_
       refine GL.nil ?_
       refine GQ.thenN ?_
       refine GC.split (t := 31) rfl (fun h31 => ?_) (fun h31 => ?_)
       ·
         exfalso
         have h14' : isName a = true := by simpa using h14
         rw [set_full h14' (by omega) ((placed_has hj).2 h25) (by have := of_decide_eq_true h31; omega)] at hyes
         cases hyes
       ·
         have _ := h31
         refine GC.condF rfl rfl ?_
         refine GC.skip ?_
         refine GQ.thenN ?_
         refine GC.seq ?_
         refine GC.region ?_
         refine GL.gives rfl rfl rfl (Gives.assign rfl rfl) ?_
         refine GL.nil ?_
         refine GQ.thenN ?_
         refine GC.seq ?_
         refine GC.region ?_
         refine GL.gives rfl rfl rfl (Gives.assign rfl rfl) ?_
         refine GL.nil ?_
         refine GQ.thenN ?_
         refine GC.seq ?_
         refine GC.seq ?_
         refine GC.region ?_
         refine GL.gives rfl rfl rfl (Gives.assign rfl rfl) ?_
         refine GL.nil ?_
         refine GQ.thenN ?_
         refine GC.block ?_
         refine GC.turn [] rfl (Turns.nilRow (B := B) (e := 26) kV) ?_
         refine GC.loop (σ := Int × Bool × Value × List VT) (fun s => [(1, .string a), (2, .string b), (3, .pointer (some ⟨gt, 0, none⟩)), (6, .pointer (some ⟨gr, 0, none⟩)), (9, s.2.2.1), (10, .bool s.2.1), (11, .int .i64 s.1)]) (fun s => [Cells gt #[.slice Av m.V.length cv, .slice Aa m.A.length ca, .int .i64 m.st] 36, Cells gr #[.slice none 0 0, .slice none 0 0, .int .i64 0] 36, Row B kV 26 s.2.2.1 s.2.2.2]) (fun s => (0 ≤ s.1 ∧ s.1 ≤ m.V.length) ∧ Sat m.V a b s.1.toNat s.2.1 s.2.2.2 ∧ s.2.2.2.length ≤ 2 * s.1) (fun s => (m.V.length - s.1).toNat) (0, false, .slice none 0 0, []) [2, 1, 0] ⟨⟨by simp, by simp⟩, ⟨fun _ => ⟨fun x hx => (by simp at hx), rfl⟩, fun h => (by cases h)⟩, by simp⟩ ⟨rfl, rfl, rfl, rfl, rfl, rfl, rfl, trivial⟩ rfl ?_
         rintro ⟨k, done, v, acc⟩ ⟨⟨hk0, hk1⟩, hsat, hal⟩
         dsimp only at hk0 hk1 hsat hal ⊢
         refine GC.seq ?_
         refine GC.seq ?_
         refine GC.region ?_
         refine GL.gives rfl rfl rfl (Gives.move rfl rfl) ?_
         refine GL.gives rfl rfl rfl (Gives.fieldAddr (q := ⟨gt, 0, none⟩) rfl rfl (fun _ => by kernel_rfl)) ?_
         refine GL.gives rfl rfl rfl (Gives.loadc (v := .slice Av m.V.length cv) 0 rfl rfl pl22 rfl rfl) ?_
         refine GL.gives rfl rfl rfl (Gives.len rfl rfl Try.underlying22) ?_
         refine GL.gives rfl rfl rfl (Gives.lss rfl rfl rfl) ?_
         refine GL.nil ?_
         refine GQ.thenN ?_
         refine GC.split (t := 37) rfl (fun h37 => ?_) (fun h37 => ?_)
         ·
           replace h37 := of_decide_eq_true h37
           refine GC.condT rfl rfl ?_
           refine GC.skip ?_
           refine GQ.thenN ?_
           refine GC.seq ?_
           refine GC.block ?_
           refine GC.seq ?_
           refine GC.seq ?_
           refine GC.region ?_
           refine GL.gives rfl rfl rfl (Gives.move rfl rfl) ?_
           refine GL.gives rfl rfl rfl (Gives.not rfl rfl) ?_
           refine GL.gives rfl rfl rfl (Gives.move rfl rfl) ?_
           refine GL.split (t := 42) rfl (fun h42 => ?_) (fun h42 => ?_)
           ·
             have hdone : done = false := by simpa using h42
             subst hdone
             refine GL.gives rfl rfl rfl (Gives.fieldAddr (q := ⟨gt, 0, none⟩) rfl rfl (fun _ => by kernel_rfl)) ?_
             refine GL.gives rfl rfl rfl (Gives.loadc (v := .slice Av m.V.length cv) 0 rfl rfl pl22 rfl rfl) ?_
             refine GL.gives rfl rfl rfl (Gives.move rfl rfl) ?_
             obtain ⟨p, hp⟩ := C_some (hCV w hS) (by omega)
             subst hp
             refine GL.gives rfl rfl rfl (Gives.indexAddr (i := k) rfl rfl rfl Try.underlying22 sz26 (by omega) (by omega)) ?_
             refine GL.gives rfl rfl rfl (Gives.fieldAddr (q := (p.add (k.toNat * 2))) rfl rfl (fun _ => by kernel_rfl)) ?_
             refine GL.gives rfl rfl rfl (Gives.load rfl rfl pl9 (fun w' hs' => (cV (hV w' _ hs') k (by omega) (by omega)).1)) ?_
             refine GL.gives rfl rfl rfl (Gives.move rfl rfl) ?_
             refine GL.gives rfl rfl rfl (Gives.geqs rfl rfl rfl) ?_
             refine GL.gives rfl rfl rfl (Gives.pickT rfl rfl rfl rfl) ?_
             refine GL.nil ?_
             refine GQ.thenN ?_
             refine GC.split (t := 51) rfl (fun h51 => ?_) (fun h51 => ?_)
             ·
               have _ := h51
               refine GC.condT rfl rfl ?_
               refine GC.seq ?_
               refine GC.region ?_
               refine GL.gives rfl rfl rfl (Gives.move rfl rfl) ?_
               refine GL.gives rfl rfl rfl (Gives.move rfl rfl) ?_
               refine GL.gives rfl rfl rfl (Gives.move rfl rfl) ?_
               refine GL.gives rfl rfl rfl (Gives.build (v := .agg #[.string a, .string b]) rfl rfl (fun _ => by kernel_rfl)) ?_
               refine GL.does [] rfl rfl rfl rfl (Does.lit (m := 1) (cs := #[.string a, .string b]) (e := 26) (Bs hB) rfl rfl (fun _ => by kernel_rfl)) fun g3 hg3 => ?_
               refine GL.does [3] rfl rfl rfl rfl (Does.appends (kd := kV) (Bs hB) rfl rfl rfl Try.underlying22 in26 rfl (by decide) (by decide) kV_flat (C_box (kd := kV) (i := 0) (p := (a, b)) (inner := [.string a, .string b]) rfl (fun w => ⟨[_], [_], rfl, rfl, rfl⟩)) (by first | omega | (simp only [List.length_append, List.length_cons, List.length_nil]; omega))) fun v1 _ => ?_
               refine GL.gives rfl rfl rfl (Gives.assign rfl rfl) ?_
               refine GL.nil ?_
               refine GQ.thenN ?_
               refine GC.region ?_
               refine GL.gives rfl rfl rfl (Gives.assign rfl rfl) ?_
               refine GL.nil ?_
               refine GQ.thenN ?_
               refine GC.seq ?_
               refine GC.region ?_
               refine GL.gives rfl rfl rfl (Gives.fieldAddr (q := ⟨gt, 0, none⟩) rfl rfl (fun _ => by kernel_rfl)) ?_
               refine GL.gives rfl rfl rfl (Gives.loadc (v := .slice (some p) m.V.length cv) 2 rfl rfl pl22 rfl rfl) ?_
               refine GL.gives rfl rfl rfl (Gives.move rfl rfl) ?_
               refine GL.gives rfl rfl rfl (Gives.indexAddr (i := k) rfl rfl rfl Try.underlying22 sz26 (by omega) (by omega)) ?_
               refine GL.gives rfl rfl rfl (Gives.fieldAddr (q := (p.add (k.toNat * 2))) rfl rfl (fun _ => by kernel_rfl)) ?_
               refine GL.gives rfl rfl rfl (Gives.load rfl rfl pl9 (fun w' hs' => (cV (hV w' _ hs') k (by omega) (by omega)).1)) ?_
               refine GL.gives rfl rfl rfl (Gives.move rfl rfl) ?_
               refine GL.gives rfl rfl rfl (Gives.nes rfl rfl rfl) ?_
               refine GL.nil ?_
               refine GQ.thenN ?_
               refine GC.split (t := 65) rfl (fun h65 => ?_) (fun h65 => ?_)
               ·
                 replace h65 := str_neq h65
                 refine GC.condT rfl rfl ?_
                 refine GC.region ?_
                 refine GL.gives rfl rfl rfl (Gives.move rfl rfl) ?_
                 refine GL.gives rfl rfl rfl (Gives.fieldAddr (q := ⟨gt, 0, none⟩) rfl rfl (fun _ => by kernel_rfl)) ?_
                 refine GL.gives rfl rfl rfl (Gives.loadc (v := .slice (some p) m.V.length cv) 2 rfl rfl pl22 rfl rfl) ?_
                 refine GL.gives rfl rfl rfl (Gives.move rfl rfl) ?_
                 refine GL.gives rfl rfl rfl (Gives.indexAddr (i := k) rfl rfl rfl Try.underlying22 sz26 (by omega) (by omega)) ?_
                 refine GL.gives rfl rfl rfl (show Gives _ _ _ _ _ (.agg #[.string (rdOf zV m.V k).1, .string (rdOf zV m.V k).2]) from Gives.loadRow (kd := kV) (p := p) (m := m.V.length) (i := k) zV kV_encs rfl rfl ag26 sz26 (fun w' hs' => hV w' _ hs') (by omega) (by omega)) ?_
                 refine GL.does [] rfl rfl rfl rfl (Does.lit (m := 1) (cs := #[.string (rdOf zV m.V k).1, .string (rdOf zV m.V k).2]) (e := 26) (Bs hB) rfl rfl (fun _ => by kernel_rfl)) fun g4 hg4 => ?_
                 refine GL.does [1] rfl rfl rfl rfl (Does.appends (kd := kV) (Bs hB) rfl rfl rfl Try.underlying22 in26 rfl (by decide) (by decide) kV_flat (C_box (kd := kV) (i := 0) (p := (rdOf zV m.V k)) (inner := [.string (rdOf zV m.V k).1, .string (rdOf zV m.V k).2]) rfl (fun w => ⟨[_], [_], rfl, rfl, rfl⟩)) (by first | omega | (simp only [List.length_append, List.length_cons, List.length_nil]; omega))) fun v2 _ => ?_
                 refine GL.gives rfl rfl rfl (Gives.assign rfl rfl) ?_
                 refine GL.nil ?_
                 refine GQ.blkN ?_
                 refine GQ.thenN ?_
                 refine GC.region ?_
                 refine GL.gives rfl rfl rfl (Gives.move rfl rfl) ?_
                 refine GL.gives rfl rfl rfl (Gives.add rfl rfl rfl (by omega)) ?_
                 refine GL.gives rfl rfl rfl (Gives.assign rfl rfl) ?_
                 refine GL.nil ?_
                 have hsat' := sat_first hsat hk0 (by omega) (by simpa using h51)
                 rw [if_neg h65] at hsat'
                 refine GQ.back (k + 1, true, v2, _) [3, 3, 0] ⟨⟨by dsimp only; omega, by dsimp only; omega⟩, hsat', by simp only [List.length_append, List.length_cons, List.length_nil]; omega⟩ (by dsimp only; omega) ⟨rfl, rfl, rfl, rfl, rfl, rfl, rfl, trivial⟩ rfl
               ·
                 replace h65 := str_nne h65
                 refine GC.condF rfl rfl ?_
                 refine GC.skip ?_
                 refine GQ.blkN ?_
                 refine GQ.thenN ?_
                 refine GC.region ?_
                 refine GL.gives rfl rfl rfl (Gives.move rfl rfl) ?_
                 refine GL.gives rfl rfl rfl (Gives.add rfl rfl rfl (by omega)) ?_
                 refine GL.gives rfl rfl rfl (Gives.assign rfl rfl) ?_
                 refine GL.nil ?_
                 have hsat' := sat_first hsat hk0 (by omega) (by simpa using h51)
                 rw [if_pos h65] at hsat'
                 refine GQ.back (k + 1, true, v1, _) [2, 2, 0] ⟨⟨by dsimp only; omega, by dsimp only; omega⟩, hsat', by simp only [List.length_append, List.length_cons, List.length_nil]; omega⟩ (by dsimp only; omega) ⟨rfl, rfl, rfl, rfl, rfl, rfl, rfl, trivial⟩ rfl
             ·
               have _ := h51
               refine GC.condF rfl rfl ?_
               refine GC.skip ?_
               refine GQ.thenN ?_
               refine GC.seq ?_
               refine GC.region ?_
               refine GL.gives rfl rfl rfl (Gives.fieldAddr (q := ⟨gt, 0, none⟩) rfl rfl (fun _ => by kernel_rfl)) ?_
               refine GL.gives rfl rfl rfl (Gives.loadc (v := .slice (some p) m.V.length cv) 0 rfl rfl pl22 rfl rfl) ?_
               refine GL.gives rfl rfl rfl (Gives.move rfl rfl) ?_
               refine GL.gives rfl rfl rfl (Gives.indexAddr (i := k) rfl rfl rfl Try.underlying22 sz26 (by omega) (by omega)) ?_
               refine GL.gives rfl rfl rfl (Gives.fieldAddr (q := (p.add (k.toNat * 2))) rfl rfl (fun _ => by kernel_rfl)) ?_
               refine GL.gives rfl rfl rfl (Gives.load rfl rfl pl9 (fun w' hs' => (cV (hV w' _ hs') k (by omega) (by omega)).1)) ?_
               refine GL.gives rfl rfl rfl (Gives.move rfl rfl) ?_
               refine GL.gives rfl rfl rfl (Gives.nes rfl rfl rfl) ?_
               refine GL.nil ?_
               refine GQ.thenN ?_
               refine GC.split (t := 65) rfl (fun h65 => ?_) (fun h65 => ?_)
               ·
                 replace h65 := str_neq h65
                 refine GC.condT rfl rfl ?_
                 refine GC.region ?_
                 refine GL.gives rfl rfl rfl (Gives.move rfl rfl) ?_
                 refine GL.gives rfl rfl rfl (Gives.fieldAddr (q := ⟨gt, 0, none⟩) rfl rfl (fun _ => by kernel_rfl)) ?_
                 refine GL.gives rfl rfl rfl (Gives.loadc (v := .slice (some p) m.V.length cv) 0 rfl rfl pl22 rfl rfl) ?_
                 refine GL.gives rfl rfl rfl (Gives.move rfl rfl) ?_
                 refine GL.gives rfl rfl rfl (Gives.indexAddr (i := k) rfl rfl rfl Try.underlying22 sz26 (by omega) (by omega)) ?_
                 refine GL.gives rfl rfl rfl (show Gives _ _ _ _ _ (.agg #[.string (rdOf zV m.V k).1, .string (rdOf zV m.V k).2]) from Gives.loadRow (kd := kV) (p := p) (m := m.V.length) (i := k) zV kV_encs rfl rfl ag26 sz26 (fun w' hs' => hV w' _ hs') (by omega) (by omega)) ?_
                 refine GL.does [] rfl rfl rfl rfl (Does.lit (m := 1) (cs := #[.string (rdOf zV m.V k).1, .string (rdOf zV m.V k).2]) (e := 26) (Bs hB) rfl rfl (fun _ => by kernel_rfl)) fun g5 hg5 => ?_
                 refine GL.does [3] rfl rfl rfl rfl (Does.appends (kd := kV) (Bs hB) rfl rfl rfl Try.underlying22 in26 rfl (by decide) (by decide) kV_flat (C_box (kd := kV) (i := 0) (p := (rdOf zV m.V k)) (inner := [.string (rdOf zV m.V k).1, .string (rdOf zV m.V k).2]) rfl (fun w => ⟨[_], [_], rfl, rfl, rfl⟩)) (by first | omega | (simp only [List.length_append, List.length_cons, List.length_nil]; omega))) fun v2 _ => ?_
                 refine GL.gives rfl rfl rfl (Gives.assign rfl rfl) ?_
                 refine GL.nil ?_
                 refine GQ.blkN ?_
                 refine GQ.thenN ?_
                 refine GC.region ?_
                 refine GL.gives rfl rfl rfl (Gives.move rfl rfl) ?_
                 refine GL.gives rfl rfl rfl (Gives.add rfl rfl rfl (by omega)) ?_
                 refine GL.gives rfl rfl rfl (Gives.assign rfl rfl) ?_
                 refine GL.nil ?_
                 have hx : slt (rdOf zV m.V k).1 a := by simpa using h51
                 have hsat' := sat_less hsat hk0 (by omega) hx
                 refine GQ.back (k + 1, false, v2, _) [2, 2, 0] ⟨⟨by dsimp only; omega, by dsimp only; omega⟩, hsat', by simp only [List.length_append, List.length_cons, List.length_nil]; omega⟩ (by dsimp only; omega) ⟨rfl, rfl, rfl, rfl, rfl, rfl, rfl, trivial⟩ rfl
               ·
                 replace h65 := str_nne h65
                 refine GC.condF rfl rfl ?_
                 refine GC.skip ?_
                 refine GQ.blkN ?_
                 refine GQ.thenN ?_
                 refine GC.region ?_
                 refine GL.gives rfl rfl rfl (Gives.move rfl rfl) ?_
                 refine GL.gives rfl rfl rfl (Gives.add rfl rfl rfl (by omega)) ?_
                 refine GL.gives rfl rfl rfl (Gives.assign rfl rfl) ?_
                 refine GL.nil ?_
                 exfalso
                 have hx : slt (rdOf zV m.V k).1 a := by simpa using h51
                 rw [h65] at hx
                 exact slt_irrefl _ hx
           ·
             have hdone : done = true := by simpa using h42
             subst hdone
             refine GL.skip rfl rfl rfl ?_
             refine GL.skip rfl rfl rfl ?_
             refine GL.skip rfl rfl rfl ?_
             refine GL.skip rfl rfl rfl ?_
             refine GL.skip rfl rfl rfl ?_
             refine GL.skip rfl rfl rfl ?_
             refine GL.skip rfl rfl rfl ?_
             refine GL.skip rfl rfl rfl ?_
             refine GL.gives rfl rfl rfl (Gives.pickF rfl rfl rfl rfl) ?_
             refine GL.nil ?_
             refine GQ.thenN ?_
             refine GC.condF rfl rfl ?_
             refine GC.skip ?_
             refine GQ.thenN ?_
             refine GC.seq ?_
             refine GC.region ?_
             refine GL.gives rfl rfl rfl (Gives.fieldAddr (q := ⟨gt, 0, none⟩) rfl rfl (fun _ => by kernel_rfl)) ?_
             refine GL.gives rfl rfl rfl (Gives.loadc (v := .slice Av m.V.length cv) 0 rfl rfl pl22 rfl rfl) ?_
             refine GL.gives rfl rfl rfl (Gives.move rfl rfl) ?_
             obtain ⟨p, hp⟩ := C_some (hCV w hS) (by omega)
             subst hp
             refine GL.gives rfl rfl rfl (Gives.indexAddr (i := k) rfl rfl rfl Try.underlying22 sz26 (by omega) (by omega)) ?_
             refine GL.gives rfl rfl rfl (Gives.fieldAddr (q := (p.add (k.toNat * 2))) rfl rfl (fun _ => by kernel_rfl)) ?_
             refine GL.gives rfl rfl rfl (Gives.load rfl rfl pl9 (fun w' hs' => (cV (hV w' _ hs') k (by omega) (by omega)).1)) ?_
             refine GL.gives rfl rfl rfl (Gives.move rfl rfl) ?_
             refine GL.gives rfl rfl rfl (Gives.nes rfl rfl rfl) ?_
             refine GL.nil ?_
             refine GQ.thenN ?_
             refine GC.split (t := 65) rfl (fun h65 => ?_) (fun h65 => ?_)
             ·
               replace h65 := str_neq h65
               refine GC.condT rfl rfl ?_
               refine GC.region ?_
               refine GL.gives rfl rfl rfl (Gives.move rfl rfl) ?_
               refine GL.gives rfl rfl rfl (Gives.fieldAddr (q := ⟨gt, 0, none⟩) rfl rfl (fun _ => by kernel_rfl)) ?_
               refine GL.gives rfl rfl rfl (Gives.loadc (v := .slice (some p) m.V.length cv) 0 rfl rfl pl22 rfl rfl) ?_
               refine GL.gives rfl rfl rfl (Gives.move rfl rfl) ?_
               refine GL.gives rfl rfl rfl (Gives.indexAddr (i := k) rfl rfl rfl Try.underlying22 sz26 (by omega) (by omega)) ?_
               refine GL.gives rfl rfl rfl (show Gives _ _ _ _ _ (.agg #[.string (rdOf zV m.V k).1, .string (rdOf zV m.V k).2]) from Gives.loadRow (kd := kV) (p := p) (m := m.V.length) (i := k) zV kV_encs rfl rfl ag26 sz26 (fun w' hs' => hV w' _ hs') (by omega) (by omega)) ?_
               refine GL.does [] rfl rfl rfl rfl (Does.lit (m := 1) (cs := #[.string (rdOf zV m.V k).1, .string (rdOf zV m.V k).2]) (e := 26) (Bs hB) rfl rfl (fun _ => by kernel_rfl)) fun g6 hg6 => ?_
               refine GL.does [3] rfl rfl rfl rfl (Does.appends (kd := kV) (Bs hB) rfl rfl rfl Try.underlying22 in26 rfl (by decide) (by decide) kV_flat (C_box (kd := kV) (i := 0) (p := (rdOf zV m.V k)) (inner := [.string (rdOf zV m.V k).1, .string (rdOf zV m.V k).2]) rfl (fun w => ⟨[_], [_], rfl, rfl, rfl⟩)) (by first | omega | (simp only [List.length_append, List.length_cons, List.length_nil]; omega))) fun v2 _ => ?_
               refine GL.gives rfl rfl rfl (Gives.assign rfl rfl) ?_
               refine GL.nil ?_
               refine GQ.blkN ?_
               refine GQ.thenN ?_
               refine GC.region ?_
               refine GL.gives rfl rfl rfl (Gives.move rfl rfl) ?_
               refine GL.gives rfl rfl rfl (Gives.add rfl rfl rfl (by omega)) ?_
               refine GL.gives rfl rfl rfl (Gives.assign rfl rfl) ?_
               refine GL.nil ?_
               have hsat' := (sat_later hm.up hsat hk0 (by omega)).2
               refine GQ.back (k + 1, true, v2, _) [2, 2, 0] ⟨⟨by dsimp only; omega, by dsimp only; omega⟩, hsat', by simp only [List.length_append, List.length_cons, List.length_nil]; omega⟩ (by dsimp only; omega) ⟨rfl, rfl, rfl, rfl, rfl, rfl, rfl, trivial⟩ rfl
             ·
               replace h65 := str_nne h65
               refine GC.condF rfl rfl ?_
               refine GC.skip ?_
               refine GQ.blkN ?_
               refine GQ.thenN ?_
               refine GC.region ?_
               refine GL.gives rfl rfl rfl (Gives.move rfl rfl) ?_
               refine GL.gives rfl rfl rfl (Gives.add rfl rfl rfl (by omega)) ?_
               refine GL.gives rfl rfl rfl (Gives.assign rfl rfl) ?_
               refine GL.nil ?_
               exact absurd h65 (sat_later hm.up hsat hk0 (by omega)).1
         ·
           replace h37 := of_decide_eq_false h37
           refine GC.condF rfl rfl ?_
           refine GC.exit ?_
           refine GQ.thenX ?_
           refine GQ.thenX ?_
           refine GQ.blkX ?_
           refine GQ.thenN ?_
           refine GC.seq ?_
           refine GC.seq ?_
           obtain rfl : k = m.V.length := by omega
           simp only [Int.toNat_natCast] at hsat
           have hend := sat_end hsat
           refine GC.region ?_
           refine GL.gives rfl rfl rfl (Gives.move rfl rfl) ?_
           refine GL.gives rfl rfl rfl (Gives.not rfl rfl) ?_
           refine GL.nil ?_
           refine GQ.thenN ?_
           refine GC.split (t := 75) rfl (fun h75 => ?_) (fun h75 => ?_)
           ·
             have hdone : done = false := by simpa using h75
             subst hdone
             refine GC.condT rfl rfl ?_
             refine GC.region ?_
             refine GL.gives rfl rfl rfl (Gives.move rfl rfl) ?_
             refine GL.gives rfl rfl rfl (Gives.move rfl rfl) ?_
             refine GL.gives rfl rfl rfl (Gives.move rfl rfl) ?_
             refine GL.gives rfl rfl rfl (Gives.build (v := .agg #[.string a, .string b]) rfl rfl (fun _ => by kernel_rfl)) ?_
             refine GL.does [] rfl rfl rfl rfl (Does.lit (m := 1) (cs := #[.string a, .string b]) (e := 26) (Bs hB) rfl rfl (fun _ => by kernel_rfl)) fun g7 hg7 => ?_
             refine GL.does [3] rfl rfl rfl rfl (Does.appends (kd := kV) (Bs hB) rfl rfl rfl Try.underlying22 in26 rfl (by decide) (by decide) kV_flat (C_box (kd := kV) (i := 0) (p := (a, b)) (inner := [.string a, .string b]) rfl (fun w => ⟨[_], [_], rfl, rfl, rfl⟩)) (by first | omega | (simp only [List.length_append, List.length_cons, List.length_nil]; omega))) fun v3 _ => ?_
             refine GL.gives rfl rfl rfl (Gives.assign rfl rfl) ?_
             refine GL.nil ?_
             refine GQ.thenN ?_
             refine GC.seq ?_
             refine GC.know (one_row (i := 0) rfl) fun h1 => ?_
             refine GC.region ?_
             refine GL.gives rfl rfl rfl (Gives.move rfl rfl) ?_
             refine GL.gives rfl rfl rfl (Gives.fieldAddr (q := ⟨gt, 0, none⟩) rfl rfl (fun _ => by kernel_rfl)) ?_
             refine GL.does0 [2] rfl rfl rfl (Does.store rfl rfl rfl sz22 (cells_one h1) h1 rfl rfl) fun _ _ => ?_
             refine GL.nil ?_
             refine GQ.thenN ?_
             refine GC.seq ?_
             refine GC.region ?_
             refine GL.gives rfl rfl rfl (Gives.loadb (cs := #[v3, .slice Aa m.A.length ca, .int .i64 m.st]) 0 rfl rfl ag36 sz36 rfl) ?_
             refine GL.does0 [3] rfl rfl rfl (Does.storeb rfl rfl rfl sz36 (by first | (simp [Value.oneCell']; done) | (simp [one_int, one_bool, one_string, one_slice, one_pointer, *]; done)) rfl) fun _ _ => ?_
             refine GL.gives rfl rfl rfl (Gives.assign rfl rfl) ?_
             refine GL.nil ?_
             refine GQ.thenN ?_
             refine GC.ret ?_
             refine GQ.retT (vs := [.agg #[v3, .slice Aa m.A.length ca, .int .i64 m.st], .int .i64 0]) (.inl rfl) rfl rfl ⟨⟨_, rfl, lv_agg (cs := #[v3, .slice Aa m.A.length ca, .int .i64 m.st]) (i := 0) rfl ag36 sz36⟩, rfl, trivial⟩ ?_
             intro w' hs
             refine ⟨v3, rfl, trivial, ?_⟩
             rw [← hend]
             exact hs.take (is := [2]) rfl
           ·
             have hdone : done = true := by simpa using h75
             subst hdone
             refine GC.condF rfl rfl ?_
             refine GC.skip ?_
             refine GQ.thenN ?_
             refine GC.seq ?_
             refine GC.know (one_row (i := 2) rfl) fun h1 => ?_
             refine GC.region ?_
             refine GL.gives rfl rfl rfl (Gives.move rfl rfl) ?_
             refine GL.gives rfl rfl rfl (Gives.fieldAddr (q := ⟨gt, 0, none⟩) rfl rfl (fun _ => by kernel_rfl)) ?_
             refine GL.does0 [0] rfl rfl rfl (Does.store rfl rfl rfl sz22 (cells_one h1) h1 rfl rfl) fun _ _ => ?_
             refine GL.nil ?_
             refine GQ.thenN ?_
             refine GC.seq ?_
             refine GC.region ?_
             refine GL.gives rfl rfl rfl (Gives.loadb (cs := #[v, .slice Aa m.A.length ca, .int .i64 m.st]) 0 rfl rfl ag36 sz36 rfl) ?_
             refine GL.does0 [1] rfl rfl rfl (Does.storeb rfl rfl rfl sz36 (by first | (simp [Value.oneCell']; done) | (simp [one_int, one_bool, one_string, one_slice, one_pointer, *]; done)) rfl) fun _ _ => ?_
             refine GL.gives rfl rfl rfl (Gives.assign rfl rfl) ?_
             refine GL.nil ?_
             refine GQ.thenN ?_
             refine GC.ret ?_
             refine GQ.retT (vs := [.agg #[v, .slice Aa m.A.length ca, .int .i64 m.st], .int .i64 0]) (.inl rfl) rfl rfl ⟨⟨_, rfl, lv_agg (cs := #[v, .slice Aa m.A.length ca, .int .i64 m.st]) (i := 0) rfl ag36 sz36⟩, rfl, trivial⟩ ?_
             intro w' hs
             refine ⟨v, rfl, trivial, ?_⟩
             rw [← hend]
             exact hs.take (is := [2]) rfl
     ·
       replace h25 := of_decide_eq_false h25
       refine GL.skip rfl rfl rfl ?_
       refine GL.skip rfl rfl rfl ?_
       refine GL.skip rfl rfl rfl ?_
       refine GL.skip rfl rfl rfl ?_
       refine GL.gives rfl rfl rfl (Gives.pickF rfl rfl rfl rfl) ?_
       refine GL.gives rfl rfl rfl (Gives.pickF rfl rfl rfl rfl) ?_
       refine GL.nil ?_
       refine GQ.thenN ?_
       refine GC.condF rfl rfl ?_
       refine GC.skip ?_
       refine GQ.thenN ?_
       refine GC.seq ?_
       refine GC.region ?_
       refine GL.gives rfl rfl rfl (Gives.assign rfl rfl) ?_
       refine GL.nil ?_
       refine GQ.thenN ?_
       refine GC.seq ?_
       refine GC.region ?_
       refine GL.gives rfl rfl rfl (Gives.assign rfl rfl) ?_
       refine GL.nil ?_
       refine GQ.thenN ?_
       refine GC.seq ?_
       refine GC.seq ?_
       refine GC.region ?_
       refine GL.gives rfl rfl rfl (Gives.assign rfl rfl) ?_
       refine GL.nil ?_
       refine GQ.thenN ?_
       refine GC.block ?_
       refine GC.turn [] rfl (Turns.nilRow (B := B) (e := 26) kV) ?_
       refine GC.loop (σ := Int × Bool × Value × List VT) (fun s => [(1, .string a), (2, .string b), (3, .pointer (some ⟨gt, 0, none⟩)), (6, .pointer (some ⟨gr, 0, none⟩)), (9, s.2.2.1), (10, .bool s.2.1), (11, .int .i64 s.1)]) (fun s => [Cells gt #[.slice Av m.V.length cv, .slice Aa m.A.length ca, .int .i64 m.st] 36, Cells gr #[.slice none 0 0, .slice none 0 0, .int .i64 0] 36, Row B kV 26 s.2.2.1 s.2.2.2]) (fun s => (0 ≤ s.1 ∧ s.1 ≤ m.V.length) ∧ Sat m.V a b s.1.toNat s.2.1 s.2.2.2 ∧ s.2.2.2.length ≤ 2 * s.1) (fun s => (m.V.length - s.1).toNat) (0, false, .slice none 0 0, []) [2, 1, 0] ⟨⟨by simp, by simp⟩, ⟨fun _ => ⟨fun x hx => (by simp at hx), rfl⟩, fun h => (by cases h)⟩, by simp⟩ ⟨rfl, rfl, rfl, rfl, rfl, rfl, rfl, trivial⟩ rfl ?_
       rintro ⟨k, done, v, acc⟩ ⟨⟨hk0, hk1⟩, hsat, hal⟩
       dsimp only at hk0 hk1 hsat hal ⊢
       refine GC.seq ?_
       refine GC.seq ?_
       refine GC.region ?_
       refine GL.gives rfl rfl rfl (Gives.move rfl rfl) ?_
       refine GL.gives rfl rfl rfl (Gives.fieldAddr (q := ⟨gt, 0, none⟩) rfl rfl (fun _ => by kernel_rfl)) ?_
       refine GL.gives rfl rfl rfl (Gives.loadc (v := .slice Av m.V.length cv) 0 rfl rfl pl22 rfl rfl) ?_
       refine GL.gives rfl rfl rfl (Gives.len rfl rfl Try.underlying22) ?_
       refine GL.gives rfl rfl rfl (Gives.lss rfl rfl rfl) ?_
       refine GL.nil ?_
       refine GQ.thenN ?_
       refine GC.split (t := 37) rfl (fun h37 => ?_) (fun h37 => ?_)
       ·
         replace h37 := of_decide_eq_true h37
         refine GC.condT rfl rfl ?_
         refine GC.skip ?_
         refine GQ.thenN ?_
         refine GC.seq ?_
         refine GC.block ?_
         refine GC.seq ?_
         refine GC.seq ?_
         refine GC.region ?_
         refine GL.gives rfl rfl rfl (Gives.move rfl rfl) ?_
         refine GL.gives rfl rfl rfl (Gives.not rfl rfl) ?_
         refine GL.gives rfl rfl rfl (Gives.move rfl rfl) ?_
         refine GL.split (t := 42) rfl (fun h42 => ?_) (fun h42 => ?_)
         ·
           have hdone : done = false := by simpa using h42
           subst hdone
           refine GL.gives rfl rfl rfl (Gives.fieldAddr (q := ⟨gt, 0, none⟩) rfl rfl (fun _ => by kernel_rfl)) ?_
           refine GL.gives rfl rfl rfl (Gives.loadc (v := .slice Av m.V.length cv) 0 rfl rfl pl22 rfl rfl) ?_
           refine GL.gives rfl rfl rfl (Gives.move rfl rfl) ?_
           obtain ⟨p, hp⟩ := C_some (hCV w hS) (by omega)
           subst hp
           refine GL.gives rfl rfl rfl (Gives.indexAddr (i := k) rfl rfl rfl Try.underlying22 sz26 (by omega) (by omega)) ?_
           refine GL.gives rfl rfl rfl (Gives.fieldAddr (q := (p.add (k.toNat * 2))) rfl rfl (fun _ => by kernel_rfl)) ?_
           refine GL.gives rfl rfl rfl (Gives.load rfl rfl pl9 (fun w' hs' => (cV (hV w' _ hs') k (by omega) (by omega)).1)) ?_
           refine GL.gives rfl rfl rfl (Gives.move rfl rfl) ?_
           refine GL.gives rfl rfl rfl (Gives.geqs rfl rfl rfl) ?_
           refine GL.gives rfl rfl rfl (Gives.pickT rfl rfl rfl rfl) ?_
           refine GL.nil ?_
           refine GQ.thenN ?_
           refine GC.split (t := 51) rfl (fun h51 => ?_) (fun h51 => ?_)
           ·
             have _ := h51
             refine GC.condT rfl rfl ?_
             refine GC.seq ?_
             refine GC.region ?_
             refine GL.gives rfl rfl rfl (Gives.move rfl rfl) ?_
             refine GL.gives rfl rfl rfl (Gives.move rfl rfl) ?_
             refine GL.gives rfl rfl rfl (Gives.move rfl rfl) ?_
             refine GL.gives rfl rfl rfl (Gives.build (v := .agg #[.string a, .string b]) rfl rfl (fun _ => by kernel_rfl)) ?_
             refine GL.does [] rfl rfl rfl rfl (Does.lit (m := 1) (cs := #[.string a, .string b]) (e := 26) (Bs hB) rfl rfl (fun _ => by kernel_rfl)) fun g8 hg8 => ?_
             refine GL.does [3] rfl rfl rfl rfl (Does.appends (kd := kV) (Bs hB) rfl rfl rfl Try.underlying22 in26 rfl (by decide) (by decide) kV_flat (C_box (kd := kV) (i := 0) (p := (a, b)) (inner := [.string a, .string b]) rfl (fun w => ⟨[_], [_], rfl, rfl, rfl⟩)) (by first | omega | (simp only [List.length_append, List.length_cons, List.length_nil]; omega))) fun v1 _ => ?_
             refine GL.gives rfl rfl rfl (Gives.assign rfl rfl) ?_
             refine GL.nil ?_
             refine GQ.thenN ?_
             refine GC.region ?_
             refine GL.gives rfl rfl rfl (Gives.assign rfl rfl) ?_
             refine GL.nil ?_
             refine GQ.thenN ?_
             refine GC.seq ?_
             refine GC.region ?_
             refine GL.gives rfl rfl rfl (Gives.fieldAddr (q := ⟨gt, 0, none⟩) rfl rfl (fun _ => by kernel_rfl)) ?_
             refine GL.gives rfl rfl rfl (Gives.loadc (v := .slice (some p) m.V.length cv) 2 rfl rfl pl22 rfl rfl) ?_
             refine GL.gives rfl rfl rfl (Gives.move rfl rfl) ?_
             refine GL.gives rfl rfl rfl (Gives.indexAddr (i := k) rfl rfl rfl Try.underlying22 sz26 (by omega) (by omega)) ?_
             refine GL.gives rfl rfl rfl (Gives.fieldAddr (q := (p.add (k.toNat * 2))) rfl rfl (fun _ => by kernel_rfl)) ?_
             refine GL.gives rfl rfl rfl (Gives.load rfl rfl pl9 (fun w' hs' => (cV (hV w' _ hs') k (by omega) (by omega)).1)) ?_
             refine GL.gives rfl rfl rfl (Gives.move rfl rfl) ?_
             refine GL.gives rfl rfl rfl (Gives.nes rfl rfl rfl) ?_
             refine GL.nil ?_
             refine GQ.thenN ?_
             refine GC.split (t := 65) rfl (fun h65 => ?_) (fun h65 => ?_)
             ·
               replace h65 := str_neq h65
               refine GC.condT rfl rfl ?_
               refine GC.region ?_
               refine GL.gives rfl rfl rfl (Gives.move rfl rfl) ?_
               refine GL.gives rfl rfl rfl (Gives.fieldAddr (q := ⟨gt, 0, none⟩) rfl rfl (fun _ => by kernel_rfl)) ?_
               refine GL.gives rfl rfl rfl (Gives.loadc (v := .slice (some p) m.V.length cv) 2 rfl rfl pl22 rfl rfl) ?_
               refine GL.gives rfl rfl rfl (Gives.move rfl rfl) ?_
               refine GL.gives rfl rfl rfl (Gives.indexAddr (i := k) rfl rfl rfl Try.underlying22 sz26 (by omega) (by omega)) ?_
               refine GL.gives rfl rfl rfl (show Gives _ _ _ _ _ (.agg #[.string (rdOf zV m.V k).1, .string (rdOf zV m.V k).2]) from Gives.loadRow (kd := kV) (p := p) (m := m.V.length) (i := k) zV kV_encs rfl rfl ag26 sz26 (fun w' hs' => hV w' _ hs') (by omega) (by omega)) ?_
               refine GL.does [] rfl rfl rfl rfl (Does.lit (m := 1) (cs := #[.string (rdOf zV m.V k).1, .string (rdOf zV m.V k).2]) (e := 26) (Bs hB) rfl rfl (fun _ => by kernel_rfl)) fun g9 hg9 => ?_
               refine GL.does [1] rfl rfl rfl rfl (Does.appends (kd := kV) (Bs hB) rfl rfl rfl Try.underlying22 in26 rfl (by decide) (by decide) kV_flat (C_box (kd := kV) (i := 0) (p := (rdOf zV m.V k)) (inner := [.string (rdOf zV m.V k).1, .string (rdOf zV m.V k).2]) rfl (fun w => ⟨[_], [_], rfl, rfl, rfl⟩)) (by first | omega | (simp only [List.length_append, List.length_cons, List.length_nil]; omega))) fun v2 _ => ?_
               refine GL.gives rfl rfl rfl (Gives.assign rfl rfl) ?_
               refine GL.nil ?_
               refine GQ.blkN ?_
               refine GQ.thenN ?_
               refine GC.region ?_
               refine GL.gives rfl rfl rfl (Gives.move rfl rfl) ?_
               refine GL.gives rfl rfl rfl (Gives.add rfl rfl rfl (by omega)) ?_
               refine GL.gives rfl rfl rfl (Gives.assign rfl rfl) ?_
               refine GL.nil ?_
               have hsat' := sat_first hsat hk0 (by omega) (by simpa using h51)
               rw [if_neg h65] at hsat'
               refine GQ.back (k + 1, true, v2, _) [3, 3, 0] ⟨⟨by dsimp only; omega, by dsimp only; omega⟩, hsat', by simp only [List.length_append, List.length_cons, List.length_nil]; omega⟩ (by dsimp only; omega) ⟨rfl, rfl, rfl, rfl, rfl, rfl, rfl, trivial⟩ rfl
             ·
               replace h65 := str_nne h65
               refine GC.condF rfl rfl ?_
               refine GC.skip ?_
               refine GQ.blkN ?_
               refine GQ.thenN ?_
               refine GC.region ?_
               refine GL.gives rfl rfl rfl (Gives.move rfl rfl) ?_
               refine GL.gives rfl rfl rfl (Gives.add rfl rfl rfl (by omega)) ?_
               refine GL.gives rfl rfl rfl (Gives.assign rfl rfl) ?_
               refine GL.nil ?_
               have hsat' := sat_first hsat hk0 (by omega) (by simpa using h51)
               rw [if_pos h65] at hsat'
               refine GQ.back (k + 1, true, v1, _) [2, 2, 0] ⟨⟨by dsimp only; omega, by dsimp only; omega⟩, hsat', by simp only [List.length_append, List.length_cons, List.length_nil]; omega⟩ (by dsimp only; omega) ⟨rfl, rfl, rfl, rfl, rfl, rfl, rfl, trivial⟩ rfl
           ·
             have _ := h51
             refine GC.condF rfl rfl ?_
             refine GC.skip ?_
             refine GQ.thenN ?_
             refine GC.seq ?_
             refine GC.region ?_
             refine GL.gives rfl rfl rfl (Gives.fieldAddr (q := ⟨gt, 0, none⟩) rfl rfl (fun _ => by kernel_rfl)) ?_
             refine GL.gives rfl rfl rfl (Gives.loadc (v := .slice (some p) m.V.length cv) 0 rfl rfl pl22 rfl rfl) ?_
             refine GL.gives rfl rfl rfl (Gives.move rfl rfl) ?_
             refine GL.gives rfl rfl rfl (Gives.indexAddr (i := k) rfl rfl rfl Try.underlying22 sz26 (by omega) (by omega)) ?_
             refine GL.gives rfl rfl rfl (Gives.fieldAddr (q := (p.add (k.toNat * 2))) rfl rfl (fun _ => by kernel_rfl)) ?_
             refine GL.gives rfl rfl rfl (Gives.load rfl rfl pl9 (fun w' hs' => (cV (hV w' _ hs') k (by omega) (by omega)).1)) ?_
             refine GL.gives rfl rfl rfl (Gives.move rfl rfl) ?_
             refine GL.gives rfl rfl rfl (Gives.nes rfl rfl rfl) ?_
             refine GL.nil ?_
             refine GQ.thenN ?_
             refine GC.split (t := 65) rfl (fun h65 => ?_) (fun h65 => ?_)
             ·
               replace h65 := str_neq h65
               refine GC.condT rfl rfl ?_
               refine GC.region ?_
               refine GL.gives rfl rfl rfl (Gives.move rfl rfl) ?_
               refine GL.gives rfl rfl rfl (Gives.fieldAddr (q := ⟨gt, 0, none⟩) rfl rfl (fun _ => by kernel_rfl)) ?_
               refine GL.gives rfl rfl rfl (Gives.loadc (v := .slice (some p) m.V.length cv) 0 rfl rfl pl22 rfl rfl) ?_
               refine GL.gives rfl rfl rfl (Gives.move rfl rfl) ?_
               refine GL.gives rfl rfl rfl (Gives.indexAddr (i := k) rfl rfl rfl Try.underlying22 sz26 (by omega) (by omega)) ?_
               refine GL.gives rfl rfl rfl (show Gives _ _ _ _ _ (.agg #[.string (rdOf zV m.V k).1, .string (rdOf zV m.V k).2]) from Gives.loadRow (kd := kV) (p := p) (m := m.V.length) (i := k) zV kV_encs rfl rfl ag26 sz26 (fun w' hs' => hV w' _ hs') (by omega) (by omega)) ?_
               refine GL.does [] rfl rfl rfl rfl (Does.lit (m := 1) (cs := #[.string (rdOf zV m.V k).1, .string (rdOf zV m.V k).2]) (e := 26) (Bs hB) rfl rfl (fun _ => by kernel_rfl)) fun g10 hg10 => ?_
               refine GL.does [3] rfl rfl rfl rfl (Does.appends (kd := kV) (Bs hB) rfl rfl rfl Try.underlying22 in26 rfl (by decide) (by decide) kV_flat (C_box (kd := kV) (i := 0) (p := (rdOf zV m.V k)) (inner := [.string (rdOf zV m.V k).1, .string (rdOf zV m.V k).2]) rfl (fun w => ⟨[_], [_], rfl, rfl, rfl⟩)) (by first | omega | (simp only [List.length_append, List.length_cons, List.length_nil]; omega))) fun v2 _ => ?_
               refine GL.gives rfl rfl rfl (Gives.assign rfl rfl) ?_
               refine GL.nil ?_
               refine GQ.blkN ?_
               refine GQ.thenN ?_
               refine GC.region ?_
               refine GL.gives rfl rfl rfl (Gives.move rfl rfl) ?_
               refine GL.gives rfl rfl rfl (Gives.add rfl rfl rfl (by omega)) ?_
               refine GL.gives rfl rfl rfl (Gives.assign rfl rfl) ?_
               refine GL.nil ?_
               have hx : slt (rdOf zV m.V k).1 a := by simpa using h51
               have hsat' := sat_less hsat hk0 (by omega) hx
               refine GQ.back (k + 1, false, v2, _) [2, 2, 0] ⟨⟨by dsimp only; omega, by dsimp only; omega⟩, hsat', by simp only [List.length_append, List.length_cons, List.length_nil]; omega⟩ (by dsimp only; omega) ⟨rfl, rfl, rfl, rfl, rfl, rfl, rfl, trivial⟩ rfl
             ·
               replace h65 := str_nne h65
               refine GC.condF rfl rfl ?_
               refine GC.skip ?_
               refine GQ.blkN ?_
               refine GQ.thenN ?_
               refine GC.region ?_
               refine GL.gives rfl rfl rfl (Gives.move rfl rfl) ?_
               refine GL.gives rfl rfl rfl (Gives.add rfl rfl rfl (by omega)) ?_
               refine GL.gives rfl rfl rfl (Gives.assign rfl rfl) ?_
               refine GL.nil ?_
               exfalso
               have hx : slt (rdOf zV m.V k).1 a := by simpa using h51
               rw [h65] at hx
               exact slt_irrefl _ hx
         ·
           have hdone : done = true := by simpa using h42
           subst hdone
           refine GL.skip rfl rfl rfl ?_
           refine GL.skip rfl rfl rfl ?_
           refine GL.skip rfl rfl rfl ?_
           refine GL.skip rfl rfl rfl ?_
           refine GL.skip rfl rfl rfl ?_
           refine GL.skip rfl rfl rfl ?_
           refine GL.skip rfl rfl rfl ?_
           refine GL.skip rfl rfl rfl ?_
           refine GL.gives rfl rfl rfl (Gives.pickF rfl rfl rfl rfl) ?_
           refine GL.nil ?_
           refine GQ.thenN ?_
           refine GC.condF rfl rfl ?_
           refine GC.skip ?_
           refine GQ.thenN ?_
           refine GC.seq ?_
           refine GC.region ?_
           refine GL.gives rfl rfl rfl (Gives.fieldAddr (q := ⟨gt, 0, none⟩) rfl rfl (fun _ => by kernel_rfl)) ?_
           refine GL.gives rfl rfl rfl (Gives.loadc (v := .slice Av m.V.length cv) 0 rfl rfl pl22 rfl rfl) ?_
           refine GL.gives rfl rfl rfl (Gives.move rfl rfl) ?_
           obtain ⟨p, hp⟩ := C_some (hCV w hS) (by omega)
           subst hp
           refine GL.gives rfl rfl rfl (Gives.indexAddr (i := k) rfl rfl rfl Try.underlying22 sz26 (by omega) (by omega)) ?_
           refine GL.gives rfl rfl rfl (Gives.fieldAddr (q := (p.add (k.toNat * 2))) rfl rfl (fun _ => by kernel_rfl)) ?_
           refine GL.gives rfl rfl rfl (Gives.load rfl rfl pl9 (fun w' hs' => (cV (hV w' _ hs') k (by omega) (by omega)).1)) ?_
           refine GL.gives rfl rfl rfl (Gives.move rfl rfl) ?_
           refine GL.gives rfl rfl rfl (Gives.nes rfl rfl rfl) ?_
           refine GL.nil ?_
           refine GQ.thenN ?_
           refine GC.split (t := 65) rfl (fun h65 => ?_) (fun h65 => ?_)
           ·
             replace h65 := str_neq h65
             refine GC.condT rfl rfl ?_
             refine GC.region ?_
             refine GL.gives rfl rfl rfl (Gives.move rfl rfl) ?_
             refine GL.gives rfl rfl rfl (Gives.fieldAddr (q := ⟨gt, 0, none⟩) rfl rfl (fun _ => by kernel_rfl)) ?_
             refine GL.gives rfl rfl rfl (Gives.loadc (v := .slice (some p) m.V.length cv) 0 rfl rfl pl22 rfl rfl) ?_
             refine GL.gives rfl rfl rfl (Gives.move rfl rfl) ?_
             refine GL.gives rfl rfl rfl (Gives.indexAddr (i := k) rfl rfl rfl Try.underlying22 sz26 (by omega) (by omega)) ?_
             refine GL.gives rfl rfl rfl (show Gives _ _ _ _ _ (.agg #[.string (rdOf zV m.V k).1, .string (rdOf zV m.V k).2]) from Gives.loadRow (kd := kV) (p := p) (m := m.V.length) (i := k) zV kV_encs rfl rfl ag26 sz26 (fun w' hs' => hV w' _ hs') (by omega) (by omega)) ?_
             refine GL.does [] rfl rfl rfl rfl (Does.lit (m := 1) (cs := #[.string (rdOf zV m.V k).1, .string (rdOf zV m.V k).2]) (e := 26) (Bs hB) rfl rfl (fun _ => by kernel_rfl)) fun g11 hg11 => ?_
             refine GL.does [3] rfl rfl rfl rfl (Does.appends (kd := kV) (Bs hB) rfl rfl rfl Try.underlying22 in26 rfl (by decide) (by decide) kV_flat (C_box (kd := kV) (i := 0) (p := (rdOf zV m.V k)) (inner := [.string (rdOf zV m.V k).1, .string (rdOf zV m.V k).2]) rfl (fun w => ⟨[_], [_], rfl, rfl, rfl⟩)) (by first | omega | (simp only [List.length_append, List.length_cons, List.length_nil]; omega))) fun v2 _ => ?_
             refine GL.gives rfl rfl rfl (Gives.assign rfl rfl) ?_
             refine GL.nil ?_
             refine GQ.blkN ?_
             refine GQ.thenN ?_
             refine GC.region ?_
             refine GL.gives rfl rfl rfl (Gives.move rfl rfl) ?_
             refine GL.gives rfl rfl rfl (Gives.add rfl rfl rfl (by omega)) ?_
             refine GL.gives rfl rfl rfl (Gives.assign rfl rfl) ?_
             refine GL.nil ?_
             have hsat' := (sat_later hm.up hsat hk0 (by omega)).2
             refine GQ.back (k + 1, true, v2, _) [2, 2, 0] ⟨⟨by dsimp only; omega, by dsimp only; omega⟩, hsat', by simp only [List.length_append, List.length_cons, List.length_nil]; omega⟩ (by dsimp only; omega) ⟨rfl, rfl, rfl, rfl, rfl, rfl, rfl, trivial⟩ rfl
           ·
             replace h65 := str_nne h65
             refine GC.condF rfl rfl ?_
             refine GC.skip ?_
             refine GQ.blkN ?_
             refine GQ.thenN ?_
             refine GC.region ?_
             refine GL.gives rfl rfl rfl (Gives.move rfl rfl) ?_
             refine GL.gives rfl rfl rfl (Gives.add rfl rfl rfl (by omega)) ?_
             refine GL.gives rfl rfl rfl (Gives.assign rfl rfl) ?_
             refine GL.nil ?_
             exact absurd h65 (sat_later hm.up hsat hk0 (by omega)).1
       ·
         replace h37 := of_decide_eq_false h37
         refine GC.condF rfl rfl ?_
         refine GC.exit ?_
         refine GQ.thenX ?_
         refine GQ.thenX ?_
         refine GQ.blkX ?_
         refine GQ.thenN ?_
         refine GC.seq ?_
         refine GC.seq ?_
         obtain rfl : k = m.V.length := by omega
         simp only [Int.toNat_natCast] at hsat
         have hend := sat_end hsat
         refine GC.region ?_
         refine GL.gives rfl rfl rfl (Gives.move rfl rfl) ?_
         refine GL.gives rfl rfl rfl (Gives.not rfl rfl) ?_
         refine GL.nil ?_
         refine GQ.thenN ?_
         refine GC.split (t := 75) rfl (fun h75 => ?_) (fun h75 => ?_)
         ·
           have hdone : done = false := by simpa using h75
           subst hdone
           refine GC.condT rfl rfl ?_
           refine GC.region ?_
           refine GL.gives rfl rfl rfl (Gives.move rfl rfl) ?_
           refine GL.gives rfl rfl rfl (Gives.move rfl rfl) ?_
           refine GL.gives rfl rfl rfl (Gives.move rfl rfl) ?_
           refine GL.gives rfl rfl rfl (Gives.build (v := .agg #[.string a, .string b]) rfl rfl (fun _ => by kernel_rfl)) ?_
           refine GL.does [] rfl rfl rfl rfl (Does.lit (m := 1) (cs := #[.string a, .string b]) (e := 26) (Bs hB) rfl rfl (fun _ => by kernel_rfl)) fun g12 hg12 => ?_
           refine GL.does [3] rfl rfl rfl rfl (Does.appends (kd := kV) (Bs hB) rfl rfl rfl Try.underlying22 in26 rfl (by decide) (by decide) kV_flat (C_box (kd := kV) (i := 0) (p := (a, b)) (inner := [.string a, .string b]) rfl (fun w => ⟨[_], [_], rfl, rfl, rfl⟩)) (by first | omega | (simp only [List.length_append, List.length_cons, List.length_nil]; omega))) fun v3 _ => ?_
           refine GL.gives rfl rfl rfl (Gives.assign rfl rfl) ?_
           refine GL.nil ?_
           refine GQ.thenN ?_
           refine GC.seq ?_
           refine GC.know (one_row (i := 0) rfl) fun h1 => ?_
           refine GC.region ?_
           refine GL.gives rfl rfl rfl (Gives.move rfl rfl) ?_
           refine GL.gives rfl rfl rfl (Gives.fieldAddr (q := ⟨gt, 0, none⟩) rfl rfl (fun _ => by kernel_rfl)) ?_
           refine GL.does0 [2] rfl rfl rfl (Does.store rfl rfl rfl sz22 (cells_one h1) h1 rfl rfl) fun _ _ => ?_
           refine GL.nil ?_
           refine GQ.thenN ?_
           refine GC.seq ?_
           refine GC.region ?_
           refine GL.gives rfl rfl rfl (Gives.loadb (cs := #[v3, .slice Aa m.A.length ca, .int .i64 m.st]) 0 rfl rfl ag36 sz36 rfl) ?_
           refine GL.does0 [3] rfl rfl rfl (Does.storeb rfl rfl rfl sz36 (by first | (simp [Value.oneCell']; done) | (simp [one_int, one_bool, one_string, one_slice, one_pointer, *]; done)) rfl) fun _ _ => ?_
           refine GL.gives rfl rfl rfl (Gives.assign rfl rfl) ?_
           refine GL.nil ?_
           refine GQ.thenN ?_
           refine GC.ret ?_
           refine GQ.retT (vs := [.agg #[v3, .slice Aa m.A.length ca, .int .i64 m.st], .int .i64 0]) (.inl rfl) rfl rfl ⟨⟨_, rfl, lv_agg (cs := #[v3, .slice Aa m.A.length ca, .int .i64 m.st]) (i := 0) rfl ag36 sz36⟩, rfl, trivial⟩ ?_
           intro w' hs
           refine ⟨v3, rfl, trivial, ?_⟩
           rw [← hend]
           exact hs.take (is := [2]) rfl
         ·
           have hdone : done = true := by simpa using h75
           subst hdone
           refine GC.condF rfl rfl ?_
           refine GC.skip ?_
           refine GQ.thenN ?_
           refine GC.seq ?_
           refine GC.know (one_row (i := 2) rfl) fun h1 => ?_
           refine GC.region ?_
           refine GL.gives rfl rfl rfl (Gives.move rfl rfl) ?_
           refine GL.gives rfl rfl rfl (Gives.fieldAddr (q := ⟨gt, 0, none⟩) rfl rfl (fun _ => by kernel_rfl)) ?_
           refine GL.does0 [0] rfl rfl rfl (Does.store rfl rfl rfl sz22 (cells_one h1) h1 rfl rfl) fun _ _ => ?_
           refine GL.nil ?_
           refine GQ.thenN ?_
           refine GC.seq ?_
           refine GC.region ?_
           refine GL.gives rfl rfl rfl (Gives.loadb (cs := #[v, .slice Aa m.A.length ca, .int .i64 m.st]) 0 rfl rfl ag36 sz36 rfl) ?_
           refine GL.does0 [1] rfl rfl rfl (Does.storeb rfl rfl rfl sz36 (by first | (simp [Value.oneCell']; done) | (simp [one_int, one_bool, one_string, one_slice, one_pointer, *]; done)) rfl) fun _ _ => ?_
           refine GL.gives rfl rfl rfl (Gives.assign rfl rfl) ?_
           refine GL.nil ?_
           refine GQ.thenN ?_
           refine GC.ret ?_
           refine GQ.retT (vs := [.agg #[v, .slice Aa m.A.length ca, .int .i64 m.st], .int .i64 0]) (.inl rfl) rfl rfl ⟨⟨_, rfl, lv_agg (cs := #[v, .slice Aa m.A.length ca, .int .i64 m.st]) (i := 0) rfl ag36 sz36⟩, rfl, trivial⟩ ?_
           intro w' hs
           refine ⟨v, rfl, trivial, ?_⟩
           rw [← hend]
           exact hs.take (is := [2]) rfl

end Go.Proofs.Yteckdfgllipilaa.VR
