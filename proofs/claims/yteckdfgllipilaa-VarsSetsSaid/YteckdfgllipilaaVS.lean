/- A table's variables set and taken away; a table made. -/
import Derived.Test.YteckdfgllipilaaVD
namespace Go.Proofs.Yteckdfgllipilaa.VS
open Go.RowKit Go.Proofs.YteckdfgllipilaaW.PrintWords Go.Proofs.YteckdfgllipilaaW.PrintLast Go.Proofs.YteckdfgllipilaaS Go.Proofs.Yteckdfgllipilaa.NU Go.Proofs.Yteckdfgllipilaa.NV Go.Proofs.Yteckdfgllipilaa.NW Go.Proofs.Yteckdfgllipilaa.VP Go.Proofs.Yteckdfgllipilaa.VT Go.Proofs.Yteckdfgllipilaa.VU Go.Proofs.Yteckdfgllipilaa.VI Go.Proofs.Yteckdfgllipilaa.VD

/-! ### a variable set, among others by rising names -/
noncomputable def putV : List VT → ByteArray → ByteArray → List VT
  | [], s, v => [(s, v)]
  | x :: V, s, v => if slt x.1 s then x :: putV V s v else if x.1 = s then (s, v) :: V else (s, v) :: x :: V
def delV (V : List VT) (s : ByteArray) : List VT := V.filter fun x => decide (x.1 ≠ s)
def has (V : List VT) (s : ByteArray) : Bool := V.any fun x => decide (x.1 = s)
theorem has_iff {V : List VT} {s : ByteArray} : has V s = true ↔ ∃ x ∈ V, x.1 = s := by simp [has]
theorem put_found : ∀ {V : List VT} {s v : ByteArray} {i : Nat} (hi : i < V.length), (∀ k (hk : k < i), slt (V[k]'(by omega)).1 s) → V[i].1 = s → V.set i (s, v) = putV V s v
  | x :: V, s, v, 0, hi, hlo, he => by
    have he' : x.1 = s := he
    rw [putV, if_neg (by rw [he']; exact slt_irrefl _), if_pos he']
    rfl
  | x :: V, s, v, i + 1, hi, hlo, he => by
    have h0 : slt x.1 s := hlo 0 (by omega)
    rw [putV, if_pos h0, List.set_cons_succ, put_found (V := V) (i := i) (by simpa using hi) (fun k hk => hlo (k + 1) (by omega)) he]
theorem put_new : ∀ {V : List VT} {s v : ByteArray} {i : Nat} (hi : i ≤ V.length), (∀ k (hk : k < i), slt (V[k]'(by omega)).1 s) → (∀ (h : i < V.length), ¬ slt (V[i]'h).1 s ∧ (V[i]'h).1 ≠ s) → ins V i (s, v) = putV V s v
  | [], s, v, i, hi, _, _ => by simp [ins, putV]
  | x :: V, s, v, 0, hi, hlo, hh => by
    obtain ⟨h1, h2⟩ : ¬ slt x.1 s ∧ x.1 ≠ s := hh (by simp)
    rw [putV, if_neg h1, if_neg h2]
    rfl
  | x :: V, s, v, i + 1, hi, hlo, hh => by
    have h0 : slt x.1 s := hlo 0 (by omega)
    have ih := put_new (V := V) (s := s) (v := v) (i := i) (by simpa using hi) (fun k hk => hlo (k + 1) (by omega)) (fun h => hh (by simpa using h))
    rw [putV, if_pos h0, ← ih]
    rfl
theorem put_names : ∀ {V : List VT} {s v : ByteArray} {x : VT}, x ∈ putV V s v → x = (s, v) ∨ x ∈ V
  | [], s, v, x, h => by simp [putV] at h; exact .inl h
  | y :: V, s, v, x, h => by
    rw [putV] at h
    split at h
    · rcases List.mem_cons.1 h with h | h
      · exact .inr (by rw [h]; exact List.mem_cons_self)
      · rcases put_names h with h | h
        · exact .inl h
        · exact .inr (List.mem_cons_of_mem _ h)
    · split at h
      · rcases List.mem_cons.1 h with h | h
        · exact .inl h
        · exact .inr (List.mem_cons_of_mem _ h)
      · rcases List.mem_cons.1 h with h | h
        · exact .inl h
        · exact .inr h
theorem put_up : ∀ {V : List VT} {s v : ByteArray}, Up V → Up (putV V s v)
  | [], s, v, _ => by simp [putV, Up]
  | x :: V, s, v, h => by
    obtain ⟨h1, h2⟩ := List.pairwise_cons.1 h
    rw [putV]
    split
    · rename_i hx
      refine List.pairwise_cons.2 ⟨fun y hy => ?_, put_up h2⟩
      rcases put_names hy with rfl | hy
      · exact hx
      · exact h1 y hy
    · rename_i hx
      split
      · rename_i he
        subst he
        exact List.pairwise_cons.2 ⟨h1, h2⟩
      · rename_i hne
        have hs : slt s x.1 := Classical.byContradiction fun hn => hne (slt_total hx hn)
        exact List.pairwise_cons.2 ⟨fun y hy => by
          rcases List.mem_cons.1 hy with rfl | hy
          · exact hs
          · exact slt_trans hs (h1 y hy), h⟩
theorem put_len : ∀ {V : List VT} {s v : ByteArray}, Up V → (putV V s v).length = if has V s = true then V.length else V.length + 1
  | [], s, v, _ => by simp [putV, has]
  | x :: V, s, v, h => by
    obtain ⟨h1, h2⟩ := List.pairwise_cons.1 h
    have hh : has (x :: V) s = (decide (x.1 = s) || has V s) := by simp [has]
    rw [putV, hh]
    split
    · rename_i hx
      have hne : x.1 ≠ s := fun e => by rw [e] at hx; exact slt_irrefl _ hx
      rw [List.length_cons, put_len h2]
      simp only [hne, decide_false, Bool.false_or, List.length_cons]
      split <;> rfl
    · rename_i hx
      split
      · rename_i he
        simp [he]
      · rename_i hne
        have hs : slt s x.1 := Classical.byContradiction fun hn => hne (slt_total hx hn)
        have : has V s = false := by
          rw [← Bool.not_eq_true, has_iff]
          rintro ⟨y, hy, rfl⟩
          exact slt_asymm hs (h1 y hy)
        simp [hne, this]
theorem at_idx {V : List VT} {s : ByteArray} {i : Int} (h : At V s i) : ∀ k (hk : k < i.toNat), slt (V[k]'(by have := h.bd; omega)).1 s := fun k hk => by
  have hb := h.bd
  have h1 := h.lo (k : Int) (by omega) (by omega)
  have hlt : k < V.length := by omega
  have h2 : rdOf zV V (k : Int) = V[k] := by simp [rdOf, List.getD_eq_getElem?_getD, List.getElem?_eq_getElem hlt]
  rwa [h2] at h1
theorem at_found {V : List VT} {s v : ByteArray} {i : Int} (h : At V s i) (hf : i < V.length ∧ (rdOf zV V i).1 = s) : V.set i.toNat (s, v) = putV V s v ∧ has V s = true := by
  have hb := h.bd
  obtain ⟨hlt, e⟩ := rd_at hb.1 hf.1
  have he := hf.2
  rw [e] at he
  exact ⟨put_found hlt (at_idx h) he, has_iff.2 ⟨_, List.getElem_mem hlt, he⟩⟩
theorem at_new {V : List VT} {s v : ByteArray} {i : Int} (h : At V s i) (hu : Up V) (hf : ¬ (i < V.length ∧ (rdOf zV V i).1 = s)) : ins V i.toNat (s, v) = putV V s v ∧ has V s = false := by
  have hb := h.bd
  refine ⟨put_new (by omega) (at_idx h) (fun hlt => ?_), ?_⟩
  · have h1 := h.hi i (Int.le_refl _) (by omega)
    obtain ⟨hlt', e⟩ := rd_at (V := V) (k := i) hb.1 (by omega)
    rw [e] at h1
    exact ⟨h1, fun he => hf ⟨by omega, by rw [e]; exact he⟩⟩
  · rw [← Bool.not_eq_true, has_iff]
    rintro ⟨x, hx, he⟩
    exact at_none h hu hf x hx he
theorem del_found {V : List VT} {s : ByteArray} {i : Int} (h : At V s i) (hu : Up V) (hf : i < V.length ∧ (rdOf zV V i).1 = s) : del V i.toNat = delV V s := by
  have hb := h.bd
  obtain ⟨hlt, e⟩ := rd_at hb.1 hf.1
  have he := hf.2
  rw [e] at he
  have hs : V = V.take i.toNat ++ V[i.toNat] :: V.drop (i.toNat + 1) := by rw [List.getElem_cons_drop, List.take_append_drop]
  have h1 : (V.take i.toNat).filter (fun x => decide (x.1 ≠ s)) = V.take i.toNat := List.filter_eq_self.2 fun x hx => by
    obtain ⟨k, hk, rfl⟩ := List.mem_iff_getElem.1 hx
    rw [List.length_take] at hk
    rw [List.getElem_take]
    have := at_idx h k (by omega)
    exact decide_eq_true fun e => by rw [e] at this; exact slt_irrefl _ this
  have h2 : (V.drop (i.toNat + 1)).filter (fun x => decide (x.1 ≠ s)) = V.drop (i.toNat + 1) := List.filter_eq_self.2 fun x hx => by
    obtain ⟨k, hk, rfl⟩ := List.mem_iff_getElem.1 hx
    rw [List.length_drop] at hk
    rw [List.getElem_drop]
    have := List.pairwise_iff_getElem.1 hu i.toNat (i.toNat + 1 + k) hlt (by omega) (by omega)
    rw [he] at this
    exact decide_eq_true fun e => by rw [e] at this; exact slt_irrefl _ this
  unfold del delV
  conv => rhs; rw [hs]
  rw [List.filter_append, List.filter_cons_of_neg (by simp [he]), h1, h2]
theorem del_none {V : List VT} {s : ByteArray} (h : ∀ x ∈ V, x.1 ≠ s) : delV V s = V := List.filter_eq_self.2 fun x hx => decide_eq_true (h x hx)
noncomputable def tSet (m : T) (s v : ByteArray) : T × Int := if isName s = false then (m, 70) else if 4096 < v.size then (m, 2) else if has m.V s = false ∧ 64 ≤ m.V.length then (m, 2) else ({ m with V := putV m.V s v }, 0)
def tUnset (m : T) (s : ByteArray) : T := { m with V := delV m.V s }
theorem set_name {m : T} {s v : ByteArray} (h : isName s = false) : tSet m s v = (m, 70) := if_pos h
theorem set_long {m : T} {s v : ByteArray} (h : isName s = true) (h2 : 4096 < v.size) : tSet m s v = (m, 2) := (if_neg (by simp [h])).trans (if_pos h2)
theorem set_full {m : T} {s v : ByteArray} (h : isName s = true) (h2 : ¬ 4096 < v.size) (h3 : has m.V s = false) (h4 : 64 ≤ m.V.length) : tSet m s v = (m, 2) := (if_neg (by simp [h])).trans ((if_neg h2).trans (if_pos ⟨h3, h4⟩))
theorem set_done {m : T} {s v : ByteArray} (h : isName s = true) (h2 : ¬ 4096 < v.size) (h3 : has m.V s = true ∨ m.V.length < 64) : tSet m s v = ({ m with V := putV m.V s v }, 0) := by
  have hn : ¬ (has m.V s = false ∧ 64 ≤ m.V.length) := by
    rintro ⟨h4, h5⟩
    rcases h3 with h3 | h3
    · rw [h3] at h4; cases h4
    · omega
  exact (if_neg (by simp [h])).trans ((if_neg h2).trans (if_neg hn))
theorem set_ok {m : T} (hm : m.Ok) (s v : ByteArray) : (tSet m s v).1.Ok := by
  unfold tSet
  split
  · exact hm
  · rename_i hn
    split
    · exact hm
    · split
      · exact hm
      · rename_i hf
        refine ⟨put_up hm.up, fun x hx => ?_, ?_, hm.nA, hm.lA, hm.st⟩
        · rcases put_names hx with rfl | hx
          · simpa using hn
          · exact hm.names x hx
        · show (putV m.V s v).length ≤ 64
          rw [put_len hm.up]
          have := hm.nV
          split
          · exact this
          · rename_i hh
            have : ¬ 64 ≤ m.V.length := fun h => hf ⟨by simpa using hh, h⟩
            omega
theorem unset_ok {m : T} (hm : m.Ok) (s : ByteArray) : (tUnset m s).Ok := ⟨List.Pairwise.filter _ hm.up, fun x hx => hm.names x (List.mem_filter.1 hx).1, Nat.le_trans (List.length_filter_le _ _) hm.nV, hm.nA, hm.lA, hm.st⟩
theorem set_cur {V : List VT} {i : Nat} {s v : ByteArray} {cur : Array Value} (hi : i < V.length) (he : V[i].1 = s) (ht : cur.toList.take (V.length * 2) = V.flatMap eV) : (cur.setIfInBounds (i * 2 + 1) (.string v)).toList.take (V.length * 2) = (V.set i (s, v)).flatMap eV := by
  rw [Array.toList_setIfInBounds, List.take_set, ht]
  subst he
  clear ht
  induction V generalizing i with
  | nil => simp at hi
  | cons x V ih =>
    cases i with
    | zero => rfl
    | succ i =>
      have := ih (i := i) (by simpa using hi)
      rw [List.flatMap_cons, List.set_cons_succ, List.flatMap_cons]
      show (List.set (.string x.1 :: .string x.2 :: V.flatMap eV) ((i + 1) * 2 + 1) _) = eV x ++ List.flatMap eV (V.set i ((V[i]'(by simpa using hi)).1, v))
      rw [← this, show (i + 1) * 2 + 1 = (i * 2 + 1) + 2 by omega]
      rfl

theorem mixed_ : Try.prog.follows .mixedOrders = true := by kernel_rfl
theorem pl22 : Plain Try.prog 22 := plain_slice Try.underlying22
theorem sz9 (w : World) : (sizeOf 9).run Try.prog w = .ok 1 w := by kernel_rfl
theorem sz22 (w : World) : (sizeOf 22).run Try.prog w = .ok 1 w := by kernel_rfl
theorem sz26 (w : World) : (sizeOf 26).run Try.prog w = .ok 2 w := by kernel_rfl
set_option maxRecDepth 100000 in
set_option maxHeartbeats 1000000 in
theorem set_con (B g : Nat) (vl al : Value) (m : T) (hm : m.Ok) (a b : ByteArray) (S : World → Prop) (hBS : ∀ w, S w → B ≤ w.heap.size) :
    Con Try.prog 15 [.pointer (some ⟨g, 0, none⟩), .string a, .string b] S (TK B g vl al m) (fun vl' : Value => .int .i64 (tSet m a b).2) (fun _ => True) (fun vl' => TK B g vl' al (tSet m a b).1) := by
 intro w F0 hS hs hlt
 have hB := hBS w hS
 obtain ⟨Av, cv, hvl, hcv⟩ := row_slice (i := 1) (B := B) (e := 26) (kd := kV) (v := vl) (xs := m.V) rfl w (St.start hs)
 obtain ⟨Aa, ca, hal, hca⟩ := row_slice (i := 2) (B := B) (e := 9) (kd := Kd.string) (v := al) (xs := m.A) rfl w (St.start hs)
 have hAa : 0 < m.A.length → ∃ g o, Aa = some ⟨g, o, none⟩ := fun h0 => by
     obtain ⟨g1, c1, h1⟩ := row_form (i := 2) (B := B) (e := 9) (kd := Kd.string) (v := al) (xs := m.A) rfl h0 w (St.start hs)
     rw [hal] at h1
     injection h1 with h2
     exact ⟨g1, 0, h2⟩
 subst hvl hal
 have hnV := hm.nV
 have hnA := hm.nA
 have hst := hm.st
 refine enter (args := [.pointer (some ⟨g, 0, none⟩), .string a, .string b]) Try.func15 rfl rfl rfl hs ?_
 refine GC.seq ?_
 refine GC.region ?_
 refine GL.gives rfl rfl rfl (Gives.assign rfl rfl) ?_
 refine GL.nil ?_
 refine GQ.thenN ?_
 refine GC.seq ?_
 refine GC.block ?_
 refine GC.seq ?_
 refine GC.region ?_
 refine GL.gives rfl rfl rfl (Gives.move rfl rfl) ?_
 refine GL.gives rfl rfl rfl (Gives.eqp rfl rfl rfl Try.underlying31) ?_
 refine GL.gives rfl rfl rfl (Gives.assign rfl rfl) ?_
 refine GL.nil ?_
 refine GQ.thenN ?_
 refine GC.condF rfl rfl ?_
 refine GC.seq ?_
 refine GC.region ?_
 refine GL.gives rfl rfl rfl (Gives.move rfl rfl) ?_
 refine GL.does [] rfl rfl rfl rfl (Does.call rfl rfl Try.func38 rfl rfl (word_Name_con a _)) fun _ _ => ?_
 refine GL.gives rfl rfl rfl (Gives.not rfl rfl) ?_
 refine GL.gives rfl rfl rfl (Gives.assign rfl rfl) ?_
 refine GL.nil ?_
 refine GQ.thenN ?_
 refine GC.split (t := 12) rfl (fun h12 => ?_) (fun h12 => ?_)
 ·
   replace h12 := by first | exact absurd h12 | simpa using h12
   refine GC.condT rfl rfl ?_
   refine GC.seq ?_
   refine GC.region ?_
   refine GL.gives rfl rfl rfl (Gives.assign rfl rfl) ?_
   refine GL.nil ?_
   refine GQ.thenN ?_
   refine GC.ret ?_
   refine GQ.blkR ?_
   refine GQ.thenR ?_
   refine GQ.ret1 (.inl rfl) rfl rfl ?_
   intro w hs
   refine ⟨.slice Av m.V.length cv, ?_, trivial, ?_⟩ <;> rw [set_name h12]
   exact hs
 ·
   replace h12 := by first | exact absurd h12 | simpa using h12
   refine GC.condF rfl rfl ?_
   refine GC.seq ?_
   refine GC.region ?_
   refine GL.gives rfl rfl rfl (Gives.move rfl rfl) ?_
   refine GL.gives rfl rfl rfl (Gives.lens rfl rfl Try.underlying9) ?_
   refine GL.gives rfl rfl rfl (Gives.gtr rfl rfl rfl) ?_
   refine GL.gives rfl rfl rfl (Gives.assign rfl rfl) ?_
   refine GL.nil ?_
   refine GQ.thenN ?_
   refine GC.split (t := 16) rfl (fun h16 => ?_) (fun h16 => ?_)
   ·
     replace h16 := of_decide_eq_true h16
     refine GC.condT rfl rfl ?_
     refine GC.seq ?_
     refine GC.region ?_
     refine GL.gives rfl rfl rfl (Gives.assign rfl rfl) ?_
     refine GL.nil ?_
     refine GQ.thenN ?_
     refine GC.ret ?_
     refine GQ.blkR ?_
     refine GQ.thenR ?_
     refine GQ.ret1 (.inl rfl) rfl rfl ?_
     intro w hs
     refine ⟨.slice Av m.V.length cv, ?_, trivial, ?_⟩ <;> rw [set_long h12 (by omega)]
     exact hs
   ·
     replace h16 := of_decide_eq_false h16
     refine GC.condF rfl rfl ?_
     refine GC.skip ?_
     refine GQ.blkN ?_
     refine GQ.thenN ?_
     refine GC.seq ?_
     refine GC.region ?_
     refine GL.gives rfl rfl rfl (Gives.move rfl rfl) ?_
     refine GL.gives rfl rfl rfl (Gives.move rfl rfl) ?_
     refine GL.does [0, 0, 0] rfl rfl rfl rfl (Does.call rfl rfl Try.func32 rfl rfl (place_con B g (.slice Av m.V.length cv) (.slice Aa m.A.length ca) m hm a _ (Bs hB))) fun i hi => ?_
     refine GL.gives rfl rfl rfl (Gives.move rfl rfl) ?_
     refine GL.gives rfl rfl rfl (Gives.extract (v := .int .i64 i) rfl rfl rfl) ?_
     refine GL.gives rfl rfl rfl (Gives.extract (v := .bool (decide (i < m.V.length ∧ (rdOf zV m.V i).1 = a))) rfl rfl rfl) ?_
     refine GL.gives rfl rfl rfl (Gives.assign rfl rfl) ?_
     refine GL.gives rfl rfl rfl (Gives.assign rfl rfl) ?_
     refine GL.nil ?_
     refine GQ.thenN ?_
     refine GC.seq ?_
     refine GC.block ?_
     refine GC.seq ?_
     refine GC.region ?_
     refine GL.gives rfl rfl rfl (Gives.move rfl rfl) ?_
     refine GL.gives rfl rfl rfl (Gives.assign rfl rfl) ?_
     refine GL.nil ?_
     refine GQ.thenN ?_
     refine GC.split (t := 39) rfl (fun hf => ?_) (fun hf => ?_)
     ·
       have hyes : i < m.V.length ∧ (rdOf zV m.V i).1 = a := of_decide_eq_true hf
       have hi0 := hi.bd.1
       refine GC.condT rfl rfl ?_
       refine GC.know (row_form (i := 1) rfl (by omega)) fun ⟨gv, c', hv⟩ => ?_
       injection hv with hv1 _ _
       subst hv1
       refine GC.openRow (enc := eV) [1] kV_encs rfl fun cur hcs hct hgv hcm => ?_
       have hcs' : cur.size = cv * 2 := hcs
       obtain ⟨hput, hhas⟩ := at_found (v := b) hi hyes
       have hset := set_done (m := m) (v := b) h12 (by omega) (.inl hhas)
       refine GC.region ?_
       refine GL.gives rfl rfl rfl (Gives.move rfl rfl) ?_
       refine GL.gives rfl rfl rfl (Gives.nilCheck rfl rfl) ?_
       refine GL.gives rfl rfl rfl (Gives.fieldAddr (q := ⟨g, 0, none⟩) rfl rfl (fun _ => by kernel_rfl)) ?_
       refine GL.gives rfl rfl rfl (Gives.loadc (v := .slice (some ⟨gv, 0, none⟩) m.V.length cv) 1 rfl rfl pl22 rfl rfl) ?_
       refine GL.gives rfl rfl rfl (Gives.move rfl rfl) ?_
       refine GL.gives rfl rfl rfl (Gives.move rfl rfl) ?_
       refine GL.gives rfl rfl rfl (Gives.indexAddr0 (i := i) rfl rfl rfl Try.underlying22 sz26 (by omega) hyes.1) ?_
       refine GL.gives rfl rfl rfl (Gives.fieldAddr (q := ⟨gv, i.toNat * 2 + 1, none⟩) rfl rfl (fun _ => by kernel_rfl)) ?_
       refine GL.does0 [0] rfl rfl rfl (Does.store (v := .string b) (u := cur[i.toNat * 2 + 1]'(by rw [hcs']; omega)) (cs' := cur.setIfInBounds (i.toNat * 2 + 1) (.string b)) rfl rfl rfl sz9 rfl rfl (Array.getElem?_eq_getElem _) rfl) fun _ _ => ?_
       obtain ⟨hlt, e⟩ := rd_at hi0 hyes.1
       have he := hyes.2
       rw [e] at he
       refine GL.turn [0] rfl (Turns.shut (kd := kV) (enc := eV) (xs := m.V.set i.toNat (a, b)) (m := m.V.length) (c := cv) eV_M eV_len hgv (by simp) hcv hcm (by simp [hcs]) (set_cur hlt he hct)) ?_
       rw [hput]
       refine GL.nil ?_
       refine GQ.blkN ?_
       refine GQ.thenN ?_
       refine GC.seq ?_
       refine GC.region ?_
       refine GL.gives rfl rfl rfl (Gives.assign rfl rfl) ?_
       refine GL.nil ?_
       refine GQ.thenN ?_
       refine GC.ret ?_
       refine GQ.ret1 (.inl rfl) rfl rfl ?_
       intro w hs
       rw [hset]
       exact ⟨.slice (some ⟨gv, 0, none⟩) m.V.length cv, rfl, trivial, hs.take (is := [1, 0, 0]) rfl⟩
     ·
       have hno : ¬ (i < m.V.length ∧ (rdOf zV m.V i).1 = a) := of_decide_eq_false hf
       have hi0 := hi.bd.1
       have hi1 := hi.bd.2
       refine GC.condF rfl rfl ?_
       refine GC.seq ?_
       refine GC.region ?_
       refine GL.gives rfl rfl rfl (Gives.move rfl rfl) ?_
       refine GL.gives rfl rfl rfl (Gives.nilCheck rfl rfl) ?_
       refine GL.gives rfl rfl rfl (Gives.fieldAddr (q := ⟨g, 0, none⟩) rfl rfl (fun _ => by kernel_rfl)) ?_
       refine GL.gives rfl rfl rfl (Gives.loadc (v := .slice Av m.V.length cv) 0 rfl rfl pl22 rfl rfl) ?_
       refine GL.gives rfl rfl rfl (Gives.len rfl rfl Try.underlying22) ?_
       refine GL.gives rfl rfl rfl (Gives.geq rfl rfl rfl) ?_
       refine GL.gives rfl rfl rfl (Gives.assign rfl rfl) ?_
       refine GL.nil ?_
       refine GQ.thenN ?_
       refine GC.split (t := 49) rfl (fun h49 => ?_) (fun h49 => ?_)
       ·
         replace h49 := of_decide_eq_true h49
         refine GC.condT rfl rfl ?_
         refine GC.seq ?_
         refine GC.region ?_
         refine GL.gives rfl rfl rfl (Gives.assign rfl rfl) ?_
         refine GL.nil ?_
         refine GQ.thenN ?_
         refine GC.ret ?_
         refine GQ.blkR ?_
         refine GQ.thenR ?_
         refine GQ.ret1 (.inl rfl) rfl rfl ?_
         obtain ⟨hput, hhas⟩ := at_new (v := b) hi hm.up hno
         intro w hs
         refine ⟨.slice Av m.V.length cv, ?_, trivial, ?_⟩ <;> rw [set_full h12 (by omega) hhas (by omega)]
         exact hs.take (is := [0, 0, 0]) rfl
       ·
         replace h49 := of_decide_eq_false h49
         refine GC.condF rfl rfl ?_
         obtain ⟨hput, hhas⟩ := at_new (v := b) hi hm.up hno
         have hset := set_done (m := m) (v := b) h12 (by omega) (.inr (by omega))
         refine GC.region ?_
         refine GL.gives rfl rfl rfl (Gives.move rfl rfl) ?_
         refine GL.gives rfl rfl rfl (Gives.move rfl rfl) ?_
         refine GL.gives rfl rfl rfl (Gives.nilCheck rfl rfl) ?_
         refine GL.gives rfl rfl rfl (Gives.fieldAddr (q := ⟨g, 0, none⟩) rfl rfl (fun _ => by kernel_rfl)) ?_
         refine GL.gives rfl rfl rfl (Gives.loadc (v := .slice Av m.V.length cv) 0 rfl rfl pl22 rfl rfl) ?_
         refine GL.gives rfl rfl rfl (Gives.move rfl rfl) ?_
         refine GL.gives rfl rfl rfl (Gives.move rfl rfl) ?_
         refine GL.gives rfl rfl rfl (Gives.move rfl rfl) ?_
         refine GL.gives rfl rfl rfl (Gives.build (v := .agg #[.string a, .string b]) rfl rfl (fun _ => by kernel_rfl)) ?_
         refine GL.does [] rfl rfl rfl rfl (Does.lit (m := 1) (cs := #[.string a, .string b]) (e := 26) (Bs hB) rfl rfl (fun _ => by kernel_rfl)) fun gl hgl => ?_
         refine GL.does [2, 0] rfl rfl rfl rfl (Does.call rfl rfl Try.func39 rfl rfl (insert_con B Av m.V.length cv m.V i a b gl ⟨hi0, hi1⟩ (by omega) _ (Bs hB))) fun v' _ => ?_
         refine GL.know (one_row (i := 0) rfl) fun h1 => ?_
         rw [hput]
         refine GL.gives rfl rfl rfl (Gives.nilCheck rfl rfl) ?_
         refine GL.gives rfl rfl rfl (Gives.fieldAddr (q := ⟨g, 0, none⟩) rfl rfl (fun _ => by kernel_rfl)) ?_
         refine GL.does0 [1] rfl rfl rfl (Does.store rfl rfl rfl sz22 (cells_one h1) h1 rfl rfl) fun _ _ => ?_
         refine GL.nil ?_
         refine GQ.blkN ?_
         refine GQ.thenN ?_
         refine GC.seq ?_
         refine GC.region ?_
         refine GL.gives rfl rfl rfl (Gives.assign rfl rfl) ?_
         refine GL.nil ?_
         refine GQ.thenN ?_
         refine GC.ret ?_
         refine GQ.ret1 (.inl rfl) rfl rfl ?_
         intro w hs
         rw [hset]
         exact ⟨v', rfl, trivial, hs.take (is := [0, 0, 0]) rfl⟩

set_option maxRecDepth 100000 in
set_option maxHeartbeats 1000000 in
theorem unset_con (B g : Nat) (vl al : Value) (m : T) (hm : m.Ok) (a : ByteArray) (S : World → Prop) (hBS : ∀ w, S w → B ≤ w.heap.size) :
    Con Try.prog 17 [.pointer (some ⟨g, 0, none⟩), .string a] S (TK B g vl al m) (fun vl' : Value => .tuple #[]) (fun _ => True) (fun vl' => TK B g vl' al (tUnset m a)) := by
 intro w F0 hS hs hlt
 have hB := hBS w hS
 obtain ⟨Av, cv, hvl, hcv⟩ := row_slice (i := 1) (B := B) (e := 26) (kd := kV) (v := vl) (xs := m.V) rfl w (St.start hs)
 obtain ⟨Aa, ca, hal, hca⟩ := row_slice (i := 2) (B := B) (e := 9) (kd := Kd.string) (v := al) (xs := m.A) rfl w (St.start hs)
 have hAa : 0 < m.A.length → ∃ g o, Aa = some ⟨g, o, none⟩ := fun h0 => by
     obtain ⟨g1, c1, h1⟩ := row_form (i := 2) (B := B) (e := 9) (kd := Kd.string) (v := al) (xs := m.A) rfl h0 w (St.start hs)
     rw [hal] at h1
     injection h1 with h2
     exact ⟨g1, 0, h2⟩
 subst hvl hal
 have hnV := hm.nV
 have hnA := hm.nA
 have hst := hm.st
 refine enter (args := [.pointer (some ⟨g, 0, none⟩), .string a]) Try.func17 rfl rfl rfl hs ?_
 refine GC.seq ?_
 refine GC.seq ?_
 refine GC.region ?_
 refine GL.gives rfl rfl rfl (Gives.move rfl rfl) ?_
 refine GL.gives rfl rfl rfl (Gives.eqp rfl rfl rfl Try.underlying31) ?_
 refine GL.nil ?_
 refine GQ.thenN ?_
 refine GC.condF rfl rfl ?_
 refine GC.skip ?_
 refine GQ.thenN ?_
 refine GC.seq ?_
 refine GC.region ?_
 refine GL.gives rfl rfl rfl (Gives.move rfl rfl) ?_
 refine GL.gives rfl rfl rfl (Gives.move rfl rfl) ?_
 refine GL.does [0, 0, 0] rfl rfl rfl rfl (Does.call rfl rfl Try.func32 rfl rfl (place_con B g (.slice Av m.V.length cv) (.slice Aa m.A.length ca) m hm a _ (Bs hB))) fun i hi => ?_
 refine GL.gives rfl rfl rfl (Gives.move rfl rfl) ?_
 refine GL.gives rfl rfl rfl (Gives.extract (v := .int .i64 i) rfl rfl rfl) ?_
 refine GL.gives rfl rfl rfl (Gives.extract (v := .bool (decide (i < m.V.length ∧ (rdOf zV m.V i).1 = a))) rfl rfl rfl) ?_
 refine GL.gives rfl rfl rfl (Gives.assign rfl rfl) ?_
 refine GL.gives rfl rfl rfl (Gives.assign rfl rfl) ?_
 refine GL.nil ?_
 refine GQ.thenN ?_
 refine GC.seq ?_
 refine GC.region ?_
 refine GL.gives rfl rfl rfl (Gives.move rfl rfl) ?_
 refine GL.nil ?_
 refine GQ.thenN ?_
 refine GC.split (t := 14) rfl (fun hf => ?_) (fun hf => ?_)
 ·
   have hyes : i < m.V.length ∧ (rdOf zV m.V i).1 = a := of_decide_eq_true hf
   have hi0 := hi.bd.1
   refine GC.condT rfl rfl ?_
   have hdel := del_found hi hm.up hyes
   refine GC.region ?_
   refine GL.gives rfl rfl rfl (Gives.move rfl rfl) ?_
   refine GL.gives rfl rfl rfl (Gives.move rfl rfl) ?_
   refine GL.gives rfl rfl rfl (Gives.nilCheck rfl rfl) ?_
   refine GL.gives rfl rfl rfl (Gives.fieldAddr (q := ⟨g, 0, none⟩) rfl rfl (fun _ => by kernel_rfl)) ?_
   refine GL.gives rfl rfl rfl (Gives.loadc (v := .slice Av m.V.length cv) 0 rfl rfl pl22 rfl rfl) ?_
   refine GL.gives rfl rfl rfl (Gives.move rfl rfl) ?_
   refine GL.gives rfl rfl rfl (Gives.move rfl rfl) ?_
   refine GL.gives rfl rfl rfl (Gives.add rfl rfl rfl (by omega)) ?_
   refine GL.does [1] rfl rfl rfl rfl (Does.call rfl rfl Try.func40 rfl rfl (delete_con B Av m.V.length cv m.V i ⟨hi0, hyes.1⟩ (by omega) _ (Bs hB))) fun v' _ => ?_
   refine GL.know (one_row (i := 0) rfl) fun h1 => ?_
   rw [hdel]
   refine GL.gives rfl rfl rfl (Gives.nilCheck rfl rfl) ?_
   refine GL.gives rfl rfl rfl (Gives.fieldAddr (q := ⟨g, 0, none⟩) rfl rfl (fun _ => by kernel_rfl)) ?_
   refine GL.does0 [1] rfl rfl rfl (Does.store rfl rfl rfl sz22 (cells_one h1) h1 rfl rfl) fun _ _ => ?_
   refine GL.nil ?_
   refine GQ.ret0 (.inr rfl) rfl ?_
   intro w hs
   exact ⟨v', rfl, trivial, hs.take (is := [0, 0, 0]) rfl⟩
 ·
   have hno : ¬ (i < m.V.length ∧ (rdOf zV m.V i).1 = a) := of_decide_eq_false hf
   have hi0 := hi.bd.1
   have hi1 := hi.bd.2
   refine GC.condF rfl rfl ?_
   refine GC.skip ?_
   refine GQ.ret0 (.inr rfl) rfl ?_
   intro w hs
   refine ⟨.slice Av m.V.length cv, rfl, trivial, ?_⟩
   unfold tUnset
   rw [del_none (at_none hi hm.up hno)]
   exact hs

end Go.Proofs.Yteckdfgllipilaa.VS
