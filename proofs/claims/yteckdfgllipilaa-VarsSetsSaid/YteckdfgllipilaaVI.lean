/- slices.Insert and slices.Delete over a table's variables. -/
import Derived.Test.YteckdfgllipilaaSC
import Derived.Test.YteckdfgllipilaaVU
namespace Go.Proofs.Yteckdfgllipilaa.VI
open Go.RowKit Go.Proofs.YteckdfgllipilaaW.PrintWords Go.Proofs.YteckdfgllipilaaW.PrintLast Go.Proofs.YteckdfgllipilaaS Go.Proofs.Yteckdfgllipilaa.NU Go.Proofs.Yteckdfgllipilaa.NV Go.Proofs.Yteckdfgllipilaa.NW Go.Proofs.Yteckdfgllipilaa.VP Go.Proofs.Yteckdfgllipilaa.VT Go.Proofs.Yteckdfgllipilaa.VU

abbrev eV : VT → List Value := fun x => [.string x.1, .string x.2]
theorem eV_len : ∀ p, (eV p).length = kV.sz := fun _ => rfl
theorem eV_M : ∀ w base p, kV.M w base (fun _ => False) p (eV p) := fun w base p => ⟨[_], [_], rfl, rfl, rfl⟩
theorem eV_one {V : List VT} : ∀ v ∈ V.flatMap eV, v.oneCell' = true := fun v hv => by
  obtain ⟨x, _, h⟩ := List.mem_flatMap.1 hv
  simp only [eV, List.mem_cons, List.not_mem_nil, or_false] at h
  rcases h with rfl | rfl <;> rfl
theorem eV_flen (V : List VT) : (V.flatMap eV).length = V.length * 2 := flat_len eV_len V
def ins (V : List VT) (i : Nat) (x : VT) : List VT := V.take i ++ x :: V.drop i
theorem ins_end (V : List VT) (x : VT) : V ++ [x] = ins V V.length x := by simp [ins]
theorem list_put (l src : List Value) (o k : Nat) (h : o + src.length ≤ k) (hk : k ≤ l.length) : (l.take o ++ src ++ l.drop (o + src.length)).take k = l.take o ++ src ++ (l.take k).drop (o + src.length) := by
  have h1 : (l.take o ++ src).length = o + src.length := by rw [List.length_append, List.length_take]; omega
  rw [List.take_append, List.take_of_length_le (by omega), h1, List.drop_take]
/-- A new block: the front, the new one, the others. -/
theorem ins_grow (V : List VT) (i : Nat) (x : VT) (cur : Array Value) (hi : i < V.length) (hs : (V.length + 1) * 2 ≤ cur.size) (ht : cur.toList.take (i * 2) = (V.take i).flatMap eV) :
    (putAt (putAt cur (i * 2) (eV x)) ((i + 1) * 2) ((V.drop i).flatMap eV)).toList.take ((V.length + 1) * 2) = (ins V i x).flatMap eV := by
  have hd : ((V.drop i).flatMap eV).length = (V.length - i) * 2 := by rw [eV_flen, List.length_drop]
  have h2 : (eV x).length = 2 := rfl
  have hsz : cur.toList.length = cur.size := rfl
  have e1 : (putAt cur (i * 2) (eV x)).toList = cur.toList.take (i * 2) ++ eV x ++ cur.toList.drop (i * 2 + 2) := rfl
  have e2 : (cur.toList.take (i * 2) ++ eV x).length = (i + 1) * 2 := by rw [List.length_append, List.length_take, h2]; omega
  have e3 : (putAt cur (i * 2) (eV x)).toList.take ((i + 1) * 2) = cur.toList.take (i * 2) ++ eV x := by rw [e1, List.take_left' e2]
  show ((putAt cur (i * 2) (eV x)).toList.take ((i + 1) * 2) ++ (V.drop i).flatMap eV ++ _).take _ = _
  rw [List.take_left' (by rw [e3, List.length_append, e2, hd]; omega), e3, ht]
  simp [ins, List.flatMap_append]
theorem ins_room (V : List VT) (i : Nat) (x : VT) (cur : Array Value) (hi : i < V.length) (hs : (V.length + 1) * 2 ≤ cur.size) (ht : cur.toList.take (V.length * 2) = V.flatMap eV) :
    (putAt (putAt cur ((i + 1) * 2) ((V.drop i).flatMap eV)) (i * 2) (eV x)).toList.take ((V.length + 1) * 2) = (ins V i x).flatMap eV := by
  have hd : ((V.drop i).flatMap eV).length = (V.length - i) * 2 := by rw [eV_flen, List.length_drop]
  have h2 : (eV x).length = 2 := rfl
  have hsz : cur.toList.length = cur.size := rfl
  have e1 : (putAt cur ((i + 1) * 2) ((V.drop i).flatMap eV)).toList = cur.toList.take ((i + 1) * 2) ++ (V.drop i).flatMap eV ++ cur.toList.drop ((i + 1) * 2 + ((V.drop i).flatMap eV).length) := rfl
  have e4 : (cur.toList.take ((i + 1) * 2)).length = (i + 1) * 2 := by rw [List.length_take]; omega
  have e5 : (putAt cur ((i + 1) * 2) ((V.drop i).flatMap eV)).toList.take (i * 2) = (V.take i).flatMap eV := by
    rw [e1, List.append_assoc, List.take_append_of_le_length (by rw [e4]; omega), List.take_take, Nat.min_eq_left (by omega), flat_take eV_len V i (by omega), ← ht, List.take_take, Nat.min_eq_left (by show i * 2 ≤ _; omega)]
    rfl
  have e6 : (putAt cur ((i + 1) * 2) ((V.drop i).flatMap eV)).toList.drop (i * 2 + 2) = (V.drop i).flatMap eV ++ cur.toList.drop ((i + 1) * 2 + ((V.drop i).flatMap eV).length) := by
    rw [e1, List.append_assoc, List.drop_left' (by rw [e4]; omega)]
  show ((putAt cur ((i + 1) * 2) ((V.drop i).flatMap eV)).toList.take (i * 2) ++ eV x ++ (putAt cur ((i + 1) * 2) ((V.drop i).flatMap eV)).toList.drop (i * 2 + 2)).take _ = _
  rw [e5, e6, ← List.append_assoc, List.take_left' (by rw [List.length_append, List.length_append, eV_flen, h2, hd, List.length_take]; omega)]
  simp [ins, List.flatMap_append]
theorem nmin_l {a b : Nat} (h : a ≤ b) : Nat.min a b = a := Nat.min_eq_left h
theorem nmin_r {a b : Nat} (h : b ≤ a) : Nat.min a b = b := Nat.min_eq_right h
theorem cells_from {w0 : World} {F0 : Nat → Prop} {L R : List Atom} {i g off : Nat} {cs : Array Value} {t : TypeId} {src : List Value} (hL : rem1 i L = some (Cells g cs t, R)) (h : ∀ j v, src[j]? = some v → cs[off + j]? = some v) : ∀ w, St w0 F0 w L → ∀ j v, src[j]? = some v → w.cell? ((⟨g, off, none⟩ : Addr).add j) = some v := fun w hs j v hj => by
  have := cell_at hL (h j v hj) w hs
  rw [← this]
  congr 1
  unfold Addr.add
  by_cases hq : j = 0 <;> simp [hq]
theorem row_from {w0 : World} {F0 : Nat → Prop} {L R : List Atom} {B e c k n g : Nat} {V : List VT} (hL : rem1 k L = some (Row B kV e (.slice (some ⟨g, 0, none⟩) n c) V, R)) (i : Nat) (hi : i ≤ V.length) : ∀ w, St w0 F0 w L → ∀ j v, ((V.drop i).flatMap eV)[j]? = some v → w.cell? ((⟨g, 0 + i * 2, none⟩ : Addr).add j) = some v := fun w hs j v hj => by
  have h := C_cells kV_encs eV_len (row_C hL w hs) (i * 2 + j) v (by rw [flat_drop eV_len V i hi, List.getElem?_drop] at hj; exact hj)
  rw [← h]
  congr 1
  unfold Addr.add
  by_cases hq1 : i * 2 = 0 <;> by_cases hq2 : j = 0 <;> simp [hq1, hq2]
theorem cur_drop {V : List VT} {cur : Array Value} {i n : Nat} (hn : n = V.length) (hi : i ≤ n) (ht : cur.toList.take (n * kV.sz) = V.flatMap eV) : ∀ (j : Nat) (v : Value), ((V.drop i).flatMap eV)[j]? = some v → cur[0 + i * 2 + j]? = some v := fun j v hj => by
  subst hn
  rw [flat_drop eV_len V i hi, ← ht, List.getElem?_drop, List.getElem?_take] at hj
  split at hj
  · rw [← Array.getElem?_toList]
    rw [← hj]
    congr 1
    show 0 + i * 2 + j = i * 2 + j
    omega
  · cases hj

theorem mixed_ : Try.prog.follows .mixedOrders = true := by kernel_rfl
theorem in26 : (Try.prog.info? 26).map (fun i => (i.zero, i.size, i.bytes)) = some (some (.agg #[.string (⟨#[]⟩ : ByteArray), .string (⟨#[]⟩ : ByteArray)]), 2, 32) := by kernel_rfl
theorem sz26 (w : World) : (sizeOf 26).run Try.prog w = .ok 2 w := by kernel_rfl
set_option maxRecDepth 100000 in
set_option maxHeartbeats 1000000 in
theorem insert_con (B : Nat) (Av : Option Addr) (n c : Nat) (V : List VT) (i : Int) (a b : ByteArray) (gl : Nat) (hi : 0 ≤ i ∧ i ≤ n) (hn : n ≤ 1000000) (S : World → Prop) (hBS : ∀ w, S w → B ≤ w.heap.size) :
    Con Try.prog 39 [.slice Av n c, .int .i64 i, .slice (some ⟨gl, 0, none⟩) 1 1] S [Row B kV 26 (.slice Av n c) V, Cells gl #[.string a, .string b] 26] (fun v : Value => v) (fun _ => True) (fun v => [Row B kV 26 v (ins V i.toNat (a, b))]) := by
 intro w F0 hS hs hlt
 have hB := hBS w hS
 obtain ⟨hlen, hnc⟩ := row_len (i := 0) (B := B) (e := 26) (kd := kV) (A := Av) (m := n) (c := c) (xs := V) rfl w (St.start hs)
 have hi0 := hi.1
 have hi1 := hi.2
 refine enter (args := [.slice Av n c, .int .i64 i, .slice (some ⟨gl, 0, none⟩) 1 1]) Try.func39 rfl rfl rfl hs ?_
 refine GC.seq ?_
 refine GC.region ?_
 refine GL.gives rfl rfl rfl (Gives.assign rfl rfl) ?_
 refine GL.nil ?_
 refine GQ.thenN ?_
 refine GC.seq ?_
 refine GC.region ?_
 refine GL.gives rfl rfl rfl (Gives.move rfl rfl) ?_
 refine GL.gives rfl rfl rfl (Gives.move rfl rfl) ?_
 refine GL.gives rfl rfl rfl (Gives.sl0 rfl rfl rfl Try.underlying22 sz26 (by omega) (by omega)) ?_
 refine GL.nil ?_
 refine GQ.thenN ?_
 refine GC.seq ?_
 refine GC.region ?_
 refine GL.gives rfl rfl rfl (Gives.move rfl rfl) ?_
 refine GL.gives rfl rfl rfl (Gives.len rfl rfl Try.underlying22) ?_
 refine GL.gives rfl rfl rfl (Gives.assign rfl rfl) ?_
 refine GL.nil ?_
 refine GQ.thenN ?_
 refine GC.seq ?_
 refine GC.seq ?_
 refine GC.region ?_
 refine GL.gives rfl rfl rfl (Gives.move rfl rfl) ?_
 refine GL.gives rfl rfl rfl (Gives.eqi rfl rfl rfl) ?_
 refine GL.nil ?_
 refine GQ.thenN ?_
 refine GC.condF rfl (by rfl) ?_
 refine GC.skip ?_
 refine GQ.thenN ?_
 refine GC.seq ?_
 refine GC.region ?_
 refine GL.gives rfl rfl rfl (Gives.move rfl rfl) ?_
 refine GL.gives rfl rfl rfl (Gives.len rfl rfl Try.underlying22) ?_
 refine GL.gives rfl rfl rfl (Gives.assign rfl rfl) ?_
 refine GL.nil ?_
 refine GQ.thenN ?_
 refine GC.seq ?_
 refine GC.seq ?_
 refine GC.region ?_
 refine GL.gives rfl rfl rfl (Gives.move rfl rfl) ?_
 refine GL.gives rfl rfl rfl (Gives.move rfl rfl) ?_
 refine GL.gives rfl rfl rfl (Gives.eqi rfl rfl rfl) ?_
 refine GL.nil ?_
 refine GQ.thenN ?_
 refine GC.split (t := 22) rfl (fun h22 => ?_) (fun h22 => ?_)
 ·
   replace h22 := by first | exact eq_of_beq h22 | simpa using h22
   refine GC.condT rfl rfl ?_
   refine GC.seq ?_
   refine GC.region ?_
   refine GL.gives rfl rfl rfl (Gives.move rfl rfl) ?_
   refine GL.gives rfl rfl rfl (Gives.move rfl rfl) ?_
   refine GL.does [0] rfl rfl rfl rfl (Does.appends (kd := kV) (Bs hB) rfl rfl rfl Try.underlying22 in26 rfl (by decide) (by decide) kV_flat (C_box (kd := kV) (i := 1) (p := (a, b)) (inner := [.string a, .string b]) rfl (fun w => ⟨[_], [_], rfl, rfl, rfl⟩)) (by omega)) fun v _ => ?_
   refine GL.gives rfl rfl rfl (Gives.assign rfl rfl) ?_
   refine GL.nil ?_
   refine GQ.thenN ?_
   refine GC.ret ?_
   refine GQ.thenR ?_
   refine GQ.ret1 (.inl rfl) rfl rfl ?_
   intro w hs
   refine ⟨v, rfl, trivial, ?_⟩
   rw [show i.toNat = V.length by omega, ← ins_end]
   exact hs.take (is := [0]) rfl
 ·
   replace h22 := by first | exact ne_of_beq_false h22 | simpa using h22
   refine GC.condF rfl rfl ?_
   refine GC.skip ?_
   refine GQ.thenN ?_
   refine GC.seq ?_
   refine GC.seq ?_
   refine GC.region ?_
   refine GL.gives rfl rfl rfl (Gives.move rfl rfl) ?_
   refine GL.gives rfl rfl rfl (Gives.move rfl rfl) ?_
   refine GL.gives rfl rfl rfl (Gives.add rfl rfl rfl (by omega)) ?_
   refine GL.gives rfl rfl rfl (Gives.move rfl rfl) ?_
   refine GL.gives rfl rfl rfl (Gives.cap rfl rfl Try.underlying22) ?_
   refine GL.gives rfl rfl rfl (Gives.gtr rfl rfl rfl) ?_
   refine GL.nil ?_
   refine GQ.thenN ?_
   refine GC.split (t := 31) rfl (fun h31 => ?_) (fun h31 => ?_)
   ·
     replace h31 := of_decide_eq_true h31
     refine GC.condT rfl rfl ?_
     refine GC.seq ?_
     refine GC.know (row_form (i := 0) rfl (by omega)) fun ⟨g, c', hv⟩ => ?_
     injection hv with hv1 _ _
     subst hv1
     refine GC.region ?_
     refine GL.gives rfl rfl rfl (Gives.move rfl rfl) ?_
     refine GL.gives rfl rfl rfl (Gives.move rfl rfl) ?_
     refine GL.gives rfl rfl rfl (Gives.slhp rfl rfl rfl Try.underlying22 sz26 (by omega) (by omega)) ?_
     refine GL.gives rfl rfl rfl (Gives.move rfl rfl) ?_
     refine GL.gives rfl rfl rfl (Gives.move rfl rfl) ?_
     refine GL.gives rfl rfl rfl (Gives.add rfl rfl rfl (by omega)) ?_
     refine GL.gives rfl rfl rfl (Gives.move rfl rfl) ?_
     refine GL.gives rfl rfl rfl (Gives.sub rfl rfl rfl (by omega)) ?_
     refine GL.does [] rfl rfl rfl rfl (Does.growZeros (e := 26) ((V.take i.toNat).flatMap eV) (Bs hB) rfl rfl rfl Try.underlying22 Try.underlying3 in26 rfl (by decide) (by rw [eV_flen, List.length_take]; omega) (fun w hs => C_cells kV_encs eV_len (C_take (row_C (i := 0) rfl w hs) (by omega))) (by omega) (by omega) (by omega) (by decide)) fun ⟨g2, c2, cur⟩ ⟨hg2, hcs, hct, hc2, hcm⟩ => ?_
     dsimp only at hg2 hcs hct hc2 hcm
     have hk2 : i.toNat + (((n : Nat) : Int) + ((1 : Nat) : Int) - i).toNat = n + 1 := by omega
     rw [hk2] at hc2
     refine GL.learn (t := 40) (v' := .slice (some ⟨g2, 0, none⟩) (n + 1) c2) rfl (by dsimp only; rw [hk2]) ?_
     refine GL.gives rfl rfl rfl (Gives.assign rfl rfl) ?_
     refine GL.nil ?_
     refine GQ.thenN ?_
     refine GC.seq ?_
     refine GC.region ?_
     refine GL.gives rfl rfl rfl (Gives.move rfl rfl) ?_
     refine GL.gives rfl rfl rfl (Gives.move rfl rfl) ?_
     refine GL.gives rfl rfl rfl (Gives.sl0p rfl rfl rfl Try.underlying22 sz26 (by omega) (by omega) (by omega)) ?_
     refine GL.gives rfl rfl rfl (Gives.move rfl rfl) ?_
     refine GL.does [0] rfl rfl rfl rfl (Does.copy [.string a, .string b] rfl rfl rfl Try.underlying22 sz26 (by rw [nmin_l (by omega)]; rfl) (cells_from (i := 2) (cs := #[.string a, .string b]) rfl (fun j v h => by simpa using h)) (by simp [Value.oneCell']) (by rw [hcs]; simp; omega)) fun _ _ => ?_
     refine GL.nil ?_
     refine GQ.thenN ?_
     refine GC.seq ?_
     refine GC.draw (fun w => St _ _ w _) [8] #[false, false, false, false, false, false, false, false, false] mixed_ rfl rfl (fun _ h => h) ?_
     refine GA.pure 0 #[true, false, false, false, false, false, false, false, false] (by repeat (first | exact PanicOk.body | refine PanicOk.then ?_ | refine PanicOk.block ?_)) rfl rfl (by kernel_rfl) rfl rfl (Gives.move rfl rfl) ?_
     refine GA.pure 1 #[true, true, false, false, false, false, false, false, false] (by repeat (first | exact PanicOk.body | refine PanicOk.then ?_ | refine PanicOk.block ?_)) rfl rfl (by kernel_rfl) rfl rfl (Gives.move rfl rfl) ?_
     refine GA.pure 2 #[true, true, true, false, false, false, false, false, false] (by repeat (first | exact PanicOk.body | refine PanicOk.then ?_ | refine PanicOk.block ?_)) rfl rfl (by kernel_rfl) rfl rfl (Gives.move rfl rfl) ?_
     refine GA.pure 3 #[true, true, true, true, false, false, false, false, false] (by repeat (first | exact PanicOk.body | refine PanicOk.then ?_ | refine PanicOk.block ?_)) rfl rfl (by kernel_rfl) rfl rfl (Gives.add rfl rfl rfl (by omega)) ?_
     refine GA.take 4 #[true, true, true, true, true, false, false, false, false] (by repeat (first | exact PanicOk.body | refine PanicOk.then ?_ | refine PanicOk.block ?_)) rfl rfl (by kernel_rfl) rfl rfl (fun _ h => h) (Gives.sl0p rfl rfl rfl Try.underlying22 sz26 (by omega) (by omega) (by omega)) ?_
     refine GA.pure 5 #[true, true, true, true, true, true, false, false, false] (by repeat (first | exact PanicOk.body | refine PanicOk.then ?_ | refine PanicOk.block ?_)) rfl rfl (by kernel_rfl) rfl rfl (Gives.move rfl rfl) ?_
     refine GA.pure 6 #[true, true, true, true, true, true, true, false, false] (by repeat (first | exact PanicOk.body | refine PanicOk.then ?_ | refine PanicOk.block ?_)) rfl rfl (by kernel_rfl) rfl rfl (Gives.move rfl rfl) ?_
     refine GA.take 7 #[true, true, true, true, true, true, true, true, false] (by repeat (first | exact PanicOk.body | refine PanicOk.then ?_ | refine PanicOk.block ?_)) rfl rfl (by kernel_rfl) rfl rfl (fun _ h => h) (Gives.sl0p rfl rfl rfl Try.underlying22 sz26 (by omega) (by omega) (by omega)) ?_
     refine GA.last 8 #[true, true, true, true, true, true, true, true, true] [0] rfl rfl (by kernel_rfl) (by decide) rfl rfl rfl (Does.copy ((V.drop i.toNat).flatMap eV) rfl rfl rfl Try.underlying22 sz26 (by rw [eV_flen, List.length_drop, nmin_l (by omega)]; omega) (row_from (k := 1) rfl i.toNat (by omega)) eV_one (by rw [putAt_size _ _ _ (by rw [hcs]; simp; omega), hcs, eV_flen, List.length_drop]; show _ ≤ c2 * 2; omega)) fun _ _ => ?_
     refine GA.done (by kernel_rfl) ?_
     refine GQ.thenN ?_
     refine GC.seq ?_
     refine GC.region ?_
     refine GL.gives rfl rfl rfl (Gives.move rfl rfl) ?_
     refine GL.gives rfl rfl rfl (Gives.assign rfl rfl) ?_
     refine GL.nil ?_
     refine GQ.thenN ?_
     refine GC.ret ?_
     refine GQ.thenR ?_
     refine GQ.ret1 (.inl rfl) rfl rfl ?_
     intro w hs
     refine ⟨.slice (some ⟨g2, 0, none⟩) (n + 1) c2, rfl, trivial, (hs.turn (is := [0]) rfl (Turns.shut (kd := kV) (enc := eV) eV_M eV_len hg2 (by simp [ins]; omega) hc2 hcm ?_ ?_)).take (is := [0]) rfl⟩
     · rw [putAt_size _ _ _ (by rw [putAt_size _ _ _ (by rw [hcs]; simp; omega), hcs, eV_flen, List.length_drop]; show _ ≤ c2 * 2; omega), putAt_size _ _ _ (by rw [hcs]; simp; omega), hcs]
       rfl
     · have := ins_grow V i.toNat (a, b) cur (by omega) (by rw [hcs]; omega) hct
       rw [show 0 + i.toNat * 2 = i.toNat * 2 by omega, show 0 + (i + ((1 : Nat) : Int)).toNat * 2 = (i.toNat + 1) * 2 by omega, hlen]
       exact this
   ·
     replace h31 := of_decide_eq_false h31
     refine GC.condF rfl rfl ?_
     refine GC.skip ?_
     refine GQ.thenN ?_
     refine GC.seq ?_
     refine GC.know (row_form (i := 0) rfl (by omega)) fun ⟨g, c', hv⟩ => ?_
     injection hv with hv1 _ _
     subst hv1
     refine GC.openRow (enc := eV) [0] kV_encs rfl fun cur hcs hct hg hcm => ?_
     have hcs' : cur.size = c * 2 := hcs
     refine GC.region ?_
     refine GL.gives rfl rfl rfl (Gives.move rfl rfl) ?_
     refine GL.gives rfl rfl rfl (Gives.move rfl rfl) ?_
     refine GL.gives rfl rfl rfl (Gives.move rfl rfl) ?_
     refine GL.gives rfl rfl rfl (Gives.add rfl rfl rfl (by omega)) ?_
     refine GL.gives rfl rfl rfl (Gives.slhp rfl rfl rfl Try.underlying22 sz26 (by omega) (by omega)) ?_
     have hk2 : (((n : Nat) : Int) + ((1 : Nat) : Int)).toNat = n + 1 := by omega
     refine GL.learn (t := 60) (v' := .slice (some ⟨g, 0, none⟩) (n + 1) c) rfl (by rw [hk2]) ?_
     refine GL.gives rfl rfl rfl (Gives.assign rfl rfl) ?_
     refine GL.nil ?_
     refine GQ.thenN ?_
     refine GC.seq ?_
     refine GC.seq ?_
     refine GC.region ?_
     refine GL.gives rfl rfl rfl (Gives.move rfl rfl) ?_
     refine GL.gives rfl rfl rfl (Gives.move rfl rfl) ?_
     refine GL.gives rfl rfl rfl (Gives.move rfl rfl) ?_
     refine GL.gives rfl rfl rfl (Gives.move rfl rfl) ?_
     refine GL.gives rfl rfl rfl (Gives.add rfl rfl rfl (by omega)) ?_
     refine GL.gives rfl rfl rfl (Gives.sl0p rfl rfl rfl Try.underlying22 sz26 (by omega) (by omega) (by omega)) ?_
     refine GL.gives rfl rfl rfl (Gives.overlaps (i := 1) (j := 0) (tS := 22) (tR := 4) rfl rfl rfl Try.func56 rfl (by kernel_rfl) (by kernel_rfl) (by kernel_rfl) Try.underlying22 sz26 rfl rfl (by rw [hcs']; omega)) ?_
     refine GL.gives rfl rfl rfl (Gives.not rfl rfl) ?_
     refine GL.nil ?_
     refine GQ.thenN ?_
     refine GC.condT rfl rfl ?_
     refine GC.seq ?_
     refine GC.draw (fun w => St _ _ w _) [8] #[false, false, false, false, false, false, false, false, false] mixed_ rfl rfl (fun _ h => h) ?_
     refine GA.pure 0 #[true, false, false, false, false, false, false, false, false] (by repeat (first | exact PanicOk.body | refine PanicOk.then ?_ | refine PanicOk.block ?_)) rfl rfl (by kernel_rfl) rfl rfl (Gives.move rfl rfl) ?_
     refine GA.pure 1 #[true, true, false, false, false, false, false, false, false] (by repeat (first | exact PanicOk.body | refine PanicOk.then ?_ | refine PanicOk.block ?_)) rfl rfl (by kernel_rfl) rfl rfl (Gives.move rfl rfl) ?_
     refine GA.pure 2 #[true, true, true, false, false, false, false, false, false] (by repeat (first | exact PanicOk.body | refine PanicOk.then ?_ | refine PanicOk.block ?_)) rfl rfl (by kernel_rfl) rfl rfl (Gives.move rfl rfl) ?_
     refine GA.pure 3 #[true, true, true, true, false, false, false, false, false] (by repeat (first | exact PanicOk.body | refine PanicOk.then ?_ | refine PanicOk.block ?_)) rfl rfl (by kernel_rfl) rfl rfl (Gives.add rfl rfl rfl (by omega)) ?_
     refine GA.take 4 #[true, true, true, true, true, false, false, false, false] (by repeat (first | exact PanicOk.body | refine PanicOk.then ?_ | refine PanicOk.block ?_)) rfl rfl (by kernel_rfl) rfl rfl (fun _ h => h) (Gives.sl0p rfl rfl rfl Try.underlying22 sz26 (by omega) (by omega) (by omega)) ?_
     refine GA.pure 5 #[true, true, true, true, true, true, false, false, false] (by repeat (first | exact PanicOk.body | refine PanicOk.then ?_ | refine PanicOk.block ?_)) rfl rfl (by kernel_rfl) rfl rfl (Gives.move rfl rfl) ?_
     refine GA.pure 6 #[true, true, true, true, true, true, true, false, false] (by repeat (first | exact PanicOk.body | refine PanicOk.then ?_ | refine PanicOk.block ?_)) rfl rfl (by kernel_rfl) rfl rfl (Gives.move rfl rfl) ?_
     refine GA.take 7 #[true, true, true, true, true, true, true, true, false] (by repeat (first | exact PanicOk.body | refine PanicOk.then ?_ | refine PanicOk.block ?_)) rfl rfl (by kernel_rfl) rfl rfl (fun _ h => h) (Gives.sl0p rfl rfl rfl Try.underlying22 sz26 (by omega) (by omega) (by omega)) ?_
     refine GA.last 8 #[true, true, true, true, true, true, true, true, true] [0] rfl rfl (by kernel_rfl) (by decide) rfl rfl rfl (Does.copy ((V.drop i.toNat).flatMap eV) rfl rfl rfl Try.underlying22 sz26 (by rw [eV_flen, List.length_drop, nmin_r (by omega)]; omega) (cells_from (i := 0) rfl (cur_drop hlen (by omega) hct)) eV_one (by rw [hcs', eV_flen, List.length_drop]; omega)) fun _ _ => ?_
     refine GA.done (by kernel_rfl) ?_
     refine GQ.thenN ?_
     refine GC.seq ?_
     refine GC.region ?_
     refine GL.gives rfl rfl rfl (Gives.move rfl rfl) ?_
     refine GL.gives rfl rfl rfl (Gives.move rfl rfl) ?_
     refine GL.gives rfl rfl rfl (Gives.sl0p rfl rfl rfl Try.underlying22 sz26 (by omega) (by omega) (by omega)) ?_
     refine GL.gives rfl rfl rfl (Gives.move rfl rfl) ?_
     refine GL.does [0] rfl rfl rfl rfl (Does.copy [.string a, .string b] rfl rfl rfl Try.underlying22 sz26 (by rw [nmin_l (by omega)]; rfl) (cells_from (i := 1) (cs := #[.string a, .string b]) rfl (fun j v h => by simpa using h)) (by simp [Value.oneCell']) (by rw [putAt_size _ _ _ (by rw [hcs', eV_flen, List.length_drop]; omega), hcs']; simp; omega)) fun _ _ => ?_
     refine GL.nil ?_
     refine GQ.thenN ?_
     refine GC.seq ?_
     refine GC.region ?_
     refine GL.gives rfl rfl rfl (Gives.move rfl rfl) ?_
     refine GL.gives rfl rfl rfl (Gives.assign rfl rfl) ?_
     refine GL.nil ?_
     refine GQ.thenN ?_
     refine GC.ret ?_
     refine GQ.thenR ?_
     refine GQ.ret1 (.inl rfl) rfl rfl ?_
     intro w hs
     refine ⟨.slice (some ⟨g, 0, none⟩) (n + 1) c, rfl, trivial, (hs.turn (is := [0]) rfl (Turns.shut (kd := kV) (enc := eV) eV_M eV_len hg (by simp [ins]; omega) (by omega) hcm ?_ ?_)).take (is := [0]) rfl⟩
     · rw [putAt_size _ _ _ (by rw [putAt_size _ _ _ (by rw [hcs', eV_flen, List.length_drop]; omega), hcs']; simp; omega), putAt_size _ _ _ (by rw [hcs', eV_flen, List.length_drop]; omega), hcs]
     · have := ins_room V i.toNat (a, b) cur (by omega) (by rw [hcs']; omega) (by rw [← hlen]; exact hct)
       rw [show 0 + i.toNat * 2 = i.toNat * 2 by omega, show 0 + (i + ((1 : Nat) : Int)).toNat * 2 = (i.toNat + 1) * 2 by omega, hlen]
       exact this

end Go.Proofs.Yteckdfgllipilaa.VI
