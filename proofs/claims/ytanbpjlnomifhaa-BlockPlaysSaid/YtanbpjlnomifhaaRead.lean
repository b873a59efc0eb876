/- The block device's Read: what it answers; nothing that was is another. -/
import Derived.Test.YtanbpjlnomifhaaBack
import Derived.BigRegionIn
namespace Go.Proofs.Ytanbpjlnomifhaa.SB
open Go.RowKit Go.Shelf Go.Proofs.YtanbpjlnomifhaaW.PrintWords Go.Proofs.YtanbpjlnomifhaaS Go.Proofs.Ytanbpjlnomifhaa.SL
attribute [local go_sem] Oper.semAt_some

set_option maxRecDepth 100000 in
set_option maxHeartbeats 1000000 in
theorem back0_in (F : Fence) (n : Nat) (h22 : F.fn 22) (hro : F.round = none) (l Bs c : Nat) (A : Option Addr) (J : List BE → World → Prop) (W : World) (hBs : W.cell? ⟨Bs, 0, none⟩ = some (.slice A 0 c)) (h0 : J [] W) :
    CallsIn F n Try.prog 22 #[.func (.yield l) #[] #[], .pointer (some ⟨Bs, 0, none⟩)] W fun e W' => (∃ v, e = .returned v) ∧ J [] W' := by
  refine callsIn_of_wp Try.func22 rfl h22 ?_ hro
  simp only [Try.ntmps22, List.size_toArray, List.length_cons, List.length_nil, Nat.reduceAdd, Nat.reduceSub, Array.replicate_succ, Array.replicate_zero, List.push_toArray, List.append_toArray, List.nil_append, List.cons_append]
  gi_wp2
  gi_loopw [3] (fun i wr => i = .int .i64 (-1) ∧ J [] wr) (fun _ _ => 0)
  case atStart => exact ⟨rfl, h0⟩
  case round =>
    obtain ⟨rfl, hJs⟩ := hrel
    gi_wp2
    go_end0
    exact ⟨⟨_, rfl⟩, hJs⟩
set_option maxHeartbeats 1000000 in
theorem backward_in (F : Fence) (n : Nat) (h18 : F.fn 18) (hro : F.round = none) (a : Option Addr) (len cap : Nat) (w : World) :
    CallsIn F n Try.prog 18 #[.slice a len cap] w fun e w' => e = .returned (.func (.func 22) #[] #[.pointer (some ⟨w.heap.size, 0, none⟩)]) ∧ w' = w.alloc (.cells #[.slice a len cap] 48) := by
  refine callsIn_of_wp Try.func18 rfl h18 ?_ hro
  simp only [Try.ntmps18, List.size_toArray, List.length_cons, List.length_nil, Nat.reduceAdd, Nat.reduceSub, Array.replicate_succ, Array.replicate_zero, List.push_toArray, List.append_toArray, List.nil_append, List.cons_append]
  gi_wp2
  go_ret
  exact ⟨rfl, rfl⟩
/-- A slice that holds what was written late, in a block below n₀. -/
def LateIs (n₀ : Nat) (W : World) (A : Option Addr) (cap : Nat) (L : List WS) : Prop :=
  L = [] ∨ ∃ gl, A = some ⟨gl, 0, none⟩ ∧ gl < n₀ ∧ ∀ j : Int, 0 ≤ j → j < L.length → W.cell? ⟨gl, j.toNat * 2, none⟩ = some (.int .i64 (rdOf zW L j).1) ∧ W.cell? ⟨gl, j.toNat * 2 + 1, none⟩ = some (.string (rdOf zW L j).2)
theorem LateIs.below {n₀ cap : Nat} {W W' : World} {A : Option Addr} {L : List WS} (h : LateIs n₀ W A cap L) (hb : Below n₀ W W') : LateIs n₀ W' A cap L := by
  rcases h with h | ⟨gl, h1, h2, h3⟩
  · exact .inl h
  · exact .inr ⟨gl, h1, h2, fun j h4 h5 => ⟨(hb.cell (p := ⟨gl, j.toNat * 2, none⟩) h2).trans (h3 j h4 h5).1, (hb.cell (p := ⟨gl, j.toNat * 2 + 1, none⟩) h2).trans (h3 j h4 h5).2⟩⟩
theorem back_stops (F : Fence) (n : Nat) (h22 : F.fn 22) (hro : F.round = none) (hn : 1 ≤ n) (Bs n₀ cap : Nat) (A : Option Addr) (L : List WS) (hlen : L.length ≤ 1000000000000) (w : World) (hBs : Bs < n₀) (hn₀ : n₀ ≤ w.heap.size)
    (hc : w.cell? ⟨Bs, 0, none⟩ = some (.slice A L.length cap)) (hI : LateIs n₀ w A cap L) :
    SeqStopsK F n Try.prog 22 #[.pointer (some ⟨Bs, 0, none⟩)] benc (Below n₀) (fun ys => ys = bup L L.length) (fun pre => ∃ k, k ≤ L.length ∧ pre = bup L k) L.length w := fun l J Jx W hW _ _ hY h0 => by
  have hc' := (hW.cell (p := ⟨Bs, 0, none⟩) (by show Bs < _; omega)).trans hc
  rcases hI.below (hW.mono hn₀) with rfl | ⟨gl, rfl, hb, hcs⟩
  · exact (back0_in F n h22 hro l Bs cap A J W hc' h0).mono fun e W' ⟨he, hj⟩ => ⟨he, .inl ⟨_, rfl, hj⟩⟩
  · exact back1_in F n h22 hro hn l Bs n₀ gl cap L hlen hb hBs J Jx hY W hc' hcs h0
/-- The last of those that are i. -/
theorem lst_none (L : List WS) (i : Int) (s : ByteArray) (h : ∀ w ∈ L, w.1 ≠ i) : lst L i s = s := by
  unfold lst
  induction L generalizing s with
  | nil => rfl
  | cons w L ih => rw [List.foldl_cons, if_neg (h w List.mem_cons_self)]; exact ih s (fun u hu => h u (List.mem_cons_of_mem _ hu))
theorem lst_at (L : List WS) (i : Int) (s : ByteArray) (k : Nat) (hk : k < L.length) (h1 : (bf L k).2.1 = i) (h2 : ∀ y ∈ bup L k, y.2.1 ≠ i) : lst L i s = (bf L k).2.2 := by
  have hj : ((L.length : Int) - 1 - k).toNat = L.length - 1 - k := by omega
  have hlt : L.length - 1 - k < L.length := by omega
  have hr : (bf L k).2 = L[L.length - 1 - k] := by
    simp [bf, rdOf, hj, List.getD_eq_getElem?_getD, List.getElem?_eq_getElem hlt]
  have hs : L = L.take (L.length - 1 - k) ++ L[L.length - 1 - k] :: L.drop (L.length - 1 - k + 1) := by
    rw [List.getElem_cons_drop, List.take_append_drop]
  rw [hs]
  have h3 : ∀ w ∈ L.drop (L.length - 1 - k + 1), w.1 ≠ i := by
    intro w hw
    obtain ⟨j, hj1, hj2⟩ := List.mem_iff_getElem.1 hw
    rw [List.length_drop] at hj1
    rw [List.getElem_drop] at hj2
    have := h2 (bf L (L.length - 1 - (L.length - 1 - k + 1 + j))) (by
      unfold bup
      exact List.mem_map.2 ⟨_, List.mem_range.2 (by omega), rfl⟩)
    have he : (bf L (L.length - 1 - (L.length - 1 - k + 1 + j))).2 = L[L.length - 1 - k + 1 + j] := by
      have hq : ((L.length : Int) - 1 - ((L.length - 1 - (L.length - 1 - k + 1 + j) : Nat) : Int)).toNat = L.length - 1 - k + 1 + j := by omega
      simp [bf, rdOf, hq, List.getD_eq_getElem?_getD, List.getElem?_eq_getElem (show L.length - 1 - k + 1 + j < L.length by omega)]
    rw [he] at this
    rw [← hj2]
    exact this
  unfold lst
  rw [List.foldl_append, List.foldl_cons, if_pos (by rw [← hr]; exact h1)]
  have := lst_none (L.drop (L.length - 1 - k + 1)) i (L[L.length - 1 - k].2) h3
  unfold lst at this
  rw [this]
  rw [← hs, hr]
theorem lst_all (L : List WS) (i : Int) (s : ByteArray) (h : ∀ y ∈ bup L L.length, y.2.1 ≠ i) : lst L i s = s := by
  refine lst_none L i s (fun w hw => ?_)
  obtain ⟨j, hj1, hj2⟩ := List.mem_iff_getElem.1 hw
  have := h (bf L (L.length - 1 - j)) (by
    unfold bup
    exact List.mem_map.2 ⟨_, List.mem_range.2 (by omega), rfl⟩)
  have he : (bf L (L.length - 1 - j)).2 = L[j] := by
    have hq : ((L.length : Int) - 1 - ((L.length - 1 - j : Nat) : Int)).toNat = j := by omega
    simp [bf, rdOf, hq, List.getD_eq_getElem?_getD, List.getElem?_eq_getElem hj1]
  rw [he, hj2] at this
  exact this
def RI (H : Nat) (i : Int) (w0 : World) (pre : List BE) (W : World) : Prop := ((∀ y ∈ pre, y.2.1 ≠ i) ∧ W.cell? ⟨H, 0, none⟩ = some (.int .i64 i) ∧ (W.cell? ⟨H + 1, 0, none⟩ = some (.string ⟨#[]⟩) ∧ W.frozen? ⟨H + 1, 0, none⟩ = false) ∧ (W.cell? ⟨H + 1 + 1, 0, none⟩ = some (.int .i64 0) ∧ W.frozen? ⟨H + 1 + 1, 0, none⟩ = false)) ∧ Below H w0 W
def RX (H : Nat) (i : Int) (w0 : World) (c : Code) (pre : List BE) (W : World) : Prop := (c = .ret ∧ ∃ pre' x, pre = pre' ++ [x] ∧ x.2.1 = i ∧ (∀ y ∈ pre', y.2.1 ≠ i) ∧ W.cell? ⟨H + 1, 0, none⟩ = some (.string x.2.2) ∧ W.cell? ⟨H + 1 + 1, 0, none⟩ = some (.int .i64 0)) ∧ Below H w0 W
theorem RI_own (H B : Nat) (hB : H ≤ B) (i : Int) (w0 : World) (hH : H ≤ w0.heap.size) : OwnFrom B (RI H i w0) :=
  OwnFrom.and (Own.from (fun s A B row hs hg hr => ⟨hs.1, cell_kept hs.2.1 hg hr, ⟨cell_kept hs.2.2.1.1 hg hr, (frozen_kept hs.2.2.1.1 hg hr).trans hs.2.2.1.2⟩, ⟨cell_kept hs.2.2.2.1 hg hr, (frozen_kept hs.2.2.2.1 hg hr).trans hs.2.2.2.2⟩⟩) _) (ownFrom_below hH hB)
theorem RX_own (H B : Nat) (hB : H ≤ B) (i : Int) (w0 : World) (hH : H ≤ w0.heap.size) (c : Code) : OwnFrom B (RX H i w0 c) :=
  OwnFrom.and (Own.from (fun s A B row hs hg hr => by
    obtain ⟨h1, p, x, h2, h3, h4, h5, h6⟩ := hs
    exact ⟨h1, p, x, h2, h3, h4, cell_kept h5 hg hr, cell_kept h6 hg hr⟩) _) (ownFrom_below hH hB)
/-- A round's frame: the element in a box of its own. -/
def RA_ (T : Array Value) (n₀ : Nat) (x : BE) (a' : Act) (W : World) : Prop := ∃ Bx, n₀ ≤ Bx ∧ (W.cell? ⟨Bx, 0, none⟩ = some (.int .i64 x.2.1) ∧ W.cell? ⟨Bx, 1, none⟩ = some (.string x.2.2)) ∧ a' = { tmps := ((T.setIfInBounds 40 (.int .i64 x.1)).setIfInBounds 41 (.agg #[.int .i64 x.2.1, .string x.2.2])).setIfInBounds 7 (.pointer (some ⟨Bx, 0, none⟩)), defers := [] }
theorem RA_own (T : Array Value) (n₀ B : Nat) (x : BE) (a' : Act) : OwnFrom B (fun (_ : Unit) W => RA_ T n₀ x a' W) :=
  Own.from (fun s A B row hs hg hr => by
    obtain ⟨Bx, h1, h2, h3⟩ := hs
    exact ⟨Bx, h1, ⟨cell_kept h2.1 hg hr, cell_kept h2.2 hg hr⟩, h3⟩) _
theorem law_read {Q : Exit → Act → World → Prop} {assign body : Code} {T : Array Value} {w : World} (k H c : Nat) (A : Option Addr) (i : Int) (L : List WS) (hk : 3 ≤ k) (hsz : w.heap.size = H + 4) (hlen : L.length ≤ 1000000000000)
    (hg : (⟨T, []⟩ : Act).eval (.tmp 39) = .func (.func 22) #[] #[.pointer (some ⟨H + 3, 0, none⟩)]) (hc : w.cell? ⟨H + 3, 0, none⟩ = some (.slice A L.length c)) (hL : LateIs (H + 4) w A c L) (h0 : RI H i w [] w)
    (hassign : ∀ (l : Nat) (pre : List BE) (x : BE) (W : World) (K : Act → World → Prop), RI H i w pre W → (∀ a' W', KeepsFrom w.heap.size W W' → Below (H + 4) W W' → RI H i w pre W' → RA_ T (H + 4) x a' W' → K a' W') →
      assign.wpIn (Fence.wide.inRound l) (k - 1 - 1) Try.prog (Exit.then K (fun _ _ _ => False)) { tmps := (T.setIfInBounds 40 (.int .i64 x.1)).setIfInBounds 41 (.agg #[.int .i64 x.2.1, .string x.2.2]), defers := [] } W)
    (hbody : ∀ (l : Nat) (pre : List BE) (x : BE) (a' : Act) (W : World), RI H i w pre W → RA_ T (H + 4) x a' W → body.wpIn (Fence.wide.inRound l) (k - 1 - 1) Try.prog (ownPostG w.heap.size (Below (H + 4)) (RI H i w) (RX H i w) (pre ++ [x]) W) a' W)
    (hdone : ∀ (D : Nat) (W : World), w.heap.size ≤ D → RI H i w (bup L L.length) W → W.heap[D]? = some (.deferred (some [])) → Q .normal { tmps := T, defers := [{ target := .collected D, args := #[] }] } W)
    (hstop : ∀ (D : Nat) (c : Code) (pre : List BE) (W : World), w.heap.size ≤ D → (∃ k, k ≤ L.length ∧ pre = bup L k) → RX H i w c pre W → W.heap[D]? = some (.deferred (some [])) → c.wpIn Fence.wide k Try.prog Q { tmps := T, defers := [{ target := .collected D, args := #[] }] } W) :
    (Code.rangeFunc (.tmp 39) #[40, 41] assign body).wpIn Fence.wide k Try.prog Q { tmps := T, defers := [] } w := by
  have hH : H ≤ w.heap.size := by omega
  refine wpIn_rangeFunc_ownH (a := ⟨T, []⟩) rfl (by omega) hg trivial (enters_of Try.func22 (by kernel_rfl) rfl)
    (back_stops Fence.wide (k - 1) trivial rfl (by omega) (H + 3) (H + 4) c A L hlen w (by omega) (by omega) hc hL) belowK_t (belowK_b (by omega)) (Below.refl _ _) (fun _ => rfl)
    (RI H i w) (RX H i w) (RI_own H _ hH i w hH) (RX_own H _ hH i w hH) h0 (RA_ T (H + 4)) (fun x a' => RA_own T (H + 4) _ x a') ?_ ?_ ?_ ?_
  · intro l pre x W K hI hK
    have e : (Array.zip #[40, 41] (benc x)).foldl (fun t (p, v) => t.setIfInBounds p v) T = (T.setIfInBounds 40 (.int .i64 x.1)).setIfInBounds 41 (.agg #[.int .i64 x.2.1, .string x.2.2]) := by simp [benc]
    have := hassign l pre x W K hI (fun a' W' h1 h2 h3 h4 => hK a' W' h1 h2 h3 h4)
    rw [← e] at this
    exact this
  · intro l pre x a' W _ _ hI hA _
    exact hbody l pre x a' W hI hA
  · rintro D xs W hD rfl hI hd
    exact hdone D W hD hI hd
  · intro D c pre W hD hp hx hd
    exact hstop D c pre W hD hp hx hd
theorem LateIs.mono {n₀ n₁ cap : Nat} {W : World} {A : Option Addr} {L : List WS} (h : LateIs n₀ W A cap L) (hn : n₀ ≤ n₁) : LateIs n₁ W A cap L := by
  rcases h with h | ⟨gl, h1, h2, h3⟩
  · exact .inl h
  · exact .inr ⟨gl, h1, by omega, h3⟩
set_option maxRecDepth 100000 in
set_option maxHeartbeats 4000000 in
theorem read_in (k : Nat) (hk : 3 ≤ k) (g gs cs n c : Nat) (A : Option Addr) (m : M) (i : Int) (w : World) (hb : m.b = false) (hi : 0 ≤ i ∧ i < n) (hlen : m.S.length = n) (hroom : m.L.length ≤ 1000000000000)
    (hg : w.heap[g]? = some (.cells #[.slice (some ⟨gs, 0, none⟩) n cs, .slice A m.L.length c, .int .i64 m.f, .bool m.b] 50 (0, 0))) (hs : w.cell? ⟨gs, i.toNat, none⟩ = some (.string (rdOf ⟨#[]⟩ m.S i))) (hL : LateIs w.heap.size w A c m.L) :
    CallsIn Fence.wide k Try.prog 9 #[.pointer (some ⟨g, 0, none⟩), .int .i64 i] w fun e w' => e = .returned (.tuple #[.string (m.read i).1, .int .i64 (m.read i).2]) ∧ Below w.heap.size w w' := by
  have h1 : 1 ≤ k := by omega
  have hi0 := hi.1
  have hi1 := hi.2
  have hread : m.read i = (lst m.L i (rdOf ⟨#[]⟩ m.S i), 0) := by unfold M.read; rw [if_neg (by simp [hb]), if_neg (by omega)]
  rw [hread]
  clear hread
  have g0 : w.cell? ⟨g, 0, none⟩ = some (.slice (some ⟨gs, 0, none⟩) n cs) := blk_cell hg 0
  have g1 : w.cell? ⟨g, 1, none⟩ = some (.slice A m.L.length c) := blk_cell hg 1
  have g3 : w.cell? ⟨g, 3, none⟩ = some (.bool false) := by rw [← hb]; exact blk_cell hg 3
  have hgl : g < w.heap.size := blk_lt hg
  have hgsl : gs < w.heap.size := World.block_lt_of_cell? w _ hs
  obtain ⟨s0, hs0⟩ : ∃ s0, s0 = rdOf (⟨#[]⟩ : ByteArray) m.S i := ⟨_, rfl⟩
  rw [← hs0] at hs ⊢
  obtain ⟨LL, hLL⟩ : ∃ LL, LL = m.L := ⟨_, rfl⟩
  rw [← hLL] at hL hroom g1 ⊢
  clear hg hlen hb hs0 hLL hi
  refine callsIn_of_wp_marks Try.func9 rfl trivial ?_ rfl
  simp only [Try.ntmps9, List.size_toArray, List.length_cons, List.length_nil, Nat.reduceAdd, Nat.reduceSub, Array.replicate_succ, Array.replicate_zero, List.push_toArray, List.append_toArray, List.nil_append, List.cons_append]
  have d0 : decide (i < 0) = false := decide_eq_false (by omega)
  have d1 : decide ((n : Int) ≤ i) = false := decide_eq_false (by omega)
  have old3 : ∀ (o1 o2 o3 : Obj) (p : Addr), p.block < w.heap.size → (((w.alloc o1).alloc o2).alloc o3).cell? p = w.cell? p := fun o1 o2 o3 p hp => by
    rw [World.cell?_alloc_lt _ _ _ (by simp; omega), World.cell?_alloc_lt _ _ _ (by simp; omega), World.cell?_alloc_lt _ _ _ hp]
  have a0 := fun o1 o2 o3 => (old3 o1 o2 o3 ⟨g, 0, none⟩ hgl).trans g0
  have a1 := fun o1 o2 o3 => (old3 o1 o2 o3 ⟨g, 1, none⟩ hgl).trans g1
  have a3 := fun o1 o2 o3 => (old3 o1 o2 o3 ⟨g, 3, none⟩ hgl).trans g3
  have as_ := fun o1 o2 o3 => (old3 o1 o2 o3 ⟨gs, i.toNat, none⟩ hgsl).trans hs
  have OLD : Hid (∀ (o1 o2 o3 : Obj) (p : Addr), p.block < w.heap.size → (((w.alloc o1).alloc o2).alloc o3).cell? p = w.cell? p) := old3
  clear old3
  have hnil := fun (W : World) (a : Option Addr) (n c : Nat) => Lib.run_eql_slice_nil (P := Try.prog) W 28 9 a n c 0 0 Try.underlying28
  gi_wp2
  gi_big_region
  clear a0 a1 a3 as_ d0 d1
  have OLD' := OLD.out
  clear OLD
  obtain ⟨W3, hW3⟩ : ∃ W3, (((w.alloc (.cells #[.int .i64 i] 3)).alloc (.cells #[.string ⟨#[]⟩] 9)).alloc (.cells #[.int .i64 0] 25)).drew = W3 := ⟨_, rfl⟩
  have hsz : W3.heap.size = w.heap.size + 3 := by rw [← hW3]; simp
  have hB3 : Below w.heap.size w W3 := by rw [← hW3]; exact ((((Below.refl _ w).alloc (Nat.le_refl _) _).alloc (by simp) _).alloc (by simp; omega) _).drew
  have b0 : W3.heap[w.heap.size]? = some (.cells #[.int .i64 i] 3 (0, 0)) := by
    rw [← hW3]
    show ((((w.alloc _).alloc _).alloc _).heap)[_]? = _
    rw [Below.heap_alloc _ _ _ (by simp; omega), Below.heap_alloc _ _ _ (by simp)]
    exact heap_alloc_new w _
  have b1 : W3.heap[w.heap.size + 1]? = some (.cells #[.string ⟨#[]⟩] 9 (0, 0)) := by
    rw [← hW3]
    show ((((w.alloc _).alloc _).alloc _).heap)[_]? = _
    rw [Below.heap_alloc _ _ _ (by simp)]
    have := heap_alloc_new (w.alloc (.cells #[.int .i64 i] 3)) (.cells #[.string ⟨#[]⟩] 9)
    simpa using this
  have b2 : W3.heap[w.heap.size + 2]? = some (.cells #[.int .i64 0] 25 (0, 0)) := by
    rw [← hW3]
    show ((((w.alloc _).alloc _).alloc _).heap)[_]? = _
    have := heap_alloc_new ((w.alloc (.cells #[.int .i64 i] 3)).alloc (.cells #[.string ⟨#[]⟩] 9)) (.cells #[.int .i64 0] 25)
    simpa using this
  have z0 : W3.cell? ⟨g, 0, none⟩ = some (.slice (some ⟨gs, 0, none⟩) n cs) := (hB3.cell (p := ⟨g, 0, none⟩) hgl).trans g0
  have z1 : W3.cell? ⟨g, 1, none⟩ = some (.slice A LL.length c) := (hB3.cell (p := ⟨g, 1, none⟩) hgl).trans g1
  have zs : W3.cell? ⟨gs, i.toNat, none⟩ = some (.string s0) := (hB3.cell (p := ⟨gs, i.toNat, none⟩) hgsl).trans hs
  have hL3 := hL.below hB3
  rw [hW3]
  have K0 := Aside0.mk g0
  have KS := Aside0.mk hs
  have HB := Aside0.mk hB3
  have X0 := Aside0.mk b0
  have X1 := Aside0.mk b1
  have X2 := Aside0.mk b2
  have HS := Aside0.mk hsz
  have HL3 := Aside0.mk hL3
  have Z0 := Aside0.mk z0
  have ZS := Aside0.mk zs
  have HR := Aside0.mk hroom
  clear hW3 OLD' g0 g1 g3 hs hL hB3 b0 b1 b2 hsz hL3 z0 zs hroom hnil
  gi_wp2_with (refine ⟨trivial, ?_⟩; gi_at_call 18; refine (backward_in Fence.wide _ trivial rfl _ _ _ _).mono ?_; rintro e w' ⟨rfl, rfl⟩)
  clear z1
  obtain ⟨H, hH⟩ : ∃ H, w.heap.size = H := ⟨_, rfl⟩
  have hW3s : W3.heap.size = H + 3 := by rw [← hH]; exact HS.out
  rw [hH] at HB X0 X1 X2 HL3 ⊢
  rw [hW3s]
  obtain ⟨W4, hW4⟩ : ∃ W4, W3.alloc (.cells #[.slice A LL.length c] 48) = W4 := ⟨_, rfl⟩
  rw [hW4]
  have hB4 : Below H w W4 := by rw [← hW4]; exact HB.out.alloc (by omega) _
  have s4 : W4.heap.size = H + 4 := by rw [← hW4]; simp [hW3s]
  have y0 : W4.heap[H]? = some (.cells #[.int .i64 i] 3 (0, 0)) := by rw [← hW4]; exact (Below.heap_alloc _ _ _ (by omega)).trans X0.out
  have y1 : W4.heap[H + 1]? = some (.cells #[.string ⟨#[]⟩] 9 (0, 0)) := by rw [← hW4]; exact (Below.heap_alloc _ _ _ (by omega)).trans X1.out
  have y2 : W4.heap[H + 2]? = some (.cells #[.int .i64 0] 25 (0, 0)) := by rw [← hW4]; exact (Below.heap_alloc _ _ _ (by omega)).trans X2.out
  have y3 : W4.cell? ⟨H + 3, 0, none⟩ = some (.slice A LL.length c) := by
    rw [← hW4, ← hW3s]
    exact (blk_cell (heap_alloc_new W3 _) 0).trans rfl
  have hL4 : LateIs H W4 A c LL := HL3.out.below (by rw [← hW4]; exact (Below.refl H W3).alloc (by omega) _)
  have hL5 := hL4.mono (show H ≤ H + 4 by omega)
  clear hW4 X0 X1 X2 HL3 hW3s HS hL4 Z0 ZS
  have zz0 : W4.cell? ⟨g, 0, none⟩ = some (.slice (some ⟨gs, 0, none⟩) n cs) := (hB4.cell (p := ⟨g, 0, none⟩) (by rw [← hH]; exact hgl)).trans K0.out
  have zzs : W4.cell? ⟨gs, i.toNat, none⟩ = some (.string s0) := (hB4.cell (p := ⟨gs, i.toNat, none⟩) (by rw [← hH]; exact hgsl)).trans KS.out
  refine law_read k H c A i LL hk s4 HR.out rfl y3 hL5 ⟨⟨by simp, (blk_cell y0 0).trans rfl, ⟨(blk_cell y1 0).trans rfl, blk_frozen y1 0⟩, ⟨(blk_cell y2 0).trans rfl, blk_frozen y2 0⟩⟩, Below.refl _ _⟩ ?assign ?body ?done ?stop
  case assign =>
    rintro l pre x W K hI hK
    have hsW := hI.2.size
    have HI := Aside0.mk hI
    have H4 := Aside0.mk (show H + 4 ≤ W.heap.size by omega)
    have S4 := Aside0.mk s4
    have HK := Aside0.mk hK
    clear hI hK hsW y0 y1 y2 y3 hL5 s4 zz0 zzs
    simp only [List.setIfInBounds_toArray, List.set_cons_zero, List.set_cons_succ]
    gi_wp2
    have hnew := heap_alloc_new W (.cells #[.int .i64 x.2.1, .string x.2.2] 59)
    exact HK.out _ _ ((KeepsOthers.alloc W _).from _) ((Below.refl _ W).alloc H4.out _) ((RI_own H (H + 4) (by omega) i W4 (by have := S4.out; omega)).alloc _ HI.out) ⟨W.heap.size, H4.out, ⟨(blk_cell hnew 0).trans rfl, (blk_cell hnew 1).trans rfl⟩, rfl⟩
  case body =>
    rintro l pre x a' W hI ⟨Bx, hBx, ⟨hx0, hx1⟩, rfl⟩
    have HI := Aside0.mk hI
    have HBX := Aside0.mk hBx
    have S4 := Aside0.mk s4
    obtain ⟨hne, hi_, ⟨hc1, hf1⟩, ⟨hc2, hf2⟩⟩ := hI.1
    have HNE := Aside0.mk hne
    clear hI hne y0 y1 y2 y3 hL5 s4 zz0 zzs hBx
    simp only [List.setIfInBounds_toArray, List.set_cons_zero, List.set_cons_succ]
    by_cases hx : x.2.1 = i
    · have hxb : (x.2.1 == i) = true := by simp [hx]
      have HX := Aside0.mk hx
      clear hx
      gi_wp2
      refine ⟨((KeepsOthers.setCell _ _ _).trans (KeepsOthers.setCell _ _ _)).from _, ⟨rfl, pre, x, rfl, HX.out, HNE.out, ?_, ?_⟩, ?_⟩
      · rw [World.cell?_setCell_other _ _ _ _ (by simp)]
        exact World.cell?_setCell_same' _ _ _ (by rw [hc1]; rfl)
      · exact World.cell?_setCell_same' _ _ _ (by rw [World.cell?_setCell_other _ _ _ _ (by simp), hc2]; rfl)
      · exact (HI.out.2.setCell (p := ⟨H + 1, 0, none⟩) (by simp) _).setCell (p := ⟨H + 1 + 1, 0, none⟩) (by simp; omega) _
    · have hxb : (x.2.1 == i) = false := by simp [hx]
      have HX := Aside0.mk hx
      clear hx
      gi_wp2
      refine ⟨(KeepsOthers.refl _).from _, Below.refl _ _, ⟨?_, HI.out.1.2⟩, HI.out.2⟩
      intro y hy
      rcases List.mem_append.1 hy with hy | hy
      · exact HNE.out y hy
      · obtain rfl := List.mem_singleton.1 hy
        exact HX.out
  case done =>
    rintro D W hD hI hd
    have zz0' : W.cell? ⟨g, 0, none⟩ = some (.slice (some ⟨gs, 0, none⟩) n cs) := (hI.2.cell (p := ⟨g, 0, none⟩) (by rw [← hH]; exact hgl)).trans zz0
    have zzs' : W.cell? ⟨gs, i.toNat, none⟩ = some (.string s0) := (hI.2.cell (p := ⟨gs, i.toNat, none⟩) (by rw [← hH]; exact hgsl)).trans zzs
    obtain ⟨hne, hi_, ⟨hc1, hf1⟩, ⟨hc2, hf2⟩⟩ := hI.1
    have HNE := Aside0.mk hne
    have HI := Aside0.mk hI
    have HD := Aside0.mk hd
    have HDs := Aside0.mk hD
    have S4 := Aside0.mk s4
    have ne1 : g ≠ H + 1 := by omega
    have ne2 : g ≠ H + 1 + 1 := by omega
    have ne3 : gs ≠ H + 1 := by omega
    have ne4 : gs ≠ H + 1 + 1 := by omega
    clear hI hne y0 y1 y2 y3 hL5 s4 zz0 zzs hd hD
    gi_wp2
    gi_big_region
    have hko : KeepsOthers W (((W.setCell ⟨H + 1, 0, none⟩ (.string s0)).setCell ⟨H + 1 + 1, 0, none⟩ (.int .i64 0)).drew) := ((KeepsOthers.setCell _ _ _).trans (KeepsOthers.setCell _ _ _)).trans (KeepsOthers.drew _)
    have hb5 : Below H W4 (((W.setCell ⟨H + 1, 0, none⟩ (.string s0)).setCell ⟨H + 1 + 1, 0, none⟩ (.int .i64 0)).drew) := ((HI.out.2.setCell (p := ⟨H + 1, 0, none⟩) (by simp) _).setCell (p := ⟨H + 1 + 1, 0, none⟩) (by simp; omega) _).drew
    have e1 : (((W.setCell ⟨H + 1, 0, none⟩ (.string s0)).setCell ⟨H + 1 + 1, 0, none⟩ (.int .i64 0)).drew).cell? ⟨H + 1, 0, none⟩ = some (.string s0) := by
      show (((W.setCell ⟨H + 1, 0, none⟩ (.string s0)).setCell ⟨H + 1 + 1, 0, none⟩ (.int .i64 0))).cell? _ = _
      rw [World.cell?_setCell_other _ _ _ _ (by simp)]
      exact World.cell?_setCell_same' _ _ _ (by rw [hc1]; rfl)
    have e2 : (((W.setCell ⟨H + 1, 0, none⟩ (.string s0)).setCell ⟨H + 1 + 1, 0, none⟩ (.int .i64 0)).drew).cell? ⟨H + 1 + 1, 0, none⟩ = some (.int .i64 0) := by
      show (((W.setCell ⟨H + 1, 0, none⟩ (.string s0)).setCell ⟨H + 1 + 1, 0, none⟩ (.int .i64 0))).cell? _ = _
      exact World.cell?_setCell_same' _ _ _ (by rw [World.cell?_setCell_other _ _ _ _ (by simp), hc2]; rfl)
    obtain ⟨W5, hW5⟩ : ∃ W5, (((W.setCell ⟨H + 1, 0, none⟩ (.string s0)).setCell ⟨H + 1 + 1, 0, none⟩ (.int .i64 0)).drew) = W5 := ⟨_, rfl⟩
    rw [hW5] at hko hb5 e1 e2 ⊢
    clear hW5 zz0' zzs' hi_ hc1 hc2 hf1 hf2
    have E1 := Aside0.mk e1
    have E2 := Aside0.mk e2
    have KO := Aside0.mk hko
    have HB5 := Aside0.mk hb5
    clear e1 e2 hko hb5
    gi_wp2
    have hK' := KO.out.same D _ HD.out rfl
    refine ⟨by simp, .inl ⟨_, _, rfl, run_takeDeferred hK', ?_⟩⟩
    have hg5 := grownBy_putObj' W5 D (.deferred none)
    have hc5 := cell_kept E1.out hg5 (fun r e => by cases e; exact ⟨_, hK', rfl⟩)
    have hc6 := cell_kept E2.out hg5 (fun r e => by cases e; exact ⟨_, hK', rfl⟩)
    refine ⟨.tuple #[.string s0, .int .i64 0], ?_, ?_, ?_⟩
    · simp [results, Try.f9, go_sem, hc5, hc6]
    · rw [lst_all LL i s0 HNE.out]
    · rw [hH]
      have h2 := hB4.trans (HB5.out.trans (belowK_b (w := W4) (by have := S4.out; omega) W5 D _ (.deferred none) HDs.out hK' rfl rfl))
      exact h2
  case stop =>
    rintro D c pre W hD ⟨kk, hkk, hpre⟩ hx hd
    obtain ⟨⟨rfl, pre', x, hp2, hx1, hx2, hc1, hc2⟩, hB5⟩ := hx
    have S4 := Aside0.mk s4
    have HD := Aside0.mk hd
    have HDs := Aside0.mk hD
    have E1 := Aside0.mk hc1
    have E2 := Aside0.mk hc2
    have HB5 := Aside0.mk hB5
    have HP := Aside0.mk hpre
    have HP2 := Aside0.mk hp2
    have HX1 := Aside0.mk hx1
    have HX2 := Aside0.mk hx2
    clear y0 y1 y2 y3 hL5 s4 zz0 zzs hd hD hc1 hc2 hB5 hpre hp2 hx1 hx2
    gi_wp2
    have hK' := HD.out
    refine ⟨by simp, .inl ⟨_, _, rfl, run_takeDeferred hK', ?_⟩⟩
    have hg5 := grownBy_putObj' W D (.deferred none)
    have hc5 := cell_kept E1.out hg5 (fun r e => by cases e; exact ⟨_, hK', rfl⟩)
    have hc6 := cell_kept E2.out hg5 (fun r e => by cases e; exact ⟨_, hK', rfl⟩)
    refine ⟨.tuple #[.string x.2.2, .int .i64 0], ?_, ?_, ?_⟩
    · simp [results, Try.f9, go_sem, hc5, hc6]
    · have h0 := HP2.out
      rw [HP.out] at h0
      cases kk with
      | zero => simp [bup] at h0
      | succ kk =>
        rw [bup_succ] at h0
        obtain ⟨h1, h2⟩ := List.append_inj' h0 rfl
        have h3 : bf LL kk = x := by simpa using h2
        rw [lst_at LL i s0 kk (by omega) (by rw [h3]; exact HX1.out) (by rw [h1]; exact HX2.out), h3]
    · rw [hH]
      exact hB4.trans (HB5.out.trans (belowK_b (w := W4) (by have := S4.out; omega) W D _ (.deferred none) HDs.out hK' rfl rfl))
end Go.Proofs.Ytanbpjlnomifhaa.SB
