/- slices.Backward over what was written late: its contract. -/
import Derived.RangeFuncBox
import Derived.RangeFuncLeaves
import Derived.RangeFuncNested
import Derived.Shelf.Abstract
import Derived.OwnWalkIn
import Derived.TacticsInMore
import Derived.LoopNIn
import Derived.LoopIn
import Derived.Test.YtanbpjlnomifhaaSL
namespace Go.Proofs.Ytanbpjlnomifhaa.SB
open Go.RowKit Go.Shelf Go.Proofs.YtanbpjlnomifhaaW.PrintWords Go.Proofs.YtanbpjlnomifhaaS Go.Proofs.Ytanbpjlnomifhaa.SL
attribute [local go_sem] Oper.semAt_some

abbrev BE := Int × WS
def benc (x : BE) : Array Value := #[.int .i64 x.1, .agg #[.int .i64 x.2.1, .string x.2.2]]
def bf (L : List WS) (k : Nat) : BE := ((L.length : Int) - 1 - k, rdOf zW L ((L.length : Int) - 1 - k))
def bup (L : List WS) (k : Nat) : List BE := (List.range k).map (bf L)
theorem bup_succ (L : List WS) (k : Nat) : bup L (k + 1) = bup L k ++ [bf L k] := by simp [bup, List.range_succ]
theorem bup_length (L : List WS) (k : Nat) : (bup L k).length = k := by simp [bup]

set_option maxRecDepth 100000 in
set_option maxHeartbeats 4000000 in
theorem back1_in (F : Fence) (n : Nat) (h22 : F.fn 22) (hro : F.round = none) (hn : 1 ≤ n) (l Bs n₀ gl cap : Nat) (L : List WS) (hlen : L.length ≤ 1000000000000) (hb : gl < n₀) (hbs : Bs < n₀) (J Jx : List BE → World → Prop)
    (hY : ∀ pre x W, J pre W → pre.length < L.length → YieldAt F (n - 1) Try.prog l (benc x) W fun e W' =>
      (e = .returned (.bool true) ∧ J (pre ++ [x]) W' ∧ Below n₀ W W') ∨ (e = .returned (.bool false) ∧ Jx (pre ++ [x]) W'))
    (W : World) (hBs : W.cell? ⟨Bs, 0, none⟩ = some (.slice (some ⟨gl, 0, none⟩) L.length cap))
    (hc : ∀ j : Int, 0 ≤ j → j < L.length → W.cell? ⟨gl, j.toNat * 2, none⟩ = some (.int .i64 (rdOf zW L j).1) ∧ W.cell? ⟨gl, j.toNat * 2 + 1, none⟩ = some (.string (rdOf zW L j).2)) (h0 : J [] W) :
    CallsIn F n Try.prog 22 #[.func (.yield l) #[] #[], .pointer (some ⟨Bs, 0, none⟩)] W fun e W' => (∃ v, e = .returned v) ∧
      ((∃ ys, ys = bup L L.length ∧ J ys W') ∨ (∃ pre, (∃ k, k ≤ L.length ∧ pre = bup L k) ∧ Jx pre W')) := by
  refine callsIn_of_wp Try.func22 rfl h22 ?_ hro
  simp only [Try.ntmps22, List.size_toArray, List.length_cons, List.length_nil, Nat.reduceAdd, Nat.reduceSub, Array.replicate_succ, Array.replicate_zero, List.push_toArray, List.append_toArray, List.nil_append, List.cons_append]
  gi_wp2
  gi_loopw [3] (fun i wr => ∃ k : Nat, k ≤ L.length ∧ i = .int .i64 ((L.length : Int) - 1 - k) ∧ J (bup L k) wr ∧ Below n₀ W wr)
    (fun i _ => (intOf i + 1).toNat)
  case atStart => exact ⟨0, Nat.zero_le _, by simp, h0, Below.refl _ _⟩
  case round =>
    obtain ⟨k, hk, rfl, hJs, hnx⟩ := hrel
    have hbx : wr.cell? ⟨Bs, 0, none⟩ = some (.slice (some ⟨gl, 0, none⟩) L.length cap) := (hnx.cell (p := ⟨Bs, 0, none⟩) hbs).trans hBs
    by_cases hlt : k < L.length
    · obtain ⟨j, hj⟩ : ∃ j : Int, j = (L.length : Int) - 1 - k := ⟨_, rfl⟩
      have hj0 : 0 ≤ j := by omega
      have hj1 : j < L.length := by omega
      obtain ⟨c0, c1⟩ := hc j hj0 hj1
      have hc0 : wr.cell? ⟨gl, j.toNat * 2, none⟩ = some (.int .i64 (rdOf zW L j).1) := (hnx.cell (p := ⟨gl, j.toNat * 2, none⟩) hb).trans c0
      have hc1 : wr.cell? ⟨gl, j.toNat * 2 + 1, none⟩ = some (.string (rdOf zW L j).2) := (hnx.cell (p := ⟨gl, j.toNat * 2 + 1, none⟩) hb).trans c1
      obtain ⟨fn, tmps, assign, body, hy, hR⟩ := hY _ (bf L k) wr hJs (by rw [bup_length]; exact hlt)
      have hbe : benc (bf L k) = #[.int .i64 j, .agg #[.int .i64 (rdOf zW L j).1, .string (rdOf zW L j).2]] := by rw [hj]; rfl
      rw [hbe] at hy
      have HJ : Hid (j = (L.length : Int) - 1 - k) := hj
      rw [← hj]
      clear c0 c1 hbe hc hj hk
      gi_wp2
      refine hR.mono ?_
      rintro e W3 (⟨rfl, hJ3, hk3⟩ | ⟨rfl, hJx3⟩)
      · gi_wp2
        go_roundw
        case rel => exact ⟨k + 1, by omega, by have := HJ.out; simp; omega, by rw [bup_succ]; exact hJ3, hnx.trans hk3⟩
        case measure => simp [intOf]; omega
      · gi_wp2
        refine bodyPost_ret (results_none rfl _ _ _) rfl ?_
        exact ⟨⟨_, rfl⟩, .inr ⟨_, ⟨k + 1, by omega, (bup_succ _ _).symm⟩, hJx3⟩⟩
    · obtain rfl : k = L.length := by omega
      have hneg : ((L.length : Int) - 1 - (L.length : Int)) = -1 := by omega
      rw [hneg]
      clear hneg
      gi_wp2
      go_end0
      exact ⟨⟨_, rfl⟩, .inl ⟨_, rfl, hJs⟩⟩
end Go.Proofs.Ytanbpjlnomifhaa.SB
