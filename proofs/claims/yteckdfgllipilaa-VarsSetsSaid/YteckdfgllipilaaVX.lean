/- Tables asked, shown, compared. -/
import Derived.Test.YteckdfgllipilaaVQ
import Derived.Test.YteckdfgllipilaaWEqStruct
namespace Go.Proofs.Yteckdfgllipilaa.VX
open Go.RowKit Go.Proofs.YteckdfgllipilaaW.PrintWords Go.Proofs.YteckdfgllipilaaW.PrintLast Go.Proofs.YteckdfgllipilaaS Go.Proofs.Yteckdfgllipilaa.NU Go.Proofs.Yteckdfgllipilaa.NV Go.Proofs.Yteckdfgllipilaa.NW Go.Proofs.Yteckdfgllipilaa.VP Go.Proofs.Yteckdfgllipilaa.VT Go.Proofs.Yteckdfgllipilaa.VU Go.Proofs.Yteckdfgllipilaa.VI Go.Proofs.Yteckdfgllipilaa.VD Go.Proofs.Yteckdfgllipilaa.VS Go.Proofs.Yteckdfgllipilaa.VR Go.Proofs.Yteckdfgllipilaa.VN Go.Proofs.Yteckdfgllipilaa.VQ

theorem eqV (d : Nat) (w : World) (x0 y0 : ByteArray) (x1 y1 : ByteArray) : (Op.equalIn (d + 2) 26 (.agg #[.string x0, .string x1]) (.agg #[.string y0, .string y1])).run Try.prog w = .ok (x0.toList == y0.toList && (x1.toList == y1.toList)) w := by
  refine eqA_of Try.underlying26 (by kernel_rfl) ?_
  refine eqf_cons (by rfl) (by go_simp; rfl) (by go_simp; rfl) (by go_simp) ?_
  exact eqf_last (by rfl) (by go_simp; rfl) (by go_simp; rfl) (by go_simp)
theorem eqV_same (x : VT) (d : Nat) (w : World) : (Op.equalIn (d + 2) 26 (.agg #[.string x.1, .string x.2]) (.agg #[.string x.1, .string x.2])).run Try.prog w = .ok true w := by
  rw [eqV]; simp
theorem build3 {a b : Value} {i : Int} (h1 : a.oneCell' = true) (h2 : b.oneCell' = true) (w : World) : (Instr.build 36 ([0, 1, 2].zip [a, b, .int .i64 i]).toArray).run Try.prog w = .ok (.agg #[a, b, .int .i64 i]) w := by
  cases a <;> cases b <;> first | (cases h1; done) | (cases h2; done) | kernel_rfl
theorem lookV_placed {V : List VT} {s : ByteArray} {i : Int} (hu : Up V) (h : Placed V s i) : (i < 0 → lookV V s = (⟨#[]⟩, false)) ∧ (¬ i < 0 → (0 ≤ i ∧ i < V.length) ∧ lookV V s = ((rdOf zV V i).2, true)) := by
  rcases h with ⟨h0, h1, h2⟩ | ⟨rfl, h2⟩
  · exact ⟨fun h => by omega, fun _ => ⟨⟨h0, h1⟩, lookV_some hu h0 h1 h2⟩⟩
  · exact ⟨fun _ => lookV_none h2, fun h => by omega⟩

theorem mixed_ : Try.prog.follows .mixedOrders = true := by kernel_rfl
theorem ag26 (w : World) : (isAgg 26).run Try.prog w = .ok true w := by kernel_rfl
theorem ag36 (w : World) : (isAgg 36).run Try.prog w = .ok true w := by kernel_rfl
theorem al36 (w : World) : (Instr.alloc 36 true (.tuple #[])).run Try.prog w = .ok (.pointer (some ⟨w.heap.size, 0, none⟩)) (w.alloc (.cells #[.slice none 0 0, .slice none 0 0, .int .i64 0] 36 (0, 0))) := by kernel_rfl
theorem pl3 : Plain Try.prog 3 := plain_int Try.underlying3
theorem pl9 : Plain Try.prog 9 := plain_string Try.underlying9
theorem pl22 : Plain Try.prog 22 := plain_slice Try.underlying22
theorem pl23 : Plain Try.prog 23 := plain_slice Try.underlying23
theorem sz9 (w : World) : (sizeOf 9).run Try.prog w = .ok 1 w := by kernel_rfl
theorem sz26 (w : World) : (sizeOf 26).run Try.prog w = .ok 2 w := by kernel_rfl
theorem sz36 (w : World) : (sizeOf 36).run Try.prog w = .ok 3 w := by kernel_rfl
set_option maxRecDepth 100000 in
set_option maxHeartbeats 1000000 in
theorem rget_con (B : Nat) (Av Aa : Option Addr) (cv ca : Nat) (m : T) (hm : m.Ok) (s : ByteArray) (hz : s.size ≤ 9223372036854775806) (S : World → Prop) (hBS : ∀ w, S w → B ≤ w.heap.size) (hCV : ∀ w, S w → kV.C w Av m.V.length m.V) (hCA : ∀ w, S w → Kd.string.C w Aa m.A.length m.A) :
    Con Try.prog 14 [.agg #[.slice Av m.V.length cv, .slice Aa m.A.length ca, .int .i64 m.st], .string s] S [] (fun _ : Unit => .tuple #[.string (m.get s).1, .bool (m.get s).2]) (fun _ => True) (fun _ => []) := by
 have hnV := hm.nV
 have hnA := hm.nA
 have hst := hm.st
 refine Con.of_none fun w hS => ?_
 have hs : Sep w (fun _ => False) [] := trivial
 have hB := hBS w hS
 have hlV := (C_lenm (hCV w hS)).1
 have hV := fun (w' : World) (M : List Atom) (h : St w (fun _ => False) w' M) => Kd.C_below (hCV w hS) h.below
 have hA := fun (w' : World) (M : List Atom) (h : St w (fun _ => False) w' M) => Kd.C_below (hCA w hS) h.below
 refine enter (args := [.agg #[.slice Av m.V.length cv, .slice Aa m.A.length ca, .int .i64 m.st], .string s]) Try.func14 rfl rfl rfl hs ?_
 refine GC.seq ?_
 refine GC.region ?_
 refine GL.does [] rfl rfl rfl rfl (Does.box (cs := #[.slice Av m.V.length cv, .slice Aa m.A.length ca, .int .i64 m.st]) (Bs hB) rfl rfl rfl) fun gt hgt => ?_
 refine GL.gives rfl rfl rfl (Gives.assign rfl rfl) ?_
 refine GL.gives rfl rfl rfl (Gives.assign rfl rfl) ?_
 refine GL.nil ?_
 refine GQ.thenN ?_
 refine GC.seq ?_
 refine GC.seq ?_
 refine GC.region ?_
 refine GL.gives rfl rfl rfl (Gives.move rfl rfl) ?_
 refine GL.gives rfl rfl rfl (Gives.eqs rfl rfl rfl) ?_
 refine GL.nil ?_
 refine GQ.thenN ?_
 refine GC.split (t := 10) rfl (fun h10 => ?_) (fun h10 => ?_)
 ·
   replace h10 := str_eq.1 h10
   refine GC.condT rfl rfl ?_
   refine GC.seq ?_
   refine GC.region ?_
   refine GL.gives rfl rfl rfl (Gives.fieldAddr (q := ⟨gt, 1, none⟩) rfl rfl (fun _ => by kernel_rfl)) ?_
   refine GL.gives rfl rfl rfl (Gives.loadc (v := .slice Aa m.A.length ca) 0 rfl rfl pl23 rfl rfl) ?_
   refine GL.gives rfl rfl rfl (Gives.len rfl rfl Try.underlying23) ?_
   refine GL.does [] rfl rfl rfl rfl (Does.call rfl rfl Try.func33 rfl rfl (rtext_con ((m.A.length : Nat) : Int) (by omega) _)) fun _ _ => ?_
   refine GL.gives rfl rfl rfl (Gives.assign rfl rfl) ?_
   refine GL.gives rfl rfl rfl (Gives.assign rfl rfl) ?_
   refine GL.nil ?_
   refine GQ.thenN ?_
   refine GC.ret ?_
   refine GQ.thenR ?_
   refine GQ.ret2 (.inl rfl) rfl rfl rfl ?_
   intro w' hs
   exact ⟨(), by rw [get_count h10], trivial, hs.nil⟩
 ·
   replace h10 := str_ne h10
   refine GC.condF rfl rfl ?_
   refine GC.skip ?_
   refine GQ.thenN ?_
   refine GC.seq ?_
   refine GC.seq ?_
   refine GC.region ?_
   refine GL.gives rfl rfl rfl (Gives.move rfl rfl) ?_
   refine GL.gives rfl rfl rfl (Gives.eqs rfl rfl rfl) ?_
   refine GL.nil ?_
   refine GQ.thenN ?_
   refine GC.split (t := 16) rfl (fun h16 => ?_) (fun h16 => ?_)
   ·
     replace h16 := str_eq.1 h16
     refine GC.condT rfl rfl ?_
     refine GC.seq ?_
     refine GC.region ?_
     refine GL.gives rfl rfl rfl (Gives.fieldAddr (q := ⟨gt, 2, none⟩) rfl rfl (fun _ => by kernel_rfl)) ?_
     refine GL.gives rfl rfl rfl (Gives.loadc (v := .int .i64 m.st) 0 rfl rfl pl3 rfl rfl) ?_
     refine GL.does [] rfl rfl rfl rfl (Does.call rfl rfl Try.func33 rfl rfl (rtext_con m.st (by omega) _)) fun _ _ => ?_
     refine GL.gives rfl rfl rfl (Gives.assign rfl rfl) ?_
     refine GL.gives rfl rfl rfl (Gives.assign rfl rfl) ?_
     refine GL.nil ?_
     refine GQ.thenN ?_
     refine GC.ret ?_
     refine GQ.thenR ?_
     refine GQ.ret2 (.inl rfl) rfl rfl rfl ?_
     intro w' hs
     exact ⟨(), by rw [get_status h16], trivial, hs.nil⟩
   ·
     replace h16 := str_ne h16
     refine GC.condF rfl rfl ?_
     refine GC.skip ?_
     refine GQ.thenN ?_
     refine GC.seq ?_
     refine GC.seq ?_
     refine GC.region ?_
     refine GL.gives rfl rfl rfl (Gives.move rfl rfl) ?_
     refine GL.gives rfl rfl rfl (Gives.eqs rfl rfl rfl) ?_
     refine GL.gives rfl rfl rfl (Gives.move rfl rfl) ?_
     refine GL.split (t := 22) rfl (fun h22 => ?_) (fun h22 => ?_)
     ·
       replace h22 := str_eq.1 h22
       refine GL.skip rfl rfl rfl ?_
       refine GL.skip rfl rfl rfl ?_
       refine GL.gives rfl rfl rfl (Gives.pickT rfl rfl rfl rfl) ?_
       refine GL.nil ?_
       refine GQ.thenN ?_
       refine GC.condT rfl rfl ?_
       refine GC.seq ?_
       refine GC.draw (fun w => St _ _ w _) [] #[false, false, false, false, false, false, false, false, false] mixed_ rfl rfl (fun _ h => h) ?_
       refine GA.pure 0 #[true, false, false, false, false, false, false, false, false] (by repeat (first | exact PanicOk.body | refine PanicOk.then ?_ | refine PanicOk.block ?_)) rfl rfl (by kernel_rfl) rfl rfl (Gives.fieldAddr (q := ⟨gt, 1, none⟩) rfl rfl (fun _ => by kernel_rfl)) ?_
       refine GA.take 1 #[true, true, false, false, false, false, false, false, false] (by repeat (first | exact PanicOk.body | refine PanicOk.then ?_ | refine PanicOk.block ?_)) rfl rfl (by kernel_rfl) rfl rfl (fun _ h => h) (Gives.loadc (v := .slice Aa m.A.length ca) 0 rfl rfl pl23 rfl rfl) ?_
       refine GA.pure 3 #[true, true, false, true, false, false, false, false, false] (by repeat (first | exact PanicOk.body | refine PanicOk.then ?_ | refine PanicOk.block ?_)) rfl rfl (by kernel_rfl) rfl rfl (Gives.fieldAddr (q := ⟨gt, 1, none⟩) rfl rfl (fun _ => by kernel_rfl)) ?_
       refine GA.take 4 #[true, true, false, true, true, false, false, false, false] (by repeat (first | exact PanicOk.body | refine PanicOk.then ?_ | refine PanicOk.block ?_)) rfl rfl (by kernel_rfl) rfl rfl (fun _ h => h) (Gives.loadc (v := .slice Aa m.A.length ca) 0 rfl rfl pl23 rfl rfl) ?_
       refine GA.pure 5 #[true, true, false, true, true, true, false, false, false] (by repeat (first | exact PanicOk.body | refine PanicOk.then ?_ | refine PanicOk.block ?_)) rfl rfl (by kernel_rfl) rfl rfl (Gives.len rfl rfl Try.underlying23) ?_
       refine GA.pure 6 #[true, true, false, true, true, true, true, false, false] (by repeat (first | exact PanicOk.body | refine PanicOk.then ?_ | refine PanicOk.block ?_)) rfl rfl (by kernel_rfl) rfl rfl (Gives.gtr rfl rfl rfl) ?_
       refine GA.one 2 #[true, true, true, true, true, true, true, false, false] [] rfl rfl (by kernel_rfl) (by decide) rfl rfl rfl (Does.call rfl rfl Try.func34 rfl rfl (joined_con Aa m.A.length ca m hm rfl _ (fun w' hs' => hA w' _ hs'))) (fun _ _ _ h => h) fun _ _ => ?_
       refine GA.pure 7 #[true, true, true, true, true, true, true, true, false] (by repeat (first | exact PanicOk.body | refine PanicOk.then ?_ | refine PanicOk.block ?_)) rfl rfl (by kernel_rfl) rfl rfl (Gives.assign rfl rfl) ?_
       refine GA.pure 8 #[true, true, true, true, true, true, true, true, true] (by repeat (first | exact PanicOk.body | refine PanicOk.then ?_ | refine PanicOk.block ?_)) rfl rfl (by kernel_rfl) rfl rfl (Gives.assign rfl rfl) ?_
       refine GA.done (by kernel_rfl) ?_
       refine GQ.thenN ?_
       refine GC.ret ?_
       refine GQ.thenR ?_
       refine GQ.ret2 (.inl rfl) rfl rfl rfl ?_
       intro w' hs
       refine ⟨(), ?_, trivial, hs.nil⟩
       rw [get_all (by first | exact .inl h22 | exact .inr h25)]
       refine ret2b ?_
       exact decide_eq_decide.2 (by omega)
     ·
       replace h22 := str_ne h22
       refine GL.gives rfl rfl rfl (Gives.move rfl rfl) ?_
       refine GL.gives rfl rfl rfl (Gives.eqs rfl rfl rfl) ?_
       refine GL.gives rfl rfl rfl (Gives.pickF rfl rfl rfl rfl) ?_
       refine GL.nil ?_
       refine GQ.thenN ?_
       refine GC.split (t := 25) rfl (fun h25 => ?_) (fun h25 => ?_)
       ·
         replace h25 := str_eq.1 h25
         refine GC.condT rfl rfl ?_
         refine GC.seq ?_
         refine GC.draw (fun w => St _ _ w _) [] #[false, false, false, false, false, false, false, false, false] mixed_ rfl rfl (fun _ h => h) ?_
         refine GA.pure 0 #[true, false, false, false, false, false, false, false, false] (by repeat (first | exact PanicOk.body | refine PanicOk.then ?_ | refine PanicOk.block ?_)) rfl rfl (by kernel_rfl) rfl rfl (Gives.fieldAddr (q := ⟨gt, 1, none⟩) rfl rfl (fun _ => by kernel_rfl)) ?_
         refine GA.take 1 #[true, true, false, false, false, false, false, false, false] (by repeat (first | exact PanicOk.body | refine PanicOk.then ?_ | refine PanicOk.block ?_)) rfl rfl (by kernel_rfl) rfl rfl (fun _ h => h) (Gives.loadc (v := .slice Aa m.A.length ca) 0 rfl rfl pl23 rfl rfl) ?_
         refine GA.pure 3 #[true, true, false, true, false, false, false, false, false] (by repeat (first | exact PanicOk.body | refine PanicOk.then ?_ | refine PanicOk.block ?_)) rfl rfl (by kernel_rfl) rfl rfl (Gives.fieldAddr (q := ⟨gt, 1, none⟩) rfl rfl (fun _ => by kernel_rfl)) ?_
         refine GA.take 4 #[true, true, false, true, true, false, false, false, false] (by repeat (first | exact PanicOk.body | refine PanicOk.then ?_ | refine PanicOk.block ?_)) rfl rfl (by kernel_rfl) rfl rfl (fun _ h => h) (Gives.loadc (v := .slice Aa m.A.length ca) 0 rfl rfl pl23 rfl rfl) ?_
         refine GA.pure 5 #[true, true, false, true, true, true, false, false, false] (by repeat (first | exact PanicOk.body | refine PanicOk.then ?_ | refine PanicOk.block ?_)) rfl rfl (by kernel_rfl) rfl rfl (Gives.len rfl rfl Try.underlying23) ?_
         refine GA.pure 6 #[true, true, false, true, true, true, true, false, false] (by repeat (first | exact PanicOk.body | refine PanicOk.then ?_ | refine PanicOk.block ?_)) rfl rfl (by kernel_rfl) rfl rfl (Gives.gtr rfl rfl rfl) ?_
         refine GA.one 2 #[true, true, true, true, true, true, true, false, false] [] rfl rfl (by kernel_rfl) (by decide) rfl rfl rfl (Does.call rfl rfl Try.func34 rfl rfl (joined_con Aa m.A.length ca m hm rfl _ (fun w' hs' => hA w' _ hs'))) (fun _ _ _ h => h) fun _ _ => ?_
         refine GA.pure 7 #[true, true, true, true, true, true, true, true, false] (by repeat (first | exact PanicOk.body | refine PanicOk.then ?_ | refine PanicOk.block ?_)) rfl rfl (by kernel_rfl) rfl rfl (Gives.assign rfl rfl) ?_
         refine GA.pure 8 #[true, true, true, true, true, true, true, true, true] (by repeat (first | exact PanicOk.body | refine PanicOk.then ?_ | refine PanicOk.block ?_)) rfl rfl (by kernel_rfl) rfl rfl (Gives.assign rfl rfl) ?_
         refine GA.done (by kernel_rfl) ?_
         refine GQ.thenN ?_
         refine GC.ret ?_
         refine GQ.thenR ?_
         refine GQ.ret2 (.inl rfl) rfl rfl rfl ?_
         intro w' hs
         refine ⟨(), ?_, trivial, hs.nil⟩
         rw [get_all (by first | exact .inl h22 | exact .inr h25)]
         refine ret2b ?_
         exact decide_eq_decide.2 (by omega)
       ·
         replace h25 := str_ne h25
         refine GC.condF rfl rfl ?_
         refine GC.skip ?_
         refine GQ.thenN ?_
         refine GC.seq ?_
         refine GC.seq ?_
         refine GC.region ?_
         refine GL.gives rfl rfl rfl (Gives.move rfl rfl) ?_
         refine GL.gives rfl rfl rfl (Gives.lens rfl rfl Try.underlying9) ?_
         refine GL.gives rfl rfl rfl (Gives.gtr rfl rfl rfl) ?_
         refine GL.gives rfl rfl rfl (Gives.move rfl rfl) ?_
         refine GL.split (t := 36) rfl (fun h36 => ?_) (fun h36 => ?_)
         ·
           replace h36 := of_decide_eq_true h36
           refine GL.gives rfl rfl rfl (Gives.move rfl rfl) ?_
           refine GL.gives rfl rfl rfl (Gives.index rfl rfl rfl Try.underlying9 (by omega) (by omega)) ?_
           refine GL.does [] rfl rfl rfl rfl (Does.call rfl rfl Try.func35 rfl rfl (ref_Digit_con (byteAt s 0) _)) fun _ _ => ?_
           refine GL.gives rfl rfl rfl (Gives.pickT rfl rfl rfl rfl) ?_
           refine GL.nil ?_
           refine GQ.thenN ?_
           refine GC.split (t := 40) rfl (fun h40 => ?_) (fun h40 => ?_)
           ·
             have _ := h40
             refine GC.condT rfl rfl ?_
             refine GC.seq ?_
             refine GC.region ?_
             refine GL.gives rfl rfl rfl (Gives.move rfl rfl) ?_
             refine GL.does [] rfl rfl rfl rfl (Does.call rfl rfl Try.func36 rfl rfl (rdecimal_con s (by omega) (by assumption) (by omega) _)) fun _ _ => ?_
             refine GL.gives rfl rfl rfl (Gives.move rfl rfl) ?_
             refine GL.gives rfl rfl rfl (Gives.extract (v := .int .i64 (rdRes s 9223372036854775807).1) rfl rfl rfl) ?_
             refine GL.gives rfl rfl rfl (Gives.extract (v := .int .i64 (rdRes s 9223372036854775807).2) rfl rfl rfl) ?_
             refine GL.gives rfl rfl rfl (Gives.assign rfl rfl) ?_
             refine GL.gives rfl rfl rfl (Gives.assign rfl rfl) ?_
             refine GL.nil ?_
             refine GQ.thenN ?_
             refine GC.seq ?_
             refine GC.seq ?_
             refine GC.region ?_
             refine GL.gives rfl rfl rfl (Gives.move rfl rfl) ?_
             refine GL.gives rfl rfl rfl (Gives.nei rfl rfl rfl) ?_
             refine GL.gives rfl rfl rfl (Gives.move rfl rfl) ?_
             refine GL.split (t := 48) rfl (fun h48 => ?_) (fun h48 => ?_)
             ·
               replace h48 := by first | exact bne_iff_ne.1 h48 | simpa using h48
               refine GL.skip rfl rfl rfl ?_
               refine GL.skip rfl rfl rfl ?_
               refine GL.gives rfl rfl rfl (Gives.pickT rfl rfl rfl rfl) ?_
               refine GL.gives rfl rfl rfl (Gives.move rfl rfl) ?_
               refine GL.skip rfl rfl rfl ?_
               refine GL.skip rfl rfl rfl ?_
               refine GL.skip rfl rfl rfl ?_
               refine GL.skip rfl rfl rfl ?_
               refine GL.skip rfl rfl rfl ?_
               refine GL.gives rfl rfl rfl (Gives.pickT rfl rfl rfl rfl) ?_
               refine GL.nil ?_
               refine GQ.thenN ?_
               refine GC.condT rfl rfl ?_
               refine GC.seq ?_
               refine GC.region ?_
               refine GL.gives rfl rfl rfl (Gives.assign rfl rfl) ?_
               refine GL.gives rfl rfl rfl (Gives.assign rfl rfl) ?_
               refine GL.nil ?_
               refine GQ.thenN ?_
               refine GC.ret ?_
               refine GQ.thenR ?_
               refine GQ.thenR ?_
               refine GQ.ret2 (.inl rfl) rfl rfl rfl ?_
               intro w' hs
               refine ⟨(), ?_, trivial, hs.nil⟩
               rw [get_dig h10 h16 h22 h25 ⟨by omega, h40⟩, if_neg (by omega)]
             ·
               replace h48 := by first | exact eq_of_bne_false h48 | simpa using h48
               refine GL.gives rfl rfl rfl (Gives.move rfl rfl) ?_
               refine GL.gives rfl rfl rfl (Gives.lss rfl rfl rfl) ?_
               refine GL.gives rfl rfl rfl (Gives.pickF rfl rfl rfl rfl) ?_
               refine GL.gives rfl rfl rfl (Gives.move rfl rfl) ?_
               refine GL.split (t := 52) rfl (fun h52 => ?_) (fun h52 => ?_)
               ·
                 replace h52 := of_decide_eq_true h52
                 refine GL.skip rfl rfl rfl ?_
                 refine GL.skip rfl rfl rfl ?_
                 refine GL.skip rfl rfl rfl ?_
                 refine GL.skip rfl rfl rfl ?_
                 refine GL.skip rfl rfl rfl ?_
                 refine GL.gives rfl rfl rfl (Gives.pickT rfl rfl rfl rfl) ?_
                 refine GL.nil ?_
                 refine GQ.thenN ?_
                 refine GC.condT rfl rfl ?_
                 refine GC.seq ?_
                 refine GC.region ?_
                 refine GL.gives rfl rfl rfl (Gives.assign rfl rfl) ?_
                 refine GL.gives rfl rfl rfl (Gives.assign rfl rfl) ?_
                 refine GL.nil ?_
                 refine GQ.thenN ?_
                 refine GC.ret ?_
                 refine GQ.thenR ?_
                 refine GQ.thenR ?_
                 refine GQ.ret2 (.inl rfl) rfl rfl rfl ?_
                 intro w' hs
                 refine ⟨(), ?_, trivial, hs.nil⟩
                 rw [get_dig h10 h16 h22 h25 ⟨by omega, h40⟩, if_neg (by omega)]
               ·
                 replace h52 := of_decide_eq_false h52
                 refine GL.gives rfl rfl rfl (Gives.move rfl rfl) ?_
                 refine GL.gives rfl rfl rfl (Gives.fieldAddr (q := ⟨gt, 1, none⟩) rfl rfl (fun _ => by kernel_rfl)) ?_
                 refine GL.gives rfl rfl rfl (Gives.loadc (v := .slice Aa m.A.length ca) 0 rfl rfl pl23 rfl rfl) ?_
                 refine GL.gives rfl rfl rfl (Gives.len rfl rfl Try.underlying23) ?_
                 refine GL.gives rfl rfl rfl (Gives.gtr rfl rfl rfl) ?_
                 refine GL.gives rfl rfl rfl (Gives.pickF rfl rfl rfl rfl) ?_
                 refine GL.nil ?_
                 refine GQ.thenN ?_
                 refine GC.split (t := 58) rfl (fun h58 => ?_) (fun h58 => ?_)
                 ·
                   replace h58 := of_decide_eq_true h58
                   refine GC.condT rfl rfl ?_
                   refine GC.seq ?_
                   refine GC.region ?_
                   refine GL.gives rfl rfl rfl (Gives.assign rfl rfl) ?_
                   refine GL.gives rfl rfl rfl (Gives.assign rfl rfl) ?_
                   refine GL.nil ?_
                   refine GQ.thenN ?_
                   refine GC.ret ?_
                   refine GQ.thenR ?_
                   refine GQ.thenR ?_
                   refine GQ.ret2 (.inl rfl) rfl rfl rfl ?_
                   intro w' hs
                   refine ⟨(), ?_, trivial, hs.nil⟩
                   rw [get_dig h10 h16 h22 h25 ⟨by omega, h40⟩, if_neg (by omega)]
                 ·
                   replace h58 := of_decide_eq_false h58
                   refine GC.condF rfl rfl ?_
                   refine GC.skip ?_
                   refine GQ.thenN ?_
                   refine GC.seq ?_
                   refine GC.region ?_
                   refine GL.gives rfl rfl rfl (Gives.fieldAddr (q := ⟨gt, 1, none⟩) rfl rfl (fun _ => by kernel_rfl)) ?_
                   refine GL.gives rfl rfl rfl (Gives.loadc (v := .slice Aa m.A.length ca) 0 rfl rfl pl23 rfl rfl) ?_
                   refine GL.gives rfl rfl rfl (Gives.move rfl rfl) ?_
                   refine GL.gives rfl rfl rfl (Gives.sub rfl rfl rfl (by omega)) ?_
                   obtain ⟨pa, hpa⟩ := C_some (hCA w hS) (by omega)
                   subst hpa
                   refine GL.gives rfl rfl rfl (Gives.indexAddr (i := (rdRes s 9223372036854775807).1 - 1) rfl rfl rfl Try.underlying23 sz9 (by omega) (by omega)) ?_
                   refine GL.gives rfl rfl rfl (Gives.load rfl rfl pl9 (fun w' hs' => cS (hA w' _ hs') ((rdRes s 9223372036854775807).1 - 1) (by omega) (by omega))) ?_
                   refine GL.gives rfl rfl rfl (Gives.assign rfl rfl) ?_
                   refine GL.gives rfl rfl rfl (Gives.assign rfl rfl) ?_
                   refine GL.nil ?_
                   refine GQ.thenN ?_
                   refine GC.ret ?_
                   refine GQ.thenR ?_
                   refine GQ.ret2 (.inl rfl) rfl rfl rfl ?_
                   intro w' hs
                   refine ⟨(), ?_, trivial, hs.nil⟩
                   rw [get_dig h10 h16 h22 h25 ⟨by omega, h40⟩, if_pos ⟨by omega, by omega, by omega⟩]
           ·
             have _ := h40
             refine GC.condF rfl rfl ?_
             refine GC.skip ?_
             refine GQ.thenN ?_
             refine GC.seq ?_
             have hv : m.get s = lookV m.V s := get_var h10 h16 h22 h25 (by rintro ⟨_, h⟩; rw [h40] at h; cases h)
             refine GC.region ?_
             refine GL.gives rfl rfl rfl (Gives.loadb (cs := #[.slice Av m.V.length cv, .slice Aa m.A.length ca, .int .i64 m.st]) 0 rfl rfl ag36 sz36 rfl) ?_
             refine GL.gives rfl rfl rfl (Gives.move rfl rfl) ?_
             refine GL.does [] rfl rfl rfl rfl (Does.call rfl rfl Try.func37 rfl rfl (rplace_con B Av Aa cv ca m hm s _ (Bs hB) (fun w' hs' => hV w' _ hs'))) fun j hj => ?_
             refine GL.gives rfl rfl rfl (Gives.assign rfl rfl) ?_
             refine GL.nil ?_
             refine GQ.thenN ?_
             refine GC.seq ?_
             refine GC.seq ?_
             refine GC.region ?_
             refine GL.gives rfl rfl rfl (Gives.move rfl rfl) ?_
             refine GL.gives rfl rfl rfl (Gives.lss rfl rfl rfl) ?_
             refine GL.nil ?_
             refine GQ.thenN ?_
             refine GC.split (t := 69) rfl (fun h69 => ?_) (fun h69 => ?_)
             ·
               replace h69 := of_decide_eq_true h69
               refine GC.condT rfl rfl ?_
               refine GC.seq ?_
               refine GC.region ?_
               refine GL.gives rfl rfl rfl (Gives.assign rfl rfl) ?_
               refine GL.gives rfl rfl rfl (Gives.assign rfl rfl) ?_
               refine GL.nil ?_
               refine GQ.thenN ?_
               refine GC.ret ?_
               refine GQ.thenR ?_
               refine GQ.ret2 (.inl rfl) rfl rfl rfl ?_
               intro w' hs
               exact ⟨(), by rw [hv, (lookV_placed hm.up hj).1 h69], trivial, hs.nil⟩
             ·
               replace h69 := of_decide_eq_false h69
               refine GC.condF rfl rfl ?_
               refine GC.skip ?_
               refine GQ.thenN ?_
               refine GC.seq ?_
               obtain ⟨⟨hj0, hj1⟩, hl⟩ := (lookV_placed hm.up hj).2 (by omega)
               refine GC.region ?_
               refine GL.gives rfl rfl rfl (Gives.fieldAddr (q := ⟨gt, 0, none⟩) rfl rfl (fun _ => by kernel_rfl)) ?_
               refine GL.gives rfl rfl rfl (Gives.loadc (v := .slice Av m.V.length cv) 0 rfl rfl pl22 rfl rfl) ?_
               refine GL.gives rfl rfl rfl (Gives.move rfl rfl) ?_
               obtain ⟨p, hp⟩ := C_some (hCV w hS) (by omega)
               subst hp
               refine GL.gives rfl rfl rfl (Gives.indexAddr (i := j) rfl rfl rfl Try.underlying22 sz26 (by omega) (by omega)) ?_
               refine GL.gives rfl rfl rfl (Gives.fieldAddr (q := ⟨(p.add (j.toNat * 2)).block, (p.add (j.toNat * 2)).off + 1, none⟩) rfl rfl (fun _ => by kernel_rfl)) ?_
               refine GL.gives rfl rfl rfl (Gives.load rfl rfl pl9 (fun w' hs' => (cV (hV w' _ hs') j (by omega) (by omega)).2)) ?_
               refine GL.gives rfl rfl rfl (Gives.assign rfl rfl) ?_
               refine GL.gives rfl rfl rfl (Gives.assign rfl rfl) ?_
               refine GL.nil ?_
               refine GQ.thenN ?_
               refine GC.ret ?_
               refine GQ.ret2 (.inl rfl) rfl rfl rfl ?_
               intro w' hs
               exact ⟨(), by rw [hv, hl], trivial, hs.nil⟩
         ·
           replace h36 := of_decide_eq_false h36
           refine GL.skip rfl rfl rfl ?_
           refine GL.skip rfl rfl rfl ?_
           refine GL.skip rfl rfl rfl ?_
           refine GL.gives rfl rfl rfl (Gives.pickF rfl rfl rfl rfl) ?_
           refine GL.nil ?_
           refine GQ.thenN ?_
           refine GC.condF rfl rfl ?_
           refine GC.skip ?_
           refine GQ.thenN ?_
           refine GC.seq ?_
           have hv : m.get s = lookV m.V s := get_var h10 h16 h22 h25 (by omega)
           refine GC.region ?_
           refine GL.gives rfl rfl rfl (Gives.loadb (cs := #[.slice Av m.V.length cv, .slice Aa m.A.length ca, .int .i64 m.st]) 0 rfl rfl ag36 sz36 rfl) ?_
           refine GL.gives rfl rfl rfl (Gives.move rfl rfl) ?_
           refine GL.does [] rfl rfl rfl rfl (Does.call rfl rfl Try.func37 rfl rfl (rplace_con B Av Aa cv ca m hm s _ (Bs hB) (fun w' hs' => hV w' _ hs'))) fun j hj => ?_
           refine GL.gives rfl rfl rfl (Gives.assign rfl rfl) ?_
           refine GL.nil ?_
           refine GQ.thenN ?_
           refine GC.seq ?_
           refine GC.seq ?_
           refine GC.region ?_
           refine GL.gives rfl rfl rfl (Gives.move rfl rfl) ?_
           refine GL.gives rfl rfl rfl (Gives.lss rfl rfl rfl) ?_
           refine GL.nil ?_
           refine GQ.thenN ?_
           refine GC.split (t := 69) rfl (fun h69 => ?_) (fun h69 => ?_)
           ·
             replace h69 := of_decide_eq_true h69
             refine GC.condT rfl rfl ?_
             refine GC.seq ?_
             refine GC.region ?_
             refine GL.gives rfl rfl rfl (Gives.assign rfl rfl) ?_
             refine GL.gives rfl rfl rfl (Gives.assign rfl rfl) ?_
             refine GL.nil ?_
             refine GQ.thenN ?_
             refine GC.ret ?_
             refine GQ.thenR ?_
             refine GQ.ret2 (.inl rfl) rfl rfl rfl ?_
             intro w' hs
             exact ⟨(), by rw [hv, (lookV_placed hm.up hj).1 h69], trivial, hs.nil⟩
           ·
             replace h69 := of_decide_eq_false h69
             refine GC.condF rfl rfl ?_
             refine GC.skip ?_
             refine GQ.thenN ?_
             refine GC.seq ?_
             obtain ⟨⟨hj0, hj1⟩, hl⟩ := (lookV_placed hm.up hj).2 (by omega)
             refine GC.region ?_
             refine GL.gives rfl rfl rfl (Gives.fieldAddr (q := ⟨gt, 0, none⟩) rfl rfl (fun _ => by kernel_rfl)) ?_
             refine GL.gives rfl rfl rfl (Gives.loadc (v := .slice Av m.V.length cv) 0 rfl rfl pl22 rfl rfl) ?_
             refine GL.gives rfl rfl rfl (Gives.move rfl rfl) ?_
             obtain ⟨p, hp⟩ := C_some (hCV w hS) (by omega)
             subst hp
             refine GL.gives rfl rfl rfl (Gives.indexAddr (i := j) rfl rfl rfl Try.underlying22 sz26 (by omega) (by omega)) ?_
             refine GL.gives rfl rfl rfl (Gives.fieldAddr (q := ⟨(p.add (j.toNat * 2)).block, (p.add (j.toNat * 2)).off + 1, none⟩) rfl rfl (fun _ => by kernel_rfl)) ?_
             refine GL.gives rfl rfl rfl (Gives.load rfl rfl pl9 (fun w' hs' => (cV (hV w' _ hs') j (by omega) (by omega)).2)) ?_
             refine GL.gives rfl rfl rfl (Gives.assign rfl rfl) ?_
             refine GL.gives rfl rfl rfl (Gives.assign rfl rfl) ?_
             refine GL.nil ?_
             refine GQ.thenN ?_
             refine GC.ret ?_
             refine GQ.ret2 (.inl rfl) rfl rfl rfl ?_
             intro w' hs
             exact ⟨(), by rw [hv, hl], trivial, hs.nil⟩

set_option maxRecDepth 100000 in
set_option maxHeartbeats 1000000 in
theorem same_con (B : Nat) (Av Aa Bv Ba : Option Addr) (cv ca dv da : Nat) (m : T) (hm : m.Ok) (S : World → Prop) (hBS : ∀ w, S w → B ≤ w.heap.size) (hCV : ∀ w, S w → kV.C w Av m.V.length m.V) (hCA : ∀ w, S w → Kd.string.C w Aa m.A.length m.A) (hDV : ∀ w, S w → kV.C w Bv m.V.length m.V) (hDA : ∀ w, S w → Kd.string.C w Ba m.A.length m.A) :
    Con Try.prog 11 [.agg #[.slice Av m.V.length cv, .slice Aa m.A.length ca, .int .i64 m.st], .agg #[.slice Bv m.V.length dv, .slice Ba m.A.length da, .int .i64 m.st]] S [] (fun _ : Unit => .bool true) (fun _ => True) (fun _ => []) := by
 have hnV := hm.nV
 have hnA := hm.nA
 have hst := hm.st
 refine Con.of_none fun w hS => ?_
 have hs : Sep w (fun _ => False) [] := trivial
 have hB := hBS w hS
 have hlV := (C_lenm (hCV w hS)).1
 have hV := fun (w' : World) (M : List Atom) (h : St w (fun _ => False) w' M) => Kd.C_below (hCV w hS) h.below
 have hA := fun (w' : World) (M : List Atom) (h : St w (fun _ => False) w' M) => Kd.C_below (hCA w hS) h.below
 have hDV' := fun (w' : World) (M : List Atom) (h : St w (fun _ => False) w' M) => Kd.C_below (hDV w hS) h.below
 have hDA' := fun (w' : World) (M : List Atom) (h : St w (fun _ => False) w' M) => Kd.C_below (hDA w hS) h.below
 refine enter (args := [.agg #[.slice Av m.V.length cv, .slice Aa m.A.length ca, .int .i64 m.st], .agg #[.slice Bv m.V.length dv, .slice Ba m.A.length da, .int .i64 m.st]]) Try.func11 rfl rfl rfl hs ?_
 refine GC.seq ?_
 refine GC.region ?_
 refine GL.does [] rfl rfl rfl rfl (Does.box (cs := #[.slice Av m.V.length cv, .slice Aa m.A.length ca, .int .i64 m.st]) (Bs hB) rfl rfl rfl) fun gt hgt => ?_
 refine GL.does [] rfl rfl rfl rfl (Does.box (cs := #[.slice Bv m.V.length dv, .slice Ba m.A.length da, .int .i64 m.st]) (Bs hB) rfl rfl rfl) fun gu hgu => ?_
 refine GL.gives rfl rfl rfl (Gives.assign rfl rfl) ?_
 refine GL.nil ?_
 refine GQ.thenN ?_
 refine GC.seq ?_
 refine GC.seq ?_
 refine GC.region ?_
 refine GL.gives rfl rfl rfl (Gives.fieldAddr (q := ⟨gt, 0, none⟩) rfl rfl (fun _ => by kernel_rfl)) ?_
 refine GL.gives rfl rfl rfl (Gives.loadc (v := .slice Av m.V.length cv) 1 rfl rfl pl22 rfl rfl) ?_
 refine GL.gives rfl rfl rfl (Gives.len rfl rfl Try.underlying22) ?_
 refine GL.gives rfl rfl rfl (Gives.fieldAddr (q := ⟨gu, 0, none⟩) rfl rfl (fun _ => by kernel_rfl)) ?_
 refine GL.gives rfl rfl rfl (Gives.loadc (v := .slice Bv m.V.length dv) 0 rfl rfl pl22 rfl rfl) ?_
 refine GL.gives rfl rfl rfl (Gives.len rfl rfl Try.underlying22) ?_
 refine GL.gives rfl rfl rfl (Gives.nei rfl rfl rfl) ?_
 refine GL.gives rfl rfl rfl (Gives.move rfl rfl) ?_
 refine GL.learn (t := 14) (v' := .bool false) rfl (congrArg Value.bool (by simp)) ?_
 refine GL.gives rfl rfl rfl (Gives.fieldAddr (q := ⟨gt, 1, none⟩) rfl rfl (fun _ => by kernel_rfl)) ?_
 refine GL.gives rfl rfl rfl (Gives.loadc (v := .slice Aa m.A.length ca) 1 rfl rfl pl23 rfl rfl) ?_
 refine GL.gives rfl rfl rfl (Gives.len rfl rfl Try.underlying23) ?_
 refine GL.gives rfl rfl rfl (Gives.fieldAddr (q := ⟨gu, 1, none⟩) rfl rfl (fun _ => by kernel_rfl)) ?_
 refine GL.gives rfl rfl rfl (Gives.loadc (v := .slice Ba m.A.length da) 0 rfl rfl pl23 rfl rfl) ?_
 refine GL.gives rfl rfl rfl (Gives.len rfl rfl Try.underlying23) ?_
 refine GL.gives rfl rfl rfl (Gives.nei rfl rfl rfl) ?_
 refine GL.gives rfl rfl rfl (Gives.pickF rfl rfl rfl rfl) ?_
 refine GL.gives rfl rfl rfl (Gives.move rfl rfl) ?_
 refine GL.learn (t := 23) (v' := .bool false) rfl (congrArg Value.bool (by simp)) ?_
 refine GL.gives rfl rfl rfl (Gives.fieldAddr (q := ⟨gt, 2, none⟩) rfl rfl (fun _ => by kernel_rfl)) ?_
 refine GL.gives rfl rfl rfl (Gives.loadc (v := .int .i64 m.st) 1 rfl rfl pl3 rfl rfl) ?_
 refine GL.gives rfl rfl rfl (Gives.fieldAddr (q := ⟨gu, 2, none⟩) rfl rfl (fun _ => by kernel_rfl)) ?_
 refine GL.gives rfl rfl rfl (Gives.loadc (v := .int .i64 m.st) 0 rfl rfl pl3 rfl rfl) ?_
 refine GL.gives rfl rfl rfl (Gives.nei rfl rfl rfl) ?_
 refine GL.gives rfl rfl rfl (Gives.pickF rfl rfl rfl rfl) ?_
 refine GL.nil ?_
 refine GQ.thenN ?_
 refine GC.condF rfl (by simp) ?_
 refine GC.skip ?_
 refine GQ.thenN ?_
 refine GC.seq ?_
 refine GC.seq ?_
 refine GC.region ?_
 refine GL.gives rfl rfl rfl (Gives.assign rfl rfl) ?_
 refine GL.nil ?_
 refine GQ.thenN ?_
 refine GC.block ?_
 refine GC.loop (σ := Int) (fun k => [(2, .pointer (some ⟨gt, 0, none⟩)), (3, .pointer (some ⟨gu, 0, none⟩)), (5, .int .i64 k)]) (fun _ => [Cells gt #[.slice Av m.V.length cv, .slice Aa m.A.length ca, .int .i64 m.st] 36, Cells gu #[.slice Bv m.V.length dv, .slice Ba m.A.length da, .int .i64 m.st] 36]) (fun k => 0 ≤ k ∧ k ≤ m.V.length) (fun k => (m.V.length - k).toNat) 0 [1, 0] ⟨by omega, by omega⟩ ⟨rfl, rfl, rfl, trivial⟩ rfl ?_
 rintro k ⟨hk0, hk1⟩
 refine GC.seq ?_
 refine GC.seq ?_
 refine GC.region ?_
 refine GL.gives rfl rfl rfl (Gives.move rfl rfl) ?_
 refine GL.gives rfl rfl rfl (Gives.fieldAddr (q := ⟨gt, 0, none⟩) rfl rfl (fun _ => by kernel_rfl)) ?_
 refine GL.gives rfl rfl rfl (Gives.loadc (v := .slice Av m.V.length cv) 0 rfl rfl pl22 rfl rfl) ?_
 refine GL.gives rfl rfl rfl (Gives.len rfl rfl Try.underlying22) ?_
 refine GL.gives rfl rfl rfl (Gives.lss rfl rfl rfl) ?_
 refine GL.nil ?_
 refine GQ.thenN ?_
 refine GC.split (t := 34) rfl (fun h34 => ?_) (fun h34 => ?_)
 ·
   replace h34 := of_decide_eq_true h34
   refine GC.condT rfl rfl ?_
   refine GC.skip ?_
   refine GQ.thenN ?_
   refine GC.seq ?_
   refine GC.block ?_
   refine GC.seq ?_
   refine GC.draw (fun w => St _ _ w _) [] #[false, false, false, false, false, false, false, false, false, false, false] mixed_ rfl rfl (fun _ h => h) ?_
   refine GA.pure 0 #[true, false, false, false, false, false, false, false, false, false, false] (by repeat (first | exact PanicOk.body | refine PanicOk.then ?_ | refine PanicOk.block ?_)) rfl rfl (by kernel_rfl) rfl rfl (Gives.fieldAddr (q := ⟨gt, 0, none⟩) rfl rfl (fun _ => by kernel_rfl)) ?_
   refine GA.take 1 #[true, true, false, false, false, false, false, false, false, false, false] (by repeat (first | exact PanicOk.body | refine PanicOk.then ?_ | refine PanicOk.block ?_)) rfl rfl (by kernel_rfl) rfl rfl (fun _ h => h) (Gives.loadc (v := .slice Av m.V.length cv) 0 rfl rfl pl22 rfl rfl) ?_
   refine GA.pure 2 #[true, true, true, false, false, false, false, false, false, false, false] (by repeat (first | exact PanicOk.body | refine PanicOk.then ?_ | refine PanicOk.block ?_)) rfl rfl (by kernel_rfl) rfl rfl (Gives.move rfl rfl) ?_
   obtain ⟨p, hp⟩ := C_some (hCV w hS) (by omega)
   subst hp
   obtain ⟨q, hq⟩ := C_some (hDV w hS) (by omega)
   subst hq
   refine GA.pure 3 #[true, true, true, true, false, false, false, false, false, false, false] (by repeat (first | exact PanicOk.body | refine PanicOk.then ?_ | refine PanicOk.block ?_)) rfl rfl (by kernel_rfl) rfl rfl (Gives.indexAddr (i := k) rfl rfl rfl Try.underlying22 sz26 (by omega) (by omega)) ?_
   refine GA.take 4 #[true, true, true, true, true, false, false, false, false, false, false] (by repeat (first | exact PanicOk.body | refine PanicOk.then ?_ | refine PanicOk.block ?_)) rfl rfl (by kernel_rfl) rfl rfl (fun _ h => h) (show Gives _ _ _ _ _ (.agg #[.string (rdOf zV m.V k).1, .string (rdOf zV m.V k).2]) from Gives.loadRow (kd := kV) (p := p) (m := m.V.length) (i := k) zV kV_encs rfl rfl ag26 sz26 (fun w' hs' => hV w' _ hs') (by omega) (by omega)) ?_
   refine GA.pure 5 #[true, true, true, true, true, true, false, false, false, false, false] (by repeat (first | exact PanicOk.body | refine PanicOk.then ?_ | refine PanicOk.block ?_)) rfl rfl (by kernel_rfl) rfl rfl (Gives.fieldAddr (q := ⟨gu, 0, none⟩) rfl rfl (fun _ => by kernel_rfl)) ?_
   refine GA.take 6 #[true, true, true, true, true, true, true, false, false, false, false] (by repeat (first | exact PanicOk.body | refine PanicOk.then ?_ | refine PanicOk.block ?_)) rfl rfl (by kernel_rfl) rfl rfl (fun _ h => h) (Gives.loadc (v := .slice (some q) m.V.length dv) 1 rfl rfl pl22 rfl rfl) ?_
   refine GA.pure 7 #[true, true, true, true, true, true, true, true, false, false, false] (by repeat (first | exact PanicOk.body | refine PanicOk.then ?_ | refine PanicOk.block ?_)) rfl rfl (by kernel_rfl) rfl rfl (Gives.move rfl rfl) ?_
   refine GA.pure 8 #[true, true, true, true, true, true, true, true, true, false, false] (by repeat (first | exact PanicOk.body | refine PanicOk.then ?_ | refine PanicOk.block ?_)) rfl rfl (by kernel_rfl) rfl rfl (Gives.indexAddr (i := k) rfl rfl rfl Try.underlying22 sz26 (by omega) (by omega)) ?_
   refine GA.take 9 #[true, true, true, true, true, true, true, true, true, true, false] (by repeat (first | exact PanicOk.body | refine PanicOk.then ?_ | refine PanicOk.block ?_)) rfl rfl (by kernel_rfl) rfl rfl (fun _ h => h) (show Gives _ _ _ _ _ (.agg #[.string (rdOf zV m.V k).1, .string (rdOf zV m.V k).2]) from Gives.loadRow (kd := kV) (p := q) (m := m.V.length) (i := k) zV kV_encs rfl rfl ag26 sz26 (fun w' hs' => hDV' w' _ hs') (by omega) (by omega)) ?_
   refine GA.take 10 #[true, true, true, true, true, true, true, true, true, true, true] (by repeat (first | exact PanicOk.body | refine PanicOk.then ?_ | refine PanicOk.block ?_)) rfl rfl (by kernel_rfl) rfl rfl (fun _ h => h) (Gives.neA (r := true) rfl rfl rfl (fun w => by kernel_rfl) (eqV_same (rdOf zV m.V k))) ?_
   refine GA.done (by kernel_rfl) ?_
   refine GQ.thenN ?_
   refine GC.condF rfl rfl ?_
   refine GC.skip ?_
   refine GQ.blkN ?_
   refine GQ.thenN ?_
   refine GC.region ?_
   refine GL.gives rfl rfl rfl (Gives.move rfl rfl) ?_
   refine GL.gives rfl rfl rfl (Gives.add rfl rfl rfl (by omega)) ?_
   refine GL.gives rfl rfl rfl (Gives.assign rfl rfl) ?_
   refine GL.nil ?_
   refine GQ.back (k + 1) [0, 0] ⟨by omega, by omega⟩ (by omega) ⟨rfl, rfl, rfl, trivial⟩ rfl
 ·
   replace h34 := of_decide_eq_false h34
   refine GC.condF rfl rfl ?_
   refine GC.exit ?_
   refine GQ.thenX ?_
   refine GQ.thenX ?_
   refine GQ.blkX ?_
   refine GQ.thenN ?_
   refine GC.seq ?_
   refine GC.seq ?_
   refine GC.region ?_
   refine GL.gives rfl rfl rfl (Gives.assign rfl rfl) ?_
   refine GL.nil ?_
   refine GQ.thenN ?_
   refine GC.block ?_
   refine GC.loop (σ := Int) (fun k => [(2, .pointer (some ⟨gt, 0, none⟩)), (3, .pointer (some ⟨gu, 0, none⟩)), (6, .int .i64 k)]) (fun _ => [Cells gt #[.slice Av m.V.length cv, .slice Aa m.A.length ca, .int .i64 m.st] 36, Cells gu #[.slice Bv m.V.length dv, .slice Ba m.A.length da, .int .i64 m.st] 36]) (fun k => 0 ≤ k ∧ k ≤ m.A.length) (fun k => (m.A.length - k).toNat) 0 [0, 0] ⟨by omega, by omega⟩ ⟨rfl, rfl, rfl, trivial⟩ rfl ?_
   rintro k ⟨hk0, hk1⟩
   refine GC.seq ?_
   refine GC.seq ?_
   refine GC.region ?_
   refine GL.gives rfl rfl rfl (Gives.move rfl rfl) ?_
   refine GL.gives rfl rfl rfl (Gives.fieldAddr (q := ⟨gt, 1, none⟩) rfl rfl (fun _ => by kernel_rfl)) ?_
   refine GL.gives rfl rfl rfl (Gives.loadc (v := .slice Aa m.A.length ca) 0 rfl rfl pl23 rfl rfl) ?_
   refine GL.gives rfl rfl rfl (Gives.len rfl rfl Try.underlying23) ?_
   refine GL.gives rfl rfl rfl (Gives.lss rfl rfl rfl) ?_
   refine GL.nil ?_
   refine GQ.thenN ?_
   refine GC.split (t := 52) rfl (fun h52 => ?_) (fun h52 => ?_)
   ·
     replace h52 := of_decide_eq_true h52
     refine GC.condT rfl rfl ?_
     refine GC.skip ?_
     refine GQ.thenN ?_
     refine GC.seq ?_
     refine GC.block ?_
     refine GC.seq ?_
     refine GC.draw (fun w => St _ _ w _) [] #[false, false, false, false, false, false, false, false, false, false, false] mixed_ rfl rfl (fun _ h => h) ?_
     refine GA.pure 0 #[true, false, false, false, false, false, false, false, false, false, false] (by repeat (first | exact PanicOk.body | refine PanicOk.then ?_ | refine PanicOk.block ?_)) rfl rfl (by kernel_rfl) rfl rfl (Gives.fieldAddr (q := ⟨gt, 1, none⟩) rfl rfl (fun _ => by kernel_rfl)) ?_
     refine GA.take 1 #[true, true, false, false, false, false, false, false, false, false, false] (by repeat (first | exact PanicOk.body | refine PanicOk.then ?_ | refine PanicOk.block ?_)) rfl rfl (by kernel_rfl) rfl rfl (fun _ h => h) (Gives.loadc (v := .slice Aa m.A.length ca) 0 rfl rfl pl23 rfl rfl) ?_
     refine GA.pure 2 #[true, true, true, false, false, false, false, false, false, false, false] (by repeat (first | exact PanicOk.body | refine PanicOk.then ?_ | refine PanicOk.block ?_)) rfl rfl (by kernel_rfl) rfl rfl (Gives.move rfl rfl) ?_
     obtain ⟨pa, hpa⟩ := C_some (hCA w hS) (by omega)
     subst hpa
     obtain ⟨qa, hqa⟩ := C_some (hDA w hS) (by omega)
     subst hqa
     refine GA.pure 3 #[true, true, true, true, false, false, false, false, false, false, false] (by repeat (first | exact PanicOk.body | refine PanicOk.then ?_ | refine PanicOk.block ?_)) rfl rfl (by kernel_rfl) rfl rfl (Gives.indexAddr (i := k) rfl rfl rfl Try.underlying23 sz9 (by omega) (by omega)) ?_
     refine GA.take 4 #[true, true, true, true, true, false, false, false, false, false, false] (by repeat (first | exact PanicOk.body | refine PanicOk.then ?_ | refine PanicOk.block ?_)) rfl rfl (by kernel_rfl) rfl rfl (fun _ h => h) (Gives.load rfl rfl pl9 (fun w' hs' => cS (hA w' _ hs') k (by omega) (by omega))) ?_
     refine GA.pure 5 #[true, true, true, true, true, true, false, false, false, false, false] (by repeat (first | exact PanicOk.body | refine PanicOk.then ?_ | refine PanicOk.block ?_)) rfl rfl (by kernel_rfl) rfl rfl (Gives.fieldAddr (q := ⟨gu, 1, none⟩) rfl rfl (fun _ => by kernel_rfl)) ?_
     refine GA.take 6 #[true, true, true, true, true, true, true, false, false, false, false] (by repeat (first | exact PanicOk.body | refine PanicOk.then ?_ | refine PanicOk.block ?_)) rfl rfl (by kernel_rfl) rfl rfl (fun _ h => h) (Gives.loadc (v := .slice (some qa) m.A.length da) 1 rfl rfl pl23 rfl rfl) ?_
     refine GA.pure 7 #[true, true, true, true, true, true, true, true, false, false, false] (by repeat (first | exact PanicOk.body | refine PanicOk.then ?_ | refine PanicOk.block ?_)) rfl rfl (by kernel_rfl) rfl rfl (Gives.move rfl rfl) ?_
     refine GA.pure 8 #[true, true, true, true, true, true, true, true, true, false, false] (by repeat (first | exact PanicOk.body | refine PanicOk.then ?_ | refine PanicOk.block ?_)) rfl rfl (by kernel_rfl) rfl rfl (Gives.indexAddr (i := k) rfl rfl rfl Try.underlying23 sz9 (by omega) (by omega)) ?_
     refine GA.take 9 #[true, true, true, true, true, true, true, true, true, true, false] (by repeat (first | exact PanicOk.body | refine PanicOk.then ?_ | refine PanicOk.block ?_)) rfl rfl (by kernel_rfl) rfl rfl (fun _ h => h) (Gives.load rfl rfl pl9 (fun w' hs' => cS (hDA' w' _ hs') k (by omega) (by omega))) ?_
     refine GA.pure 10 #[true, true, true, true, true, true, true, true, true, true, true] (by repeat (first | exact PanicOk.body | refine PanicOk.then ?_ | refine PanicOk.block ?_)) rfl rfl (by kernel_rfl) rfl rfl (Gives.nes rfl rfl rfl) ?_
     refine GA.done (by kernel_rfl) ?_
     refine GQ.thenN ?_
     refine GC.condF rfl (by simp) ?_
     refine GC.skip ?_
     refine GQ.blkN ?_
     refine GQ.thenN ?_
     refine GC.region ?_
     refine GL.gives rfl rfl rfl (Gives.move rfl rfl) ?_
     refine GL.gives rfl rfl rfl (Gives.add rfl rfl rfl (by omega)) ?_
     refine GL.gives rfl rfl rfl (Gives.assign rfl rfl) ?_
     refine GL.nil ?_
     refine GQ.back (k + 1) [0, 0] ⟨by omega, by omega⟩ (by omega) ⟨rfl, rfl, rfl, trivial⟩ rfl
   ·
     replace h52 := of_decide_eq_false h52
     refine GC.condF rfl rfl ?_
     refine GC.exit ?_
     refine GQ.thenX ?_
     refine GQ.thenX ?_
     refine GQ.blkX ?_
     refine GQ.thenN ?_
     refine GC.seq ?_
     refine GC.region ?_
     refine GL.gives rfl rfl rfl (Gives.assign rfl rfl) ?_
     refine GL.nil ?_
     refine GQ.thenN ?_
     refine GC.ret ?_
     refine GQ.ret1 (.inl rfl) rfl rfl ?_
     intro w' hs
     exact ⟨(), rfl, trivial, hs.nil⟩

set_option maxRecDepth 100000 in
set_option maxHeartbeats 1000000 in
theorem vars_con (B g : Nat) (vl al : Value) (m : T) (hm : m.Ok) (S : World → Prop) (hBS : ∀ w, S w → B ≤ w.heap.size) :
    Con Try.prog 22 [.pointer (some ⟨g, 0, none⟩)] S (TK B g vl al m) (fun nv : Value => nv) (fun _ => True) (fun nv => Row B kV 26 nv m.V :: TK B g vl al m) := by
 intro w F0 hS hs hlt
 have hB := hBS w hS
 obtain ⟨Av, cv, hvl, hcv⟩ := row_slice (i := 1) (B := B) (e := 26) (kd := kV) (v := vl) (xs := m.V) rfl w (St.start hs)
 obtain ⟨Aa, ca, hal, hca⟩ := row_slice (i := 2) (B := B) (e := 9) (kd := Kd.string) (v := al) (xs := m.A) rfl w (St.start hs)
 have hAa : 0 < m.A.length → ∃ g o, Aa = some ⟨g, o, none⟩ := fun h0 => by
     obtain ⟨g1, c1, h1⟩ := row_form (i := 2) (B := B) (e := 9) (kd := Kd.string) (v := al) (xs := m.A) rfl h0 w (St.start hs)
     rw [hal] at h1
     injection h1 with h2
     exact ⟨g1, 0, h2⟩
 subst hvl hal
 have hnV := hm.nV
 have hnA := hm.nA
 have hst := hm.st
 refine enter (args := [.pointer (some ⟨g, 0, none⟩)]) Try.func22 rfl rfl rfl hs ?_
 refine GC.seq ?_
 refine GC.region ?_
 refine GL.gives rfl rfl rfl (Gives.assign rfl rfl) ?_
 refine GL.nil ?_
 refine GQ.thenN ?_
 refine GC.seq ?_
 refine GC.seq ?_
 refine GC.region ?_
 refine GL.gives rfl rfl rfl (Gives.move rfl rfl) ?_
 refine GL.gives rfl rfl rfl (Gives.eqp rfl rfl rfl Try.underlying31) ?_
 refine GL.nil ?_
 refine GQ.thenN ?_
 refine GC.condF rfl rfl ?_
 refine GC.skip ?_
 refine GQ.thenN ?_
 refine GC.seq ?_
 refine GC.region ?_
 refine GL.gives rfl rfl rfl (Gives.move rfl rfl) ?_
 refine GL.gives rfl rfl rfl (Gives.nilCheck rfl rfl) ?_
 refine GL.gives rfl rfl rfl (Gives.fieldAddr (q := ⟨g, 0, none⟩) rfl rfl (fun _ => by kernel_rfl)) ?_
 refine GL.gives rfl rfl rfl (Gives.loadc (v := .slice Av m.V.length cv) 0 rfl rfl pl22 rfl rfl) ?_
 refine GL.does [] rfl rfl rfl rfl (Does.call rfl rfl Try.func43 rfl rfl (copyV_con B Av m.V.length cv m.V (by omega) _ (Bs hB) (row_C (i := 1) rfl))) fun nv _ => ?_
 refine GL.gives rfl rfl rfl (Gives.assign rfl rfl) ?_
 refine GL.nil ?_
 refine GQ.thenN ?_
 refine GC.ret ?_
 refine GQ.ret1 (.inl rfl) rfl rfl ?_
 intro w hs
 exact ⟨nv, rfl, trivial, hs⟩

set_option maxRecDepth 100000 in
set_option maxHeartbeats 1000000 in
theorem args_con (B g : Nat) (vl al : Value) (m : T) (hm : m.Ok) (S : World → Prop) (hBS : ∀ w, S w → B ≤ w.heap.size) :
    Con Try.prog 23 [.pointer (some ⟨g, 0, none⟩)] S (TK B g vl al m) (fun na : Value => na) (fun _ => True) (fun na => Row B Kd.string 9 na m.A :: TK B g vl al m) := by
 intro w F0 hS hs hlt
 have hB := hBS w hS
 obtain ⟨Av, cv, hvl, hcv⟩ := row_slice (i := 1) (B := B) (e := 26) (kd := kV) (v := vl) (xs := m.V) rfl w (St.start hs)
 obtain ⟨Aa, ca, hal, hca⟩ := row_slice (i := 2) (B := B) (e := 9) (kd := Kd.string) (v := al) (xs := m.A) rfl w (St.start hs)
 have hAa : 0 < m.A.length → ∃ g o, Aa = some ⟨g, o, none⟩ := fun h0 => by
     obtain ⟨g1, c1, h1⟩ := row_form (i := 2) (B := B) (e := 9) (kd := Kd.string) (v := al) (xs := m.A) rfl h0 w (St.start hs)
     rw [hal] at h1
     injection h1 with h2
     exact ⟨g1, 0, h2⟩
 subst hvl hal
 have hnV := hm.nV
 have hnA := hm.nA
 have hst := hm.st
 refine enter (args := [.pointer (some ⟨g, 0, none⟩)]) Try.func23 rfl rfl rfl hs ?_
 refine GC.seq ?_
 refine GC.region ?_
 refine GL.gives rfl rfl rfl (Gives.assign rfl rfl) ?_
 refine GL.nil ?_
 refine GQ.thenN ?_
 refine GC.seq ?_
 refine GC.seq ?_
 refine GC.region ?_
 refine GL.gives rfl rfl rfl (Gives.move rfl rfl) ?_
 refine GL.gives rfl rfl rfl (Gives.eqp rfl rfl rfl Try.underlying31) ?_
 refine GL.nil ?_
 refine GQ.thenN ?_
 refine GC.condF rfl rfl ?_
 refine GC.skip ?_
 refine GQ.thenN ?_
 refine GC.seq ?_
 refine GC.region ?_
 refine GL.gives rfl rfl rfl (Gives.move rfl rfl) ?_
 refine GL.gives rfl rfl rfl (Gives.nilCheck rfl rfl) ?_
 refine GL.gives rfl rfl rfl (Gives.fieldAddr (q := ⟨g, 1, none⟩) rfl rfl (fun _ => by kernel_rfl)) ?_
 refine GL.gives rfl rfl rfl (Gives.loadc (v := .slice Aa m.A.length ca) 0 rfl rfl pl23 rfl rfl) ?_
 refine GL.does [] rfl rfl rfl rfl (Does.call rfl rfl Try.func42 rfl rfl (copyS_con B Aa m.A.length ca m.A (by omega) _ (Bs hB) (row_C (i := 2) rfl))) fun na _ => ?_
 refine GL.gives rfl rfl rfl (Gives.assign rfl rfl) ?_
 refine GL.nil ?_
 refine GQ.thenN ?_
 refine GC.ret ?_
 refine GQ.ret1 (.inl rfl) rfl rfl ?_
 intro w hs
 exact ⟨na, rfl, trivial, hs⟩

set_option maxRecDepth 100000 in
set_option maxHeartbeats 1000000 in
theorem shown_con (B g : Nat) (vl al : Value) (m : T) (hm : m.Ok) (S : World → Prop) (hBS : ∀ w, S w → B ≤ w.heap.size) :
    Con Try.prog 12 [.pointer (some ⟨g, 0, none⟩)] S (TK B g vl al m) (fun s : Value × Value => .agg #[s.1, s.2, .int .i64 m.st]) (fun _ => True) (fun s => Row B kV 26 s.1 m.V :: Row B Kd.string 9 s.2 m.A :: TK B g vl al m) := by
 intro w F0 hS hs hlt
 have hB := hBS w hS
 obtain ⟨Av, cv, hvl, hcv⟩ := row_slice (i := 1) (B := B) (e := 26) (kd := kV) (v := vl) (xs := m.V) rfl w (St.start hs)
 obtain ⟨Aa, ca, hal, hca⟩ := row_slice (i := 2) (B := B) (e := 9) (kd := Kd.string) (v := al) (xs := m.A) rfl w (St.start hs)
 have hAa : 0 < m.A.length → ∃ g o, Aa = some ⟨g, o, none⟩ := fun h0 => by
     obtain ⟨g1, c1, h1⟩ := row_form (i := 2) (B := B) (e := 9) (kd := Kd.string) (v := al) (xs := m.A) rfl h0 w (St.start hs)
     rw [hal] at h1
     injection h1 with h2
     exact ⟨g1, 0, h2⟩
 subst hvl hal
 have hnV := hm.nV
 have hnA := hm.nA
 have hst := hm.st
 refine enter (args := [.pointer (some ⟨g, 0, none⟩)]) Try.func12 rfl rfl rfl hs ?_
 refine GC.seq ?_
 refine GC.region ?_
 refine GL.does [] rfl rfl rfl rfl (Does.alloc (Bs hB) rfl al36) fun gr hgr => ?_
 refine GL.nil ?_
 refine GQ.thenN ?_
 refine GC.seq ?_
 refine GC.draw (fun w => St _ _ w _) [9] #[false, false, false, false, false, false, false, false, false, false] mixed_ rfl rfl (fun _ h => h) ?_
 refine GA.pure 0 #[true, false, false, false, false, false, false, false, false, false] (by repeat (first | exact PanicOk.body | refine PanicOk.then ?_ | refine PanicOk.block ?_)) rfl rfl (by kernel_rfl) rfl rfl (Gives.move rfl rfl) ?_
 refine GA.pure 2 #[true, false, true, false, false, false, false, false, false, false] (by repeat (first | exact PanicOk.body | refine PanicOk.then ?_ | refine PanicOk.block ?_)) rfl rfl (by kernel_rfl) rfl rfl (Gives.move rfl rfl) ?_
 refine GA.pure 4 #[true, false, true, false, true, false, false, false, false, false] (by repeat (first | exact PanicOk.body | refine PanicOk.then ?_ | refine PanicOk.block ?_)) rfl rfl (by kernel_rfl) rfl rfl (Gives.move rfl rfl) ?_
 refine GA.pure 5 #[true, false, true, false, true, true, false, false, false, false] (by repeat (first | exact PanicOk.body | refine PanicOk.then ?_ | refine PanicOk.block ?_)) rfl rfl (by kernel_rfl) rfl rfl (Gives.nilCheck rfl rfl) ?_
 refine GA.pure 6 #[true, false, true, false, true, true, true, false, false, false] (by repeat (first | exact PanicOk.body | refine PanicOk.then ?_ | refine PanicOk.block ?_)) rfl rfl (by kernel_rfl) rfl rfl (Gives.fieldAddr (q := ⟨g, 2, none⟩) rfl rfl (fun _ => by kernel_rfl)) ?_
 refine GA.take 7 #[true, false, true, false, true, true, true, true, false, false] (by repeat (first | exact PanicOk.body | refine PanicOk.then ?_ | refine PanicOk.block ?_)) rfl rfl (by kernel_rfl) rfl rfl (fun _ h => h) (Gives.loadc (v := .int .i64 m.st) 1 rfl rfl pl3 rfl rfl) ?_
 refine GA.one 1 #[true, true, true, false, true, true, true, true, false, false] [1, 1, 1] rfl rfl (by kernel_rfl) (by decide) rfl rfl rfl (Does.call rfl rfl Try.func22 rfl rfl (vars_con B g (.slice Av m.V.length cv) (.slice Aa m.A.length ca) m hm _ (Bs hB))) (fun _ _ _ h => h.take (is := [4, 1, 1, 1]) rfl) fun nv _ => ?_
 refine GA.know (one_row (i := 0) rfl) fun h1 => ?_
 refine GA.one 3 #[true, true, true, true, true, true, true, true, false, false] [1, 1, 1] rfl rfl (by kernel_rfl) (by decide) rfl rfl rfl (Does.call rfl rfl Try.func23 rfl rfl (args_con B g (.slice Av m.V.length cv) (.slice Aa m.A.length ca) m hm _ (Bs hB))) (fun _ _ _ h => h.take (is := [5, 1, 1, 1]) rfl) fun na _ => ?_
 refine GA.know (one_row (i := 0) rfl) fun h2 => ?_
 refine GA.take 8 #[true, true, true, true, true, true, true, true, true, false] (by repeat (first | exact PanicOk.body | refine PanicOk.then ?_ | refine PanicOk.block ?_)) rfl rfl (by kernel_rfl) rfl rfl (fun _ h => h.take (is := [5, 1, 1, 1]) rfl) (Gives.build (vs := [nv, na, .int .i64 m.st]) rfl rfl (fun w => build3 h1 h2 w)) ?_
 refine GA.last0 9 #[true, true, true, true, true, true, true, true, true, true] [5] rfl rfl (by kernel_rfl) (by decide) rfl rfl (Does.storeb rfl rfl rfl sz36 (by first | (simp [Value.oneCell']; done) | (simp [one_int, one_bool, one_string, one_slice, one_pointer, *]; done)) rfl) fun _ _ => ?_
 refine GA.done (by kernel_rfl) ?_
 refine GQ.thenN ?_
 refine GC.ret ?_
 refine GQ.retS (v := .agg #[nv, na, .int .i64 m.st]) (.inl rfl) rfl ⟨_, rfl, lv_agg (cs := #[nv, na, .int .i64 m.st]) (i := 0) rfl ag36 sz36⟩ ?_
 intro w hs
 exact ⟨(nv, na), rfl, trivial, hs.take (is := [5, 1, 1, 1, 1]) rfl⟩

end Go.Proofs.Yteckdfgllipilaa.VX
