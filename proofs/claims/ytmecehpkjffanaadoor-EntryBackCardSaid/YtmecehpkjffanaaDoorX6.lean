/- Parts of the proof that a law of the program holds: contracts of the functions, and plain laws. -/
import Derived.Test.YtmecehpkjffanaaDoorX5
set_option maxRecDepth 100000
set_option maxHeartbeats 4000000
set_option linter.unusedVariables false
set_option linter.unusedSimpArgs false
namespace Go.Proofs.Tryd
open Go Go.Ab Go.Pl Go.RowKit Go.Proofs.YtmecehpkjffanaaDoor
attribute [local irreducible] Go.Ab.wp Go.Ab.vc Go.Ab.run Go.Ab.runFn Go.Ab.body1 Go.Ab.Tr.qt Go.Ab.Tr.qf Go.Ab.AEv
theorem bigs_step {l : List Ent} {i : Nat} (h : i < l.length) (h40 : i < 40) : ((l.take 40).drop i).any bigE = (bigE (at_ l (i : Int)) || ((l.take 40).drop (i + 1)).any bigE) := by
  rw [at_drop (l := l.take 40) (i := i) (by rw [List.length_take]; omega)]
  have : at_ (l.take 40) (i : Int) = at_ l (i : Int) := by
    rw [at_nat _ _ (by rw [List.length_take]; omega), at_nat _ _ h, List.getElem_take]
  rw [this, List.any_cons]
theorem bigs_end {l : List Ent} {i : Nat} (h : ¬ (i < l.length ∧ i < 40)) : ((l.take 40).drop i).any bigE = false := by
  rw [List.drop_of_length_le (by rw [List.length_take]; omega)]
  rfl
theorem elt {l : List Ent} {i : Nat} (h : decide ((i : Int) < ((eR l).length : Int)) = true) : i < l.length := by have := of_decide_eq_true h; rw [List.length_map] at this; omega
theorem enlt {l : List Ent} {i : Nat} (h : decide ((i : Int) < ((eR l).length : Int)) = false) : ¬ i < l.length := by have := of_decide_eq_false h; rw [List.length_map] at this; omega
theorem eopt {l : List Ent} {i : Nat} (h : i < l.length) : getC 10 (eR l) (i : Int) = some (dEnt (at_ l (i : Int))) := getC_at (fun _ => rfl) (by omega) (by omega)
theorem eopt' {l : List Ent} {i : Nat} (hz : l.length ≤ 1000000000) (h : i + 1 < l.length) : getC 10 (eR l) (IntKind.i64.wrap (((i + 1 : Nat) : Int) - 1)) = some (dEnt (at_ l (IntKind.i64.wrap (((i + 1 : Nat) : Int) - 1)))) := by
  rw [wI (by omega)]
  exact getC_at (fun _ => rfl) (by omega) (by omega)
def l_ref12_Large_0_W : List Nat := others 45 [0, 2, 3]
theorem l_ref12_Large_0 {w0 : World} (n : Bool) (l : List Ent) (R : Bool) (i : Nat) (hi : ((l.take 40).drop i).any bigE = R ∧ i ≤ l.length) : ACode Tryd.prog w0 0 (.loop (nthLoop Tryd.f21 0)) (⟨mkEnv 45 [(0, .d (.slice n 10 (eR l))), (2, .d (.bool false)), (3, .d (.int .i64 i))], []⟩) (fun e s' => (∃ k : Nat, R = false ∧ e = .exit 0 ∧ s' = ⟨mkEnv 45 [(0, .d (.slice n 10 (eR l))), (2, .d (.bool false)), (3, .d (.int .i64 k))], []⟩) ∨ (∃ k : Nat, R = true ∧ e = .ret ∧ s' = ⟨mkEnv 45 [(0, .d (.slice n 10 (eR l))), (2, .d (.bool true)), (3, .d (.int .i64 k))], []⟩)) := by
  refine Go.Ab.acode_loop (s1 := ⟨mkEnv 45 [(0, .d (.slice n 10 (eR l))), (2, .d (.bool false)), (3, .d (.int .i64 i))], []⟩) (n := l.length - i) hmix [] (fun zm zs => ∃ (i : Nat), zm = l.length - i ∧ (((l.take 40).drop i).any bigE = R ∧ i ≤ l.length) ∧ zs = ⟨mkEnv 45 [(0, .d (.slice n 10 (eR l))), (2, .d (.bool false)), (3, .d (.int .i64 i))], []⟩) (Weak.refl _) ⟨i, rfl, hi, rfl⟩ ?_
  clear hi
  rintro zm zs ⟨i, rfl, hi, rfl⟩
  refine Go.Ab.wp_rd l_ref12_Large_0_W (.q (decide ((↑i : Int) < (↑(List.map dEnt l).length : Int))) (.qs [true] (.q (decide ((↑i : Int) < 40)) (.opt (getC 10 (List.map dEnt l) (↑i : Int)) (dEnt (at_ l (↑i : Int))) (.q (decide ((↑(at_ l (↑i : Int)).cmd.key.size : Int) > 200)) (.qs [true, true, true, true, true, true, true, true, true, true, true, true, true, true, true, true] (.ret (Ex.ret, true, ⟨mkEnv 45 [(0, A.d (D.slice n 10 (List.map dEnt l))), (2, A.d (D.bool true)), (3, A.d (D.int IntKind.i64 (↑i : Int)))], []⟩))) (.qs [false, false] (.opt (getC 10 (List.map dEnt l) (↑i : Int)) (dEnt (at_ l (↑i : Int))) (.qs [false, false, false, false, false] (.q (decide ((↑(at_ l (↑i : Int)).cmd.val.size : Int) > 200)) (.qs [true, true, true, true, true, true, true, true] (.ret (Ex.ret, true, ⟨mkEnv 45 [(0, A.d (D.slice n 10 (List.map dEnt l))), (2, A.d (D.bool true)), (3, A.d (D.int IntKind.i64 (↑i : Int)))], []⟩))) (.qs [false, false] (.opt (getC 10 (List.map dEnt l) (↑i : Int)) (dEnt (at_ l (↑i : Int))) (.qs [false, false, false, false, false] (.q (decide ((↑(at_ l (↑i : Int)).cmd.old.size : Int) > 200)) (.ret (Ex.ret, true, ⟨mkEnv 45 [(0, A.d (D.slice n 10 (List.map dEnt l))), (2, A.d (D.bool true)), (3, A.d (D.int IntKind.i64 (↑i : Int)))], []⟩)) (.ret (Ex.normal, true, ⟨mkEnv 45 [(0, A.d (D.slice n 10 (List.map dEnt l))), (2, A.d (D.bool false)), (3, A.d (D.int IntKind.i64 (IntKind.i64.wrap ((↑i : Int) + 1))))], []⟩)))))))))))) (.ret (Ex.exit 0, true, ⟨mkEnv 45 [(0, A.d (D.slice n 10 (List.map dEnt l))), (2, A.d (D.bool false)), (3, A.d (D.int IntKind.i64 (↑i : Int)))], []⟩)))) (.qs [false, false] (.ret (Ex.exit 0, true, ⟨mkEnv 45 [(0, A.d (D.slice n 10 (List.map dEnt l))), (2, A.d (D.bool false)), (3, A.d (D.int IntKind.i64 (↑i : Int)))], []⟩)))) (by kernel_rfl) (Go.Ab.vc_q (fun h0 => Go.Ab.vc_qs (Go.Ab.vc_q (fun h1 => Go.Ab.vc_opt (by exact eopt (elt ‹_›)) (Go.Ab.vc_q (fun h2 => Go.Ab.vc_qs (Go.Ab.vc_back ?x21)) (fun h2 => Go.Ab.vc_qs (Go.Ab.vc_opt (by exact eopt (elt ‹_›)) (Go.Ab.vc_qs (Go.Ab.vc_q (fun h3 => Go.Ab.vc_qs (Go.Ab.vc_back ?x39)) (fun h3 => Go.Ab.vc_qs (Go.Ab.vc_opt (by exact eopt (elt ‹_›)) (Go.Ab.vc_qs (Go.Ab.vc_q (fun h4 => Go.Ab.vc_back ?x49) (fun h4 => Go.Ab.vc_next ?_))))))))))) (fun h1 => Go.Ab.vc_exit ?x51))) (fun h0 => Go.Ab.vc_qs (Go.Ab.vc_exit ?x54)))
  case x21 | x39 | x49 | x51 | x54 => first | (exact .inl ⟨i, by rw [← hi.1]; exact bigs_end (fun h => enlt h0 h.1), rfl, rfl⟩) | (exact .inl ⟨i, by rw [← hi.1]; exact bigs_end (fun h => by have := of_decide_eq_false h1; omega), rfl, rfl⟩) | (have q := elt h0; have q4 : i < 40 := (by have := of_decide_eq_true h1; omega); have hb : bigE (at_ l (i : Int)) = true := (by unfold bigE; simp_all); have e := bigs_step q q4; rw [hb, Bool.true_or] at e; exact .inr ⟨i, by rw [← hi.1]; exact e, rfl, rfl⟩)
  all_goals ((have q := elt h0; have q4 : i < 40 := (by have := of_decide_eq_true h1; omega); have hb : bigE (at_ l (i : Int)) = false := (by unfold bigE; rw [h2, h3, h4]; rfl); have e := bigs_step q q4; rw [hb, Bool.false_or] at e; exact ⟨l.length - (i + 1), by omega, i + 1, rfl, ⟨by rw [← e]; exact hi.1, by omega⟩, by rw [wS i (by omega)]⟩))
theorem c_ref12_Large {w0 : World} (n : Bool) (l : List Ent) : AEv Tryd.prog w0 21 [.d (.slice n 10 (eR l))] [] (.d (.bool (largeE l))) [] := by
  refine aev_of_run hmix Tryd.func21 [] 1 ?_
  refine Go.Ab.wp_fn (.stop) (by kernel_rfl) (Go.Ab.vc_stop ?s0)
  case s0 =>
    refine Go.Ab.wp_loop (by kernel_rfl) (by kernel_rfl) (Go.Ab.acode_tidy (W := l_ref12_Large_0_W) (by kernel_rfl) (by kernel_rfl) (l_ref12_Large_0 n l _ 0 (by first | assumption | exact ⟨rfl, by omega⟩))) ?_
    rintro e s' (⟨k, j1, rfl, rfl⟩ | ⟨k, j1, rfl, rfl⟩)
    · skip
      refine Go.Ab.wp_fn (.ret (A.d (D.bool (decide ((↑(List.map dEnt l).length : Int) > 40))), [])) (by kernel_rfl) (Go.Ab.vc_ret ?_)
      all_goals ((have j2 : (l.take 40).any bigE = _ := j1; unfold largeE; rw [j2]; simp))
    · skip
      refine Go.Ab.wp_fn (.ret (A.d (D.bool true), [])) (by kernel_rfl) (Go.Ab.vc_ret ?_)
      all_goals ((have j2 : (l.take 40).any bigE = _ := j1; unfold largeE; rw [j2]; simp))
def l_ref12_Rise_0_W : List Nat := others 22 [0, 2, 3]
theorem l_ref12_Rise_0 {w0 : World} (n : Bool) (l : List Ent) (hz : l.length ≤ 1000000000) (R : Bool) (i : Nat) (hi : riseB (l.drop i) = R) : ACode Tryd.prog w0 0 (.loop (nthLoop Tryd.f22 0)) (⟨mkEnv 22 [(0, .d (.slice n 10 (eR l))), (2, .d (.bool false)), (3, .d (.int .i64 (i + 1 : Nat)))], []⟩) (fun e s' => (∃ k : Nat, R = true ∧ e = .exit 0 ∧ s' = ⟨mkEnv 22 [(0, .d (.slice n 10 (eR l))), (2, .d (.bool false)), (3, .d (.int .i64 (k + 1 : Nat)))], []⟩) ∨ (∃ k : Nat, R = false ∧ e = .ret ∧ s' = ⟨mkEnv 22 [(0, .d (.slice n 10 (eR l))), (2, .d (.bool false)), (3, .d (.int .i64 (k + 1 : Nat)))], []⟩)) := by
  refine Go.Ab.acode_loop (s1 := ⟨mkEnv 22 [(0, .d (.slice n 10 (eR l))), (2, .d (.bool false)), (3, .d (.int .i64 (i + 1 : Nat)))], []⟩) (n := l.length - i) hmix [] (fun zm zs => ∃ (i : Nat), zm = l.length - i ∧ (riseB (l.drop i) = R) ∧ zs = ⟨mkEnv 22 [(0, .d (.slice n 10 (eR l))), (2, .d (.bool false)), (3, .d (.int .i64 (i + 1 : Nat)))], []⟩) (Weak.refl _) ⟨i, rfl, hi, rfl⟩ ?_
  clear hi
  rintro zm zs ⟨i, rfl, hi, rfl⟩
  refine Go.Ab.wp_rd l_ref12_Rise_0_W (.q (decide ((↑(i + 1) : Int) < (↑(List.map dEnt l).length : Int))) (.opt (getC 10 (List.map dEnt l) (↑(i + 1) : Int)) (dEnt (at_ l (↑(i + 1) : Int))) (.opt (getC 10 (List.map dEnt l) (IntKind.i64.wrap ((↑(i + 1) : Int) - 1))) (dEnt (at_ l (IntKind.i64.wrap ((↑(i + 1) : Int) - 1)))) (.q (decide ((at_ l (↑(i + 1) : Int)).index ≤ (at_ l (IntKind.i64.wrap ((↑(i + 1) : Int) - 1))).index)) (.ret (Ex.ret, true, ⟨mkEnv 22 [(0, A.d (D.slice n 10 (List.map dEnt l))), (2, A.d (D.bool false)), (3, A.d (D.int IntKind.i64 (↑(i + 1) : Int)))], []⟩)) (.ret (Ex.normal, true, ⟨mkEnv 22 [(0, A.d (D.slice n 10 (List.map dEnt l))), (2, A.d (D.bool false)), (3, A.d (D.int IntKind.i64 (IntKind.i64.wrap ((↑(i + 1) : Int) + 1))))], []⟩))))) (.ret (Ex.exit 0, true, ⟨mkEnv 22 [(0, A.d (D.slice n 10 (List.map dEnt l))), (2, A.d (D.bool false)), (3, A.d (D.int IntKind.i64 (↑(i + 1) : Int)))], []⟩))) (by kernel_rfl) (Go.Ab.vc_q (fun h0 => Go.Ab.vc_opt (by first | exact eopt (elt ‹_›) | exact eopt' hz (elt ‹_›)) (Go.Ab.vc_opt (by first | exact eopt (elt ‹_›) | exact eopt' hz (elt ‹_›)) (Go.Ab.vc_q (fun h1 => Go.Ab.vc_back ?x4) (fun h1 => Go.Ab.vc_next ?_)))) (fun h0 => Go.Ab.vc_exit ?x6))
  case x4 | x6 => first | (exact .inl ⟨i, by rw [← hi]; exact riseB_end (enlt h0), rfl, rfl⟩) | (have q := elt h0; rw [wI (n := ((i + 1 : Nat) : Int) - 1) (by omega), show ((i + 1 : Nat) : Int) - 1 = (i : Int) by omega] at h1; have e := riseB_step q; rw [show decide ((at_ l (i : Int)).index < (at_ l ((i + 1 : Nat) : Int)).index) = false by have := of_decide_eq_true h1; exact decide_eq_false (by omega), Bool.false_and] at e; exact .inr ⟨i, by rw [← hi]; exact e, rfl, rfl⟩)
  all_goals ((have q := elt h0; rw [wI (n := ((i + 1 : Nat) : Int) - 1) (by omega), show ((i + 1 : Nat) : Int) - 1 = (i : Int) by omega] at h1; have e := riseB_step q; rw [show decide ((at_ l (i : Int)).index < (at_ l ((i + 1 : Nat) : Int)).index) = true by have := of_decide_eq_false h1; exact decide_eq_true (by omega), Bool.true_and] at e; exact ⟨l.length - (i + 1), by omega, i + 1, rfl, by rw [← e]; exact hi, by rw [wS (i + 1) (by omega)]⟩))
theorem c_ref12_Rise {w0 : World} (n : Bool) (l : List Ent) (hz : l.length ≤ 1000000000) : AEv Tryd.prog w0 22 [.d (.slice n 10 (eR l))] [] (.d (.bool (riseB l))) [] := by
  refine aev_of_run hmix Tryd.func22 [] 1 ?_
  refine Go.Ab.wp_fn (.stop) (by kernel_rfl) (Go.Ab.vc_stop ?s0)
  case s0 =>
    refine Go.Ab.wp_loop (by kernel_rfl) (by kernel_rfl) (Go.Ab.acode_tidy (W := l_ref12_Rise_0_W) (by kernel_rfl) (by kernel_rfl) (l_ref12_Rise_0 n l (by first | assumption | exact rfl) _ 0 (by first | assumption | exact rfl))) ?_
    rintro e s' (⟨k, j1, rfl, rfl⟩ | ⟨k, j1, rfl, rfl⟩)
    · skip
      refine Go.Ab.wp_fn (.ret (A.d (D.bool true), [])) (by kernel_rfl) (Go.Ab.vc_ret ?_)
      all_goals ((have j2 : riseB l = _ := j1; rw [j2]))
    · skip
      refine Go.Ab.wp_fn (.ret (A.d (D.bool false), [])) (by kernel_rfl) (Go.Ab.vc_ret ?_)
      all_goals ((have j2 : riseB l = _ := j1; rw [j2]))
def l_ref12_Find_0_W : List Nat := others 20 [0, 1, 4, 5]
theorem l_ref12_Find_0 {w0 : World} (n : Bool) (l : List Ent) (t : Int) (hz : l.length ≤ 1000000000) (R : Int) (i : Nat) (hi : idx (fun e => e.index == t) (l.drop i) i = R ∧ i ≤ l.length) : ACode Tryd.prog w0 0 (.loop (nthLoop Tryd.f25 0)) (⟨mkEnv 20 [(0, .d (.slice n 10 (eR l))), (1, .d (.int .i64 t)), (4, .d (.int .i64 0)), (5, .d (.int .i64 i))], []⟩) (fun e s' => (∃ k : Nat, R = -1 ∧ e = .exit 0 ∧ s' = ⟨mkEnv 20 [(0, .d (.slice n 10 (eR l))), (1, .d (.int .i64 t)), (4, .d (.int .i64 0)), (5, .d (.int .i64 k))], []⟩) ∨ (∃ k : Nat, R = (k : Int) ∧ e = .ret ∧ s' = ⟨mkEnv 20 [(0, .d (.slice n 10 (eR l))), (1, .d (.int .i64 t)), (4, .d (.int .i64 k)), (5, .d (.int .i64 k))], []⟩)) := by
  refine Go.Ab.acode_loop (s1 := ⟨mkEnv 20 [(0, .d (.slice n 10 (eR l))), (1, .d (.int .i64 t)), (4, .d (.int .i64 0)), (5, .d (.int .i64 i))], []⟩) (n := l.length - i) hmix [] (fun zm zs => ∃ (i : Nat), zm = l.length - i ∧ (idx (fun e => e.index == t) (l.drop i) i = R ∧ i ≤ l.length) ∧ zs = ⟨mkEnv 20 [(0, .d (.slice n 10 (eR l))), (1, .d (.int .i64 t)), (4, .d (.int .i64 0)), (5, .d (.int .i64 i))], []⟩) (Weak.refl _) ⟨i, rfl, hi, rfl⟩ ?_
  clear hi
  rintro zm zs ⟨i, rfl, hi, rfl⟩
  refine Go.Ab.wp_rd l_ref12_Find_0_W (.q (decide ((↑i : Int) < (↑(List.map dEnt l).length : Int))) (.opt (getC 10 (List.map dEnt l) (↑i : Int)) (dEnt (at_ l (↑i : Int))) (.q ((at_ l (↑i : Int)).index == t) (.ret (Ex.ret, true, ⟨mkEnv 20 [(0, A.d (D.slice n 10 (List.map dEnt l))), (1, A.d (D.int IntKind.i64 t)), (4, A.d (D.int IntKind.i64 (↑i : Int))), (5, A.d (D.int IntKind.i64 (↑i : Int)))], []⟩)) (.ret (Ex.normal, true, ⟨mkEnv 20 [(0, A.d (D.slice n 10 (List.map dEnt l))), (1, A.d (D.int IntKind.i64 t)), (4, A.d (D.int IntKind.i64 0)), (5, A.d (D.int IntKind.i64 (IntKind.i64.wrap ((↑i : Int) + 1))))], []⟩)))) (.ret (Ex.exit 0, true, ⟨mkEnv 20 [(0, A.d (D.slice n 10 (List.map dEnt l))), (1, A.d (D.int IntKind.i64 t)), (4, A.d (D.int IntKind.i64 0)), (5, A.d (D.int IntKind.i64 (↑i : Int)))], []⟩))) (by kernel_rfl) (Go.Ab.vc_q (fun h0 => Go.Ab.vc_opt (by exact eopt (elt ‹_›)) (Go.Ab.vc_q (fun h1 => Go.Ab.vc_back ?x3) (fun h1 => Go.Ab.vc_next ?_))) (fun h0 => Go.Ab.vc_exit ?x5))
  case x3 | x5 => first | (exact .inl ⟨i, by rw [← hi.1]; exact idx_end (enlt h0), rfl, rfl⟩) | (have q := elt h0; have e := idx_step (p := fun e => e.index == t) q; simp only [h1, if_true] at e; exact .inr ⟨i, by rw [← hi.1]; exact e, rfl, rfl⟩)
  all_goals ((have q := elt h0; have e := idx_step (p := fun e => e.index == t) q; simp only [h1, Bool.false_eq_true, if_false] at e; exact ⟨l.length - (i + 1), by omega, i + 1, rfl, ⟨by rw [← e]; exact hi.1, by omega⟩, by rw [wS i (by omega)]⟩))
theorem c_ref12_Find {w0 : World} (n : Bool) (l : List Ent) (t : Int) (hz : l.length ≤ 1000000000) : AEv Tryd.prog w0 25 [.d (.slice n 10 (eR l)), .d (.int .i64 t)] [] (.d (.int .i64 (refFind l t))) [] := by
  refine aev_of_run hmix Tryd.func25 [] 1 ?_
  refine Go.Ab.wp_fn (.stop) (by kernel_rfl) (Go.Ab.vc_stop ?s0)
  case s0 =>
    refine Go.Ab.wp_loop (by kernel_rfl) (by kernel_rfl) (Go.Ab.acode_tidy (W := l_ref12_Find_0_W) (by kernel_rfl) (by kernel_rfl) (l_ref12_Find_0 n l t (by first | assumption | exact ⟨rfl, by omega⟩) _ 0 (by first | assumption | exact ⟨rfl, by omega⟩))) ?_
    rintro e s' (⟨k, j1, rfl, rfl⟩ | ⟨k, j1, rfl, rfl⟩)
    · skip
      refine Go.Ab.wp_fn (.ret (A.d (D.int IntKind.i64 (-1)), [])) (by kernel_rfl) (Go.Ab.vc_ret ?_)
      all_goals ((have j2 : refFind l t = _ := j1; rw [j2]))
    · skip
      refine Go.Ab.wp_fn (.ret (A.d (D.int IntKind.i64 (↑k : Int)), [])) (by kernel_rfl) (Go.Ab.vc_ret ?_)
      all_goals ((have j2 : refFind l t = _ := j1; rw [j2]))
def l_ref12_Has_0_W : List Nat := others 21 [0, 1, 4, 5]
theorem l_ref12_Has_0 {w0 : World} (n : Bool) (l : List Ent) (v : Int) (hz : l.length ≤ 1000000000) (R : Bool) (i : Nat) (hi : hasAll v (l.drop i) = R ∧ i ≤ l.length) : ACode Tryd.prog w0 0 (.loop (nthLoop Tryd.f35 0)) (⟨mkEnv 21 [(0, .d (.int .i64 v)), (1, .d (.slice n 10 (eR l))), (4, .d (.bool false)), (5, .d (.int .i64 i))], []⟩) (fun e s' => (∃ k : Nat, R = true ∧ e = .exit 0 ∧ s' = ⟨mkEnv 21 [(0, .d (.int .i64 v)), (1, .d (.slice n 10 (eR l))), (4, .d (.bool false)), (5, .d (.int .i64 k))], []⟩) ∨ (∃ k : Nat, R = false ∧ e = .ret ∧ s' = ⟨mkEnv 21 [(0, .d (.int .i64 v)), (1, .d (.slice n 10 (eR l))), (4, .d (.bool false)), (5, .d (.int .i64 k))], []⟩)) := by
  refine Go.Ab.acode_loop (s1 := ⟨mkEnv 21 [(0, .d (.int .i64 v)), (1, .d (.slice n 10 (eR l))), (4, .d (.bool false)), (5, .d (.int .i64 i))], []⟩) (n := l.length - i) hmix [] (fun zm zs => ∃ (i : Nat), zm = l.length - i ∧ (hasAll v (l.drop i) = R ∧ i ≤ l.length) ∧ zs = ⟨mkEnv 21 [(0, .d (.int .i64 v)), (1, .d (.slice n 10 (eR l))), (4, .d (.bool false)), (5, .d (.int .i64 i))], []⟩) (Weak.refl _) ⟨i, rfl, hi, rfl⟩ ?_
  clear hi
  rintro zm zs ⟨i, rfl, hi, rfl⟩
  refine Go.Ab.wp_rd l_ref12_Has_0_W (.q (decide ((↑i : Int) < (↑(List.map dEnt l).length : Int))) (.opt (getC 10 (List.map dEnt l) (↑i : Int)) (dEnt (at_ l (↑i : Int))) (.call 83 [A.d (D.int IntKind.i64 v), A.d (D.int IntKind.i64 (at_ l (↑i : Int)).cmd.kind)] [] (A.d (D.bool (verHas v (at_ l (↑i : Int)).cmd.kind))) [] (.q (!verHas v (at_ l (↑i : Int)).cmd.kind) (.ret (Ex.ret, true, ⟨mkEnv 21 [(0, A.d (D.int IntKind.i64 v)), (1, A.d (D.slice n 10 (List.map dEnt l))), (4, A.d (D.bool false)), (5, A.d (D.int IntKind.i64 (↑i : Int)))], []⟩)) (.ret (Ex.normal, true, ⟨mkEnv 21 [(0, A.d (D.int IntKind.i64 v)), (1, A.d (D.slice n 10 (List.map dEnt l))), (4, A.d (D.bool false)), (5, A.d (D.int IntKind.i64 (IntKind.i64.wrap ((↑i : Int) + 1))))], []⟩))))) (.ret (Ex.exit 0, true, ⟨mkEnv 21 [(0, A.d (D.int IntKind.i64 v)), (1, A.d (D.slice n 10 (List.map dEnt l))), (4, A.d (D.bool false)), (5, A.d (D.int IntKind.i64 (↑i : Int)))], []⟩))) (by kernel_rfl) (Go.Ab.vc_q (fun h0 => Go.Ab.vc_opt (by exact eopt (elt ‹_›)) (Go.Ab.vc_call (c_ref07_Has v (at_ l (↑i : Int)).cmd.kind) (Go.Ab.vc_q (fun h1 => Go.Ab.vc_back ?x4) (fun h1 => Go.Ab.vc_next ?_)))) (fun h0 => Go.Ab.vc_exit ?x6))
  case x4 | x6 => first | (exact .inl ⟨i, by rw [← hi.1]; exact hasAll_end (enlt h0), rfl, rfl⟩) | (have q := elt h0; have e := hasAll_step (v := v) q; rw [show verHas v (at_ l (i : Int)).cmd.kind = false by simpa using h1, Bool.false_and] at e; exact .inr ⟨i, by rw [← hi.1]; exact e, rfl, rfl⟩)
  all_goals ((have q := elt h0; have e := hasAll_step (v := v) q; rw [show verHas v (at_ l (i : Int)).cmd.kind = true by simpa using h1, Bool.true_and] at e; exact ⟨l.length - (i + 1), by omega, i + 1, rfl, ⟨by rw [← e]; exact hi.1, by omega⟩, by rw [wS i (by omega)]⟩))
theorem c_ref12_Has {w0 : World} (n : Bool) (l : List Ent) (v : Int) (hz : l.length ≤ 1000000000) : AEv Tryd.prog w0 35 [.d (.int .i64 v), .d (.slice n 10 (eR l))] [] (.d (.bool (hasAll v l))) [] := by
  refine aev_of_run hmix Tryd.func35 [] 1 ?_
  refine Go.Ab.wp_fn (.stop) (by kernel_rfl) (Go.Ab.vc_stop ?s0)
  case s0 =>
    refine Go.Ab.wp_loop (by kernel_rfl) (by kernel_rfl) (Go.Ab.acode_tidy (W := l_ref12_Has_0_W) (by kernel_rfl) (by kernel_rfl) (l_ref12_Has_0 n l v (by first | assumption | exact ⟨rfl, by omega⟩) _ 0 (by first | assumption | exact ⟨rfl, by omega⟩))) ?_
    rintro e s' (⟨k, j1, rfl, rfl⟩ | ⟨k, j1, rfl, rfl⟩)
    · skip
      refine Go.Ab.wp_fn (.ret (A.d (D.bool true), [])) (by kernel_rfl) (Go.Ab.vc_ret ?_)
      all_goals ((have j2 : hasAll v l = _ := j1; rw [j2]))
    · skip
      refine Go.Ab.wp_fn (.ret (A.d (D.bool false), [])) (by kernel_rfl) (Go.Ab.vc_ret ?_)
      all_goals ((have j2 : hasAll v l = _ := j1; rw [j2]))
def l_ref12_Same_0_W : List Nat := others 26 [0, 1, 4, 5]
theorem l_ref12_Same_0 {w0 : World} (n m : Bool) (a b : List Ent) (hl : a.length = b.length) (hz : a.length ≤ 1000000000) (i : Nat) (hi : a.take i = b.take i ∧ i ≤ a.length) : ACode Tryd.prog w0 0 (.loop (nthLoop Tryd.f27 0)) (⟨mkEnv 26 [(0, .d (.slice n 10 (eR a))), (1, .d (.slice m 10 (eR b))), (4, .d (.bool false)), (5, .d (.int .i64 i))], []⟩) (fun e s' => (∃ k : Nat, a = b ∧ e = .exit 0 ∧ s' = ⟨mkEnv 26 [(0, .d (.slice n 10 (eR a))), (1, .d (.slice m 10 (eR b))), (4, .d (.bool false)), (5, .d (.int .i64 k))], []⟩) ∨ (∃ k : Nat, a ≠ b ∧ e = .ret ∧ s' = ⟨mkEnv 26 [(0, .d (.slice n 10 (eR a))), (1, .d (.slice m 10 (eR b))), (4, .d (.bool false)), (5, .d (.int .i64 k))], []⟩)) := by
  refine Go.Ab.acode_loop (s1 := ⟨mkEnv 26 [(0, .d (.slice n 10 (eR a))), (1, .d (.slice m 10 (eR b))), (4, .d (.bool false)), (5, .d (.int .i64 i))], []⟩) (n := a.length - i) hmix [] (fun zm zs => ∃ (i : Nat), zm = a.length - i ∧ (a.take i = b.take i ∧ i ≤ a.length) ∧ zs = ⟨mkEnv 26 [(0, .d (.slice n 10 (eR a))), (1, .d (.slice m 10 (eR b))), (4, .d (.bool false)), (5, .d (.int .i64 i))], []⟩) (Weak.refl _) ⟨i, rfl, hi, rfl⟩ ?_
  clear hi
  rintro zm zs ⟨i, rfl, hi, rfl⟩
  refine Go.Ab.wp_rd l_ref12_Same_0_W (.q (decide ((↑i : Int) < (↑(List.map dEnt a).length : Int))) (.opt (getC 10 (List.map dEnt a) (↑i : Int)) (dEnt (at_ a (↑i : Int))) (.opt (getC 10 (List.map dEnt b) (↑i : Int)) (dEnt (at_ b (↑i : Int))) (.q (!((at_ a (↑i : Int)).index == (at_ b (↑i : Int)).index && ((at_ a (↑i : Int)).round == (at_ b (↑i : Int)).round && ((at_ a (↑i : Int)).node == (at_ b (↑i : Int)).node && true) && ((at_ a (↑i : Int)).cmd.kind == (at_ b (↑i : Int)).cmd.kind && ((at_ a (↑i : Int)).cmd.client == (at_ b (↑i : Int)).cmd.client && ((at_ a (↑i : Int)).cmd.seq == (at_ b (↑i : Int)).cmd.seq && ((at_ a (↑i : Int)).cmd.key.toList == (at_ b (↑i : Int)).cmd.key.toList && ((at_ a (↑i : Int)).cmd.val.toList == (at_ b (↑i : Int)).cmd.val.toList && ((at_ a (↑i : Int)).cmd.old.toList == (at_ b (↑i : Int)).cmd.old.toList && ((at_ a (↑i : Int)).cmd.node == (at_ b (↑i : Int)).cmd.node && true)))))) && true)))) (.ret (Ex.ret, true, ⟨mkEnv 26 [(0, A.d (D.slice n 10 (List.map dEnt a))), (1, A.d (D.slice m 10 (List.map dEnt b))), (4, A.d (D.bool false)), (5, A.d (D.int IntKind.i64 (↑i : Int)))], []⟩)) (.ret (Ex.normal, true, ⟨mkEnv 26 [(0, A.d (D.slice n 10 (List.map dEnt a))), (1, A.d (D.slice m 10 (List.map dEnt b))), (4, A.d (D.bool false)), (5, A.d (D.int IntKind.i64 (IntKind.i64.wrap ((↑i : Int) + 1))))], []⟩))))) (.ret (Ex.exit 0, true, ⟨mkEnv 26 [(0, A.d (D.slice n 10 (List.map dEnt a))), (1, A.d (D.slice m 10 (List.map dEnt b))), (4, A.d (D.bool false)), (5, A.d (D.int IntKind.i64 (↑i : Int)))], []⟩))) (by kernel_rfl) (Go.Ab.vc_q (fun h0 => Go.Ab.vc_opt (by first | exact eopt (elt ‹_›) | (have q := elt h0; exact eopt (by omega))) (Go.Ab.vc_opt (by first | exact eopt (elt ‹_›) | (have q := elt h0; exact eopt (by omega))) (Go.Ab.vc_q (fun h1 => Go.Ab.vc_back ?x4) (fun h1 => Go.Ab.vc_next ?_)))) (fun h0 => Go.Ab.vc_exit ?x6))
  case x4 | x6 => first | (exact .inl ⟨i, same_fin hl hi.1 (enlt h0), rfl, rfl⟩) | (have e : (!entSame (at_ a (i : Int)) (at_ b (i : Int))) = true := h1; exact .inr ⟨i, (fun h => by subst h; rw [show entSame (at_ a (i : Int)) (at_ a (i : Int)) = true from (entSame_iff _ _).2 rfl] at e; cases e), rfl, rfl⟩)
  all_goals ((have q := elt h0; have e : (!entSame (at_ a (i : Int)) (at_ b (i : Int))) = false := h1; have e2 := (entSame_iff _ _).1 (by simpa using e); exact ⟨a.length - (i + 1), by omega, i + 1, rfl, ⟨same_go hl hi.1 q e2, by omega⟩, by rw [wS i (by omega)]⟩))
theorem c_ref12_Same {w0 : World} (n m : Bool) (a b : List Ent) (hz : a.length ≤ 1000000000) : AEv Tryd.prog w0 27 [.d (.slice n 10 (eR a)), .d (.slice m 10 (eR b))] [] (.d (.bool (decide (a = b)))) [] := by
  refine aev_of_run hmix Tryd.func27 [] 1 ?_
  refine Go.Ab.wp_fn (.q ((↑(List.map dEnt a).length : Int) != (↑(List.map dEnt b).length : Int)) (.ret (A.d (D.bool false), [])) (.stop)) (by kernel_rfl) (Go.Ab.vc_q (fun h0 => Go.Ab.vc_ret ?_) (fun h0 => Go.Ab.vc_stop ?s2))
  case s2 =>
    refine Go.Ab.wp_loop (by kernel_rfl) (by kernel_rfl) (Go.Ab.acode_tidy (W := l_ref12_Same_0_W) (by kernel_rfl) (by kernel_rfl) (l_ref12_Same_0 n m a b (by first | assumption | (simp at *; omega) | exact ⟨rfl, by omega⟩) (by first | assumption | (simp at *; omega) | exact ⟨rfl, by omega⟩) 0 (by first | assumption | (simp at *; omega) | exact ⟨rfl, by omega⟩))) ?_
    rintro e s' (⟨k, j1, rfl, rfl⟩ | ⟨k, j1, rfl, rfl⟩)
    · skip
      refine Go.Ab.wp_fn (.ret (A.d (D.bool true), [])) (by kernel_rfl) (Go.Ab.vc_ret ?_)
      all_goals (first | (rw [decide_eq_true j1]; done) | (rw [decide_eq_false j1]; done) | (rw [decide_eq_false (by rintro rfl; simp at h0)]))
    · skip
      refine Go.Ab.wp_fn (.ret (A.d (D.bool false), [])) (by kernel_rfl) (Go.Ab.vc_ret ?_)
      all_goals (first | (rw [decide_eq_true j1]; done) | (rw [decide_eq_false j1]; done) | (rw [decide_eq_false (by rintro rfl; simp at h0)]))
  all_goals (first | (rw [decide_eq_true j1]; done) | (rw [decide_eq_false j1]; done) | (rw [decide_eq_false (by rintro rfl; simp at h0)]))
theorem c_entry_one {w0 : World} (hL : Laid w0) (e : Ent) : AEv Tryd.prog w0 79 [.agg (eEnt e)] [] (.d (.int .i64 (entErr e))) [] := by
  refine aev_of_run hmix Tryd.func79 [] 1 ?_
  refine Go.Ab.wp_fn (.q (decide (e.index < 1)) (.qs [true, true, true, true, true, true, true] (.ret (A.d (D.int IntKind.i64 6), []))) (.qs [false, false] (.q (decide (e.index > 4294967296)) (.qs [true, true, true, true] (.ret (A.d (D.int IntKind.i64 6), []))) (.qs [false, false] (.call 102 [A.agg [A.d (D.int IntKind.i64 e.round), A.d (D.int IntKind.i64 e.node)]] [] (A.d (D.bool (mayB e.round e.node))) [] (.qs [false] (.q (!mayB e.round e.node) (.ret (A.d (D.int IntKind.i64 6), [])) (.call 68 [A.agg [A.d (D.int IntKind.i64 e.cmd.kind), A.d (D.int IntKind.i64 e.cmd.client), A.d (D.int IntKind.i64 e.cmd.seq), A.d (D.str e.cmd.key), A.d (D.str e.cmd.val), A.d (D.str e.cmd.old), A.d (D.int IntKind.i64 e.cmd.node)]] [] (A.d (D.int IntKind.i64 (cmdErr e.cmd))) [] (.ret (A.d (D.int IntKind.i64 (cmdErr e.cmd)), [])))))))))) (by kernel_rfl) (Go.Ab.vc_q (fun h0 => Go.Ab.vc_qs (Go.Ab.vc_ret ?_)) (fun h0 => Go.Ab.vc_qs (Go.Ab.vc_q (fun h1 => Go.Ab.vc_qs (Go.Ab.vc_ret ?_)) (fun h1 => Go.Ab.vc_qs (Go.Ab.vc_call (c_ballot_May e.round e.node) (Go.Ab.vc_qs (Go.Ab.vc_q (fun h2 => Go.Ab.vc_ret ?_) (fun h2 => Go.Ab.vc_call (c_cmd_Check (by first | assumption | exact rfl) e.cmd) (Go.Ab.vc_ret ?_)))))))))
  all_goals (first | (simp_all [entErr]; done) | (simp_all [entErr] <;> grind) | grind [entErr])
def l_entry_Check_0_W : List Nat := others 32 [0, 2, 6, 7, 8]
theorem l_entry_Check_0_g {w0 : World} (hL : Laid w0) (n : Bool) (l : List Ent) (hz : l.length ≤ 1000000000) (R : Int) (i : Nat) (hi : chkAt l (l.length - i) i = R ∧ i ≤ l.length) : ACode Tryd.prog w0 0 (.loop (nthLoop Tryd.f32 0)) (⟨mkEnv 32 [(0, .d (.slice n 10 (eR l))), (2, .d (.int .i64 0)), (6, .d (.slice n 10 (eR l))), (7, .d (.int .i64 (eR l).length)), (8, .d (.int .i64 i))], []⟩) (fun e s' => (∃ k : Nat, R = 0 ∧ e = .exit 0 ∧ s' = ⟨mkEnv 32 [(0, .d (.slice n 10 (eR l))), (2, .d (.int .i64 0)), (6, .d (.slice n 10 (eR l))), (7, .d (.int .i64 (eR l).length)), (8, .d (.int .i64 k))], []⟩) ∨ (∃ k : Nat, True ∧ e = .ret ∧ s' = ⟨mkEnv 32 [(0, .d (.slice n 10 (eR l))), (2, .d (.int .i64 R)), (6, .d (.slice n 10 (eR l))), (7, .d (.int .i64 (eR l).length)), (8, .d (.int .i64 k))], []⟩)) := by
  refine Go.Ab.acode_loop (s1 := ⟨mkEnv 32 [(0, .d (.slice n 10 (eR l))), (2, .d (.int .i64 0)), (6, .d (.slice n 10 (eR l))), (7, .d (.int .i64 (eR l).length)), (8, .d (.int .i64 i))], []⟩) (n := l.length - i) hmix [] (fun zm zs => ∃ (i : Nat), zm = l.length - i ∧ (chkAt l (l.length - i) i = R ∧ i ≤ l.length) ∧ zs = ⟨mkEnv 32 [(0, .d (.slice n 10 (eR l))), (2, .d (.int .i64 0)), (6, .d (.slice n 10 (eR l))), (7, .d (.int .i64 (eR l).length)), (8, .d (.int .i64 i))], []⟩) (Weak.refl _) ⟨i, rfl, hi, rfl⟩ ?_
  clear hi
  rintro zm zs ⟨i, rfl, hi, rfl⟩
  refine Go.Ab.wp_rd l_entry_Check_0_W (.q (decide ((↑i : Int) < (↑(List.map dEnt l).length : Int))) (.opt (getC 10 (List.map dEnt l) (↑i : Int)) (dEnt (at_ l (↑i : Int))) (.call 79 [A.agg [A.d (D.int IntKind.i64 (at_ l (↑i : Int)).index), A.d (D.int IntKind.i64 (at_ l (↑i : Int)).round), A.d (D.int IntKind.i64 (at_ l (↑i : Int)).node), A.d (D.int IntKind.i64 (at_ l (↑i : Int)).cmd.kind), A.d (D.int IntKind.i64 (at_ l (↑i : Int)).cmd.client), A.d (D.int IntKind.i64 (at_ l (↑i : Int)).cmd.seq), A.d (D.str (at_ l (↑i : Int)).cmd.key), A.d (D.str (at_ l (↑i : Int)).cmd.val), A.d (D.str (at_ l (↑i : Int)).cmd.old), A.d (D.int IntKind.i64 (at_ l (↑i : Int)).cmd.node)]] [] (A.d (D.int IntKind.i64 (entErr (at_ l (↑i : Int))))) [] (.q (entErr (at_ l (↑i : Int)) != 0) (.ret (Ex.ret, true, ⟨mkEnv 32 [(0, A.d (D.slice n 10 (List.map dEnt l))), (2, A.d (D.int IntKind.i64 (entErr (at_ l (↑i : Int))))), (6, A.d (D.slice n 10 (List.map dEnt l))), (7, A.d (D.int IntKind.i64 (↑(List.map dEnt l).length : Int))), (8, A.d (D.int IntKind.i64 (↑i : Int)))], []⟩)) (.q (decide ((↑i : Int) > 0)) (.qs [true, true, true, true, true] (.opt (getC 10 (List.map dEnt l) (IntKind.i64.wrap ((↑i : Int) - 1))) (dEnt (at_ l (IntKind.i64.wrap ((↑i : Int) - 1)))) (.qs [true, true, true] (.q (decide ((at_ l (↑i : Int)).index ≤ (at_ l (IntKind.i64.wrap ((↑i : Int) - 1))).index)) (.ret (Ex.ret, true, ⟨mkEnv 32 [(0, A.d (D.slice n 10 (List.map dEnt l))), (2, A.d (D.int IntKind.i64 12)), (6, A.d (D.slice n 10 (List.map dEnt l))), (7, A.d (D.int IntKind.i64 (↑(List.map dEnt l).length : Int))), (8, A.d (D.int IntKind.i64 (↑i : Int)))], []⟩)) (.ret (Ex.normal, true, ⟨mkEnv 32 [(0, A.d (D.slice n 10 (List.map dEnt l))), (2, A.d (D.int IntKind.i64 0)), (6, A.d (D.slice n 10 (List.map dEnt l))), (7, A.d (D.int IntKind.i64 (↑(List.map dEnt l).length : Int))), (8, A.d (D.int IntKind.i64 (IntKind.i64.wrap ((↑i : Int) + 1))))], []⟩)))))) (.qs [false, false, false, false, false, false, false, false, false] (.ret (Ex.normal, true, ⟨mkEnv 32 [(0, A.d (D.slice n 10 (List.map dEnt l))), (2, A.d (D.int IntKind.i64 0)), (6, A.d (D.slice n 10 (List.map dEnt l))), (7, A.d (D.int IntKind.i64 (↑(List.map dEnt l).length : Int))), (8, A.d (D.int IntKind.i64 (IntKind.i64.wrap ((↑i : Int) + 1))))], []⟩))))))) (.ret (Ex.exit 0, true, ⟨mkEnv 32 [(0, A.d (D.slice n 10 (List.map dEnt l))), (2, A.d (D.int IntKind.i64 0)), (6, A.d (D.slice n 10 (List.map dEnt l))), (7, A.d (D.int IntKind.i64 (↑(List.map dEnt l).length : Int))), (8, A.d (D.int IntKind.i64 (↑i : Int)))], []⟩))) (by kernel_rfl) (Go.Ab.vc_q (fun h0 => Go.Ab.vc_opt (by first | exact eopt (elt ‹_›) | (have q := elt h0; have q2 := of_decide_eq_true h2; obtain ⟨k, rfl⟩ : ∃ k, i = k + 1 := ⟨i - 1, by omega⟩; exact eopt' hz q)) (Go.Ab.vc_call (c_entry_one (by first | assumption | exact rfl) (at_ l (↑i : Int))) (Go.Ab.vc_q (fun h1 => Go.Ab.vc_back ?x4) (fun h1 => Go.Ab.vc_q (fun h2 => Go.Ab.vc_qs (Go.Ab.vc_opt (by first | exact eopt (elt ‹_›) | (have q := elt h0; have q2 := of_decide_eq_true h2; obtain ⟨k, rfl⟩ : ∃ k, i = k + 1 := ⟨i - 1, by omega⟩; exact eopt' hz q)) (Go.Ab.vc_qs (Go.Ab.vc_q (fun h3 => Go.Ab.vc_back ?x16) (fun h3 => Go.Ab.vc_next ?_))))) (fun h2 => Go.Ab.vc_qs (Go.Ab.vc_next ?_)))))) (fun h0 => Go.Ab.vc_exit ?x28))
  case x4 | x16 | x28 => first | (exact .inl ⟨i, by rw [← hi.1]; exact chkAt_end (enlt h0), rfl, rfl⟩) | (have q := elt h0; have e := chkAt_step q; rw [h1] at e; simp only [if_true] at e; have e3 := hi.1; rw [e] at e3; subst e3; exact .inr ⟨i, trivial, rfl, rfl⟩) | (have q := elt h0; have e := chkAt_step q; rw [h1] at e; simp only [Bool.false_eq_true, if_false] at e; have q2 := of_decide_eq_true h2; rw [wI (n := (i : Int) - 1) (by omega), show (i : Int) - 1 = ((i - 1 : Nat) : Int) by omega] at h3; rw [h3, decide_eq_true (by omega : 0 < i)] at e; simp only [Bool.and_self, if_true] at e; have e3 := hi.1; rw [e] at e3; subst e3; exact .inr ⟨i, trivial, rfl, rfl⟩)
  all_goals ((have q := elt h0; have e := chkAt_step q; rw [h1] at e; simp only [Bool.false_eq_true, if_false] at e; have e2 : (decide (0 < i) && decide ((at_ l (i : Int)).index ≤ (at_ l ((i - 1 : Nat) : Int)).index)) = false := (by first | (have q2 := of_decide_eq_false h2; rw [decide_eq_false (by omega), Bool.false_and]; done) | (have q2 := of_decide_eq_true h2; rw [wI (n := (i : Int) - 1) (by omega), show (i : Int) - 1 = ((i - 1 : Nat) : Int) by omega] at h3; rw [h3, Bool.and_false])); rw [e2] at e; simp only [Bool.false_eq_true, if_false] at e; exact ⟨l.length - (i + 1), by omega, i + 1, rfl, ⟨by rw [← e]; exact hi.1, by omega⟩, by rw [wS i (by omega)]⟩))
theorem l_entry_Check_0 {w0 : World} (hL : Laid w0)   (n : Bool)   (l : List Ent)   (hz : l.length ≤ 1000000000)       (hi : chkAt l (l.length - (0)) (0) = (chkE l) ∧ (0) ≤ l.length) : ACode Tryd.prog w0 0 (.loop (nthLoop Tryd.f32 0)) (⟨mkEnv 32 [(0, .d (.slice n 10 (eR l))), (2, .d (.int .i64 0)), (6, .d (.slice n 10 (eR l))), (7, .d (.int .i64 (eR l).length)), (8, .d (.int .i64 (0)))], []⟩) (fun e s' => (∃ k : Nat, (chkE l) = 0 ∧ e = .exit 0 ∧ s' = ⟨mkEnv 32 [(0, .d (.slice n 10 (eR l))), (2, .d (.int .i64 0)), (6, .d (.slice n 10 (eR l))), (7, .d (.int .i64 (eR l).length)), (8, .d (.int .i64 k))], []⟩) ∨ (∃ k : Nat, True ∧ e = .ret ∧ s' = ⟨mkEnv 32 [(0, .d (.slice n 10 (eR l))), (2, .d (.int .i64 (chkE l))), (6, .d (.slice n 10 (eR l))), (7, .d (.int .i64 (eR l).length)), (8, .d (.int .i64 k))], []⟩)) :=
  l_entry_Check_0_g hL n l hz (chkE l) (0) hi
theorem c_entry_Check {w0 : World} (hL : Laid w0) (n : Bool) (l : List Ent) (hz : l.length ≤ 1000000000) : AEv Tryd.prog w0 32 [.d (.slice n 10 (eR l))] [] (.d (.int .i64 (chkE l))) [] := by
  refine aev_of_run hmix Tryd.func32 [] 1 ?_
  refine Go.Ab.wp_fn (.stop) (by kernel_rfl) (Go.Ab.vc_stop ?s0)
  case s0 =>
    refine Go.Ab.wp_loop (by kernel_rfl) (by kernel_rfl) (Go.Ab.acode_tidy (W := l_entry_Check_0_W) (by kernel_rfl) (by kernel_rfl) (l_entry_Check_0 (by first | assumption | exact ⟨rfl, by omega⟩) n l (by first | assumption | exact ⟨rfl, by omega⟩) (by first | assumption | exact ⟨rfl, by omega⟩))) ?_
    rintro e s' (⟨k, j1, rfl, rfl⟩ | ⟨k, j1, rfl, rfl⟩)
    · skip
      refine Go.Ab.wp_fn (.ret (A.d (D.int IntKind.i64 0), [])) (by kernel_rfl) (Go.Ab.vc_ret ?_)
      all_goals (first | rfl | (have j2 : chkE l = _ := j1; rw [j2]))
    · skip
      refine Go.Ab.wp_fn (.ret (A.d (D.int IntKind.i64 (chkE l)), [])) (by kernel_rfl) (Go.Ab.vc_ret ?_)
      all_goals (first | rfl | (have j2 : chkE l = _ := j1; rw [j2]))
end Go.Proofs.Tryd
set_option maxRecDepth 100000
set_option maxHeartbeats 4000000
set_option linter.unusedVariables false
set_option linter.unusedSimpArgs false
namespace Go.Proofs.Tryd
open Go Go.Ab Go.Pl Go.RowKit Go.Proofs.YtmecehpkjffanaaDoor
attribute [local irreducible] Go.Ab.wp Go.Ab.vc Go.Ab.run Go.Ab.runFn Go.Ab.body1 Go.Ab.Tr.qt Go.Ab.Tr.qf Go.Ab.AEv
theorem any_not {v : Int} (l : List Ent) : (!(l.any fun e => !verHas v e.cmd.kind)) = hasAll v l := by
  unfold hasAll
  induction l with
  | nil => rfl
  | cons x l ih => simp only [List.any_cons, List.all_cons, ← ih]; cases verHas v x.cmd.kind <;> simp
theorem ent6 {e : Ent} (h : decide (e.index < 1) = true ∨ decide (e.index > 4294967296) = true ∨ (!mayB e.round e.node) = true) : entErr e = 6 := by
  unfold entErr
  rcases h with h | h | h <;> rw [h] <;> simp
theorem entC {e : Ent} (h1 : decide (e.index < 1) = false) (h2 : decide (e.index > 4294967296) = false) (h3 : (!mayB e.round e.node) = false) : entErr e = refCmd e.cmd := by
  unfold entErr
  rw [h1, h2, h3, refCmd_eq]
  rfl
theorem chk_bad {l : List Ent} {i : Nat} {R k : Int} (hi : chkAt l (l.length - i) i = R ∧ i ≤ l.length) (h : i < l.length) (he : entErr (at_ l (i : Int)) = k) (hk : (k != 0) = true) : R = k := by
  rw [← hi.1, chkAt_step h, he, if_pos hk]
theorem chk_ord {l : List Ent} {i : Nat} {R : Int} (hz : l.length ≤ 1000000000) (hi : chkAt l (l.length - i) i = R ∧ i ≤ l.length) (h : i < l.length) (he : (entErr (at_ l (i : Int)) != 0) = false) (h2 : decide ((i : Int) > 0) = true) (h3 : decide ((at_ l (i : Int)).index ≤ (at_ l (IntKind.i64.wrap ((i : Int) - 1))).index) = true) : R = 12 := by
  have q2 := of_decide_eq_true h2
  rw [wI (n := (i : Int) - 1) (by omega), show (i : Int) - 1 = ((i - 1 : Nat) : Int) by omega] at h3
  rw [← hi.1, chkAt_step h, he, h3, decide_eq_true (by omega : 0 < i)]
  rfl
theorem chk_go {l : List Ent} {i : Nat} {R : Int} (hz : l.length ≤ 1000000000) (hi : chkAt l (l.length - i) i = R ∧ i ≤ l.length) (h : i < l.length) (he : (entErr (at_ l (i : Int)) != 0) = false) (h2 : decide ((i : Int) > 0) = false ∨ (decide ((i : Int) > 0) = true ∧ decide ((at_ l (i : Int)).index ≤ (at_ l (IntKind.i64.wrap ((i : Int) - 1))).index) = false)) : chkAt l (l.length - (i + 1)) (i + 1) = R ∧ i + 1 ≤ l.length := by
  refine ⟨?_, h⟩
  rw [← hi.1, chkAt_step h, he]
  have e2 : (decide (0 < i) && decide ((at_ l (i : Int)).index ≤ (at_ l ((i - 1 : Nat) : Int)).index)) = false := by
    rcases h2 with h2 | ⟨h2, h3⟩
    · have q2 := of_decide_eq_false h2
      rw [decide_eq_false (by omega), Bool.false_and]
    · have q2 := of_decide_eq_true h2
      rw [wI (n := (i : Int) - 1) (by omega), show (i : Int) - 1 = ((i - 1 : Nat) : Int) by omega] at h3
      rw [h3, Bool.and_false]
  rw [e2]
  rfl
theorem rw_next {x : Ent} {d : Bool} {l ys T : List Ent} {i : Nat} (hi : ys ++ refWith x d (l.drop i) = T ∧ i ≤ l.length ∧ ys.length ≤ 2 * i) (h : i < l.length) :
    ((ys ++ (if !d && decide ((at_ l (i : Int)).index ≥ x.index) then [x] else [])) ++ (if (at_ l (i : Int)).index != x.index then [at_ l (i : Int)] else [])) ++ refWith x (d || decide ((at_ l (i : Int)).index ≥ x.index)) (l.drop (i + 1)) = T ∧ i + 1 ≤ l.length ∧
    ((ys ++ (if !d && decide ((at_ l (i : Int)).index ≥ x.index) then [x] else [])) ++ (if (at_ l (i : Int)).index != x.index then [at_ l (i : Int)] else [])).length ≤ 2 * (i + 1) := by
  obtain ⟨h1, h2, h3⟩ := hi
  rw [refWith_step h] at h1
  refine ⟨?_, h, ?_⟩
  · rw [← h1]
    have e : (if (at_ l (i : Int)).index != x.index then [at_ l (i : Int)] else []) = (if (at_ l (i : Int)).index == x.index then [] else [at_ l (i : Int)]) := by
      cases hh : ((at_ l (i : Int)).index == x.index) <;> simp [bne, hh]
    rw [e]
    simp only [List.append_assoc, ge_iff_le]
  · have a1 : (if !d && decide ((at_ l (i : Int)).index ≥ x.index) then [x] else []).length ≤ 1 := by split <;> simp
    have a2 : (if (at_ l (i : Int)).index != x.index then [at_ l (i : Int)] else []).length ≤ 1 := by split <;> simp
    simp only [List.length_append]
    omega
theorem bt_next {a b : Int} {l ys T : List Ent} {i : Nat} (hi : ys ++ betw a b (l.drop i) = T ∧ i ≤ l.length ∧ ys.length ≤ i) (h : i < l.length) :
    (ys ++ (if decide ((at_ l (i : Int)).index ≥ a) && decide ((at_ l (i : Int)).index ≤ b) then [at_ l (i : Int)] else [])) ++ betw a b (l.drop (i + 1)) = T ∧ i + 1 ≤ l.length ∧ (ys ++ (if decide ((at_ l (i : Int)).index ≥ a) && decide ((at_ l (i : Int)).index ≤ b) then [at_ l (i : Int)] else [])).length ≤ i + 1 := by
  obtain ⟨h1, h2, h3⟩ := hi
  rw [betw_step h] at h1
  refine ⟨by rw [← h1]; simp only [List.append_assoc, ge_iff_le], h, ?_⟩
  have a1 : (if decide ((at_ l (i : Int)).index ≥ a) && decide ((at_ l (i : Int)).index ≤ b) then [at_ l (i : Int)] else []).length ≤ 1 := by split <;> simp
  simp only [List.length_append]
  omega
theorem c_entry_Has_1 {w0 : World} (e : Ent) (v : Int) : AEv Tryd.prog w0 81 [.agg (eEnt e), .ptr 0 0] [.cells [.d (.int .i64 v)]] (.d (.bool (!verHas v e.cmd.kind))) [.cells [.d (.int .i64 v)]] := by
  refine aev_of_run hmix Tryd.func81 [] 1 ?_
  refine Go.Ab.wp_fn (.call 82 [A.d (D.int IntKind.i64 v), A.d (D.int IntKind.i64 e.cmd.kind)] [] (A.d (D.bool (verHas v e.cmd.kind))) [] (.ret (A.d (D.bool !verHas v e.cmd.kind), [Ob.cells [A.d (D.int IntKind.i64 v)]]))) (by kernel_rfl) (Go.Ab.vc_call (c_vers_Has v e.cmd.kind) (Go.Ab.vc_ret ?_))
  all_goals (rfl)
def l_idxHas_W : List Nat := others 19 [0, 1, 4, 7, 8]
theorem l_idxHas {w0 : World} (n : Bool) (l : List Ent) (v : Int) (hz : l.length ≤ 1000000000) (R : Int) (i : Nat) (hi : idx (fun e => !verHas v e.cmd.kind) (l.drop i) i = R ∧ i ≤ l.length) : ACode Tryd.prog w0 1 (.loop (nthLoop Tryd.f119 0)) (⟨mkEnv 19 [(0, .d (.slice n 10 (eR l))), (1, .clo 81 [] [.ptr 0 0]), (4, .d (.int .i64 0)), (7, .d (.int .i64 (eR l).length)), (8, .d (.int .i64 i))], [.cells [.d (.int .i64 v)]]⟩) (fun e s' => (∃ k : Nat, R = -1 ∧ e = .exit 0 ∧ s' = ⟨mkEnv 19 [(0, .d (.slice n 10 (eR l))), (1, .clo 81 [] [.ptr 0 0]), (4, .d (.int .i64 0)), (7, .d (.int .i64 (eR l).length)), (8, .d (.int .i64 k))], [.cells [.d (.int .i64 v)]]⟩) ∨ (∃ k : Nat, R = (k : Int) ∧ e = .ret ∧ s' = ⟨mkEnv 19 [(0, .d (.slice n 10 (eR l))), (1, .clo 81 [] [.ptr 0 0]), (4, .d (.int .i64 k)), (7, .d (.int .i64 (eR l).length)), (8, .d (.int .i64 k))], [.cells [.d (.int .i64 v)]]⟩)) := by
  refine Go.Ab.acode_loop (s1 := ⟨mkEnv 19 [(0, .d (.slice n 10 (eR l))), (1, .clo 81 [] [.ptr 0 0]), (4, .d (.int .i64 0)), (7, .d (.int .i64 (eR l).length)), (8, .d (.int .i64 i))], [.cells [.d (.int .i64 v)]]⟩) (n := l.length - i) hmix [] (fun zm zs => ∃ (i : Nat), zm = l.length - i ∧ (idx (fun e => !verHas v e.cmd.kind) (l.drop i) i = R ∧ i ≤ l.length) ∧ zs = ⟨mkEnv 19 [(0, .d (.slice n 10 (eR l))), (1, .clo 81 [] [.ptr 0 0]), (4, .d (.int .i64 0)), (7, .d (.int .i64 (eR l).length)), (8, .d (.int .i64 i))], [.cells [.d (.int .i64 v)]]⟩) (Weak.refl _) ⟨i, rfl, hi, rfl⟩ ?_
  clear hi
  rintro zm zs ⟨i, rfl, hi, rfl⟩
  refine Go.Ab.wp_rd l_idxHas_W (.q (decide ((↑i : Int) < (↑(List.map dEnt l).length : Int))) (.opt (getC 10 (List.map dEnt l) (↑i : Int)) (dEnt (at_ l (↑i : Int))) (.call 81 [A.agg [A.d (D.int IntKind.i64 (at_ l (↑i : Int)).index), A.d (D.int IntKind.i64 (at_ l (↑i : Int)).round), A.d (D.int IntKind.i64 (at_ l (↑i : Int)).node), A.d (D.int IntKind.i64 (at_ l (↑i : Int)).cmd.kind), A.d (D.int IntKind.i64 (at_ l (↑i : Int)).cmd.client), A.d (D.int IntKind.i64 (at_ l (↑i : Int)).cmd.seq), A.d (D.str (at_ l (↑i : Int)).cmd.key), A.d (D.str (at_ l (↑i : Int)).cmd.val), A.d (D.str (at_ l (↑i : Int)).cmd.old), A.d (D.int IntKind.i64 (at_ l (↑i : Int)).cmd.node)], A.ptr 0 0] [Ob.cells [A.d (D.int IntKind.i64 v)]] (A.d (D.bool !verHas v (at_ l (↑i : Int)).cmd.kind)) [Ob.cells [A.d (D.int IntKind.i64 v)]] (.q (!verHas v (at_ l (↑i : Int)).cmd.kind) (.ret (Ex.ret, true, ⟨mkEnv 19 [(0, A.d (D.slice n 10 (List.map dEnt l))), (1, A.clo 81 [] [A.ptr 0 0]), (4, A.d (D.int IntKind.i64 (↑i : Int))), (7, A.d (D.int IntKind.i64 (↑(List.map dEnt l).length : Int))), (8, A.d (D.int IntKind.i64 (↑i : Int)))], [Ob.cells [A.d (D.int IntKind.i64 v)]]⟩)) (.ret (Ex.normal, true, ⟨mkEnv 19 [(0, A.d (D.slice n 10 (List.map dEnt l))), (1, A.clo 81 [] [A.ptr 0 0]), (4, A.d (D.int IntKind.i64 0)), (7, A.d (D.int IntKind.i64 (↑(List.map dEnt l).length : Int))), (8, A.d (D.int IntKind.i64 (IntKind.i64.wrap ((↑i : Int) + 1))))], [Ob.cells [A.d (D.int IntKind.i64 v)]]⟩))))) (.ret (Ex.exit 0, true, ⟨mkEnv 19 [(0, A.d (D.slice n 10 (List.map dEnt l))), (1, A.clo 81 [] [A.ptr 0 0]), (4, A.d (D.int IntKind.i64 0)), (7, A.d (D.int IntKind.i64 (↑(List.map dEnt l).length : Int))), (8, A.d (D.int IntKind.i64 (↑i : Int)))], [Ob.cells [A.d (D.int IntKind.i64 v)]]⟩))) (by kernel_rfl) (Go.Ab.vc_q (fun h0 => Go.Ab.vc_opt (by exact eopt (elt ‹_›)) (Go.Ab.vc_call (c_entry_Has_1 (at_ l (↑i : Int)) v) (Go.Ab.vc_q (fun h1 => Go.Ab.vc_back ?x4) (fun h1 => Go.Ab.vc_next ?_)))) (fun h0 => Go.Ab.vc_exit ?x6))
  case x4 | x6 => first | (exact .inl ⟨i, by rw [← hi.1]; exact idx_end (enlt h0), rfl, rfl⟩) | (have q := elt h0; have e := idx_step (p := fun e => !verHas v e.cmd.kind) q; simp only [h1, if_true] at e; exact .inr ⟨i, by rw [← hi.1]; exact e, rfl, rfl⟩)
  all_goals ((have q := elt h0; have e := idx_step (p := fun e => !verHas v e.cmd.kind) q; simp only [h1, Bool.false_eq_true, if_false] at e; exact ⟨l.length - (i + 1), by omega, i + 1, rfl, ⟨by rw [← e]; exact hi.1, by omega⟩, by rw [wS i (by omega)]⟩))
theorem c_idxHas {w0 : World} (n : Bool) (l : List Ent) (v : Int) (hz : l.length ≤ 1000000000) : AEv Tryd.prog w0 119 [.d (.slice n 10 (eR l)), .clo 81 [] [.ptr 0 0]] [.cells [.d (.int .i64 v)]] (.d (.int .i64 (idx (fun e => !verHas v e.cmd.kind) l 0))) [.cells [.d (.int .i64 v)]] := by
  refine aev_of_run hmix Tryd.func119 [] 1 ?_
  refine Go.Ab.wp_fn (.stop) (by kernel_rfl) (Go.Ab.vc_stop ?s0)
  case s0 =>
    refine Go.Ab.wp_loop (by kernel_rfl) (by kernel_rfl) (Go.Ab.acode_tidy (W := l_idxHas_W) (by kernel_rfl) (by kernel_rfl) (l_idxHas n l v (by first | assumption | exact ⟨rfl, by omega⟩) _ 0 (by first | assumption | exact ⟨rfl, by omega⟩))) ?_
    rintro e s' (⟨k, j1, rfl, rfl⟩ | ⟨k, j1, rfl, rfl⟩)
    · skip
      refine Go.Ab.wp_fn (.ret (A.d (D.int IntKind.i64 (-1)), [Ob.cells [A.d (D.int IntKind.i64 v)]])) (by kernel_rfl) (Go.Ab.vc_ret ?_)
      all_goals ((have j2 : idx (fun e => !verHas v e.cmd.kind) l 0 = _ := j1; rw [j2]))
    · skip
      refine Go.Ab.wp_fn (.ret (A.d (D.int IntKind.i64 (↑k : Int)), [Ob.cells [A.d (D.int IntKind.i64 v)]])) (by kernel_rfl) (Go.Ab.vc_ret ?_)
      all_goals ((have j2 : idx (fun e => !verHas v e.cmd.kind) l 0 = _ := j1; rw [j2]))
theorem c_hasHas {w0 : World} (n : Bool) (l : List Ent) (v : Int) (hz : l.length ≤ 1000000000) : AEv Tryd.prog w0 80 [.d (.slice n 10 (eR l)), .clo 81 [] [.ptr 0 0]] [.cells [.d (.int .i64 v)]] (.d (.bool (l.any fun e => !verHas v e.cmd.kind))) [.cells [.d (.int .i64 v)]] := by
  refine aev_of_run hmix Tryd.func80 [] 1 ?_
  refine Go.Ab.wp_fn (.call 119 [A.d (D.slice n 10 (List.map dEnt l)), A.clo 81 [] [A.ptr 0 0]] [Ob.cells [A.d (D.int IntKind.i64 v)]] (A.d (D.int IntKind.i64 (idx (fun e => !verHas v e.cmd.kind) l 0))) [Ob.cells [A.d (D.int IntKind.i64 v)]] (.ret (A.d (D.bool (decide (idx (fun e => !verHas v e.cmd.kind) l 0 ≥ 0))), [Ob.cells [A.d (D.int IntKind.i64 v)]]))) (by kernel_rfl) (Go.Ab.vc_call (c_idxHas n l v (by first | assumption | exact rfl)) (Go.Ab.vc_ret ?_))
  all_goals (rw [idx_any])
theorem c_entry_Has {w0 : World} (n : Bool) (l : List Ent) (v : Int) (hz : l.length ≤ 1000000000) : AEv Tryd.prog w0 34 [.d (.int .i64 v), .d (.slice n 10 (eR l))] [] (.d (.bool (hasAll v l))) [] := by
  refine aev_of_run hmix Tryd.func34 [] 1 ?_
  refine Go.Ab.wp_fn (.call 80 [A.d (D.slice n 10 (List.map dEnt l)), A.clo 81 [] [A.ptr 0 0]] [Ob.cells [A.d (D.int IntKind.i64 v)]] (A.d (D.bool (l.any fun e => !verHas v e.cmd.kind))) [Ob.cells [A.d (D.int IntKind.i64 v)]] (.ret (A.d (D.bool !l.any fun e => !verHas v e.cmd.kind), []))) (by kernel_rfl) (Go.Ab.vc_call (c_hasHas n l v (by first | assumption | exact rfl)) (Go.Ab.vc_ret ?_))
  all_goals (rw [any_not])
def l_ref12_Check_0_W : List Nat := others 59 [0, 2, 3]
theorem l_ref12_Check_0_g {w0 : World} (n : Bool) (l : List Ent) (hz : l.length ≤ 1000000000) (hs : ∀ z : Nat, z < l.length → (at_ l (z : Int)).cmd.short) (R : Int) (i : Nat) (hi : chkAt l (l.length - i) i = R ∧ i ≤ l.length) : ACode Tryd.prog w0 0 (.loop (nthLoop Tryd.f33 0)) (⟨mkEnv 59 [(0, .d (.slice n 10 (eR l))), (2, .d (.int .i64 0)), (3, .d (.int .i64 i))], []⟩) (fun e s' => (∃ k : Nat, R = 0 ∧ e = .exit 0 ∧ s' = ⟨mkEnv 59 [(0, .d (.slice n 10 (eR l))), (2, .d (.int .i64 0)), (3, .d (.int .i64 k))], []⟩) ∨ (∃ k : Nat, True ∧ e = .ret ∧ s' = ⟨mkEnv 59 [(0, .d (.slice n 10 (eR l))), (2, .d (.int .i64 R)), (3, .d (.int .i64 k))], []⟩)) := by
  refine Go.Ab.acode_loop (s1 := ⟨mkEnv 59 [(0, .d (.slice n 10 (eR l))), (2, .d (.int .i64 0)), (3, .d (.int .i64 i))], []⟩) (n := l.length - i) hmix [] (fun zm zs => ∃ (i : Nat), zm = l.length - i ∧ (chkAt l (l.length - i) i = R ∧ i ≤ l.length) ∧ zs = ⟨mkEnv 59 [(0, .d (.slice n 10 (eR l))), (2, .d (.int .i64 0)), (3, .d (.int .i64 i))], []⟩) (Weak.refl _) ⟨i, rfl, hi, rfl⟩ ?_
  clear hi
  rintro zm zs ⟨i, rfl, hi, rfl⟩
  refine Go.Ab.wp_rd l_ref12_Check_0_W (.q (decide ((↑i : Int) < (↑(List.map dEnt l).length : Int))) (.opt (getC 10 (List.map dEnt l) (↑i : Int)) (dEnt (at_ l (↑i : Int))) (.q (decide ((at_ l (↑i : Int)).index < 1)) (.qs [true, true, true, true, true, true, true, true, true, true, true, true, true] (.ret (Ex.ret, true, ⟨mkEnv 59 [(0, A.d (D.slice n 10 (List.map dEnt l))), (2, A.d (D.int IntKind.i64 6)), (3, A.d (D.int IntKind.i64 (↑i : Int)))], []⟩))) (.qs [false, false] (.opt (getC 10 (List.map dEnt l) (↑i : Int)) (dEnt (at_ l (↑i : Int))) (.qs [false, false, false] (.q (decide ((at_ l (↑i : Int)).index > 4294967296)) (.qs [true, true, true, true, true, true, true] (.ret (Ex.ret, true, ⟨mkEnv 59 [(0, A.d (D.slice n 10 (List.map dEnt l))), (2, A.d (D.int IntKind.i64 6)), (3, A.d (D.int IntKind.i64 (↑i : Int)))], []⟩))) (.qs [false, false] (.opt (getC 10 (List.map dEnt l) (↑i : Int)) (dEnt (at_ l (↑i : Int))) (.qs [false, false, false] (.call 71 [A.agg [A.d (D.int IntKind.i64 (at_ l (↑i : Int)).round), A.d (D.int IntKind.i64 (at_ l (↑i : Int)).node)]] [] (A.d (D.bool (mayB (at_ l (↑i : Int)).round (at_ l (↑i : Int)).node))) [] (.qs [false] (.q (!mayB (at_ l (↑i : Int)).round (at_ l (↑i : Int)).node) (.ret (Ex.ret, true, ⟨mkEnv 59 [(0, A.d (D.slice n 10 (List.map dEnt l))), (2, A.d (D.int IntKind.i64 6)), (3, A.d (D.int IntKind.i64 (↑i : Int)))], []⟩)) (.opt (getC 10 (List.map dEnt l) (↑i : Int)) (dEnt (at_ l (↑i : Int))) (.call 74 [A.agg [A.d (D.int IntKind.i64 (at_ l (↑i : Int)).cmd.kind), A.d (D.int IntKind.i64 (at_ l (↑i : Int)).cmd.client), A.d (D.int IntKind.i64 (at_ l (↑i : Int)).cmd.seq), A.d (D.str (at_ l (↑i : Int)).cmd.key), A.d (D.str (at_ l (↑i : Int)).cmd.val), A.d (D.str (at_ l (↑i : Int)).cmd.old), A.d (D.int IntKind.i64 (at_ l (↑i : Int)).cmd.node)]] [] (A.d (D.int IntKind.i64 (refCmd (at_ l (↑i : Int)).cmd))) [] (.q (refCmd (at_ l (↑i : Int)).cmd != 0) (.ret (Ex.ret, true, ⟨mkEnv 59 [(0, A.d (D.slice n 10 (List.map dEnt l))), (2, A.d (D.int IntKind.i64 (refCmd (at_ l (↑i : Int)).cmd))), (3, A.d (D.int IntKind.i64 (↑i : Int)))], []⟩)) (.q (decide ((↑i : Int) > 0)) (.qs [true, true] (.opt (getC 10 (List.map dEnt l) (↑i : Int)) (dEnt (at_ l (↑i : Int))) (.qs [true, true, true, true, true, true] (.opt (getC 10 (List.map dEnt l) (IntKind.i64.wrap ((↑i : Int) - 1))) (dEnt (at_ l (IntKind.i64.wrap ((↑i : Int) - 1)))) (.qs [true, true, true] (.q (decide ((at_ l (↑i : Int)).index ≤ (at_ l (IntKind.i64.wrap ((↑i : Int) - 1))).index)) (.ret (Ex.ret, true, ⟨mkEnv 59 [(0, A.d (D.slice n 10 (List.map dEnt l))), (2, A.d (D.int IntKind.i64 12)), (3, A.d (D.int IntKind.i64 (↑i : Int)))], []⟩)) (.ret (Ex.normal, true, ⟨mkEnv 59 [(0, A.d (D.slice n 10 (List.map dEnt l))), (2, A.d (D.int IntKind.i64 0)), (3, A.d (D.int IntKind.i64 (IntKind.i64.wrap ((↑i : Int) + 1))))], []⟩)))))))) (.qs [false, false, false, false, false, false, false, false, false, false, false, false] (.ret (Ex.normal, true, ⟨mkEnv 59 [(0, A.d (D.slice n 10 (List.map dEnt l))), (2, A.d (D.int IntKind.i64 0)), (3, A.d (D.int IntKind.i64 (IntKind.i64.wrap ((↑i : Int) + 1))))], []⟩))))))))))))))))))) (.ret (Ex.exit 0, true, ⟨mkEnv 59 [(0, A.d (D.slice n 10 (List.map dEnt l))), (2, A.d (D.int IntKind.i64 0)), (3, A.d (D.int IntKind.i64 (↑i : Int)))], []⟩))) (by kernel_rfl) (Go.Ab.vc_q (fun h0 => Go.Ab.vc_opt (by first | exact eopt (elt ‹_›) | (have q := elt h0; have q2 := of_decide_eq_true ‹decide ((i : Int) > 0) = true›; obtain ⟨k, rfl⟩ : ∃ k, i = k + 1 := ⟨i - 1, by omega⟩; exact eopt' hz q)) (Go.Ab.vc_q (fun h1 => Go.Ab.vc_qs (Go.Ab.vc_back ?x16)) (fun h1 => Go.Ab.vc_qs (Go.Ab.vc_opt (by first | exact eopt (elt ‹_›) | (have q := elt h0; have q2 := of_decide_eq_true ‹decide ((i : Int) > 0) = true›; obtain ⟨k, rfl⟩ : ∃ k, i = k + 1 := ⟨i - 1, by omega⟩; exact eopt' hz q)) (Go.Ab.vc_qs (Go.Ab.vc_q (fun h2 => Go.Ab.vc_qs (Go.Ab.vc_back ?x31)) (fun h2 => Go.Ab.vc_qs (Go.Ab.vc_opt (by first | exact eopt (elt ‹_›) | (have q := elt h0; have q2 := of_decide_eq_true ‹decide ((i : Int) > 0) = true›; obtain ⟨k, rfl⟩ : ∃ k, i = k + 1 := ⟨i - 1, by omega⟩; exact eopt' hz q)) (Go.Ab.vc_qs (Go.Ab.vc_call (c_ref10_May (at_ l (↑i : Int)).round (at_ l (↑i : Int)).node) (Go.Ab.vc_qs (Go.Ab.vc_q (fun h3 => Go.Ab.vc_back ?x41) (fun h3 => Go.Ab.vc_opt (by first | exact eopt (elt ‹_›) | (have q := elt h0; have q2 := of_decide_eq_true ‹decide ((i : Int) > 0) = true›; obtain ⟨k, rfl⟩ : ∃ k, i = k + 1 := ⟨i - 1, by omega⟩; exact eopt' hz q)) (Go.Ab.vc_call (c_ref08_Check (at_ l (↑i : Int)).cmd (by exact hs i (elt h0))) (Go.Ab.vc_q (fun h4 => Go.Ab.vc_back ?x45) (fun h4 => Go.Ab.vc_q (fun h5 => Go.Ab.vc_qs (Go.Ab.vc_opt (by first | exact eopt (elt ‹_›) | (have q := elt h0; have q2 := of_decide_eq_true ‹decide ((i : Int) > 0) = true›; obtain ⟨k, rfl⟩ : ∃ k, i = k + 1 := ⟨i - 1, by omega⟩; exact eopt' hz q)) (Go.Ab.vc_qs (Go.Ab.vc_opt (by first | exact eopt (elt ‹_›) | (have q := elt h0; have q2 := of_decide_eq_true ‹decide ((i : Int) > 0) = true›; obtain ⟨k, rfl⟩ : ∃ k, i = k + 1 := ⟨i - 1, by omega⟩; exact eopt' hz q)) (Go.Ab.vc_qs (Go.Ab.vc_q (fun h6 => Go.Ab.vc_back ?x61) (fun h6 => Go.Ab.vc_next ?_))))))) (fun h5 => Go.Ab.vc_qs (Go.Ab.vc_next ?_)))))))))))))))))) (fun h0 => Go.Ab.vc_exit ?x76))
  case x16 | x31 | x41 | x45 | x61 | x76 => first | (exact .inl ⟨i, by rw [← hi.1]; exact chkAt_end (enlt h0), rfl, rfl⟩) | (have q := elt h0; have e := chk_bad hi q (ent6 (.inl h1)) rfl; subst e; exact .inr ⟨i, trivial, rfl, rfl⟩) | (have q := elt h0; have e := chk_bad hi q (ent6 (.inr (.inl h2))) rfl; subst e; exact .inr ⟨i, trivial, rfl, rfl⟩) | (have q := elt h0; have e := chk_bad hi q (ent6 (.inr (.inr h3))) rfl; subst e; exact .inr ⟨i, trivial, rfl, rfl⟩) | (have q := elt h0; have e := chk_bad hi q (entC h1 h2 h3) h4; subst e; exact .inr ⟨i, trivial, rfl, rfl⟩) | (have q := elt h0; have e := chk_ord hz hi q (by rw [entC h1 h2 h3]; exact h4) h5 h6; subst e; exact .inr ⟨i, trivial, rfl, rfl⟩)
  all_goals ((have q := elt h0; have e := entC h1 h2 h3; have e4 : (entErr (at_ l (i : Int)) != 0) = false := (by rw [e]; exact h4); first | exact ⟨l.length - (i + 1), by omega, i + 1, rfl, chk_go hz hi q e4 (.inl h5), by rw [wS i (by omega)]⟩ | exact ⟨l.length - (i + 1), by omega, i + 1, rfl, chk_go hz hi q e4 (.inr ⟨h5, h6⟩), by rw [wS i (by omega)]⟩))
theorem l_ref12_Check_0 {w0 : World} (n : Bool)   (l : List Ent)   (hz : l.length ≤ 1000000000)   (hs : ∀ z : Nat, z < l.length → (at_ l (z : Int)).cmd.short)       (hi : chkAt l (l.length - (0)) (0) = (chkE l) ∧ (0) ≤ l.length) : ACode Tryd.prog w0 0 (.loop (nthLoop Tryd.f33 0)) (⟨mkEnv 59 [(0, .d (.slice n 10 (eR l))), (2, .d (.int .i64 0)), (3, .d (.int .i64 (0)))], []⟩) (fun e s' => (∃ k : Nat, (chkE l) = 0 ∧ e = .exit 0 ∧ s' = ⟨mkEnv 59 [(0, .d (.slice n 10 (eR l))), (2, .d (.int .i64 0)), (3, .d (.int .i64 k))], []⟩) ∨ (∃ k : Nat, True ∧ e = .ret ∧ s' = ⟨mkEnv 59 [(0, .d (.slice n 10 (eR l))), (2, .d (.int .i64 (chkE l))), (3, .d (.int .i64 k))], []⟩)) :=
  l_ref12_Check_0_g n l hz hs (chkE l) (0) hi
theorem c_ref12_Check {w0 : World} (n : Bool) (l : List Ent) (hz : l.length ≤ 1000000000) (hs : ∀ z : Nat, z < l.length → (at_ l (z : Int)).cmd.short) : AEv Tryd.prog w0 33 [.d (.slice n 10 (eR l))] [] (.d (.int .i64 (chkE l))) [] := by
  refine aev_of_run hmix Tryd.func33 [] 1 ?_
  refine Go.Ab.wp_fn (.stop) (by kernel_rfl) (Go.Ab.vc_stop ?s0)
  case s0 =>
    refine Go.Ab.wp_loop (by kernel_rfl) (by kernel_rfl) (Go.Ab.acode_tidy (W := l_ref12_Check_0_W) (by kernel_rfl) (by kernel_rfl) (l_ref12_Check_0 n l (by first | assumption | exact ⟨rfl, by omega⟩) (by first | assumption | exact ⟨rfl, by omega⟩) (by first | assumption | exact ⟨rfl, by omega⟩))) ?_
    rintro e s' (⟨k, j1, rfl, rfl⟩ | ⟨k, j1, rfl, rfl⟩)
    · skip
      refine Go.Ab.wp_fn (.ret (A.d (D.int IntKind.i64 0), [])) (by kernel_rfl) (Go.Ab.vc_ret ?_)
      all_goals (first | rfl | (have j2 : chkE l = _ := j1; rw [j2]))
    · skip
      refine Go.Ab.wp_fn (.ret (A.d (D.int IntKind.i64 (chkE l)), [])) (by kernel_rfl) (Go.Ab.vc_ret ?_)
      all_goals (first | rfl | (have j2 : chkE l = _ := j1; rw [j2]))
def l_ref12_With_0_W : List Nat := others 52 [0, 3, 5, 6, 7]
theorem l_ref12_With_0 {w0 : World} (n : Bool) (l : List Ent) (x : Ent) (hz : l.length ≤ 1000000000) (T : List Ent) (i : Nat) (d : Bool) (ys : List Ent) (hi : ys ++ refWith x d (l.drop i) = T ∧ i ≤ l.length ∧ ys.length ≤ 2 * i) : ACode Tryd.prog w0 0 (.loop (nthLoop Tryd.f28 0)) (⟨mkEnv 52 [(0, .d (.slice n 10 (eR l))), (3, .ptr 0 0), (5, .own 1), (6, .d (.bool d)), (7, .d (.int .i64 i))], [.cells (eEnt x), .row true 36 10 (eR ys)]⟩) (fun e s' => ∃ (d : Bool) (ys : List Ent) (k : Nat), (ys ++ (if d then [] else [x]) = T ∧ ys.length ≤ 2000000000) ∧ e = .exit 0 ∧ s' = ⟨mkEnv 52 [(0, .d (.slice n 10 (eR l))), (3, .ptr 0 0), (5, .own 1), (6, .d (.bool d)), (7, .d (.int .i64 k))], [.cells (eEnt x), .row true 36 10 (eR ys)]⟩) := by
  refine Go.Ab.acode_loop (s1 := ⟨mkEnv 52 [(0, .d (.slice n 10 (eR l))), (3, .ptr 0 0), (5, .own 1), (6, .d (.bool d)), (7, .d (.int .i64 i))], [.cells (eEnt x), .row true 36 10 (eR ys)]⟩) (n := l.length - i) hmix [] (fun zm zs => ∃ (i : Nat) (d : Bool) (ys : List Ent), zm = l.length - i ∧ (ys ++ refWith x d (l.drop i) = T ∧ i ≤ l.length ∧ ys.length ≤ 2 * i) ∧ zs = ⟨mkEnv 52 [(0, .d (.slice n 10 (eR l))), (3, .ptr 0 0), (5, .own 1), (6, .d (.bool d)), (7, .d (.int .i64 i))], [.cells (eEnt x), .row true 36 10 (eR ys)]⟩) (Weak.refl _) ⟨i, d, ys, rfl, hi, rfl⟩ ?_
  clear hi
  rintro zm zs ⟨i, d, ys, rfl, hi, rfl⟩
  refine Go.Ab.wp_rd l_ref12_With_0_W (.q (decide ((↑i : Int) < (↑(List.map dEnt l).length : Int))) (.q (!d) (.qs [true, true] (.opt (getC 10 (List.map dEnt l) (↑i : Int)) (dEnt (at_ l (↑i : Int))) (.qs [true, true, true, true, true] (.q (decide ((at_ l (↑i : Int)).index ≥ x.index)) (.chk (decide ((List.map dEnt ys).length + 1 ≤ 68719476736)) (.opt (getC 10 (List.map dEnt l) (↑i : Int)) (dEnt (at_ l (↑i : Int))) (.q ((at_ l (↑i : Int)).index != x.index) (.opt (getC 10 (List.map dEnt l) (↑i : Int)) (dEnt (at_ l (↑i : Int))) (.chk (decide ((List.map dEnt ys ++ [[D.int IntKind.i64 x.index, D.int IntKind.i64 x.round, D.int IntKind.i64 x.node, D.int IntKind.i64 x.cmd.kind, D.int IntKind.i64 x.cmd.client, D.int IntKind.i64 x.cmd.seq, D.str x.cmd.key, D.str x.cmd.val, D.str x.cmd.old, D.int IntKind.i64 x.cmd.node]]).length + 1 ≤ 68719476736)) (.ret (Ex.normal, true, ⟨mkEnv 52 [(0, A.d (D.slice n 10 (List.map dEnt l))), (3, A.ptr 0 0), (5, A.own 1), (6, A.d (D.bool true)), (7, A.d (D.int IntKind.i64 (IntKind.i64.wrap ((↑i : Int) + 1))))], [Ob.cells [A.d (D.int IntKind.i64 x.index), A.d (D.int IntKind.i64 x.round), A.d (D.int IntKind.i64 x.node), A.d (D.int IntKind.i64 x.cmd.kind), A.d (D.int IntKind.i64 x.cmd.client), A.d (D.int IntKind.i64 x.cmd.seq), A.d (D.str x.cmd.key), A.d (D.str x.cmd.val), A.d (D.str x.cmd.old), A.d (D.int IntKind.i64 x.cmd.node)], Ob.row true 36 10 (List.map dEnt ys ++ [[D.int IntKind.i64 x.index, D.int IntKind.i64 x.round, D.int IntKind.i64 x.node, D.int IntKind.i64 x.cmd.kind, D.int IntKind.i64 x.cmd.client, D.int IntKind.i64 x.cmd.seq, D.str x.cmd.key, D.str x.cmd.val, D.str x.cmd.old, D.int IntKind.i64 x.cmd.node]] ++ [[D.int IntKind.i64 (at_ l (↑i : Int)).index, D.int IntKind.i64 (at_ l (↑i : Int)).round, D.int IntKind.i64 (at_ l (↑i : Int)).node, D.int IntKind.i64 (at_ l (↑i : Int)).cmd.kind, D.int IntKind.i64 (at_ l (↑i : Int)).cmd.client, D.int IntKind.i64 (at_ l (↑i : Int)).cmd.seq, D.str (at_ l (↑i : Int)).cmd.key, D.str (at_ l (↑i : Int)).cmd.val, D.str (at_ l (↑i : Int)).cmd.old, D.int IntKind.i64 (at_ l (↑i : Int)).cmd.node]])]⟩)))) (.ret (Ex.normal, true, ⟨mkEnv 52 [(0, A.d (D.slice n 10 (List.map dEnt l))), (3, A.ptr 0 0), (5, A.own 1), (6, A.d (D.bool true)), (7, A.d (D.int IntKind.i64 (IntKind.i64.wrap ((↑i : Int) + 1))))], [Ob.cells [A.d (D.int IntKind.i64 x.index), A.d (D.int IntKind.i64 x.round), A.d (D.int IntKind.i64 x.node), A.d (D.int IntKind.i64 x.cmd.kind), A.d (D.int IntKind.i64 x.cmd.client), A.d (D.int IntKind.i64 x.cmd.seq), A.d (D.str x.cmd.key), A.d (D.str x.cmd.val), A.d (D.str x.cmd.old), A.d (D.int IntKind.i64 x.cmd.node)], Ob.row true 36 10 (List.map dEnt ys ++ [[D.int IntKind.i64 x.index, D.int IntKind.i64 x.round, D.int IntKind.i64 x.node, D.int IntKind.i64 x.cmd.kind, D.int IntKind.i64 x.cmd.client, D.int IntKind.i64 x.cmd.seq, D.str x.cmd.key, D.str x.cmd.val, D.str x.cmd.old, D.int IntKind.i64 x.cmd.node]])]⟩))))) (.opt (getC 10 (List.map dEnt l) (↑i : Int)) (dEnt (at_ l (↑i : Int))) (.q ((at_ l (↑i : Int)).index != x.index) (.opt (getC 10 (List.map dEnt l) (↑i : Int)) (dEnt (at_ l (↑i : Int))) (.chk (decide ((List.map dEnt ys).length + 1 ≤ 68719476736)) (.ret (Ex.normal, true, ⟨mkEnv 52 [(0, A.d (D.slice n 10 (List.map dEnt l))), (3, A.ptr 0 0), (5, A.own 1), (6, A.d (D.bool d)), (7, A.d (D.int IntKind.i64 (IntKind.i64.wrap ((↑i : Int) + 1))))], [Ob.cells [A.d (D.int IntKind.i64 x.index), A.d (D.int IntKind.i64 x.round), A.d (D.int IntKind.i64 x.node), A.d (D.int IntKind.i64 x.cmd.kind), A.d (D.int IntKind.i64 x.cmd.client), A.d (D.int IntKind.i64 x.cmd.seq), A.d (D.str x.cmd.key), A.d (D.str x.cmd.val), A.d (D.str x.cmd.old), A.d (D.int IntKind.i64 x.cmd.node)], Ob.row true 36 10 (List.map dEnt ys ++ [[D.int IntKind.i64 (at_ l (↑i : Int)).index, D.int IntKind.i64 (at_ l (↑i : Int)).round, D.int IntKind.i64 (at_ l (↑i : Int)).node, D.int IntKind.i64 (at_ l (↑i : Int)).cmd.kind, D.int IntKind.i64 (at_ l (↑i : Int)).cmd.client, D.int IntKind.i64 (at_ l (↑i : Int)).cmd.seq, D.str (at_ l (↑i : Int)).cmd.key, D.str (at_ l (↑i : Int)).cmd.val, D.str (at_ l (↑i : Int)).cmd.old, D.int IntKind.i64 (at_ l (↑i : Int)).cmd.node]])]⟩)))) (.ret (Ex.normal, true, ⟨mkEnv 52 [(0, A.d (D.slice n 10 (List.map dEnt l))), (3, A.ptr 0 0), (5, A.own 1), (6, A.d (D.bool d)), (7, A.d (D.int IntKind.i64 (IntKind.i64.wrap ((↑i : Int) + 1))))], [Ob.cells [A.d (D.int IntKind.i64 x.index), A.d (D.int IntKind.i64 x.round), A.d (D.int IntKind.i64 x.node), A.d (D.int IntKind.i64 x.cmd.kind), A.d (D.int IntKind.i64 x.cmd.client), A.d (D.int IntKind.i64 x.cmd.seq), A.d (D.str x.cmd.key), A.d (D.str x.cmd.val), A.d (D.str x.cmd.old), A.d (D.int IntKind.i64 x.cmd.node)], Ob.row true 36 10 (List.map dEnt ys)]⟩)))))))) (.qs [false, false, false, false, false, false, false, false] (.opt (getC 10 (List.map dEnt l) (↑i : Int)) (dEnt (at_ l (↑i : Int))) (.q ((at_ l (↑i : Int)).index != x.index) (.opt (getC 10 (List.map dEnt l) (↑i : Int)) (dEnt (at_ l (↑i : Int))) (.chk (decide ((List.map dEnt ys).length + 1 ≤ 68719476736)) (.ret (Ex.normal, true, ⟨mkEnv 52 [(0, A.d (D.slice n 10 (List.map dEnt l))), (3, A.ptr 0 0), (5, A.own 1), (6, A.d (D.bool d)), (7, A.d (D.int IntKind.i64 (IntKind.i64.wrap ((↑i : Int) + 1))))], [Ob.cells [A.d (D.int IntKind.i64 x.index), A.d (D.int IntKind.i64 x.round), A.d (D.int IntKind.i64 x.node), A.d (D.int IntKind.i64 x.cmd.kind), A.d (D.int IntKind.i64 x.cmd.client), A.d (D.int IntKind.i64 x.cmd.seq), A.d (D.str x.cmd.key), A.d (D.str x.cmd.val), A.d (D.str x.cmd.old), A.d (D.int IntKind.i64 x.cmd.node)], Ob.row true 36 10 (List.map dEnt ys ++ [[D.int IntKind.i64 (at_ l (↑i : Int)).index, D.int IntKind.i64 (at_ l (↑i : Int)).round, D.int IntKind.i64 (at_ l (↑i : Int)).node, D.int IntKind.i64 (at_ l (↑i : Int)).cmd.kind, D.int IntKind.i64 (at_ l (↑i : Int)).cmd.client, D.int IntKind.i64 (at_ l (↑i : Int)).cmd.seq, D.str (at_ l (↑i : Int)).cmd.key, D.str (at_ l (↑i : Int)).cmd.val, D.str (at_ l (↑i : Int)).cmd.old, D.int IntKind.i64 (at_ l (↑i : Int)).cmd.node]])]⟩)))) (.ret (Ex.normal, true, ⟨mkEnv 52 [(0, A.d (D.slice n 10 (List.map dEnt l))), (3, A.ptr 0 0), (5, A.own 1), (6, A.d (D.bool d)), (7, A.d (D.int IntKind.i64 (IntKind.i64.wrap ((↑i : Int) + 1))))], [Ob.cells [A.d (D.int IntKind.i64 x.index), A.d (D.int IntKind.i64 x.round), A.d (D.int IntKind.i64 x.node), A.d (D.int IntKind.i64 x.cmd.kind), A.d (D.int IntKind.i64 x.cmd.client), A.d (D.int IntKind.i64 x.cmd.seq), A.d (D.str x.cmd.key), A.d (D.str x.cmd.val), A.d (D.str x.cmd.old), A.d (D.int IntKind.i64 x.cmd.node)], Ob.row true 36 10 (List.map dEnt ys)]⟩)))))) (.ret (Ex.exit 0, true, ⟨mkEnv 52 [(0, A.d (D.slice n 10 (List.map dEnt l))), (3, A.ptr 0 0), (5, A.own 1), (6, A.d (D.bool d)), (7, A.d (D.int IntKind.i64 (↑i : Int)))], [Ob.cells [A.d (D.int IntKind.i64 x.index), A.d (D.int IntKind.i64 x.round), A.d (D.int IntKind.i64 x.node), A.d (D.int IntKind.i64 x.cmd.kind), A.d (D.int IntKind.i64 x.cmd.client), A.d (D.int IntKind.i64 x.cmd.seq), A.d (D.str x.cmd.key), A.d (D.str x.cmd.val), A.d (D.str x.cmd.old), A.d (D.int IntKind.i64 x.cmd.node)], Ob.row true 36 10 (List.map dEnt ys)]⟩))) (by kernel_rfl) (Go.Ab.vc_q (fun h0 => Go.Ab.vc_q (fun h1 => Go.Ab.vc_qs (Go.Ab.vc_opt (by exact eopt (elt ‹_›)) (Go.Ab.vc_qs (Go.Ab.vc_q (fun h2 => Go.Ab.vc_chk (by simp; omega) (Go.Ab.vc_opt (by exact eopt (elt ‹_›)) (Go.Ab.vc_q (fun h3 => Go.Ab.vc_opt (by exact eopt (elt ‹_›)) (Go.Ab.vc_chk (by simp; omega) (Go.Ab.vc_next ?_))) (fun h3 => Go.Ab.vc_next ?_)))) (fun h2 => Go.Ab.vc_opt (by exact eopt (elt ‹_›)) (Go.Ab.vc_q (fun h3 => Go.Ab.vc_opt (by exact eopt (elt ‹_›)) (Go.Ab.vc_chk (by simp; omega) (Go.Ab.vc_next ?_))) (fun h3 => Go.Ab.vc_next ?_))))))) (fun h1 => Go.Ab.vc_qs (Go.Ab.vc_opt (by exact eopt (elt ‹_›)) (Go.Ab.vc_q (fun h2 => Go.Ab.vc_opt (by exact eopt (elt ‹_›)) (Go.Ab.vc_chk (by simp; omega) (Go.Ab.vc_next ?_))) (fun h2 => Go.Ab.vc_next ?_))))) (fun h0 => Go.Ab.vc_exit ?x38))
  case x38 => (have w := hi.1; rw [refWith_end (enlt h0)] at w; exact ⟨_, _, _, ⟨w, by omega⟩, rfl, rfl⟩)
  all_goals ((have q := elt h0; have w := rw_next hi q; first | (rw [h1, h2, h3] at w; exact ⟨l.length - (i + 1), by omega, i + 1, _, _, rfl, w, by rw [wS i (by omega)]; simp⟩) | (cases d <;> simp only [Bool.not_true, Bool.not_false, reduceCtorEq] at h1; rw [h2] at w; exact ⟨l.length - (i + 1), by omega, i + 1, _, _, rfl, w, by rw [wS i (by omega)]; simp⟩)))
def l_ref12_Between_0_W : List Nat := others 39 [0, 1, 2, 7, 8]
theorem l_ref12_Between_0 {w0 : World} (n : Bool) (l : List Ent) (a b : Int) (hz : l.length ≤ 1000000000) (T : List Ent) (i : Nat) (ys : List Ent) (hi : ys ++ betw a b (l.drop i) = T ∧ i ≤ l.length ∧ ys.length ≤ i) : ACode Tryd.prog w0 0 (.loop (nthLoop Tryd.f30 0)) (⟨mkEnv 39 [(0, .d (.slice n 10 (eR l))), (1, .d (.int .i64 a)), (2, .d (.int .i64 b)), (7, .own 0), (8, .d (.int .i64 i))], [.row true 36 10 (eR ys)]⟩) (fun e s' => ∃ (ys : List Ent) (k : Nat), (ys = T) ∧ e = .exit 0 ∧ s' = ⟨mkEnv 39 [(0, .d (.slice n 10 (eR l))), (1, .d (.int .i64 a)), (2, .d (.int .i64 b)), (7, .own 0), (8, .d (.int .i64 k))], [.row true 36 10 (eR ys)]⟩) := by
  refine Go.Ab.acode_loop (s1 := ⟨mkEnv 39 [(0, .d (.slice n 10 (eR l))), (1, .d (.int .i64 a)), (2, .d (.int .i64 b)), (7, .own 0), (8, .d (.int .i64 i))], [.row true 36 10 (eR ys)]⟩) (n := l.length - i) hmix [] (fun zm zs => ∃ (i : Nat) (ys : List Ent), zm = l.length - i ∧ (ys ++ betw a b (l.drop i) = T ∧ i ≤ l.length ∧ ys.length ≤ i) ∧ zs = ⟨mkEnv 39 [(0, .d (.slice n 10 (eR l))), (1, .d (.int .i64 a)), (2, .d (.int .i64 b)), (7, .own 0), (8, .d (.int .i64 i))], [.row true 36 10 (eR ys)]⟩) (Weak.refl _) ⟨i, ys, rfl, hi, rfl⟩ ?_
  clear hi
  rintro zm zs ⟨i, ys, rfl, hi, rfl⟩
  refine Go.Ab.wp_rd l_ref12_Between_0_W (.q (decide ((↑i : Int) < (↑(List.map dEnt l).length : Int))) (.opt (getC 10 (List.map dEnt l) (↑i : Int)) (dEnt (at_ l (↑i : Int))) (.q (decide ((at_ l (↑i : Int)).index ≥ a)) (.qs [true, true] (.opt (getC 10 (List.map dEnt l) (↑i : Int)) (dEnt (at_ l (↑i : Int))) (.qs [true, true, true, true] (.q (decide ((at_ l (↑i : Int)).index ≤ b)) (.opt (getC 10 (List.map dEnt l) (↑i : Int)) (dEnt (at_ l (↑i : Int))) (.chk (decide ((List.map dEnt ys).length + 1 ≤ 68719476736)) (.ret (Ex.normal, true, ⟨mkEnv 39 [(0, A.d (D.slice n 10 (List.map dEnt l))), (1, A.d (D.int IntKind.i64 a)), (2, A.d (D.int IntKind.i64 b)), (7, A.own 0), (8, A.d (D.int IntKind.i64 (IntKind.i64.wrap ((↑i : Int) + 1))))], [Ob.row true 36 10 (List.map dEnt ys ++ [[D.int IntKind.i64 (at_ l (↑i : Int)).index, D.int IntKind.i64 (at_ l (↑i : Int)).round, D.int IntKind.i64 (at_ l (↑i : Int)).node, D.int IntKind.i64 (at_ l (↑i : Int)).cmd.kind, D.int IntKind.i64 (at_ l (↑i : Int)).cmd.client, D.int IntKind.i64 (at_ l (↑i : Int)).cmd.seq, D.str (at_ l (↑i : Int)).cmd.key, D.str (at_ l (↑i : Int)).cmd.val, D.str (at_ l (↑i : Int)).cmd.old, D.int IntKind.i64 (at_ l (↑i : Int)).cmd.node]])]⟩)))) (.ret (Ex.normal, true, ⟨mkEnv 39 [(0, A.d (D.slice n 10 (List.map dEnt l))), (1, A.d (D.int IntKind.i64 a)), (2, A.d (D.int IntKind.i64 b)), (7, A.own 0), (8, A.d (D.int IntKind.i64 (IntKind.i64.wrap ((↑i : Int) + 1))))], [Ob.row true 36 10 (List.map dEnt ys)]⟩)))))) (.qs [false, false, false, false, false, false, false] (.ret (Ex.normal, true, ⟨mkEnv 39 [(0, A.d (D.slice n 10 (List.map dEnt l))), (1, A.d (D.int IntKind.i64 a)), (2, A.d (D.int IntKind.i64 b)), (7, A.own 0), (8, A.d (D.int IntKind.i64 (IntKind.i64.wrap ((↑i : Int) + 1))))], [Ob.row true 36 10 (List.map dEnt ys)]⟩))))) (.ret (Ex.exit 0, true, ⟨mkEnv 39 [(0, A.d (D.slice n 10 (List.map dEnt l))), (1, A.d (D.int IntKind.i64 a)), (2, A.d (D.int IntKind.i64 b)), (7, A.own 0), (8, A.d (D.int IntKind.i64 (↑i : Int)))], [Ob.row true 36 10 (List.map dEnt ys)]⟩))) (by kernel_rfl) (Go.Ab.vc_q (fun h0 => Go.Ab.vc_opt (by exact eopt (elt ‹_›)) (Go.Ab.vc_q (fun h1 => Go.Ab.vc_qs (Go.Ab.vc_opt (by exact eopt (elt ‹_›)) (Go.Ab.vc_qs (Go.Ab.vc_q (fun h2 => Go.Ab.vc_opt (by exact eopt (elt ‹_›)) (Go.Ab.vc_chk (by simp; omega) (Go.Ab.vc_next ?_))) (fun h2 => Go.Ab.vc_next ?_))))) (fun h1 => Go.Ab.vc_qs (Go.Ab.vc_next ?_)))) (fun h0 => Go.Ab.vc_exit ?x23))
  case x23 => (have w := hi.1; rw [betw_end (enlt h0), List.append_nil] at w; exact ⟨_, _, w, rfl, rfl⟩)
  all_goals ((have q := elt h0; have w := bt_next hi q; rw [h1] at w; (try rw [h2] at w); exact ⟨l.length - (i + 1), by omega, i + 1, _, rfl, w, by rw [wS i (by omega)]; simp⟩))
end Go.Proofs.Tryd
/- Entries whose indexes rise: the program's lists are the reference's. -/
set_option linter.unusedVariables false
set_option linter.unusedSimpArgs false
namespace Go.Proofs.Tryd
open Go Go.Ab Go.Pl
theorem isAt_cons (x : Ent) (l : List Ent) (t : Int) : isAt (x :: l) t = if x.index < t then isAt l t else (x.index == t) := by
  unfold isAt
  rw [lb_cons]
  split
  · have e : at_ (x :: l) ((lb l t + 1 : Nat) : Int) = at_ l (lb l t : Nat) := by simp [at_]
    rw [e]
    simp
  · simp [at_]
theorem findE_cons (x : Ent) (l : List Ent) (t : Int) : findE (x :: l) t = if x.index < t then findE l t else if x.index == t then x else zeroEnt := by
  unfold findE
  rw [isAt_cons, lb_cons]
  split
  · have e : at_ (x :: l) ((lb l t + 1 : Nat) : Int) = at_ l (lb l t : Nat) := by simp [at_]
    rw [e]
  · simp [at_]
theorem fromE_cons (x : Ent) (l : List Ent) (t : Int) : fromE (x :: l) t = if x.index < t then fromE l t else x :: l := by
  unfold fromE
  rw [lb_cons]
  split <;> simp
theorem untilE_cons (x : Ent) (l : List Ent) (t : Int) : untilE (x :: l) t = if x.index < t then x :: untilE l t else if x.index == t then [x] else [] := by
  unfold untilE
  rw [isAt_cons, lb_cons]
  split
  · rename_i h
    cases isAt l t <;> simp
  · split <;> simp
theorem insE_cons (x : Ent) (l : List Ent) (e : Ent) : insE (x :: l) e = if x.index < e.index then x :: insE l e else if x.index == e.index then e :: l else e :: x :: l := by
  unfold insE
  rw [isAt_cons, lb_cons]
  split
  · cases isAt l e.index <;> simp
  · split <;> simp
theorem insE_nil (e : Ent) : insE [] e = [e] := rfl
theorem isAt_above {t : Int} : ∀ {l : List Ent}, (∀ y ∈ l, t < y.index) → isAt l t = false
  | [], _ => rfl
  | x :: l, h => by
    have hx := h x (by simp)
    rw [isAt_cons, if_neg (by omega)]
    simp; omega
theorem idx_at {t : Int} : ∀ {l : List Ent} (i : Nat), Rise l → idx (fun e => e.index == t) l i = if isAt l t then ((i + lb l t : Nat) : Int) else -1
  | [], i, _ => rfl
  | x :: l, i, h => by
    rw [idx, isAt_cons, lb_cons]
    by_cases h1 : x.index < t
    · have h2 : (x.index == t) = false := by simp; omega
      rw [h2, if_pos h1, if_pos h1, idx_at (i + 1) h.tail]
      simp only [Bool.false_eq_true, if_false]
      congr 2
      omega
    · rw [if_neg h1, if_neg h1]
      cases h2 : (x.index == t) with
      | true => simp
      | false =>
        simp only [Bool.false_eq_true, if_false]
        have h3 : t < x.index := by simp at h2; omega
        rw [idx_at (i + 1) h.tail, isAt_above fun y hy => by have := h.head y hy; omega]
        rfl
theorem refFind_eq {l : List Ent} {t : Int} (h : Rise l) : refFind l t = if isAt l t then ((lb l t : Nat) : Int) else -1 := by
  unfold refFind
  rw [idx_at 0 h, Nat.zero_add]
theorem refWith_done {e : Ent} : ∀ {l : List Ent}, (∀ y ∈ l, e.index < y.index) → refWith e true l = l
  | [], _ => rfl
  | x :: l, h => by
    have hx := h x (by simp)
    have h2 : (x.index == e.index) = false := by simp; omega
    have ih : refWith e true l = l := refWith_done fun y hy => h y (by simp [hy])
    rw [refWith, h2]
    simp [ih]
theorem refWith_eq {e : Ent} : ∀ {l : List Ent}, Rise l → refWith e false l = insE l e
  | [], _ => rfl
  | x :: l, h => by
    rw [refWith, insE_cons]
    by_cases h1 : x.index < e.index
    · have h2 : (x.index == e.index) = false := by simp; omega
      have h3 : decide (e.index ≤ x.index) = false := decide_eq_false (by omega)
      rw [if_pos h1, h2, h3, ← refWith_eq h.tail]
      rfl
    · have h3 : decide (e.index ≤ x.index) = true := decide_eq_true (by omega)
      have h4 : refWith e true l = l := refWith_done fun y hy => by have := h.head y hy; omega
      rw [if_neg h1, h3, Bool.false_or, h4]
      cases h2 : (x.index == e.index) <;> simp
theorem mem_insE {e y : Ent} : ∀ {l : List Ent}, y ∈ insE l e → y = e ∨ y ∈ l
  | [], h => by rw [insE_nil] at h; simp at h; exact .inl h
  | x :: l, h => by
    rw [insE_cons] at h
    split at h
    · rcases List.mem_cons.1 h with rfl | h
      · exact .inr (by simp)
      · exact (mem_insE h).imp id fun h => by simp [h]
    · split at h
      · rcases List.mem_cons.1 h with rfl | h
        · exact .inl rfl
        · exact .inr (by simp [h])
      · rcases List.mem_cons.1 h with rfl | h
        · exact .inl rfl
        · exact .inr h
theorem rise_insE {e : Ent} : ∀ {l : List Ent}, Rise l → Rise (insE l e)
  | [], _ => by rw [insE_nil]; exact List.pairwise_singleton _ _
  | x :: l, h => by
    rw [insE_cons]
    split
    · rename_i h1
      refine List.pairwise_cons.2 ⟨fun y hy => ?_, rise_insE h.tail⟩
      rcases mem_insE hy with rfl | hy
      · exact h1
      · exact h.head y hy
    · rename_i h1
      split
      · rename_i h2
        have h2 : x.index = e.index := by simpa using h2
        exact List.pairwise_cons.2 ⟨fun y hy => by have := h.head y hy; omega, h.tail⟩
      · rename_i h2
        have h2 : ¬ x.index = e.index := by simpa using h2
        refine List.pairwise_cons.2 ⟨fun y hy => ?_, h⟩
        rcases List.mem_cons.1 hy with rfl | hy
        · omega
        · have := h.head y hy; omega
theorem at_insE (e : Ent) : ∀ (l : List Ent), isAt (insE l e) e.index = true ∧ findE (insE l e) e.index = e
  | [] => by
    rw [insE_nil, isAt_cons, findE_cons]
    simp
  | x :: l => by
    obtain ⟨a, b⟩ := at_insE e l
    rw [insE_cons]
    split
    · rename_i h1
      rw [isAt_cons, findE_cons, if_pos h1, if_pos h1]
      exact ⟨a, b⟩
    · split <;> rw [isAt_cons, findE_cons] <;> simp
theorem len_insE (e : Ent) : ∀ (l : List Ent), (insE l e).length ≤ l.length + 1
  | [] => by rw [insE_nil]; simp
  | x :: l => by
    have := len_insE e l
    rw [insE_cons]
    split
    · simp; omega
    · split <;> simp
theorem betw_all {a b : Int} {l : List Ent} (h : ∀ y ∈ l, a ≤ y.index ∧ y.index ≤ b) : betw a b l = l := by
  unfold betw
  rw [List.filter_eq_self]
  intro y hy
  have := h y hy
  simp [this.1, this.2]
theorem betw_none {a b : Int} {l : List Ent} (h : ∀ y ∈ l, ¬ (a ≤ y.index ∧ y.index ≤ b)) : betw a b l = [] := by
  unfold betw
  rw [List.filter_eq_nil_iff]
  intro y hy
  have := h y hy
  simp
  omega
theorem betw_cons {a b : Int} (x : Ent) (l : List Ent) : betw a b (x :: l) = if a ≤ x.index ∧ x.index ≤ b then x :: betw a b l else betw a b l := by
  unfold betw
  rw [List.filter_cons]
  by_cases h : a ≤ x.index ∧ x.index ≤ b
  · simp [h.1, h.2]
  · rw [if_neg h, if_neg]
    simpa using h
theorem from_eq {t b : Int} : ∀ {l : List Ent}, Rise l → (∀ y ∈ l, y.index ≤ b) → betw t b l = fromE l t
  | [], _, _ => rfl
  | x :: l, h, hb => by
    rw [fromE_cons]
    split
    · rename_i h1
      rw [betw_cons, if_neg (by omega)]
      exact from_eq h.tail fun y hy => hb y (by simp [hy])
    · rename_i h1
      refine betw_all fun y hy => ⟨?_, hb y hy⟩
      rcases List.mem_cons.1 hy with rfl | hy
      · omega
      · have := h.head y hy; omega
theorem until_eq {t a : Int} : ∀ {l : List Ent}, Rise l → (∀ y ∈ l, a ≤ y.index) → betw a t l = untilE l t
  | [], _, _ => rfl
  | x :: l, h, ha => by
    have hx := ha x (by simp)
    rw [untilE_cons, betw_cons]
    by_cases h1 : x.index < t
    · rw [if_pos h1, if_pos (by omega), until_eq h.tail fun y hy => ha y (by simp [hy])]
    · rw [if_neg h1]
      by_cases h2 : x.index = t
      · rw [if_pos (by omega), if_pos (by simp [h2]), betw_none fun y hy => by have := h.head y hy; omega]
      · rw [if_neg (by omega), if_neg (by simp [h2])]
        exact betw_none fun y hy => by have := h.head y hy; omega
end Go.Proofs.Tryd
set_option maxRecDepth 100000
set_option maxHeartbeats 4000000
set_option linter.unusedVariables false
set_option linter.unusedSimpArgs false
namespace Go.Proofs.Tryd
open Go Go.Ab Go.Pl Go.RowKit Go.Proofs.YtmecehpkjffanaaDoor
attribute [local irreducible] Go.Ab.wp Go.Ab.vc Go.Ab.run Go.Ab.runFn Go.Ab.body1 Go.Ab.Tr.qt Go.Ab.Tr.qf Go.Ab.AEv
def l_refW_W : List Nat := l_ref12_With_0_W
theorem l_refW {w0 : World} (n : Bool) (l : List Ent) (x : Ent) (hz : l.length ≤ 1000000000) : ACode Tryd.prog w0 0 (.loop (nthLoop Tryd.f28 0)) (⟨mkEnv (Tryd.f28).ntmps [(0, .d (.slice n 10 (eR l))), (3, .ptr 0 0), (5, .d (.slice true 0 [])), (6, .d (.bool false)), (7, .d (.int .i64 0))], [.cells (eEnt x)]⟩) (fun e s' => ∃ (d : Bool) (ys : List Ent) (k : Nat), (ys ++ (if d then [] else [x]) = refWith x false l ∧ ys.length ≤ 2000000000) ∧ e = .exit 0 ∧ s' = ⟨mkEnv (Tryd.f28).ntmps [(0, .d (.slice n 10 (eR l))), (3, .ptr 0 0), (5, .own 1), (6, .d (.bool d)), (7, .d (.int .i64 k))], [.cells (eEnt x), .row true 36 10 (eR ys)]⟩) :=
  acode_weak (weak_virt (d := 5) (e := 36) (sz := 10) (Nat.zero_le _) rfl) (l_ref12_With_0 n l x hz (refWith x false l) 0 false [] ⟨rfl, by omega, by simp⟩)
def l_refBt_W : List Nat := l_ref12_Between_0_W
theorem l_refBt {w0 : World} (n : Bool) (l : List Ent) (a b : Int) (hz : l.length ≤ 1000000000) : ACode Tryd.prog w0 0 (.loop (nthLoop Tryd.f30 0)) (⟨mkEnv (Tryd.f30).ntmps [(0, .d (.slice n 10 (eR l))), (1, .d (.int .i64 a)), (2, .d (.int .i64 b)), (7, .d (.slice true 0 [])), (8, .d (.int .i64 0))], []⟩) (fun e s' => ∃ (ys : List Ent) (k : Nat), (ys = betw a b l) ∧ e = .exit 0 ∧ s' = ⟨mkEnv (Tryd.f30).ntmps [(0, .d (.slice n 10 (eR l))), (1, .d (.int .i64 a)), (2, .d (.int .i64 b)), (7, .own 0), (8, .d (.int .i64 k))], [.row true 36 10 (eR ys)]⟩) :=
  acode_weak (weak_virt (d := 7) (e := 36) (sz := 10) (Nat.zero_le _) rfl) (l_ref12_Between_0 n l a b hz (betw a b l) 0 [] ⟨rfl, by omega, by simp⟩)
theorem insE_ne (l : List Ent) (x : Ent) : (eR (insE l x)).isEmpty = false := by
  obtain ⟨a, _⟩ := at_insE x l
  have := isAt_lt a
  cases h : insE l x with
  | nil => rw [h] at this; simp at this
  | cons y ys => rfl
theorem refW_end {x : Ent} {l ys : List Ent} {d : Bool} (h : ys ++ (if d then [] else [x]) = refWith x false l) (hr : Rise l) : insE l x = ys ++ (if d then [] else [x]) := by rw [h, refWith_eq hr]
theorem refW_yes {x : Ent} {l ys : List Ent} {d : Bool} (h : ys ++ (if d then [] else [x]) = refWith x false l ∧ ys.length ≤ 2000000000) (hr : Rise l) (h0 : (!d) = true) : (A.d (D.slice (true && (eR ys ++ [dEnt x]).isEmpty) 10 (eR ys ++ [dEnt x])), ([] : List Ob)) = (A.d (D.slice false 10 (eR (insE l x))), []) := by
  have e := refW_end h.1 hr
  have hd : d = false := by simpa using h0
  rw [hd] at e
  simp only [Bool.false_eq_true, if_false] at e
  rw [e]
  cases ys <;> simp [eR]
theorem refW_no {x : Ent} {l ys : List Ent} {d : Bool} (h : ys ++ (if d then [] else [x]) = refWith x false l ∧ ys.length ≤ 2000000000) (hr : Rise l) (h0 : (!d) = false) : (A.d (D.slice (true && (eR ys).isEmpty) 10 (eR ys)), ([] : List Ob)) = (A.d (D.slice false 10 (eR (insE l x))), []) := by
  have e := refW_end h.1 hr
  have hd : d = true := by simpa using h0
  rw [hd] at e
  simp only [if_true, List.append_nil] at e
  have := insE_ne l x
  rw [e] at this ⊢
  rw [this]
  rfl
theorem c_ref12_With {w0 : World} (n : Bool) (l : List Ent) (x : Ent) (hr : Rise l) (hz : l.length ≤ 1000000000) : AEv Tryd.prog w0 28 [.d (.slice n 10 (eR l)), .agg (eEnt x)] [] (.d (.slice false 10 (eR (insE l x)))) [] := by
  refine aev_of_run hmix Tryd.func28 [] 1 ?_
  refine Go.Ab.wp_fn (.stop) (by kernel_rfl) (Go.Ab.vc_stop ?s0)
  case s0 =>
    refine Go.Ab.wp_loop (by kernel_rfl) (by kernel_rfl) (Go.Ab.acode_tidy (W := l_refW_W) (by kernel_rfl) (by kernel_rfl) (l_refW n l x (by first | assumption | exact rfl))) ?_
    rintro e s' (⟨d, ys, k, j3, rfl, rfl⟩)
    · skip
      refine Go.Ab.wp_fn (.q (!d) (.chk (decide ((List.map dEnt ys).length + 1 ≤ 68719476736)) (.ret (A.d (D.slice (true && (List.map dEnt ys ++ [[D.int IntKind.i64 x.index, D.int IntKind.i64 x.round, D.int IntKind.i64 x.node, D.int IntKind.i64 x.cmd.kind, D.int IntKind.i64 x.cmd.client, D.int IntKind.i64 x.cmd.seq, D.str x.cmd.key, D.str x.cmd.val, D.str x.cmd.old, D.int IntKind.i64 x.cmd.node]]).isEmpty) 10 (List.map dEnt ys ++ [[D.int IntKind.i64 x.index, D.int IntKind.i64 x.round, D.int IntKind.i64 x.node, D.int IntKind.i64 x.cmd.kind, D.int IntKind.i64 x.cmd.client, D.int IntKind.i64 x.cmd.seq, D.str x.cmd.key, D.str x.cmd.val, D.str x.cmd.old, D.int IntKind.i64 x.cmd.node]])), []))) (.ret (A.d (D.slice (true && (List.map dEnt ys).isEmpty) 10 (List.map dEnt ys)), []))) (by kernel_rfl) (Go.Ab.vc_q (fun h0 => Go.Ab.vc_chk (by simp; omega) (Go.Ab.vc_ret ?_)) (fun h0 => Go.Ab.vc_ret ?_))
      all_goals (first | exact refW_yes j3 hr h0 | exact refW_no j3 hr h0)
theorem c_ref12_Between {w0 : World} (n : Bool) (l : List Ent) (a b : Int) (hz : l.length ≤ 1000000000) : AEv Tryd.prog w0 30 [.d (.slice n 10 (eR l)), .d (.int .i64 a), .d (.int .i64 b)] [] (.d (.slice (betw a b l).isEmpty 10 (eR (betw a b l)))) [] := by
  refine aev_of_run hmix Tryd.func30 [] 1 ?_
  refine Go.Ab.wp_fn (.stop) (by kernel_rfl) (Go.Ab.vc_stop ?s0)
  case s0 =>
    refine Go.Ab.wp_loop (by kernel_rfl) (by kernel_rfl) (Go.Ab.acode_tidy (W := l_refBt_W) (by kernel_rfl) (by kernel_rfl) (l_refBt n l a b (by first | assumption | exact rfl))) ?_
    rintro e s' (⟨ys, k, j2, rfl, rfl⟩)
    · skip
      refine Go.Ab.wp_fn (.ret (A.d (D.slice (true && (List.map dEnt ys).isEmpty) 10 (List.map dEnt ys)), [])) (by kernel_rfl) (Go.Ab.vc_ret ?_)
      all_goals ((rw [← j2]; cases ys <;> rfl))
abbrev nopC : Cmd := ⟨1, 0, 0, .empty, .empty, .empty, 0⟩
abbrev eNop (i : Int) : List D := [.int .i64 i, .int .i64 0, .int .i64 0, .int .i64 1, .int .i64 0, .int .i64 0, .str .empty, .str .empty, .str .empty, .int .i64 0]
theorem c_With_awake {w0 : World} : AEv Tryd.prog w0 26 [.d (.slice false 10 [eNop 1, eNop 4]), .agg ((eNop 3).map .d)] [] (.d (.slice false 10 [eNop 1, eNop 3, eNop 4])) [] := by
  have h := c_entry_With (w0 := w0) false [⟨1, 0, 0, nopC⟩, ⟨4, 0, 0, nopC⟩] ⟨3, 0, 0, nopC⟩ (fun h => by cases h) ((riseB_iff _).1 rfl) (by simp)
  have e : insE [⟨1, 0, 0, nopC⟩, ⟨4, 0, 0, nopC⟩] ⟨3, 0, 0, nopC⟩ = [⟨1, 0, 0, nopC⟩, ⟨3, 0, 0, nopC⟩, ⟨4, 0, 0, nopC⟩] := by simp [insE_cons, insE_nil]
  rw [e] at h
  exact h
theorem c_Check_awake {w0 : World} (hL : Laid w0) : AEv Tryd.prog w0 32 [.d (.slice false 10 [eNop 1, eNop 3, eNop 4])] [] (.d (.int .i64 0)) [] := by
  have h := c_entry_Check (w0 := w0) hL false [⟨1, 0, 0, nopC⟩, ⟨3, 0, 0, nopC⟩, ⟨4, 0, 0, nopC⟩] (by simp)
  have e : chkE [⟨1, 0, 0, nopC⟩, ⟨3, 0, 0, nopC⟩, ⟨4, 0, 0, nopC⟩] = 0 := by decide +kernel
  rw [e] at h
  exact h
theorem c_law12_awake {w0 : World} (hL : Laid w0) : AEv Tryd.prog w0 23 [] [] (.d (.bool true)) [] := by
  refine aev_of_run hmix Tryd.func23 [] 1 ?_
  refine Go.Ab.wp_fn (.call 26 [A.d (D.slice false 10 [[D.int IntKind.i64 1, D.int IntKind.i64 0, D.int IntKind.i64 0, D.int IntKind.i64 1, D.int IntKind.i64 0, D.int IntKind.i64 0, D.str { data := #[] }, D.str { data := #[] }, D.str { data := #[] }, D.int IntKind.i64 0], [D.int IntKind.i64 4, D.int IntKind.i64 0, D.int IntKind.i64 0, D.int IntKind.i64 1, D.int IntKind.i64 0, D.int IntKind.i64 0, D.str { data := #[] }, D.str { data := #[] }, D.str { data := #[] }, D.int IntKind.i64 0]]), A.agg [A.d (D.int IntKind.i64 3), A.d (D.int IntKind.i64 0), A.d (D.int IntKind.i64 0), A.d (D.int IntKind.i64 1), A.d (D.int IntKind.i64 0), A.d (D.int IntKind.i64 0), A.d (D.str { data := #[] }), A.d (D.str { data := #[] }), A.d (D.str { data := #[] }), A.d (D.int IntKind.i64 0)]] [] (A.d (D.slice false 10 [eNop 1, eNop 3, eNop 4])) [] (.qs [true, true] (.opt (some [D.int IntKind.i64 3, D.int IntKind.i64 0, D.int IntKind.i64 0, D.int IntKind.i64 1, D.int IntKind.i64 0, D.int IntKind.i64 0, D.str ByteArray.empty, D.str ByteArray.empty, D.str ByteArray.empty, D.int IntKind.i64 0]) ([D.int IntKind.i64 3, D.int IntKind.i64 0, D.int IntKind.i64 0, D.int IntKind.i64 1, D.int IntKind.i64 0, D.int IntKind.i64 0, D.str ByteArray.empty, D.str ByteArray.empty, D.str ByteArray.empty, D.int IntKind.i64 0]) (.qs [true, true, true, true, true] (.call 32 [A.d (D.slice false 10 [[D.int IntKind.i64 1, D.int IntKind.i64 0, D.int IntKind.i64 0, D.int IntKind.i64 1, D.int IntKind.i64 0, D.int IntKind.i64 0, D.str ByteArray.empty, D.str ByteArray.empty, D.str ByteArray.empty, D.int IntKind.i64 0], [D.int IntKind.i64 3, D.int IntKind.i64 0, D.int IntKind.i64 0, D.int IntKind.i64 1, D.int IntKind.i64 0, D.int IntKind.i64 0, D.str ByteArray.empty, D.str ByteArray.empty, D.str ByteArray.empty, D.int IntKind.i64 0], [D.int IntKind.i64 4, D.int IntKind.i64 0, D.int IntKind.i64 0, D.int IntKind.i64 1, D.int IntKind.i64 0, D.int IntKind.i64 0, D.str ByteArray.empty, D.str ByteArray.empty, D.str ByteArray.empty, D.int IntKind.i64 0]])] [] (A.d (D.int IntKind.i64 0)) [] (.qs [true] (.ret (A.d (D.bool true), [])))))))) (by kernel_rfl) (Go.Ab.vc_call (c_With_awake) (Go.Ab.vc_qs (Go.Ab.vc_opt (rfl) (Go.Ab.vc_qs (Go.Ab.vc_call (c_Check_awake (by first | assumption | exact rfl)) (Go.Ab.vc_qs (Go.Ab.vc_ret ?_)))))))
  all_goals (rfl)
end Go.Proofs.Tryd
set_option maxRecDepth 100000
set_option maxHeartbeats 4000000
set_option linter.unusedVariables false
set_option linter.unusedSimpArgs false
namespace Go.Proofs.Tryd
open Go Go.Ab Go.Pl Go.RowKit Go.Proofs.YtmecehpkjffanaaDoor
attribute [local irreducible] Go.Ab.wp Go.Ab.vc Go.Ab.run Go.Ab.runFn Go.Ab.body1 Go.Ab.Tr.qt Go.Ab.Tr.qf Go.Ab.AEv
theorem large_len {l : List Ent} (h : largeE l = false) : l.length ≤ 40 := by
  unfold largeE at h
  have := (Bool.or_eq_false_iff.1 h).2
  have := of_decide_eq_false this
  omega
theorem large_short {l : List Ent} (h : largeE l = false) : ∀ z : Nat, z < l.length → (at_ l (z : Int)).cmd.short := by
  intro z hz
  have hl := large_len h
  unfold largeE at h
  have h1 := (Bool.or_eq_false_iff.1 h).1
  rw [List.take_of_length_le hl] at h1
  have h2 := List.any_eq_false.1 h1 (at_ l (z : Int)) (by rw [at_nat _ _ hz]; exact List.getElem_mem _)
  simp only [bigE, Bool.not_eq_true, Bool.or_eq_false_iff, decide_eq_false_iff_not] at h2
  exact ⟨by omega, by omega, by omega⟩
theorem c_Large1 {w0 : World} (e : Ent) : AEv Tryd.prog w0 21 [.d (.slice false 10 [dEnt e])] [] (.d (.bool (largeE [e]))) [] := c_ref12_Large false [e]
theorem find_pos {l : List Ent} {t : Int} (hr : Rise l) (h : refFind l t ≥ 0) : isAt l t = true ∧ refFind l t = ((lb l t : Nat) : Int) ∧ findE l t = at_ l (refFind l t) := by
  rw [refFind_eq hr] at h ⊢
  cases hh : isAt l t with
  | true => exact ⟨rfl, by simp, by simp [findE, hh]⟩
  | false => rw [hh] at h; simp at h
theorem find_neg {l : List Ent} {t : Int} (hr : Rise l) (h : ¬ refFind l t ≥ 0) : isAt l t = false ∧ findE l t = zeroEnt := by
  rw [refFind_eq hr] at h
  cases hh : isAt l t with
  | true => rw [hh] at h; simp at h
  | false => exact ⟨rfl, find_no hh⟩
theorem find_opt {l : List Ent} {t : Int} (hr : Rise l) (h : decide (refFind l t ≥ 0) = true) : getC 10 (eR l) (refFind l t) = some (dEnt (at_ l (refFind l t))) := by
  obtain ⟨a, b, c⟩ := find_pos hr (of_decide_eq_true h)
  have := isAt_lt a
  rw [b]
  exact getC_at (fun _ => rfl) (by omega) (by omega)
theorem find_is {l : List Ent} {t : Int} (hr : Rise l) : (isAt l t == decide (refFind l t ≥ 0)) = true := by
  by_cases h : refFind l t ≥ 0
  · rw [(find_pos hr h).1, decide_eq_true h]; rfl
  · rw [(find_neg hr h).1, decide_eq_false h]; rfl
def I64 (l : List Ent) : Prop := ∀ y ∈ l, -9223372036854775808 ≤ y.index ∧ y.index ≤ 9223372036854775807
theorem c_law12_EntryChecks {w0 : World} (hL : Laid w0) (v : Int) (n : Bool) (l : List Ent) : AEv Tryd.prog w0 5 [.d (.int .i64 v), .d (.slice n 10 (eR l))] [] (.d (.bool true)) [] := by
  refine aev_of_run hmix Tryd.func5 [] 1 ?_
  refine Go.Ab.wp_fn (.call 21 [A.d (D.slice n 10 (List.map dEnt l))] [] (A.d (D.bool (largeE l))) [] (.q (largeE l) (.call 23 [] [] (A.d (D.bool true)) [] (.ret (A.d (D.bool true), []))) (.call 32 [A.d (D.slice n 10 (List.map dEnt l))] [] (A.d (D.int IntKind.i64 (chkE l))) [] (.call 33 [A.d (D.slice n 10 (List.map dEnt l))] [] (A.d (D.int IntKind.i64 (chkE l))) [] (.q (chkE l == chkE l) (.qs [true, true] (.call 34 [A.d (D.int IntKind.i64 v), A.d (D.slice n 10 (List.map dEnt l))] [] (A.d (D.bool (hasAll v l))) [] (.qs [true, true, true] (.call 35 [A.d (D.int IntKind.i64 v), A.d (D.slice n 10 (List.map dEnt l))] [] (A.d (D.bool (hasAll v l))) [] (.qs [true] (.q (hasAll v l == hasAll v l) (.call 23 [] [] (A.d (D.bool true)) [] (.ret (A.d (D.bool true), []))) (.ret (A.d (D.bool false), [])))))))) (.qs [false, false, false, false, false, false, false] (.ret (A.d (D.bool false), [])))))))) (by kernel_rfl) (Go.Ab.vc_call (c_ref12_Large n l) (Go.Ab.vc_q (fun h0 => Go.Ab.vc_call (c_law12_awake (by first | assumption | (have q := large_len ‹_›; omega) | exact large_short ‹_›)) (Go.Ab.vc_ret ?_)) (fun h0 => Go.Ab.vc_call (c_entry_Check (by first | assumption | (have q := large_len ‹_›; omega) | exact large_short ‹_›) n l (by first | assumption | (have q := large_len ‹_›; omega) | exact large_short ‹_›)) (Go.Ab.vc_call (c_ref12_Check n l (by first | assumption | (have q := large_len ‹_›; omega) | exact large_short ‹_›) (by first | assumption | (have q := large_len ‹_›; omega) | exact large_short ‹_›)) (Go.Ab.vc_q (fun h1 => Go.Ab.vc_qs (Go.Ab.vc_call (c_entry_Has n l v (by first | assumption | (have q := large_len ‹_›; omega) | exact large_short ‹_›)) (Go.Ab.vc_qs (Go.Ab.vc_call (c_ref12_Has n l v (by first | assumption | (have q := large_len ‹_›; omega) | exact large_short ‹_›)) (Go.Ab.vc_qs (Go.Ab.vc_q (fun h2 => Go.Ab.vc_call (c_law12_awake (by first | assumption | (have q := large_len ‹_›; omega) | exact large_short ‹_›)) (Go.Ab.vc_ret ?_)) (fun h2 => Go.Ab.vc_ret ?_))))))) (fun h1 => Go.Ab.vc_qs (Go.Ab.vc_ret ?_)))))))
  all_goals (first | rfl | (simp_all; done))
theorem c_law12_EntryLists {w0 : World} (hL : Laid w0) (n : Bool) (l : List Ent) (e : Ent) (t : Int) (hn : n = true → l = []) (hI : I64 l) : AEv Tryd.prog w0 4 [.d (.slice n 10 (eR l)), .agg (eEnt e), .d (.int .i64 t)] [] (.d (.bool true)) [] := by
  refine aev_of_run hmix Tryd.func4 [] 1 ?_
  refine Go.Ab.wp_fn (.call 21 [A.d (D.slice n 10 (List.map dEnt l))] [] (A.d (D.bool (largeE l))) [] (.q (largeE l) (.qs [true, true, true, true, true, true] (.call 23 [] [] (A.d (D.bool true)) [] (.ret (A.d (D.bool true), [])))) (.qs [false, false] (.call 21 [A.d (D.slice false 10 [[D.int IntKind.i64 e.index, D.int IntKind.i64 e.round, D.int IntKind.i64 e.node, D.int IntKind.i64 e.cmd.kind, D.int IntKind.i64 e.cmd.client, D.int IntKind.i64 e.cmd.seq, D.str e.cmd.key, D.str e.cmd.val, D.str e.cmd.old, D.int IntKind.i64 e.cmd.node]])] [] (A.d (D.bool (largeE [e]))) [] (.q (largeE [e]) (.qs [true, true, true] (.call 23 [] [] (A.d (D.bool true)) [] (.ret (A.d (D.bool true), [])))) (.qs [false] (.call 22 [A.d (D.slice n 10 (List.map dEnt l))] [] (A.d (D.bool (riseB l))) [] (.qs [false] (.q (!riseB l) (.call 23 [] [] (A.d (D.bool true)) [] (.ret (A.d (D.bool true), []))) (.call 24 [A.d (D.slice n 10 (List.map dEnt l)), A.d (D.int IntKind.i64 t)] [] (A.tup [A.agg (eEnt (findE l t)), A.d (D.bool (isAt l t))]) [] (.call 25 [A.d (D.slice n 10 (List.map dEnt l)), A.d (D.int IntKind.i64 t)] [] (A.d (D.int IntKind.i64 (refFind l t))) [] (.q (decide (refFind l t ≥ 0)) (.opt (getC 10 (List.map dEnt l) (refFind l t)) (dEnt (at_ l (refFind l t))) (.call 26 [A.d (D.slice n 10 (List.map dEnt l)), A.agg [A.d (D.int IntKind.i64 e.index), A.d (D.int IntKind.i64 e.round), A.d (D.int IntKind.i64 e.node), A.d (D.int IntKind.i64 e.cmd.kind), A.d (D.int IntKind.i64 e.cmd.client), A.d (D.int IntKind.i64 e.cmd.seq), A.d (D.str e.cmd.key), A.d (D.str e.cmd.val), A.d (D.str e.cmd.old), A.d (D.int IntKind.i64 e.cmd.node)]] [] (A.d (D.slice false 10 (eR (insE l e)))) [] (.call 24 [A.d (D.slice false 10 (List.map dEnt (insE l e))), A.d (D.int IntKind.i64 e.index)] [] (A.tup [A.agg (eEnt (findE (insE l e) e.index)), A.d (D.bool (isAt (insE l e) e.index))]) [] (.q ((findE l t).index == (at_ l (refFind l t)).index && ((findE l t).round == (at_ l (refFind l t)).round && ((findE l t).node == (at_ l (refFind l t)).node && true) && ((findE l t).cmd.kind == (at_ l (refFind l t)).cmd.kind && ((findE l t).cmd.client == (at_ l (refFind l t)).cmd.client && ((findE l t).cmd.seq == (at_ l (refFind l t)).cmd.seq && ((findE l t).cmd.key.toList == (at_ l (refFind l t)).cmd.key.toList && ((findE l t).cmd.val.toList == (at_ l (refFind l t)).cmd.val.toList && ((findE l t).cmd.old.toList == (at_ l (refFind l t)).cmd.old.toList && ((findE l t).cmd.node == (at_ l (refFind l t)).cmd.node && true)))))) && true))) (.qs [true, true, true] (.q (isAt l t == decide (refFind l t ≥ 0)) (.qs [true, true, true] (.call 28 [A.d (D.slice n 10 (List.map dEnt l)), A.agg [A.d (D.int IntKind.i64 e.index), A.d (D.int IntKind.i64 e.round), A.d (D.int IntKind.i64 e.node), A.d (D.int IntKind.i64 e.cmd.kind), A.d (D.int IntKind.i64 e.cmd.client), A.d (D.int IntKind.i64 e.cmd.seq), A.d (D.str e.cmd.key), A.d (D.str e.cmd.val), A.d (D.str e.cmd.old), A.d (D.int IntKind.i64 e.cmd.node)]] [] (A.d (D.slice false 10 (eR (insE l e)))) [] (.qs [true] (.call 27 [A.d (D.slice false 10 (List.map dEnt (insE l e))), A.d (D.slice false 10 (List.map dEnt (insE l e)))] [] (A.d (D.bool (decide (insE l e = insE l e)))) [] (.q (decide (insE l e = insE l e)) (.qs [true, true] (.q ((findE (insE l e) e.index).index == e.index && ((findE (insE l e) e.index).round == e.round && ((findE (insE l e) e.index).node == e.node && true) && ((findE (insE l e) e.index).cmd.kind == e.cmd.kind && ((findE (insE l e) e.index).cmd.client == e.cmd.client && ((findE (insE l e) e.index).cmd.seq == e.cmd.seq && ((findE (insE l e) e.index).cmd.key.toList == e.cmd.key.toList && ((findE (insE l e) e.index).cmd.val.toList == e.cmd.val.toList && ((findE (insE l e) e.index).cmd.old.toList == e.cmd.old.toList && ((findE (insE l e) e.index).cmd.node == e.cmd.node && true)))))) && true))) (.q (isAt (insE l e) e.index) (.qs [true, true] (.call 29 [A.d (D.slice n 10 (List.map dEnt l)), A.d (D.int IntKind.i64 t)] [] (A.d (D.slice n 10 (eR (fromE l t)))) [] (.qs [true, true, true] (.call 30 [A.d (D.slice n 10 (List.map dEnt l)), A.d (D.int IntKind.i64 t), A.d (D.int IntKind.i64 9223372036854775807)] [] (A.d (D.slice (betw t 9223372036854775807 l).isEmpty 10 (eR (betw t 9223372036854775807 l)))) [] (.qs [true] (.call 27 [A.d (D.slice n 10 (List.map dEnt (fromE l t))), A.d (D.slice (betw t 9223372036854775807 l).isEmpty 10 (List.map dEnt (betw t 9223372036854775807 l)))] [] (A.d (D.bool (decide (fromE l t = betw t 9223372036854775807 l)))) [] (.q (decide (fromE l t = betw t 9223372036854775807 l)) (.qs [true, true] (.call 31 [A.d (D.slice n 10 (List.map dEnt l)), A.d (D.int IntKind.i64 t)] [] (A.d (D.slice n 10 (eR (untilE l t)))) [] (.qs [true, true, true] (.call 30 [A.d (D.slice n 10 (List.map dEnt l)), A.d (D.int IntKind.i64 (-9223372036854775808)), A.d (D.int IntKind.i64 t)] [] (A.d (D.slice (betw (-9223372036854775808) t l).isEmpty 10 (eR (betw (-9223372036854775808) t l)))) [] (.qs [true] (.call 27 [A.d (D.slice n 10 (List.map dEnt (untilE l t))), A.d (D.slice (betw (-9223372036854775808) t l).isEmpty 10 (List.map dEnt (betw (-9223372036854775808) t l)))] [] (A.d (D.bool (decide (untilE l t = betw (-9223372036854775808) t l)))) [] (.q (decide (untilE l t = betw (-9223372036854775808) t l)) (.call 23 [] [] (A.d (D.bool true)) [] (.ret (A.d (D.bool true), []))) (.ret (A.d (D.bool false), []))))))))) (.qs [false, false, false, false, false, false, false] (.ret (A.d (D.bool false), [])))))))))) (.qs [false, false, false, false, false, false, false, false, false, false, false, false, false, false] (.ret (A.d (D.bool false), [])))) (.qs [false, false, false, false, false, false, false, false, false, false, false, false, false, false, false] (.ret (A.d (D.bool false), []))))) (.qs [false, false, false, false, false, false, false, false, false, false, false, false, false, false, false, false, false, false] (.ret (A.d (D.bool false), [])))))))) (.qs [false, false, false, false, false, false, false, false, false, false, false, false, false, false, false, false, false, false, false, false, false, false, false] (.ret (A.d (D.bool false), []))))) (.qs [false, false, false, false, false, false, false, false, false, false, false, false, false, false, false, false, false, false, false, false, false, false, false, false, false, false, false] (.ret (A.d (D.bool false), []))))))) (.call 26 [A.d (D.slice n 10 (List.map dEnt l)), A.agg [A.d (D.int IntKind.i64 e.index), A.d (D.int IntKind.i64 e.round), A.d (D.int IntKind.i64 e.node), A.d (D.int IntKind.i64 e.cmd.kind), A.d (D.int IntKind.i64 e.cmd.client), A.d (D.int IntKind.i64 e.cmd.seq), A.d (D.str e.cmd.key), A.d (D.str e.cmd.val), A.d (D.str e.cmd.old), A.d (D.int IntKind.i64 e.cmd.node)]] [] (A.d (D.slice false 10 (eR (insE l e)))) [] (.call 24 [A.d (D.slice false 10 (List.map dEnt (insE l e))), A.d (D.int IntKind.i64 e.index)] [] (A.tup [A.agg (eEnt (findE (insE l e) e.index)), A.d (D.bool (isAt (insE l e) e.index))]) [] (.q ((findE l t).index == 0 && ((findE l t).round == 0 && ((findE l t).node == 0 && true) && ((findE l t).cmd.kind == 0 && ((findE l t).cmd.client == 0 && ((findE l t).cmd.seq == 0 && ((findE l t).cmd.key.toList == [] && ((findE l t).cmd.val.toList == [] && ((findE l t).cmd.old.toList == [] && ((findE l t).cmd.node == 0 && true)))))) && true))) (.qs [true, true, true] (.q (isAt l t == decide (refFind l t ≥ 0)) (.qs [true, true, true] (.call 28 [A.d (D.slice n 10 (List.map dEnt l)), A.agg [A.d (D.int IntKind.i64 e.index), A.d (D.int IntKind.i64 e.round), A.d (D.int IntKind.i64 e.node), A.d (D.int IntKind.i64 e.cmd.kind), A.d (D.int IntKind.i64 e.cmd.client), A.d (D.int IntKind.i64 e.cmd.seq), A.d (D.str e.cmd.key), A.d (D.str e.cmd.val), A.d (D.str e.cmd.old), A.d (D.int IntKind.i64 e.cmd.node)]] [] (A.d (D.slice false 10 (eR (insE l e)))) [] (.qs [true] (.call 27 [A.d (D.slice false 10 (List.map dEnt (insE l e))), A.d (D.slice false 10 (List.map dEnt (insE l e)))] [] (A.d (D.bool (decide (insE l e = insE l e)))) [] (.q (decide (insE l e = insE l e)) (.qs [true, true] (.q ((findE (insE l e) e.index).index == e.index && ((findE (insE l e) e.index).round == e.round && ((findE (insE l e) e.index).node == e.node && true) && ((findE (insE l e) e.index).cmd.kind == e.cmd.kind && ((findE (insE l e) e.index).cmd.client == e.cmd.client && ((findE (insE l e) e.index).cmd.seq == e.cmd.seq && ((findE (insE l e) e.index).cmd.key.toList == e.cmd.key.toList && ((findE (insE l e) e.index).cmd.val.toList == e.cmd.val.toList && ((findE (insE l e) e.index).cmd.old.toList == e.cmd.old.toList && ((findE (insE l e) e.index).cmd.node == e.cmd.node && true)))))) && true))) (.q (isAt (insE l e) e.index) (.qs [true, true] (.call 29 [A.d (D.slice n 10 (List.map dEnt l)), A.d (D.int IntKind.i64 t)] [] (A.d (D.slice n 10 (eR (fromE l t)))) [] (.qs [true, true, true] (.call 30 [A.d (D.slice n 10 (List.map dEnt l)), A.d (D.int IntKind.i64 t), A.d (D.int IntKind.i64 9223372036854775807)] [] (A.d (D.slice (betw t 9223372036854775807 l).isEmpty 10 (eR (betw t 9223372036854775807 l)))) [] (.qs [true] (.call 27 [A.d (D.slice n 10 (List.map dEnt (fromE l t))), A.d (D.slice (betw t 9223372036854775807 l).isEmpty 10 (List.map dEnt (betw t 9223372036854775807 l)))] [] (A.d (D.bool (decide (fromE l t = betw t 9223372036854775807 l)))) [] (.q (decide (fromE l t = betw t 9223372036854775807 l)) (.qs [true, true] (.call 31 [A.d (D.slice n 10 (List.map dEnt l)), A.d (D.int IntKind.i64 t)] [] (A.d (D.slice n 10 (eR (untilE l t)))) [] (.qs [true, true, true] (.call 30 [A.d (D.slice n 10 (List.map dEnt l)), A.d (D.int IntKind.i64 (-9223372036854775808)), A.d (D.int IntKind.i64 t)] [] (A.d (D.slice (betw (-9223372036854775808) t l).isEmpty 10 (eR (betw (-9223372036854775808) t l)))) [] (.qs [true] (.call 27 [A.d (D.slice n 10 (List.map dEnt (untilE l t))), A.d (D.slice (betw (-9223372036854775808) t l).isEmpty 10 (List.map dEnt (betw (-9223372036854775808) t l)))] [] (A.d (D.bool (decide (untilE l t = betw (-9223372036854775808) t l)))) [] (.q (decide (untilE l t = betw (-9223372036854775808) t l)) (.call 23 [] [] (A.d (D.bool true)) [] (.ret (A.d (D.bool true), []))) (.ret (A.d (D.bool false), []))))))))) (.qs [false, false, false, false, false, false, false] (.ret (A.d (D.bool false), [])))))))))) (.qs [false, false, false, false, false, false, false, false, false, false, false, false, false, false] (.ret (A.d (D.bool false), [])))) (.qs [false, false, false, false, false, false, false, false, false, false, false, false, false, false, false] (.ret (A.d (D.bool false), []))))) (.qs [false, false, false, false, false, false, false, false, false, false, false, false, false, false, false, false, false, false] (.ret (A.d (D.bool false), [])))))))) (.qs [false, false, false, false, false, false, false, false, false, false, false, false, false, false, false, false, false, false, false, false, false, false, false] (.ret (A.d (D.bool false), []))))) (.qs [false, false, false, false, false, false, false, false, false, false, false, false, false, false, false, false, false, false, false, false, false, false, false, false, false, false, false] (.ret (A.d (D.bool false), [])))))))))))))))))) (by kernel_rfl) (Go.Ab.vc_call (c_ref12_Large n l) (Go.Ab.vc_q (fun h0 => Go.Ab.vc_qs (Go.Ab.vc_call (c_law12_awake (by first | assumption | (have q := large_len ‹largeE l = false›; omega) | exact (riseB_iff _).1 (by simpa using ‹(!riseB l) = false›) | exact rise_insE ((riseB_iff _).1 (by simpa using ‹(!riseB l) = false›)) | (have q := large_len ‹largeE l = false›; have := len_insE e l; omega) | (have q := large_len ‹largeE l = false›; unfold fromE; rw [List.length_drop]; omega) | (have q := large_len ‹largeE l = false›; unfold untilE; rw [List.length_take]; omega))) (Go.Ab.vc_ret ?_))) (fun h0 => Go.Ab.vc_qs (Go.Ab.vc_call (c_Large1 e) (Go.Ab.vc_q (fun h1 => Go.Ab.vc_qs (Go.Ab.vc_call (c_law12_awake (by first | assumption | (have q := large_len ‹largeE l = false›; omega) | exact (riseB_iff _).1 (by simpa using ‹(!riseB l) = false›) | exact rise_insE ((riseB_iff _).1 (by simpa using ‹(!riseB l) = false›)) | (have q := large_len ‹largeE l = false›; have := len_insE e l; omega) | (have q := large_len ‹largeE l = false›; unfold fromE; rw [List.length_drop]; omega) | (have q := large_len ‹largeE l = false›; unfold untilE; rw [List.length_take]; omega))) (Go.Ab.vc_ret ?_))) (fun h1 => Go.Ab.vc_qs (Go.Ab.vc_call (c_ref12_Rise n l (by first | assumption | (have q := large_len ‹largeE l = false›; omega) | exact (riseB_iff _).1 (by simpa using ‹(!riseB l) = false›) | exact rise_insE ((riseB_iff _).1 (by simpa using ‹(!riseB l) = false›)) | (have q := large_len ‹largeE l = false›; have := len_insE e l; omega) | (have q := large_len ‹largeE l = false›; unfold fromE; rw [List.length_drop]; omega) | (have q := large_len ‹largeE l = false›; unfold untilE; rw [List.length_take]; omega))) (Go.Ab.vc_qs (Go.Ab.vc_q (fun h2 => Go.Ab.vc_call (c_law12_awake (by first | assumption | (have q := large_len ‹largeE l = false›; omega) | exact (riseB_iff _).1 (by simpa using ‹(!riseB l) = false›) | exact rise_insE ((riseB_iff _).1 (by simpa using ‹(!riseB l) = false›)) | (have q := large_len ‹largeE l = false›; have := len_insE e l; omega) | (have q := large_len ‹largeE l = false›; unfold fromE; rw [List.length_drop]; omega) | (have q := large_len ‹largeE l = false›; unfold untilE; rw [List.length_take]; omega))) (Go.Ab.vc_ret ?_)) (fun h2 => Go.Ab.vc_call (c_entry_Find n l t (by first | assumption | (have q := large_len ‹largeE l = false›; omega) | exact (riseB_iff _).1 (by simpa using ‹(!riseB l) = false›) | exact rise_insE ((riseB_iff _).1 (by simpa using ‹(!riseB l) = false›)) | (have q := large_len ‹largeE l = false›; have := len_insE e l; omega) | (have q := large_len ‹largeE l = false›; unfold fromE; rw [List.length_drop]; omega) | (have q := large_len ‹largeE l = false›; unfold untilE; rw [List.length_take]; omega)) (by first | assumption | (have q := large_len ‹largeE l = false›; omega) | exact (riseB_iff _).1 (by simpa using ‹(!riseB l) = false›) | exact rise_insE ((riseB_iff _).1 (by simpa using ‹(!riseB l) = false›)) | (have q := large_len ‹largeE l = false›; have := len_insE e l; omega) | (have q := large_len ‹largeE l = false›; unfold fromE; rw [List.length_drop]; omega) | (have q := large_len ‹largeE l = false›; unfold untilE; rw [List.length_take]; omega))) (Go.Ab.vc_call (c_ref12_Find n l t (by first | assumption | (have q := large_len ‹largeE l = false›; omega) | exact (riseB_iff _).1 (by simpa using ‹(!riseB l) = false›) | exact rise_insE ((riseB_iff _).1 (by simpa using ‹(!riseB l) = false›)) | (have q := large_len ‹largeE l = false›; have := len_insE e l; omega) | (have q := large_len ‹largeE l = false›; unfold fromE; rw [List.length_drop]; omega) | (have q := large_len ‹largeE l = false›; unfold untilE; rw [List.length_take]; omega))) (Go.Ab.vc_q (fun h3 => Go.Ab.vc_opt (by exact find_opt ((riseB_iff _).1 (by simpa using ‹(!riseB l) = false›)) ‹_›) (Go.Ab.vc_call (c_entry_With n l e (by first | assumption | (have q := large_len ‹largeE l = false›; omega) | exact (riseB_iff _).1 (by simpa using ‹(!riseB l) = false›) | exact rise_insE ((riseB_iff _).1 (by simpa using ‹(!riseB l) = false›)) | (have q := large_len ‹largeE l = false›; have := len_insE e l; omega) | (have q := large_len ‹largeE l = false›; unfold fromE; rw [List.length_drop]; omega) | (have q := large_len ‹largeE l = false›; unfold untilE; rw [List.length_take]; omega)) (by first | assumption | (have q := large_len ‹largeE l = false›; omega) | exact (riseB_iff _).1 (by simpa using ‹(!riseB l) = false›) | exact rise_insE ((riseB_iff _).1 (by simpa using ‹(!riseB l) = false›)) | (have q := large_len ‹largeE l = false›; have := len_insE e l; omega) | (have q := large_len ‹largeE l = false›; unfold fromE; rw [List.length_drop]; omega) | (have q := large_len ‹largeE l = false›; unfold untilE; rw [List.length_take]; omega)) (by first | assumption | (have q := large_len ‹largeE l = false›; omega) | exact (riseB_iff _).1 (by simpa using ‹(!riseB l) = false›) | exact rise_insE ((riseB_iff _).1 (by simpa using ‹(!riseB l) = false›)) | (have q := large_len ‹largeE l = false›; have := len_insE e l; omega) | (have q := large_len ‹largeE l = false›; unfold fromE; rw [List.length_drop]; omega) | (have q := large_len ‹largeE l = false›; unfold untilE; rw [List.length_take]; omega))) (Go.Ab.vc_call (c_entry_Find false (insE l e) e.index (by first | assumption | (have q := large_len ‹largeE l = false›; omega) | exact (riseB_iff _).1 (by simpa using ‹(!riseB l) = false›) | exact rise_insE ((riseB_iff _).1 (by simpa using ‹(!riseB l) = false›)) | (have q := large_len ‹largeE l = false›; have := len_insE e l; omega) | (have q := large_len ‹largeE l = false›; unfold fromE; rw [List.length_drop]; omega) | (have q := large_len ‹largeE l = false›; unfold untilE; rw [List.length_take]; omega)) (by first | assumption | (have q := large_len ‹largeE l = false›; omega) | exact (riseB_iff _).1 (by simpa using ‹(!riseB l) = false›) | exact rise_insE ((riseB_iff _).1 (by simpa using ‹(!riseB l) = false›)) | (have q := large_len ‹largeE l = false›; have := len_insE e l; omega) | (have q := large_len ‹largeE l = false›; unfold fromE; rw [List.length_drop]; omega) | (have q := large_len ‹largeE l = false›; unfold untilE; rw [List.length_take]; omega))) (Go.Ab.vc_q (fun h4 => Go.Ab.vc_qs (Go.Ab.vc_q (fun h5 => Go.Ab.vc_qs (Go.Ab.vc_call (c_ref12_With n l e (by first | assumption | (have q := large_len ‹largeE l = false›; omega) | exact (riseB_iff _).1 (by simpa using ‹(!riseB l) = false›) | exact rise_insE ((riseB_iff _).1 (by simpa using ‹(!riseB l) = false›)) | (have q := large_len ‹largeE l = false›; have := len_insE e l; omega) | (have q := large_len ‹largeE l = false›; unfold fromE; rw [List.length_drop]; omega) | (have q := large_len ‹largeE l = false›; unfold untilE; rw [List.length_take]; omega)) (by first | assumption | (have q := large_len ‹largeE l = false›; omega) | exact (riseB_iff _).1 (by simpa using ‹(!riseB l) = false›) | exact rise_insE ((riseB_iff _).1 (by simpa using ‹(!riseB l) = false›)) | (have q := large_len ‹largeE l = false›; have := len_insE e l; omega) | (have q := large_len ‹largeE l = false›; unfold fromE; rw [List.length_drop]; omega) | (have q := large_len ‹largeE l = false›; unfold untilE; rw [List.length_take]; omega))) (Go.Ab.vc_qs (Go.Ab.vc_call (c_ref12_Same false false (insE l e) (insE l e) (by first | assumption | (have q := large_len ‹largeE l = false›; omega) | exact (riseB_iff _).1 (by simpa using ‹(!riseB l) = false›) | exact rise_insE ((riseB_iff _).1 (by simpa using ‹(!riseB l) = false›)) | (have q := large_len ‹largeE l = false›; have := len_insE e l; omega) | (have q := large_len ‹largeE l = false›; unfold fromE; rw [List.length_drop]; omega) | (have q := large_len ‹largeE l = false›; unfold untilE; rw [List.length_take]; omega))) (Go.Ab.vc_q (fun h6 => Go.Ab.vc_qs (Go.Ab.vc_q (fun h7 => Go.Ab.vc_q (fun h8 => Go.Ab.vc_qs (Go.Ab.vc_call (c_entry_From n l t (by first | assumption | (have q := large_len ‹largeE l = false›; omega) | exact (riseB_iff _).1 (by simpa using ‹(!riseB l) = false›) | exact rise_insE ((riseB_iff _).1 (by simpa using ‹(!riseB l) = false›)) | (have q := large_len ‹largeE l = false›; have := len_insE e l; omega) | (have q := large_len ‹largeE l = false›; unfold fromE; rw [List.length_drop]; omega) | (have q := large_len ‹largeE l = false›; unfold untilE; rw [List.length_take]; omega)) (by first | assumption | (have q := large_len ‹largeE l = false›; omega) | exact (riseB_iff _).1 (by simpa using ‹(!riseB l) = false›) | exact rise_insE ((riseB_iff _).1 (by simpa using ‹(!riseB l) = false›)) | (have q := large_len ‹largeE l = false›; have := len_insE e l; omega) | (have q := large_len ‹largeE l = false›; unfold fromE; rw [List.length_drop]; omega) | (have q := large_len ‹largeE l = false›; unfold untilE; rw [List.length_take]; omega)) (by first | assumption | (have q := large_len ‹largeE l = false›; omega) | exact (riseB_iff _).1 (by simpa using ‹(!riseB l) = false›) | exact rise_insE ((riseB_iff _).1 (by simpa using ‹(!riseB l) = false›)) | (have q := large_len ‹largeE l = false›; have := len_insE e l; omega) | (have q := large_len ‹largeE l = false›; unfold fromE; rw [List.length_drop]; omega) | (have q := large_len ‹largeE l = false›; unfold untilE; rw [List.length_take]; omega))) (Go.Ab.vc_qs (Go.Ab.vc_call (c_ref12_Between n l t 9223372036854775807 (by first | assumption | (have q := large_len ‹largeE l = false›; omega) | exact (riseB_iff _).1 (by simpa using ‹(!riseB l) = false›) | exact rise_insE ((riseB_iff _).1 (by simpa using ‹(!riseB l) = false›)) | (have q := large_len ‹largeE l = false›; have := len_insE e l; omega) | (have q := large_len ‹largeE l = false›; unfold fromE; rw [List.length_drop]; omega) | (have q := large_len ‹largeE l = false›; unfold untilE; rw [List.length_take]; omega))) (Go.Ab.vc_qs (Go.Ab.vc_call (c_ref12_Same n (betw t 9223372036854775807 l).isEmpty (fromE l t) (betw t 9223372036854775807 l) (by first | assumption | (have q := large_len ‹largeE l = false›; omega) | exact (riseB_iff _).1 (by simpa using ‹(!riseB l) = false›) | exact rise_insE ((riseB_iff _).1 (by simpa using ‹(!riseB l) = false›)) | (have q := large_len ‹largeE l = false›; have := len_insE e l; omega) | (have q := large_len ‹largeE l = false›; unfold fromE; rw [List.length_drop]; omega) | (have q := large_len ‹largeE l = false›; unfold untilE; rw [List.length_take]; omega))) (Go.Ab.vc_q (fun h9 => Go.Ab.vc_qs (Go.Ab.vc_call (c_entry_Until n l t (by first | assumption | (have q := large_len ‹largeE l = false›; omega) | exact (riseB_iff _).1 (by simpa using ‹(!riseB l) = false›) | exact rise_insE ((riseB_iff _).1 (by simpa using ‹(!riseB l) = false›)) | (have q := large_len ‹largeE l = false›; have := len_insE e l; omega) | (have q := large_len ‹largeE l = false›; unfold fromE; rw [List.length_drop]; omega) | (have q := large_len ‹largeE l = false›; unfold untilE; rw [List.length_take]; omega)) (by first | assumption | (have q := large_len ‹largeE l = false›; omega) | exact (riseB_iff _).1 (by simpa using ‹(!riseB l) = false›) | exact rise_insE ((riseB_iff _).1 (by simpa using ‹(!riseB l) = false›)) | (have q := large_len ‹largeE l = false›; have := len_insE e l; omega) | (have q := large_len ‹largeE l = false›; unfold fromE; rw [List.length_drop]; omega) | (have q := large_len ‹largeE l = false›; unfold untilE; rw [List.length_take]; omega)) (by first | assumption | (have q := large_len ‹largeE l = false›; omega) | exact (riseB_iff _).1 (by simpa using ‹(!riseB l) = false›) | exact rise_insE ((riseB_iff _).1 (by simpa using ‹(!riseB l) = false›)) | (have q := large_len ‹largeE l = false›; have := len_insE e l; omega) | (have q := large_len ‹largeE l = false›; unfold fromE; rw [List.length_drop]; omega) | (have q := large_len ‹largeE l = false›; unfold untilE; rw [List.length_take]; omega))) (Go.Ab.vc_qs (Go.Ab.vc_call (c_ref12_Between n l (-9223372036854775808) t (by first | assumption | (have q := large_len ‹largeE l = false›; omega) | exact (riseB_iff _).1 (by simpa using ‹(!riseB l) = false›) | exact rise_insE ((riseB_iff _).1 (by simpa using ‹(!riseB l) = false›)) | (have q := large_len ‹largeE l = false›; have := len_insE e l; omega) | (have q := large_len ‹largeE l = false›; unfold fromE; rw [List.length_drop]; omega) | (have q := large_len ‹largeE l = false›; unfold untilE; rw [List.length_take]; omega))) (Go.Ab.vc_qs (Go.Ab.vc_call (c_ref12_Same n (betw (-9223372036854775808) t l).isEmpty (untilE l t) (betw (-9223372036854775808) t l) (by first | assumption | (have q := large_len ‹largeE l = false›; omega) | exact (riseB_iff _).1 (by simpa using ‹(!riseB l) = false›) | exact rise_insE ((riseB_iff _).1 (by simpa using ‹(!riseB l) = false›)) | (have q := large_len ‹largeE l = false›; have := len_insE e l; omega) | (have q := large_len ‹largeE l = false›; unfold fromE; rw [List.length_drop]; omega) | (have q := large_len ‹largeE l = false›; unfold untilE; rw [List.length_take]; omega))) (Go.Ab.vc_q (fun h10 => Go.Ab.vc_call (c_law12_awake (by first | assumption | (have q := large_len ‹largeE l = false›; omega) | exact (riseB_iff _).1 (by simpa using ‹(!riseB l) = false›) | exact rise_insE ((riseB_iff _).1 (by simpa using ‹(!riseB l) = false›)) | (have q := large_len ‹largeE l = false›; have := len_insE e l; omega) | (have q := large_len ‹largeE l = false›; unfold fromE; rw [List.length_drop]; omega) | (have q := large_len ‹largeE l = false›; unfold untilE; rw [List.length_take]; omega))) (Go.Ab.vc_ret ?_)) (fun h10 => Go.Ab.vc_ret ?_)))))))) (fun h9 => Go.Ab.vc_qs (Go.Ab.vc_ret ?_))))))))) (fun h8 => Go.Ab.vc_qs (Go.Ab.vc_ret ?_))) (fun h7 => Go.Ab.vc_qs (Go.Ab.vc_ret ?_)))) (fun h6 => Go.Ab.vc_qs (Go.Ab.vc_ret ?_))))))) (fun h5 => Go.Ab.vc_qs (Go.Ab.vc_ret ?_)))) (fun h4 => Go.Ab.vc_qs (Go.Ab.vc_ret ?_)))))) (fun h3 => Go.Ab.vc_call (c_entry_With n l e (by first | assumption | (have q := large_len ‹largeE l = false›; omega) | exact (riseB_iff _).1 (by simpa using ‹(!riseB l) = false›) | exact rise_insE ((riseB_iff _).1 (by simpa using ‹(!riseB l) = false›)) | (have q := large_len ‹largeE l = false›; have := len_insE e l; omega) | (have q := large_len ‹largeE l = false›; unfold fromE; rw [List.length_drop]; omega) | (have q := large_len ‹largeE l = false›; unfold untilE; rw [List.length_take]; omega)) (by first | assumption | (have q := large_len ‹largeE l = false›; omega) | exact (riseB_iff _).1 (by simpa using ‹(!riseB l) = false›) | exact rise_insE ((riseB_iff _).1 (by simpa using ‹(!riseB l) = false›)) | (have q := large_len ‹largeE l = false›; have := len_insE e l; omega) | (have q := large_len ‹largeE l = false›; unfold fromE; rw [List.length_drop]; omega) | (have q := large_len ‹largeE l = false›; unfold untilE; rw [List.length_take]; omega)) (by first | assumption | (have q := large_len ‹largeE l = false›; omega) | exact (riseB_iff _).1 (by simpa using ‹(!riseB l) = false›) | exact rise_insE ((riseB_iff _).1 (by simpa using ‹(!riseB l) = false›)) | (have q := large_len ‹largeE l = false›; have := len_insE e l; omega) | (have q := large_len ‹largeE l = false›; unfold fromE; rw [List.length_drop]; omega) | (have q := large_len ‹largeE l = false›; unfold untilE; rw [List.length_take]; omega))) (Go.Ab.vc_call (c_entry_Find false (insE l e) e.index (by first | assumption | (have q := large_len ‹largeE l = false›; omega) | exact (riseB_iff _).1 (by simpa using ‹(!riseB l) = false›) | exact rise_insE ((riseB_iff _).1 (by simpa using ‹(!riseB l) = false›)) | (have q := large_len ‹largeE l = false›; have := len_insE e l; omega) | (have q := large_len ‹largeE l = false›; unfold fromE; rw [List.length_drop]; omega) | (have q := large_len ‹largeE l = false›; unfold untilE; rw [List.length_take]; omega)) (by first | assumption | (have q := large_len ‹largeE l = false›; omega) | exact (riseB_iff _).1 (by simpa using ‹(!riseB l) = false›) | exact rise_insE ((riseB_iff _).1 (by simpa using ‹(!riseB l) = false›)) | (have q := large_len ‹largeE l = false›; have := len_insE e l; omega) | (have q := large_len ‹largeE l = false›; unfold fromE; rw [List.length_drop]; omega) | (have q := large_len ‹largeE l = false›; unfold untilE; rw [List.length_take]; omega))) (Go.Ab.vc_q (fun h4 => Go.Ab.vc_qs (Go.Ab.vc_q (fun h5 => Go.Ab.vc_qs (Go.Ab.vc_call (c_ref12_With n l e (by first | assumption | (have q := large_len ‹largeE l = false›; omega) | exact (riseB_iff _).1 (by simpa using ‹(!riseB l) = false›) | exact rise_insE ((riseB_iff _).1 (by simpa using ‹(!riseB l) = false›)) | (have q := large_len ‹largeE l = false›; have := len_insE e l; omega) | (have q := large_len ‹largeE l = false›; unfold fromE; rw [List.length_drop]; omega) | (have q := large_len ‹largeE l = false›; unfold untilE; rw [List.length_take]; omega)) (by first | assumption | (have q := large_len ‹largeE l = false›; omega) | exact (riseB_iff _).1 (by simpa using ‹(!riseB l) = false›) | exact rise_insE ((riseB_iff _).1 (by simpa using ‹(!riseB l) = false›)) | (have q := large_len ‹largeE l = false›; have := len_insE e l; omega) | (have q := large_len ‹largeE l = false›; unfold fromE; rw [List.length_drop]; omega) | (have q := large_len ‹largeE l = false›; unfold untilE; rw [List.length_take]; omega))) (Go.Ab.vc_qs (Go.Ab.vc_call (c_ref12_Same false false (insE l e) (insE l e) (by first | assumption | (have q := large_len ‹largeE l = false›; omega) | exact (riseB_iff _).1 (by simpa using ‹(!riseB l) = false›) | exact rise_insE ((riseB_iff _).1 (by simpa using ‹(!riseB l) = false›)) | (have q := large_len ‹largeE l = false›; have := len_insE e l; omega) | (have q := large_len ‹largeE l = false›; unfold fromE; rw [List.length_drop]; omega) | (have q := large_len ‹largeE l = false›; unfold untilE; rw [List.length_take]; omega))) (Go.Ab.vc_q (fun h6 => Go.Ab.vc_qs (Go.Ab.vc_q (fun h7 => Go.Ab.vc_q (fun h8 => Go.Ab.vc_qs (Go.Ab.vc_call (c_entry_From n l t (by first | assumption | (have q := large_len ‹largeE l = false›; omega) | exact (riseB_iff _).1 (by simpa using ‹(!riseB l) = false›) | exact rise_insE ((riseB_iff _).1 (by simpa using ‹(!riseB l) = false›)) | (have q := large_len ‹largeE l = false›; have := len_insE e l; omega) | (have q := large_len ‹largeE l = false›; unfold fromE; rw [List.length_drop]; omega) | (have q := large_len ‹largeE l = false›; unfold untilE; rw [List.length_take]; omega)) (by first | assumption | (have q := large_len ‹largeE l = false›; omega) | exact (riseB_iff _).1 (by simpa using ‹(!riseB l) = false›) | exact rise_insE ((riseB_iff _).1 (by simpa using ‹(!riseB l) = false›)) | (have q := large_len ‹largeE l = false›; have := len_insE e l; omega) | (have q := large_len ‹largeE l = false›; unfold fromE; rw [List.length_drop]; omega) | (have q := large_len ‹largeE l = false›; unfold untilE; rw [List.length_take]; omega)) (by first | assumption | (have q := large_len ‹largeE l = false›; omega) | exact (riseB_iff _).1 (by simpa using ‹(!riseB l) = false›) | exact rise_insE ((riseB_iff _).1 (by simpa using ‹(!riseB l) = false›)) | (have q := large_len ‹largeE l = false›; have := len_insE e l; omega) | (have q := large_len ‹largeE l = false›; unfold fromE; rw [List.length_drop]; omega) | (have q := large_len ‹largeE l = false›; unfold untilE; rw [List.length_take]; omega))) (Go.Ab.vc_qs (Go.Ab.vc_call (c_ref12_Between n l t 9223372036854775807 (by first | assumption | (have q := large_len ‹largeE l = false›; omega) | exact (riseB_iff _).1 (by simpa using ‹(!riseB l) = false›) | exact rise_insE ((riseB_iff _).1 (by simpa using ‹(!riseB l) = false›)) | (have q := large_len ‹largeE l = false›; have := len_insE e l; omega) | (have q := large_len ‹largeE l = false›; unfold fromE; rw [List.length_drop]; omega) | (have q := large_len ‹largeE l = false›; unfold untilE; rw [List.length_take]; omega))) (Go.Ab.vc_qs (Go.Ab.vc_call (c_ref12_Same n (betw t 9223372036854775807 l).isEmpty (fromE l t) (betw t 9223372036854775807 l) (by first | assumption | (have q := large_len ‹largeE l = false›; omega) | exact (riseB_iff _).1 (by simpa using ‹(!riseB l) = false›) | exact rise_insE ((riseB_iff _).1 (by simpa using ‹(!riseB l) = false›)) | (have q := large_len ‹largeE l = false›; have := len_insE e l; omega) | (have q := large_len ‹largeE l = false›; unfold fromE; rw [List.length_drop]; omega) | (have q := large_len ‹largeE l = false›; unfold untilE; rw [List.length_take]; omega))) (Go.Ab.vc_q (fun h9 => Go.Ab.vc_qs (Go.Ab.vc_call (c_entry_Until n l t (by first | assumption | (have q := large_len ‹largeE l = false›; omega) | exact (riseB_iff _).1 (by simpa using ‹(!riseB l) = false›) | exact rise_insE ((riseB_iff _).1 (by simpa using ‹(!riseB l) = false›)) | (have q := large_len ‹largeE l = false›; have := len_insE e l; omega) | (have q := large_len ‹largeE l = false›; unfold fromE; rw [List.length_drop]; omega) | (have q := large_len ‹largeE l = false›; unfold untilE; rw [List.length_take]; omega)) (by first | assumption | (have q := large_len ‹largeE l = false›; omega) | exact (riseB_iff _).1 (by simpa using ‹(!riseB l) = false›) | exact rise_insE ((riseB_iff _).1 (by simpa using ‹(!riseB l) = false›)) | (have q := large_len ‹largeE l = false›; have := len_insE e l; omega) | (have q := large_len ‹largeE l = false›; unfold fromE; rw [List.length_drop]; omega) | (have q := large_len ‹largeE l = false›; unfold untilE; rw [List.length_take]; omega)) (by first | assumption | (have q := large_len ‹largeE l = false›; omega) | exact (riseB_iff _).1 (by simpa using ‹(!riseB l) = false›) | exact rise_insE ((riseB_iff _).1 (by simpa using ‹(!riseB l) = false›)) | (have q := large_len ‹largeE l = false›; have := len_insE e l; omega) | (have q := large_len ‹largeE l = false›; unfold fromE; rw [List.length_drop]; omega) | (have q := large_len ‹largeE l = false›; unfold untilE; rw [List.length_take]; omega))) (Go.Ab.vc_qs (Go.Ab.vc_call (c_ref12_Between n l (-9223372036854775808) t (by first | assumption | (have q := large_len ‹largeE l = false›; omega) | exact (riseB_iff _).1 (by simpa using ‹(!riseB l) = false›) | exact rise_insE ((riseB_iff _).1 (by simpa using ‹(!riseB l) = false›)) | (have q := large_len ‹largeE l = false›; have := len_insE e l; omega) | (have q := large_len ‹largeE l = false›; unfold fromE; rw [List.length_drop]; omega) | (have q := large_len ‹largeE l = false›; unfold untilE; rw [List.length_take]; omega))) (Go.Ab.vc_qs (Go.Ab.vc_call (c_ref12_Same n (betw (-9223372036854775808) t l).isEmpty (untilE l t) (betw (-9223372036854775808) t l) (by first | assumption | (have q := large_len ‹largeE l = false›; omega) | exact (riseB_iff _).1 (by simpa using ‹(!riseB l) = false›) | exact rise_insE ((riseB_iff _).1 (by simpa using ‹(!riseB l) = false›)) | (have q := large_len ‹largeE l = false›; have := len_insE e l; omega) | (have q := large_len ‹largeE l = false›; unfold fromE; rw [List.length_drop]; omega) | (have q := large_len ‹largeE l = false›; unfold untilE; rw [List.length_take]; omega))) (Go.Ab.vc_q (fun h10 => Go.Ab.vc_call (c_law12_awake (by first | assumption | (have q := large_len ‹largeE l = false›; omega) | exact (riseB_iff _).1 (by simpa using ‹(!riseB l) = false›) | exact rise_insE ((riseB_iff _).1 (by simpa using ‹(!riseB l) = false›)) | (have q := large_len ‹largeE l = false›; have := len_insE e l; omega) | (have q := large_len ‹largeE l = false›; unfold fromE; rw [List.length_drop]; omega) | (have q := large_len ‹largeE l = false›; unfold untilE; rw [List.length_take]; omega))) (Go.Ab.vc_ret ?_)) (fun h10 => Go.Ab.vc_ret ?_)))))))) (fun h9 => Go.Ab.vc_qs (Go.Ab.vc_ret ?_))))))))) (fun h8 => Go.Ab.vc_qs (Go.Ab.vc_ret ?_))) (fun h7 => Go.Ab.vc_qs (Go.Ab.vc_ret ?_)))) (fun h6 => Go.Ab.vc_qs (Go.Ab.vc_ret ?_))))))) (fun h5 => Go.Ab.vc_qs (Go.Ab.vc_ret ?_)))) (fun h4 => Go.Ab.vc_qs (Go.Ab.vc_ret ?_)))))))))))))))))
  all_goals (first | rfl | (exfalso; have hr : Rise l := (riseB_iff _).1 (by simpa using ‹(!riseB l) = false›); have g1 := (at_insE e l).2; have g2 := (at_insE e l).1; have g3 : fromE l t = betw t 9223372036854775807 l := (from_eq hr fun y hy => (hI y hy).2).symm; have g4 : untilE l t = betw (-9223372036854775808) t l := (until_eq hr fun y hy => (hI y hy).1).symm; have g5 := find_is (t := t) hr; first | (have q := find_pos hr (of_decide_eq_true ‹decide (refFind l t ≥ 0) = true›); simp_all; done) | (have q := find_neg hr (of_decide_eq_false ‹decide (refFind l t ≥ 0) = false›); simp_all [zeroEnt]; done)))
end Go.Proofs.Tryd
/- Entries out of their data; the laws of entries. -/
set_option maxRecDepth 100000
set_option linter.unusedVariables false
set_option linter.unusedSimpArgs false
namespace Go.Proofs.Tryd
open Go Go.Ab Go.Pl Go.Proofs.YtmecehpkjffanaaDoor
/-- The machine's numbers. -/
def Ent.i64 (e : Ent) : Prop := (-9223372036854775808 ≤ e.index ∧ e.index ≤ 9223372036854775807) ∧ e.round ≤ 9223372036854775807 ∧ e.node ≤ 9223372036854775807 ∧ e.cmd.i64
theorem ent_of {k : Nat} {ds : List D} (h : TyD Tryd.prog (k + 3) 36 ds) : ∃ e : Ent, e.i64 ∧ ds = dEnt e := by
  have f0 := tyd_field Tryd.underlying36 h 0 (ft := 3) (off := 0) (sz := 1) (by kernel_rfl)
  have f1 := tyd_field Tryd.underlying36 h 1 (ft := 23) (off := 1) (sz := 2) (by kernel_rfl)
  have f2 := tyd_field Tryd.underlying36 h 2 (ft := 25) (off := 3) (sz := 7) (by kernel_rfl)
  have hl := (tyd_struct Tryd.underlying36 h).1
  have e : Tryd.prog.cellsOf 36 = 10 := by kernel_rfl
  rw [e] at hl
  match ds, hl with
  | [d0, d1, d2, d3, d4, d5, d6, d7, d8, d9], _ =>
    obtain ⟨i0, e0, l0, m0⟩ := tyd_int Tryd.underlying3 f0
    obtain ⟨r, n, m1, m2, e1⟩ := bal_of f1
    obtain ⟨c, hc, e2⟩ := cmd_of f2
    rw [i64_max] at m0
    rw [i64_min] at l0
    simp at e0 e1 e2
    obtain ⟨rfl, rfl⟩ := e1
    obtain ⟨rfl, rfl, rfl, rfl, rfl, rfl, rfl⟩ := e2
    subst e0
    exact ⟨⟨i0, r, n, c⟩, ⟨⟨l0, m0⟩, m1, m2, hc⟩, rfl⟩
theorem ents_of {k : Nat} (xs : List (List D)) (h : ∀ x ∈ xs, x.length = 10 ∧ TyD Tryd.prog (k + 3) 36 x) : ∃ l : List Ent, (∀ y ∈ l, y.i64) ∧ xs = eR l := by
  induction xs with
  | nil => exact ⟨[], by simp, rfl⟩
  | cons x xs ih =>
    obtain ⟨l, hl, rfl⟩ := ih fun x hx => h x (by simp [hx])
    obtain ⟨e, he, rfl⟩ := ent_of (h x (by simp)).2
    refine ⟨e :: l, fun y hy => ?_, rfl⟩
    rcases List.mem_cons.1 hy with rfl | hy
    · exact he
    · exact hl y hy
theorem ents_of_at {k : Nat} {ds : List D} (h : TyD Tryd.prog (k + 4) 34 ds) : ∃ (n : Bool) (l : List Ent), (n = true → l = []) ∧ (∀ y ∈ l, y.i64) ∧ D.nrmL ds = D.nrmL [.slice n 10 (eR l)] := by
  obtain ⟨n, xs, rfl, h1, h2, h3⟩ := tyd_slice Tryd.underlying34 h
  have e : Tryd.prog.cellsOf 36 = 10 := by kernel_rfl
  rw [e] at h3 ⊢
  obtain ⟨l, hl, rfl⟩ := ents_of (k := k) xs h3
  refine ⟨n, l, fun hn => by simpa using h1 hn, hl, ?_⟩
  cases n <;> simp [D.nrmL, D.nrm]
theorem noagg34 : isAggB Tryd.prog 34 = some false := by kernel_rfl
theorem agg36 : isAggB Tryd.prog 36 = some true := by kernel_rfl
theorem ents_arg {ds : List D} (h : TyD Tryd.prog 8 34 ds) : ∃ (n : Bool) (l : List Ent), (n = true → l = []) ∧ (∀ y ∈ l, y.i64) ∧ A.nrm (asArg Tryd.prog 34 ds) = A.nrm (.d (.slice n 10 (eR l))) := by
  obtain ⟨n, l, h1, h2, h3⟩ := ents_of_at (k := 4) h
  exact ⟨n, l, h1, h2, one_arg noagg34 h3⟩
theorem ent_arg {ds : List D} (h : TyD Tryd.prog 8 36 ds) : ∃ e : Ent, e.i64 ∧ A.nrm (asArg Tryd.prog 36 ds) = A.nrm (.agg (eEnt e)) := by
  obtain ⟨e, h1, rfl⟩ := ent_of (k := 5) h
  refine ⟨e, h1, ?_⟩
  have : asArg Tryd.prog 36 (dEnt e) = .agg ((dEnt e).map .d) := by unfold asArg; rw [agg36]
  rw [this]
  rfl
theorem law_EntryChecks {W : World} (hL : Laid W) : ∀ av, ArgsOk Tryd.prog Tryd.f5.params.toList av → AEv Tryd.prog W 5 av [] (.d (.bool true)) [] := by
  intro av h
  have hp : Tryd.f5.params.toList = [3, 34] := by kernel_rfl
  rw [hp] at h
  obtain ⟨d1, av1, rfl, t1, d2, av2, rfl, t2, rfl⟩ := h
  obtain ⟨v, hv, ev⟩ := int_arg t1
  obtain ⟨n, l, hn, hl, el⟩ := ents_arg t2
  exact AEv.same (c_law12_EntryChecks hL v n l) (by simp only [A.nrmL, ev, el]) rfl ⟨rfl, rfl⟩
theorem law_EntryLists {W : World} (hL : Laid W) : ∀ av, ArgsOk Tryd.prog Tryd.f4.params.toList av → AEv Tryd.prog W 4 av [] (.d (.bool true)) [] := by
  intro av h
  have hp : Tryd.f4.params.toList = [34, 36, 3] := by kernel_rfl
  rw [hp] at h
  obtain ⟨d1, av1, rfl, t1, d2, av2, rfl, t2, d3, av3, rfl, t3, rfl⟩ := h
  obtain ⟨n, l, hn, hl, el⟩ := ents_arg t1
  obtain ⟨e, he, ee⟩ := ent_arg t2
  obtain ⟨t, ht, et⟩ := int_arg t3
  exact AEv.same (c_law12_EntryLists hL n l e t hn fun y hy => (hl y hy).1) (by simp only [A.nrmL, el, ee, et]) rfl ⟨rfl, rfl⟩
end Go.Proofs.Tryd
