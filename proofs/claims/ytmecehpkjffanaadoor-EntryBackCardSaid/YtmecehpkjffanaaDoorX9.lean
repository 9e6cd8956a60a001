/- Parts of the proof that a law of the program holds: contracts of the functions, and plain laws. -/
import Derived.Test.YtmecehpkjffanaaDoorX8
set_option maxRecDepth 100000
set_option maxHeartbeats 4000000
set_option linter.unusedVariables false
set_option linter.unusedSimpArgs false
namespace Go.Proofs.Tryd
open Go Go.Ab Go.Pl Go.RowKit Go.Proofs.YtmecehpkjffanaaDoor
attribute [local irreducible] Go.Ab.wp Go.Ab.vc Go.Ab.run Go.Ab.runFn Go.Ab.body1 Go.Ab.Tr.qt Go.Ab.Tr.qf Go.Ab.AEv
theorem rb_next {k : Int} {ys T : List (List D)} (hi : ys ++ bR (vb k.toNat) = T ∧ 0 ≤ k ∧ k ≤ 9223372036854775807 ∧ T.length ≤ 3000000000) (h0 : decide (k > 127) = true) :
    (ys ++ [[D.int .u8 (IntKind.u8.wrap (IntKind.i64.wrap (128 + k.tmod 128)))]]) ++ bR (vb (IntKind.i64.wrap (k.tdiv 128)).toNat) = T ∧ 0 ≤ IntKind.i64.wrap (k.tdiv 128) ∧ IntKind.i64.wrap (k.tdiv 128) ≤ 9223372036854775807 ∧ (IntKind.i64.wrap (k.tdiv 128)).toNat < k.toNat := by
  obtain ⟨h1, h2, h3, _⟩ := hi
  obtain ⟨m, rfl⟩ := Int.eq_ofNat_of_zero_le h2
  have h0 := of_decide_eq_true h0
  have e : IntKind.i64.wrap ((m : Int).tdiv 128) = ((m / 128 : Nat) : Int) := by
    rw [Int.tdiv_eq_ediv_of_nonneg (by omega), wI (by omega)]; omega
  have e2 : IntKind.u8.wrap (IntKind.i64.wrap (128 + (m : Int).tmod 128)) = ((128 + m % 128 : Nat) : Int) := by
    rw [Int.tmod_eq_emod_of_nonneg (by omega), wI (by omega), IntKind.wrap_u8]; omega
  rw [e, e2]
  rw [Int.toNat_natCast] at h1 ⊢
  rw [vb_even (by omega)] at h1
  refine ⟨by simpa using h1, by omega, by omega, by rw [Int.toNat_natCast]; omega⟩
theorem put_go' {k : Int} {ys T : List (List D)} (hi : ys ++ bR (vb k.toNat) = T ∧ 0 ≤ k ∧ k ≤ 9223372036854775807 ∧ T.length ≤ 3000000000) : ys.length + 1 ≤ 68719476736 := put_go hi
def l_ref01_Bytes_0_W : List Nat := others 22 [0, 3]
theorem l_ref01_Bytes_0 {w0 : World} (n : Bool) (T : List (List D)) (k : Int) (ys : List (List D)) (hi : ys ++ bR (vb k.toNat) = T ∧ 0 ≤ k ∧ k ≤ 9223372036854775807 ∧ T.length ≤ 3000000000) : ACode Tryd.prog w0 0 (.loop (nthLoop Tryd.f92 0)) (⟨mkEnv 22 [(0, .d (.int .i64 k)), (3, .own 0)], [.row n 5 1 ys]⟩) (fun e s' => ∃ (k : Int) (ys : List (List D)), (ys ++ bR (vb k.toNat) = T ∧ 0 ≤ k ∧ k < 128) ∧ e = .exit 0 ∧ s' = ⟨mkEnv 22 [(0, .d (.int .i64 k)), (3, .own 0)], [.row n 5 1 ys]⟩) := by
  refine Go.Ab.acode_loop (s1 := ⟨mkEnv 22 [(0, .d (.int .i64 k)), (3, .own 0)], [.row n 5 1 ys]⟩) (n := k.toNat) hmix [] (fun zm zs => ∃ (k : Int) (ys : List (List D)), zm = k.toNat ∧ (ys ++ bR (vb k.toNat) = T ∧ 0 ≤ k ∧ k ≤ 9223372036854775807 ∧ T.length ≤ 3000000000) ∧ zs = ⟨mkEnv 22 [(0, .d (.int .i64 k)), (3, .own 0)], [.row n 5 1 ys]⟩) (Weak.refl _) ⟨k, ys, rfl, hi, rfl⟩ ?_
  clear hi
  rintro zm zs ⟨k, ys, rfl, hi, rfl⟩
  refine Go.Ab.wp_rd l_ref01_Bytes_0_W (.q (decide (k > 127)) (.chk (true) (.chk (decide (ys.length + 1 ≤ 68719476736)) (.chk (true) (.ret (Ex.normal, true, ⟨mkEnv 22 [(0, A.d (D.int IntKind.i64 (IntKind.i64.wrap (k.tdiv 128)))), (3, A.own 0)], [Ob.row n 5 1 (ys ++ [[D.int IntKind.u8 (IntKind.u8.wrap (IntKind.i64.wrap (128 + k.tmod 128)))]])]⟩))))) (.ret (Ex.exit 0, true, ⟨mkEnv 22 [(0, A.d (D.int IntKind.i64 k)), (3, A.own 0)], [Ob.row n 5 1 ys]⟩))) (by kernel_rfl) (Go.Ab.vc_q (fun h0 => Go.Ab.vc_chk (by first | exact rfl | exact decide_eq_true (put_go hi)) (Go.Ab.vc_chk (by first | exact rfl | exact decide_eq_true (put_go hi)) (Go.Ab.vc_chk (by first | exact rfl | exact decide_eq_true (put_go hi)) (Go.Ab.vc_next ?_)))) (fun h0 => Go.Ab.vc_exit ?x5))
  case x5 => (have h0' := of_decide_eq_false h0; exact ⟨_, _, ⟨hi.1, hi.2.1, by omega⟩, rfl, rfl⟩)
  all_goals (obtain ⟨q1, q2, q3, q4⟩ := rb_next hi h0; exact ⟨_, q4, _, _, rfl, ⟨q1, q2, q3, hi.2.2.2⟩, rfl⟩)
def l_refB_W : List Nat := l_ref01_Bytes_0_W
theorem l_refB {w0 : World} (k : Int) (hi : 0 ≤ k ∧ k ≤ 9223372036854775807) : ACode Tryd.prog w0 0 (.loop (nthLoop Tryd.f92 0)) (⟨mkEnv (Tryd.f92).ntmps [(0, .d (.int .i64 k)), (3, .d (.slice true 0 []))], []⟩) (fun e s' => ∃ (k' : Int) (ys : List (List D)), (ys ++ bR (vb k'.toNat) = bR (vb k.toNat) ∧ 0 ≤ k' ∧ k' < 128) ∧ e = .exit 0 ∧ s' = ⟨mkEnv (Tryd.f92).ntmps [(0, .d (.int .i64 k')), (3, .own 0)], [.row true 5 1 ys]⟩) :=
  acode_weak (weak_virt (d := 3) (e := 5) (sz := 1) (Nat.zero_le _) rfl) (l_ref01_Bytes_0 true (bR (vb k.toNat)) k [] ⟨rfl, hi.1, hi.2, by have := vbR_len hi.2; simp; omega⟩)
theorem c_refBytes {w0 : World} (k : Int) (hk : k ≤ 9223372036854775807) : AEv Tryd.prog w0 92 [.d (.int .i64 k)] [] (.d (.slice false 1 (bR (vb k.toNat)))) [] := by
  refine aev_of_run hmix Tryd.func92 [] 1 ?_
  refine Go.Ab.wp_fn (.q (decide (k < 0)) (.stop) (.stop)) (by kernel_rfl) (Go.Ab.vc_q (fun h0 => Go.Ab.vc_stop ?s1) (fun h0 => Go.Ab.vc_stop ?s4))
  case s1 =>
    refine Go.Ab.wp_loop (by kernel_rfl) (by kernel_rfl) (Go.Ab.acode_tidy (W := l_refB_W) (by kernel_rfl) (by kernel_rfl) (l_refB 0 (by first | exact ⟨by omega, by omega⟩ | (simp only [decide_eq_true_eq, decide_eq_false_iff_not] at *; exact ⟨by omega, by omega⟩)))) ?_
    rintro e s' (⟨k', ys, j2, rfl, rfl⟩)
    · skip
      refine Go.Ab.wp_fn (.chk (decide (ys.length + 1 ≤ 68719476736)) (.ret (A.d (D.slice (true && (ys ++ [[D.int IntKind.u8 (IntKind.u8.wrap k')]]).isEmpty) 1 (ys ++ [[D.int IntKind.u8 (IntKind.u8.wrap k')]])), []))) (by kernel_rfl) (Go.Ab.vc_chk (by (have q := congrArg List.length (‹_ ∧ _› : _ ∧ _).1; have := vbR_len hk; have := vb_pos 0; simp [vb_small] at q ⊢; omega)) (Go.Ab.vc_ret ?_))
      all_goals ((obtain ⟨q1, q2, q3⟩ := (‹_ ∧ _› : _ ∧ _); have q4 := put_end q1 q2 q3; rw [q4]; have hne := bR_vb_ne k.toNat; simp only [decide_eq_true_eq, decide_eq_false_iff_not] at h0; first | (rw [show (0 : Int).toNat = k.toNat by omega]; cases hq : bR (vb k.toNat) with | nil => exact absurd hq hne | cons y ys => rfl) | (cases hq : bR (vb k.toNat) with | nil => exact absurd hq hne | cons y ys => rfl)))
  case s4 =>
    refine Go.Ab.wp_loop (by kernel_rfl) (by kernel_rfl) (Go.Ab.acode_tidy (W := l_refB_W) (by kernel_rfl) (by kernel_rfl) (l_refB k (by first | exact ⟨by omega, by omega⟩ | (simp only [decide_eq_true_eq, decide_eq_false_iff_not] at *; exact ⟨by omega, by omega⟩)))) ?_
    rintro e s' (⟨k', ys, j2, rfl, rfl⟩)
    · skip
      refine Go.Ab.wp_fn (.chk (decide (ys.length + 1 ≤ 68719476736)) (.ret (A.d (D.slice (true && (ys ++ [[D.int IntKind.u8 (IntKind.u8.wrap k')]]).isEmpty) 1 (ys ++ [[D.int IntKind.u8 (IntKind.u8.wrap k')]])), []))) (by kernel_rfl) (Go.Ab.vc_chk (by (have q := congrArg List.length (‹_ ∧ _› : _ ∧ _).1; have := vbR_len hk; have := vb_pos 0; simp [vb_small] at q ⊢; omega)) (Go.Ab.vc_ret ?_))
      all_goals ((obtain ⟨q1, q2, q3⟩ := (‹_ ∧ _› : _ ∧ _); have q4 := put_end q1 q2 q3; rw [q4]; have hne := bR_vb_ne k.toNat; simp only [decide_eq_true_eq, decide_eq_false_iff_not] at h0; first | (rw [show (0 : Int).toNat = k.toNat by omega]; cases hq : bR (vb k.toNat) with | nil => exact absurd hq hne | cons y ys => rfl) | (cases hq : bR (vb k.toNat) with | nil => exact absurd hq hne | cons y ys => rfl)))
theorem c_refBytesO {w0 : World} (k : Int) (hk : k ≤ 9223372036854775807) : AEv Tryd.prog w0 92 [.d (.int .i64 k)] [] (.own 0) [.row true 5 1 (bR (vb k.toNat))] := by
  refine aev_of_run hmix Tryd.func92 [] 0 ?_
  refine Go.Ab.wp_fn (.q (decide (k < 0)) (.stop) (.stop)) (by kernel_rfl) (Go.Ab.vc_q (fun h0 => Go.Ab.vc_stop ?s1) (fun h0 => Go.Ab.vc_stop ?s4))
  case s1 =>
    refine Go.Ab.wp_loop (by kernel_rfl) (by kernel_rfl) (Go.Ab.acode_tidy (W := l_refB_W) (by kernel_rfl) (by kernel_rfl) (l_refB 0 (by first | exact ⟨by omega, by omega⟩ | (simp only [decide_eq_true_eq, decide_eq_false_iff_not] at *; exact ⟨by omega, by omega⟩)))) ?_
    rintro e s' (⟨k', ys, j2, rfl, rfl⟩)
    · skip
      refine Go.Ab.wp_fn (.chk (decide (ys.length + 1 ≤ 68719476736)) (.ret (A.own 0, [Ob.row true 5 1 (ys ++ [[D.int IntKind.u8 (IntKind.u8.wrap k')]])]))) (by kernel_rfl) (Go.Ab.vc_chk (by (have q := congrArg List.length (‹_ ∧ _› : _ ∧ _).1; have := vbR_len hk; have := vb_pos 0; simp [vb_small] at q ⊢; omega)) (Go.Ab.vc_ret ?_))
      all_goals ((obtain ⟨q1, q2, q3⟩ := (‹_ ∧ _› : _ ∧ _); have q4 := put_end q1 q2 q3; simp only [decide_eq_true_eq, decide_eq_false_iff_not] at h0; first | (rw [q4]; done) | (rw [q4, show (0 : Int).toNat = k.toNat by omega])))
  case s4 =>
    refine Go.Ab.wp_loop (by kernel_rfl) (by kernel_rfl) (Go.Ab.acode_tidy (W := l_refB_W) (by kernel_rfl) (by kernel_rfl) (l_refB k (by first | exact ⟨by omega, by omega⟩ | (simp only [decide_eq_true_eq, decide_eq_false_iff_not] at *; exact ⟨by omega, by omega⟩)))) ?_
    rintro e s' (⟨k', ys, j2, rfl, rfl⟩)
    · skip
      refine Go.Ab.wp_fn (.chk (decide (ys.length + 1 ≤ 68719476736)) (.ret (A.own 0, [Ob.row true 5 1 (ys ++ [[D.int IntKind.u8 (IntKind.u8.wrap k')]])]))) (by kernel_rfl) (Go.Ab.vc_chk (by (have q := congrArg List.length (‹_ ∧ _› : _ ∧ _).1; have := vbR_len hk; have := vb_pos 0; simp [vb_small] at q ⊢; omega)) (Go.Ab.vc_ret ?_))
      all_goals ((obtain ⟨q1, q2, q3⟩ := (‹_ ∧ _› : _ ∧ _); have q4 := put_end q1 q2 q3; simp only [decide_eq_true_eq, decide_eq_false_iff_not] at h0; first | (rw [q4]; done) | (rw [q4, show (0 : Int).toNat = k.toNat by omega])))
theorem emp_vb {k : Nat} {ys : List (List D)} : (true && (bR (vb k) ++ ys).isEmpty) = false := by
  cases h : bR (vb k) with
  | nil => exact absurd h (bR_vb_ne k)
  | cons y ys => rfl
theorem maskoff (k : Int) : off (mask k) 1 = (!owned k) ∧ off (mask k) 2 = (!owned k) ∧ off (mask k) 4 = (!(k == 5)) ∧ off (mask k) 8 = (!(k == 2 || k == 5)) ∧ off (mask k) 16 = (!member k) := by
  have a0 := off0
  have a3 := off3
  have a11 := off11
  have a15 := off15
  have a16 := off16
  unfold mask
  by_cases h2 : k = 2
  · subst h2; simp [a11, owned, member]
  by_cases h3 : k = 3
  · subst h3; simp [a3, owned, member]
  by_cases h4 : k = 4
  · subst h4; simp [a3, owned, member]
  by_cases h5 : k = 5
  · subst h5; simp [a15, owned, member]
  by_cases h7 : k = 7
  · subst h7; simp [a16, owned, member]
  by_cases h8 : k = 8
  · subst h8; simp [a16, owned, member]
  simp [h2, h3, h4, h5, h7, h8, a0, owned, member]
  omega
theorem emp_vb0 {k : Nat} : (bR (vb k)).isEmpty = false := by
  cases h : bR (vb k) with
  | nil => exact absurd h (bR_vb_ne k)
  | cons y ys => rfl
/-- A command's bytes, as the reference lists them. -/
def refCmdB (v : Int) (c : Cmd) : List UInt8 :=
  vb c.kind.toNat ++ (if v == 1 || owned c.kind then vb c.client.toNat ++ vb c.seq.toNat ++ textB c.key else []) ++ (if !(v == 1) && c.kind == 5 then textB c.old else []) ++
    (if v == 1 || (c.kind == 2 || c.kind == 5) then textB c.val else []) ++ (if v == 1 || member c.kind then vb c.node.toNat else [])
theorem refCmdB_eq (v : Int) (c : Cmd) : refCmdB v c = cmdB v c := by
  obtain ⟨m1, m2, m3, m4, m5⟩ := maskoff c.kind
  unfold refCmdB cmdB
  rw [partsB_step v c 0 (by omega), partsB_step v c 1 (by omega), partsB_step v c 2 (by omega), partsB_step v c 3 (by omega), partsB_step v c 4 (by omega), partsB_step v c 5 (by omega), partsB_end]
  simp only [partB, wantB, bitOf, m1, m2, m3, m4, m5, fieldB]
  cases hv : v == 1
  · cases owned c.kind <;> cases (c.kind == 5) <;> cases (c.kind == 2) <;> cases member c.kind <;> simp
  · simp
theorem c_refText {w0 : World} (s : ByteArray) (hs : s.size ≤ 1000000) : AEv Tryd.prog w0 130 [.d (.str s)] [] (.d (.slice false 1 (bR (textB s)))) [] := by
  refine aev_of_run hmix Tryd.func130 [] 1 ?_
  refine Go.Ab.wp_fn (.call 92 [A.d (D.int IntKind.i64 (↑s.size : Int))] [] (A.own 0) [Ob.row true 5 1 (bR (vb (↑s.size : Int).toNat))] (.chk (decide ((List.map (fun b => [D.int IntKind.u8 (↑b.toNat : Int)]) (vb (↑s.size : Int).toNat)).length + (List.map (fun b => [D.int IntKind.u8 (↑b.toNat : Int)]) s.toList).length ≤ 68719476736)) (.ret (A.d (D.slice (true && (List.map (fun b => [D.int IntKind.u8 (↑b.toNat : Int)]) (vb (↑s.size : Int).toNat) ++ List.map (fun b => [D.int IntKind.u8 (↑b.toNat : Int)]) s.toList).isEmpty) 1 (List.map (fun b => [D.int IntKind.u8 (↑b.toNat : Int)]) (vb (↑s.size : Int).toNat) ++ List.map (fun b => [D.int IntKind.u8 (↑b.toNat : Int)]) s.toList)), [])))) (by kernel_rfl) (Go.Ab.vc_call (c_refBytesO (↑s.size : Int) (by omega)) (Go.Ab.vc_chk (by (have q := vbR_len (k := (s.size : Int)) (by omega); simp [bytesD_len, toList_len] at q ⊢; omega)) (Go.Ab.vc_ret ?_)))
  all_goals ((rw [emp_vb]; simp [textB, bR_append, bytesD]))
theorem c_refCmdBytes {w0 : World} (v : Int) (c : Cmd) (hc : c.fit) : AEv Tryd.prog w0 93 [.d (.int .i64 v), .agg (eCmd c)] [] (.d (.slice false 1 (bR (cmdB v c)))) [] := by
  refine aev_of_run hmix Tryd.func93 [] 1 ?_
  refine Go.Ab.wp_fn (.call 92 [A.d (D.int IntKind.i64 c.kind)] [] (A.own 0) [Ob.row true 5 1 (bR (vb c.kind.toNat))] (.q (v == 1) (.qs [true, true, true] (.call 92 [A.d (D.int IntKind.i64 c.client)] [] (A.own 0) [Ob.row true 5 1 (bR (vb c.client.toNat))] (.chk (decide ((List.map (fun b => [D.int IntKind.u8 (↑b.toNat : Int)]) (vb c.kind.toNat)).length + (List.map (fun b => [D.int IntKind.u8 (↑b.toNat : Int)]) (vb c.client.toNat)).length ≤ 68719476736)) (.call 92 [A.d (D.int IntKind.i64 c.seq)] [] (A.own 0) [Ob.row true 5 1 (bR (vb c.seq.toNat))] (.chk (decide ((List.map (fun b => [D.int IntKind.u8 (↑b.toNat : Int)]) (vb c.kind.toNat) ++ List.map (fun b => [D.int IntKind.u8 (↑b.toNat : Int)]) (vb c.client.toNat)).length + (List.map (fun b => [D.int IntKind.u8 (↑b.toNat : Int)]) (vb c.seq.toNat)).length ≤ 68719476736)) (.call 130 [A.d (D.str c.key)] [] (A.d (D.slice false 1 (bR (textB c.key)))) [] (.chk (decide ((List.map (fun b => [D.int IntKind.u8 (↑b.toNat : Int)]) (vb c.kind.toNat) ++ List.map (fun b => [D.int IntKind.u8 (↑b.toNat : Int)]) (vb c.client.toNat) ++ List.map (fun b => [D.int IntKind.u8 (↑b.toNat : Int)]) (vb c.seq.toNat)).length + (List.map (fun b => [D.int IntKind.u8 (↑b.toNat : Int)]) (textB c.key)).length ≤ 68719476736)) (.q (!v == 1) (.qs [true, true] (.q (c.kind == 5) (.call 130 [A.d (D.str c.old)] [] (A.d (D.slice false 1 (bR (textB c.old)))) [] (.chk (decide ((List.map (fun b => [D.int IntKind.u8 (↑b.toNat : Int)]) (vb c.kind.toNat) ++ List.map (fun b => [D.int IntKind.u8 (↑b.toNat : Int)]) (vb c.client.toNat) ++ List.map (fun b => [D.int IntKind.u8 (↑b.toNat : Int)]) (vb c.seq.toNat) ++ List.map (fun b => [D.int IntKind.u8 (↑b.toNat : Int)]) (textB c.key)).length + (List.map (fun b => [D.int IntKind.u8 (↑b.toNat : Int)]) (textB c.old)).length ≤ 68719476736)) (.q (v == 1) (.qs [true, true, true, true, true, true] (.call 130 [A.d (D.str c.val)] [] (A.d (D.slice false 1 (bR (textB c.val)))) [] (.chk (decide ((List.map (fun b => [D.int IntKind.u8 (↑b.toNat : Int)]) (vb c.kind.toNat) ++ List.map (fun b => [D.int IntKind.u8 (↑b.toNat : Int)]) (vb c.client.toNat) ++ List.map (fun b => [D.int IntKind.u8 (↑b.toNat : Int)]) (vb c.seq.toNat) ++ List.map (fun b => [D.int IntKind.u8 (↑b.toNat : Int)]) (textB c.key) ++ List.map (fun b => [D.int IntKind.u8 (↑b.toNat : Int)]) (textB c.old)).length + (List.map (fun b => [D.int IntKind.u8 (↑b.toNat : Int)]) (textB c.val)).length ≤ 68719476736)) (.q (v == 1) (.qs [true, true, true] (.call 92 [A.d (D.int IntKind.i64 c.node)] [] (A.own 0) [Ob.row true 5 1 (bR (vb c.node.toNat))] (.chk (decide ((List.map (fun b => [D.int IntKind.u8 (↑b.toNat : Int)]) (vb c.kind.toNat) ++ List.map (fun b => [D.int IntKind.u8 (↑b.toNat : Int)]) (vb c.client.toNat) ++ List.map (fun b => [D.int IntKind.u8 (↑b.toNat : Int)]) (vb c.seq.toNat) ++ List.map (fun b => [D.int IntKind.u8 (↑b.toNat : Int)]) (textB c.key) ++ List.map (fun b => [D.int IntKind.u8 (↑b.toNat : Int)]) (textB c.old) ++ List.map (fun b => [D.int IntKind.u8 (↑b.toNat : Int)]) (textB c.val)).length + (List.map (fun b => [D.int IntKind.u8 (↑b.toNat : Int)]) (vb c.node.toNat)).length ≤ 68719476736)) (.ret (A.d (D.slice (true && (List.map (fun b => [D.int IntKind.u8 (↑b.toNat : Int)]) (vb c.kind.toNat) ++ List.map (fun b => [D.int IntKind.u8 (↑b.toNat : Int)]) (vb c.client.toNat) ++ List.map (fun b => [D.int IntKind.u8 (↑b.toNat : Int)]) (vb c.seq.toNat) ++ List.map (fun b => [D.int IntKind.u8 (↑b.toNat : Int)]) (textB c.key) ++ List.map (fun b => [D.int IntKind.u8 (↑b.toNat : Int)]) (textB c.old) ++ List.map (fun b => [D.int IntKind.u8 (↑b.toNat : Int)]) (textB c.val) ++ List.map (fun b => [D.int IntKind.u8 (↑b.toNat : Int)]) (vb c.node.toNat)).isEmpty) 1 (List.map (fun b => [D.int IntKind.u8 (↑b.toNat : Int)]) (vb c.kind.toNat) ++ List.map (fun b => [D.int IntKind.u8 (↑b.toNat : Int)]) (vb c.client.toNat) ++ List.map (fun b => [D.int IntKind.u8 (↑b.toNat : Int)]) (vb c.seq.toNat) ++ List.map (fun b => [D.int IntKind.u8 (↑b.toNat : Int)]) (textB c.key) ++ List.map (fun b => [D.int IntKind.u8 (↑b.toNat : Int)]) (textB c.old) ++ List.map (fun b => [D.int IntKind.u8 (↑b.toNat : Int)]) (textB c.val) ++ List.map (fun b => [D.int IntKind.u8 (↑b.toNat : Int)]) (vb c.node.toNat))), []))))) .stop)))) .stop))) (.q (v == 1) (.qs [true, true, true, true, true, true] (.call 130 [A.d (D.str c.val)] [] (A.d (D.slice false 1 (bR (textB c.val)))) [] (.chk (decide ((List.map (fun b => [D.int IntKind.u8 (↑b.toNat : Int)]) (vb c.kind.toNat) ++ List.map (fun b => [D.int IntKind.u8 (↑b.toNat : Int)]) (vb c.client.toNat) ++ List.map (fun b => [D.int IntKind.u8 (↑b.toNat : Int)]) (vb c.seq.toNat) ++ List.map (fun b => [D.int IntKind.u8 (↑b.toNat : Int)]) (textB c.key)).length + (List.map (fun b => [D.int IntKind.u8 (↑b.toNat : Int)]) (textB c.val)).length ≤ 68719476736)) (.q (v == 1) (.qs [true, true, true] (.call 92 [A.d (D.int IntKind.i64 c.node)] [] (A.own 0) [Ob.row true 5 1 (bR (vb c.node.toNat))] (.chk (decide ((List.map (fun b => [D.int IntKind.u8 (↑b.toNat : Int)]) (vb c.kind.toNat) ++ List.map (fun b => [D.int IntKind.u8 (↑b.toNat : Int)]) (vb c.client.toNat) ++ List.map (fun b => [D.int IntKind.u8 (↑b.toNat : Int)]) (vb c.seq.toNat) ++ List.map (fun b => [D.int IntKind.u8 (↑b.toNat : Int)]) (textB c.key) ++ List.map (fun b => [D.int IntKind.u8 (↑b.toNat : Int)]) (textB c.val)).length + (List.map (fun b => [D.int IntKind.u8 (↑b.toNat : Int)]) (vb c.node.toNat)).length ≤ 68719476736)) (.ret (A.d (D.slice (true && (List.map (fun b => [D.int IntKind.u8 (↑b.toNat : Int)]) (vb c.kind.toNat) ++ List.map (fun b => [D.int IntKind.u8 (↑b.toNat : Int)]) (vb c.client.toNat) ++ List.map (fun b => [D.int IntKind.u8 (↑b.toNat : Int)]) (vb c.seq.toNat) ++ List.map (fun b => [D.int IntKind.u8 (↑b.toNat : Int)]) (textB c.key) ++ List.map (fun b => [D.int IntKind.u8 (↑b.toNat : Int)]) (textB c.val) ++ List.map (fun b => [D.int IntKind.u8 (↑b.toNat : Int)]) (vb c.node.toNat)).isEmpty) 1 (List.map (fun b => [D.int IntKind.u8 (↑b.toNat : Int)]) (vb c.kind.toNat) ++ List.map (fun b => [D.int IntKind.u8 (↑b.toNat : Int)]) (vb c.client.toNat) ++ List.map (fun b => [D.int IntKind.u8 (↑b.toNat : Int)]) (vb c.seq.toNat) ++ List.map (fun b => [D.int IntKind.u8 (↑b.toNat : Int)]) (textB c.key) ++ List.map (fun b => [D.int IntKind.u8 (↑b.toNat : Int)]) (textB c.val) ++ List.map (fun b => [D.int IntKind.u8 (↑b.toNat : Int)]) (vb c.node.toNat))), []))))) .stop)))) .stop))) (.qs [false, false, false] (.q (v == 1) (.qs [true, true, true, true, true, true] (.call 130 [A.d (D.str c.val)] [] (A.d (D.slice false 1 (bR (textB c.val)))) [] (.chk (decide ((List.map (fun b => [D.int IntKind.u8 (↑b.toNat : Int)]) (vb c.kind.toNat) ++ List.map (fun b => [D.int IntKind.u8 (↑b.toNat : Int)]) (vb c.client.toNat) ++ List.map (fun b => [D.int IntKind.u8 (↑b.toNat : Int)]) (vb c.seq.toNat) ++ List.map (fun b => [D.int IntKind.u8 (↑b.toNat : Int)]) (textB c.key)).length + (List.map (fun b => [D.int IntKind.u8 (↑b.toNat : Int)]) (textB c.val)).length ≤ 68719476736)) (.q (v == 1) (.qs [true, true, true] (.call 92 [A.d (D.int IntKind.i64 c.node)] [] (A.own 0) [Ob.row true 5 1 (bR (vb c.node.toNat))] (.chk (decide ((List.map (fun b => [D.int IntKind.u8 (↑b.toNat : Int)]) (vb c.kind.toNat) ++ List.map (fun b => [D.int IntKind.u8 (↑b.toNat : Int)]) (vb c.client.toNat) ++ List.map (fun b => [D.int IntKind.u8 (↑b.toNat : Int)]) (vb c.seq.toNat) ++ List.map (fun b => [D.int IntKind.u8 (↑b.toNat : Int)]) (textB c.key) ++ List.map (fun b => [D.int IntKind.u8 (↑b.toNat : Int)]) (textB c.val)).length + (List.map (fun b => [D.int IntKind.u8 (↑b.toNat : Int)]) (vb c.node.toNat)).length ≤ 68719476736)) (.ret (A.d (D.slice (true && (List.map (fun b => [D.int IntKind.u8 (↑b.toNat : Int)]) (vb c.kind.toNat) ++ List.map (fun b => [D.int IntKind.u8 (↑b.toNat : Int)]) (vb c.client.toNat) ++ List.map (fun b => [D.int IntKind.u8 (↑b.toNat : Int)]) (vb c.seq.toNat) ++ List.map (fun b => [D.int IntKind.u8 (↑b.toNat : Int)]) (textB c.key) ++ List.map (fun b => [D.int IntKind.u8 (↑b.toNat : Int)]) (textB c.val) ++ List.map (fun b => [D.int IntKind.u8 (↑b.toNat : Int)]) (vb c.node.toNat)).isEmpty) 1 (List.map (fun b => [D.int IntKind.u8 (↑b.toNat : Int)]) (vb c.kind.toNat) ++ List.map (fun b => [D.int IntKind.u8 (↑b.toNat : Int)]) (vb c.client.toNat) ++ List.map (fun b => [D.int IntKind.u8 (↑b.toNat : Int)]) (vb c.seq.toNat) ++ List.map (fun b => [D.int IntKind.u8 (↑b.toNat : Int)]) (textB c.key) ++ List.map (fun b => [D.int IntKind.u8 (↑b.toNat : Int)]) (textB c.val) ++ List.map (fun b => [D.int IntKind.u8 (↑b.toNat : Int)]) (vb c.node.toNat))), []))))) .stop)))) .stop)))))))))) (.qs [false, false] (.call 110 [A.d (D.int IntKind.i64 c.kind)] [] (A.d (D.bool (owned c.kind))) [] (.q (owned c.kind) (.call 92 [A.d (D.int IntKind.i64 c.client)] [] (A.own 0) [Ob.row true 5 1 (bR (vb c.client.toNat))] (.chk (decide ((List.map (fun b => [D.int IntKind.u8 (↑b.toNat : Int)]) (vb c.kind.toNat)).length + (List.map (fun b => [D.int IntKind.u8 (↑b.toNat : Int)]) (vb c.client.toNat)).length ≤ 68719476736)) (.call 92 [A.d (D.int IntKind.i64 c.seq)] [] (A.own 0) [Ob.row true 5 1 (bR (vb c.seq.toNat))] (.chk (decide ((List.map (fun b => [D.int IntKind.u8 (↑b.toNat : Int)]) (vb c.kind.toNat) ++ List.map (fun b => [D.int IntKind.u8 (↑b.toNat : Int)]) (vb c.client.toNat)).length + (List.map (fun b => [D.int IntKind.u8 (↑b.toNat : Int)]) (vb c.seq.toNat)).length ≤ 68719476736)) (.call 130 [A.d (D.str c.key)] [] (A.d (D.slice false 1 (bR (textB c.key)))) [] (.chk (decide ((List.map (fun b => [D.int IntKind.u8 (↑b.toNat : Int)]) (vb c.kind.toNat) ++ List.map (fun b => [D.int IntKind.u8 (↑b.toNat : Int)]) (vb c.client.toNat) ++ List.map (fun b => [D.int IntKind.u8 (↑b.toNat : Int)]) (vb c.seq.toNat)).length + (List.map (fun b => [D.int IntKind.u8 (↑b.toNat : Int)]) (textB c.key)).length ≤ 68719476736)) (.q (!v == 1) (.qs [true, true] (.q (c.kind == 5) (.call 130 [A.d (D.str c.old)] [] (A.d (D.slice false 1 (bR (textB c.old)))) [] (.chk (decide ((List.map (fun b => [D.int IntKind.u8 (↑b.toNat : Int)]) (vb c.kind.toNat) ++ List.map (fun b => [D.int IntKind.u8 (↑b.toNat : Int)]) (vb c.client.toNat) ++ List.map (fun b => [D.int IntKind.u8 (↑b.toNat : Int)]) (vb c.seq.toNat) ++ List.map (fun b => [D.int IntKind.u8 (↑b.toNat : Int)]) (textB c.key)).length + (List.map (fun b => [D.int IntKind.u8 (↑b.toNat : Int)]) (textB c.old)).length ≤ 68719476736)) (.q (v == 1) .stop (.qs [false, false] (.q (c.kind == 2) (.qs [true, true, true] (.call 130 [A.d (D.str c.val)] [] (A.d (D.slice false 1 (bR (textB c.val)))) [] (.chk (decide ((List.map (fun b => [D.int IntKind.u8 (↑b.toNat : Int)]) (vb c.kind.toNat) ++ List.map (fun b => [D.int IntKind.u8 (↑b.toNat : Int)]) (vb c.client.toNat) ++ List.map (fun b => [D.int IntKind.u8 (↑b.toNat : Int)]) (vb c.seq.toNat) ++ List.map (fun b => [D.int IntKind.u8 (↑b.toNat : Int)]) (textB c.key) ++ List.map (fun b => [D.int IntKind.u8 (↑b.toNat : Int)]) (textB c.old)).length + (List.map (fun b => [D.int IntKind.u8 (↑b.toNat : Int)]) (textB c.val)).length ≤ 68719476736)) (.q (v == 1) .stop (.qs [false, false] (.call 111 [A.d (D.int IntKind.i64 c.kind)] [] (A.d (D.bool (member c.kind))) [] (.q (member c.kind) (.call 92 [A.d (D.int IntKind.i64 c.node)] [] (A.own 0) [Ob.row true 5 1 (bR (vb c.node.toNat))] (.chk (decide ((List.map (fun b => [D.int IntKind.u8 (↑b.toNat : Int)]) (vb c.kind.toNat) ++ List.map (fun b => [D.int IntKind.u8 (↑b.toNat : Int)]) (vb c.client.toNat) ++ List.map (fun b => [D.int IntKind.u8 (↑b.toNat : Int)]) (vb c.seq.toNat) ++ List.map (fun b => [D.int IntKind.u8 (↑b.toNat : Int)]) (textB c.key) ++ List.map (fun b => [D.int IntKind.u8 (↑b.toNat : Int)]) (textB c.old) ++ List.map (fun b => [D.int IntKind.u8 (↑b.toNat : Int)]) (textB c.val)).length + (List.map (fun b => [D.int IntKind.u8 (↑b.toNat : Int)]) (vb c.node.toNat)).length ≤ 68719476736)) (.ret (A.d (D.slice (true && (List.map (fun b => [D.int IntKind.u8 (↑b.toNat : Int)]) (vb c.kind.toNat) ++ List.map (fun b => [D.int IntKind.u8 (↑b.toNat : Int)]) (vb c.client.toNat) ++ List.map (fun b => [D.int IntKind.u8 (↑b.toNat : Int)]) (vb c.seq.toNat) ++ List.map (fun b => [D.int IntKind.u8 (↑b.toNat : Int)]) (textB c.key) ++ List.map (fun b => [D.int IntKind.u8 (↑b.toNat : Int)]) (textB c.old) ++ List.map (fun b => [D.int IntKind.u8 (↑b.toNat : Int)]) (textB c.val) ++ List.map (fun b => [D.int IntKind.u8 (↑b.toNat : Int)]) (vb c.node.toNat)).isEmpty) 1 (List.map (fun b => [D.int IntKind.u8 (↑b.toNat : Int)]) (vb c.kind.toNat) ++ List.map (fun b => [D.int IntKind.u8 (↑b.toNat : Int)]) (vb c.client.toNat) ++ List.map (fun b => [D.int IntKind.u8 (↑b.toNat : Int)]) (vb c.seq.toNat) ++ List.map (fun b => [D.int IntKind.u8 (↑b.toNat : Int)]) (textB c.key) ++ List.map (fun b => [D.int IntKind.u8 (↑b.toNat : Int)]) (textB c.old) ++ List.map (fun b => [D.int IntKind.u8 (↑b.toNat : Int)]) (textB c.val) ++ List.map (fun b => [D.int IntKind.u8 (↑b.toNat : Int)]) (vb c.node.toNat))), [])))) (.ret (A.d (D.slice (true && (List.map (fun b => [D.int IntKind.u8 (↑b.toNat : Int)]) (vb c.kind.toNat) ++ List.map (fun b => [D.int IntKind.u8 (↑b.toNat : Int)]) (vb c.client.toNat) ++ List.map (fun b => [D.int IntKind.u8 (↑b.toNat : Int)]) (vb c.seq.toNat) ++ List.map (fun b => [D.int IntKind.u8 (↑b.toNat : Int)]) (textB c.key) ++ List.map (fun b => [D.int IntKind.u8 (↑b.toNat : Int)]) (textB c.old) ++ List.map (fun b => [D.int IntKind.u8 (↑b.toNat : Int)]) (textB c.val)).isEmpty) 1 (List.map (fun b => [D.int IntKind.u8 (↑b.toNat : Int)]) (vb c.kind.toNat) ++ List.map (fun b => [D.int IntKind.u8 (↑b.toNat : Int)]) (vb c.client.toNat) ++ List.map (fun b => [D.int IntKind.u8 (↑b.toNat : Int)]) (vb c.seq.toNat) ++ List.map (fun b => [D.int IntKind.u8 (↑b.toNat : Int)]) (textB c.key) ++ List.map (fun b => [D.int IntKind.u8 (↑b.toNat : Int)]) (textB c.old) ++ List.map (fun b => [D.int IntKind.u8 (↑b.toNat : Int)]) (textB c.val))), []))))))))) (.qs [false, false] (.q (c.kind == 5) (.call 130 [A.d (D.str c.val)] [] (A.d (D.slice false 1 (bR (textB c.val)))) [] (.chk (decide ((List.map (fun b => [D.int IntKind.u8 (↑b.toNat : Int)]) (vb c.kind.toNat) ++ List.map (fun b => [D.int IntKind.u8 (↑b.toNat : Int)]) (vb c.client.toNat) ++ List.map (fun b => [D.int IntKind.u8 (↑b.toNat : Int)]) (vb c.seq.toNat) ++ List.map (fun b => [D.int IntKind.u8 (↑b.toNat : Int)]) (textB c.key) ++ List.map (fun b => [D.int IntKind.u8 (↑b.toNat : Int)]) (textB c.old)).length + (List.map (fun b => [D.int IntKind.u8 (↑b.toNat : Int)]) (textB c.val)).length ≤ 68719476736)) (.q (v == 1) .stop (.qs [false, false] (.call 111 [A.d (D.int IntKind.i64 c.kind)] [] (A.d (D.bool (member c.kind))) [] (.q (member c.kind) (.call 92 [A.d (D.int IntKind.i64 c.node)] [] (A.own 0) [Ob.row true 5 1 (bR (vb c.node.toNat))] (.chk (decide ((List.map (fun b => [D.int IntKind.u8 (↑b.toNat : Int)]) (vb c.kind.toNat) ++ List.map (fun b => [D.int IntKind.u8 (↑b.toNat : Int)]) (vb c.client.toNat) ++ List.map (fun b => [D.int IntKind.u8 (↑b.toNat : Int)]) (vb c.seq.toNat) ++ List.map (fun b => [D.int IntKind.u8 (↑b.toNat : Int)]) (textB c.key) ++ List.map (fun b => [D.int IntKind.u8 (↑b.toNat : Int)]) (textB c.old) ++ List.map (fun b => [D.int IntKind.u8 (↑b.toNat : Int)]) (textB c.val)).length + (List.map (fun b => [D.int IntKind.u8 (↑b.toNat : Int)]) (vb c.node.toNat)).length ≤ 68719476736)) (.ret (A.d (D.slice (true && (List.map (fun b => [D.int IntKind.u8 (↑b.toNat : Int)]) (vb c.kind.toNat) ++ List.map (fun b => [D.int IntKind.u8 (↑b.toNat : Int)]) (vb c.client.toNat) ++ List.map (fun b => [D.int IntKind.u8 (↑b.toNat : Int)]) (vb c.seq.toNat) ++ List.map (fun b => [D.int IntKind.u8 (↑b.toNat : Int)]) (textB c.key) ++ List.map (fun b => [D.int IntKind.u8 (↑b.toNat : Int)]) (textB c.old) ++ List.map (fun b => [D.int IntKind.u8 (↑b.toNat : Int)]) (textB c.val) ++ List.map (fun b => [D.int IntKind.u8 (↑b.toNat : Int)]) (vb c.node.toNat)).isEmpty) 1 (List.map (fun b => [D.int IntKind.u8 (↑b.toNat : Int)]) (vb c.kind.toNat) ++ List.map (fun b => [D.int IntKind.u8 (↑b.toNat : Int)]) (vb c.client.toNat) ++ List.map (fun b => [D.int IntKind.u8 (↑b.toNat : Int)]) (vb c.seq.toNat) ++ List.map (fun b => [D.int IntKind.u8 (↑b.toNat : Int)]) (textB c.key) ++ List.map (fun b => [D.int IntKind.u8 (↑b.toNat : Int)]) (textB c.old) ++ List.map (fun b => [D.int IntKind.u8 (↑b.toNat : Int)]) (textB c.val) ++ List.map (fun b => [D.int IntKind.u8 (↑b.toNat : Int)]) (vb c.node.toNat))), [])))) (.ret (A.d (D.slice (true && (List.map (fun b => [D.int IntKind.u8 (↑b.toNat : Int)]) (vb c.kind.toNat) ++ List.map (fun b => [D.int IntKind.u8 (↑b.toNat : Int)]) (vb c.client.toNat) ++ List.map (fun b => [D.int IntKind.u8 (↑b.toNat : Int)]) (vb c.seq.toNat) ++ List.map (fun b => [D.int IntKind.u8 (↑b.toNat : Int)]) (textB c.key) ++ List.map (fun b => [D.int IntKind.u8 (↑b.toNat : Int)]) (textB c.old) ++ List.map (fun b => [D.int IntKind.u8 (↑b.toNat : Int)]) (textB c.val)).isEmpty) 1 (List.map (fun b => [D.int IntKind.u8 (↑b.toNat : Int)]) (vb c.kind.toNat) ++ List.map (fun b => [D.int IntKind.u8 (↑b.toNat : Int)]) (vb c.client.toNat) ++ List.map (fun b => [D.int IntKind.u8 (↑b.toNat : Int)]) (vb c.seq.toNat) ++ List.map (fun b => [D.int IntKind.u8 (↑b.toNat : Int)]) (textB c.key) ++ List.map (fun b => [D.int IntKind.u8 (↑b.toNat : Int)]) (textB c.old) ++ List.map (fun b => [D.int IntKind.u8 (↑b.toNat : Int)]) (textB c.val))), [])))))))) .stop))))))) (.q (v == 1) .stop (.qs [false, false] (.q (c.kind == 2) (.qs [true, true, true] (.call 130 [A.d (D.str c.val)] [] (A.d (D.slice false 1 (bR (textB c.val)))) [] (.chk (decide ((List.map (fun b => [D.int IntKind.u8 (↑b.toNat : Int)]) (vb c.kind.toNat) ++ List.map (fun b => [D.int IntKind.u8 (↑b.toNat : Int)]) (vb c.client.toNat) ++ List.map (fun b => [D.int IntKind.u8 (↑b.toNat : Int)]) (vb c.seq.toNat) ++ List.map (fun b => [D.int IntKind.u8 (↑b.toNat : Int)]) (textB c.key)).length + (List.map (fun b => [D.int IntKind.u8 (↑b.toNat : Int)]) (textB c.val)).length ≤ 68719476736)) (.q (v == 1) .stop (.qs [false, false] (.call 111 [A.d (D.int IntKind.i64 c.kind)] [] (A.d (D.bool (member c.kind))) [] (.q (member c.kind) (.call 92 [A.d (D.int IntKind.i64 c.node)] [] (A.own 0) [Ob.row true 5 1 (bR (vb c.node.toNat))] (.chk (decide ((List.map (fun b => [D.int IntKind.u8 (↑b.toNat : Int)]) (vb c.kind.toNat) ++ List.map (fun b => [D.int IntKind.u8 (↑b.toNat : Int)]) (vb c.client.toNat) ++ List.map (fun b => [D.int IntKind.u8 (↑b.toNat : Int)]) (vb c.seq.toNat) ++ List.map (fun b => [D.int IntKind.u8 (↑b.toNat : Int)]) (textB c.key) ++ List.map (fun b => [D.int IntKind.u8 (↑b.toNat : Int)]) (textB c.val)).length + (List.map (fun b => [D.int IntKind.u8 (↑b.toNat : Int)]) (vb c.node.toNat)).length ≤ 68719476736)) (.ret (A.d (D.slice (true && (List.map (fun b => [D.int IntKind.u8 (↑b.toNat : Int)]) (vb c.kind.toNat) ++ List.map (fun b => [D.int IntKind.u8 (↑b.toNat : Int)]) (vb c.client.toNat) ++ List.map (fun b => [D.int IntKind.u8 (↑b.toNat : Int)]) (vb c.seq.toNat) ++ List.map (fun b => [D.int IntKind.u8 (↑b.toNat : Int)]) (textB c.key) ++ List.map (fun b => [D.int IntKind.u8 (↑b.toNat : Int)]) (textB c.val) ++ List.map (fun b => [D.int IntKind.u8 (↑b.toNat : Int)]) (vb c.node.toNat)).isEmpty) 1 (List.map (fun b => [D.int IntKind.u8 (↑b.toNat : Int)]) (vb c.kind.toNat) ++ List.map (fun b => [D.int IntKind.u8 (↑b.toNat : Int)]) (vb c.client.toNat) ++ List.map (fun b => [D.int IntKind.u8 (↑b.toNat : Int)]) (vb c.seq.toNat) ++ List.map (fun b => [D.int IntKind.u8 (↑b.toNat : Int)]) (textB c.key) ++ List.map (fun b => [D.int IntKind.u8 (↑b.toNat : Int)]) (textB c.val) ++ List.map (fun b => [D.int IntKind.u8 (↑b.toNat : Int)]) (vb c.node.toNat))), [])))) (.ret (A.d (D.slice (true && (List.map (fun b => [D.int IntKind.u8 (↑b.toNat : Int)]) (vb c.kind.toNat) ++ List.map (fun b => [D.int IntKind.u8 (↑b.toNat : Int)]) (vb c.client.toNat) ++ List.map (fun b => [D.int IntKind.u8 (↑b.toNat : Int)]) (vb c.seq.toNat) ++ List.map (fun b => [D.int IntKind.u8 (↑b.toNat : Int)]) (textB c.key) ++ List.map (fun b => [D.int IntKind.u8 (↑b.toNat : Int)]) (textB c.val)).isEmpty) 1 (List.map (fun b => [D.int IntKind.u8 (↑b.toNat : Int)]) (vb c.kind.toNat) ++ List.map (fun b => [D.int IntKind.u8 (↑b.toNat : Int)]) (vb c.client.toNat) ++ List.map (fun b => [D.int IntKind.u8 (↑b.toNat : Int)]) (vb c.seq.toNat) ++ List.map (fun b => [D.int IntKind.u8 (↑b.toNat : Int)]) (textB c.key) ++ List.map (fun b => [D.int IntKind.u8 (↑b.toNat : Int)]) (textB c.val))), []))))))))) (.qs [false, false] (.q (c.kind == 5) .stop (.q (v == 1) .stop (.qs [false, false] (.call 111 [A.d (D.int IntKind.i64 c.kind)] [] (A.d (D.bool (member c.kind))) [] (.q (member c.kind) (.call 92 [A.d (D.int IntKind.i64 c.node)] [] (A.own 0) [Ob.row true 5 1 (bR (vb c.node.toNat))] (.chk (decide ((List.map (fun b => [D.int IntKind.u8 (↑b.toNat : Int)]) (vb c.kind.toNat) ++ List.map (fun b => [D.int IntKind.u8 (↑b.toNat : Int)]) (vb c.client.toNat) ++ List.map (fun b => [D.int IntKind.u8 (↑b.toNat : Int)]) (vb c.seq.toNat) ++ List.map (fun b => [D.int IntKind.u8 (↑b.toNat : Int)]) (textB c.key)).length + (List.map (fun b => [D.int IntKind.u8 (↑b.toNat : Int)]) (vb c.node.toNat)).length ≤ 68719476736)) (.ret (A.d (D.slice (true && (List.map (fun b => [D.int IntKind.u8 (↑b.toNat : Int)]) (vb c.kind.toNat) ++ List.map (fun b => [D.int IntKind.u8 (↑b.toNat : Int)]) (vb c.client.toNat) ++ List.map (fun b => [D.int IntKind.u8 (↑b.toNat : Int)]) (vb c.seq.toNat) ++ List.map (fun b => [D.int IntKind.u8 (↑b.toNat : Int)]) (textB c.key) ++ List.map (fun b => [D.int IntKind.u8 (↑b.toNat : Int)]) (vb c.node.toNat)).isEmpty) 1 (List.map (fun b => [D.int IntKind.u8 (↑b.toNat : Int)]) (vb c.kind.toNat) ++ List.map (fun b => [D.int IntKind.u8 (↑b.toNat : Int)]) (vb c.client.toNat) ++ List.map (fun b => [D.int IntKind.u8 (↑b.toNat : Int)]) (vb c.seq.toNat) ++ List.map (fun b => [D.int IntKind.u8 (↑b.toNat : Int)]) (textB c.key) ++ List.map (fun b => [D.int IntKind.u8 (↑b.toNat : Int)]) (vb c.node.toNat))), [])))) (.ret (A.d (D.slice (true && (List.map (fun b => [D.int IntKind.u8 (↑b.toNat : Int)]) (vb c.kind.toNat) ++ List.map (fun b => [D.int IntKind.u8 (↑b.toNat : Int)]) (vb c.client.toNat) ++ List.map (fun b => [D.int IntKind.u8 (↑b.toNat : Int)]) (vb c.seq.toNat) ++ List.map (fun b => [D.int IntKind.u8 (↑b.toNat : Int)]) (textB c.key)).isEmpty) 1 (List.map (fun b => [D.int IntKind.u8 (↑b.toNat : Int)]) (vb c.kind.toNat) ++ List.map (fun b => [D.int IntKind.u8 (↑b.toNat : Int)]) (vb c.client.toNat) ++ List.map (fun b => [D.int IntKind.u8 (↑b.toNat : Int)]) (vb c.seq.toNat) ++ List.map (fun b => [D.int IntKind.u8 (↑b.toNat : Int)]) (textB c.key))), []))))))))))))) (.qs [false, false, false] (.q (v == 1) .stop (.qs [false, false] (.q (c.kind == 2) (.qs [true, true, true] (.call 130 [A.d (D.str c.val)] [] (A.d (D.slice false 1 (bR (textB c.val)))) [] (.chk (decide ((List.map (fun b => [D.int IntKind.u8 (↑b.toNat : Int)]) (vb c.kind.toNat) ++ List.map (fun b => [D.int IntKind.u8 (↑b.toNat : Int)]) (vb c.client.toNat) ++ List.map (fun b => [D.int IntKind.u8 (↑b.toNat : Int)]) (vb c.seq.toNat) ++ List.map (fun b => [D.int IntKind.u8 (↑b.toNat : Int)]) (textB c.key)).length + (List.map (fun b => [D.int IntKind.u8 (↑b.toNat : Int)]) (textB c.val)).length ≤ 68719476736)) (.q (v == 1) .stop (.qs [false, false] (.call 111 [A.d (D.int IntKind.i64 c.kind)] [] (A.d (D.bool (member c.kind))) [] (.q (member c.kind) (.call 92 [A.d (D.int IntKind.i64 c.node)] [] (A.own 0) [Ob.row true 5 1 (bR (vb c.node.toNat))] (.chk (decide ((List.map (fun b => [D.int IntKind.u8 (↑b.toNat : Int)]) (vb c.kind.toNat) ++ List.map (fun b => [D.int IntKind.u8 (↑b.toNat : Int)]) (vb c.client.toNat) ++ List.map (fun b => [D.int IntKind.u8 (↑b.toNat : Int)]) (vb c.seq.toNat) ++ List.map (fun b => [D.int IntKind.u8 (↑b.toNat : Int)]) (textB c.key) ++ List.map (fun b => [D.int IntKind.u8 (↑b.toNat : Int)]) (textB c.val)).length + (List.map (fun b => [D.int IntKind.u8 (↑b.toNat : Int)]) (vb c.node.toNat)).length ≤ 68719476736)) (.ret (A.d (D.slice (true && (List.map (fun b => [D.int IntKind.u8 (↑b.toNat : Int)]) (vb c.kind.toNat) ++ List.map (fun b => [D.int IntKind.u8 (↑b.toNat : Int)]) (vb c.client.toNat) ++ List.map (fun b => [D.int IntKind.u8 (↑b.toNat : Int)]) (vb c.seq.toNat) ++ List.map (fun b => [D.int IntKind.u8 (↑b.toNat : Int)]) (textB c.key) ++ List.map (fun b => [D.int IntKind.u8 (↑b.toNat : Int)]) (textB c.val) ++ List.map (fun b => [D.int IntKind.u8 (↑b.toNat : Int)]) (vb c.node.toNat)).isEmpty) 1 (List.map (fun b => [D.int IntKind.u8 (↑b.toNat : Int)]) (vb c.kind.toNat) ++ List.map (fun b => [D.int IntKind.u8 (↑b.toNat : Int)]) (vb c.client.toNat) ++ List.map (fun b => [D.int IntKind.u8 (↑b.toNat : Int)]) (vb c.seq.toNat) ++ List.map (fun b => [D.int IntKind.u8 (↑b.toNat : Int)]) (textB c.key) ++ List.map (fun b => [D.int IntKind.u8 (↑b.toNat : Int)]) (textB c.val) ++ List.map (fun b => [D.int IntKind.u8 (↑b.toNat : Int)]) (vb c.node.toNat))), [])))) (.ret (A.d (D.slice (true && (List.map (fun b => [D.int IntKind.u8 (↑b.toNat : Int)]) (vb c.kind.toNat) ++ List.map (fun b => [D.int IntKind.u8 (↑b.toNat : Int)]) (vb c.client.toNat) ++ List.map (fun b => [D.int IntKind.u8 (↑b.toNat : Int)]) (vb c.seq.toNat) ++ List.map (fun b => [D.int IntKind.u8 (↑b.toNat : Int)]) (textB c.key) ++ List.map (fun b => [D.int IntKind.u8 (↑b.toNat : Int)]) (textB c.val)).isEmpty) 1 (List.map (fun b => [D.int IntKind.u8 (↑b.toNat : Int)]) (vb c.kind.toNat) ++ List.map (fun b => [D.int IntKind.u8 (↑b.toNat : Int)]) (vb c.client.toNat) ++ List.map (fun b => [D.int IntKind.u8 (↑b.toNat : Int)]) (vb c.seq.toNat) ++ List.map (fun b => [D.int IntKind.u8 (↑b.toNat : Int)]) (textB c.key) ++ List.map (fun b => [D.int IntKind.u8 (↑b.toNat : Int)]) (textB c.val))), []))))))))) (.qs [false, false] (.q (c.kind == 5) (.call 130 [A.d (D.str c.val)] [] (A.d (D.slice false 1 (bR (textB c.val)))) [] (.chk (decide ((List.map (fun b => [D.int IntKind.u8 (↑b.toNat : Int)]) (vb c.kind.toNat) ++ List.map (fun b => [D.int IntKind.u8 (↑b.toNat : Int)]) (vb c.client.toNat) ++ List.map (fun b => [D.int IntKind.u8 (↑b.toNat : Int)]) (vb c.seq.toNat) ++ List.map (fun b => [D.int IntKind.u8 (↑b.toNat : Int)]) (textB c.key)).length + (List.map (fun b => [D.int IntKind.u8 (↑b.toNat : Int)]) (textB c.val)).length ≤ 68719476736)) (.q (v == 1) .stop (.qs [false, false] (.call 111 [A.d (D.int IntKind.i64 c.kind)] [] (A.d (D.bool (member c.kind))) [] (.q (member c.kind) (.call 92 [A.d (D.int IntKind.i64 c.node)] [] (A.own 0) [Ob.row true 5 1 (bR (vb c.node.toNat))] (.chk (decide ((List.map (fun b => [D.int IntKind.u8 (↑b.toNat : Int)]) (vb c.kind.toNat) ++ List.map (fun b => [D.int IntKind.u8 (↑b.toNat : Int)]) (vb c.client.toNat) ++ List.map (fun b => [D.int IntKind.u8 (↑b.toNat : Int)]) (vb c.seq.toNat) ++ List.map (fun b => [D.int IntKind.u8 (↑b.toNat : Int)]) (textB c.key) ++ List.map (fun b => [D.int IntKind.u8 (↑b.toNat : Int)]) (textB c.val)).length + (List.map (fun b => [D.int IntKind.u8 (↑b.toNat : Int)]) (vb c.node.toNat)).length ≤ 68719476736)) (.ret (A.d (D.slice (true && (List.map (fun b => [D.int IntKind.u8 (↑b.toNat : Int)]) (vb c.kind.toNat) ++ List.map (fun b => [D.int IntKind.u8 (↑b.toNat : Int)]) (vb c.client.toNat) ++ List.map (fun b => [D.int IntKind.u8 (↑b.toNat : Int)]) (vb c.seq.toNat) ++ List.map (fun b => [D.int IntKind.u8 (↑b.toNat : Int)]) (textB c.key) ++ List.map (fun b => [D.int IntKind.u8 (↑b.toNat : Int)]) (textB c.val) ++ List.map (fun b => [D.int IntKind.u8 (↑b.toNat : Int)]) (vb c.node.toNat)).isEmpty) 1 (List.map (fun b => [D.int IntKind.u8 (↑b.toNat : Int)]) (vb c.kind.toNat) ++ List.map (fun b => [D.int IntKind.u8 (↑b.toNat : Int)]) (vb c.client.toNat) ++ List.map (fun b => [D.int IntKind.u8 (↑b.toNat : Int)]) (vb c.seq.toNat) ++ List.map (fun b => [D.int IntKind.u8 (↑b.toNat : Int)]) (textB c.key) ++ List.map (fun b => [D.int IntKind.u8 (↑b.toNat : Int)]) (textB c.val) ++ List.map (fun b => [D.int IntKind.u8 (↑b.toNat : Int)]) (vb c.node.toNat))), [])))) (.ret (A.d (D.slice (true && (List.map (fun b => [D.int IntKind.u8 (↑b.toNat : Int)]) (vb c.kind.toNat) ++ List.map (fun b => [D.int IntKind.u8 (↑b.toNat : Int)]) (vb c.client.toNat) ++ List.map (fun b => [D.int IntKind.u8 (↑b.toNat : Int)]) (vb c.seq.toNat) ++ List.map (fun b => [D.int IntKind.u8 (↑b.toNat : Int)]) (textB c.key) ++ List.map (fun b => [D.int IntKind.u8 (↑b.toNat : Int)]) (textB c.val)).isEmpty) 1 (List.map (fun b => [D.int IntKind.u8 (↑b.toNat : Int)]) (vb c.kind.toNat) ++ List.map (fun b => [D.int IntKind.u8 (↑b.toNat : Int)]) (vb c.client.toNat) ++ List.map (fun b => [D.int IntKind.u8 (↑b.toNat : Int)]) (vb c.seq.toNat) ++ List.map (fun b => [D.int IntKind.u8 (↑b.toNat : Int)]) (textB c.key) ++ List.map (fun b => [D.int IntKind.u8 (↑b.toNat : Int)]) (textB c.val))), [])))))))) (.q (v == 1) .stop (.qs [false, false] (.call 111 [A.d (D.int IntKind.i64 c.kind)] [] (A.d (D.bool (member c.kind))) [] (.q (member c.kind) (.call 92 [A.d (D.int IntKind.i64 c.node)] [] (A.own 0) [Ob.row true 5 1 (bR (vb c.node.toNat))] (.chk (decide ((List.map (fun b => [D.int IntKind.u8 (↑b.toNat : Int)]) (vb c.kind.toNat) ++ List.map (fun b => [D.int IntKind.u8 (↑b.toNat : Int)]) (vb c.client.toNat) ++ List.map (fun b => [D.int IntKind.u8 (↑b.toNat : Int)]) (vb c.seq.toNat) ++ List.map (fun b => [D.int IntKind.u8 (↑b.toNat : Int)]) (textB c.key)).length + (List.map (fun b => [D.int IntKind.u8 (↑b.toNat : Int)]) (vb c.node.toNat)).length ≤ 68719476736)) (.ret (A.d (D.slice (true && (List.map (fun b => [D.int IntKind.u8 (↑b.toNat : Int)]) (vb c.kind.toNat) ++ List.map (fun b => [D.int IntKind.u8 (↑b.toNat : Int)]) (vb c.client.toNat) ++ List.map (fun b => [D.int IntKind.u8 (↑b.toNat : Int)]) (vb c.seq.toNat) ++ List.map (fun b => [D.int IntKind.u8 (↑b.toNat : Int)]) (textB c.key) ++ List.map (fun b => [D.int IntKind.u8 (↑b.toNat : Int)]) (vb c.node.toNat)).isEmpty) 1 (List.map (fun b => [D.int IntKind.u8 (↑b.toNat : Int)]) (vb c.kind.toNat) ++ List.map (fun b => [D.int IntKind.u8 (↑b.toNat : Int)]) (vb c.client.toNat) ++ List.map (fun b => [D.int IntKind.u8 (↑b.toNat : Int)]) (vb c.seq.toNat) ++ List.map (fun b => [D.int IntKind.u8 (↑b.toNat : Int)]) (textB c.key) ++ List.map (fun b => [D.int IntKind.u8 (↑b.toNat : Int)]) (vb c.node.toNat))), [])))) (.ret (A.d (D.slice (true && (List.map (fun b => [D.int IntKind.u8 (↑b.toNat : Int)]) (vb c.kind.toNat) ++ List.map (fun b => [D.int IntKind.u8 (↑b.toNat : Int)]) (vb c.client.toNat) ++ List.map (fun b => [D.int IntKind.u8 (↑b.toNat : Int)]) (vb c.seq.toNat) ++ List.map (fun b => [D.int IntKind.u8 (↑b.toNat : Int)]) (textB c.key)).isEmpty) 1 (List.map (fun b => [D.int IntKind.u8 (↑b.toNat : Int)]) (vb c.kind.toNat) ++ List.map (fun b => [D.int IntKind.u8 (↑b.toNat : Int)]) (vb c.client.toNat) ++ List.map (fun b => [D.int IntKind.u8 (↑b.toNat : Int)]) (vb c.seq.toNat) ++ List.map (fun b => [D.int IntKind.u8 (↑b.toNat : Int)]) (textB c.key))), []))))))))))))))))))) (.q (!v == 1) (.qs [true, true] (.q (c.kind == 5) (.call 130 [A.d (D.str c.old)] [] (A.d (D.slice false 1 (bR (textB c.old)))) [] (.chk (decide ((List.map (fun b => [D.int IntKind.u8 (↑b.toNat : Int)]) (vb c.kind.toNat)).length + (List.map (fun b => [D.int IntKind.u8 (↑b.toNat : Int)]) (textB c.old)).length ≤ 68719476736)) (.q (v == 1) .stop (.qs [false, false] (.q (c.kind == 2) (.qs [true, true, true] (.call 130 [A.d (D.str c.val)] [] (A.d (D.slice false 1 (bR (textB c.val)))) [] (.chk (decide ((List.map (fun b => [D.int IntKind.u8 (↑b.toNat : Int)]) (vb c.kind.toNat) ++ List.map (fun b => [D.int IntKind.u8 (↑b.toNat : Int)]) (textB c.old)).length + (List.map (fun b => [D.int IntKind.u8 (↑b.toNat : Int)]) (textB c.val)).length ≤ 68719476736)) (.q (v == 1) .stop (.qs [false, false] (.call 111 [A.d (D.int IntKind.i64 c.kind)] [] (A.d (D.bool (member c.kind))) [] (.q (member c.kind) (.call 92 [A.d (D.int IntKind.i64 c.node)] [] (A.own 0) [Ob.row true 5 1 (bR (vb c.node.toNat))] (.chk (decide ((List.map (fun b => [D.int IntKind.u8 (↑b.toNat : Int)]) (vb c.kind.toNat) ++ List.map (fun b => [D.int IntKind.u8 (↑b.toNat : Int)]) (textB c.old) ++ List.map (fun b => [D.int IntKind.u8 (↑b.toNat : Int)]) (textB c.val)).length + (List.map (fun b => [D.int IntKind.u8 (↑b.toNat : Int)]) (vb c.node.toNat)).length ≤ 68719476736)) (.ret (A.d (D.slice (true && (List.map (fun b => [D.int IntKind.u8 (↑b.toNat : Int)]) (vb c.kind.toNat) ++ List.map (fun b => [D.int IntKind.u8 (↑b.toNat : Int)]) (textB c.old) ++ List.map (fun b => [D.int IntKind.u8 (↑b.toNat : Int)]) (textB c.val) ++ List.map (fun b => [D.int IntKind.u8 (↑b.toNat : Int)]) (vb c.node.toNat)).isEmpty) 1 (List.map (fun b => [D.int IntKind.u8 (↑b.toNat : Int)]) (vb c.kind.toNat) ++ List.map (fun b => [D.int IntKind.u8 (↑b.toNat : Int)]) (textB c.old) ++ List.map (fun b => [D.int IntKind.u8 (↑b.toNat : Int)]) (textB c.val) ++ List.map (fun b => [D.int IntKind.u8 (↑b.toNat : Int)]) (vb c.node.toNat))), [])))) (.ret (A.d (D.slice (true && (List.map (fun b => [D.int IntKind.u8 (↑b.toNat : Int)]) (vb c.kind.toNat) ++ List.map (fun b => [D.int IntKind.u8 (↑b.toNat : Int)]) (textB c.old) ++ List.map (fun b => [D.int IntKind.u8 (↑b.toNat : Int)]) (textB c.val)).isEmpty) 1 (List.map (fun b => [D.int IntKind.u8 (↑b.toNat : Int)]) (vb c.kind.toNat) ++ List.map (fun b => [D.int IntKind.u8 (↑b.toNat : Int)]) (textB c.old) ++ List.map (fun b => [D.int IntKind.u8 (↑b.toNat : Int)]) (textB c.val))), []))))))))) (.qs [false, false] (.q (c.kind == 5) (.call 130 [A.d (D.str c.val)] [] (A.d (D.slice false 1 (bR (textB c.val)))) [] (.chk (decide ((List.map (fun b => [D.int IntKind.u8 (↑b.toNat : Int)]) (vb c.kind.toNat) ++ List.map (fun b => [D.int IntKind.u8 (↑b.toNat : Int)]) (textB c.old)).length + (List.map (fun b => [D.int IntKind.u8 (↑b.toNat : Int)]) (textB c.val)).length ≤ 68719476736)) (.q (v == 1) .stop (.qs [false, false] (.call 111 [A.d (D.int IntKind.i64 c.kind)] [] (A.d (D.bool (member c.kind))) [] (.q (member c.kind) (.call 92 [A.d (D.int IntKind.i64 c.node)] [] (A.own 0) [Ob.row true 5 1 (bR (vb c.node.toNat))] (.chk (decide ((List.map (fun b => [D.int IntKind.u8 (↑b.toNat : Int)]) (vb c.kind.toNat) ++ List.map (fun b => [D.int IntKind.u8 (↑b.toNat : Int)]) (textB c.old) ++ List.map (fun b => [D.int IntKind.u8 (↑b.toNat : Int)]) (textB c.val)).length + (List.map (fun b => [D.int IntKind.u8 (↑b.toNat : Int)]) (vb c.node.toNat)).length ≤ 68719476736)) (.ret (A.d (D.slice (true && (List.map (fun b => [D.int IntKind.u8 (↑b.toNat : Int)]) (vb c.kind.toNat) ++ List.map (fun b => [D.int IntKind.u8 (↑b.toNat : Int)]) (textB c.old) ++ List.map (fun b => [D.int IntKind.u8 (↑b.toNat : Int)]) (textB c.val) ++ List.map (fun b => [D.int IntKind.u8 (↑b.toNat : Int)]) (vb c.node.toNat)).isEmpty) 1 (List.map (fun b => [D.int IntKind.u8 (↑b.toNat : Int)]) (vb c.kind.toNat) ++ List.map (fun b => [D.int IntKind.u8 (↑b.toNat : Int)]) (textB c.old) ++ List.map (fun b => [D.int IntKind.u8 (↑b.toNat : Int)]) (textB c.val) ++ List.map (fun b => [D.int IntKind.u8 (↑b.toNat : Int)]) (vb c.node.toNat))), [])))) (.ret (A.d (D.slice (true && (List.map (fun b => [D.int IntKind.u8 (↑b.toNat : Int)]) (vb c.kind.toNat) ++ List.map (fun b => [D.int IntKind.u8 (↑b.toNat : Int)]) (textB c.old) ++ List.map (fun b => [D.int IntKind.u8 (↑b.toNat : Int)]) (textB c.val)).isEmpty) 1 (List.map (fun b => [D.int IntKind.u8 (↑b.toNat : Int)]) (vb c.kind.toNat) ++ List.map (fun b => [D.int IntKind.u8 (↑b.toNat : Int)]) (textB c.old) ++ List.map (fun b => [D.int IntKind.u8 (↑b.toNat : Int)]) (textB c.val))), [])))))))) .stop))))))) (.q (v == 1) .stop (.qs [false, false] (.q (c.kind == 2) (.qs [true, true, true] (.call 130 [A.d (D.str c.val)] [] (A.d (D.slice false 1 (bR (textB c.val)))) [] (.chk (decide ((List.map (fun b => [D.int IntKind.u8 (↑b.toNat : Int)]) (vb c.kind.toNat)).length + (List.map (fun b => [D.int IntKind.u8 (↑b.toNat : Int)]) (textB c.val)).length ≤ 68719476736)) (.q (v == 1) .stop (.qs [false, false] (.call 111 [A.d (D.int IntKind.i64 c.kind)] [] (A.d (D.bool (member c.kind))) [] (.q (member c.kind) (.call 92 [A.d (D.int IntKind.i64 c.node)] [] (A.own 0) [Ob.row true 5 1 (bR (vb c.node.toNat))] (.chk (decide ((List.map (fun b => [D.int IntKind.u8 (↑b.toNat : Int)]) (vb c.kind.toNat) ++ List.map (fun b => [D.int IntKind.u8 (↑b.toNat : Int)]) (textB c.val)).length + (List.map (fun b => [D.int IntKind.u8 (↑b.toNat : Int)]) (vb c.node.toNat)).length ≤ 68719476736)) (.ret (A.d (D.slice (true && (List.map (fun b => [D.int IntKind.u8 (↑b.toNat : Int)]) (vb c.kind.toNat) ++ List.map (fun b => [D.int IntKind.u8 (↑b.toNat : Int)]) (textB c.val) ++ List.map (fun b => [D.int IntKind.u8 (↑b.toNat : Int)]) (vb c.node.toNat)).isEmpty) 1 (List.map (fun b => [D.int IntKind.u8 (↑b.toNat : Int)]) (vb c.kind.toNat) ++ List.map (fun b => [D.int IntKind.u8 (↑b.toNat : Int)]) (textB c.val) ++ List.map (fun b => [D.int IntKind.u8 (↑b.toNat : Int)]) (vb c.node.toNat))), [])))) (.ret (A.d (D.slice (true && (List.map (fun b => [D.int IntKind.u8 (↑b.toNat : Int)]) (vb c.kind.toNat) ++ List.map (fun b => [D.int IntKind.u8 (↑b.toNat : Int)]) (textB c.val)).isEmpty) 1 (List.map (fun b => [D.int IntKind.u8 (↑b.toNat : Int)]) (vb c.kind.toNat) ++ List.map (fun b => [D.int IntKind.u8 (↑b.toNat : Int)]) (textB c.val))), []))))))))) (.qs [false, false] (.q (c.kind == 5) .stop (.q (v == 1) .stop (.qs [false, false] (.call 111 [A.d (D.int IntKind.i64 c.kind)] [] (A.d (D.bool (member c.kind))) [] (.q (member c.kind) (.call 92 [A.d (D.int IntKind.i64 c.node)] [] (A.own 0) [Ob.row true 5 1 (bR (vb c.node.toNat))] (.chk (decide ((List.map (fun b => [D.int IntKind.u8 (↑b.toNat : Int)]) (vb c.kind.toNat)).length + (List.map (fun b => [D.int IntKind.u8 (↑b.toNat : Int)]) (vb c.node.toNat)).length ≤ 68719476736)) (.ret (A.d (D.slice (true && (List.map (fun b => [D.int IntKind.u8 (↑b.toNat : Int)]) (vb c.kind.toNat) ++ List.map (fun b => [D.int IntKind.u8 (↑b.toNat : Int)]) (vb c.node.toNat)).isEmpty) 1 (List.map (fun b => [D.int IntKind.u8 (↑b.toNat : Int)]) (vb c.kind.toNat) ++ List.map (fun b => [D.int IntKind.u8 (↑b.toNat : Int)]) (vb c.node.toNat))), [])))) (.ret (A.d (D.slice (true && (List.map (fun b => [D.int IntKind.u8 (↑b.toNat : Int)]) (vb c.kind.toNat)).isEmpty) 1 (List.map (fun b => [D.int IntKind.u8 (↑b.toNat : Int)]) (vb c.kind.toNat))), []))))))))))))) (.qs [false, false, false] (.q (v == 1) .stop (.qs [false, false] (.q (c.kind == 2) (.qs [true, true, true] (.call 130 [A.d (D.str c.val)] [] (A.d (D.slice false 1 (bR (textB c.val)))) [] (.chk (decide ((List.map (fun b => [D.int IntKind.u8 (↑b.toNat : Int)]) (vb c.kind.toNat)).length + (List.map (fun b => [D.int IntKind.u8 (↑b.toNat : Int)]) (textB c.val)).length ≤ 68719476736)) (.q (v == 1) .stop (.qs [false, false] (.call 111 [A.d (D.int IntKind.i64 c.kind)] [] (A.d (D.bool (member c.kind))) [] (.q (member c.kind) (.call 92 [A.d (D.int IntKind.i64 c.node)] [] (A.own 0) [Ob.row true 5 1 (bR (vb c.node.toNat))] (.chk (decide ((List.map (fun b => [D.int IntKind.u8 (↑b.toNat : Int)]) (vb c.kind.toNat) ++ List.map (fun b => [D.int IntKind.u8 (↑b.toNat : Int)]) (textB c.val)).length + (List.map (fun b => [D.int IntKind.u8 (↑b.toNat : Int)]) (vb c.node.toNat)).length ≤ 68719476736)) (.ret (A.d (D.slice (true && (List.map (fun b => [D.int IntKind.u8 (↑b.toNat : Int)]) (vb c.kind.toNat) ++ List.map (fun b => [D.int IntKind.u8 (↑b.toNat : Int)]) (textB c.val) ++ List.map (fun b => [D.int IntKind.u8 (↑b.toNat : Int)]) (vb c.node.toNat)).isEmpty) 1 (List.map (fun b => [D.int IntKind.u8 (↑b.toNat : Int)]) (vb c.kind.toNat) ++ List.map (fun b => [D.int IntKind.u8 (↑b.toNat : Int)]) (textB c.val) ++ List.map (fun b => [D.int IntKind.u8 (↑b.toNat : Int)]) (vb c.node.toNat))), [])))) (.ret (A.d (D.slice (true && (List.map (fun b => [D.int IntKind.u8 (↑b.toNat : Int)]) (vb c.kind.toNat) ++ List.map (fun b => [D.int IntKind.u8 (↑b.toNat : Int)]) (textB c.val)).isEmpty) 1 (List.map (fun b => [D.int IntKind.u8 (↑b.toNat : Int)]) (vb c.kind.toNat) ++ List.map (fun b => [D.int IntKind.u8 (↑b.toNat : Int)]) (textB c.val))), []))))))))) (.qs [false, false] (.q (c.kind == 5) (.call 130 [A.d (D.str c.val)] [] (A.d (D.slice false 1 (bR (textB c.val)))) [] (.chk (decide ((List.map (fun b => [D.int IntKind.u8 (↑b.toNat : Int)]) (vb c.kind.toNat)).length + (List.map (fun b => [D.int IntKind.u8 (↑b.toNat : Int)]) (textB c.val)).length ≤ 68719476736)) (.q (v == 1) .stop (.qs [false, false] (.call 111 [A.d (D.int IntKind.i64 c.kind)] [] (A.d (D.bool (member c.kind))) [] (.q (member c.kind) (.call 92 [A.d (D.int IntKind.i64 c.node)] [] (A.own 0) [Ob.row true 5 1 (bR (vb c.node.toNat))] (.chk (decide ((List.map (fun b => [D.int IntKind.u8 (↑b.toNat : Int)]) (vb c.kind.toNat) ++ List.map (fun b => [D.int IntKind.u8 (↑b.toNat : Int)]) (textB c.val)).length + (List.map (fun b => [D.int IntKind.u8 (↑b.toNat : Int)]) (vb c.node.toNat)).length ≤ 68719476736)) (.ret (A.d (D.slice (true && (List.map (fun b => [D.int IntKind.u8 (↑b.toNat : Int)]) (vb c.kind.toNat) ++ List.map (fun b => [D.int IntKind.u8 (↑b.toNat : Int)]) (textB c.val) ++ List.map (fun b => [D.int IntKind.u8 (↑b.toNat : Int)]) (vb c.node.toNat)).isEmpty) 1 (List.map (fun b => [D.int IntKind.u8 (↑b.toNat : Int)]) (vb c.kind.toNat) ++ List.map (fun b => [D.int IntKind.u8 (↑b.toNat : Int)]) (textB c.val) ++ List.map (fun b => [D.int IntKind.u8 (↑b.toNat : Int)]) (vb c.node.toNat))), [])))) (.ret (A.d (D.slice (true && (List.map (fun b => [D.int IntKind.u8 (↑b.toNat : Int)]) (vb c.kind.toNat) ++ List.map (fun b => [D.int IntKind.u8 (↑b.toNat : Int)]) (textB c.val)).isEmpty) 1 (List.map (fun b => [D.int IntKind.u8 (↑b.toNat : Int)]) (vb c.kind.toNat) ++ List.map (fun b => [D.int IntKind.u8 (↑b.toNat : Int)]) (textB c.val))), [])))))))) (.q (v == 1) .stop (.qs [false, false] (.call 111 [A.d (D.int IntKind.i64 c.kind)] [] (A.d (D.bool (member c.kind))) [] (.q (member c.kind) (.call 92 [A.d (D.int IntKind.i64 c.node)] [] (A.own 0) [Ob.row true 5 1 (bR (vb c.node.toNat))] (.chk (decide ((List.map (fun b => [D.int IntKind.u8 (↑b.toNat : Int)]) (vb c.kind.toNat)).length + (List.map (fun b => [D.int IntKind.u8 (↑b.toNat : Int)]) (vb c.node.toNat)).length ≤ 68719476736)) (.ret (A.d (D.slice (true && (List.map (fun b => [D.int IntKind.u8 (↑b.toNat : Int)]) (vb c.kind.toNat) ++ List.map (fun b => [D.int IntKind.u8 (↑b.toNat : Int)]) (vb c.node.toNat)).isEmpty) 1 (List.map (fun b => [D.int IntKind.u8 (↑b.toNat : Int)]) (vb c.kind.toNat) ++ List.map (fun b => [D.int IntKind.u8 (↑b.toNat : Int)]) (vb c.node.toNat))), [])))) (.ret (A.d (D.slice (true && (List.map (fun b => [D.int IntKind.u8 (↑b.toNat : Int)]) (vb c.kind.toNat)).isEmpty) 1 (List.map (fun b => [D.int IntKind.u8 (↑b.toNat : Int)]) (vb c.kind.toNat))), [])))))))))))))))))) (by kernel_rfl) (Go.Ab.vc_call (c_refBytesO c.kind (by first | exact hc.1 | exact hc.2.1 | exact hc.2.2.1 | exact hc.2.2.2.1 | exact hc.2.2.2.2.1 | exact hc.2.2.2.2.2.1 | exact hc.2.2.2.2.2.2)) (Go.Ab.vc_q (fun h0 => Go.Ab.vc_qs (Go.Ab.vc_call (c_refBytesO c.client (by first | exact hc.1 | exact hc.2.1 | exact hc.2.2.1 | exact hc.2.2.2.1 | exact hc.2.2.2.2.1 | exact hc.2.2.2.2.2.1 | exact hc.2.2.2.2.2.2)) (Go.Ab.vc_chk (by (obtain ⟨q1, q2, q3, q4, q5, q6, q7⟩ := hc; have w1 := vbR_len q1; have w2 := vbR_len q2; have w3 := vbR_len q3; have w4 := vbR_len q4; have w5 := textB_len _ q5; have w6 := textB_len _ q6; have w7 := textB_len _ q7; simp only [List.length_append, List.length_map]; exact decide_eq_true (by omega))) (Go.Ab.vc_call (c_refBytesO c.seq (by first | exact hc.1 | exact hc.2.1 | exact hc.2.2.1 | exact hc.2.2.2.1 | exact hc.2.2.2.2.1 | exact hc.2.2.2.2.2.1 | exact hc.2.2.2.2.2.2)) (Go.Ab.vc_chk (by (obtain ⟨q1, q2, q3, q4, q5, q6, q7⟩ := hc; have w1 := vbR_len q1; have w2 := vbR_len q2; have w3 := vbR_len q3; have w4 := vbR_len q4; have w5 := textB_len _ q5; have w6 := textB_len _ q6; have w7 := textB_len _ q7; simp only [List.length_append, List.length_map]; exact decide_eq_true (by omega))) (Go.Ab.vc_call (c_refText c.key (by first | exact hc.1 | exact hc.2.1 | exact hc.2.2.1 | exact hc.2.2.2.1 | exact hc.2.2.2.2.1 | exact hc.2.2.2.2.2.1 | exact hc.2.2.2.2.2.2)) (Go.Ab.vc_chk (by (obtain ⟨q1, q2, q3, q4, q5, q6, q7⟩ := hc; have w1 := vbR_len q1; have w2 := vbR_len q2; have w3 := vbR_len q3; have w4 := vbR_len q4; have w5 := textB_len _ q5; have w6 := textB_len _ q6; have w7 := textB_len _ q7; simp only [List.length_append, List.length_map]; exact decide_eq_true (by omega))) (Go.Ab.vc_q (fun h1 => Go.Ab.vc_qs (Go.Ab.vc_q (fun h2 => Go.Ab.vc_call (c_refText c.old (by first | exact hc.1 | exact hc.2.1 | exact hc.2.2.1 | exact hc.2.2.2.1 | exact hc.2.2.2.2.1 | exact hc.2.2.2.2.2.1 | exact hc.2.2.2.2.2.2)) (Go.Ab.vc_chk (by (obtain ⟨q1, q2, q3, q4, q5, q6, q7⟩ := hc; have w1 := vbR_len q1; have w2 := vbR_len q2; have w3 := vbR_len q3; have w4 := vbR_len q4; have w5 := textB_len _ q5; have w6 := textB_len _ q6; have w7 := textB_len _ q7; simp only [List.length_append, List.length_map]; exact decide_eq_true (by omega))) (Go.Ab.vc_q (fun _ => Go.Ab.vc_qs (Go.Ab.vc_call (c_refText c.val (by first | exact hc.1 | exact hc.2.1 | exact hc.2.2.1 | exact hc.2.2.2.1 | exact hc.2.2.2.2.1 | exact hc.2.2.2.2.2.1 | exact hc.2.2.2.2.2.2)) (Go.Ab.vc_chk (by (obtain ⟨q1, q2, q3, q4, q5, q6, q7⟩ := hc; have w1 := vbR_len q1; have w2 := vbR_len q2; have w3 := vbR_len q3; have w4 := vbR_len q4; have w5 := textB_len _ q5; have w6 := textB_len _ q6; have w7 := textB_len _ q7; simp only [List.length_append, List.length_map]; exact decide_eq_true (by omega))) (Go.Ab.vc_q (fun _ => Go.Ab.vc_qs (Go.Ab.vc_call (c_refBytesO c.node (by first | exact hc.1 | exact hc.2.1 | exact hc.2.2.1 | exact hc.2.2.2.1 | exact hc.2.2.2.2.1 | exact hc.2.2.2.2.2.1 | exact hc.2.2.2.2.2.2)) (Go.Ab.vc_chk (by (obtain ⟨q1, q2, q3, q4, q5, q6, q7⟩ := hc; have w1 := vbR_len q1; have w2 := vbR_len q2; have w3 := vbR_len q3; have w4 := vbR_len q4; have w5 := textB_len _ q5; have w6 := textB_len _ q6; have w7 := textB_len _ q7; simp only [List.length_append, List.length_map]; exact decide_eq_true (by omega))) (Go.Ab.vc_ret ?_)))) (fun hp => absurd hp (by intro hp; exact (by simp_all : False))))))) (fun hp => absurd hp (by intro hp; exact (by simp_all : False)))))) (fun h2 => Go.Ab.vc_q (fun _ => Go.Ab.vc_qs (Go.Ab.vc_call (c_refText c.val (by first | exact hc.1 | exact hc.2.1 | exact hc.2.2.1 | exact hc.2.2.2.1 | exact hc.2.2.2.2.1 | exact hc.2.2.2.2.2.1 | exact hc.2.2.2.2.2.2)) (Go.Ab.vc_chk (by (obtain ⟨q1, q2, q3, q4, q5, q6, q7⟩ := hc; have w1 := vbR_len q1; have w2 := vbR_len q2; have w3 := vbR_len q3; have w4 := vbR_len q4; have w5 := textB_len _ q5; have w6 := textB_len _ q6; have w7 := textB_len _ q7; simp only [List.length_append, List.length_map]; exact decide_eq_true (by omega))) (Go.Ab.vc_q (fun _ => Go.Ab.vc_qs (Go.Ab.vc_call (c_refBytesO c.node (by first | exact hc.1 | exact hc.2.1 | exact hc.2.2.1 | exact hc.2.2.2.1 | exact hc.2.2.2.2.1 | exact hc.2.2.2.2.2.1 | exact hc.2.2.2.2.2.2)) (Go.Ab.vc_chk (by (obtain ⟨q1, q2, q3, q4, q5, q6, q7⟩ := hc; have w1 := vbR_len q1; have w2 := vbR_len q2; have w3 := vbR_len q3; have w4 := vbR_len q4; have w5 := textB_len _ q5; have w6 := textB_len _ q6; have w7 := textB_len _ q7; simp only [List.length_append, List.length_map]; exact decide_eq_true (by omega))) (Go.Ab.vc_ret ?_)))) (fun hp => absurd hp (by intro hp; exact (by simp_all : False))))))) (fun hp => absurd hp (by intro hp; exact (by simp_all : False)))))) (fun h1 => Go.Ab.vc_qs (Go.Ab.vc_q (fun _ => Go.Ab.vc_qs (Go.Ab.vc_call (c_refText c.val (by first | exact hc.1 | exact hc.2.1 | exact hc.2.2.1 | exact hc.2.2.2.1 | exact hc.2.2.2.2.1 | exact hc.2.2.2.2.2.1 | exact hc.2.2.2.2.2.2)) (Go.Ab.vc_chk (by (obtain ⟨q1, q2, q3, q4, q5, q6, q7⟩ := hc; have w1 := vbR_len q1; have w2 := vbR_len q2; have w3 := vbR_len q3; have w4 := vbR_len q4; have w5 := textB_len _ q5; have w6 := textB_len _ q6; have w7 := textB_len _ q7; simp only [List.length_append, List.length_map]; exact decide_eq_true (by omega))) (Go.Ab.vc_q (fun _ => Go.Ab.vc_qs (Go.Ab.vc_call (c_refBytesO c.node (by first | exact hc.1 | exact hc.2.1 | exact hc.2.2.1 | exact hc.2.2.2.1 | exact hc.2.2.2.2.1 | exact hc.2.2.2.2.2.1 | exact hc.2.2.2.2.2.2)) (Go.Ab.vc_chk (by (obtain ⟨q1, q2, q3, q4, q5, q6, q7⟩ := hc; have w1 := vbR_len q1; have w2 := vbR_len q2; have w3 := vbR_len q3; have w4 := vbR_len q4; have w5 := textB_len _ q5; have w6 := textB_len _ q6; have w7 := textB_len _ q7; simp only [List.length_append, List.length_map]; exact decide_eq_true (by omega))) (Go.Ab.vc_ret ?_)))) (fun hp => absurd hp (by intro hp; exact (by simp_all : False))))))) (fun hp => absurd hp (by intro hp; exact (by simp_all : False))))))))))))) (fun h0 => Go.Ab.vc_qs (Go.Ab.vc_call (c_ref08_Owned c.kind) (Go.Ab.vc_q (fun h1 => Go.Ab.vc_call (c_refBytesO c.client (by first | exact hc.1 | exact hc.2.1 | exact hc.2.2.1 | exact hc.2.2.2.1 | exact hc.2.2.2.2.1 | exact hc.2.2.2.2.2.1 | exact hc.2.2.2.2.2.2)) (Go.Ab.vc_chk (by (obtain ⟨q1, q2, q3, q4, q5, q6, q7⟩ := hc; have w1 := vbR_len q1; have w2 := vbR_len q2; have w3 := vbR_len q3; have w4 := vbR_len q4; have w5 := textB_len _ q5; have w6 := textB_len _ q6; have w7 := textB_len _ q7; simp only [List.length_append, List.length_map]; exact decide_eq_true (by omega))) (Go.Ab.vc_call (c_refBytesO c.seq (by first | exact hc.1 | exact hc.2.1 | exact hc.2.2.1 | exact hc.2.2.2.1 | exact hc.2.2.2.2.1 | exact hc.2.2.2.2.2.1 | exact hc.2.2.2.2.2.2)) (Go.Ab.vc_chk (by (obtain ⟨q1, q2, q3, q4, q5, q6, q7⟩ := hc; have w1 := vbR_len q1; have w2 := vbR_len q2; have w3 := vbR_len q3; have w4 := vbR_len q4; have w5 := textB_len _ q5; have w6 := textB_len _ q6; have w7 := textB_len _ q7; simp only [List.length_append, List.length_map]; exact decide_eq_true (by omega))) (Go.Ab.vc_call (c_refText c.key (by first | exact hc.1 | exact hc.2.1 | exact hc.2.2.1 | exact hc.2.2.2.1 | exact hc.2.2.2.2.1 | exact hc.2.2.2.2.2.1 | exact hc.2.2.2.2.2.2)) (Go.Ab.vc_chk (by (obtain ⟨q1, q2, q3, q4, q5, q6, q7⟩ := hc; have w1 := vbR_len q1; have w2 := vbR_len q2; have w3 := vbR_len q3; have w4 := vbR_len q4; have w5 := textB_len _ q5; have w6 := textB_len _ q6; have w7 := textB_len _ q7; simp only [List.length_append, List.length_map]; exact decide_eq_true (by omega))) (Go.Ab.vc_q (fun h2 => Go.Ab.vc_qs (Go.Ab.vc_q (fun h3 => Go.Ab.vc_call (c_refText c.old (by first | exact hc.1 | exact hc.2.1 | exact hc.2.2.1 | exact hc.2.2.2.1 | exact hc.2.2.2.2.1 | exact hc.2.2.2.2.2.1 | exact hc.2.2.2.2.2.2)) (Go.Ab.vc_chk (by (obtain ⟨q1, q2, q3, q4, q5, q6, q7⟩ := hc; have w1 := vbR_len q1; have w2 := vbR_len q2; have w3 := vbR_len q3; have w4 := vbR_len q4; have w5 := textB_len _ q5; have w6 := textB_len _ q6; have w7 := textB_len _ q7; simp only [List.length_append, List.length_map]; exact decide_eq_true (by omega))) (Go.Ab.vc_q (fun hp => absurd hp (by intro hp; exact (by simp_all : False))) (fun _ => Go.Ab.vc_qs (Go.Ab.vc_q (fun h4 => Go.Ab.vc_qs (Go.Ab.vc_call (c_refText c.val (by first | exact hc.1 | exact hc.2.1 | exact hc.2.2.1 | exact hc.2.2.2.1 | exact hc.2.2.2.2.1 | exact hc.2.2.2.2.2.1 | exact hc.2.2.2.2.2.2)) (Go.Ab.vc_chk (by (obtain ⟨q1, q2, q3, q4, q5, q6, q7⟩ := hc; have w1 := vbR_len q1; have w2 := vbR_len q2; have w3 := vbR_len q3; have w4 := vbR_len q4; have w5 := textB_len _ q5; have w6 := textB_len _ q6; have w7 := textB_len _ q7; simp only [List.length_append, List.length_map]; exact decide_eq_true (by omega))) (Go.Ab.vc_q (fun hp => absurd hp (by intro hp; exact (by simp_all : False))) (fun _ => Go.Ab.vc_qs (Go.Ab.vc_call (c_ref08_member c.kind) (Go.Ab.vc_q (fun h5 => Go.Ab.vc_call (c_refBytesO c.node (by first | exact hc.1 | exact hc.2.1 | exact hc.2.2.1 | exact hc.2.2.2.1 | exact hc.2.2.2.2.1 | exact hc.2.2.2.2.2.1 | exact hc.2.2.2.2.2.2)) (Go.Ab.vc_chk (by (obtain ⟨q1, q2, q3, q4, q5, q6, q7⟩ := hc; have w1 := vbR_len q1; have w2 := vbR_len q2; have w3 := vbR_len q3; have w4 := vbR_len q4; have w5 := textB_len _ q5; have w6 := textB_len _ q6; have w7 := textB_len _ q7; simp only [List.length_append, List.length_map]; exact decide_eq_true (by omega))) (Go.Ab.vc_ret ?_))) (fun h5 => Go.Ab.vc_ret ?_)))))))) (fun h4 => Go.Ab.vc_qs (Go.Ab.vc_q (fun _ => Go.Ab.vc_call (c_refText c.val (by first | exact hc.1 | exact hc.2.1 | exact hc.2.2.1 | exact hc.2.2.2.1 | exact hc.2.2.2.2.1 | exact hc.2.2.2.2.2.1 | exact hc.2.2.2.2.2.2)) (Go.Ab.vc_chk (by (obtain ⟨q1, q2, q3, q4, q5, q6, q7⟩ := hc; have w1 := vbR_len q1; have w2 := vbR_len q2; have w3 := vbR_len q3; have w4 := vbR_len q4; have w5 := textB_len _ q5; have w6 := textB_len _ q6; have w7 := textB_len _ q7; simp only [List.length_append, List.length_map]; exact decide_eq_true (by omega))) (Go.Ab.vc_q (fun hp => absurd hp (by intro hp; exact (by simp_all : False))) (fun _ => Go.Ab.vc_qs (Go.Ab.vc_call (c_ref08_member c.kind) (Go.Ab.vc_q (fun h5 => Go.Ab.vc_call (c_refBytesO c.node (by first | exact hc.1 | exact hc.2.1 | exact hc.2.2.1 | exact hc.2.2.2.1 | exact hc.2.2.2.2.1 | exact hc.2.2.2.2.2.1 | exact hc.2.2.2.2.2.2)) (Go.Ab.vc_chk (by (obtain ⟨q1, q2, q3, q4, q5, q6, q7⟩ := hc; have w1 := vbR_len q1; have w2 := vbR_len q2; have w3 := vbR_len q3; have w4 := vbR_len q4; have w5 := textB_len _ q5; have w6 := textB_len _ q6; have w7 := textB_len _ q7; simp only [List.length_append, List.length_map]; exact decide_eq_true (by omega))) (Go.Ab.vc_ret ?_))) (fun h5 => Go.Ab.vc_ret ?_))))))) (fun hp => absurd hp (by intro hp; exact (by simp_all : False)))))))))) (fun h3 => Go.Ab.vc_q (fun hp => absurd hp (by intro hp; exact (by simp_all : False))) (fun _ => Go.Ab.vc_qs (Go.Ab.vc_q (fun h4 => Go.Ab.vc_qs (Go.Ab.vc_call (c_refText c.val (by first | exact hc.1 | exact hc.2.1 | exact hc.2.2.1 | exact hc.2.2.2.1 | exact hc.2.2.2.2.1 | exact hc.2.2.2.2.2.1 | exact hc.2.2.2.2.2.2)) (Go.Ab.vc_chk (by (obtain ⟨q1, q2, q3, q4, q5, q6, q7⟩ := hc; have w1 := vbR_len q1; have w2 := vbR_len q2; have w3 := vbR_len q3; have w4 := vbR_len q4; have w5 := textB_len _ q5; have w6 := textB_len _ q6; have w7 := textB_len _ q7; simp only [List.length_append, List.length_map]; exact decide_eq_true (by omega))) (Go.Ab.vc_q (fun hp => absurd hp (by intro hp; exact (by simp_all : False))) (fun _ => Go.Ab.vc_qs (Go.Ab.vc_call (c_ref08_member c.kind) (Go.Ab.vc_q (fun h5 => Go.Ab.vc_call (c_refBytesO c.node (by first | exact hc.1 | exact hc.2.1 | exact hc.2.2.1 | exact hc.2.2.2.1 | exact hc.2.2.2.2.1 | exact hc.2.2.2.2.2.1 | exact hc.2.2.2.2.2.2)) (Go.Ab.vc_chk (by (obtain ⟨q1, q2, q3, q4, q5, q6, q7⟩ := hc; have w1 := vbR_len q1; have w2 := vbR_len q2; have w3 := vbR_len q3; have w4 := vbR_len q4; have w5 := textB_len _ q5; have w6 := textB_len _ q6; have w7 := textB_len _ q7; simp only [List.length_append, List.length_map]; exact decide_eq_true (by omega))) (Go.Ab.vc_ret ?_))) (fun h5 => Go.Ab.vc_ret ?_)))))))) (fun h4 => Go.Ab.vc_qs (Go.Ab.vc_q (fun hp => absurd hp (by intro hp; exact (by simp_all : False))) (fun _ => Go.Ab.vc_q (fun hp => absurd hp (by intro hp; exact (by simp_all : False))) (fun _ => Go.Ab.vc_qs (Go.Ab.vc_call (c_ref08_member c.kind) (Go.Ab.vc_q (fun h5 => Go.Ab.vc_call (c_refBytesO c.node (by first | exact hc.1 | exact hc.2.1 | exact hc.2.2.1 | exact hc.2.2.2.1 | exact hc.2.2.2.2.1 | exact hc.2.2.2.2.2.1 | exact hc.2.2.2.2.2.2)) (Go.Ab.vc_chk (by (obtain ⟨q1, q2, q3, q4, q5, q6, q7⟩ := hc; have w1 := vbR_len q1; have w2 := vbR_len q2; have w3 := vbR_len q3; have w4 := vbR_len q4; have w5 := textB_len _ q5; have w6 := textB_len _ q6; have w7 := textB_len _ q7; simp only [List.length_append, List.length_map]; exact decide_eq_true (by omega))) (Go.Ab.vc_ret ?_))) (fun h5 => Go.Ab.vc_ret ?_)))))))))))) (fun h2 => Go.Ab.vc_qs (Go.Ab.vc_q (fun hp => absurd hp (by intro hp; exact (by simp_all : False))) (fun _ => Go.Ab.vc_qs (Go.Ab.vc_q (fun h3 => Go.Ab.vc_qs (Go.Ab.vc_call (c_refText c.val (by first | exact hc.1 | exact hc.2.1 | exact hc.2.2.1 | exact hc.2.2.2.1 | exact hc.2.2.2.2.1 | exact hc.2.2.2.2.2.1 | exact hc.2.2.2.2.2.2)) (Go.Ab.vc_chk (by (obtain ⟨q1, q2, q3, q4, q5, q6, q7⟩ := hc; have w1 := vbR_len q1; have w2 := vbR_len q2; have w3 := vbR_len q3; have w4 := vbR_len q4; have w5 := textB_len _ q5; have w6 := textB_len _ q6; have w7 := textB_len _ q7; simp only [List.length_append, List.length_map]; exact decide_eq_true (by omega))) (Go.Ab.vc_q (fun hp => absurd hp (by intro hp; exact (by simp_all : False))) (fun _ => Go.Ab.vc_qs (Go.Ab.vc_call (c_ref08_member c.kind) (Go.Ab.vc_q (fun h4 => Go.Ab.vc_call (c_refBytesO c.node (by first | exact hc.1 | exact hc.2.1 | exact hc.2.2.1 | exact hc.2.2.2.1 | exact hc.2.2.2.2.1 | exact hc.2.2.2.2.2.1 | exact hc.2.2.2.2.2.2)) (Go.Ab.vc_chk (by (obtain ⟨q1, q2, q3, q4, q5, q6, q7⟩ := hc; have w1 := vbR_len q1; have w2 := vbR_len q2; have w3 := vbR_len q3; have w4 := vbR_len q4; have w5 := textB_len _ q5; have w6 := textB_len _ q6; have w7 := textB_len _ q7; simp only [List.length_append, List.length_map]; exact decide_eq_true (by omega))) (Go.Ab.vc_ret ?_))) (fun h4 => Go.Ab.vc_ret ?_)))))))) (fun h3 => Go.Ab.vc_qs (Go.Ab.vc_q (fun h4 => Go.Ab.vc_call (c_refText c.val (by first | exact hc.1 | exact hc.2.1 | exact hc.2.2.1 | exact hc.2.2.2.1 | exact hc.2.2.2.2.1 | exact hc.2.2.2.2.2.1 | exact hc.2.2.2.2.2.2)) (Go.Ab.vc_chk (by (obtain ⟨q1, q2, q3, q4, q5, q6, q7⟩ := hc; have w1 := vbR_len q1; have w2 := vbR_len q2; have w3 := vbR_len q3; have w4 := vbR_len q4; have w5 := textB_len _ q5; have w6 := textB_len _ q6; have w7 := textB_len _ q7; simp only [List.length_append, List.length_map]; exact decide_eq_true (by omega))) (Go.Ab.vc_q (fun hp => absurd hp (by intro hp; exact (by simp_all : False))) (fun _ => Go.Ab.vc_qs (Go.Ab.vc_call (c_ref08_member c.kind) (Go.Ab.vc_q (fun h5 => Go.Ab.vc_call (c_refBytesO c.node (by first | exact hc.1 | exact hc.2.1 | exact hc.2.2.1 | exact hc.2.2.2.1 | exact hc.2.2.2.2.1 | exact hc.2.2.2.2.2.1 | exact hc.2.2.2.2.2.2)) (Go.Ab.vc_chk (by (obtain ⟨q1, q2, q3, q4, q5, q6, q7⟩ := hc; have w1 := vbR_len q1; have w2 := vbR_len q2; have w3 := vbR_len q3; have w4 := vbR_len q4; have w5 := textB_len _ q5; have w6 := textB_len _ q6; have w7 := textB_len _ q7; simp only [List.length_append, List.length_map]; exact decide_eq_true (by omega))) (Go.Ab.vc_ret ?_))) (fun h5 => Go.Ab.vc_ret ?_))))))) (fun h4 => Go.Ab.vc_q (fun hp => absurd hp (by intro hp; exact (by simp_all : False))) (fun _ => Go.Ab.vc_qs (Go.Ab.vc_call (c_ref08_member c.kind) (Go.Ab.vc_q (fun h5 => Go.Ab.vc_call (c_refBytesO c.node (by first | exact hc.1 | exact hc.2.1 | exact hc.2.2.1 | exact hc.2.2.2.1 | exact hc.2.2.2.2.1 | exact hc.2.2.2.2.2.1 | exact hc.2.2.2.2.2.2)) (Go.Ab.vc_chk (by (obtain ⟨q1, q2, q3, q4, q5, q6, q7⟩ := hc; have w1 := vbR_len q1; have w2 := vbR_len q2; have w3 := vbR_len q3; have w4 := vbR_len q4; have w5 := textB_len _ q5; have w6 := textB_len _ q6; have w7 := textB_len _ q7; simp only [List.length_append, List.length_map]; exact decide_eq_true (by omega))) (Go.Ab.vc_ret ?_))) (fun h5 => Go.Ab.vc_ret ?_)))))))))))))))))) (fun h1 => Go.Ab.vc_q (fun h2 => Go.Ab.vc_qs (Go.Ab.vc_q (fun h3 => Go.Ab.vc_call (c_refText c.old (by first | exact hc.1 | exact hc.2.1 | exact hc.2.2.1 | exact hc.2.2.2.1 | exact hc.2.2.2.2.1 | exact hc.2.2.2.2.2.1 | exact hc.2.2.2.2.2.2)) (Go.Ab.vc_chk (by (obtain ⟨q1, q2, q3, q4, q5, q6, q7⟩ := hc; have w1 := vbR_len q1; have w2 := vbR_len q2; have w3 := vbR_len q3; have w4 := vbR_len q4; have w5 := textB_len _ q5; have w6 := textB_len _ q6; have w7 := textB_len _ q7; simp only [List.length_append, List.length_map]; exact decide_eq_true (by omega))) (Go.Ab.vc_q (fun hp => absurd hp (by intro hp; exact (by simp_all : False))) (fun _ => Go.Ab.vc_qs (Go.Ab.vc_q (fun h4 => Go.Ab.vc_qs (Go.Ab.vc_call (c_refText c.val (by first | exact hc.1 | exact hc.2.1 | exact hc.2.2.1 | exact hc.2.2.2.1 | exact hc.2.2.2.2.1 | exact hc.2.2.2.2.2.1 | exact hc.2.2.2.2.2.2)) (Go.Ab.vc_chk (by (obtain ⟨q1, q2, q3, q4, q5, q6, q7⟩ := hc; have w1 := vbR_len q1; have w2 := vbR_len q2; have w3 := vbR_len q3; have w4 := vbR_len q4; have w5 := textB_len _ q5; have w6 := textB_len _ q6; have w7 := textB_len _ q7; simp only [List.length_append, List.length_map]; exact decide_eq_true (by omega))) (Go.Ab.vc_q (fun hp => absurd hp (by intro hp; exact (by simp_all : False))) (fun _ => Go.Ab.vc_qs (Go.Ab.vc_call (c_ref08_member c.kind) (Go.Ab.vc_q (fun h5 => Go.Ab.vc_call (c_refBytesO c.node (by first | exact hc.1 | exact hc.2.1 | exact hc.2.2.1 | exact hc.2.2.2.1 | exact hc.2.2.2.2.1 | exact hc.2.2.2.2.2.1 | exact hc.2.2.2.2.2.2)) (Go.Ab.vc_chk (by (obtain ⟨q1, q2, q3, q4, q5, q6, q7⟩ := hc; have w1 := vbR_len q1; have w2 := vbR_len q2; have w3 := vbR_len q3; have w4 := vbR_len q4; have w5 := textB_len _ q5; have w6 := textB_len _ q6; have w7 := textB_len _ q7; simp only [List.length_append, List.length_map]; exact decide_eq_true (by omega))) (Go.Ab.vc_ret ?_))) (fun h5 => Go.Ab.vc_ret ?_)))))))) (fun h4 => Go.Ab.vc_qs (Go.Ab.vc_q (fun _ => Go.Ab.vc_call (c_refText c.val (by first | exact hc.1 | exact hc.2.1 | exact hc.2.2.1 | exact hc.2.2.2.1 | exact hc.2.2.2.2.1 | exact hc.2.2.2.2.2.1 | exact hc.2.2.2.2.2.2)) (Go.Ab.vc_chk (by (obtain ⟨q1, q2, q3, q4, q5, q6, q7⟩ := hc; have w1 := vbR_len q1; have w2 := vbR_len q2; have w3 := vbR_len q3; have w4 := vbR_len q4; have w5 := textB_len _ q5; have w6 := textB_len _ q6; have w7 := textB_len _ q7; simp only [List.length_append, List.length_map]; exact decide_eq_true (by omega))) (Go.Ab.vc_q (fun hp => absurd hp (by intro hp; exact (by simp_all : False))) (fun _ => Go.Ab.vc_qs (Go.Ab.vc_call (c_ref08_member c.kind) (Go.Ab.vc_q (fun h5 => Go.Ab.vc_call (c_refBytesO c.node (by first | exact hc.1 | exact hc.2.1 | exact hc.2.2.1 | exact hc.2.2.2.1 | exact hc.2.2.2.2.1 | exact hc.2.2.2.2.2.1 | exact hc.2.2.2.2.2.2)) (Go.Ab.vc_chk (by (obtain ⟨q1, q2, q3, q4, q5, q6, q7⟩ := hc; have w1 := vbR_len q1; have w2 := vbR_len q2; have w3 := vbR_len q3; have w4 := vbR_len q4; have w5 := textB_len _ q5; have w6 := textB_len _ q6; have w7 := textB_len _ q7; simp only [List.length_append, List.length_map]; exact decide_eq_true (by omega))) (Go.Ab.vc_ret ?_))) (fun h5 => Go.Ab.vc_ret ?_))))))) (fun hp => absurd hp (by intro hp; exact (by simp_all : False)))))))))) (fun h3 => Go.Ab.vc_q (fun hp => absurd hp (by intro hp; exact (by simp_all : False))) (fun _ => Go.Ab.vc_qs (Go.Ab.vc_q (fun h4 => Go.Ab.vc_qs (Go.Ab.vc_call (c_refText c.val (by first | exact hc.1 | exact hc.2.1 | exact hc.2.2.1 | exact hc.2.2.2.1 | exact hc.2.2.2.2.1 | exact hc.2.2.2.2.2.1 | exact hc.2.2.2.2.2.2)) (Go.Ab.vc_chk (by (obtain ⟨q1, q2, q3, q4, q5, q6, q7⟩ := hc; have w1 := vbR_len q1; have w2 := vbR_len q2; have w3 := vbR_len q3; have w4 := vbR_len q4; have w5 := textB_len _ q5; have w6 := textB_len _ q6; have w7 := textB_len _ q7; simp only [List.length_append, List.length_map]; exact decide_eq_true (by omega))) (Go.Ab.vc_q (fun hp => absurd hp (by intro hp; exact (by simp_all : False))) (fun _ => Go.Ab.vc_qs (Go.Ab.vc_call (c_ref08_member c.kind) (Go.Ab.vc_q (fun h5 => Go.Ab.vc_call (c_refBytesO c.node (by first | exact hc.1 | exact hc.2.1 | exact hc.2.2.1 | exact hc.2.2.2.1 | exact hc.2.2.2.2.1 | exact hc.2.2.2.2.2.1 | exact hc.2.2.2.2.2.2)) (Go.Ab.vc_chk (by (obtain ⟨q1, q2, q3, q4, q5, q6, q7⟩ := hc; have w1 := vbR_len q1; have w2 := vbR_len q2; have w3 := vbR_len q3; have w4 := vbR_len q4; have w5 := textB_len _ q5; have w6 := textB_len _ q6; have w7 := textB_len _ q7; simp only [List.length_append, List.length_map]; exact decide_eq_true (by omega))) (Go.Ab.vc_ret ?_))) (fun h5 => Go.Ab.vc_ret ?_)))))))) (fun h4 => Go.Ab.vc_qs (Go.Ab.vc_q (fun hp => absurd hp (by intro hp; exact (by simp_all : False))) (fun _ => Go.Ab.vc_q (fun hp => absurd hp (by intro hp; exact (by simp_all : False))) (fun _ => Go.Ab.vc_qs (Go.Ab.vc_call (c_ref08_member c.kind) (Go.Ab.vc_q (fun h5 => Go.Ab.vc_call (c_refBytesO c.node (by first | exact hc.1 | exact hc.2.1 | exact hc.2.2.1 | exact hc.2.2.2.1 | exact hc.2.2.2.2.1 | exact hc.2.2.2.2.2.1 | exact hc.2.2.2.2.2.2)) (Go.Ab.vc_chk (by (obtain ⟨q1, q2, q3, q4, q5, q6, q7⟩ := hc; have w1 := vbR_len q1; have w2 := vbR_len q2; have w3 := vbR_len q3; have w4 := vbR_len q4; have w5 := textB_len _ q5; have w6 := textB_len _ q6; have w7 := textB_len _ q7; simp only [List.length_append, List.length_map]; exact decide_eq_true (by omega))) (Go.Ab.vc_ret ?_))) (fun h5 => Go.Ab.vc_ret ?_)))))))))))) (fun h2 => Go.Ab.vc_qs (Go.Ab.vc_q (fun hp => absurd hp (by intro hp; exact (by simp_all : False))) (fun _ => Go.Ab.vc_qs (Go.Ab.vc_q (fun h3 => Go.Ab.vc_qs (Go.Ab.vc_call (c_refText c.val (by first | exact hc.1 | exact hc.2.1 | exact hc.2.2.1 | exact hc.2.2.2.1 | exact hc.2.2.2.2.1 | exact hc.2.2.2.2.2.1 | exact hc.2.2.2.2.2.2)) (Go.Ab.vc_chk (by (obtain ⟨q1, q2, q3, q4, q5, q6, q7⟩ := hc; have w1 := vbR_len q1; have w2 := vbR_len q2; have w3 := vbR_len q3; have w4 := vbR_len q4; have w5 := textB_len _ q5; have w6 := textB_len _ q6; have w7 := textB_len _ q7; simp only [List.length_append, List.length_map]; exact decide_eq_true (by omega))) (Go.Ab.vc_q (fun hp => absurd hp (by intro hp; exact (by simp_all : False))) (fun _ => Go.Ab.vc_qs (Go.Ab.vc_call (c_ref08_member c.kind) (Go.Ab.vc_q (fun h4 => Go.Ab.vc_call (c_refBytesO c.node (by first | exact hc.1 | exact hc.2.1 | exact hc.2.2.1 | exact hc.2.2.2.1 | exact hc.2.2.2.2.1 | exact hc.2.2.2.2.2.1 | exact hc.2.2.2.2.2.2)) (Go.Ab.vc_chk (by (obtain ⟨q1, q2, q3, q4, q5, q6, q7⟩ := hc; have w1 := vbR_len q1; have w2 := vbR_len q2; have w3 := vbR_len q3; have w4 := vbR_len q4; have w5 := textB_len _ q5; have w6 := textB_len _ q6; have w7 := textB_len _ q7; simp only [List.length_append, List.length_map]; exact decide_eq_true (by omega))) (Go.Ab.vc_ret ?_))) (fun h4 => Go.Ab.vc_ret ?_)))))))) (fun h3 => Go.Ab.vc_qs (Go.Ab.vc_q (fun h4 => Go.Ab.vc_call (c_refText c.val (by first | exact hc.1 | exact hc.2.1 | exact hc.2.2.1 | exact hc.2.2.2.1 | exact hc.2.2.2.2.1 | exact hc.2.2.2.2.2.1 | exact hc.2.2.2.2.2.2)) (Go.Ab.vc_chk (by (obtain ⟨q1, q2, q3, q4, q5, q6, q7⟩ := hc; have w1 := vbR_len q1; have w2 := vbR_len q2; have w3 := vbR_len q3; have w4 := vbR_len q4; have w5 := textB_len _ q5; have w6 := textB_len _ q6; have w7 := textB_len _ q7; simp only [List.length_append, List.length_map]; exact decide_eq_true (by omega))) (Go.Ab.vc_q (fun hp => absurd hp (by intro hp; exact (by simp_all : False))) (fun _ => Go.Ab.vc_qs (Go.Ab.vc_call (c_ref08_member c.kind) (Go.Ab.vc_q (fun h5 => Go.Ab.vc_call (c_refBytesO c.node (by first | exact hc.1 | exact hc.2.1 | exact hc.2.2.1 | exact hc.2.2.2.1 | exact hc.2.2.2.2.1 | exact hc.2.2.2.2.2.1 | exact hc.2.2.2.2.2.2)) (Go.Ab.vc_chk (by (obtain ⟨q1, q2, q3, q4, q5, q6, q7⟩ := hc; have w1 := vbR_len q1; have w2 := vbR_len q2; have w3 := vbR_len q3; have w4 := vbR_len q4; have w5 := textB_len _ q5; have w6 := textB_len _ q6; have w7 := textB_len _ q7; simp only [List.length_append, List.length_map]; exact decide_eq_true (by omega))) (Go.Ab.vc_ret ?_))) (fun h5 => Go.Ab.vc_ret ?_))))))) (fun h4 => Go.Ab.vc_q (fun hp => absurd hp (by intro hp; exact (by simp_all : False))) (fun _ => Go.Ab.vc_qs (Go.Ab.vc_call (c_ref08_member c.kind) (Go.Ab.vc_q (fun h5 => Go.Ab.vc_call (c_refBytesO c.node (by first | exact hc.1 | exact hc.2.1 | exact hc.2.2.1 | exact hc.2.2.2.1 | exact hc.2.2.2.2.1 | exact hc.2.2.2.2.2.1 | exact hc.2.2.2.2.2.2)) (Go.Ab.vc_chk (by (obtain ⟨q1, q2, q3, q4, q5, q6, q7⟩ := hc; have w1 := vbR_len q1; have w2 := vbR_len q2; have w3 := vbR_len q3; have w4 := vbR_len q4; have w5 := textB_len _ q5; have w6 := textB_len _ q6; have w7 := textB_len _ q7; simp only [List.length_append, List.length_map]; exact decide_eq_true (by omega))) (Go.Ab.vc_ret ?_))) (fun h5 => Go.Ab.vc_ret ?_)))))))))))))))))
  all_goals ((rw [← refCmdB_eq]; (try simp only [List.append_assoc, emp_vb, emp_vb0, Bool.true_and]); simp_all [refCmdB, bR_append, emp_vb0, vb_ne]))
end Go.Proofs.Tryd
set_option maxRecDepth 100000
set_option maxHeartbeats 4000000
set_option linter.unusedVariables false
set_option linter.unusedSimpArgs false
namespace Go.Proofs.Tryd
open Go Go.Ab Go.Pl Go.RowKit Go.Proofs.YtmecehpkjffanaaDoor
attribute [local irreducible] Go.Ab.wp Go.Ab.vc Go.Ab.run Go.Ab.runFn Go.Ab.body1 Go.Ab.Tr.qt Go.Ab.Tr.qf Go.Ab.AEv
def hasErr (f : Int) (x : Rec) : Int := if recErr x != 0 then recErr x else if hasCmd x.kind && !verHas f x.cmd.kind then 8 else 0
theorem hasErr_old (x : Rec) : hasErr 1 x = oldErr x := rfl
theorem c_refHas {w0 : World} (f : Int) (x : Rec) (hc : x.cmd.short) : AEv Tryd.prog w0 37 [.d (.int .i64 f), .agg (eRec x)] [] (.d (.int .i64 (hasErr f x))) [] := by
  refine aev_of_run hmix Tryd.func37 [] 1 ?_
  refine Go.Ab.wp_fn (.call 18 [A.agg [A.d (D.int IntKind.i64 x.kind), A.d (D.int IntKind.i64 x.round), A.d (D.int IntKind.i64 x.node), A.d (D.int IntKind.i64 x.index), A.d (D.int IntKind.i64 x.cmd.kind), A.d (D.int IntKind.i64 x.cmd.client), A.d (D.int IntKind.i64 x.cmd.seq), A.d (D.str x.cmd.key), A.d (D.str x.cmd.val), A.d (D.str x.cmd.old), A.d (D.int IntKind.i64 x.cmd.node), A.d (D.slice x.inil 1 (List.map (fun b => [D.int IntKind.u8 (↑b.toNat : Int)]) x.image))]] [] (A.d (D.int IntKind.i64 (recErr x))) [] (.q (recErr x != 0) (.ret (A.d (D.int IntKind.i64 (recErr x)), [])) (.call 73 [A.d (D.int IntKind.i64 x.kind)] [] (A.d (D.bool (hasCmd x.kind))) [] (.q (hasCmd x.kind) (.qs [true, true, true, true] (.call 83 [A.d (D.int IntKind.i64 f), A.d (D.int IntKind.i64 x.cmd.kind)] [] (A.d (D.bool (verHas f x.cmd.kind))) [] (.qs [true] (.q (!verHas f x.cmd.kind) (.ret (A.d (D.int IntKind.i64 8), [])) (.ret (A.d (D.int IntKind.i64 0), [])))))) (.qs [false, false, false, false, false, false] (.ret (A.d (D.int IntKind.i64 0), []))))))) (by kernel_rfl) (Go.Ab.vc_call (c_ref16_Check x (by first | assumption | exact rfl)) (Go.Ab.vc_q (fun h0 => Go.Ab.vc_ret ?_) (fun h0 => Go.Ab.vc_call (c_ref16_HasCmd x.kind) (Go.Ab.vc_q (fun h1 => Go.Ab.vc_qs (Go.Ab.vc_call (c_ref07_Has f x.cmd.kind) (Go.Ab.vc_qs (Go.Ab.vc_q (fun h2 => Go.Ab.vc_ret ?_) (fun h2 => Go.Ab.vc_ret ?_))))) (fun h1 => Go.Ab.vc_qs (Go.Ab.vc_ret ?_))))))
  all_goals (first | (simp_all [hasErr]; done) | (simp_all [hasErr] <;> grind))
theorem c_refRecBytes {w0 : World} (x : Rec) (hx : x.fit) : AEv Tryd.prog w0 40 [.agg (eRec x)] [] (.d (.slice false 1 (bR (recB x)))) [] := by
  refine aev_of_run hmix Tryd.func40 [] 1 ?_
  refine Go.Ab.wp_fn (.call 92 [A.d (D.int IntKind.i64 x.kind)] [] (A.own 0) [Ob.row true 5 1 (bR (vb x.kind.toNat))] (.call 92 [A.d (D.int IntKind.i64 x.round)] [] (A.own 0) [Ob.row true 5 1 (bR (vb x.round.toNat))] (.chk (decide ((List.map (fun b => [D.int IntKind.u8 (↑b.toNat : Int)]) (vb x.kind.toNat)).length + (List.map (fun b => [D.int IntKind.u8 (↑b.toNat : Int)]) (vb x.round.toNat)).length ≤ 68719476736)) (.call 92 [A.d (D.int IntKind.i64 x.node)] [] (A.own 0) [Ob.row true 5 1 (bR (vb x.node.toNat))] (.chk (decide ((List.map (fun b => [D.int IntKind.u8 (↑b.toNat : Int)]) (vb x.kind.toNat) ++ List.map (fun b => [D.int IntKind.u8 (↑b.toNat : Int)]) (vb x.round.toNat)).length + (List.map (fun b => [D.int IntKind.u8 (↑b.toNat : Int)]) (vb x.node.toNat)).length ≤ 68719476736)) (.call 92 [A.d (D.int IntKind.i64 x.index)] [] (A.own 0) [Ob.row true 5 1 (bR (vb x.index.toNat))] (.chk (decide ((List.map (fun b => [D.int IntKind.u8 (↑b.toNat : Int)]) (vb x.kind.toNat) ++ List.map (fun b => [D.int IntKind.u8 (↑b.toNat : Int)]) (vb x.round.toNat) ++ List.map (fun b => [D.int IntKind.u8 (↑b.toNat : Int)]) (vb x.node.toNat)).length + (List.map (fun b => [D.int IntKind.u8 (↑b.toNat : Int)]) (vb x.index.toNat)).length ≤ 68719476736)) (.call 73 [A.d (D.int IntKind.i64 x.kind)] [] (A.d (D.bool (hasCmd x.kind))) [] (.q (hasCmd x.kind) (.call 93 [A.d (D.int IntKind.i64 1), A.agg [A.d (D.int IntKind.i64 x.cmd.kind), A.d (D.int IntKind.i64 x.cmd.client), A.d (D.int IntKind.i64 x.cmd.seq), A.d (D.str x.cmd.key), A.d (D.str x.cmd.val), A.d (D.str x.cmd.old), A.d (D.int IntKind.i64 x.cmd.node)]] [] (A.d (D.slice false 1 (bR (cmdB 1 x.cmd)))) [] (.chk (decide ((List.map (fun b => [D.int IntKind.u8 (↑b.toNat : Int)]) (vb x.kind.toNat) ++ List.map (fun b => [D.int IntKind.u8 (↑b.toNat : Int)]) (vb x.round.toNat) ++ List.map (fun b => [D.int IntKind.u8 (↑b.toNat : Int)]) (vb x.node.toNat) ++ List.map (fun b => [D.int IntKind.u8 (↑b.toNat : Int)]) (vb x.index.toNat)).length + (List.map (fun b => [D.int IntKind.u8 (↑b.toNat : Int)]) (cmdB 1 x.cmd)).length ≤ 68719476736)) (.q (x.kind == 4) (.call 92 [A.d (D.int IntKind.i64 (↑(List.map (fun b => [D.int IntKind.u8 (↑b.toNat : Int)]) x.image).length : Int))] [] (A.own 0) [Ob.row true 5 1 (bR (vb (↑(List.map (fun b => [D.int IntKind.u8 (↑b.toNat : Int)]) x.image).length : Int).toNat))] (.chk (decide ((List.map (fun b => [D.int IntKind.u8 (↑b.toNat : Int)]) (vb x.kind.toNat) ++ List.map (fun b => [D.int IntKind.u8 (↑b.toNat : Int)]) (vb x.round.toNat) ++ List.map (fun b => [D.int IntKind.u8 (↑b.toNat : Int)]) (vb x.node.toNat) ++ List.map (fun b => [D.int IntKind.u8 (↑b.toNat : Int)]) (vb x.index.toNat) ++ List.map (fun b => [D.int IntKind.u8 (↑b.toNat : Int)]) (cmdB 1 x.cmd)).length + (List.map (fun b => [D.int IntKind.u8 (↑b.toNat : Int)]) (vb (↑(List.map (fun b => [D.int IntKind.u8 (↑b.toNat : Int)]) x.image).length : Int).toNat)).length ≤ 68719476736)) (.chk (decide ((List.map (fun b => [D.int IntKind.u8 (↑b.toNat : Int)]) (vb x.kind.toNat) ++ List.map (fun b => [D.int IntKind.u8 (↑b.toNat : Int)]) (vb x.round.toNat) ++ List.map (fun b => [D.int IntKind.u8 (↑b.toNat : Int)]) (vb x.node.toNat) ++ List.map (fun b => [D.int IntKind.u8 (↑b.toNat : Int)]) (vb x.index.toNat) ++ List.map (fun b => [D.int IntKind.u8 (↑b.toNat : Int)]) (cmdB 1 x.cmd) ++ List.map (fun b => [D.int IntKind.u8 (↑b.toNat : Int)]) (vb (↑(List.map (fun b => [D.int IntKind.u8 (↑b.toNat : Int)]) x.image).length : Int).toNat)).length + (List.map (fun b => [D.int IntKind.u8 (↑b.toNat : Int)]) x.image).length ≤ 68719476736)) (.ret (A.d (D.slice (true && (List.map (fun b => [D.int IntKind.u8 (↑b.toNat : Int)]) (vb x.kind.toNat) ++ List.map (fun b => [D.int IntKind.u8 (↑b.toNat : Int)]) (vb x.round.toNat) ++ List.map (fun b => [D.int IntKind.u8 (↑b.toNat : Int)]) (vb x.node.toNat) ++ List.map (fun b => [D.int IntKind.u8 (↑b.toNat : Int)]) (vb x.index.toNat) ++ List.map (fun b => [D.int IntKind.u8 (↑b.toNat : Int)]) (cmdB 1 x.cmd) ++ List.map (fun b => [D.int IntKind.u8 (↑b.toNat : Int)]) (vb (↑(List.map (fun b => [D.int IntKind.u8 (↑b.toNat : Int)]) x.image).length : Int).toNat) ++ List.map (fun b => [D.int IntKind.u8 (↑b.toNat : Int)]) x.image).isEmpty) 1 (List.map (fun b => [D.int IntKind.u8 (↑b.toNat : Int)]) (vb x.kind.toNat) ++ List.map (fun b => [D.int IntKind.u8 (↑b.toNat : Int)]) (vb x.round.toNat) ++ List.map (fun b => [D.int IntKind.u8 (↑b.toNat : Int)]) (vb x.node.toNat) ++ List.map (fun b => [D.int IntKind.u8 (↑b.toNat : Int)]) (vb x.index.toNat) ++ List.map (fun b => [D.int IntKind.u8 (↑b.toNat : Int)]) (cmdB 1 x.cmd) ++ List.map (fun b => [D.int IntKind.u8 (↑b.toNat : Int)]) (vb (↑(List.map (fun b => [D.int IntKind.u8 (↑b.toNat : Int)]) x.image).length : Int).toNat) ++ List.map (fun b => [D.int IntKind.u8 (↑b.toNat : Int)]) x.image)), []))))) (.ret (A.d (D.slice (true && (List.map (fun b => [D.int IntKind.u8 (↑b.toNat : Int)]) (vb x.kind.toNat) ++ List.map (fun b => [D.int IntKind.u8 (↑b.toNat : Int)]) (vb x.round.toNat) ++ List.map (fun b => [D.int IntKind.u8 (↑b.toNat : Int)]) (vb x.node.toNat) ++ List.map (fun b => [D.int IntKind.u8 (↑b.toNat : Int)]) (vb x.index.toNat) ++ List.map (fun b => [D.int IntKind.u8 (↑b.toNat : Int)]) (cmdB 1 x.cmd)).isEmpty) 1 (List.map (fun b => [D.int IntKind.u8 (↑b.toNat : Int)]) (vb x.kind.toNat) ++ List.map (fun b => [D.int IntKind.u8 (↑b.toNat : Int)]) (vb x.round.toNat) ++ List.map (fun b => [D.int IntKind.u8 (↑b.toNat : Int)]) (vb x.node.toNat) ++ List.map (fun b => [D.int IntKind.u8 (↑b.toNat : Int)]) (vb x.index.toNat) ++ List.map (fun b => [D.int IntKind.u8 (↑b.toNat : Int)]) (cmdB 1 x.cmd))), []))))) (.q (x.kind == 4) (.call 92 [A.d (D.int IntKind.i64 (↑(List.map (fun b => [D.int IntKind.u8 (↑b.toNat : Int)]) x.image).length : Int))] [] (A.own 0) [Ob.row true 5 1 (bR (vb (↑(List.map (fun b => [D.int IntKind.u8 (↑b.toNat : Int)]) x.image).length : Int).toNat))] (.chk (decide ((List.map (fun b => [D.int IntKind.u8 (↑b.toNat : Int)]) (vb x.kind.toNat) ++ List.map (fun b => [D.int IntKind.u8 (↑b.toNat : Int)]) (vb x.round.toNat) ++ List.map (fun b => [D.int IntKind.u8 (↑b.toNat : Int)]) (vb x.node.toNat) ++ List.map (fun b => [D.int IntKind.u8 (↑b.toNat : Int)]) (vb x.index.toNat)).length + (List.map (fun b => [D.int IntKind.u8 (↑b.toNat : Int)]) (vb (↑(List.map (fun b => [D.int IntKind.u8 (↑b.toNat : Int)]) x.image).length : Int).toNat)).length ≤ 68719476736)) (.chk (decide ((List.map (fun b => [D.int IntKind.u8 (↑b.toNat : Int)]) (vb x.kind.toNat) ++ List.map (fun b => [D.int IntKind.u8 (↑b.toNat : Int)]) (vb x.round.toNat) ++ List.map (fun b => [D.int IntKind.u8 (↑b.toNat : Int)]) (vb x.node.toNat) ++ List.map (fun b => [D.int IntKind.u8 (↑b.toNat : Int)]) (vb x.index.toNat) ++ List.map (fun b => [D.int IntKind.u8 (↑b.toNat : Int)]) (vb (↑(List.map (fun b => [D.int IntKind.u8 (↑b.toNat : Int)]) x.image).length : Int).toNat)).length + (List.map (fun b => [D.int IntKind.u8 (↑b.toNat : Int)]) x.image).length ≤ 68719476736)) (.ret (A.d (D.slice (true && (List.map (fun b => [D.int IntKind.u8 (↑b.toNat : Int)]) (vb x.kind.toNat) ++ List.map (fun b => [D.int IntKind.u8 (↑b.toNat : Int)]) (vb x.round.toNat) ++ List.map (fun b => [D.int IntKind.u8 (↑b.toNat : Int)]) (vb x.node.toNat) ++ List.map (fun b => [D.int IntKind.u8 (↑b.toNat : Int)]) (vb x.index.toNat) ++ List.map (fun b => [D.int IntKind.u8 (↑b.toNat : Int)]) (vb (↑(List.map (fun b => [D.int IntKind.u8 (↑b.toNat : Int)]) x.image).length : Int).toNat) ++ List.map (fun b => [D.int IntKind.u8 (↑b.toNat : Int)]) x.image).isEmpty) 1 (List.map (fun b => [D.int IntKind.u8 (↑b.toNat : Int)]) (vb x.kind.toNat) ++ List.map (fun b => [D.int IntKind.u8 (↑b.toNat : Int)]) (vb x.round.toNat) ++ List.map (fun b => [D.int IntKind.u8 (↑b.toNat : Int)]) (vb x.node.toNat) ++ List.map (fun b => [D.int IntKind.u8 (↑b.toNat : Int)]) (vb x.index.toNat) ++ List.map (fun b => [D.int IntKind.u8 (↑b.toNat : Int)]) (vb (↑(List.map (fun b => [D.int IntKind.u8 (↑b.toNat : Int)]) x.image).length : Int).toNat) ++ List.map (fun b => [D.int IntKind.u8 (↑b.toNat : Int)]) x.image)), []))))) (.ret (A.d (D.slice (true && (List.map (fun b => [D.int IntKind.u8 (↑b.toNat : Int)]) (vb x.kind.toNat) ++ List.map (fun b => [D.int IntKind.u8 (↑b.toNat : Int)]) (vb x.round.toNat) ++ List.map (fun b => [D.int IntKind.u8 (↑b.toNat : Int)]) (vb x.node.toNat) ++ List.map (fun b => [D.int IntKind.u8 (↑b.toNat : Int)]) (vb x.index.toNat)).isEmpty) 1 (List.map (fun b => [D.int IntKind.u8 (↑b.toNat : Int)]) (vb x.kind.toNat) ++ List.map (fun b => [D.int IntKind.u8 (↑b.toNat : Int)]) (vb x.round.toNat) ++ List.map (fun b => [D.int IntKind.u8 (↑b.toNat : Int)]) (vb x.node.toNat) ++ List.map (fun b => [D.int IntKind.u8 (↑b.toNat : Int)]) (vb x.index.toNat))), [])))))))))))) (by kernel_rfl) (Go.Ab.vc_call (c_refBytesO x.kind (by first | exact hx.1.1 | exact hx.1.2.1 | exact hx.1.2.2.1 | exact hx.1.2.2.2.1 | exact hx.2.1 | (have q := hx.2.2; simp; omega))) (Go.Ab.vc_call (c_refBytesO x.round (by first | exact hx.1.1 | exact hx.1.2.1 | exact hx.1.2.2.1 | exact hx.1.2.2.2.1 | exact hx.2.1 | (have q := hx.2.2; simp; omega))) (Go.Ab.vc_chk (by (obtain ⟨⟨q1, q2, q3, q4, _, _⟩, qc, qi⟩ := hx; have w1 := vbR_len q1; have w2 := vbR_len q2; have w3 := vbR_len q3; have w4 := vbR_len q4; have w5 := cmdB_len 1 _ qc; have w6 := vbR_len (k := (x.image.length : Int)) (by omega); simp only [List.length_append, List.length_map, Int.toNat_natCast] at *; exact decide_eq_true (by omega))) (Go.Ab.vc_call (c_refBytesO x.node (by first | exact hx.1.1 | exact hx.1.2.1 | exact hx.1.2.2.1 | exact hx.1.2.2.2.1 | exact hx.2.1 | (have q := hx.2.2; simp; omega))) (Go.Ab.vc_chk (by (obtain ⟨⟨q1, q2, q3, q4, _, _⟩, qc, qi⟩ := hx; have w1 := vbR_len q1; have w2 := vbR_len q2; have w3 := vbR_len q3; have w4 := vbR_len q4; have w5 := cmdB_len 1 _ qc; have w6 := vbR_len (k := (x.image.length : Int)) (by omega); simp only [List.length_append, List.length_map, Int.toNat_natCast] at *; exact decide_eq_true (by omega))) (Go.Ab.vc_call (c_refBytesO x.index (by first | exact hx.1.1 | exact hx.1.2.1 | exact hx.1.2.2.1 | exact hx.1.2.2.2.1 | exact hx.2.1 | (have q := hx.2.2; simp; omega))) (Go.Ab.vc_chk (by (obtain ⟨⟨q1, q2, q3, q4, _, _⟩, qc, qi⟩ := hx; have w1 := vbR_len q1; have w2 := vbR_len q2; have w3 := vbR_len q3; have w4 := vbR_len q4; have w5 := cmdB_len 1 _ qc; have w6 := vbR_len (k := (x.image.length : Int)) (by omega); simp only [List.length_append, List.length_map, Int.toNat_natCast] at *; exact decide_eq_true (by omega))) (Go.Ab.vc_call (c_ref16_HasCmd x.kind) (Go.Ab.vc_q (fun h0 => Go.Ab.vc_call (c_refCmdBytes 1 x.cmd (by first | exact hx.1.1 | exact hx.1.2.1 | exact hx.1.2.2.1 | exact hx.1.2.2.2.1 | exact hx.2.1 | (have q := hx.2.2; simp; omega))) (Go.Ab.vc_chk (by (obtain ⟨⟨q1, q2, q3, q4, _, _⟩, qc, qi⟩ := hx; have w1 := vbR_len q1; have w2 := vbR_len q2; have w3 := vbR_len q3; have w4 := vbR_len q4; have w5 := cmdB_len 1 _ qc; have w6 := vbR_len (k := (x.image.length : Int)) (by omega); simp only [List.length_append, List.length_map, Int.toNat_natCast] at *; exact decide_eq_true (by omega))) (Go.Ab.vc_q (fun h1 => Go.Ab.vc_call (c_refBytesO (↑(List.map (fun b => [D.int IntKind.u8 (↑b.toNat : Int)]) x.image).length : Int) (by first | exact hx.1.1 | exact hx.1.2.1 | exact hx.1.2.2.1 | exact hx.1.2.2.2.1 | exact hx.2.1 | (have q := hx.2.2; simp; omega))) (Go.Ab.vc_chk (by (obtain ⟨⟨q1, q2, q3, q4, _, _⟩, qc, qi⟩ := hx; have w1 := vbR_len q1; have w2 := vbR_len q2; have w3 := vbR_len q3; have w4 := vbR_len q4; have w5 := cmdB_len 1 _ qc; have w6 := vbR_len (k := (x.image.length : Int)) (by omega); simp only [List.length_append, List.length_map, Int.toNat_natCast] at *; exact decide_eq_true (by omega))) (Go.Ab.vc_chk (by (obtain ⟨⟨q1, q2, q3, q4, _, _⟩, qc, qi⟩ := hx; have w1 := vbR_len q1; have w2 := vbR_len q2; have w3 := vbR_len q3; have w4 := vbR_len q4; have w5 := cmdB_len 1 _ qc; have w6 := vbR_len (k := (x.image.length : Int)) (by omega); simp only [List.length_append, List.length_map, Int.toNat_natCast] at *; exact decide_eq_true (by omega))) (Go.Ab.vc_ret ?_)))) (fun h1 => Go.Ab.vc_ret ?_)))) (fun h0 => Go.Ab.vc_q (fun h1 => Go.Ab.vc_call (c_refBytesO (↑(List.map (fun b => [D.int IntKind.u8 (↑b.toNat : Int)]) x.image).length : Int) (by first | exact hx.1.1 | exact hx.1.2.1 | exact hx.1.2.2.1 | exact hx.1.2.2.2.1 | exact hx.2.1 | (have q := hx.2.2; simp; omega))) (Go.Ab.vc_chk (by (obtain ⟨⟨q1, q2, q3, q4, _, _⟩, qc, qi⟩ := hx; have w1 := vbR_len q1; have w2 := vbR_len q2; have w3 := vbR_len q3; have w4 := vbR_len q4; have w5 := cmdB_len 1 _ qc; have w6 := vbR_len (k := (x.image.length : Int)) (by omega); simp only [List.length_append, List.length_map, Int.toNat_natCast] at *; exact decide_eq_true (by omega))) (Go.Ab.vc_chk (by (obtain ⟨⟨q1, q2, q3, q4, _, _⟩, qc, qi⟩ := hx; have w1 := vbR_len q1; have w2 := vbR_len q2; have w3 := vbR_len q3; have w4 := vbR_len q4; have w5 := cmdB_len 1 _ qc; have w6 := vbR_len (k := (x.image.length : Int)) (by omega); simp only [List.length_append, List.length_map, Int.toNat_natCast] at *; exact decide_eq_true (by omega))) (Go.Ab.vc_ret ?_)))) (fun h1 => Go.Ab.vc_ret ?_)))))))))))
  all_goals (first | ((try simp only [List.append_assoc, emp_vb, emp_vb0, Bool.true_and]); simp_all [recB, bR_append, emp_vb0, vb_ne]; done) | (exfalso; have := hasCmd_not4 ‹hasCmd _ = true›; simp_all; done))
end Go.Proofs.Tryd
/- What is written is read, and what is read was written so. -/
set_option linter.unusedVariables false
set_option linter.unusedSimpArgs false
namespace Go.Proofs.Tryd
open Go Go.Ab Go.Pl
def Rd.tail (r : Rd) : List UInt8 := r.b.drop r.at_
def Sfx (r : Rd) (t : List UInt8) : Prop := r.no = 0 ∧ r.ok ∧ r.tail = t
theorem vget_ok {b : List UInt8} {p n : Nat} {t : List UInt8} (h : b.drop p = vb n ++ t) (hn : n ≤ 9223372036854775807) : vget b p = ((n : Int), ((p + (vb n).length : Nat) : Int), 0) := by
  have h9 : (128 : Nat) ^ (9 - 0) = 9223372036854775808 := by decide
  unfold vget
  rw [h, vg_vb 0 n t (by omega) (by omega) (by omega)]
theorem num_ok {r : Rd} {most : Int} {n : Nat} {t : List UInt8} (h : Sfx r (vb n ++ t)) (hn : (n : Int) ≤ most) (hm : most ≤ 9223372036854775807) : Sfx (rdNum r most) t ∧ rdNumV r most = n := by
  obtain ⟨h0, hk, ht⟩ := h
  have hv := vget_ok ht (by omega)
  have hl : (rdLim r most) = ⟨r.nn, r.b, r.at_ + (vb n).length, 0⟩ := by
    unfold rdLim
    rw [hv]
    simp only [bne_self_eq_false, Bool.false_eq_true, if_false, Int.toNat_natCast, h0]
    rw [if_neg (by omega)]
  have e1 : rdNum r most = ⟨r.nn, r.b, r.at_ + (vb n).length, 0⟩ := by
    unfold rdNum
    rw [if_neg (by simp [h0]), hl]
  refine ⟨⟨by rw [e1], rdNum_ok r most hk, ?_⟩, ?_⟩
  · rw [e1]
    unfold Rd.tail at ht ⊢
    simp only
    rw [← List.drop_drop, ht, List.drop_left]
  · unfold rdNumV
    rw [if_neg (by simp [h0]), hl, if_neg (by simp)]
    unfold rdN
    rw [hv]
theorem num_back {r : Rd} {most : Int} (hk : r.ok) (h : (rdNum r most).no = 0) : r.no = 0 ∧ r.tail = vb (rdNumV r most).toNat ++ (rdNum r most).tail := by
  have h0 : r.no = 0 := by
    apply Classical.byContradiction
    intro hc
    unfold rdNum at h
    rw [if_pos (by simpa using hc)] at h
    exact hc h
  have e0 : ¬ (r.no != 0) = true := by simp [h0]
  unfold rdNum at h
  rw [if_neg e0] at h
  refine ⟨h0, ?_⟩
  have e1 : (rdNumV r most) = rdN r := by
    unfold rdNumV
    rw [if_neg e0, if_neg (by simp [h])]
  have e2 : rdNum r most = rdLim r most := by unfold rdNum; rw [if_neg e0]
  have hv : (vget r.b r.at_).2.2 = 0 := by
    apply Classical.byContradiction
    intro hc
    unfold rdLim at h
    simp only at h
    rw [if_pos (by simpa using hc)] at h
    exact hc h
  rw [e1, e2]
  unfold Rd.tail rdN rdLim
  simp only
  unfold vget at hv ⊢
  split at hv
  · simp at hv
  · simp at hv
  · rename_i n m hg
    obtain ⟨h1, h2, _⟩ := vg_ok _ _ _ _ hg
    simp only [Int.toNat_natCast]
    rw [← h2, ← List.drop_drop, List.take_append_drop]
theorem raw_ok {r : Rd} {most : Int} {l t : List UInt8} (h : Sfx r (vb l.length ++ (l ++ t))) (hn : (l.length : Int) ≤ most) (hm : most ≤ 9223372036854775807) : Sfx (rdRaw r most) t ∧ rdRawV r most = l := by
  obtain ⟨h0, hk, ht⟩ := h
  have hv := vget_ok ht (by omega)
  have hl : (rdLim r most) = ⟨r.nn, r.b, r.at_ + (vb l.length).length, 0⟩ := by
    unfold rdLim
    rw [hv]
    simp only [bne_self_eq_false, Bool.false_eq_true, if_false, Int.toNat_natCast, h0]
    rw [if_neg (by omega)]
  have hN : rdN r = l.length := by unfold rdN; rw [hv]
  have e3 : r.b.drop (r.at_ + (vb l.length).length) = l ++ t := by
    unfold Rd.tail at ht
    rw [← List.drop_drop, ht, List.drop_left]
  have hlen : r.at_ + (vb l.length).length + l.length ≤ r.b.length := by
    have := congrArg List.length e3
    have hne := (rdLim_ok r most hk).1
    rw [hl] at hne
    simp only [List.length_drop, List.length_append] at this hne
    omega
  have hc : rdCnt r most = ⟨r.nn, r.b, r.at_ + (vb l.length).length, 0⟩ := by
    unfold rdCnt
    rw [hl, hN]
    simp only [beq_self_eq_true, Bool.true_and, decide_eq_true_eq]
    rw [if_neg (by omega)]
  have e1 : rdRaw r most = ⟨r.nn, r.b, r.at_ + (vb l.length).length + l.length, 0⟩ := by
    unfold rdRaw
    rw [if_neg (by simp [h0])]
    unfold rdRaw1
    rw [hc, hN, if_neg (by simp)]
    simp
  refine ⟨⟨by rw [e1], rdRaw_ok r most hk, ?_⟩, ?_⟩
  · rw [e1]
    unfold Rd.tail
    simp only
    rw [← List.drop_drop, e3, List.drop_left]
  · unfold rdRawV
    rw [if_neg (by simp [h0])]
    unfold rdRaw1V
    rw [hc, hN, if_neg (by simp)]
    simp only [Int.toNat_natCast]
    rw [List.drop_take, e3]
    have : r.at_ + (vb l.length).length + l.length - (r.at_ + (vb l.length).length) = l.length := by omega
    rw [this, List.take_left]
theorem raw_back {r : Rd} {most : Int} (hk : r.ok) (h : (rdRaw r most).no = 0) : r.no = 0 ∧ r.tail = vb (rdRawV r most).length ++ ((rdRawV r most) ++ (rdRaw r most).tail) := by
  have h0 : r.no = 0 := by
    apply Classical.byContradiction
    intro hc
    unfold rdRaw at h
    rw [if_pos (by simpa using hc)] at h
    exact hc h
  have e0 : ¬ (r.no != 0) = true := by simp [h0]
  unfold rdRaw at h
  rw [if_neg e0, rdRaw1_no] at h
  refine ⟨h0, ?_⟩
  have hcn : ((rdCnt r most).no != 0) = false := by simp [h]
  have hle := rdCnt_le r most hcn hk
  have hlim : (rdLim r most).no = 0 ∧ rdCnt r most = rdLim r most := by
    unfold rdCnt at h ⊢
    split at h
    · simp at h
    · rename_i hc; rw [if_neg hc]; exact ⟨h, rfl⟩
  have hb := num_back (most := most) hk (by unfold rdNum; rw [if_neg e0]; exact hlim.1)
  have e2 : rdNum r most = rdLim r most := by unfold rdNum; rw [if_neg e0]
  have e1 : (rdNumV r most) = rdN r := by
    unfold rdNumV
    rw [if_neg e0, if_neg (by simp [hlim.1])]
  have e3 : rdRaw r most = ⟨r.nn, r.b, (rdCnt r most).at_ + (rdN r).toNat, (rdCnt r most).no⟩ := by
    unfold rdRaw
    rw [if_neg e0]
    unfold rdRaw1
    rw [if_neg (by simp [h])]
  have e4 : rdRawV r most = (r.b.take ((rdCnt r most).at_ + (rdN r).toNat)).drop (rdCnt r most).at_ := by
    unfold rdRawV
    rw [if_neg e0]
    unfold rdRaw1V
    rw [if_neg (by simp [h])]
  have e5 : (rdRawV r most).length = (rdN r).toNat := by
    rw [e4, List.length_drop, List.length_take]
    omega
  rw [hb.2, e5, e1, e2]
  congr 1
  rw [e3, e4]
  unfold Rd.tail
  simp only
  rw [← hlim.2, List.drop_take, ← List.drop_drop, Nat.add_sub_cancel_left, List.take_append_drop, (rdCnt_b r most).1]
theorem tail_done {r : Rd} (hk : r.ok) (h : rdDone r = 0) : r.no = 0 ∧ r.tail = [] := by
  unfold rdDone at h
  split at h
  · rename_i hc; simp [h] at hc
  · rename_i hc
    split at h
    · simp at h
    · refine ⟨by simpa using hc, ?_⟩
      unfold Rd.tail
      exact List.drop_of_length_le (by omega)
theorem done_tail {r : Rd} (h : Sfx r []) : rdDone r = 0 := by
  obtain ⟨h0, hk, ht⟩ := h
  unfold rdDone
  rw [if_neg (by simp [h0]), if_neg]
  unfold Rd.tail at ht
  have := List.drop_eq_nil_iff.1 ht
  omega
/-- A command in F1. -/
theorem cmdB1 (c : Cmd) : cmdB 1 c = vb c.kind.toNat ++ (vb c.client.toNat ++ (vb c.seq.toNat ++ (textB c.key ++ (textB c.val ++ vb c.node.toNat)))) := by
  simp [cmdB, partsB, partB, wantB, bitOf, fieldB, List.range']
theorem getCmd1 (r : Rd) : getCmd 1 r = (getFR (getFR (getFR (getFR (getFR (rdNum r 9223372036854775807) 0) 1) 2) 4) 5,
    getFC (getFR (getFR (getFR (getFR (rdNum r 9223372036854775807) 0) 1) 2) 4) (getFC (getFR (getFR (getFR (rdNum r 9223372036854775807) 0) 1) 2) (getFC (getFR (getFR (rdNum r 9223372036854775807) 0) 1) (getFC (getFR (rdNum r 9223372036854775807) 0) (getFC (rdNum r 9223372036854775807) ⟨rdNumV r 9223372036854775807, 0, 0, .empty, .empty, .empty, 0⟩ 0) 1) 2) 4) 5) := by
  simp only [getCmd, getFrom, wantB, bitOf]
  rfl
theorem strB_toList (s : ByteArray) : strB s.toList = s := by
  unfold strB
  rw [ByteArray.toList_eq]
theorem toList_strB (l : List UInt8) : (strB l).toList = l := by
  unfold strB
  rw [ByteArray.toList_eq]
theorem size_strB (l : List UInt8) : (strB l).size = l.length := by
  rw [← toList_len, toList_strB]
structure Cmd.nat (c : Cmd) : Prop where
  k : 0 ≤ c.kind ∧ c.kind ≤ 9223372036854775807
  cl : 0 ≤ c.client ∧ c.client ≤ 9223372036854775807
  sq : 0 ≤ c.seq ∧ c.seq ≤ 9223372036854775807
  nd : 0 ≤ c.node ∧ c.node ≤ 9223372036854775807
  ke : c.key.size ≤ 1000000
  va : c.val.size ≤ 1000000
theorem numZ_ok {r : Rd} {n : Int} {t : List UInt8} (h : Sfx r (vb n.toNat ++ t)) (h0 : 0 ≤ n ∧ n ≤ 9223372036854775807) : Sfx (rdNum r 9223372036854775807) t ∧ rdNumV r 9223372036854775807 = n := by
  obtain ⟨a, b⟩ := num_ok (most := 9223372036854775807) h (by omega) (by omega)
  exact ⟨a, by rw [b]; omega⟩
theorem text_ok {r : Rd} {s : ByteArray} {t : List UInt8} (h : Sfx r (textB s ++ t)) (hs : s.size ≤ 1000000) : Sfx (rdRaw r 1048576) t ∧ strB (rdRawV r 1048576) = s := by
  unfold textB at h
  rw [← toList_len, List.append_assoc] at h
  obtain ⟨a, b⟩ := raw_ok (most := 1048576) h (by rw [toList_len]; omega) (by omega)
  exact ⟨a, by rw [b, strB_toList]⟩
theorem cmd_ok {r : Rd} {c : Cmd} {t : List UInt8} (hc : c.nat) (ho : c.old = .empty) (h : Sfx r (cmdB 1 c ++ t)) : Sfx (getCmd 1 r).1 t ∧ (getCmd 1 r).2 = c := by
  rw [cmdB1] at h
  simp only [List.append_assoc] at h
  obtain ⟨s0, v0⟩ := numZ_ok h hc.k
  obtain ⟨s1, v1⟩ := numZ_ok s0 hc.cl
  obtain ⟨s2, v2⟩ := numZ_ok s1 hc.sq
  obtain ⟨s3, v3⟩ := text_ok s2 hc.ke
  obtain ⟨s4, v4⟩ := text_ok s3 hc.va
  obtain ⟨s5, v5⟩ := numZ_ok s4 hc.nd
  rw [getCmd1]
  refine ⟨s5, ?_⟩
  simp only [getFR, getFC]
  rw [v0, v1, v2, v3, v4, v5, ← ho]
theorem cmd_back {r : Rd} (hk : r.ok) (h : (getCmd 1 r).1.no = 0) : r.no = 0 ∧ r.tail = cmdB 1 (getCmd 1 r).2 ++ (getCmd 1 r).1.tail := by
  rw [getCmd1] at h ⊢
  simp only [getFR, getFC] at h ⊢
  have k0 := rdNum_ok r 9223372036854775807 hk
  have k1 := rdNum_ok _ 9223372036854775807 k0
  have k2 := rdNum_ok _ 9223372036854775807 k1
  have k3 := rdRaw_ok _ 1048576 k2
  have k4 := rdRaw_ok _ 1048576 k3
  obtain ⟨n4, t4⟩ := num_back k4 h
  obtain ⟨n3, t3⟩ := raw_back k3 n4
  obtain ⟨n2, t2⟩ := raw_back k2 n3
  obtain ⟨n1, t1⟩ := num_back k1 n2
  obtain ⟨n0, t0⟩ := num_back k0 n1
  obtain ⟨n, t⟩ := num_back hk n0
  refine ⟨n, ?_⟩
  rw [cmdB1]
  simp only [textB, toList_strB, size_strB, List.append_assoc]
  rw [← t4, ← t3, ← t2, ← t1, ← t0, ← t]
end Go.Proofs.Tryd
/- Records: what is written is read, and what is read was written so. -/
set_option linter.unusedVariables false
set_option linter.unusedSimpArgs false
namespace Go.Proofs.Tryd
open Go Go.Ab Go.Pl
theorem empty_of {s : ByteArray} (h : s.toList = []) : s = .empty := by
  rw [← strB_toList s, h]
  rfl
theorem cmd_nat {c : Cmd} (h : cmdErr c = 0) (hv : verHas 1 c.kind = true) (hf : c.fit) : c.nat ∧ c.old = .empty := by
  obtain ⟨f1, f2, f3, f4, f5, f6, f7⟩ := hf
  have hk : isKind c.kind = true := by simp [verHas] at hv; exact hv.1
  have : c.kind = 1 ∨ c.kind = 2 ∨ c.kind = 3 ∨ c.kind = 4 ∨ c.kind = 6 ∨ c.kind = 7 ∨ c.kind = 8 := by simp [verHas, isKind] at hv; omega
  have a0 := off0
  have a3 := off3
  have a11 := off11
  have a16 := off16
  have hh : accR c (mask c.kind) 6 = true ∧ accT c (mask c.kind) 6 = true ∧ accF c (mask c.kind) 6 = true := by
    unfold cmdErr at h
    split at h
    · simp at h
    · split at h
      · simp at h
      · split at h
        · simp at h
        · split at h
          · simp at h
          · simp_all
  obtain ⟨h1, h2, h3⟩ := hh
  have key : (0 ≤ c.client ∧ 0 ≤ c.seq ∧ 0 ≤ c.node) ∧ c.old.toList = [] := by
    rcases this with e | e | e | e | e | e | e <;> rw [e] at h1 h3 <;> simp [mask, accR, accF, numOk, numZ, txtZ, a0, a3, a11, a16] at h1 h3 <;> refine ⟨⟨by omega, by omega, by omega⟩, by simp_all⟩
  have hk0 : 0 ≤ c.kind := by omega
  exact ⟨⟨⟨hk0, f1⟩, ⟨key.1.1, f2⟩, ⟨key.1.2.1, f3⟩, ⟨key.1.2.2, f4⟩, f5, f6⟩, empty_of key.2⟩
theorem cmdZ_eq {c : Cmd} (h : cmdZ c = true) : c = zeroC := by
  obtain ⟨k, cl, sq, ke, va, ol, nd⟩ := c
  simp only [cmdZ, Bool.and_eq_true, beq_iff_eq, and_true] at h
  obtain ⟨rfl, rfl, rfl, h4, h5, h6, rfl⟩ := h
  rw [empty_of h4, empty_of h5, empty_of h6]
  rfl
/-- What a record without faults is. -/
structure Rec.good (x : Rec) : Prop where
  kind : x.kind = 1 ∨ x.kind = 2 ∨ x.kind = 3 ∨ x.kind = 4
  nums : 0 ≤ x.round ∧ 0 ≤ x.node ∧ 0 ≤ x.index
  cmd : (hasCmd x.kind = true → x.cmd.nat ∧ x.cmd.old = .empty) ∧ (hasCmd x.kind = false → x.cmd = zeroC)
  img : (x.kind = 4 → x.image.length ≤ 32768) ∧ (x.kind ≠ 4 → x.image = [])
theorem good_of {x : Rec} (h : oldErr x = 0) (hf : x.fit) : x.good := by
  obtain ⟨⟨i1, i2, i3, i4, i5, i6⟩, hc, hi⟩ := hf
  have hr : recErr x = 0 ∧ (hasCmd x.kind = true → verHas 1 x.cmd.kind = true) := by
    unfold oldErr at h
    split at h
    · rename_i q; simp [h] at q
    · rename_i q
      split at h
      · simp at h
      · rename_i q2
        refine ⟨by simpa using q, fun w => ?_⟩
        rw [w] at q2
        simpa using q2
  obtain ⟨hr, hv⟩ := hr
  unfold recErr at hr
  split at hr
  · simp at hr
  split at hr
  · simp at hr
  split at hr
  · simp at hr
  split at hr
  · rename_i q; simp [hr] at q
  split at hr
  · simp at hr
  rename_i q1 q2 q3 q4 q5
  clear hr
  have hk : x.kind = 1 ∨ x.kind = 2 ∨ x.kind = 3 ∨ x.kind = 4 := by
    simp [hasBal, hasInd] at q1
    omega
  have q2 : rangesB x = true := by simpa using q2
  have q5 : othersB x = false := by simpa using q5
  simp only [rangesB, othersB, Bool.and_eq_true, Bool.or_eq_false_iff, Bool.and_eq_false_iff, Bool.not_eq_true', Bool.not_eq_false', Bool.or_eq_true] at q2 q5
  refine ⟨hk, ?_, ⟨fun w => ?_, fun w => ?_⟩, fun w => ?_, fun w => ?_⟩
  · rcases hk with e | e | e | e <;> simp [e, hasBal, hasInd, mayB] at q2 q5 <;> omega
  · refine cmd_nat ?_ (hv w) hc
    rw [w] at q4
    simpa using q4
  · refine cmdZ_eq ?_
    have := q5.1.2
    rw [w] at this
    simpa using this
  · rw [w] at q3
    simp at q3
    exact q3
  · have := q5.2
    cases hx : x.image with
    | nil => rfl
    | cons a b => rw [hx] at this; simp at this; exact absurd this w
theorem decX_recB {x : Rec} (n : Bool) (g : x.good) (hf : x.fit) (hn : n = true → recB x = []) (hz : (recB x).length ≤ 1000000000) : rdDone (decR n (recB x)) = 0 ∧ ∃ m, decX n (recB x) = ⟨x.kind, x.round, x.node, x.index, x.cmd, m, x.image⟩ := by
  obtain ⟨⟨i1, i2, i3, i4, i5, i6⟩, hc, hi⟩ := hf
  obtain ⟨n1, n2, n3⟩ := g.nums
  have k0 : 0 ≤ x.kind := by have := g.kind; omega
  have hs : Sfx (rd0 n (recB x)) (recB x) := ⟨rfl, rd0_ok n _ hn hz, rfl⟩
  have e : Sfx (rd0 n (recB x)) (vb x.kind.toNat ++ (vb x.round.toNat ++ (vb x.node.toNat ++ (vb x.index.toNat ++ ((if hasCmd x.kind = true then cmdB 1 x.cmd else []) ++ if (x.kind == 4) = true then vb x.image.length ++ x.image else []))))) := by
    have : recB x = (vb x.kind.toNat ++ (vb x.round.toNat ++ (vb x.node.toNat ++ (vb x.index.toNat ++ ((if hasCmd x.kind = true then cmdB 1 x.cmd else []) ++ if (x.kind == 4) = true then vb x.image.length ++ x.image else []))))) := by unfold recB; simp only [List.append_assoc]
    rw [← this]
    exact hs
  obtain ⟨s1, v1⟩ := numZ_ok e ⟨k0, i1⟩
  obtain ⟨s2, v2⟩ := numZ_ok s1 ⟨n1, i2⟩
  obtain ⟨s3, v3⟩ := numZ_ok s2 ⟨n2, i3⟩
  obtain ⟨s4, v4⟩ := numZ_ok s3 ⟨n3, i4⟩
  have w1 : kv n (recB x) = x.kind := v1
  have w2 : rov n (recB x) = x.round := v2
  have w3 : nov n (recB x) = x.node := v3
  have w4 : ixv n (recB x) = x.index := v4
  have s4 : Sfx (rd4 n (recB x)) _ := s4
  unfold decR decX
  rw [w1, w2, w3, w4]
  cases hh : hasCmd x.kind with
  | true =>
    have h4 : (x.kind == 4) = false := hasCmd_not4 hh
    have h4' : x.kind ≠ 4 := by simpa using h4
    rw [hh, h4] at s4
    simp only [if_true, Bool.false_eq_true, if_false] at s4 ⊢
    obtain ⟨c1, c2⟩ := g.cmd.1 hh
    obtain ⟨s5, v5⟩ := cmd_ok c1 c2 s4
    refine ⟨done_tail s5, true, ?_⟩
    rw [h4, g.img.2 h4']
    have : cmdV n (recB x) = x.cmd := v5
    rw [this]
    rfl
  | false =>
    rw [hh] at s4
    rw [g.cmd.2 hh]
    simp only [Bool.false_eq_true, if_false, List.nil_append] at s4 ⊢
    by_cases h4 : x.kind = 4
    · have h4' : (x.kind == 4) = true := by simpa using h4
      rw [h4'] at s4
      simp only [if_true, h4'] at s4 ⊢
      rw [show vb x.image.length ++ x.image = vb x.image.length ++ (x.image ++ []) by simp] at s4
      obtain ⟨s5, v5⟩ := raw_ok (most := 32768) s4 (by have := g.img.1 h4; omega) (by omega)
      refine ⟨done_tail s5, imgN n (recB x), ?_⟩
      have : imgV n (recB x) = x.image := v5
      rw [this]
    · have h4' : (x.kind == 4) = false := by simpa using h4
      rw [h4'] at s4
      simp only [Bool.false_eq_true, if_false, h4'] at s4 ⊢
      refine ⟨done_tail s4, true, ?_⟩
      rw [g.img.2 h4]
theorem tail_no {r : Rd} (h : rdDone r = 0) : r.no = 0 := by
  unfold rdDone at h
  split at h
  · rename_i q; simp [h] at q
  · rename_i q; simpa using q
theorem oldErr_nil (k ro no ix : Int) (c : Cmd) (m m' : Bool) (l : List UInt8) : oldErr ⟨k, ro, no, ix, c, m, l⟩ = oldErr ⟨k, ro, no, ix, c, m', l⟩ := rfl
/-- A record without faults is read from its bytes. -/
theorem enc_dec {x : Rec} (n : Bool) (h : oldErr x = 0) (hf : x.fit) (hn : n = true → recB x = []) (hz : (recB x).length ≤ 1000000000) : decE n (recB x) = 0 ∧ recSame (decX n (recB x)) x = true := by
  have g := good_of h hf
  obtain ⟨hd, m, hx⟩ := decX_recB n g hf hn hz
  have hk : kv n (recB x) = x.kind := congrArg Rec.kind hx
  constructor
  · have h1 : (decR n (recB x)).no = 0 := (tail_no hd)
    unfold decE
    rw [if_neg (by simp [h1]), hk, hd, hx, oldErr_nil _ _ _ _ _ m x.inil]
    rw [if_neg, if_neg (by simp)]
    · exact h
    · rcases g.kind with e | e | e | e <;> rw [e] <;> decide
  · rw [hx]
    simp [recSame, cmdSame]
/-- What is read has these bytes. -/
theorem dec_enc {n : Bool} {b : List UInt8} (hn : n = true → b = []) (hz : b.length ≤ 1000000000) (h : decE n b = 0) : recB (decX n b) = b ∧ oldErr (decX n b) = 0 := by
  have k0 := rd0_ok n b hn hz
  have k4 := rd4_ok k0
  unfold decE at h
  split at h
  · rename_i q; simp [h] at q
  split at h
  · simp at h
  split at h
  · rename_i q; simp [h] at q
  rename_i q1 q2 q3
  refine ⟨?_, h⟩
  have hd : rdDone (decR n b) = 0 := by simpa using q3
  have key : (rd4 n b).no = 0 ∧ (rd4 n b).tail = (if hasCmd (decX n b).kind then cmdB 1 (decX n b).cmd else []) ++ (if (decX n b).kind == 4 then vb (decX n b).image.length ++ (decX n b).image else []) := by
    unfold decR at hd
    unfold decX
    simp only
    cases hh : hasCmd (kv n b) with
    | true =>
      have h4 : (kv n b == 4) = false := hasCmd_not4 hh
      rw [hh] at hd
      simp only [if_true, h4, Bool.false_eq_true, if_false, List.append_nil] at hd ⊢
      obtain ⟨d1, d2⟩ := tail_done (rdC_ok k0) hd
      obtain ⟨e1, e2⟩ := cmd_back k4 d1
      refine ⟨e1, ?_⟩
      rw [e2]
      have : (getCmd 1 (rd4 n b)).1.tail = [] := d2
      rw [this, List.append_nil]
      rfl
    | false =>
      rw [hh] at hd
      simp only [Bool.false_eq_true, if_false, List.nil_append] at hd ⊢
      cases h4 : (kv n b == 4) with
      | true =>
        rw [h4] at hd
        simp only [if_true] at hd ⊢
        obtain ⟨d1, d2⟩ := tail_done (rdI_ok k0) hd
        obtain ⟨e1, e2⟩ := raw_back k4 d1
        refine ⟨e1, ?_⟩
        rw [e2]
        have : (rdRaw (rd4 n b) 32768).tail = [] := d2
        rw [this, List.append_nil]
        rfl
      | false =>
        rw [h4] at hd
        simp only [Bool.false_eq_true, if_false] at hd ⊢
        exact tail_done k4 hd
  obtain ⟨n4, t4⟩ := key
  have k3 := rd3_ok k0
  have k2 := rd2_ok k0
  have k1 := rd1_ok k0
  obtain ⟨n3, t3⟩ := num_back k3 n4
  obtain ⟨n2, t2⟩ := num_back k2 n3
  obtain ⟨n1, t1⟩ := num_back k1 n2
  obtain ⟨n0, t0⟩ := num_back k0 n1
  have e0 : (rd0 n b).tail = b := rfl
  rw [e0] at t0
  have t3 : (rd3 n b).tail = vb (ixv n b).toNat ++ (rd4 n b).tail := t3
  have t2 : (rd2 n b).tail = vb (nov n b).toNat ++ (rd3 n b).tail := t2
  have t1 : (rd1 n b).tail = vb (rov n b).toNat ++ (rd2 n b).tail := t1
  have t0 : b = vb (kv n b).toNat ++ (rd1 n b).tail := t0
  unfold recB
  simp only [List.append_assoc]
  rw [← t4]
  have f1 : (decX n b).kind = kv n b := rfl
  have f2 : (decX n b).round = rov n b := rfl
  have f3 : (decX n b).node = nov n b := rfl
  have f4 : (decX n b).index = ixv n b := rfl
  rw [f1, f2, f3, f4, ← t3, ← t2, ← t1, ← t0]
end Go.Proofs.Tryd
/- Records in F2: what is written is read, and what is read was written so. -/
set_option linter.unusedVariables false
set_option linter.unusedSimpArgs false
namespace Go.Proofs.Tryd
open Go Go.Ab Go.Pl
/-- The fields that a kind has, in F2. -/
def e1 (b : Bool) (x : Rec) : List UInt8 := if b then vb x.round.toNat ++ vb x.node.toNat else []
def e2 (b : Bool) (x : Rec) : List UInt8 := if b then vb x.index.toNat else []
def e3 (b : Bool) (x : Rec) : List UInt8 := if b then cmdB 2 x.cmd else []
def e4 (b : Bool) (x : Rec) : List UInt8 := if b then vb x.image.length ++ x.image else []
def tailB (x : Rec) : List UInt8 := e1 (hasBal x.kind) x ++ (e2 (x.kind != 1) x ++ (e3 (hasCmd x.kind) x ++ e4 (x.kind == 4) x))
def rec2B (x : Rec) : List UInt8 := vb (x.kind + 16).toNat ++ tailB x
theorem e1_len {b : Bool} {x : Rec} (hx : x.fit) : (e1 b x).length ≤ 18 := by
  unfold e1
  split
  · have := vbR_len hx.1.2.1
    have := vbR_len hx.1.2.2.1
    rw [List.length_append]; omega
  · simp
theorem e2_len {b : Bool} {x : Rec} (hx : x.fit) : (e2 b x).length ≤ 9 := by
  unfold e2
  split
  · exact vbR_len hx.1.2.2.2.1
  · simp
theorem e3_len {b : Bool} {x : Rec} (hx : x.fit) : (e3 b x).length ≤ 6000063 := by
  unfold e3
  split
  · exact cmdB_len 2 _ hx.2.1
  · simp
theorem e4_len {b : Bool} {x : Rec} (hx : x.fit) : (e4 b x).length ≤ 1000009 := by
  unfold e4
  split
  · have := vbR_len (k := (x.image.length : Int)) (by have := hx.2.2; omega)
    have := hx.2.2
    simp only [Int.toNat_natCast] at *
    rw [List.length_append]; omega
  · simp
theorem rec2B_len {x : Rec} (hx : x.fit) : (rec2B x).length ≤ 10000000 ∨ ¬ (1 ≤ x.kind ∧ x.kind ≤ 4) := by
  by_cases h : 1 ≤ x.kind ∧ x.kind ≤ 4
  · left
    unfold rec2B tailB
    have h0 := vbR_len (k := x.kind + 16) (by omega)
    have h1 := e1_len (b := hasBal x.kind) hx
    have h2 := e2_len (b := x.kind != 1) hx
    have h3 := e3_len (b := hasCmd x.kind) hx
    have h4 := e4_len (b := x.kind == 4) hx
    simp only [List.length_append]
    omega
  · exact .inr h
/-- Fields read. -/
def w1X (b : Bool) (r : Rd) (x : Rec) : Rec := if b then ⟨x.kind, nv r, nv (nx r), x.index, x.cmd, x.inil, x.image⟩ else x
def w1R (b : Bool) (r : Rd) : Rd := if b then nx (nx r) else r
def w2X (b : Bool) (r : Rd) (x : Rec) : Rec := if b then ⟨x.kind, x.round, x.node, nv r, x.cmd, x.inil, x.image⟩ else x
def w2R (b : Bool) (r : Rd) : Rd := if b then nx r else r
def w3X (b : Bool) (r : Rd) (x : Rec) : Rec := if b then ⟨x.kind, x.round, x.node, x.index, (getCmd 2 r).2, x.inil, x.image⟩ else x
def w3R (b : Bool) (r : Rd) : Rd := if b then (getCmd 2 r).1 else r
def w4X (b : Bool) (r : Rd) (x : Rec) : Rec := if b then ⟨x.kind, x.round, x.node, x.index, x.cmd, rdRawN r 32768, rdRawV r 32768⟩ else x
def w4R (b : Bool) (r : Rd) : Rd := if b then rdRaw r 32768 else r
theorem w1R_ok {b : Bool} {r : Rd} (h : r.ok) : (w1R b r).ok := by unfold w1R; split; exact rdNum_ok _ _ (rdNum_ok _ _ h); exact h
theorem w2R_ok {b : Bool} {r : Rd} (h : r.ok) : (w2R b r).ok := by unfold w2R; split; exact rdNum_ok _ _ h; exact h
theorem w3R_ok {b : Bool} {r : Rd} (h : r.ok) : (w3R b r).ok := by unfold w3R; split; exact getCmd_ok _ _ h; exact h
theorem w4R_ok {b : Bool} {r : Rd} (h : r.ok) : (w4R b r).ok := by unfold w4R; split; exact rdRaw_ok _ _ h; exact h
def rA1 (k : Int) (r : Rd) : Rd := w1R (hasBal k) r
def rA2 (k : Int) (r : Rd) : Rd := w2R (k != 1) (rA1 k r)
def rA3 (k : Int) (r : Rd) : Rd := w3R (hasCmd k) (rA2 k r)
def rA4 (k : Int) (r : Rd) : Rd := w4R (k == 4) (rA3 k r)
def xA1 (k : Int) (r : Rd) (x : Rec) : Rec := w1X (hasBal k) r x
def xA2 (k : Int) (r : Rd) (x : Rec) : Rec := w2X (k != 1) (rA1 k r) (xA1 k r x)
def xA3 (k : Int) (r : Rd) (x : Rec) : Rec := w3X (hasCmd k) (rA2 k r) (xA2 k r x)
def xA4 (k : Int) (r : Rd) (x : Rec) : Rec := w4X (k == 4) (rA3 k r) (xA3 k r x)
theorem rA1_ok {k : Int} {r : Rd} (h : r.ok) : (rA1 k r).ok := w1R_ok h
theorem rA2_ok {k : Int} {r : Rd} (h : r.ok) : (rA2 k r).ok := w2R_ok (rA1_ok h)
theorem rA3_ok {k : Int} {r : Rd} (h : r.ok) : (rA3 k r).ok := w3R_ok (rA2_ok h)
theorem rA4_ok {k : Int} {r : Rd} (h : r.ok) : (rA4 k r).ok := w4R_ok (rA3_ok h)
def kind0 (k : Int) : Rec := ⟨k, 0, 0, 0, zeroC, true, []⟩
def d2K (n : Bool) (b : List UInt8) : Int := IntKind.i64.wrap (kv n b - 16)
def d2R (n : Bool) (b : List UInt8) : Rd := rA4 (d2K n b) (rd1 n b)
def d2X (n : Bool) (b : List UInt8) : Rec := xA4 (d2K n b) (rd1 n b) (kind0 (d2K n b))
def d2E (n : Bool) (b : List UInt8) : Int :=
  if (rd1 n b).no != 0 then (rd1 n b).no else if decide (kv n b ≤ 16) || decide (kv n b > 20) then 3 else if rdDone (d2R n b) != 0 then rdDone (d2R n b) else recErr (d2X n b)
def d2V (n : Bool) (b : List UInt8) : Rec := if d2E n b != 0 then zeroR else d2X n b

/-! Commands in a version's bytes. -/
theorem getFR_back {r : Rd} {c : Cmd} {i : Nat} (hi : i < 6) (hk : r.ok) (h : (getFR r i).no = 0) : r.no = 0 ∧ r.tail = fieldB (getFC r c i) i ++ (getFR r i).tail := by
  have : i = 0 ∨ i = 1 ∨ i = 2 ∨ i = 3 ∨ i = 4 ∨ i = 5 := by omega
  rcases this with rfl | rfl | rfl | rfl | rfl | rfl <;> simp only [getFR, getFC, fieldB, textB, toList_strB, size_strB, List.append_assoc] at h ⊢
  · exact num_back hk h
  · exact num_back hk h
  · exact raw_back hk h
  · exact raw_back hk h
  · exact raw_back hk h
  · exact num_back hk h
theorem getFC_kind (r : Rd) (c : Cmd) (i : Nat) : (getFC r c i).kind = c.kind := by unfold getFC; split <;> rfl
theorem getFrom_kind (v : Int) : ∀ (n i : Nat) (r : Rd) (c : Cmd), (getFrom v n i r c).2.kind = c.kind
  | 0, _, _, _ => rfl
  | n + 1, i, r, c => by
    rw [getFrom_step]
    split
    · rw [getFrom_kind v n, getFC_kind]
    · exact getFrom_kind v n _ _ _
theorem fieldB_getFC {r : Rd} {c : Cmd} {i j : Nat} (hj : j < i) (hi : i < 6) : fieldB (getFC r c i) j = fieldB c j := by
  have h1 : i = 1 ∨ i = 2 ∨ i = 3 ∨ i = 4 ∨ i = 5 := by omega
  have h2 : j = 0 ∨ j = 1 ∨ j = 2 ∨ j = 3 ∨ j = 4 := by omega
  rcases h1 with rfl | rfl | rfl | rfl | rfl <;> rcases h2 with rfl | rfl | rfl | rfl | rfl <;> first | omega | rfl
theorem getFrom_field (v : Int) : ∀ (n i : Nat) (r : Rd) (c : Cmd) (j : Nat), i + n = 6 → j < i → fieldB (getFrom v n i r c).2 j = fieldB c j
  | 0, _, _, _, _, _, _ => rfl
  | n + 1, i, r, c, j, hn, hj => by
    rw [getFrom_step]
    split
    · rw [getFrom_field v n (i + 1) _ _ j (by omega) (by omega), fieldB_getFC hj (by omega)]
    · exact getFrom_field v n (i + 1) _ _ j (by omega) (by omega)
theorem getFrom_back (v : Int) : ∀ (n i : Nat) (r : Rd) (c : Cmd), i + n = 6 → r.ok → (getFrom v n i r c).1.no = 0 → r.no = 0 ∧ r.tail = partsB v (getFrom v n i r c).2 i ++ (getFrom v n i r c).1.tail
  | 0, i, r, c, hn, hk, h => by
    obtain rfl : i = 6 := by omega
    rw [partsB_end]
    exact ⟨h, rfl⟩
  | n + 1, i, r, c, hn, hk, h => by
    rw [partsB_step v _ i (by omega)]
    unfold partB
    rw [getFrom_kind]
    rw [getFrom_step] at h ⊢
    cases hw : wantB v c.kind i with
    | true =>
      rw [hw] at h
      simp only [if_true] at h ⊢
      obtain ⟨h1, h2⟩ := getFrom_back v n (i + 1) _ _ (by omega) (getFR_ok r i hk) h
      obtain ⟨h3, h4⟩ := getFR_back (c := c) (by omega) hk h1
      refine ⟨h3, ?_⟩
      rw [getFrom_field v n (i + 1) _ _ i (by omega) (by omega), List.append_assoc, ← h2]
      exact h4
    | false =>
      rw [hw] at h
      simp only [Bool.false_eq_true, if_false, List.nil_append] at h ⊢
      exact getFrom_back v n (i + 1) _ _ (by omega) hk h
/-- What is read as a command has these bytes. -/
theorem cmdv_back {v : Int} {r : Rd} (hk : r.ok) (h : (getCmd v r).1.no = 0) : r.no = 0 ∧ r.tail = cmdB v (getCmd v r).2 ++ (getCmd v r).1.tail := by
  obtain ⟨h1, h2⟩ := getFrom_back v 6 0 _ _ rfl (rdNum_ok r 9223372036854775807 hk) h
  obtain ⟨h3, h4⟩ := num_back hk h1
  refine ⟨h3, ?_⟩
  rw [h4, h2]
  unfold cmdB
  have e : (getCmd v r).2.kind = rdNumV r 9223372036854775807 := getFrom_kind v 6 0 _ _
  rw [e, List.append_assoc]
  rfl
/-- A command's faults, field by field. -/
theorem cmd_good {c : Cmd} (h : cmdErr c = 0) (hf : c.fit) : isKind c.kind = true ∧ (c.kind = 1 ∨ c.kind = 2 ∨ c.kind = 3 ∨ c.kind = 4 ∨ c.kind = 5 ∨ c.kind = 6 ∨ c.kind = 7 ∨ c.kind = 8) ∧ accR c (mask c.kind) 6 = true ∧ accF c (mask c.kind) 6 = true := by
  have hk : isKind c.kind = true := by
    cases hh : isKind c.kind with
    | true => rfl
    | false => unfold cmdErr at h; rw [hh] at h; simp at h
  have hh : accR c (mask c.kind) 6 = true ∧ accF c (mask c.kind) 6 = true := by
    unfold cmdErr at h
    split at h
    · simp at h
    · split at h
      · simp at h
      · split at h
        · simp at h
        · split at h
          · simp at h
          · simp_all
  exact ⟨hk, by simp [isKind] at hk; omega, hh.1, hh.2⟩
theorem text0 {r : Rd} {s : ByteArray} {t : List UInt8} (h : Sfx r (textB s ++ t)) (hs : s.size ≤ 1000000) : Sfx (rdRaw r 1048576) t ∧ strB (rdRawV r 1048576) = s := text_ok h hs
theorem cmd2_ok {r : Rd} {c : Cmd} {t : List UInt8} (he : cmdErr c = 0) (hf : c.fit) (h : Sfx r (cmdB 2 c ++ t)) : Sfx (getCmd 2 r).1 t ∧ (getCmd 2 r).2 = c := by
  obtain ⟨_, hk, hR, hF⟩ := cmd_good he hf
  obtain ⟨f1, f2, f3, f4, f5, f6, f7⟩ := hf
  obtain ⟨k, cl, sq, ke, va, ol, nd⟩ := c
  have a0 := off0
  have a3 := off3
  have a11 := off11
  have a15 := off15
  have a16 := off16
  simp only at hk f1 f2 f3 f4 f5 f6 f7
  unfold cmdB at h
  rw [List.append_assoc] at h
  obtain ⟨s0, v0⟩ := numZ_ok h ⟨by simp only; omega, f1⟩
  rw [partsB_step 2 _ 0 (by omega), partsB_step 2 _ 1 (by omega), partsB_step 2 _ 2 (by omega), partsB_step 2 _ 3 (by omega), partsB_step 2 _ 4 (by omega), partsB_step 2 _ 5 (by omega), partsB_end] at s0
  unfold getCmd
  simp only [getFrom]
  simp only [partB, List.append_assoc, List.nil_append, List.append_nil] at s0
  simp only at v0
  rw [v0]
  rcases hk with rfl | rfl | rfl | rfl | rfl | rfl | rfl | rfl <;>
    simp [mask, accR, accF, numOk, numZ, txtZ, a0, a3, a11, a15, a16] at hR hF <;>
    simp [wantB, mask, bitOf, a0, a3, a11, a15, a16, fieldB] at s0 <;>
    simp [wantB, mask, bitOf, a0, a3, a11, a15, a16, getFR, getFC]
  all_goals first
    | (obtain ⟨⟨⟨⟨⟨b1, b2⟩, b3⟩, b4⟩, b5⟩, b6⟩ := hF; exact ⟨s0, b1.symm, b2.symm, (empty_of b3).symm, (empty_of b5).symm, (empty_of b4).symm, b6.symm⟩)
    | (obtain ⟨⟨⟨⟨b1, b2⟩, b3⟩, b4⟩, b5⟩ := hF; obtain ⟨s1, v1⟩ := numZ_ok s0 ⟨by omega, f4⟩; exact ⟨s1, b1.symm, b2.symm, (empty_of b3).symm, (empty_of b5).symm, (empty_of b4).symm, v1⟩)
    | (obtain ⟨s1, v1⟩ := numZ_ok s0 ⟨by omega, f2⟩; obtain ⟨s2, v2⟩ := numZ_ok s1 ⟨by omega, f3⟩; obtain ⟨s3, v3⟩ := text_ok s2 f5
       first
         | exact ⟨s3, v1, v2, v3, (empty_of hF.1.2).symm, (empty_of hF.1.1).symm, hF.2.symm⟩
         | (obtain ⟨s4, v4⟩ := text_ok s3 f6; exact ⟨s4, v1, v2, v3, v4, (empty_of hF.1).symm, hF.2.symm⟩)
         | (obtain ⟨s4, v4⟩ := text_ok s3 f7; obtain ⟨s5, v5⟩ := text_ok s4 f6; exact ⟨s5, v1, v2, v3, v5, v4, hF.symm⟩))
theorem rec_kind {x : Rec} (h : recErr x = 0) : x.kind = 1 ∨ x.kind = 2 ∨ x.kind = 3 ∨ x.kind = 4 := by
  unfold recErr at h
  split at h
  · simp at h
  · rename_i q
    simp [hasBal, hasInd] at q
    omega
theorem rec_parts {x : Rec} (h : recErr x = 0) : rangesB x = true ∧ (x.kind = 4 → x.image.length ≤ 32768) ∧ (hasCmd x.kind = true → cmdErr x.cmd = 0) ∧ othersB x = false := by
  unfold recErr at h
  split at h
  · simp at h
  split at h
  · simp at h
  split at h
  · simp at h
  split at h
  · rename_i q; simp [h] at q
  split at h
  · simp at h
  rename_i q1 q2 q3 q4 q5
  refine ⟨by simpa using q2, fun w => ?_, fun w => ?_, by simpa using q5⟩
  · rw [w] at q3; simp at q3; exact q3
  · rw [w] at q4; simpa using q4
structure Rec.sound (x : Rec) : Prop where
  kind : x.kind = 1 ∨ x.kind = 2 ∨ x.kind = 3 ∨ x.kind = 4
  nums : 0 ≤ x.round ∧ 0 ≤ x.node ∧ 0 ≤ x.index
  bal : hasBal x.kind = false → x.round = 0 ∧ x.node = 0
  ind : x.kind = 1 → x.index = 0
  cmd : (hasCmd x.kind = true → cmdErr x.cmd = 0) ∧ (hasCmd x.kind = false → x.cmd = zeroC)
  img : (x.kind = 4 → x.image.length ≤ 32768) ∧ (x.kind ≠ 4 → x.image = [])
theorem sound_of {x : Rec} (h : recErr x = 0) : x.sound := by
  have hk := rec_kind h
  obtain ⟨q2, q3, q4, q5⟩ := rec_parts h
  simp only [rangesB, othersB, Bool.and_eq_true, Bool.or_eq_false_iff, Bool.and_eq_false_iff, Bool.not_eq_true', Bool.not_eq_false', Bool.or_eq_true] at q2 q5
  refine ⟨hk, ?_, fun w => ?_, fun w => ?_, ⟨q4, fun w => ?_⟩, q3, fun w => ?_⟩
  · rcases hk with e | e | e | e <;> simp [e, hasBal, hasInd, mayB] at q2 q5 <;> omega
  · have := q5.1.1.1; rw [w] at this; simpa using this
  · have := q5.1.1.2; rw [w] at this; simpa [hasInd] using this
  · refine cmdZ_eq ?_
    have := q5.1.2
    rw [w] at this
    simpa using this
  · have := q5.2
    cases hx : x.image with
    | nil => rfl
    | cons a b => rw [hx] at this; simp at this; exact absurd this w
end Go.Proofs.Tryd
/- Records in F2, whole. -/
set_option linter.unusedVariables false
set_option linter.unusedSimpArgs false
namespace Go.Proofs.Tryd
open Go Go.Ab Go.Pl
theorem wrap16 {k : Int} (h : k = 1 ∨ k = 2 ∨ k = 3 ∨ k = 4) : IntKind.i64.wrap (k + 16 - 16) = k := by rcases h with rfl | rfl | rfl | rfl <;> rfl
theorem k1 : hasBal 1 = true ∧ ((1 : Int) != 1) = false ∧ hasCmd 1 = false ∧ ((1 : Int) == 4) = false := ⟨rfl, rfl, rfl, rfl⟩
theorem k2 : hasBal 2 = true ∧ ((2 : Int) != 1) = true ∧ hasCmd 2 = true ∧ ((2 : Int) == 4) = false := ⟨rfl, rfl, rfl, rfl⟩
theorem k3 : hasBal 3 = false ∧ ((3 : Int) != 1) = true ∧ hasCmd 3 = true ∧ ((3 : Int) == 4) = false := ⟨rfl, rfl, rfl, rfl⟩
theorem k4 : hasBal 4 = false ∧ ((4 : Int) != 1) = true ∧ hasCmd 4 = false ∧ ((4 : Int) == 4) = true := ⟨rfl, rfl, rfl, rfl⟩
theorem e1f {x : Rec} : e1 false x = [] := rfl
theorem e1t {x : Rec} : e1 true x = vb x.round.toNat ++ vb x.node.toNat := rfl
theorem e2f {x : Rec} : e2 false x = [] := rfl
theorem e2t {x : Rec} : e2 true x = vb x.index.toNat := rfl
theorem e3f {x : Rec} : e3 false x = [] := rfl
theorem e3t {x : Rec} : e3 true x = cmdB 2 x.cmd := rfl
theorem e4f {x : Rec} : e4 false x = [] := rfl
theorem e4t {x : Rec} : e4 true x = vb x.image.length ++ x.image := rfl
theorem tail_e {x : Rec} {k : Int} (e : x.kind = k) : tailB x = e1 (hasBal k) x ++ (e2 (k != 1) x ++ (e3 (hasCmd k) x ++ e4 (k == 4) x)) := by
  unfold tailB
  rw [e]
theorem tail1 {x : Rec} (e : x.kind = 1) : tailB x = vb x.round.toNat ++ (vb x.node.toNat ++ []) := by
  rw [tail_e e, k1.1, k1.2.1, k1.2.2.1, k1.2.2.2, e1t, e2f, e3f, e4f]
  exact List.append_assoc _ _ _
theorem tail2 {x : Rec} (e : x.kind = 2) : tailB x = vb x.round.toNat ++ (vb x.node.toNat ++ (vb x.index.toNat ++ (cmdB 2 x.cmd ++ []))) := by
  rw [tail_e e, k2.1, k2.2.1, k2.2.2.1, k2.2.2.2, e1t, e2t, e3t, e4f]
  exact List.append_assoc _ _ _
theorem tail3 {x : Rec} (e : x.kind = 3) : tailB x = vb x.index.toNat ++ (cmdB 2 x.cmd ++ []) := by
  rw [tail_e e, k3.1, k3.2.1, k3.2.2.1, k3.2.2.2, e1f, e2t, e3t, e4f]
  exact List.nil_append _
theorem tail4 {x : Rec} (e : x.kind = 4) : tailB x = vb x.index.toNat ++ (vb x.image.length ++ (x.image ++ [])) := by
  rw [tail_e e, k4.1, k4.2.1, k4.2.2.1, k4.2.2.2, e1f, e2t, e3f, e4t, List.append_nil]
  exact List.nil_append _
theorem rA_1 (r : Rd) : rA4 1 r = nx (nx r) := rfl
theorem rA_2 (r : Rd) : rA4 2 r = (getCmd 2 (nx (nx (nx r)))).1 := rfl
theorem rA_3 (r : Rd) : rA4 3 r = (getCmd 2 (nx r)).1 := rfl
theorem rA_4 (r : Rd) : rA4 4 r = rdRaw (nx r) 32768 := rfl
theorem xA_1 (r : Rd) (x : Rec) : xA4 1 r x = ⟨x.kind, nv r, nv (nx r), x.index, x.cmd, x.inil, x.image⟩ := rfl
theorem xA_2 (r : Rd) (x : Rec) : xA4 2 r x = ⟨x.kind, nv r, nv (nx r), nv (nx (nx r)), (getCmd 2 (nx (nx (nx r)))).2, x.inil, x.image⟩ := rfl
theorem xA_3 (r : Rd) (x : Rec) : xA4 3 r x = ⟨x.kind, x.round, x.node, nv r, (getCmd 2 (nx r)).2, x.inil, x.image⟩ := rfl
theorem xA_4 (r : Rd) (x : Rec) : xA4 4 r x = ⟨x.kind, x.round, x.node, nv r, x.cmd, rdRawN (nx r) 32768, rdRawV (nx r) 32768⟩ := rfl
theorem fields_ok {x : Rec} {r : Rd} (g : x.sound) (hf : x.fit) (h : Sfx r (tailB x)) : Sfx (rA4 x.kind r) [] ∧ ∃ m, xA4 x.kind r (kind0 x.kind) = ⟨x.kind, x.round, x.node, x.index, x.cmd, m, x.image⟩ := by
  obtain ⟨⟨i1, i2, i3, i4, i5, i6⟩, hc, hi⟩ := hf
  obtain ⟨n1, n2, n3⟩ := g.nums
  have gb := g.bal
  have gi := g.ind
  have gc := g.cmd
  have gm := g.img
  rcases g.kind with e | e | e | e
  · have hh : Sfx r (vb x.round.toNat ++ (vb x.node.toNat ++ [])) := tail1 e ▸ h
    obtain ⟨s1, v1⟩ := numZ_ok hh ⟨n1, i2⟩
    obtain ⟨s2, v2⟩ := numZ_ok s1 ⟨n2, i3⟩
    have hcm := gc.2 (by rw [e]; rfl)
    have him := gm.2 (by omega)
    refine ⟨by rw [e, rA_1]; exact s2, true, by rw [e, xA_1]; simp only [kind0]; rw [Rec.mk.injEq]; exact ⟨rfl, v1, v2, (gi e).symm, hcm.symm, rfl, him.symm⟩⟩
  · have hh : Sfx r (vb x.round.toNat ++ (vb x.node.toNat ++ (vb x.index.toNat ++ (cmdB 2 x.cmd ++ [])))) := tail2 e ▸ h
    obtain ⟨s1, v1⟩ := numZ_ok hh ⟨n1, i2⟩
    obtain ⟨s2, v2⟩ := numZ_ok s1 ⟨n2, i3⟩
    obtain ⟨s3, v3⟩ := numZ_ok s2 ⟨n3, i4⟩
    obtain ⟨s4, v4⟩ := cmd2_ok (gc.1 (by rw [e]; rfl)) hc s3
    have him := gm.2 (by omega)
    refine ⟨by rw [e, rA_2]; exact s4, true, by rw [e, xA_2]; simp only [kind0]; rw [Rec.mk.injEq]; exact ⟨rfl, v1, v2, v3, v4, rfl, him.symm⟩⟩
  · have hh : Sfx r (vb x.index.toNat ++ (cmdB 2 x.cmd ++ [])) := tail3 e ▸ h
    obtain ⟨s3, v3⟩ := numZ_ok hh ⟨n3, i4⟩
    obtain ⟨s4, v4⟩ := cmd2_ok (gc.1 (by rw [e]; rfl)) hc s3
    have him := gm.2 (by omega)
    have hb := gb (by rw [e]; rfl)
    refine ⟨by rw [e, rA_3]; exact s4, true, by rw [e, xA_3]; simp only [kind0]; rw [Rec.mk.injEq]; exact ⟨rfl, hb.1.symm, hb.2.symm, v3, v4, rfl, him.symm⟩⟩
  · have hh : Sfx r (vb x.index.toNat ++ (vb x.image.length ++ (x.image ++ []))) := tail4 e ▸ h
    obtain ⟨s3, v3⟩ := numZ_ok hh ⟨n3, i4⟩
    obtain ⟨s4, v4⟩ := raw_ok (most := 32768) s3 (by have := gm.1 e; omega) (by omega)
    have hcm := gc.2 (by rw [e]; rfl)
    have hb := gb (by rw [e]; rfl)
    refine ⟨by rw [e, rA_4]; exact s4, rdRawN (nx r) 32768, by rw [e, xA_4]; simp only [kind0]; rw [Rec.mk.injEq]; exact ⟨rfl, hb.1.symm, hb.2.symm, v3, hcm.symm, rfl, v4⟩⟩
theorem first_ok {x : Rec} (n : Bool) (h : recErr x = 0) (hn : n = true → rec2B x = []) (hz : (rec2B x).length ≤ 1000000000) : kv n (rec2B x) = x.kind + 16 ∧ Sfx (rd1 n (rec2B x)) (tailB x) := by
  have hk := rec_kind h
  have hs : Sfx (rd0 n (rec2B x)) (vb (x.kind + 16).toNat ++ tailB x) := ⟨rfl, rd0_ok n _ hn hz, rfl⟩
  obtain ⟨s1, v1⟩ := numZ_ok hs ⟨by omega, by omega⟩
  exact ⟨v1, s1⟩
theorem recErr_nil (k ro no ix : Int) (c : Cmd) (m m' : Bool) (l : List UInt8) : recErr ⟨k, ro, no, ix, c, m, l⟩ = recErr ⟨k, ro, no, ix, c, m', l⟩ := rfl
/-- A record without faults is read from its bytes. -/
theorem enc_dec2 {x : Rec} (n : Bool) (h : recErr x = 0) (hf : x.fit) (hn : n = true → rec2B x = []) : d2E n (rec2B x) = 0 ∧ recSame (d2X n (rec2B x)) x = true := by
  have hk := rec_kind h
  have hz : (rec2B x).length ≤ 1000000000 := by have := (rec2B_len hf).resolve_right (by omega); omega
  obtain ⟨v, s⟩ := first_ok n h hn hz
  have hK : d2K n (rec2B x) = x.kind := by unfold d2K; rw [v, wrap16 hk]
  obtain ⟨s4, m, hx⟩ := fields_ok (sound_of h) hf s
  have hX : d2X n (rec2B x) = ⟨x.kind, x.round, x.node, x.index, x.cmd, m, x.image⟩ := by unfold d2X; rw [hK, hx]
  have hR : d2R n (rec2B x) = rA4 x.kind (rd1 n (rec2B x)) := by unfold d2R; rw [hK]
  constructor
  · unfold d2E
    rw [if_neg (by simp [s.1]), v, hR, done_tail s4, hX, recErr_nil _ _ _ _ _ m x.inil, if_neg, if_neg (by simp)]
    · exact h
    · simp; omega
  · rw [hX]
    simp [recSame, cmdSame]
theorem d2X_kind (n : Bool) (b : List UInt8) : (d2X n b).kind = d2K n b := by
  unfold d2X xA4 xA3 xA2 xA1 w4X w3X w2X w1X kind0
  split <;> split <;> split <;> split <;> rfl
/-- What is read has these bytes. -/
theorem dec2_enc {n : Bool} {b : List UInt8} (hn : n = true → b = []) (hz : b.length ≤ 1000000000) (h : d2E n b = 0) : rec2B (d2X n b) = b ∧ recErr (d2X n b) = 0 := by
  have k0 := rd0_ok n b hn hz
  have k1' := rd1_ok k0
  unfold d2E at h
  split at h
  · rename_i q; simp [h] at q
  split at h
  · simp at h
  split at h
  · rename_i q; simp [h] at q
  rename_i q1 q2 q3
  refine ⟨?_, h⟩
  have q2 : 16 < kv n b ∧ kv n b ≤ 20 := by simp at q2; exact q2
  have hK : d2K n b = kv n b - 16 := by unfold d2K; rw [wI (by omega)]
  have hd : rdDone (d2R n b) = 0 := by simpa using q3
  obtain ⟨n0, t0⟩ := num_back (r := rd0 n b) (most := 9223372036854775807) k0 (show (rd1 n b).no = 0 by simpa using q1)
  have t0 : b = vb (kv n b).toNat ++ (rd1 n b).tail := t0
  have hk : d2K n b = 1 ∨ d2K n b = 2 ∨ d2K n b = 3 ∨ d2K n b = 4 := by omega
  have key : (rd1 n b).tail = tailB (d2X n b) := by
    have hkx := d2X_kind n b
    obtain ⟨d1, d2⟩ := tail_done (rA4_ok k1' : (d2R n b).ok) hd
    unfold tailB
    rw [hkx]
    unfold d2X
    generalize d2K n b = k at *
    have m1 := rdNum_ok (rd1 n b) 9223372036854775807 k1'
    have m2 := rdNum_ok _ 9223372036854775807 m1
    have m3 := rdNum_ok _ 9223372036854775807 m2
    rcases hk with rfl | rfl | rfl | rfl
    · rw [rA_1] at d1 d2
      obtain ⟨a2, b2⟩ := num_back m1 d1
      obtain ⟨a1, b1⟩ := num_back k1' a2
      rw [b1, b2, d2, k1.1, k1.2.1, k1.2.2.1, k1.2.2.2, e1t, e2f, e3f, e4f, xA_1]
      exact (List.append_assoc _ _ _).symm
    · rw [rA_2] at d1 d2
      obtain ⟨a4, b4⟩ := cmdv_back m3 d1
      obtain ⟨a3, b3⟩ := num_back m2 a4
      obtain ⟨a2, b2⟩ := num_back m1 a3
      obtain ⟨a1, b1⟩ := num_back k1' a2
      rw [b1, b2, b3, b4, d2, k2.1, k2.2.1, k2.2.2.1, k2.2.2.2, e1t, e2t, e3t, e4f, xA_2]
      exact (List.append_assoc _ _ _).symm
    · rw [rA_3] at d1 d2
      obtain ⟨a2, b2⟩ := cmdv_back m1 d1
      obtain ⟨a1, b1⟩ := num_back k1' a2
      rw [b1, b2, d2, k3.1, k3.2.1, k3.2.2.1, k3.2.2.2, e1f, e2t, e3t, e4f, xA_3]
      rfl
    · rw [rA_4] at d1 d2
      obtain ⟨a2, b2⟩ := raw_back m1 d1
      obtain ⟨a1, b1⟩ := num_back k1' a2
      rw [b1, b2, d2, k4.1, k4.2.1, k4.2.2.1, k4.2.2.2, e1f, e2t, e3f, e4t, xA_4, List.append_nil]
      rfl
  unfold rec2B
  rw [d2X_kind, hK, ← key, show kv n b - 16 + 16 = kv n b by omega, ← t0]
/-- The other format's bytes are none. -/
theorem cross1 {x : Rec} (n : Bool) (h : recErr x = 0) (hf : x.fit) (hn : n = true → rec2B x = []) : decE n (rec2B x) ≠ 0 := by
  have hk := rec_kind h
  have hz : (rec2B x).length ≤ 1000000000 := by have := (rec2B_len hf).resolve_right (by omega); omega
  obtain ⟨v, s⟩ := first_ok n h hn hz
  unfold decE
  split
  · rename_i q; simpa using q
  · rw [v, if_pos]
    · simp
    · rcases hk with e | e | e | e <;> rw [e] <;> rfl
theorem cross2 {x : Rec} (n : Bool) (h : oldErr x = 0) (hf : x.fit) (hn : n = true → recB x = []) : d2E n (recB x) ≠ 0 := by
  have g := good_of h hf
  have hz : (recB x).length ≤ 1000000000 := by
    have h1 := hf.1
    have w1 := vbR_len h1.1
    have w2 := vbR_len h1.2.1
    have w3 := vbR_len h1.2.2.1
    have w4 := vbR_len h1.2.2.2.1
    have w5 := cmdB_len 1 _ hf.2.1
    have w6 := vbR_len (k := (x.image.length : Int)) (by have := hf.2.2; omega)
    have w7 := hf.2.2
    unfold recB
    simp only [List.length_append, Int.toNat_natCast] at *
    have a1 : (if hasCmd x.kind = true then cmdB 1 x.cmd else []).length ≤ 6000063 := by split; exact w5; simp
    have a2 : (if (x.kind == 4) = true then vb x.image.length ++ x.image else []).length ≤ 1000009 := by
      split
      · rw [List.length_append]; omega
      · simp
    omega
  have hs : Sfx (rd0 n (recB x)) (vb x.kind.toNat ++ (vb x.round.toNat ++ vb x.node.toNat ++ vb x.index.toNat ++ (if hasCmd x.kind then cmdB 1 x.cmd else []) ++ (if x.kind == 4 then vb x.image.length ++ x.image else []))) :=
    ⟨rfl, rd0_ok n _ hn hz, by show recB x = _; unfold recB; simp only [List.append_assoc]⟩
  have hk := g.kind
  obtain ⟨s1, v1⟩ := numZ_ok hs ⟨by omega, by omega⟩
  have v1 : kv n (recB x) = x.kind := v1
  have s1 : (rd1 n (recB x)).no = 0 := s1.1
  unfold d2E
  rw [if_neg (by simp [s1]), v1, if_pos]
  · simp
  · rcases hk with e | e | e | e <;> rw [e] <;> rfl
/-- Bytes in F2 are not more. -/
theorem cmd_less {c : Cmd} (h : cmdErr c = 0) (hv : verHas 1 c.kind = true) (hf : c.fit) : (cmdB 2 c).length ≤ (cmdB 1 c).length := by
  have a0 := off0
  have a3 := off3
  have a11 := off11
  have a16 := off16
  have : c.kind = 1 ∨ c.kind = 2 ∨ c.kind = 3 ∨ c.kind = 4 ∨ c.kind = 6 ∨ c.kind = 7 ∨ c.kind = 8 := by simp [verHas, isKind] at hv; omega
  rw [cmdB1]
  unfold cmdB
  rw [partsB_step 2 _ 0 (by omega), partsB_step 2 _ 1 (by omega), partsB_step 2 _ 2 (by omega), partsB_step 2 _ 3 (by omega), partsB_step 2 _ 4 (by omega), partsB_step 2 _ 5 (by omega), partsB_end]
  simp only [partB]
  rcases this with e | e | e | e | e | e | e <;> simp [wantB, mask, bitOf, a0, a3, a11, a16, fieldB, e] <;> omega
theorem rec_less {x : Rec} (h : oldErr x = 0) (hf : x.fit) : (rec2B x).length ≤ (recB x).length := by
  have hr : recErr x = 0 ∧ (hasCmd x.kind = true → verHas 1 x.cmd.kind = true) := by
    unfold oldErr at h
    split at h
    · rename_i q; simp [h] at q
    · rename_i q
      split at h
      · simp at h
      · rename_i q2
        refine ⟨by simpa using q, fun w => ?_⟩
        rw [w] at q2
        simpa using q2
  obtain ⟨hr, hv⟩ := hr
  have g := sound_of hr
  have hv17 : ∀ n : Nat, n < 128 → (vb n).length = 1 := fun n hn => by rw [vb_small hn]; rfl
  unfold rec2B recB
  rcases g.kind with e | e | e | e
  · rw [tail1 e, e, k1.2.2.1, k1.2.2.2]
    simp only [List.length_append, hv17 (1 + 16 : Int).toNat (by decide), hv17 (1 : Int).toNat (by decide), List.length_nil, Bool.false_eq_true, if_false]
    omega
  · have := cmd_less (g.cmd.1 (by rw [e]; rfl)) (hv (by rw [e]; rfl)) hf.2.1
    rw [tail2 e, e, k2.2.2.1, k2.2.2.2]
    simp only [List.length_append, hv17 (2 + 16 : Int).toNat (by decide), hv17 (2 : Int).toNat (by decide), List.length_nil, Bool.false_eq_true, if_false, if_true]
    omega
  · have := cmd_less (g.cmd.1 (by rw [e]; rfl)) (hv (by rw [e]; rfl)) hf.2.1
    rw [tail3 e, e, k3.2.2.1, k3.2.2.2]
    simp only [List.length_append, hv17 (3 + 16 : Int).toNat (by decide), hv17 (3 : Int).toNat (by decide), List.length_nil, Bool.false_eq_true, if_false, if_true]
    omega
  · rw [tail4 e, e, k4.2.2.1, k4.2.2.2]
    simp only [List.length_append, hv17 (4 + 16 : Int).toNat (by decide), hv17 (4 : Int).toNat (by decide), List.length_nil, Bool.false_eq_true, if_false, if_true]
    omega
end Go.Proofs.Tryd
/- Entries' bytes: what is written is read. -/
set_option linter.unusedVariables false
set_option linter.unusedSimpArgs false
namespace Go.Proofs.Tryd
open Go Go.Ab Go.Pl
structure Ent.fit (e : Ent) : Prop where
  ix : e.index ≤ 9223372036854775807
  ro : e.round ≤ 9223372036854775807
  no : e.node ≤ 9223372036854775807
  cm : e.cmd.fit
/-- An entry's bytes; those of entries. -/
def entB (v : Int) (e : Ent) : List UInt8 := vb e.index.toNat ++ (vb e.round.toNat ++ (vb e.node.toNat ++ cmdB v e.cmd))
def entsB (v : Int) (l : List Ent) : List UInt8 := (l.map (entB v)).flatten
theorem entsB_step {v : Int} {l : List Ent} {i : Nat} (h : i < l.length) : entsB v (l.drop i) = entB v (at_ l (i : Int)) ++ entsB v (l.drop (i + 1)) := by rw [at_drop h]; rfl
theorem entsB_end {v : Int} {l : List Ent} {i : Nat} (h : ¬ i < l.length) : entsB v (l.drop i) = [] := by rw [List.drop_of_length_le (by omega)]; rfl
theorem entB_len {v : Int} {e : Ent} (h : e.fit) : (entB v e).length ≤ 6000100 := by
  have h1 := vbR_len h.ix
  have h2 := vbR_len h.ro
  have h3 := vbR_len h.no
  have h4 := cmdB_len v _ h.cm
  unfold entB
  simp only [List.length_append]
  omega
theorem entsB_len {v : Int} : ∀ {l : List Ent}, (∀ e ∈ l, e.fit) → (entsB v l).length ≤ 6000100 * l.length
  | [], _ => by simp [entsB]
  | x :: l, h => by
    have h1 := entB_len (v := v) (h x (by simp))
    have h2 := entsB_len (v := v) (l := l) fun e he => h e (by simp [he])
    have : entsB v (x :: l) = entB v x ++ entsB v l := rfl
    rw [this, List.length_append, List.length_cons]
    omega
theorem at_mem {l : List Ent} {i : Nat} (h : i < l.length) : at_ l (i : Int) ∈ l := by rw [at_nat _ _ h]; exact List.getElem_mem _
def rdCount (r : Rd) (most : Int) : Rd := if r.no != 0 then r else rdCnt r most
def rdCountV (r : Rd) (most : Int) : Int := if r.no != 0 then 0 else if (rdCnt r most).no != 0 then 0 else rdN r
theorem rdCount_ok {r : Rd} {most : Int} (h : r.ok) : (rdCount r most).ok := by unfold rdCount; split; exact h; exact rdCnt_ok r most h
def entR (v : Int) (r : Rd) : Rd := (getCmd v (nx (nx (nx r)))).1
def entV (v : Int) (r : Rd) : Ent := ⟨nv r, nv (nx r), nv (nx (nx r)), (getCmd v (nx (nx (nx r)))).2⟩
theorem entR_ok {v : Int} {r : Rd} (h : r.ok) : (entR v r).ok := getCmd_ok v _ (rdNum_ok _ _ (rdNum_ok _ _ (rdNum_ok _ _ h)))
def getsR (v : Int) : Nat → Rd → Rd
  | 0, r => r
  | n + 1, r => getsR v n (entR v r)
def getsL (v : Int) : Nat → Rd → List Ent
  | 0, _ => []
  | n + 1, r => entV v r :: getsL v n (entR v r)
theorem count_ok {r : Rd} {most : Int} {n : Nat} {t : List UInt8} (h : Sfx r (vb n ++ t)) (hn : (n : Int) ≤ most) (hm : most ≤ 9223372036854775807) (hl : n ≤ t.length) : Sfx (rdCount r most) t ∧ rdCountV r most = n := by
  obtain ⟨h0, hk, ht⟩ := h
  have hv := vget_ok ht (by omega)
  have hl' : (rdLim r most) = ⟨r.nn, r.b, r.at_ + (vb n).length, 0⟩ := by
    unfold rdLim
    rw [hv]
    simp only [bne_self_eq_false, Bool.false_eq_true, if_false, Int.toNat_natCast, h0]
    rw [if_neg (by omega)]
  have hN : rdN r = n := by unfold rdN; rw [hv]
  have e3 : r.b.drop (r.at_ + (vb n).length) = t := by
    unfold Rd.tail at ht
    rw [← List.drop_drop, ht, List.drop_left]
  have hlen : r.at_ + (vb n).length + n ≤ r.b.length := by
    have := congrArg List.length e3
    have hne := (rdLim_ok r most hk).1
    rw [hl'] at hne
    simp only [List.length_drop] at this hne
    omega
  have hc : rdCnt r most = ⟨r.nn, r.b, r.at_ + (vb n).length, 0⟩ := by
    unfold rdCnt
    rw [hl', hN]
    simp only [beq_self_eq_true, Bool.true_and, decide_eq_true_eq]
    rw [if_neg (by omega)]
  have e1 : rdCount r most = ⟨r.nn, r.b, r.at_ + (vb n).length, 0⟩ := by
    unfold rdCount
    rw [if_neg (by simp [h0]), hc]
  refine ⟨⟨by rw [e1], rdCount_ok hk, by rw [e1]; exact e3⟩, ?_⟩
  unfold rdCountV
  rw [if_neg (by simp [h0]), hc, if_neg (by simp), hN]
theorem countV_le (r : Rd) (most : Int) (h : 0 ≤ most) : rdCountV r most ≤ most := by
  unfold rdCountV
  split
  · exact h
  · split
    · exact h
    · rename_i q1 q2
      have q2 : (rdCnt r most).no = 0 := by simpa using q2
      unfold rdCnt at q2
      split at q2
      · simp at q2
      · unfold rdLim at q2
        simp only at q2
        split at q2
        · rename_i q3; simp [q2] at q3
        · split at q2
          · simp at q2
          · rename_i q4
            unfold rdN
            omega
structure Ent.good (v : Int) (e : Ent) : Prop where
  ix : 0 ≤ e.index
  ro : 0 ≤ e.round
  no : 0 ≤ e.node
  er : cmdErr e.cmd = 0
  ve : verHas v e.cmd.kind = true
theorem good_ent {v : Int} {e : Ent} (h : entErr e = 0) (hv : verHas v e.cmd.kind = true) : e.good v := by
  unfold entErr at h
  split at h
  · simp at h
  · rename_i q
    simp only [Bool.not_eq_true, Bool.or_eq_false_iff, decide_eq_false_iff_not, Bool.not_eq_false'] at q
    obtain ⟨⟨q1, q2⟩, q3⟩ := q
    have : 0 ≤ e.round ∧ 0 ≤ e.node := by simp [mayB] at q3; omega
    exact ⟨by omega, this.1, this.2, h, hv⟩
theorem cmdv_ok {v : Int} {r : Rd} {c : Cmd} {t : List UInt8} (he : cmdErr c = 0) (hv : verHas v c.kind = true) (hf : c.fit) (h : Sfx r (cmdB v c ++ t)) : Sfx (getCmd v r).1 t ∧ (getCmd v r).2 = c := by
  have : v = 1 ∨ v = 2 := by simp [verHas] at hv; omega
  rcases this with rfl | rfl
  · obtain ⟨a, b⟩ := cmd_nat he hv hf
    exact cmd_ok a b h
  · exact cmd2_ok he hf h
theorem ent_ok {v : Int} {r : Rd} {e : Ent} {t : List UInt8} (g : e.good v) (hf : e.fit) (h : Sfx r (entB v e ++ t)) : Sfx (entR v r) t ∧ entV v r = e := by
  unfold entB at h
  simp only [List.append_assoc] at h
  obtain ⟨s1, v1⟩ := numZ_ok h ⟨g.ix, hf.ix⟩
  obtain ⟨s2, v2⟩ := numZ_ok s1 ⟨g.ro, hf.ro⟩
  obtain ⟨s3, v3⟩ := numZ_ok s2 ⟨g.no, hf.no⟩
  obtain ⟨s4, v4⟩ := cmdv_ok g.er g.ve hf.cm s3
  refine ⟨s4, ?_⟩
  unfold entV
  rw [v4, show nv r = e.index from v1, show nv (nx r) = e.round from v2, show nv (nx (nx r)) = e.node from v3]
theorem ents_ok {v : Int} : ∀ {l : List Ent} {r : Rd} {t : List UInt8}, (∀ e ∈ l, e.good v ∧ e.fit) → Sfx r (entsB v l ++ t) → Sfx (getsR v l.length r) t ∧ getsL v l.length r = l
  | [], r, t, _, h => ⟨h, rfl⟩
  | x :: l, r, t, hg, h => by
    have e : entsB v (x :: l) = entB v x ++ entsB v l := rfl
    rw [e, List.append_assoc] at h
    obtain ⟨s1, v1⟩ := ent_ok (hg x (by simp)).1 (hg x (by simp)).2 h
    obtain ⟨s2, v2⟩ := ents_ok (l := l) (fun e he => hg e (by simp [he])) s1
    exact ⟨s2, by rw [List.length_cons, getsL, v1, v2]⟩
theorem entsB_ge {v : Int} : ∀ {l : List Ent}, l.length ≤ (entsB v l).length
  | [] => by simp [entsB]
  | x :: l => by
    have e : entsB v (x :: l) = entB v x ++ entsB v l := rfl
    have := entsB_ge (v := v) (l := l)
    have h1 := vb_pos x.index.toNat
    rw [e, List.length_append, List.length_cons]
    unfold entB
    simp only [List.length_append]
    omega
theorem chk_all {l : List Ent} (h : chkE l = 0) : ∀ e ∈ l, entErr e = 0 := by
  have key : ∀ (k i : Nat), k + i = l.length → chkAt l k i = 0 → ∀ z : Nat, i ≤ z → z < l.length → entErr (at_ l (z : Int)) = 0 := by
    intro k
    induction k with
    | zero => intro i hi _ z h1 h2; omega
    | succ k ih =>
      intro i hi hc z h1 h2
      unfold chkAt at hc
      split at hc
      · rename_i q; simp [hc] at q
      · rename_i q
        split at hc
        · simp at hc
        · rcases Nat.eq_or_lt_of_le h1 with rfl | h1
          · simpa using q
          · exact ih (i + 1) (by omega) hc z (by omega) h2
  intro e he
  obtain ⟨z, hz, rfl⟩ := List.getElem_of_mem he
  have := key l.length 0 rfl h z (Nat.zero_le _) hz
  rwa [at_nat _ _ hz] at this
/-- Entries without faults are read from their bytes. -/
theorem back_ok {v : Int} {l : List Ent} (h : chkE l = 0) (hv : hasAll v l = true) (hf : ∀ e ∈ l, e.fit) (hl : l.length ≤ 40) :
    getsL v (rdCountV (rd0 false (vb l.length ++ entsB v l)) 256).toNat (rdCount (rd0 false (vb l.length ++ entsB v l)) 256) = l ∧ rdDone (getsR v (rdCountV (rd0 false (vb l.length ++ entsB v l)) 256).toNat (rdCount (rd0 false (vb l.length ++ entsB v l)) 256)) = 0 := by
  have hlen : (vb l.length ++ entsB v l).length ≤ 1000000000 := by
    have h1 := entsB_len (v := v) hf
    have h2 := vbR_len (k := (l.length : Int)) (by omega)
    rw [List.length_append]
    simp only [Int.toNat_natCast] at h2
    omega
  have hs : Sfx (rd0 false (vb l.length ++ entsB v l)) (vb l.length ++ (entsB v l ++ [])) := ⟨rfl, rd0_ok false _ (fun q => by cases q) hlen, by rw [List.append_nil]; rfl⟩
  obtain ⟨s1, v1⟩ := count_ok (most := 256) hs (by omega) (by omega) (by rw [List.append_nil]; exact entsB_ge)
  rw [v1, Int.toNat_natCast]
  obtain ⟨s2, v2⟩ := ents_ok (l := l) (fun e he => ⟨good_ent (chk_all h e he) (List.all_eq_true.1 hv e he), hf e he⟩) s1
  exact ⟨v2, done_tail s2⟩
end Go.Proofs.Tryd
