/- Parts of the proof that a law of the program holds: contracts of the functions, and plain laws. -/
import Derived.Test.YtmecehpkjffanaaDoorRows
import Derived.Shelf.Unicode.DecodeAny
import Derived.Lib.LaidU8
import Derived.LaidMore
import Derived.WalkKit
import Derived.Shelf.Spec.SlicesInsert
import Derived.IntWalk
import Derived.Test.YtmecehpkjffanaaDoorF3
/- Contracts of a program, abstractly: what all of them use; the library's decoder. -/
set_option linter.unusedVariables false
set_option linter.unusedSimpArgs false
namespace Go.Proofs.Tryd
open Go Go.RowKit Go.Ab Go.Shelf Go.Proofs.YtmecehpkjffanaaDoor

theorem hmix : Tryd.prog.follows .mixedOrders = true := by kernel_rfl

def ren : Ren :=
  { f := fun x => match x with | 197 => 173 | 260 => 174 | n => n
    t := fun x => match x with | 9 => 9 | 21 => 21 | 3 => 3 | 4 => 4 | 5 => 5 | 105 => 162 | 119 => 164 | 0 => 0 | 46 => 148 | 139 => 167 | 138 => 166 | n => n
    g := fun x => match x with | 3 => 0 | 4 => 1 | n => n }
theorem lays197 : Lays.n197 Tryd.prog ren :=
  { mixed := Eq.refl true, f197 := Eq.trans Tryd.func173 (congrArg some (Eq.refl (Body.n197 ren))),
    f260 := Eq.trans Tryd.func174 (congrArg some (Eq.refl (Body.n260 ren))), t0 := Tryd.underlying0,
    a0 := Tryd.isAgg0, z0 := Tryd.sizeOf0, v0 := Tryd.zeroValue0, t3 := Tryd.underlying3, a3 := Tryd.isAgg3,
    z3 := Tryd.sizeOf3, v3 := Tryd.zeroValue3, t4 := Tryd.underlying4, a4 := Tryd.isAgg4, z4 := Tryd.sizeOf4,
    v4 := Tryd.zeroValue4, t5 := Tryd.underlying5, a5 := Tryd.isAgg5, z5 := Tryd.sizeOf5, v5 := Tryd.zeroValue5,
    t9 := Tryd.underlying9, a9 := Tryd.isAgg9, z9 := Tryd.sizeOf9, v9 := Tryd.zeroValue9, t21 := Tryd.underlying21,
    a21 := Tryd.isAgg21, z21 := Tryd.sizeOf21, v21 := Tryd.zeroValue21, t46 := Tryd.underlying148, a46 := Tryd.isAgg148,
    z46 := Tryd.sizeOf148, v46 := Tryd.zeroValue148, t105 := Tryd.underlying162, a105 := Tryd.isAgg162,
    z105 := Tryd.sizeOf162, v105 := Tryd.zeroValue162, t119 := Tryd.underlying164, a119 := Tryd.isAgg164,
    z119 := Tryd.sizeOf164, t138 := Tryd.underlying166, a138 := Tryd.isAgg166, z138 := Tryd.sizeOf166,
    v138 := Tryd.zeroValue166, t139 := Tryd.underlying167, a139 := Tryd.isAgg167, z139 := Tryd.sizeOf167,
    v139 := Tryd.zeroValue167, g3 := by kernel_rfl, g4 := by kernel_rfl }

/-- What the rows list. -/
def laidVars : List (String × DataW Unit) := [("unicode/utf8.acceptRanges", Rows.laid_unicode_utf8_acceptRanges), ("unicode/utf8.first", Rows.laid_unicode_utf8_first)]
abbrev Laid (w : World) : Prop := Lib.Utf8Tabs 0 1 w

theorem laid_of {W : World} (h : laidMetH Tryd.prog laidVars W) : Laid W := by
  rw [MakeChecks.laidMetH_plain _ _ _ (by kernel_rfl)] at h
  have e1 : Rows.laid_unicode_utf8_first = Lib.firstData := by kernel_rfl
  have e2 : (Rows.laid_unicode_utf8_acceptRanges : DataW Unit) = Lib.acceptData := by kernel_rfl
  unfold laidVars at h
  rw [e1, e2] at h
  exact Proofs.utf8Tabs_of_reads (ρ := ren) { lays197 with } ⟨by kernel_rfl, by kernel_rfl, by kernel_rfl, by kernel_rfl, by kernel_rfl, by kernel_rfl, by kernel_rfl⟩ (Lib.laidMet.reads h (.tail _ (.head _))) (Lib.laidMet.reads h (.head _))

/-- A contract of the kit's, abstractly. -/
theorem aev_of_calls {P : Program} {w0 : World} {f : FuncId} {args : List A} {r : A}
    (h : ∀ (w : World) (F : Nat → Prop) (vs : List Value), Below w0.heap.size w0 w → RepL [] w F args vs → ∃ v, Calls P f vs.toArray w (fun e w' => e = .returned v ∧ Below w.heap.size w w') ∧ ∀ w' F', Stays w F w' F' → Rep [] w' F' r v) : AEv P w0 f args [] r [] := by
  intro X m w vs hc hr
  have hm : m = [] := List.eq_nil_of_length_eq_zero (by simpa using hc.len)
  subst hm
  obtain ⟨v, h1, h2⟩ := h w _ vs hc.below hr
  refine h1.mono fun e w' ⟨he, hb⟩ => ?_
  subst he
  obtain ⟨g1, g2, g3⟩ := conc_world hc hb.os hb.tape hb.output hb.size fun b hb' => hb.block b hb'
  exact ⟨[], g2, g1, h2 w' _ g3⟩

theorem laid_below {w0 w : World} (h : Laid w0) (hb : Below w0.heap.size w0 w) : Laid w := by
  have key : ∀ b o v, w0.cell? ⟨b, o, none⟩ = some v → w.cell? ⟨b, o, none⟩ = some v := by
    intro b o v hv
    have hlt : b < w0.heap.size := by
      unfold World.cell? at hv
      split at hv
      · rename_i h; exact (Array.getElem?_eq_some_iff.1 h).1
      · simp at hv
    simp only [World.cell?, hb.block b hlt] at hv ⊢
    exact hv
  exact ⟨fun c hc => key _ _ _ (h.1 c hc), fun i hi => ⟨key _ _ _ (h.2 i hi).1, key _ _ _ (h.2 i hi).2⟩⟩

/-- unicode/utf8.DecodeRuneInString. -/
theorem c173 {w0 : World} (hL : Laid w0) (s : ByteArray) : AEv Tryd.prog w0 173 [.d (.str s)] [] (.tup [.d (.int .i32 (Lib.decodeGo s).1), .d (.int .i64 (Lib.decodeGo s).2)]) [] := by
  refine aev_of_calls fun w F vs hb hr => ?_
  obtain ⟨v, rfl, h1⟩ := repL_one hr
  simp only [Rep, DRep] at h1
  subst h1
  exact ⟨_, Any.utf8_DecodeRuneInString lays197 s w (laid_below hL hb), fun w' F' _ => ⟨_, rfl, ⟨_, _, rfl, rfl, ⟨_, _, rfl, rfl, rfl⟩⟩⟩⟩
end Go.Proofs.Tryd
/- Data of the program, and what its small functions answer. -/
set_option linter.unusedVariables false
namespace Go.Proofs.Tryd
open Go Go.Ab

structure Cmd where
  kind : Int
  client : Int
  seq : Int
  key : ByteArray
  val : ByteArray
  old : ByteArray
  node : Int
abbrev eCmd (c : Cmd) : List A := [.d (.int .i64 c.kind), .d (.int .i64 c.client), .d (.int .i64 c.seq), .d (.str c.key), .d (.str c.val), .d (.str c.old), .d (.int .i64 c.node)]
abbrev dCmd (c : Cmd) : List D := [.int .i64 c.kind, .int .i64 c.client, .int .i64 c.seq, .str c.key, .str c.val, .str c.old, .int .i64 c.node]
/-- A record: its image: nil?; its bytes. -/
structure Rec where
  kind : Int
  round : Int
  node : Int
  index : Int
  cmd : Cmd
  inil : Bool
  image : List UInt8
abbrev bR (l : List UInt8) : List (List D) := l.map fun b => [.int .u8 b.toNat]
abbrev eRec (x : Rec) : List A := [.d (.int .i64 x.kind), .d (.int .i64 x.round), .d (.int .i64 x.node), .d (.int .i64 x.index), .d (.int .i64 x.cmd.kind), .d (.int .i64 x.cmd.client), .d (.int .i64 x.cmd.seq), .d (.str x.cmd.key), .d (.str x.cmd.val), .d (.str x.cmd.old), .d (.int .i64 x.cmd.node), .d (.slice x.inil 1 (bR x.image))]

def mayB (r n : Int) : Bool := (r == 0 && n == 0) || (decide (1 ≤ r) && decide (r ≤ 4294967296) && decide (1 ≤ n) && decide (n ≤ 9))
def hasBal (k : Int) : Bool := k == 1 || k == 2
def hasInd (k : Int) : Bool := k == 2 || k == 3 || k == 4
def hasCmd (k : Int) : Bool := k == 2 || k == 3
def owned (k : Int) : Bool := decide (2 ≤ k) && decide (k ≤ 5)
def member (k : Int) : Bool := k == 7 || k == 8
def isKind (k : Int) : Bool := decide (1 ≤ k) && decide (k ≤ 8)
def mask (k : Int) : Int := if k == 2 then 11 else if k == 3 || k == 4 then 3 else if k == 5 then 15 else if k == 7 || k == 8 then 16 else 0
/-- Which version has which kind. -/
def verHas (v k : Int) : Bool := isKind k && (v == 2 || v == 1 && !(k == 5))
def verMay (v : Int) : Bool := v == 1 || v == 2
def plainR (r : Int) : Bool := (decide (97 ≤ r) && decide (r ≤ 122)) || (decide (65 ≤ r) && decide (r ≤ 90)) || (decide (48 ≤ r) && decide (r ≤ 57)) || r == 45 || r == 95 || r == 46 || r == 58 || (decide (161 ≤ r) && !(r == 65533))
def valR (r : Int) : Bool := decide (32 ≤ r) && !(r == 127)
end Go.Proofs.Tryd
/- Commands and ballots out of their data. -/
set_option maxRecDepth 100000
set_option linter.unusedVariables false
set_option linter.unusedSimpArgs false
namespace Go.Proofs.Tryd
open Go Go.Ab Go.Proofs.YtmecehpkjffanaaDoor
/-- The machine's numbers. -/
def Cmd.i64 (c : Cmd) : Prop := c.kind ≤ 9223372036854775807 ∧ c.client ≤ 9223372036854775807 ∧ c.seq ≤ 9223372036854775807 ∧ c.node ≤ 9223372036854775807
theorem i64_max : IntKind.i64.max = 9223372036854775807 := by decide
theorem cmd_of {n : Nat} {ds : List D} (h : TyD Tryd.prog (n + 2) 25 ds) : ∃ c : Cmd, c.i64 ∧ ds = dCmd c := by
  have f0 := tyd_field Tryd.underlying25 h 0 (ft := 3) (off := 0) (sz := 1) (by kernel_rfl)
  have f1 := tyd_field Tryd.underlying25 h 1 (ft := 3) (off := 1) (sz := 1) (by kernel_rfl)
  have f2 := tyd_field Tryd.underlying25 h 2 (ft := 3) (off := 2) (sz := 1) (by kernel_rfl)
  have f3 := tyd_field Tryd.underlying25 h 3 (ft := 9) (off := 3) (sz := 1) (by kernel_rfl)
  have f4 := tyd_field Tryd.underlying25 h 4 (ft := 9) (off := 4) (sz := 1) (by kernel_rfl)
  have f5 := tyd_field Tryd.underlying25 h 5 (ft := 9) (off := 5) (sz := 1) (by kernel_rfl)
  have f6 := tyd_field Tryd.underlying25 h 6 (ft := 3) (off := 6) (sz := 1) (by kernel_rfl)
  have hl := (tyd_struct Tryd.underlying25 h).1
  have e : Tryd.prog.cellsOf 25 = 7 := by kernel_rfl
  rw [e] at hl
  match ds, hl with
  | [d0, d1, d2, d3, d4, d5, d6], _ =>
    obtain ⟨i0, e0, _, m0⟩ := tyd_int Tryd.underlying3 f0
    obtain ⟨i1, e1, _, m1⟩ := tyd_int Tryd.underlying3 f1
    obtain ⟨i2, e2, _, m2⟩ := tyd_int Tryd.underlying3 f2
    obtain ⟨s3, e3, _⟩ := tyd_str Tryd.underlying9 f3
    obtain ⟨s4, e4, _⟩ := tyd_str Tryd.underlying9 f4
    obtain ⟨s5, e5, _⟩ := tyd_str Tryd.underlying9 f5
    obtain ⟨i6, e6, _, m6⟩ := tyd_int Tryd.underlying3 f6
    rw [i64_max] at m0 m1 m2 m6
    simp at e0 e1 e2 e3 e4 e5 e6
    subst e0 e1 e2 e3 e4 e5 e6
    exact ⟨⟨i0, i1, i2, s3, s4, s5, i6⟩, ⟨m0, m1, m2, m6⟩, rfl⟩
theorem bal_of {n : Nat} {ds : List D} (h : TyD Tryd.prog (n + 2) 23 ds) : ∃ r k : Int, r ≤ 9223372036854775807 ∧ k ≤ 9223372036854775807 ∧ ds = [.int .i64 r, .int .i64 k] := by
  have f0 := tyd_field Tryd.underlying23 h 0 (ft := 3) (off := 0) (sz := 1) (by kernel_rfl)
  have f1 := tyd_field Tryd.underlying23 h 1 (ft := 3) (off := 1) (sz := 1) (by kernel_rfl)
  have hl := (tyd_struct Tryd.underlying23 h).1
  have e : Tryd.prog.cellsOf 23 = 2 := by kernel_rfl
  rw [e] at hl
  match ds, hl with
  | [d0, d1], _ =>
    obtain ⟨i0, e0, _, m0⟩ := tyd_int Tryd.underlying3 f0
    obtain ⟨i1, e1, _, m1⟩ := tyd_int Tryd.underlying3 f1
    rw [i64_max] at m0 m1
    simp at e0 e1
    subst e0 e1
    exact ⟨i0, i1, m0, m1, rfl⟩
theorem i64_min : IntKind.i64.min = -9223372036854775808 := by decide
theorem noagg3 : isAggB Tryd.prog 3 = some false := by kernel_rfl
theorem one_arg {t : Nat} {ds : List D} {x : D} (hg : isAggB Tryd.prog t = some false) (h : D.nrmL ds = D.nrmL [x]) : A.nrm (asArg Tryd.prog t ds) = A.nrm (.d x) := by
  match ds, h with
  | [d], h =>
    simp only [D.nrmL, List.cons.injEq, and_true] at h
    unfold asArg
    rw [hg]
    simp only [A.nrm, h]
  | [], h => simp [D.nrmL] at h
  | _ :: _ :: _, h => simp [D.nrmL] at h
theorem int_arg {ds : List D} (h : TyD Tryd.prog 8 3 ds) : ∃ i : Int, (-9223372036854775808 ≤ i ∧ i ≤ 9223372036854775807) ∧ A.nrm (asArg Tryd.prog 3 ds) = A.nrm (.d (.int .i64 i)) := by
  obtain ⟨i, rfl, h1, h2⟩ := tyd_int Tryd.underlying3 h
  rw [i64_min] at h1
  rw [i64_max] at h2
  exact ⟨i, ⟨h1, h2⟩, one_arg noagg3 rfl⟩
end Go.Proofs.Tryd
set_option maxRecDepth 100000
set_option maxHeartbeats 4000000
set_option linter.unusedVariables false
set_option linter.unusedSimpArgs false
namespace Go.Proofs.Tryd
open Go Go.Ab Go.Pl Go.RowKit Go.Proofs.YtmecehpkjffanaaDoor
attribute [local irreducible] Go.Ab.wp Go.Ab.vc Go.Ab.run Go.Ab.runFn Go.Ab.body1 Go.Ab.Tr.qt Go.Ab.Tr.qf Go.Ab.AEv
/-! slices.Insert at entries. -/
theorem ins_shift (b n c i vb voff vc : Nat) (W1 W2 w : World) (hi : i < n) (hroom : n + 1 ≤ c) (hc63 : c ≤ 9223372036854775807)
    (hov : ∀ lb cb, (callFunc 117 #[.slice (some ⟨vb, voff, none⟩) 1 vc, .slice (some ⟨b, (i + 1) * 10, none⟩) lb cb]).run Tryd.prog w = .ok (.value (.bool false)) w)
    (hcp1 : ∀ ty dc sc, (Builtin.copy_ #[34, 34] ty #[.slice (some ⟨b, (i + 1) * 10, none⟩) (n - i) dc, .slice (some ⟨b, i * 10, none⟩) (n + 1 - i) sc]).run Tryd.prog w.drew = .ok (goInt (n - i)) W1)
    (hcp2 : ∀ (W : World), W = W1 → ∀ ty dc, (Builtin.copy_ #[34, 34] ty #[.slice (some ⟨b, i * 10, none⟩) (n + 1 - i) dc, .slice (some ⟨vb, voff, none⟩) 1 vc]).run Tryd.prog W = .ok (goInt 1) W2) :
    Calls Tryd.prog 78 #[.slice (some ⟨b, 0, none⟩) n c, .int .i64 i, .slice (some ⟨vb, voff, none⟩) 1 vc] w fun e w' =>
      e = .returned (.slice (some ⟨b, 0, none⟩) (n + 1) c) ∧ w' = W2 := by
  have hz2 : ¬ ((i : Int) = (n : Int)) := by omega
  have hw1 : IntKind.i64.wrap ((i : Int) + (1 : Int)) = (i : Int) + (1 : Int) := by rw [IntKind.wrap_i64]; omega
  have hb1 : (0 : Int) ≤ (i : Int) + (1 : Int) := by omega
  have hin : i ≤ n := by omega
  have htn : ((i : Int) + (1 : Int)).toNat = i + 1 := by omega
  have hb2 : ¬ (c = i + 1) := by omega
  have hb3 : (i : Int) ≤ (n : Int) + (1 : Int) := by omega
  have hb4 : ¬ (c = i) := by omega
  have mixed := hmix
  go_enter Tryd.func78, Tryd.ntmps78
  go_wp2_with (simp only [hov])
  go_region_law_o (refine step_copy_runI rfl _ _ 34 34 rfl _ _ (by simp [Act.eval, Act.put]) (by simp [Act.eval, Act.put]) (hcp1 _ _ _) ?_)
  go_wp2_with (at_builtin; refine wpList_copy_runI _ rfl _ _ 34 34 rfl _ _ rfl rfl (hcp2 _ rfl _ _) ?_)
  go_ret
  exact ⟨rfl, rfl⟩
theorem ins_grow (b n c i vb voff vc N G : Nat) (WA WB WC w : World) (hi : i < n) (hnc : n ≤ c) (hroom : c < n + 1) (hc63 : c ≤ 9223372036854775807) (hGn : n + 1 ≤ G) (hG63 : G ≤ 9223372036854775807)
    (hrz : ∀ ty, (Builtin.append_ #[34, 3] ty #[.slice (some ⟨b, 0, none⟩) i c, .int .i64 ((n : Int) + 1 - (i : Int))]).run Tryd.prog w = .ok (.slice (some ⟨N, 0, none⟩) (n + 1) G) WA)
    (hcpA : ∀ ty dc, (Builtin.copy_ #[34, 34] ty #[.slice (some ⟨N, i * 10, none⟩) (n + 1 - i) dc, .slice (some ⟨vb, voff, none⟩) 1 vc]).run Tryd.prog WA = .ok (goInt 1) WB)
    (hcpB : ∀ ty dc sc, (Builtin.copy_ #[34, 34] ty #[.slice (some ⟨N, (i + 1) * 10, none⟩) (n - i) dc, .slice (some ⟨b, i * 10, none⟩) (n - i) sc]).run Tryd.prog WB.drew = .ok (goInt (n - i)) WC) :
    Calls Tryd.prog 78 #[.slice (some ⟨b, 0, none⟩) n c, .int .i64 i, .slice (some ⟨vb, voff, none⟩) 1 vc] w fun e w' =>
      e = .returned (.slice (some ⟨N, 0, none⟩) (n + 1) G) ∧ w' = WC := by
  have hz2 : ¬ ((i : Int) = (n : Int)) := by omega
  have hz3 : (c : Int) < (n : Int) + 1 := by omega
  have hw1 : IntKind.i64.wrap ((i : Int) + (1 : Int)) = (i : Int) + (1 : Int) := by rw [IntKind.wrap_i64]; omega
  have hb1 : (0 : Int) ≤ (i : Int) + (1 : Int) := by omega
  have hin : i ≤ n := by omega
  have htn : ((i : Int) + (1 : Int)).toNat = i + 1 := by omega
  have hb3 : (i : Int) ≤ (n : Int) := by omega
  have hGi : ¬ (G = i) := by omega
  have hGim : ¬ (G = i + 1) := by omega
  have hci : ¬ (c = i) := by omega
  have mixed := hmix
  go_enter Tryd.func78, Tryd.ntmps78
  go_wp2_with (first
    | (at_builtin; refine Lib.wpList_append_run _ rfl _ _ _ _ rfl _ _ rfl rfl _ _ (hrz _) ?_)
    | (at_builtin; refine wpList_copy_runI _ rfl _ _ 34 34 rfl _ _ rfl rfl (hcpA _ _) ?_)
    | (at_builtin; refine wpList_copy_runI _ rfl _ _ 34 34 rfl _ _ rfl rfl (hcpB _ _ _) ?_))
  go_region_law_o (refine step_copy_runI rfl _ _ 34 34 rfl (.slice (some ⟨N, (i + 1) * 10, none⟩) (n - i) (G - (i + 1))) (.slice (some ⟨b, i * 10, none⟩) (n - i) (c - i)) (by simp [Act.eval, Act.put]) (by simp [Act.eval, Act.put]) (hcpB _ _ _) ?_)
  go_wp2
  go_ret
  exact ⟨rfl, rfl⟩
theorem ins_fin (s : Option Addr) (n c vb voff vc : Nat) (R : Value → World → Prop) (w : World) (hnc : n ≤ c) (hc63 : c ≤ 9223372036854775807) (h0 : s = none → n = 0 ∧ c = 0)
    (hap : ∀ (o : Oper) (s0 x0 : Operand) (a : Act) (K : Act → World → Prop) (Q : Exit → Act → World → Prop), o.op = .call { callee := .builtin .append, args := #[s0, x0], argTypes := #[34, 34] } → a.eval s0 = .slice s n c → a.eval x0 = .slice (some ⟨vb, voff, none⟩) 1 vc →
      (∀ v' w', R v' w' → K (a.put o.dst v') w') → o.wp Tryd.prog a w K Q) :
    Calls Tryd.prog 78 #[.slice s n c, .int .i64 n, .slice (some ⟨vb, voff, none⟩) 1 vc] w fun e w' => ∃ v', e = .returned v' ∧ R v' w' := by
  have mixed := hmix
  cases s with
  | none =>
    obtain ⟨rfl, rfl⟩ := h0 rfl
    go_enter Tryd.func78, Tryd.ntmps78
    go_wp2_with (at_builtin; refine wpList_plain rfl fun K hK => hap _ _ _ _ _ _ rfl rfl rfl fun v' w' hR => hK _ _ ?_)
    go_ret
    exact ⟨_, rfl, hR⟩
  | some ad =>
    go_enter Tryd.func78, Tryd.ntmps78
    go_wp2_with (at_builtin; refine wpList_plain rfl fun K hK => hap _ _ _ _ _ _ rfl rfl rfl fun v' w' hR => hK _ _ ?_)
    all_goals (go_ret; exact ⟨_, rfl, hR⟩)
theorem insW : InsW Tryd.prog 78 117 34 3 10 := ⟨ins_shift, ins_grow, ins_fin⟩
theorem c_insert {w0 : World} (nb nb2 : Bool) (xs : List (List D)) (y : List D) (i : Nat) (hi : i ≤ xs.length) (hx : xs.length ≤ 1000000000) :
    AEv Tryd.prog w0 78 [.own 0, .d (.int .i64 i), .own 1] [.row nb 36 10 xs, .row nb2 36 10 [y]] (.own 2) [.dead, .row nb2 36 10 [y], .row nb 36 10 (xs.take i ++ y :: xs.drop i)] :=
  aev_insert insW Tryd.underlying34 Tryd.underlying3 (by kernel_rfl) (by kernel_rfl) (fun w a b la ca lb cb tA tB kA kB h1 h2 h3 h4 h5 h6 => by
    rw [run_callFunc_extern Tryd.func117 (by kernel_rfl) (by kernel_rfl) (by kernel_rfl) (e := Extern.SlicesOverlaps.overlaps #[34, 34] #[4]) (by kernel_rfl),
      Lib.run_overlaps_apart w 34 4 36 Tryd.underlying34 10 (fun w => Tryd.sizeOf36 w) a b la ca lb cb h1 tA tB kA kB h2 h3 h4 h5 h6]
    rfl) nb nb2 xs y i hi hx
end Go.Proofs.Tryd
/- Runes. -/
set_option linter.unusedVariables false
namespace Go.Proofs.Tryd
open Go Go.Ab

theorem dec_width (s : ByteArray) (i : Nat) : 1 ≤ (Utf8.decode s i).2 ∧ (Utf8.decode s i).2 ≤ 4 := by
  unfold Utf8.decode
  dsimp only
  repeat' split
  all_goals simp
/-- No rune begins there. -/
def bad (s : ByteArray) (i : Nat) : Bool := (Utf8.decode s i).1 == 65533 && (Utf8.decode s i).2 == 1
/-- The first place of a byte that is no rune's. -/
def badFrom (s : ByteArray) : Nat → Nat → Int
  | 0, _ => -1
  | n + 1, p => if p < s.size then (if bad s p then (p : Int) else badFrom s n (p + (Utf8.decode s p).2)) else -1
/-- Are all runes so? -/
def allFrom (q : Int → Bool) (s : ByteArray) : Nat → Nat → Bool
  | 0, _ => true
  | n + 1, p => if p < s.size then (if q (Utf8.decode s p).1 then allFrom q s n (p + (Utf8.decode s p).2) else false) else true
def badAt (s : ByteArray) : Int := badFrom s s.size 0
def allR (q : Int → Bool) (s : ByteArray) : Bool := allFrom q s s.size 0
def keyR (s : ByteArray) : Bool := decide (1 ≤ s.size) && decide (s.size ≤ 24) && decide (badAt s < 0) && allR plainR s
def valT (s : ByteArray) : Bool := decide (s.size ≤ 48) && decide (badAt s < 0) && allR valR s

theorem badFrom_more (s : ByteArray) : ∀ (n m p : Nat), s.size - p ≤ n → n ≤ m → badFrom s m p = badFrom s n p
  | 0, 0, p, _, _ => rfl
  | 0, m + 1, p, h, _ => by
    have : ¬ p < s.size := by omega
    simp [badFrom, this]
  | n + 1, 0, p, _, h => by omega
  | n + 1, m + 1, p, h, h' => by
    simp only [badFrom]
    split
    · split
      · rfl
      · have := (dec_width s p).1
        exact badFrom_more s n m _ (by omega) (by omega)
    · rfl
theorem badFrom_step (s : ByteArray) (p : Nat) (h : p < s.size) : badFrom s (s.size - p) p = if bad s p then (p : Int) else badFrom s (s.size - (p + (Utf8.decode s p).2)) (p + (Utf8.decode s p).2) := by
  have hw := (dec_width s p).1
  obtain ⟨n, hn⟩ : ∃ n, s.size - p = n + 1 := ⟨s.size - p - 1, by omega⟩
  rw [hn]
  simp only [badFrom, h, if_true]
  split
  · rfl
  · exact badFrom_more s _ n _ (Nat.le_refl _) (by omega)
theorem badFrom_end (s : ByteArray) (p n : Nat) (h : ¬ p < s.size) : badFrom s n p = -1 := by cases n <;> simp [badFrom, h]
theorem allFrom_more (q : Int → Bool) (s : ByteArray) : ∀ (n m p : Nat), s.size - p ≤ n → n ≤ m → allFrom q s m p = allFrom q s n p
  | 0, 0, p, _, _ => rfl
  | 0, m + 1, p, h, _ => by
    have : ¬ p < s.size := by omega
    simp [allFrom, this]
  | n + 1, 0, p, _, h => by omega
  | n + 1, m + 1, p, h, h' => by
    simp only [allFrom]
    split
    · split
      · have := (dec_width s p).1
        exact allFrom_more q s n m _ (by omega) (by omega)
      · rfl
    · rfl
theorem allFrom_step (q : Int → Bool) (s : ByteArray) (p : Nat) (h : p < s.size) : allFrom q s (s.size - p) p = if q (Utf8.decode s p).1 then allFrom q s (s.size - (p + (Utf8.decode s p).2)) (p + (Utf8.decode s p).2) else false := by
  have hw := (dec_width s p).1
  obtain ⟨n, hn⟩ : ∃ n, s.size - p = n + 1 := ⟨s.size - p - 1, by omega⟩
  rw [hn]
  simp only [allFrom, h, if_true]
  split
  · exact allFrom_more q s _ n _ (Nat.le_refl _) (by omega)
  · rfl
theorem allFrom_end (q : Int → Bool) (s : ByteArray) (p n : Nat) (h : ¬ p < s.size) : allFrom q s n p = true := by cases n <;> simp [allFrom, h]
end Go.Proofs.Tryd
/- Fields of a command. -/
set_option linter.unusedVariables false
namespace Go.Proofs.Tryd
open Go Go.Ab
/-- Has a mask not this bit? -/
def off (f h : Int) : Bool := (IntKind.i64.wrap (BitVec.ofInt IntKind.i64.bits f &&& BitVec.ofInt IntKind.i64.bits h).toNat : Int) == 0
def numOk (c : Cmd) (F : Int) : Nat → Bool
  | 0 => if off F 1 then true else decide (1 ≤ c.client) && decide (c.client ≤ 8)
  | 1 => if off F 1 then true else decide (1 ≤ c.seq) && decide (c.seq ≤ 4294967296)
  | 5 => if off F 16 then true else decide (1 ≤ c.node) && decide (c.node ≤ 9)
  | _ => true
def numZ (c : Cmd) (F : Int) : Nat → Bool
  | 0 => if off F 1 then c.client == 0 else true
  | 1 => if off F 1 then c.seq == 0 else true
  | 5 => if off F 16 then c.node == 0 else true
  | _ => true
def txtOk (c : Cmd) (F : Int) : Nat → Bool
  | 2 => if off F 2 then true else keyR c.key
  | 3 => if off F 4 then true else valT c.old
  | 4 => if off F 8 then true else valT c.val
  | _ => true
def txtZ (c : Cmd) (F : Int) : Nat → Bool
  | 2 => if off F 2 then c.key.toList == [] else true
  | 3 => if off F 4 then c.old.toList == [] else true
  | 4 => if off F 8 then c.val.toList == [] else true
  | _ => true
def accR (c : Cmd) (F : Int) : Nat → Bool
  | 0 => true
  | i + 1 => accR c F i && numOk c F i
def accT (c : Cmd) (F : Int) : Nat → Bool
  | 0 => true
  | i + 1 => accT c F i && txtOk c F i
def accF (c : Cmd) (F : Int) : Nat → Bool
  | 0 => true
  | i + 1 => accF c F i && (numZ c F i && txtZ c F i)
def cmdErr (c : Cmd) : Int := if !isKind c.kind then 5 else if !accR c (mask c.kind) 6 then 6 else if !accT c (mask c.kind) 6 then 7 else if !accF c (mask c.kind) 6 then 3 else 0
end Go.Proofs.Tryd
/- Numbers in as few bytes as can be: what they are, and how they are read. -/
namespace Go.Pl

def vb (n : Nat) : List UInt8 := if h : n < 128 then [UInt8.ofNat n] else UInt8.ofNat (128 + n % 128) :: vb (n / 128)
termination_by n
decreasing_by omega

/-- What is read: a number, and of how many bytes; or why there is none. -/
inductive Vr where
  | short
  | form
  | ok (n m : Nat)
def Vr.more (c : Nat) : Vr → Vr
  | .ok n m => .ok (c + 128 * n) (m + 1)
  | r => r
/-- Read from the k-th byte on. -/
def vg : List UInt8 → Nat → Vr
  | [], _ => .short
  | c :: t, k => if (c = 0 ∧ 0 < k) ∨ 9 ≤ k then .form else if c.toNat < 128 then .ok c.toNat 1 else (vg t (k + 1)).more (c.toNat - 128)

theorem vb_small {n : Nat} (h : n < 128) : vb n = [UInt8.ofNat n] := by rw [vb]; simp [h]
theorem vb_large {n : Nat} (h : ¬ n < 128) : vb n = UInt8.ofNat (128 + n % 128) :: vb (n / 128) := by rw [vb]; simp [h]
theorem vb_ne (n : Nat) : vb n ≠ [] := by
  by_cases h : n < 128
  · rw [vb_small h]; simp
  · rw [vb_large h]; simp
theorem vb_pos (n : Nat) : 0 < (vb n).length := List.length_pos_iff.2 (vb_ne n)

/-- A number's bytes are read as that number, whatever comes behind. -/
theorem vg_vb : ∀ (k n : Nat) (t : List UInt8), (0 < k → 0 < n) → k ≤ 8 → n < 128 ^ (9 - k) → vg (vb n ++ t) k = .ok n (vb n).length := by
  intro k n
  induction n using Nat.strongRecOn generalizing k with
  | _ n ih =>
    intro t h0 h8 hn
    by_cases h : n < 128
    · rw [vb_small h]
      have hc : (UInt8.ofNat n).toNat = n := by simp; omega
      simp only [List.singleton_append, vg, hc, h, if_true, List.length_singleton]
      rw [if_neg]
      rintro (⟨h1, h2⟩ | h1)
      · have := congrArg UInt8.toNat h1
        rw [hc] at this
        have := h0 h2
        simp at *
        omega
      · omega
    · rw [vb_large h]
      have hc : (UInt8.ofNat (128 + n % 128)).toNat = 128 + n % 128 := by simp; omega
      simp only [List.cons_append, vg, hc]
      have h7 : k ≤ 7 := by
        apply Classical.byContradiction
        intro hk
        have : k = 8 := by omega
        subst this
        simp at hn
        omega
      rw [if_neg, if_neg (by omega), ih (n / 128) (by omega) (k + 1) t (fun _ => by omega) (by omega) ?_]
      · simp only [Vr.more, List.length_cons, Vr.ok.injEq, and_true]
        omega
      · rw [show 9 - k = (9 - (k + 1)) + 1 by omega, Nat.pow_succ] at hn
        exact Nat.div_lt_of_lt_mul (by rw [Nat.mul_comm]; exact hn)
      · rintro (⟨h1, _⟩ | h1)
        · have := congrArg UInt8.toNat h1
          rw [hc] at this
          simp at this
        · omega
/-- What is read as a number are its bytes. -/
theorem vg_ok : ∀ (l : List UInt8) (k n m : Nat), vg l k = .ok n m → m ≤ l.length ∧ l.take m = vb n ∧ (0 < k → 0 < n) ∧ k ≤ 8 ∧ n < 128 ^ (9 - k) ∧ 0 < m
  | [], _, _, _, h => by simp [vg] at h
  | c :: t, k, n, m, h => by
    simp only [vg] at h
    split at h
    · simp at h
    · rename_i h1
      have hk : k ≤ 8 := by omega
      have hcl := c.toNat_lt
      split at h
      · rename_i h2
        simp only [Vr.ok.injEq] at h
        obtain ⟨rfl, rfl⟩ := h
        refine ⟨by simp, ?_, fun h0 => ?_, hk, ?_, by omega⟩
        · rw [vb_small h2]; simp
        · apply Classical.byContradiction
          intro hz
          have hz : c.toNat = 0 := by omega
          exact h1 (.inl ⟨UInt8.toNat_inj.1 (by simpa using hz), h0⟩)
        · exact Nat.lt_of_lt_of_le h2 (by rw [show 9 - k = (8 - k) + 1 by omega, Nat.pow_succ]; exact Nat.le_mul_of_pos_left _ (Nat.pow_pos (by omega)))
      · rename_i h2
        cases hr : vg t (k + 1) with
        | short => rw [hr] at h; simp [Vr.more] at h
        | form => rw [hr] at h; simp [Vr.more] at h
        | ok n' m' =>
          rw [hr] at h
          simp only [Vr.more, Vr.ok.injEq] at h
          obtain ⟨rfl, rfl⟩ := h
          obtain ⟨g1, g2, g3, g4, g5, g6⟩ := vg_ok t (k + 1) n' m' hr
          have hn' := g3 (by omega)
          refine ⟨by simp; omega, ?_, fun _ => by omega, hk, ?_, by omega⟩
          · rw [vb_large (by omega), List.take_succ_cons, g2]
            congr 1
            · apply UInt8.toNat_inj.1
              simp
              omega
            · congr 1
              omega
          · rw [show 9 - k = (9 - (k + 1)) + 1 by omega, Nat.pow_succ]
            omega
theorem vb_len_le {n : Nat} (h : n < 128 ^ 9) : (vb n).length ≤ 9 := by
  have : ∀ (k n : Nat), n < 128 ^ (k + 1) → (vb n).length ≤ k + 1 := by
    intro k
    induction k with
    | zero => intro n h; rw [vb_small (by simpa using h)]; simp
    | succ k ih =>
      intro n h
      by_cases h1 : n < 128
      · rw [vb_small h1]; simp
      · rw [vb_large h1, List.length_cons]
        have := ih (n / 128) (Nat.div_lt_of_lt_mul (by rw [Nat.mul_comm, ← Nat.pow_succ]; exact h))
        omega
  exact this 8 n h
theorem vb_inj {a b : Nat} (ha : a < 128 ^ 9) (hb : b < 128 ^ 9) {s t : List UInt8} (h : vb a ++ s = vb b ++ t) : a = b ∧ s = t := by
  have h1 := vg_vb 0 a s (by omega) (by omega) (by simpa using ha)
  have h2 := vg_vb 0 b t (by omega) (by omega) (by simpa using hb)
  rw [h, h2] at h1
  simp only [Vr.ok.injEq] at h1
  obtain ⟨rfl, _⟩ := h1
  exact ⟨rfl, List.append_cancel_left h⟩
end Go.Pl
/- Records, numbers, readers and writers: what the program's functions answer. -/
set_option linter.unusedVariables false
namespace Go.Proofs.Tryd
open Go Go.Ab Go.Pl

def cmdZ (c : Cmd) : Bool := c.kind == 0 && (c.client == 0 && (c.seq == 0 && (c.key.toList == [] && (c.val.toList == [] && (c.old.toList == [] && (c.node == 0 && true))))))
def rangesB (x : Rec) : Bool := !(hasBal x.kind && (!mayB x.round x.node || (x.round == 0 && x.node == 0))) && (!hasInd x.kind || (decide (1 ≤ x.index) && decide (x.index ≤ 4294967296)))
def othersB (x : Rec) : Bool := (!hasBal x.kind && !(x.round == 0 && x.node == 0)) || (!hasInd x.kind && !(x.index == 0)) || (!hasCmd x.kind && !cmdZ x.cmd) || ((x.kind == 4) != decide (0 < x.image.length))
/-- What is wrong with a record. -/
def recErr (x : Rec) : Int :=
  if !(hasBal x.kind || hasInd x.kind) then 5
  else if !rangesB x then 6
  else if x.kind == 4 && decide (32768 < x.image.length) then 2
  else if hasCmd x.kind && cmdErr x.cmd != 0 then cmdErr x.cmd
  else if othersB x then 3 else 0
def cmdSame (c d : Cmd) : Bool := c.kind == d.kind && (c.client == d.client && (c.seq == d.seq && (c.key.toList == d.key.toList && (c.val.toList == d.val.toList && (c.old.toList == d.old.toList && (c.node == d.node && true))))))
def recSame (x y : Rec) : Bool := x.kind == y.kind && (x.round == y.round && x.node == y.node) && x.index == y.index && cmdSame x.cmd y.cmd && x.image == y.image
def recLarge (x : Rec) : Bool := decide (x.cmd.key.size > 200) || decide (x.cmd.val.size > 200) || decide (x.cmd.old.size > 200) || (decide (x.image.length > 300) && decide (x.image.length < 32760)) || decide (x.image.length > 32780)
end Go.Proofs.Tryd
/- Runes: the reference's reading of a byte sequence, and the library's. -/
set_option linter.unusedVariables false
namespace Go.Pl
open Go

abbrev byt (s : ByteArray) (i : Nat) : Nat := (s.toList.getD i 0).toNat
theorem byt_lt (s : ByteArray) (i : Nat) : byt s i < 256 := (s.toList.getD i 0).toNat_lt
/-- The bytes behind a first one. -/
def contR (s : ByteArray) (i : Nat) : Nat → Nat → Int → Option Int
  | 0, _, v => some v
  | n + 1, k, v => if 128 ≤ byt s (i + k) ∧ byt s (i + k) ≤ 191 then contR s i n (k + 1) (64 * v + byt s (i + k) - 128) else none
def sizeC (s : ByteArray) (i n : Nat) (low v : Int) : Int × Int :=
  if i + n > s.size then (0, 0) else
  match contR s i (n - 1) 1 v with
  | none => (0, 0)
  | some v => if v < low ∨ v > 1114111 ∨ (55296 ≤ v ∧ v ≤ 57343) then (0, 0) else (n, v)
/-- ref05.Size -/
def sizeR (s : ByteArray) (i : Nat) : Int × Int :=
  if byt s i < 128 then (1, byt s i)
  else if 194 ≤ byt s i ∧ byt s i ≤ 223 then sizeC s i 2 128 (byt s i - 192)
  else if 224 ≤ byt s i ∧ byt s i ≤ 239 then sizeC s i 3 2048 (byt s i - 224)
  else if 240 ≤ byt s i ∧ byt s i ≤ 244 then sizeC s i 4 65536 (byt s i - 240)
  else (0, 0)

theorem get_eq (s : ByteArray) (i : Nat) : (s.get! i).toNat = byt s i := by
  unfold byt
  rw [ByteArray.toList_eq]
  simp only [ByteArray.get!, List.getD_eq_getElem?_getD, Array.getElem?_toList]
  rw [getElem!_def]
  cases s.data[i]? <;> rfl

theorem valid_eq (r : Nat) : Utf8.valid (r : Int) = (decide (r < 55296) || (decide (57344 ≤ r) && decide (r ≤ 1114111))) := by
  unfold Utf8.valid
  rw [Bool.eq_iff_iff]
  simp
  omega
def post (p : Nat × Nat) : Int × Int := if (p.1 == 65533 && p.2 == 1) then (0, 0) else (p.2, p.1)
def sz2 (s : ByteArray) (i : Nat) : Int × Int := post (Utf8.decode s i)
/-- The library's reading, out of four bytes. -/
def dec4 (c d e f i z : Nat) : Nat × Nat :=
  if c < 128 then (c, 1)
  else if c / 32 = 6 ∧ i + 1 < z ∧ d / 64 = 2 then
    if c % 32 * 64 + d % 64 ≥ 128 then (c % 32 * 64 + d % 64, 2) else (65533, 1)
  else if c / 16 = 14 ∧ (i + 1 < z ∧ d / 64 = 2) ∧ i + 2 < z ∧ e / 64 = 2 then
    if c % 16 * 4096 + d % 64 * 64 + e % 64 ≥ 2048 ∧ (c % 16 * 4096 + d % 64 * 64 + e % 64 < 55296 ∨ (57344 ≤ c % 16 * 4096 + d % 64 * 64 + e % 64 ∧ c % 16 * 4096 + d % 64 * 64 + e % 64 ≤ 1114111)) then (c % 16 * 4096 + d % 64 * 64 + e % 64, 3) else (65533, 1)
  else if c / 8 = 30 ∧ (i + 1 < z ∧ d / 64 = 2) ∧ (i + 2 < z ∧ e / 64 = 2) ∧ i + 3 < z ∧ f / 64 = 2 then
    if c % 8 * 262144 + d % 64 * 4096 + e % 64 * 64 + f % 64 ≥ 65536 ∧ (c % 8 * 262144 + d % 64 * 4096 + e % 64 * 64 + f % 64 < 55296 ∨ (57344 ≤ c % 8 * 262144 + d % 64 * 4096 + e % 64 * 64 + f % 64 ∧ c % 8 * 262144 + d % 64 * 4096 + e % 64 * 64 + f % 64 ≤ 1114111)) then (c % 8 * 262144 + d % 64 * 4096 + e % 64 * 64 + f % 64, 4) else (65533, 1)
  else (65533, 1)
set_option maxRecDepth 20000 in
theorem decode4 (s : ByteArray) (i : Nat) : Utf8.decode s i = dec4 (byt s i) (byt s (i + 1)) (byt s (i + 2)) (byt s (i + 3)) i s.size := by
  unfold Utf8.decode dec4
  simp only [get_eq, Nat.add_zero, Utf8.runeError, valid_eq, Bool.and_eq_true, Bool.or_eq_true, decide_eq_true_eq, beq_iff_eq, and_assoc]
theorem post_no : post (65533, 1) = (0, 0) := rfl
theorem post_ok {a w : Nat} (h : w ≠ 1 ∨ a ≠ 65533) : post (a, w) = ((w : Int), (a : Int)) := by
  unfold post
  rw [if_neg]
  simp
  omega
set_option maxRecDepth 20000 in
/-- The two readings tell the same. -/
theorem sizeR_decode (s : ByteArray) (i : Nat) (h : i < s.size) : sizeR s i = sz2 s i := by
  unfold sizeR sz2
  rw [decode4]
  simp only [sizeC, contR]
  have b0 := byt_lt s i
  have b1 := byt_lt s (i + 1)
  have b2 := byt_lt s (i + 2)
  have b3 := byt_lt s (i + 3)
  generalize byt s i = c at *
  generalize byt s (i + 1) = d at *
  generalize byt s (i + 2) = e at *
  generalize byt s (i + 3) = f at *
  generalize s.size = z at *
  rcases (show c < 128 ∨ (128 ≤ c ∧ c < 192) ∨ (192 ≤ c ∧ c < 194) ∨ (194 ≤ c ∧ c < 224) ∨ (224 ≤ c ∧ c < 240) ∨ (240 ≤ c ∧ c < 245) ∨ 245 ≤ c by omega) with h1 | h1 | h1 | h1 | h1 | h1 | h1
  · rw [show dec4 c d e f i z = (c, 1) from if_pos h1, if_pos h1, post_ok (by omega)]; rfl
  · have : dec4 c d e f i z = (65533, 1) := by
      unfold dec4
      rw [if_neg (by omega), if_neg (by omega), if_neg (by omega), if_neg (by omega)]
    rw [this, post_no, if_neg (by omega), if_neg (by omega), if_neg (by omega), if_neg (by omega)]
  · have : dec4 c d e f i z = (65533, 1) := by
      unfold dec4
      rw [if_neg (by omega), if_neg (c := c / 16 = 14 ∧ _) (by omega), if_neg (c := c / 8 = 30 ∧ _) (by omega)]
      split
      · rw [if_neg (by omega)]
      · rfl
    rw [this, post_no, if_neg (by omega), if_neg (by omega), if_neg (by omega), if_neg (by omega)]
  · have e0 : dec4 c d e f i z = if i + 1 < z ∧ d / 64 = 2 then (c % 32 * 64 + d % 64, 2) else (65533, 1) := by
      unfold dec4
      rw [if_neg (by omega), if_neg (c := c / 16 = 14 ∧ _) (by omega), if_neg (c := c / 8 = 30 ∧ _) (by omega)]
      by_cases hd : i + 1 < z ∧ d / 64 = 2
      · rw [if_pos hd, if_pos ⟨by omega, hd⟩, if_pos (by omega)]
      · rw [if_neg hd, if_neg fun h => hd h.2]
    rw [e0, if_neg (by omega), if_pos (by omega)]
    by_cases hz : i + 1 < z
    · rw [if_neg (c := i + 2 > z) (by omega)]
      by_cases hd : d / 64 = 2
      · rw [if_pos (show 128 ≤ d ∧ d ≤ 191 by omega), if_pos ⟨hz, hd⟩, post_ok (by omega)]
        simp only []
        rw [if_neg (by omega)]
        simp only [Prod.mk.injEq, true_and]

        omega
      · rw [if_neg (show ¬ (128 ≤ d ∧ d ≤ 191) by omega), if_neg (fun h => hd h.2), post_no]
    · rw [if_pos (by omega), if_neg (fun h => hz h.1), post_no]
  · have e0 : dec4 c d e f i z = if (i + 1 < z ∧ d / 64 = 2) ∧ i + 2 < z ∧ e / 64 = 2 then
        if c % 16 * 4096 + d % 64 * 64 + e % 64 ≥ 2048 ∧ (c % 16 * 4096 + d % 64 * 64 + e % 64 < 55296 ∨ (57344 ≤ c % 16 * 4096 + d % 64 * 64 + e % 64 ∧ c % 16 * 4096 + d % 64 * 64 + e % 64 ≤ 1114111)) then (c % 16 * 4096 + d % 64 * 64 + e % 64, 3) else (65533, 1)
        else (65533, 1) := by
      unfold dec4
      rw [if_neg (by omega), if_neg (c := c / 32 = 6 ∧ _) (by omega), if_neg (c := c / 8 = 30 ∧ _) (by omega)]
      by_cases hd : (i + 1 < z ∧ d / 64 = 2) ∧ i + 2 < z ∧ e / 64 = 2
      · rw [if_pos hd, if_pos ⟨by omega, hd⟩]
      · rw [if_neg hd, if_neg fun h => hd h.2]
    rw [e0, if_neg (by omega), if_neg (by omega), if_pos (by omega)]
    by_cases hz : i + 2 < z
    · rw [if_neg (c := i + 3 > z) (by omega)]
      by_cases hd : d / 64 = 2
      · rw [if_pos (show 128 ≤ d ∧ d ≤ 191 by omega)]
        by_cases he : e / 64 = 2
        · rw [if_pos (show 128 ≤ e ∧ e ≤ 191 by omega), if_pos ⟨⟨by omega, hd⟩, hz, he⟩]
          simp only []
          by_cases hv : c % 16 * 4096 + d % 64 * 64 + e % 64 ≥ 2048 ∧ (c % 16 * 4096 + d % 64 * 64 + e % 64 < 55296 ∨ (57344 ≤ c % 16 * 4096 + d % 64 * 64 + e % 64 ∧ c % 16 * 4096 + d % 64 * 64 + e % 64 ≤ 1114111))
          · rw [if_pos hv, post_ok (by omega), if_neg (by omega)]
            simp only [Prod.mk.injEq, true_and]
            omega
          · rw [if_neg hv, post_no, if_pos (by omega)]
        · rw [if_neg (show ¬ (128 ≤ e ∧ e ≤ 191) by omega), if_neg (fun h => he h.2.2), post_no]
      · rw [if_neg (show ¬ (128 ≤ d ∧ d ≤ 191) by omega), if_neg (fun h => hd h.1.2), post_no]
    · rw [if_pos (by omega), if_neg (fun h => hz h.2.1), post_no]
  · have e0 : dec4 c d e f i z = if (i + 1 < z ∧ d / 64 = 2) ∧ (i + 2 < z ∧ e / 64 = 2) ∧ i + 3 < z ∧ f / 64 = 2 then
        if c % 8 * 262144 + d % 64 * 4096 + e % 64 * 64 + f % 64 ≥ 65536 ∧ (c % 8 * 262144 + d % 64 * 4096 + e % 64 * 64 + f % 64 < 55296 ∨ (57344 ≤ c % 8 * 262144 + d % 64 * 4096 + e % 64 * 64 + f % 64 ∧ c % 8 * 262144 + d % 64 * 4096 + e % 64 * 64 + f % 64 ≤ 1114111)) then (c % 8 * 262144 + d % 64 * 4096 + e % 64 * 64 + f % 64, 4) else (65533, 1)
        else (65533, 1) := by
      unfold dec4
      rw [if_neg (by omega), if_neg (c := c / 32 = 6 ∧ _) (by omega), if_neg (c := c / 16 = 14 ∧ _) (by omega)]
      by_cases hd : (i + 1 < z ∧ d / 64 = 2) ∧ (i + 2 < z ∧ e / 64 = 2) ∧ i + 3 < z ∧ f / 64 = 2
      · rw [if_pos hd, if_pos ⟨by omega, hd⟩]
      · rw [if_neg hd, if_neg fun h => hd h.2]
    rw [e0, if_neg (by omega), if_neg (by omega), if_neg (by omega), if_pos (by omega)]
    by_cases hz : i + 3 < z
    · rw [if_neg (c := i + 4 > z) (by omega)]
      by_cases hd : d / 64 = 2
      · rw [if_pos (show 128 ≤ d ∧ d ≤ 191 by omega)]
        by_cases he : e / 64 = 2
        · rw [if_pos (show 128 ≤ e ∧ e ≤ 191 by omega)]
          by_cases hf : f / 64 = 2
          · rw [if_pos (show 128 ≤ f ∧ f ≤ 191 by omega), if_pos ⟨⟨by omega, hd⟩, ⟨by omega, he⟩, hz, hf⟩]
            simp only []
            by_cases hv : c % 8 * 262144 + d % 64 * 4096 + e % 64 * 64 + f % 64 ≥ 65536 ∧ (c % 8 * 262144 + d % 64 * 4096 + e % 64 * 64 + f % 64 < 55296 ∨ (57344 ≤ c % 8 * 262144 + d % 64 * 4096 + e % 64 * 64 + f % 64 ∧ c % 8 * 262144 + d % 64 * 4096 + e % 64 * 64 + f % 64 ≤ 1114111))
            · rw [if_pos hv, post_ok (by omega), if_neg (by omega)]
              simp only [Prod.mk.injEq, true_and]
              omega
            · rw [if_neg hv, post_no, if_pos (by omega)]
          · rw [if_neg (show ¬ (128 ≤ f ∧ f ≤ 191) by omega), if_neg (fun h => hf h.2.2.2), post_no]
        · rw [if_neg (show ¬ (128 ≤ e ∧ e ≤ 191) by omega), if_neg (fun h => he h.2.1.2), post_no]
      · rw [if_neg (show ¬ (128 ≤ d ∧ d ≤ 191) by omega), if_neg (fun h => hd h.1.2), post_no]
    · rw [if_pos (by omega), if_neg (fun h => hz h.2.2.1), post_no]
  · have : dec4 c d e f i z = (65533, 1) := by
      unfold dec4
      rw [if_neg (by omega), if_neg (c := c / 32 = 6 ∧ _) (by omega), if_neg (c := c / 16 = 14 ∧ _) (by omega)]
      split
      · rw [if_neg (by omega)]
      · rfl
    rw [this, post_no, if_neg (by omega), if_neg (by omega), if_neg (by omega), if_neg (by omega)]
end Go.Pl
/- Texts: the reference's laws over them. -/
set_option linter.unusedVariables false
namespace Go.Proofs.Tryd
open Go Go.Ab Go.Pl

theorem sz2_first (s : ByteArray) (p : Nat) : (sz2 s p).1 = if bad s p then 0 else ((Utf8.decode s p).2 : Int) := by
  unfold sz2 post bad
  split <;> simp_all
theorem sz2_second (s : ByteArray) (p : Nat) (h : bad s p = false) : (sz2 s p).2 = ((Utf8.decode s p).1 : Int) := by
  unfold sz2 post
  unfold bad at h
  rw [h]
  simp
theorem sz2_zero (s : ByteArray) (p : Nat) : ((sz2 s p).1 == 0) = bad s p := by
  rw [sz2_first]
  have := dec_width s p
  cases h : bad s p with
  | true => simp
  | false => simp; omega
theorem sz_next {s : ByteArray} {p : Nat} (hz : s.size ≤ 1000000000) (hp : p < s.size) (hb : bad s p = false) : IntKind.i64.wrap ((p : Int) + (sz2 s p).1) = ((p + (Utf8.decode s p).2 : Nat) : Int) := by
  have := dec_width s p
  rw [sz2_first, hb]
  simp only [Bool.false_eq_true, if_false]
  rw [IntWalk.i64_in _ (by omega)]
  simp

/-- Are the bytes from a place on fit for a value? -/
def okB (s : ByteArray) : Nat → Nat → Bool
  | 0, _ => true
  | n + 1, p => if p < s.size then (if byt s p < 32 ∨ byt s p = 127 then false else okB s n (p + 1)) else true
theorem okB_more (s : ByteArray) : ∀ (n m p : Nat), s.size - p ≤ n → n ≤ m → okB s m p = okB s n p
  | 0, 0, p, _, _ => rfl
  | 0, m + 1, p, h, _ => by
    have : ¬ p < s.size := by omega
    simp [okB, this]
  | n + 1, 0, p, _, h => by omega
  | n + 1, m + 1, p, h, h' => by
    simp only [okB]
    split
    · split
      · rfl
      · exact okB_more s n m _ (by omega) (by omega)
    · rfl
theorem okB_step (s : ByteArray) (p : Nat) (h : p < s.size) : okB s (s.size - p) p = if byt s p < 32 ∨ byt s p = 127 then false else okB s (s.size - (p + 1)) (p + 1) := by
  obtain ⟨n, hn⟩ : ∃ n, s.size - p = n + 1 := ⟨s.size - p - 1, by omega⟩
  rw [hn]
  simp only [okB, h, if_true]
  split
  · rfl
  · exact okB_more s _ n _ (Nat.le_refl _) (by omega)
theorem okB_end (s : ByteArray) (p n : Nat) (h : ¬ p < s.size) : okB s n p = true := by cases n <;> simp [okB, h]
theorem okB_high (s : ByteArray) (p : Nat) (h : 128 ≤ byt s p) : okB s (s.size - p) p = okB s (s.size - (p + 1)) (p + 1) := by
  by_cases hp : p < s.size
  · rw [okB_step s p hp, if_neg (by omega)]
  · rw [okB_end _ _ _ hp, okB_end _ _ _ (by omega)]
/-- What a rune's bytes are. -/
theorem dec_cases (s : ByteArray) (p : Nat) (hb : bad s p = false) : ((Utf8.decode s p).2 = 1 ∧ (Utf8.decode s p).1 = byt s p ∧ byt s p < 128) ∨
    (128 ≤ (Utf8.decode s p).1 ∧ 128 ≤ byt s p ∧ ((Utf8.decode s p).2 = 2 ∨ (Utf8.decode s p).2 = 3 ∨ (Utf8.decode s p).2 = 4) ∧ ∀ k, 1 ≤ k → k < (Utf8.decode s p).2 → 128 ≤ byt s (p + k)) := by
  unfold bad at hb
  rw [decode4] at hb ⊢
  generalize hD : dec4 (byt s p) (byt s (p + 1)) (byt s (p + 2)) (byt s (p + 3)) p s.size = D at hb ⊢
  unfold dec4 at hD
  split at hD
  · subst hD; exact .inl ⟨rfl, rfl, by assumption⟩
  · right
    split at hD
    · split at hD
      · subst hD
        refine ⟨by dsimp only; omega, by omega, .inl rfl, fun k h1 h2 => ?_⟩
        obtain rfl : k = 1 := by dsimp only at h2; omega
        omega
      · subst hD; simp at hb
    · split at hD
      · split at hD
        · subst hD
          refine ⟨by dsimp only; omega, by omega, .inr (.inl rfl), fun k h1 h2 => ?_⟩
          rcases (show k = 1 ∨ k = 2 by dsimp only at h2; omega) with rfl | rfl <;> omega
        · subst hD; simp at hb
      · split at hD
        · split at hD
          · subst hD
            refine ⟨by dsimp only; omega, by omega, .inr (.inr rfl), fun k h1 h2 => ?_⟩
            rcases (show k = 1 ∨ k = 2 ∨ k = 3 by dsimp only at h2; omega) with rfl | rfl | rfl <;> omega
          · subst hD; simp at hb
        · subst hD; simp at hb
/-- Over one rune. -/
theorem okB_rune (s : ByteArray) (p : Nat) (hp : p < s.size) (hb : bad s p = false) : okB s (s.size - p) p = if valR (Utf8.decode s p).1 then okB s (s.size - (p + (Utf8.decode s p).2)) (p + (Utf8.decode s p).2) else false := by
  rcases dec_cases s p hb with ⟨h1, h2, h3⟩ | ⟨h1, h2, h3, h4⟩
  · rw [okB_step s p hp, h1, h2]
    by_cases h : byt s p < 32 ∨ byt s p = 127
    · have : valR (byt s p) = false := by simp [valR]; omega
      rw [if_pos h, this]; rfl
    · have : valR (byt s p) = true := by simp [valR]; omega
      rw [if_neg h, this]; rfl
  · have hv : valR (Utf8.decode s p).1 = true := by simp [valR]; omega
    rw [hv, if_pos rfl, okB_high s p h2]
    rcases h3 with h3 | h3 | h3 <;> rw [h3] at h4 ⊢
    · rw [okB_high s (p + 1) (h4 1 (by omega) (by omega))]
    · rw [okB_high s (p + 1) (h4 1 (by omega) (by omega)), okB_high s (p + 1 + 1) (h4 2 (by omega) (by omega))]
    · rw [okB_high s (p + 1) (h4 1 (by omega) (by omega)), okB_high s (p + 1 + 1) (h4 2 (by omega) (by omega)), okB_high s (p + 1 + 1 + 1) (h4 3 (by omega) (by omega))]
theorem okB_all (s : ByteArray) : ∀ (n p : Nat), s.size - p ≤ n → badFrom s (s.size - p) p < 0 → allFrom valR s (s.size - p) p = okB s (s.size - p) p := by
  intro n
  induction n with
  | zero => intro p h _; rw [allFrom_end _ _ _ _ (by omega), okB_end _ _ _ (by omega)]
  | succ n ih =>
    intro p h hb
    by_cases hp : p < s.size
    · rw [badFrom_step s p hp] at hb
      cases hbad : bad s p with
      | true => rw [hbad] at hb; simp at hb; omega
      | false =>
        rw [hbad] at hb
        have := dec_width s p
        rw [allFrom_step _ s p hp, okB_rune s p hp hbad]
        split
        · exact ih _ (by omega) (by simpa using hb)
        · rfl
    · rw [allFrom_end _ _ _ _ hp, okB_end _ _ _ hp]
theorem valT_ok (s : ByteArray) : valT s = (decide (s.size ≤ 48) && decide (badAt s < 0) && okB s s.size 0) := by
  unfold valT allR badAt
  by_cases h : badFrom s s.size 0 < 0
  · have := okB_all s s.size 0 (by omega) (by simpa using h)
    simp only [Nat.sub_zero] at this
    rw [this]
  · simp [h]
/-- No byte is bad, and all runes are so. -/
def okK (q : Int → Bool) (s : ByteArray) (n p : Nat) : Bool := decide (badFrom s n p < 0) && allFrom q s n p
theorem okK_step (q : Int → Bool) (s : ByteArray) (p : Nat) (h : p < s.size) : okK q s (s.size - p) p = if bad s p || !q (Utf8.decode s p).1 then false else okK q s (s.size - (p + (Utf8.decode s p).2)) (p + (Utf8.decode s p).2) := by
  unfold okK
  rw [badFrom_step s p h, allFrom_step q s p h]
  cases bad s p <;> cases q (Utf8.decode s p).1 <;> simp
  omega
theorem okK_end (q : Int → Bool) (s : ByteArray) (p n : Nat) (h : ¬ p < s.size) : okK q s n p = true := by
  unfold okK
  rw [badFrom_end _ _ _ h, allFrom_end _ _ _ _ h]
  rfl

/-- The letters that the reference lists. -/
def plainL : List UInt8 := [97, 98, 99, 100, 101, 102, 103, 104, 105, 106, 107, 108, 109, 110, 111, 112, 113, 114, 115, 116, 117, 118, 119, 120, 121, 122, 65, 66, 67, 68, 69, 70, 71, 72, 73, 74, 75, 76, 77, 78, 79, 80, 81, 82, 83, 84, 85, 86, 87, 88, 89, 90, 48, 49, 50, 51, 52, 53, 54, 55, 56, 57, 45, 95, 46, 58]
abbrev plainS : ByteArray := ⟨plainL.toArray⟩
def among (r : Int) (l : List UInt8) : Bool := l.any fun b => (b.toNat : Int) == r
theorem plain_among (r : Int) : (among r plainL || (decide (r ≥ 161) && r != 65533)) = plainR r := by
  unfold among plainL plainR
  rw [Bool.eq_iff_iff]
  simp
  omega
theorem plainS_byte (i : Nat) (h : i < 66) : byt plainS i = (plainL.getD i 0).toNat := by
  unfold byt plainS
  rw [ByteArray.toList_eq]
theorem among_step (r : Int) (i : Nat) (h : i < 66) : among r (plainL.drop i) = (((plainL.getD i 0).toNat : Int) == r || among r (plainL.drop (i + 1))) := by
  have hl : i < plainL.length := by simpa [plainL] using h
  rw [List.drop_eq_getElem_cons hl]
  unfold among
  rw [List.any_cons]
  simp only [List.getD_eq_getElem?_getD, List.getElem?_eq_getElem hl, Option.getD_some]
end Go.Proofs.Tryd
/- Lists of bytes. -/
set_option linter.unusedVariables false
namespace Go.Proofs.Tryd
open Go Go.Ab Go.Pl
theorem wI {n : Int} (h : -9223372036854775808 ≤ n ∧ n ≤ 9223372036854775807) : IntKind.i64.wrap n = n := IntWalk.i64_in n h
theorem wS (i : Nat) (h : i ≤ 1000000000000000000) : IntKind.i64.wrap ((i : Int) + 1) = ((i + 1 : Nat) : Int) := by rw [wI (by omega)]; omega
/-- Lists that are the same up to a place. -/
theorem same_step {T : Type} [Inhabited T] {a b : List T} {i : Nat} (hl : a.length = b.length) (h : a.take i = b.take i) (hi : i < a.length) (he : at_ a i = at_ b i) : a.take (i + 1) = b.take (i + 1) := by
  have ha := at_get (l := a) hi
  have hb := at_get (l := b) (i := i) (by omega)
  rw [List.take_add_one, List.take_add_one, h, ha, hb, he]
theorem diff_at {T : Type} [Inhabited T] {a b : List T} {i : Nat} (hl : a.length = b.length) (hi : i < a.length) (he : at_ a i ≠ at_ b i) : a ≠ b := by
  rintro rfl
  exact he rfl
theorem same_all {T : Type} {a b : List T} {i : Nat} (hl : a.length = b.length) (h : a.take i = b.take i) (hi : ¬ i < a.length) : a = b := by
  rw [List.take_of_length_le (by omega), List.take_of_length_le (by omega)] at h
  exact h
theorem u8_eq {a b : UInt8} : ((a.toNat : Int) = (b.toNat : Int)) ↔ a = b := by
  constructor
  · intro h; exact UInt8.toNat_inj.1 (by omega)
  · rintro rfl; rfl
theorem u8_same {a b : UInt8} (h : ((a.toNat : Int) != (b.toNat : Int)) = false) : a = b := u8_eq.1 (by simpa using h)
theorem u8_other {a b : UInt8} (h : ((a.toNat : Int) != (b.toNat : Int)) = true) : a ≠ b := by
  rintro rfl
  simp at h
theorem plain_go {r : Int} {i : Nat} {R : Bool} (hi : among r (plainL.drop i) = R ∧ i ≤ 66) (h0 : decide ((i : Int) < (plainS.size : Int)) = true) :
    i < 66 ∧ R = (IntKind.i64.wrap ((plainS.toList.getD ((i : Int)).toNat 0).toNat : Int) == r || among r (plainL.drop (i + 1))) := by
  have hs : plainS.size = 66 := rfl
  have h0 := of_decide_eq_true h0
  have hlt : i < 66 := by omega
  refine ⟨hlt, ?_⟩
  have hb := plainS_byte i hlt
  have h256 := byt_lt plainS i
  rw [← hi.1, among_step r i hlt, Int.toNat_natCast]
  unfold byt at hb h256
  rw [← hb, wI (by omega)]
theorem dlt {i n : Nat} (h : decide ((i : Int) < (n : Int)) = true) : i < n := by have := of_decide_eq_true h; omega
theorem dnlt {i n : Nat} (h : decide ((i : Int) < (n : Int)) = false) : ¬ i < n := by have := of_decide_eq_false h; omega
end Go.Proofs.Tryd
/- Entries of a log: what the program's functions answer. -/
set_option linter.unusedVariables false
set_option linter.unusedSimpArgs false
namespace Go.Proofs.Tryd
open Go Go.Ab Go.Pl

structure Ent where
  index : Int
  round : Int
  node : Int
  cmd : Cmd
instance : Inhabited Ent := ⟨⟨0, 0, 0, ⟨0, 0, 0, .empty, .empty, .empty, 0⟩⟩⟩
abbrev eEnt (x : Ent) : List A := [.d (.int .i64 x.index), .d (.int .i64 x.round), .d (.int .i64 x.node), .d (.int .i64 x.cmd.kind), .d (.int .i64 x.cmd.client), .d (.int .i64 x.cmd.seq), .d (.str x.cmd.key), .d (.str x.cmd.val), .d (.str x.cmd.old), .d (.int .i64 x.cmd.node)]
abbrev dEnt (x : Ent) : List D := [.int .i64 x.index, .int .i64 x.round, .int .i64 x.node, .int .i64 x.cmd.kind, .int .i64 x.cmd.client, .int .i64 x.cmd.seq, .str x.cmd.key, .str x.cmd.val, .str x.cmd.old, .int .i64 x.cmd.node]
def zeroEnt : Ent := ⟨0, 0, 0, ⟨0, 0, 0, .empty, .empty, .empty, 0⟩⟩
abbrev eR (l : List Ent) : List (List D) := l.map dEnt

def cmpI (x y : Int) : Int := if x < y then -1 else if x > y then 1 else 0
/-- Indexes rise. -/
def Rise (l : List Ent) : Prop := l.Pairwise fun a b => a.index < b.index
/-- How many are below an index. -/
def lb (l : List Ent) (t : Int) : Nat := (l.takeWhile fun e => decide (e.index < t)).length
def isAt (l : List Ent) (t : Int) : Bool := decide (lb l t < l.length) && (at_ l (lb l t : Nat)).index == t

theorem at_drop {l : List Ent} {i : Nat} (h : i < l.length) : l.drop i = at_ l (i : Int) :: l.drop (i + 1) := by
  rw [List.drop_eq_getElem_cons h]
  simp [at_, h]
theorem at_nat (l : List Ent) (i : Nat) (h : i < l.length) : at_ l (i : Int) = l[i] := by simp [at_, h]
theorem lb_le (l : List Ent) (t : Int) : lb l t ≤ l.length := (List.takeWhile_sublist _).length_le
theorem lb_cons (x : Ent) (l : List Ent) (t : Int) : lb (x :: l) t = if x.index < t then lb l t + 1 else 0 := by
  unfold lb
  rw [List.takeWhile_cons]
  by_cases h : x.index < t <;> simp [h]
theorem Rise.tail {x : Ent} {l : List Ent} (h : Rise (x :: l)) : Rise l := (List.pairwise_cons.1 h).2
theorem Rise.head {x : Ent} {l : List Ent} (h : Rise (x :: l)) : ∀ y ∈ l, x.index < y.index := (List.pairwise_cons.1 h).1
/-- Below the place: smaller; from it on: not. -/
theorem lb_lt : ∀ {l : List Ent} {t : Int} {i : Nat}, i < lb l t → (at_ l (i : Int)).index < t
  | [], t, i, h => by simp [lb] at h
  | x :: l, t, i, h => by
    rw [lb_cons] at h
    split at h
    · rename_i hx
      cases i with
      | zero => simpa [at_] using hx
      | succ i =>
        have := lb_lt (l := l) (t := t) (i := i) (by omega)
        simpa [at_] using this
    · omega
theorem lb_ge : ∀ {l : List Ent} {t : Int} {i : Nat}, Rise l → lb l t ≤ i → i < l.length → t ≤ (at_ l (i : Int)).index
  | [], t, i, _, _, h => by simp at h
  | x :: l, t, i, hr, h, hl => by
    rw [lb_cons] at h
    split at h
    · cases i with
      | zero => omega
      | succ i =>
        have := lb_ge (l := l) (t := t) (i := i) hr.tail (by omega) (by simpa using hl)
        simpa [at_] using this
    · rename_i hx
      cases i with
      | zero => simpa [at_] using hx
      | succ i =>
        have hm : (at_ (x :: l) ((i + 1 : Nat) : Int)) ∈ l := by
          have hl' : i < l.length := by simpa using hl
          have : at_ (x :: l) ((i + 1 : Nat) : Int) = l[i] := by rw [at_nat _ _ (by simpa using hl)]; simp
          rw [this]; exact List.getElem_mem _
        have := hr.head _ hm
        omega
/-- Half of a sum, in the machine's words. -/
theorem half {i j : Nat} (h : i + j ≤ 4000000000000000000) : IntKind.i64.wrap ((IntKind.u64.wrap (IntKind.i64.wrap ((i : Int) + (j : Int)))).fdiv 2) = (((i + j) / 2 : Nat) : Int) := by
  rw [wI (n := (i : Int) + (j : Int)) (by omega)]
  have : IntKind.u64.wrap ((i : Int) + (j : Int)) = ((i + j : Nat) : Int) := by rw [IntKind.wrap_u64]; omega
  rw [this, Int.fdiv_eq_ediv_of_nonneg _ (by decide), wI (by omega)]
  omega
theorem cmpI_neg {x y : Int} : (cmpI x y < 0) ↔ x < y := by unfold cmpI; split <;> (try split) <;> omega
theorem cmpI_zero {x y : Int} : (cmpI x y = 0) ↔ x = y := by unfold cmpI; split <;> (try split) <;> omega
theorem bs_lo {l : List Ent} {t : Int} {i j : Nat} (hr : Rise l) (hi : i ≤ lb l t ∧ lb l t ≤ j ∧ j ≤ l.length) (h0 : i < j) (h1 : cmpI (at_ l (((i + j) / 2 : Nat) : Int)).index t < 0) : ((i + j) / 2 + 1 ≤ lb l t ∧ lb l t ≤ j ∧ j ≤ l.length) ∧ j - ((i + j) / 2 + 1) < j - i := by
  rw [cmpI_neg] at h1
  have : ¬ lb l t ≤ (i + j) / 2 := fun h => by have := lb_ge hr h (by omega); omega
  omega
theorem bs_hi {l : List Ent} {t : Int} {i j : Nat} (hi : i ≤ lb l t ∧ lb l t ≤ j ∧ j ≤ l.length) (h0 : i < j) (h1 : ¬ cmpI (at_ l (((i + j) / 2 : Nat) : Int)).index t < 0) : (i ≤ lb l t ∧ lb l t ≤ (i + j) / 2 ∧ (i + j) / 2 ≤ l.length) ∧ (i + j) / 2 - i < j - i := by
  rw [cmpI_neg] at h1
  have : ¬ (i + j) / 2 < lb l t := fun h => by have := lb_lt h; omega
  omega
theorem bs_end {l : List Ent} {t : Int} {i j : Nat} (hi : i ≤ lb l t ∧ lb l t ≤ j ∧ j ≤ l.length) (h0 : ¬ i < j) : i = lb l t ∧ j = lb l t := by omega

/-- With one more. -/
def insE (l : List Ent) (e : Ent) : List Ent := if isAt l e.index then l.set (lb l e.index) e else l.take (lb l e.index) ++ e :: l.drop (lb l e.index)
def findE (l : List Ent) (t : Int) : Ent := if isAt l t then at_ l (lb l t : Nat) else zeroEnt
def fromE (l : List Ent) (t : Int) : List Ent := l.drop (lb l t)
def untilE (l : List Ent) (t : Int) : List Ent := l.take (if isAt l t then lb l t + 1 else lb l t)

theorem isAt_lt {l : List Ent} {t : Int} (h : isAt l t = true) : lb l t < l.length := by
  unfold isAt at h
  exact of_decide_eq_true (Bool.and_eq_true _ _ |>.mp h).1
theorem isAt_yes {l : List Ent} {t : Int} (h : decide (((lb l t : Nat) : Int) < ((eR l).length : Int)) = true) : (cmpI (at_ l (lb l t : Nat)).index t == 0) = isAt l t := by
  have h := of_decide_eq_true h
  rw [List.length_map] at h
  have e : decide (lb l t < l.length) = true := decide_eq_true (by omega)
  unfold isAt
  rw [e, Bool.true_and, Bool.eq_iff_iff]
  simp [cmpI_zero]
theorem isAt_no {l : List Ent} {t : Int} (h : decide (((lb l t : Nat) : Int) < ((eR l).length : Int)) = false) : isAt l t = false := by
  have h := of_decide_eq_false h
  rw [List.length_map] at h
  have e : decide (lb l t < l.length) = false := decide_eq_false (by omega)
  unfold isAt
  rw [e, Bool.false_and]
theorem find_yes {l : List Ent} {t : Int} (h : isAt l t = true) : findE l t = at_ l (lb l t : Nat) := if_pos h
theorem find_no {l : List Ent} {t : Int} (h : isAt l t = false) : findE l t = zeroEnt := by unfold findE; rw [h]; rfl
theorem with_yes {n : Bool} {l : List Ent} {e : Ent} (hn : n = true → l = []) (h : isAt l e.index = true) : (A.d (D.slice (n && ((eR l).set ((lb l e.index : Nat) : Int).toNat (dEnt e)).isEmpty) 10 ((eR l).set ((lb l e.index : Nat) : Int).toNat (dEnt e))), ([] : List Ob)) = (A.d (D.slice false 10 (eR (insE l e))), []) := by
  have hlt := isAt_lt h
  have hf : n = false := by
    cases n with
    | false => rfl
    | true => rw [hn rfl] at hlt; simp at hlt
  rw [hf, insE, if_pos h, Int.toNat_natCast]
  simp only [Bool.false_and, eR, List.map_set]
theorem with_no {n : Bool} {l : List Ent} {e : Ent} (h : isAt l e.index = false) : (A.d (D.slice (n && ((eR l).take (lb l e.index) ++ dEnt e :: (eR l).drop (lb l e.index)).isEmpty) 10 ((eR l).take (lb l e.index) ++ dEnt e :: (eR l).drop (lb l e.index))), ([] : List Ob)) = (A.d (D.slice false 10 (eR (insE l e))), []) := by
  have : ((eR l).take (lb l e.index) ++ dEnt e :: (eR l).drop (lb l e.index)).isEmpty = false := by
    cases (eR l).take (lb l e.index) <;> rfl
  rw [this, Bool.and_false, insE, h]
  simp [eR, List.map_take, List.map_drop]

def entErr (e : Ent) : Int := if decide (e.index < 1) || decide (e.index > 4294967296) || !mayB e.round e.node then 6 else cmdErr e.cmd
def chkAt (l : List Ent) : Nat → Nat → Int
  | 0, _ => 0
  | n + 1, i => if entErr (at_ l (i : Int)) != 0 then entErr (at_ l (i : Int)) else if decide (0 < i) && decide ((at_ l (i : Int)).index ≤ (at_ l ((i - 1 : Nat) : Int)).index) then 12 else chkAt l n (i + 1)
/-- What is wrong with entries. -/
def chkE (l : List Ent) : Int := chkAt l l.length 0
theorem chkAt_step {l : List Ent} {i : Nat} (h : i < l.length) : chkAt l (l.length - i) i = if entErr (at_ l (i : Int)) != 0 then entErr (at_ l (i : Int)) else if decide (0 < i) && decide ((at_ l (i : Int)).index ≤ (at_ l ((i - 1 : Nat) : Int)).index) then 12 else chkAt l (l.length - (i + 1)) (i + 1) := by
  rw [show l.length - i = (l.length - (i + 1)) + 1 by omega]
  rfl
theorem chkAt_end {l : List Ent} {i : Nat} (h : ¬ i < l.length) : chkAt l (l.length - i) i = 0 := by
  rw [show l.length - i = 0 by omega]; rfl
def hasAll (v : Int) (l : List Ent) : Bool := l.all fun e => verHas v e.cmd.kind
theorem hasAll_step {v : Int} {l : List Ent} {i : Nat} (h : i < l.length) : hasAll v (l.drop i) = (verHas v (at_ l (i : Int)).cmd.kind && hasAll v (l.drop (i + 1))) := by rw [at_drop h]; rfl
theorem hasAll_end {v : Int} {l : List Ent} {i : Nat} (h : ¬ i < l.length) : hasAll v (l.drop i) = true := by rw [List.drop_of_length_le (by omega)]; rfl

def entSame (x y : Ent) : Bool := x.index == y.index && ((x.round == y.round && (x.node == y.node && true)) && (cmdSame x.cmd y.cmd && true))
theorem toList_inj {a b : ByteArray} (h : a.toList = b.toList) : a = b := by
  rw [ByteArray.toList_eq, ByteArray.toList_eq] at h
  obtain ⟨⟨a⟩⟩ := a
  obtain ⟨⟨b⟩⟩ := b
  simp at h
  rw [h]
theorem cmdSame_iff (c d : Cmd) : cmdSame c d = true ↔ c = d := by
  obtain ⟨k, cl, sq, ke, va, ol, nd⟩ := c
  obtain ⟨k', cl', sq', ke', va', ol', nd'⟩ := d
  simp only [cmdSame, Bool.and_eq_true, beq_iff_eq, and_true, Cmd.mk.injEq]
  constructor
  · rintro ⟨h1, h2, h3, h4, h5, h6, h7⟩
    exact ⟨h1, h2, h3, toList_inj h4, toList_inj h5, toList_inj h6, h7⟩
  · rintro ⟨h1, h2, h3, h4, h5, h6, h7⟩
    exact ⟨h1, h2, h3, by rw [h4], by rw [h5], by rw [h6], h7⟩
theorem entSame_iff (x y : Ent) : entSame x y = true ↔ x = y := by
  obtain ⟨i, r, n, c⟩ := x
  obtain ⟨i', r', n', c'⟩ := y
  simp only [entSame, Bool.and_eq_true, beq_iff_eq, and_true, cmdSame_iff, Ent.mk.injEq]
  constructor
  · rintro ⟨h1, ⟨h2, h3⟩, h4⟩; exact ⟨h1, h2, h3, h4⟩
  · rintro ⟨h1, h2, h3, h4⟩; exact ⟨h1, ⟨h2, h3⟩, h4⟩
instance : DecidableEq Ent := fun x y => if h : entSame x y = true then isTrue ((entSame_iff x y).1 h) else isFalse fun e => h ((entSame_iff x y).2 e)
instance : DecidableEq Cmd := fun x y => if h : cmdSame x y = true then isTrue ((cmdSame_iff x y).1 h) else isFalse fun e => h ((cmdSame_iff x y).2 e)
theorem entSame_dec (x y : Ent) : entSame x y = decide (x = y) := by rw [Bool.eq_iff_iff, entSame_iff, decide_eq_true_iff]
/-- Two lists, element by element. -/
theorem same_go {a b : List Ent} {i : Nat} (hl : a.length = b.length) (h : a.take i = b.take i) (hp : i < a.length) (he : at_ a (i : Int) = at_ b (i : Int)) : a.take (i + 1) = b.take (i + 1) := by
  rw [at_nat _ _ hp, at_nat _ _ (by omega)] at he
  rw [List.take_succ_eq_append_getElem hp, List.take_succ_eq_append_getElem (by omega), h, he]
theorem same_fin {a b : List Ent} {i : Nat} (hl : a.length = b.length) (h : a.take i = b.take i) (hp : ¬ i < a.length) : a = b := by
  rwa [List.take_of_length_le (by omega), List.take_of_length_le (by omega)] at h

/-- The reference's: one more. -/
def refWith (e : Ent) : Bool → List Ent → List Ent
  | done, [] => if done then [] else [e]
  | done, x :: l => (if !done && decide (e.index ≤ x.index) then [e] else []) ++ ((if x.index == e.index then [] else [x]) ++ refWith e (done || decide (e.index ≤ x.index)) l)
theorem refWith_step {e : Ent} {d : Bool} {l : List Ent} {i : Nat} (h : i < l.length) : refWith e d (l.drop i) = (if !d && decide (e.index ≤ (at_ l (i : Int)).index) then [e] else []) ++ ((if (at_ l (i : Int)).index == e.index then [] else [at_ l (i : Int)]) ++ refWith e (d || decide (e.index ≤ (at_ l (i : Int)).index)) (l.drop (i + 1))) := by rw [at_drop h]; rfl
theorem refWith_end {e : Ent} {d : Bool} {l : List Ent} {i : Nat} (h : ¬ i < l.length) : refWith e d (l.drop i) = if d then [] else [e] := by rw [List.drop_of_length_le (by omega)]; rfl
def betw (a b : Int) (l : List Ent) : List Ent := l.filter fun e => decide (a ≤ e.index) && decide (e.index ≤ b)
theorem betw_step {a b : Int} {l : List Ent} {i : Nat} (h : i < l.length) : betw a b (l.drop i) = (if decide (a ≤ (at_ l (i : Int)).index) && decide ((at_ l (i : Int)).index ≤ b) then [at_ l (i : Int)] else []) ++ betw a b (l.drop (i + 1)) := by
  rw [at_drop h]
  unfold betw
  rw [List.filter_cons]
  split <;> simp
theorem betw_end {a b : Int} {l : List Ent} {i : Nat} (h : ¬ i < l.length) : betw a b (l.drop i) = [] := by rw [List.drop_of_length_le (by omega)]; rfl
/-- The first place of one that is so. -/
def idx (p : Ent → Bool) : List Ent → Nat → Int
  | [], _ => -1
  | x :: l, i => if p x then (i : Int) else idx p l (i + 1)
theorem idx_step {p : Ent → Bool} {l : List Ent} {i : Nat} (h : i < l.length) : idx p (l.drop i) i = if p (at_ l (i : Int)) then (i : Int) else idx p (l.drop (i + 1)) (i + 1) := by rw [at_drop h]; rfl
theorem idx_end {p : Ent → Bool} {l : List Ent} {i : Nat} (h : ¬ i < l.length) : idx p (l.drop i) i = -1 := by rw [List.drop_of_length_le (by omega)]; rfl
theorem idx_any (p : Ent → Bool) : ∀ (l : List Ent) (i : Nat), decide (idx p l i ≥ 0) = l.any p
  | [], i => rfl
  | x :: l, i => by
    rw [idx, List.any_cons]
    cases hp : p x with
    | true => simp
    | false => simpa using idx_any p l (i + 1)
def refFind (l : List Ent) (t : Int) : Int := idx (fun e => e.index == t) l 0
def riseB : List Ent → Bool
  | [] => true
  | [_] => true
  | x :: y :: l => decide (x.index < y.index) && riseB (y :: l)
theorem riseB_iff : ∀ (l : List Ent), riseB l = true ↔ Rise l
  | [] => by simp [riseB, Rise]
  | [x] => by simp [riseB, Rise]
  | x :: y :: l => by
    rw [riseB, Bool.and_eq_true, riseB_iff (y :: l), decide_eq_true_iff]
    unfold Rise
    constructor
    · rintro ⟨h1, h2⟩
      refine List.pairwise_cons.2 ⟨fun z hz => ?_, h2⟩
      rcases List.mem_cons.1 hz with rfl | hz
      · exact h1
      · have := (List.pairwise_cons.1 h2).1 z hz; omega
    · intro h
      obtain ⟨h1, h2⟩ := List.pairwise_cons.1 h
      exact ⟨h1 y (by simp), h2⟩
theorem riseB_step {l : List Ent} {i : Nat} (h : i + 1 < l.length) : riseB (l.drop i) = (decide ((at_ l (i : Int)).index < (at_ l ((i + 1 : Nat) : Int)).index) && riseB (l.drop (i + 1))) := by
  rw [at_drop (show i < l.length by omega), at_drop h]
  rfl
theorem riseB_end {l : List Ent} {i : Nat} (h : ¬ i + 1 < l.length) : riseB (l.drop i) = true := by
  have : (l.drop i).length ≤ 1 := by rw [List.length_drop]; omega
  match hh : l.drop i, this with
  | [], _ => rfl
  | [_], _ => rfl
  | _ :: _ :: _, h => simp at h
def bigE (e : Ent) : Bool := decide ((e.cmd.key.size : Int) > 200) || decide ((e.cmd.val.size : Int) > 200) || decide ((e.cmd.old.size : Int) > 200)
def largeE (l : List Ent) : Bool := (l.take 40).any bigE || decide ((l.length : Int) > 40)
end Go.Proofs.Tryd
set_option maxRecDepth 100000
set_option maxHeartbeats 4000000
set_option linter.unusedVariables false
set_option linter.unusedSimpArgs false
namespace Go.Proofs.Tryd
open Go Go.Ab Go.Pl Go.RowKit Go.Proofs.YtmecehpkjffanaaDoor
attribute [local irreducible] Go.Ab.wp Go.Ab.vc Go.Ab.run Go.Ab.runFn Go.Ab.body1 Go.Ab.Tr.qt Go.Ab.Tr.qf Go.Ab.AEv
/-! Places of entries. -/
theorem c_cmp_isNaN_int {w0 : World} (x : Int) : AEv Tryd.prog w0 159 [.d (.int .i64 x)] [] (.d (.bool false)) [] := by
  refine aev_of_run hmix Tryd.func159 [] 1 ?_
  refine Go.Ab.wp_fn (.ret (A.d (D.bool (x != x)), [])) (by kernel_rfl) (Go.Ab.vc_ret ?_)
  all_goals (simp)
theorem c_cmp_Compare_int {w0 : World} (x y : Int) : AEv Tryd.prog w0 116 [.d (.int .i64 x), .d (.int .i64 y)] [] (.d (.int .i64 (cmpI x y))) [] := by
  refine aev_of_run hmix Tryd.func116 [] 1 ?_
  refine Go.Ab.wp_fn (.call 159 [A.d (D.int IntKind.i64 x)] [] (A.d (D.bool false)) [] (.call 159 [A.d (D.int IntKind.i64 y)] [] (A.d (D.bool false)) [] (.qs [false, false] (.q (decide (x < y)) (.ret (A.d (D.int IntKind.i64 (-1)), [])) (.q (decide (x > y)) (.ret (A.d (D.int IntKind.i64 1), [])) (.ret (A.d (D.int IntKind.i64 0), []))))))) (by kernel_rfl) (Go.Ab.vc_call (c_cmp_isNaN_int x) (Go.Ab.vc_call (c_cmp_isNaN_int y) (Go.Ab.vc_qs (Go.Ab.vc_q (fun h0 => Go.Ab.vc_ret ?_) (fun h0 => Go.Ab.vc_q (fun h1 => Go.Ab.vc_ret ?_) (fun h1 => Go.Ab.vc_ret ?_))))))
  all_goals (first | (simp_all [cmpI]; done) | (simp_all [cmpI] <;> grind) | grind [cmpI])
theorem c_entry_place_1 {w0 : World} (e : Ent) (n : Int) : AEv Tryd.prog w0 115 [.agg (eEnt e), .d (.int .i64 n)] [] (.d (.int .i64 (cmpI e.index n))) [] := by
  refine aev_of_run hmix Tryd.func115 [] 1 ?_
  refine Go.Ab.wp_fn (.call 116 [A.d (D.int IntKind.i64 e.index), A.d (D.int IntKind.i64 n)] [] (A.d (D.int IntKind.i64 (cmpI e.index n))) [] (.ret (A.d (D.int IntKind.i64 (cmpI e.index n)), []))) (by kernel_rfl) (Go.Ab.vc_call (c_cmp_Compare_int e.index n) (Go.Ab.vc_ret ?_))
  all_goals (rfl)
def l_bs_W : List Nat := others 49 [0, 1, 2, 8, 9, 10]
theorem l_bs {w0 : World} (n : Bool) (l : List Ent) (t : Int) (hr : Rise l) (hz : l.length ≤ 1000000000) (i j : Nat) (hi : i ≤ lb l t ∧ lb l t ≤ j ∧ j ≤ l.length) : ACode Tryd.prog w0 0 (.loop (nthLoop Tryd.f114 0)) (⟨mkEnv 49 [(0, .d (.slice n 10 (eR l))), (1, .d (.int .i64 t)), (2, .d (.func 115)), (8, .d (.int .i64 (eR l).length)), (9, .d (.int .i64 i)), (10, .d (.int .i64 j))], []⟩) (fun e s' => e = .exit 0 ∧ s' = ⟨mkEnv 49 [(0, .d (.slice n 10 (eR l))), (1, .d (.int .i64 t)), (2, .d (.func 115)), (8, .d (.int .i64 (eR l).length)), (9, .d (.int .i64 (lb l t : Nat))), (10, .d (.int .i64 (lb l t : Nat)))], []⟩) := by
  refine Go.Ab.acode_loop (s1 := ⟨mkEnv 49 [(0, .d (.slice n 10 (eR l))), (1, .d (.int .i64 t)), (2, .d (.func 115)), (8, .d (.int .i64 (eR l).length)), (9, .d (.int .i64 i)), (10, .d (.int .i64 j))], []⟩) (n := j - i) hmix [] (fun zm zs => ∃ (i j : Nat), zm = j - i ∧ (i ≤ lb l t ∧ lb l t ≤ j ∧ j ≤ l.length) ∧ zs = ⟨mkEnv 49 [(0, .d (.slice n 10 (eR l))), (1, .d (.int .i64 t)), (2, .d (.func 115)), (8, .d (.int .i64 (eR l).length)), (9, .d (.int .i64 i)), (10, .d (.int .i64 j))], []⟩) (Weak.refl _) ⟨i, j, rfl, hi, rfl⟩ ?_
  clear hi
  rintro zm zs ⟨i, j, rfl, hi, rfl⟩
  refine Go.Ab.wp_rd l_bs_W (.q (decide ((↑i : Int) < (↑j : Int))) (.chk (true) (.opt (getC 10 (List.map dEnt l) (IntKind.i64.wrap ((IntKind.u64.wrap (IntKind.i64.wrap ((↑i : Int) + (↑j : Int)))).fdiv 2))) (dEnt (at_ l (IntKind.i64.wrap ((IntKind.u64.wrap (IntKind.i64.wrap ((↑i : Int) + (↑j : Int)))).fdiv 2)))) (.call 115 [A.agg [A.d (D.int IntKind.i64 (at_ l (IntKind.i64.wrap ((IntKind.u64.wrap (IntKind.i64.wrap ((↑i : Int) + (↑j : Int)))).fdiv 2))).index), A.d (D.int IntKind.i64 (at_ l (IntKind.i64.wrap ((IntKind.u64.wrap (IntKind.i64.wrap ((↑i : Int) + (↑j : Int)))).fdiv 2))).round), A.d (D.int IntKind.i64 (at_ l (IntKind.i64.wrap ((IntKind.u64.wrap (IntKind.i64.wrap ((↑i : Int) + (↑j : Int)))).fdiv 2))).node), A.d (D.int IntKind.i64 (at_ l (IntKind.i64.wrap ((IntKind.u64.wrap (IntKind.i64.wrap ((↑i : Int) + (↑j : Int)))).fdiv 2))).cmd.kind), A.d (D.int IntKind.i64 (at_ l (IntKind.i64.wrap ((IntKind.u64.wrap (IntKind.i64.wrap ((↑i : Int) + (↑j : Int)))).fdiv 2))).cmd.client), A.d (D.int IntKind.i64 (at_ l (IntKind.i64.wrap ((IntKind.u64.wrap (IntKind.i64.wrap ((↑i : Int) + (↑j : Int)))).fdiv 2))).cmd.seq), A.d (D.str (at_ l (IntKind.i64.wrap ((IntKind.u64.wrap (IntKind.i64.wrap ((↑i : Int) + (↑j : Int)))).fdiv 2))).cmd.key), A.d (D.str (at_ l (IntKind.i64.wrap ((IntKind.u64.wrap (IntKind.i64.wrap ((↑i : Int) + (↑j : Int)))).fdiv 2))).cmd.val), A.d (D.str (at_ l (IntKind.i64.wrap ((IntKind.u64.wrap (IntKind.i64.wrap ((↑i : Int) + (↑j : Int)))).fdiv 2))).cmd.old), A.d (D.int IntKind.i64 (at_ l (IntKind.i64.wrap ((IntKind.u64.wrap (IntKind.i64.wrap ((↑i : Int) + (↑j : Int)))).fdiv 2))).cmd.node)], A.d (D.int IntKind.i64 t)] [] (A.d (D.int IntKind.i64 (cmpI (at_ l (IntKind.i64.wrap ((IntKind.u64.wrap (IntKind.i64.wrap ((↑i : Int) + (↑j : Int)))).fdiv 2))).index t))) [] (.q (decide (cmpI (at_ l (IntKind.i64.wrap ((IntKind.u64.wrap (IntKind.i64.wrap ((↑i : Int) + (↑j : Int)))).fdiv 2))).index t < 0)) (.ret (Ex.normal, true, ⟨mkEnv 49 [(0, A.d (D.slice n 10 (List.map dEnt l))), (1, A.d (D.int IntKind.i64 t)), (2, A.d (D.func 115)), (8, A.d (D.int IntKind.i64 (↑(List.map dEnt l).length : Int))), (9, A.d (D.int IntKind.i64 (IntKind.i64.wrap (IntKind.i64.wrap ((IntKind.u64.wrap (IntKind.i64.wrap ((↑i : Int) + (↑j : Int)))).fdiv 2) + 1)))), (10, A.d (D.int IntKind.i64 (↑j : Int)))], []⟩)) (.ret (Ex.normal, true, ⟨mkEnv 49 [(0, A.d (D.slice n 10 (List.map dEnt l))), (1, A.d (D.int IntKind.i64 t)), (2, A.d (D.func 115)), (8, A.d (D.int IntKind.i64 (↑(List.map dEnt l).length : Int))), (9, A.d (D.int IntKind.i64 (↑i : Int))), (10, A.d (D.int IntKind.i64 (IntKind.i64.wrap ((IntKind.u64.wrap (IntKind.i64.wrap ((↑i : Int) + (↑j : Int)))).fdiv 2))))], []⟩)))))) (.ret (Ex.exit 0, true, ⟨mkEnv 49 [(0, A.d (D.slice n 10 (List.map dEnt l))), (1, A.d (D.int IntKind.i64 t)), (2, A.d (D.func 115)), (8, A.d (D.int IntKind.i64 (↑(List.map dEnt l).length : Int))), (9, A.d (D.int IntKind.i64 (↑i : Int))), (10, A.d (D.int IntKind.i64 (↑j : Int)))], []⟩))) (by kernel_rfl) (Go.Ab.vc_q (fun h0 => Go.Ab.vc_chk (by exact rfl) (Go.Ab.vc_opt (by (have q := dlt h0; rw [half (by omega)]; exact getC_at (fun _ => rfl) (by omega) (by omega))) (Go.Ab.vc_call (c_entry_place_1 (at_ l (IntKind.i64.wrap ((IntKind.u64.wrap (IntKind.i64.wrap ((↑i : Int) + (↑j : Int)))).fdiv 2))) t) (Go.Ab.vc_q (fun h1 => Go.Ab.vc_next ?_) (fun h1 => Go.Ab.vc_next ?_))))) (fun h0 => Go.Ab.vc_exit ?x7))
  case x7 => (obtain ⟨q1, q2⟩ := bs_end hi (dnlt h0); subst q1; subst q2; exact ⟨rfl, rfl⟩)
  all_goals ((have q := dlt h0; have e := half (i := i) (j := j) (by omega); rw [e] at h1 ⊢; first | (obtain ⟨q1, q2⟩ := bs_lo hr hi q (of_decide_eq_true h1); exact ⟨_, q2, _, _, rfl, q1, by rw [wS _ (by omega)]⟩) | (obtain ⟨q1, q2⟩ := bs_hi hi q (of_decide_eq_false h1); exact ⟨_, q2, _, _, rfl, q1, rfl⟩)))
theorem c_bs {w0 : World} (n : Bool) (l : List Ent) (t : Int) (hr : Rise l) (hz : l.length ≤ 1000000000) : AEv Tryd.prog w0 114 [.d (.slice n 10 (eR l)), .d (.int .i64 t), .d (.func 115)] [] (.tup [.d (.int .i64 (lb l t : Nat)), .d (.bool (isAt l t))]) [] := by
  refine aev_of_run hmix Tryd.func114 [] 1 ?_
  refine Go.Ab.wp_fn (.loop (nthLoop f114 0) l_bs_W true ⟨mkEnv 49 [(0, A.d (D.slice n 10 (List.map dEnt l))), (1, A.d (D.int IntKind.i64 t)), (2, A.d (D.func 115)), (8, A.d (D.int IntKind.i64 (↑(List.map dEnt l).length : Int))), (9, A.d (D.int IntKind.i64 0)), (10, A.d (D.int IntKind.i64 (↑(List.map dEnt l).length : Int)))], []⟩ (Ex.exit 0) { env := mkEnv 49 [(0, A.d (D.slice n 10 (eR l))), (1, A.d (D.int IntKind.i64 t)), (2, A.d (D.func 115)), (8, A.d (D.int IntKind.i64 (↑(eR l).length : Int))), (9, A.d (D.int IntKind.i64 (↑(lb l t) : Int))), (10, A.d (D.int IntKind.i64 (↑(lb l t) : Int)))], heap := [] } (.q (decide ((↑(lb l t) : Int) < (↑(List.map dEnt l).length : Int))) (.qs [true, true, true] (.opt (getC 10 (List.map dEnt l) (↑(lb l t) : Int)) (dEnt (at_ l (↑(lb l t) : Int))) (.qs [true, true, true] (.call 115 [A.agg [A.d (D.int IntKind.i64 (at_ l (↑(lb l t) : Int)).index), A.d (D.int IntKind.i64 (at_ l (↑(lb l t) : Int)).round), A.d (D.int IntKind.i64 (at_ l (↑(lb l t) : Int)).node), A.d (D.int IntKind.i64 (at_ l (↑(lb l t) : Int)).cmd.kind), A.d (D.int IntKind.i64 (at_ l (↑(lb l t) : Int)).cmd.client), A.d (D.int IntKind.i64 (at_ l (↑(lb l t) : Int)).cmd.seq), A.d (D.str (at_ l (↑(lb l t) : Int)).cmd.key), A.d (D.str (at_ l (↑(lb l t) : Int)).cmd.val), A.d (D.str (at_ l (↑(lb l t) : Int)).cmd.old), A.d (D.int IntKind.i64 (at_ l (↑(lb l t) : Int)).cmd.node)], A.d (D.int IntKind.i64 t)] [] (A.d (D.int IntKind.i64 (cmpI (at_ l (↑(lb l t) : Int)).index t))) [] (.qs [true] (.ret (A.tup [A.d (D.int IntKind.i64 (↑(lb l t) : Int)), A.d (D.bool (cmpI (at_ l (↑(lb l t) : Int)).index t == 0))], []))))))) (.qs [false, false, false, false, false, false, false] (.ret (A.tup [A.d (D.int IntKind.i64 (↑(lb l t) : Int)), A.d (D.bool false)], []))))) (by kernel_rfl) (Go.Ab.vc_loop rfl (l_bs n l t (by first | assumption | exact ⟨Nat.zero_le _, (by simpa using lb_le l t), (by simp)⟩) (by first | assumption | exact ⟨Nat.zero_le _, (by simpa using lb_le l t), (by simp)⟩) 0 (List.map dEnt l).length (by first | assumption | exact ⟨Nat.zero_le _, (by simpa using lb_le l t), (by simp)⟩)) (Go.Ab.vc_q (fun h0 => Go.Ab.vc_qs (Go.Ab.vc_opt (by refine Go.Ab.getC_at (fun _ => rfl) ?_ ?_ <;> (try simp only [decide_eq_true_eq, decide_eq_false_iff_not, List.length_map] at *) <;> omega) (Go.Ab.vc_qs (Go.Ab.vc_call (c_entry_place_1 (at_ l (↑(lb l t) : Int)) t) (Go.Ab.vc_qs (Go.Ab.vc_ret ?_)))))) (fun h0 => Go.Ab.vc_qs (Go.Ab.vc_ret ?_))))
  all_goals (first | rw [isAt_yes h0] | rw [isAt_no h0])
theorem c_entry_place {w0 : World} (n : Bool) (l : List Ent) (t : Int) (hr : Rise l) (hz : l.length ≤ 1000000000) : AEv Tryd.prog w0 76 [.d (.slice n 10 (eR l)), .d (.int .i64 t)] [] (.tup [.d (.int .i64 (lb l t : Nat)), .d (.bool (isAt l t))]) [] := by
  refine aev_of_run hmix Tryd.func76 [] 1 ?_
  refine Go.Ab.wp_fn (.call 114 [A.d (D.slice n 10 (List.map dEnt l)), A.d (D.int IntKind.i64 t), A.d (D.func 115)] [] (A.tup [A.d (D.int IntKind.i64 (↑(lb l t) : Int)), A.d (D.bool (isAt l t))]) [] (.ret (A.tup [A.d (D.int IntKind.i64 (↑(lb l t) : Int)), A.d (D.bool (isAt l t))], []))) (by kernel_rfl) (Go.Ab.vc_call (c_bs n l t (by first | assumption | exact rfl) (by first | assumption | exact rfl)) (Go.Ab.vc_ret ?_))
  all_goals (rfl)
theorem c_CloneE {w0 : World} (n : Bool) (xs : List (List D)) (hn : n = true → xs = []) (hz : xs.length ≤ 2000000000) : AEv Tryd.prog w0 77 [.d (.slice n 10 xs)] [] (.d (.slice n 10 xs)) [] := by
  refine aev_of_run_n hmix Tryd.func77 [] 1 ?_
  refine Go.Ab.wp_fn (.q (n) (.ret (A.d (D.slice true 0 []), [])) (.chk (decide (0 + xs.length ≤ 68719476736)) (.ret (A.d (D.slice false 10 xs), [])))) (by kernel_rfl) (Go.Ab.vc_q (fun h0 => Go.Ab.vc_ret ?_) (fun h0 => Go.Ab.vc_chk (by simp; omega) (Go.Ab.vc_ret ?_)))
  all_goals (have hn' := hn; cases n <;> simp_all [Eqv, A.nrm, D.nrm, D.nrmR])
theorem c_CloneOE {w0 : World} (n : Bool) (xs : List (List D)) (hn : n = true → xs = []) (hz : xs.length ≤ 2000000000) : AEv Tryd.prog w0 77 [.d (.slice n 10 xs)] [] (.own 0) [.row n 36 10 xs] := by
  refine aev_of_run_w hmix Tryd.func77 [] 0 ?_
  refine Go.Ab.wp_fn (.q (n) (.ret (A.d (D.slice true 0 []), [])) (.chk (decide (0 + xs.length ≤ 68719476736)) (.ret (A.own 0, [Ob.row false 36 10 xs])))) (by kernel_rfl) (Go.Ab.vc_q (fun h0 => Go.Ab.vc_ret ?_) (fun h0 => Go.Ab.vc_chk (by simp; omega) (Go.Ab.vc_ret ?_)))
  all_goals (first | (obtain rfl := hn ‹_›; subst_vars; exact leaf_virt (Nat.le_refl _)) | (subst_vars; exact leaf_same rfl))
theorem c_entry_Find {w0 : World} (n : Bool) (l : List Ent) (t : Int) (hr : Rise l) (hz : l.length ≤ 1000000000) : AEv Tryd.prog w0 24 [.d (.slice n 10 (eR l)), .d (.int .i64 t)] [] (.tup [.agg (eEnt (findE l t)), .d (.bool (isAt l t))]) [] := by
  refine aev_of_run hmix Tryd.func24 [] 1 ?_
  refine Go.Ab.wp_fn (.call 76 [A.d (D.slice n 10 (List.map dEnt l)), A.d (D.int IntKind.i64 t)] [] (A.tup [A.d (D.int IntKind.i64 (↑(lb l t) : Int)), A.d (D.bool (isAt l t))]) [] (.q (!isAt l t) (.ret (A.tup [A.agg [A.d (D.int IntKind.i64 0), A.d (D.int IntKind.i64 0), A.d (D.int IntKind.i64 0), A.d (D.int IntKind.i64 0), A.d (D.int IntKind.i64 0), A.d (D.int IntKind.i64 0), A.d (D.str { data := #[] }), A.d (D.str { data := #[] }), A.d (D.str { data := #[] }), A.d (D.int IntKind.i64 0)], A.d (D.bool false)], [])) (.opt (getC 10 (List.map dEnt l) (↑(lb l t) : Int)) (dEnt (at_ l (↑(lb l t) : Int))) (.ret (A.tup [A.agg [A.d (D.int IntKind.i64 (at_ l (↑(lb l t) : Int)).index), A.d (D.int IntKind.i64 (at_ l (↑(lb l t) : Int)).round), A.d (D.int IntKind.i64 (at_ l (↑(lb l t) : Int)).node), A.d (D.int IntKind.i64 (at_ l (↑(lb l t) : Int)).cmd.kind), A.d (D.int IntKind.i64 (at_ l (↑(lb l t) : Int)).cmd.client), A.d (D.int IntKind.i64 (at_ l (↑(lb l t) : Int)).cmd.seq), A.d (D.str (at_ l (↑(lb l t) : Int)).cmd.key), A.d (D.str (at_ l (↑(lb l t) : Int)).cmd.val), A.d (D.str (at_ l (↑(lb l t) : Int)).cmd.old), A.d (D.int IntKind.i64 (at_ l (↑(lb l t) : Int)).cmd.node)], A.d (D.bool true)], []))))) (by kernel_rfl) (Go.Ab.vc_call (c_entry_place n l t (by first | assumption | exact rfl) (by first | assumption | exact rfl)) (Go.Ab.vc_q (fun h0 => Go.Ab.vc_ret ?_) (fun h0 => Go.Ab.vc_opt (by (have q : isAt l t = true := (by simpa using h0); have := isAt_lt q; exact getC_at (fun _ => rfl) (by omega) (by omega))) (Go.Ab.vc_ret ?_))))
  all_goals (first | (have q : isAt l t = false := (by simpa using h0); rw [q, find_no q]; rfl) | (have q : isAt l t = true := (by simpa using h0); rw [q, find_yes q]))
theorem c_entry_With {w0 : World} (n : Bool) (l : List Ent) (e : Ent) (hn : n = true → l = []) (hr : Rise l) (hz : l.length ≤ 1000000000) : AEv Tryd.prog w0 26 [.d (.slice n 10 (eR l)), .agg (eEnt e)] [] (.d (.slice false 10 (eR (insE l e)))) [] := by
  refine aev_of_run hmix Tryd.func26 [78] 1 ?_
  refine Go.Ab.wp_fn (.call 76 [A.d (D.slice n 10 (List.map dEnt l)), A.d (D.int IntKind.i64 e.index)] [] (A.tup [A.d (D.int IntKind.i64 (↑(lb l e.index) : Int)), A.d (D.bool (isAt l e.index))]) [] (.call 77 [A.d (D.slice n 10 (List.map dEnt l))] [] (A.own 0) [Ob.row n 36 10 (List.map dEnt l)] (.q (isAt l e.index) (.chk (decide (0 ≤ (↑(lb l e.index) : Int) ∧ (↑(lb l e.index) : Int) < (↑(List.map dEnt l).length : Int))) (.opt (getC 10 (List.map dEnt l) (↑(↑(lb l e.index) : Int).toNat : Int)) (dEnt (at_ l (↑(↑(lb l e.index) : Int).toNat : Int))) (.ret (A.d (D.slice (n && ((List.map dEnt l).set (↑(lb l e.index) : Int).toNat [D.int IntKind.i64 e.index, D.int IntKind.i64 e.round, D.int IntKind.i64 e.node, D.int IntKind.i64 e.cmd.kind, D.int IntKind.i64 e.cmd.client, D.int IntKind.i64 e.cmd.seq, D.str e.cmd.key, D.str e.cmd.val, D.str e.cmd.old, D.int IntKind.i64 e.cmd.node]).isEmpty) 10 ((List.map dEnt l).set (↑(lb l e.index) : Int).toNat [D.int IntKind.i64 e.index, D.int IntKind.i64 e.round, D.int IntKind.i64 e.node, D.int IntKind.i64 e.cmd.kind, D.int IntKind.i64 e.cmd.client, D.int IntKind.i64 e.cmd.seq, D.str e.cmd.key, D.str e.cmd.val, D.str e.cmd.old, D.int IntKind.i64 e.cmd.node])), [])))) (.call 78 [A.own 0, A.d (D.int IntKind.i64 (↑(lb l e.index) : Int)), A.own 1] [Ob.row n 36 10 (List.map dEnt l), Ob.row false 36 10 [[D.int IntKind.i64 e.index, D.int IntKind.i64 e.round, D.int IntKind.i64 e.node, D.int IntKind.i64 e.cmd.kind, D.int IntKind.i64 e.cmd.client, D.int IntKind.i64 e.cmd.seq, D.str e.cmd.key, D.str e.cmd.val, D.str e.cmd.old, D.int IntKind.i64 e.cmd.node]]] (A.own 2) [Ob.dead, Ob.row false 36 10 [[D.int IntKind.i64 e.index, D.int IntKind.i64 e.round, D.int IntKind.i64 e.node, D.int IntKind.i64 e.cmd.kind, D.int IntKind.i64 e.cmd.client, D.int IntKind.i64 e.cmd.seq, D.str e.cmd.key, D.str e.cmd.val, D.str e.cmd.old, D.int IntKind.i64 e.cmd.node]], Ob.row n 36 10 (List.take (lb l e.index) (List.map dEnt l) ++ [D.int IntKind.i64 e.index, D.int IntKind.i64 e.round, D.int IntKind.i64 e.node, D.int IntKind.i64 e.cmd.kind, D.int IntKind.i64 e.cmd.client, D.int IntKind.i64 e.cmd.seq, D.str e.cmd.key, D.str e.cmd.val, D.str e.cmd.old, D.int IntKind.i64 e.cmd.node] :: List.drop (lb l e.index) (List.map dEnt l))] (.ret (A.d (D.slice (n && (List.take (lb l e.index) (List.map dEnt l) ++ [D.int IntKind.i64 e.index, D.int IntKind.i64 e.round, D.int IntKind.i64 e.node, D.int IntKind.i64 e.cmd.kind, D.int IntKind.i64 e.cmd.client, D.int IntKind.i64 e.cmd.seq, D.str e.cmd.key, D.str e.cmd.val, D.str e.cmd.old, D.int IntKind.i64 e.cmd.node] :: List.drop (lb l e.index) (List.map dEnt l)).isEmpty) 10 (List.take (lb l e.index) (List.map dEnt l) ++ [D.int IntKind.i64 e.index, D.int IntKind.i64 e.round, D.int IntKind.i64 e.node, D.int IntKind.i64 e.cmd.kind, D.int IntKind.i64 e.cmd.client, D.int IntKind.i64 e.cmd.seq, D.str e.cmd.key, D.str e.cmd.val, D.str e.cmd.old, D.int IntKind.i64 e.cmd.node] :: List.drop (lb l e.index) (List.map dEnt l))), [])))))) (by kernel_rfl) (Go.Ab.vc_call (c_entry_place n l e.index (by first | assumption | (intro h; simp [hn h]; done) | (simp; omega) | (simp; exact lb_le _ _)) (by first | assumption | (intro h; simp [hn h]; done) | (simp; omega) | (simp; exact lb_le _ _))) (Go.Ab.vc_call (c_CloneOE n (List.map dEnt l) (by first | assumption | (intro h; simp [hn h]; done) | (simp; omega) | (simp; exact lb_le _ _)) (by first | assumption | (intro h; simp [hn h]; done) | (simp; omega) | (simp; exact lb_le _ _))) (Go.Ab.vc_q (fun h0 => Go.Ab.vc_chk (by (have := isAt_lt h0; simp; omega)) (Go.Ab.vc_opt (by (have := isAt_lt h0; exact getC_at (fun _ => rfl) (by omega) (by simp; omega))) (Go.Ab.vc_ret ?_))) (fun h0 => Go.Ab.vc_call (c_insert n false (List.map dEnt l) [D.int IntKind.i64 e.index, D.int IntKind.i64 e.round, D.int IntKind.i64 e.node, D.int IntKind.i64 e.cmd.kind, D.int IntKind.i64 e.cmd.client, D.int IntKind.i64 e.cmd.seq, D.str e.cmd.key, D.str e.cmd.val, D.str e.cmd.old, D.int IntKind.i64 e.cmd.node] (lb l e.index) (by first | assumption | (intro h; simp [hn h]; done) | (simp; omega) | (simp; exact lb_le _ _)) (by first | assumption | (intro h; simp [hn h]; done) | (simp; omega) | (simp; exact lb_le _ _))) (Go.Ab.vc_ret ?_)))))
  all_goals (first | exact with_yes hn h0 | exact with_no h0)
theorem c_entry_From {w0 : World} (n : Bool) (l : List Ent) (t : Int) (hn : n = true → l = []) (hr : Rise l) (hz : l.length ≤ 1000000000) : AEv Tryd.prog w0 29 [.d (.slice n 10 (eR l)), .d (.int .i64 t)] [] (.d (.slice n 10 (eR (fromE l t)))) [] := by
  refine aev_of_run hmix Tryd.func29 [] 1 ?_
  refine Go.Ab.wp_fn (.call 76 [A.d (D.slice n 10 (List.map dEnt l)), A.d (D.int IntKind.i64 t)] [] (A.tup [A.d (D.int IntKind.i64 (↑(lb l t) : Int)), A.d (D.bool (isAt l t))]) [] (.chk (decide (0 ≤ (↑(lb l t) : Int) ∧ (↑(lb l t) : Int) ≤ (↑(List.map dEnt l).length : Int) ∧ (↑(List.map dEnt l).length : Int) ≤ (↑(List.map dEnt l).length : Int))) (.call 77 [A.d (D.slice n 10 (List.drop (↑(lb l t) : Int).toNat (List.take (↑(List.map dEnt l).length : Int).toNat (List.map dEnt l))))] [] (A.d (D.slice n 10 (List.drop (↑(lb l t) : Int).toNat (List.take (↑(List.map dEnt l).length : Int).toNat (List.map dEnt l))))) [] (.ret (A.d (D.slice n 10 (List.drop (↑(lb l t) : Int).toNat (List.take (↑(List.map dEnt l).length : Int).toNat (List.map dEnt l)))), []))))) (by kernel_rfl) (Go.Ab.vc_call (c_entry_place n l t (by first | assumption | (intro h; simp [hn h]; done) | (simp; omega)) (by first | assumption | (intro h; simp [hn h]; done) | (simp; omega))) (Go.Ab.vc_chk (by (have := lb_le l t; simp; omega)) (Go.Ab.vc_call (c_CloneE n (List.drop (↑(lb l t) : Int).toNat (List.take (↑(List.map dEnt l).length : Int).toNat (List.map dEnt l))) (by first | assumption | (intro h; simp [hn h]; done) | (simp; omega)) (by first | assumption | (intro h; simp [hn h]; done) | (simp; omega))) (Go.Ab.vc_ret ?_))))
  all_goals ((rw [Int.toNat_natCast, Int.toNat_natCast, List.take_length]; simp [fromE, List.map_drop]))
theorem c_entry_Until {w0 : World} (n : Bool) (l : List Ent) (t : Int) (hn : n = true → l = []) (hr : Rise l) (hz : l.length ≤ 1000000000) : AEv Tryd.prog w0 31 [.d (.slice n 10 (eR l)), .d (.int .i64 t)] [] (.d (.slice n 10 (eR (untilE l t)))) [] := by
  refine aev_of_run hmix Tryd.func31 [] 1 ?_
  refine Go.Ab.wp_fn (.call 76 [A.d (D.slice n 10 (List.map dEnt l)), A.d (D.int IntKind.i64 t)] [] (A.tup [A.d (D.int IntKind.i64 (↑(lb l t) : Int)), A.d (D.bool (isAt l t))]) [] (.q (isAt l t) (.chk (decide ((0 : Int) ≤ 0 ∧ 0 ≤ IntKind.i64.wrap ((↑(lb l t) : Int) + 1) ∧ IntKind.i64.wrap ((↑(lb l t) : Int) + 1) ≤ (↑(List.map dEnt l).length : Int))) (.call 77 [A.d (D.slice n 10 (List.drop 0 (List.take (IntKind.i64.wrap ((↑(lb l t) : Int) + 1)).toNat (List.map dEnt l))))] [] (A.d (D.slice n 10 (List.drop 0 (List.take (IntKind.i64.wrap ((↑(lb l t) : Int) + 1)).toNat (List.map dEnt l))))) [] (.ret (A.d (D.slice n 10 (List.drop 0 (List.take (IntKind.i64.wrap ((↑(lb l t) : Int) + 1)).toNat (List.map dEnt l)))), [])))) (.chk (decide ((0 : Int) ≤ 0 ∧ 0 ≤ (↑(lb l t) : Int) ∧ (↑(lb l t) : Int) ≤ (↑(List.map dEnt l).length : Int))) (.call 77 [A.d (D.slice n 10 (List.drop 0 (List.take (↑(lb l t) : Int).toNat (List.map dEnt l))))] [] (A.d (D.slice n 10 (List.drop 0 (List.take (↑(lb l t) : Int).toNat (List.map dEnt l))))) [] (.ret (A.d (D.slice n 10 (List.drop 0 (List.take (↑(lb l t) : Int).toNat (List.map dEnt l)))), [])))))) (by kernel_rfl) (Go.Ab.vc_call (c_entry_place n l t (by first | assumption | (intro h; simp [hn h]; done) | (simp; omega)) (by first | assumption | (intro h; simp [hn h]; done) | (simp; omega))) (Go.Ab.vc_q (fun h0 => Go.Ab.vc_chk (by first | (have q := isAt_lt h0; rw [wS _ (by omega)]; simp; omega) | (have := lb_le l t; simp; omega)) (Go.Ab.vc_call (c_CloneE n (List.drop 0 (List.take (IntKind.i64.wrap ((↑(lb l t) : Int) + 1)).toNat (List.map dEnt l))) (by first | assumption | (intro h; simp [hn h]; done) | (simp; omega)) (by first | assumption | (intro h; simp [hn h]; done) | (simp; omega))) (Go.Ab.vc_ret ?_))) (fun h0 => Go.Ab.vc_chk (by first | (have q := isAt_lt h0; rw [wS _ (by omega)]; simp; omega) | (have := lb_le l t; simp; omega)) (Go.Ab.vc_call (c_CloneE n (List.drop 0 (List.take (↑(lb l t) : Int).toNat (List.map dEnt l))) (by first | assumption | (intro h; simp [hn h]; done) | (simp; omega)) (by first | assumption | (intro h; simp [hn h]; done) | (simp; omega))) (Go.Ab.vc_ret ?_)))))
  all_goals (first | (have q := isAt_lt h0; rw [wS _ (by omega)]; simp [untilE, h0, List.map_take]; done) | simp [untilE, h0, List.map_take])
end Go.Proofs.Tryd
set_option maxRecDepth 100000
set_option maxHeartbeats 4000000
set_option linter.unusedVariables false
set_option linter.unusedSimpArgs false
namespace Go.Proofs.Tryd
open Go Go.Ab Go.Pl Go.RowKit Go.Proofs.YtmecehpkjffanaaDoor
attribute [local irreducible] Go.Ab.wp Go.Ab.vc Go.Ab.run Go.Ab.runFn Go.Ab.body1 Go.Ab.Tr.qt Go.Ab.Tr.qf Go.Ab.AEv
/-! Small ones. -/
theorem c_ref16_HasBallot {w0 : World} (k : Int) : AEv Tryd.prog w0 70 [.d (.int .i64 k)] [] (.d (.bool (hasBal k))) [] := by
  refine aev_of_run hmix Tryd.func70 [] 1 ?_
  refine Go.Ab.wp_fn (.q (k == 1) (.qs [true] (.ret (A.d (D.bool true), []))) (.qs [false] (.ret (A.d (D.bool (k == 2)), [])))) (by kernel_rfl) (Go.Ab.vc_q (fun h0 => Go.Ab.vc_qs (Go.Ab.vc_ret ?_)) (fun h0 => Go.Ab.vc_qs (Go.Ab.vc_ret ?_)))
  all_goals (first | (simp_all [hasBal]; done) | (simp_all [hasBal] <;> grind) | grind [hasBal])
theorem c_ref16_HasIndex {w0 : World} (k : Int) : AEv Tryd.prog w0 72 [.d (.int .i64 k)] [] (.d (.bool (hasInd k))) [] := by
  refine aev_of_run hmix Tryd.func72 [] 1 ?_
  refine Go.Ab.wp_fn (.q (k == 2) (.qs [true, true, true] (.ret (A.d (D.bool true), []))) (.qs [false] (.q (k == 3) (.qs [true] (.ret (A.d (D.bool true), []))) (.qs [false] (.ret (A.d (D.bool (k == 4)), [])))))) (by kernel_rfl) (Go.Ab.vc_q (fun h0 => Go.Ab.vc_qs (Go.Ab.vc_ret ?_)) (fun h0 => Go.Ab.vc_qs (Go.Ab.vc_q (fun h1 => Go.Ab.vc_qs (Go.Ab.vc_ret ?_)) (fun h1 => Go.Ab.vc_qs (Go.Ab.vc_ret ?_)))))
  all_goals (first | (simp_all [hasInd]; done) | (simp_all [hasInd] <;> grind) | grind [hasInd])
theorem c_ref16_HasCmd {w0 : World} (k : Int) : AEv Tryd.prog w0 73 [.d (.int .i64 k)] [] (.d (.bool (hasCmd k))) [] := by
  refine aev_of_run hmix Tryd.func73 [] 1 ?_
  refine Go.Ab.wp_fn (.q (k == 2) (.qs [true] (.ret (A.d (D.bool true), []))) (.qs [false] (.ret (A.d (D.bool (k == 3)), [])))) (by kernel_rfl) (Go.Ab.vc_q (fun h0 => Go.Ab.vc_qs (Go.Ab.vc_ret ?_)) (fun h0 => Go.Ab.vc_qs (Go.Ab.vc_ret ?_)))
  all_goals (first | (simp_all [hasCmd]; done) | (simp_all [hasCmd] <;> grind) | grind [hasCmd])
theorem c_ref08_Owned {w0 : World} (k : Int) : AEv Tryd.prog w0 110 [.d (.int .i64 k)] [] (.d (.bool (owned k))) [] := by
  refine aev_of_run hmix Tryd.func110 [] 1 ?_
  refine Go.Ab.wp_fn (.q (decide (k ≥ 2)) (.qs [true] (.ret (A.d (D.bool (decide (k ≤ 5))), []))) (.qs [false] (.ret (A.d (D.bool false), [])))) (by kernel_rfl) (Go.Ab.vc_q (fun h0 => Go.Ab.vc_qs (Go.Ab.vc_ret ?_)) (fun h0 => Go.Ab.vc_qs (Go.Ab.vc_ret ?_)))
  all_goals (first | (simp_all [owned]; done) | (simp_all [owned] <;> grind) | grind [owned])
theorem c_ref08_member {w0 : World} (k : Int) : AEv Tryd.prog w0 111 [.d (.int .i64 k)] [] (.d (.bool (member k))) [] := by
  refine aev_of_run hmix Tryd.func111 [] 1 ?_
  refine Go.Ab.wp_fn (.q (k == 7) (.qs [true] (.ret (A.d (D.bool true), []))) (.qs [false] (.ret (A.d (D.bool (k == 8)), [])))) (by kernel_rfl) (Go.Ab.vc_q (fun h0 => Go.Ab.vc_qs (Go.Ab.vc_ret ?_)) (fun h0 => Go.Ab.vc_qs (Go.Ab.vc_ret ?_)))
  all_goals (first | (simp_all [member]; done) | (simp_all [member] <;> grind) | grind [member])
theorem c_ref10_May {w0 : World} (r n : Int) : AEv Tryd.prog w0 71 [.agg [.d (.int .i64 r), .d (.int .i64 n)]] [] (.d (.bool (mayB r n))) [] := by
  refine aev_of_run hmix Tryd.func71 [] 1 ?_
  refine Go.Ab.wp_fn (.q (r == 0) (.qs [true, true] (.q (n == 0) (.ret (A.d (D.bool true), [])) (.q (decide (r ≥ 1)) (.qs [true, true] (.q (decide (r ≤ 4294967296)) (.qs [true, true] (.q (decide (n ≥ 1)) (.qs [true, true] (.ret (A.d (D.bool (decide (n ≤ 9))), []))) (.qs [false, false] (.ret (A.d (D.bool false), []))))) (.qs [false, false, false, false, false] (.ret (A.d (D.bool false), []))))) (.qs [false, false, false, false, false, false, false, false] (.ret (A.d (D.bool false), [])))))) (.qs [false, false, false] (.q (decide (r ≥ 1)) (.qs [true, true] (.q (decide (r ≤ 4294967296)) (.qs [true, true] (.q (decide (n ≥ 1)) (.qs [true, true] (.ret (A.d (D.bool (decide (n ≤ 9))), []))) (.qs [false, false] (.ret (A.d (D.bool false), []))))) (.qs [false, false, false, false, false] (.ret (A.d (D.bool false), []))))) (.qs [false, false, false, false, false, false, false, false] (.ret (A.d (D.bool false), [])))))) (by kernel_rfl) (Go.Ab.vc_q (fun h0 => Go.Ab.vc_qs (Go.Ab.vc_q (fun h1 => Go.Ab.vc_ret ?_) (fun h1 => Go.Ab.vc_q (fun h2 => Go.Ab.vc_qs (Go.Ab.vc_q (fun h3 => Go.Ab.vc_qs (Go.Ab.vc_q (fun h4 => Go.Ab.vc_qs (Go.Ab.vc_ret ?_)) (fun h4 => Go.Ab.vc_qs (Go.Ab.vc_ret ?_)))) (fun h3 => Go.Ab.vc_qs (Go.Ab.vc_ret ?_)))) (fun h2 => Go.Ab.vc_qs (Go.Ab.vc_ret ?_))))) (fun h0 => Go.Ab.vc_qs (Go.Ab.vc_q (fun h1 => Go.Ab.vc_qs (Go.Ab.vc_q (fun h2 => Go.Ab.vc_qs (Go.Ab.vc_q (fun h3 => Go.Ab.vc_qs (Go.Ab.vc_ret ?_)) (fun h3 => Go.Ab.vc_qs (Go.Ab.vc_ret ?_)))) (fun h2 => Go.Ab.vc_qs (Go.Ab.vc_ret ?_)))) (fun h1 => Go.Ab.vc_qs (Go.Ab.vc_ret ?_)))))
  all_goals (first | (simp_all [mayB]; done) | (simp_all [mayB] <;> grind) | grind [mayB])
theorem c_ballot_node {w0 : World} (n : Int) : AEv Tryd.prog w0 146 [.d (.int .i64 n)] [] (.d (.bool (decide (1 ≤ n) && decide (n ≤ 9)))) [] := by
  refine aev_of_run hmix Tryd.func146 [] 1 ?_
  refine Go.Ab.wp_fn (.q (decide (n ≥ 1)) (.qs [true] (.ret (A.d (D.bool (decide (n ≤ 9))), []))) (.qs [false] (.ret (A.d (D.bool false), [])))) (by kernel_rfl) (Go.Ab.vc_q (fun h0 => Go.Ab.vc_qs (Go.Ab.vc_ret ?_)) (fun h0 => Go.Ab.vc_qs (Go.Ab.vc_ret ?_)))
  all_goals (first | (simp_all []; done) | (simp_all [] <;> grind) | grind [])
theorem c_ballot_May {w0 : World} (r n : Int) : AEv Tryd.prog w0 102 [.agg [.d (.int .i64 r), .d (.int .i64 n)]] [] (.d (.bool (mayB r n))) [] := by
  refine aev_of_run hmix Tryd.func102 [] 1 ?_
  refine Go.Ab.wp_fn (.q (r == 0 && (n == 0 && true)) (.qs [true, true, true, true, true, true] (.ret (A.d (D.bool true), []))) (.qs [false, false, false] (.q (decide (r ≥ 1)) (.qs [true, true, false, false] (.q (decide (r ≤ 4294967296)) (.qs [true, true] (.call 146 [A.d (D.int IntKind.i64 n)] [] (A.d (D.bool (decide (1 ≤ n) && decide (n ≤ 9)))) [] (.qs [false] (.ret (A.d (D.bool (decide (1 ≤ n) && decide (n ≤ 9))), []))))) (.qs [false, false, false] (.ret (A.d (D.bool false), []))))) (.qs [false, false, false, false, false, false, false, false] (.ret (A.d (D.bool false), [])))))) (by kernel_rfl) (Go.Ab.vc_q (fun h0 => Go.Ab.vc_qs (Go.Ab.vc_ret ?_)) (fun h0 => Go.Ab.vc_qs (Go.Ab.vc_q (fun h1 => Go.Ab.vc_qs (Go.Ab.vc_q (fun h2 => Go.Ab.vc_qs (Go.Ab.vc_call (c_ballot_node n) (Go.Ab.vc_qs (Go.Ab.vc_ret ?_)))) (fun h2 => Go.Ab.vc_qs (Go.Ab.vc_ret ?_)))) (fun h1 => Go.Ab.vc_qs (Go.Ab.vc_ret ?_)))))
  all_goals (first | (simp_all [mayB]; done) | (simp_all [mayB] <;> grind) | grind [mayB])
theorem c_recone_fields {w0 : World} (k : Int) : AEv Tryd.prog w0 66 [.d (.int .i64 k)] [] (.tup [.agg [.d (.bool (hasBal k)), .d (.bool (hasInd k)), .d (.bool (hasCmd k)), .d (.bool (k == 4))], .d (.bool (hasBal k || hasInd k))]) [] := by
  refine aev_of_run hmix Tryd.func66 [] 1 ?_
  refine Go.Ab.wp_fn (.q (k == 2) (.ret (A.tup [A.agg [A.d (D.bool true), A.d (D.bool true), A.d (D.bool true), A.d (D.bool false)], A.d (D.bool true)], [])) (.q (k == 3) (.ret (A.tup [A.agg [A.d (D.bool false), A.d (D.bool true), A.d (D.bool true), A.d (D.bool false)], A.d (D.bool true)], [])) (.q (k == 1) (.ret (A.tup [A.agg [A.d (D.bool true), A.d (D.bool false), A.d (D.bool false), A.d (D.bool false)], A.d (D.bool true)], [])) (.q (k == 4) (.ret (A.tup [A.agg [A.d (D.bool false), A.d (D.bool true), A.d (D.bool false), A.d (D.bool true)], A.d (D.bool true)], [])) (.ret (A.tup [A.agg [A.d (D.bool false), A.d (D.bool false), A.d (D.bool false), A.d (D.bool false)], A.d (D.bool false)], [])))))) (by kernel_rfl) (Go.Ab.vc_q (fun h0 => Go.Ab.vc_ret ?_) (fun h0 => Go.Ab.vc_q (fun h1 => Go.Ab.vc_ret ?_) (fun h1 => Go.Ab.vc_q (fun h2 => Go.Ab.vc_ret ?_) (fun h2 => Go.Ab.vc_q (fun h3 => Go.Ab.vc_ret ?_) (fun h3 => Go.Ab.vc_ret ?_)))))
  all_goals (first | (simp_all [hasBal, hasInd, hasCmd]; done) | (simp_all [hasBal, hasInd, hasCmd] <;> grind) | grind [hasBal, hasInd, hasCmd])
theorem c_cmd_fields {w0 : World} (k : Int) : AEv Tryd.prog w0 106 [.d (.int .i64 k)] [] (.tup [.d (.int .i64 (mask k)), .d (.bool (isKind k))]) [] := by
  refine aev_of_run hmix Tryd.func106 [] 1 ?_
  refine Go.Ab.wp_fn (.q (k == 1) (.q (k == 1) (.ret (A.tup [A.d (D.int IntKind.i64 0), A.d (D.bool true)], [])) .stop) (.q (k == 6) (.ret (A.tup [A.d (D.int IntKind.i64 0), A.d (D.bool true)], [])) (.q (k == 2) (.ret (A.tup [A.d (D.int IntKind.i64 11), A.d (D.bool true)], [])) (.q (k == 3) (.q (k == 3) (.ret (A.tup [A.d (D.int IntKind.i64 3), A.d (D.bool true)], [])) .stop) (.q (k == 4) (.ret (A.tup [A.d (D.int IntKind.i64 3), A.d (D.bool true)], [])) (.q (k == 5) (.ret (A.tup [A.d (D.int IntKind.i64 15), A.d (D.bool true)], [])) (.q (k == 7) (.q (k == 7) (.ret (A.tup [A.d (D.int IntKind.i64 16), A.d (D.bool true)], [])) .stop) (.q (k == 8) (.ret (A.tup [A.d (D.int IntKind.i64 16), A.d (D.bool true)], [])) (.ret (A.tup [A.d (D.int IntKind.i64 0), A.d (D.bool false)], [])))))))))) (by kernel_rfl) (Go.Ab.vc_q (fun h0 => Go.Ab.vc_q (fun _ => Go.Ab.vc_ret ?_) (fun hp => absurd hp (by intro hp; exact (by simp_all : False)))) (fun h0 => Go.Ab.vc_q (fun h1 => Go.Ab.vc_ret ?_) (fun h1 => Go.Ab.vc_q (fun h2 => Go.Ab.vc_ret ?_) (fun h2 => Go.Ab.vc_q (fun h3 => Go.Ab.vc_q (fun _ => Go.Ab.vc_ret ?_) (fun hp => absurd hp (by intro hp; exact (by simp_all : False)))) (fun h3 => Go.Ab.vc_q (fun h4 => Go.Ab.vc_ret ?_) (fun h4 => Go.Ab.vc_q (fun h5 => Go.Ab.vc_ret ?_) (fun h5 => Go.Ab.vc_q (fun h6 => Go.Ab.vc_q (fun _ => Go.Ab.vc_ret ?_) (fun hp => absurd hp (by intro hp; exact (by simp_all : False)))) (fun h6 => Go.Ab.vc_q (fun h7 => Go.Ab.vc_ret ?_) (fun h7 => Go.Ab.vc_ret ?_)))))))))
  all_goals (first | (simp_all [mask, isKind]; done) | (simp_all [mask, isKind] <;> grind) | grind [mask, isKind])
theorem c_ref07_Has {w0 : World} (v k : Int) : AEv Tryd.prog w0 83 [.d (.int .i64 v), .d (.int .i64 k)] [] (.d (.bool (verHas v k))) [] := by
  refine aev_of_run hmix Tryd.func83 [] 1 ?_
  refine Go.Ab.wp_fn (.q (decide (k < 1)) (.qs [true, true] (.ret (A.d (D.bool false), []))) (.qs [false] (.q (decide (k > 8)) (.ret (A.d (D.bool false), [])) (.q (v == 2) (.qs [true, true, true] (.ret (A.d (D.bool true), []))) (.qs [false, false] (.q (v == 1) (.qs [true, false] (.ret (A.d (D.bool (k != 5)), []))) (.qs [false, false] (.ret (A.d (D.bool false), []))))))))) (by kernel_rfl) (Go.Ab.vc_q (fun h0 => Go.Ab.vc_qs (Go.Ab.vc_ret ?_)) (fun h0 => Go.Ab.vc_qs (Go.Ab.vc_q (fun h1 => Go.Ab.vc_ret ?_) (fun h1 => Go.Ab.vc_q (fun h2 => Go.Ab.vc_qs (Go.Ab.vc_ret ?_)) (fun h2 => Go.Ab.vc_qs (Go.Ab.vc_q (fun h3 => Go.Ab.vc_qs (Go.Ab.vc_ret ?_)) (fun h3 => Go.Ab.vc_qs (Go.Ab.vc_ret ?_))))))))
  all_goals (first | (simp_all [verHas, isKind]; done) | (simp_all [verHas, isKind] <;> grind) | grind [verHas, isKind])
theorem c_vers_May {w0 : World} (v : Int) : AEv Tryd.prog w0 98 [.d (.int .i64 v)] [] (.d (.bool (verMay v))) [] := by
  refine aev_of_run hmix Tryd.func98 [] 1 ?_
  refine Go.Ab.wp_fn (.q (v == 1) (.ret (A.d (D.bool true), [])) (.q (v == 2) (.ret (A.d (D.bool true), [])) (.ret (A.d (D.bool false), [])))) (by kernel_rfl) (Go.Ab.vc_q (fun h0 => Go.Ab.vc_ret ?_) (fun h0 => Go.Ab.vc_q (fun h1 => Go.Ab.vc_ret ?_) (fun h1 => Go.Ab.vc_ret ?_)))
  all_goals (first | (simp_all [verMay]; done) | (simp_all [verMay] <;> grind) | grind [verMay])
theorem c_vers_Has {w0 : World} (v k : Int) : AEv Tryd.prog w0 82 [.d (.int .i64 v), .d (.int .i64 k)] [] (.d (.bool (verHas v k))) [] := by
  refine aev_of_run hmix Tryd.func82 [] 1 ?_
  refine Go.Ab.wp_fn (.call 98 [A.d (D.int IntKind.i64 v)] [] (A.d (D.bool (verMay v))) [] (.q (!verMay v) (.ret (A.d (D.bool false), [])) (.q (k == 1) (.q (k == 1) (.ret (A.d (D.bool true), [])) .stop) (.q (k == 2) (.q (k == 2) (.ret (A.d (D.bool true), [])) .stop) (.q (k == 3) (.q (k == 3) (.ret (A.d (D.bool true), [])) .stop) (.q (k == 4) (.q (k == 4) (.ret (A.d (D.bool true), [])) .stop) (.q (k == 6) (.q (k == 6) (.ret (A.d (D.bool true), [])) .stop) (.q (k == 7) (.q (k == 7) (.ret (A.d (D.bool true), [])) .stop) (.q (k == 8) (.ret (A.d (D.bool true), [])) (.q (k == 5) (.ret (A.d (D.bool (decide (v ≥ 2))), [])) (.ret (A.d (D.bool false), [])))))))))))) (by kernel_rfl) (Go.Ab.vc_call (c_vers_May v) (Go.Ab.vc_q (fun h0 => Go.Ab.vc_ret ?_) (fun h0 => Go.Ab.vc_q (fun h1 => Go.Ab.vc_q (fun _ => Go.Ab.vc_ret ?_) (fun hp => absurd hp (by intro hp; exact (by simp_all : False)))) (fun h1 => Go.Ab.vc_q (fun h2 => Go.Ab.vc_q (fun _ => Go.Ab.vc_ret ?_) (fun hp => absurd hp (by intro hp; exact (by simp_all : False)))) (fun h2 => Go.Ab.vc_q (fun h3 => Go.Ab.vc_q (fun _ => Go.Ab.vc_ret ?_) (fun hp => absurd hp (by intro hp; exact (by simp_all : False)))) (fun h3 => Go.Ab.vc_q (fun h4 => Go.Ab.vc_q (fun _ => Go.Ab.vc_ret ?_) (fun hp => absurd hp (by intro hp; exact (by simp_all : False)))) (fun h4 => Go.Ab.vc_q (fun h5 => Go.Ab.vc_q (fun _ => Go.Ab.vc_ret ?_) (fun hp => absurd hp (by intro hp; exact (by simp_all : False)))) (fun h5 => Go.Ab.vc_q (fun h6 => Go.Ab.vc_q (fun _ => Go.Ab.vc_ret ?_) (fun hp => absurd hp (by intro hp; exact (by simp_all : False)))) (fun h6 => Go.Ab.vc_q (fun h7 => Go.Ab.vc_ret ?_) (fun h7 => Go.Ab.vc_q (fun h8 => Go.Ab.vc_ret ?_) (fun h8 => Go.Ab.vc_ret ?_)))))))))))
  all_goals (first | (simp_all [verHas, verMay, isKind]; done) | (simp_all [verHas, verMay, isKind] <;> grind) | grind [verHas, verMay, isKind])
theorem c_runes_Plain {w0 : World} (r : Int) : AEv Tryd.prog w0 169 [.d (.int .i32 r)] [] (.d (.bool (plainR r))) [] := by
  refine aev_of_run hmix Tryd.func169 [] 1 ?_
  refine Go.Ab.wp_fn (.q (decide (r ≥ 97)) (.qs [true] (.q (decide (r ≤ 122)) (.q (decide (r ≤ 122)) (.ret (A.d (D.bool true), [])) .stop) (.q (decide (r ≥ 65)) (.qs [true] (.q (decide (r ≤ 90)) (.q (decide (r ≤ 90)) (.ret (A.d (D.bool true), [])) .stop) (.q (decide (r ≥ 48)) (.qs [true] (.q (decide (r ≤ 57)) (.ret (A.d (D.bool true), [])) (.q (r == 45) (.q (r == 45) (.ret (A.d (D.bool true), [])) .stop) (.q (r == 95) (.q (r == 95) (.ret (A.d (D.bool true), [])) .stop) (.q (r == 46) (.q (r == 46) (.ret (A.d (D.bool true), [])) .stop) (.q (r == 58) (.ret (A.d (D.bool true), [])) (.q (decide (r ≥ 161)) (.qs [true] (.ret (A.d (D.bool (r != 65533)), []))) (.qs [false] (.ret (A.d (D.bool false), [])))))))))) (.qs [false, false] (.q (r == 45) (.q (r == 45) (.ret (A.d (D.bool true), [])) .stop) (.q (r == 95) (.q (r == 95) (.ret (A.d (D.bool true), [])) .stop) (.q (r == 46) (.q (r == 46) (.ret (A.d (D.bool true), [])) .stop) (.q (r == 58) (.ret (A.d (D.bool true), [])) (.q (decide (r ≥ 161)) (.qs [true] (.ret (A.d (D.bool (r != 65533)), []))) (.qs [false] (.ret (A.d (D.bool false), [])))))))))))) (.qs [false, false] (.q (decide (r ≥ 48)) (.qs [true] (.q (decide (r ≤ 57)) (.ret (A.d (D.bool true), [])) (.q (r == 45) (.q (r == 45) (.ret (A.d (D.bool true), [])) .stop) (.q (r == 95) (.q (r == 95) (.ret (A.d (D.bool true), [])) .stop) (.q (r == 46) (.q (r == 46) (.ret (A.d (D.bool true), [])) .stop) (.q (r == 58) (.ret (A.d (D.bool true), [])) (.q (decide (r ≥ 161)) (.qs [true] (.ret (A.d (D.bool (r != 65533)), []))) (.qs [false] (.ret (A.d (D.bool false), [])))))))))) (.qs [false, false] (.q (r == 45) (.q (r == 45) (.ret (A.d (D.bool true), [])) .stop) (.q (r == 95) (.q (r == 95) (.ret (A.d (D.bool true), [])) .stop) (.q (r == 46) (.q (r == 46) (.ret (A.d (D.bool true), [])) .stop) (.q (r == 58) (.ret (A.d (D.bool true), [])) (.q (decide (r ≥ 161)) (.qs [true] (.ret (A.d (D.bool (r != 65533)), []))) (.qs [false] (.ret (A.d (D.bool false), [])))))))))))))) (.qs [false, false] (.q (decide (r ≥ 65)) (.qs [true] (.q (decide (r ≤ 90)) (.q (decide (r ≤ 90)) (.ret (A.d (D.bool true), [])) .stop) (.q (decide (r ≥ 48)) (.qs [true] (.q (decide (r ≤ 57)) (.ret (A.d (D.bool true), [])) (.q (r == 45) (.q (r == 45) (.ret (A.d (D.bool true), [])) .stop) (.q (r == 95) (.q (r == 95) (.ret (A.d (D.bool true), [])) .stop) (.q (r == 46) (.q (r == 46) (.ret (A.d (D.bool true), [])) .stop) (.q (r == 58) (.ret (A.d (D.bool true), [])) (.q (decide (r ≥ 161)) (.qs [true] (.ret (A.d (D.bool (r != 65533)), []))) (.qs [false] (.ret (A.d (D.bool false), [])))))))))) (.qs [false, false] (.q (r == 45) (.q (r == 45) (.ret (A.d (D.bool true), [])) .stop) (.q (r == 95) (.q (r == 95) (.ret (A.d (D.bool true), [])) .stop) (.q (r == 46) (.q (r == 46) (.ret (A.d (D.bool true), [])) .stop) (.q (r == 58) (.ret (A.d (D.bool true), [])) (.q (decide (r ≥ 161)) (.qs [true] (.ret (A.d (D.bool (r != 65533)), []))) (.qs [false] (.ret (A.d (D.bool false), [])))))))))))) (.qs [false, false] (.q (decide (r ≥ 48)) (.qs [true] (.q (decide (r ≤ 57)) (.ret (A.d (D.bool true), [])) (.q (r == 45) (.q (r == 45) (.ret (A.d (D.bool true), [])) .stop) (.q (r == 95) (.q (r == 95) (.ret (A.d (D.bool true), [])) .stop) (.q (r == 46) (.q (r == 46) (.ret (A.d (D.bool true), [])) .stop) (.q (r == 58) (.ret (A.d (D.bool true), [])) (.q (decide (r ≥ 161)) (.qs [true] (.ret (A.d (D.bool (r != 65533)), []))) (.qs [false] (.ret (A.d (D.bool false), [])))))))))) (.qs [false, false] (.q (r == 45) (.q (r == 45) (.ret (A.d (D.bool true), [])) .stop) (.q (r == 95) (.q (r == 95) (.ret (A.d (D.bool true), [])) .stop) (.q (r == 46) (.q (r == 46) (.ret (A.d (D.bool true), [])) .stop) (.q (r == 58) (.ret (A.d (D.bool true), [])) (.q (decide (r ≥ 161)) (.qs [true] (.ret (A.d (D.bool (r != 65533)), []))) (.qs [false] (.ret (A.d (D.bool false), [])))))))))))))) (by kernel_rfl) (Go.Ab.vc_q (fun h0 => Go.Ab.vc_qs (Go.Ab.vc_q (fun h1 => Go.Ab.vc_q (fun _ => Go.Ab.vc_ret ?_) (fun hp => absurd hp (by intro hp; exact (by simp_all : False)))) (fun h1 => Go.Ab.vc_q (fun h2 => Go.Ab.vc_qs (Go.Ab.vc_q (fun h3 => Go.Ab.vc_q (fun _ => Go.Ab.vc_ret ?_) (fun hp => absurd hp (by intro hp; exact (by simp_all : False)))) (fun h3 => Go.Ab.vc_q (fun h4 => Go.Ab.vc_qs (Go.Ab.vc_q (fun h5 => Go.Ab.vc_ret ?_) (fun h5 => Go.Ab.vc_q (fun h6 => Go.Ab.vc_q (fun _ => Go.Ab.vc_ret ?_) (fun hp => absurd hp (by intro hp; exact (by simp_all : False)))) (fun h6 => Go.Ab.vc_q (fun h7 => Go.Ab.vc_q (fun _ => Go.Ab.vc_ret ?_) (fun hp => absurd hp (by intro hp; exact (by simp_all : False)))) (fun h7 => Go.Ab.vc_q (fun h8 => Go.Ab.vc_q (fun _ => Go.Ab.vc_ret ?_) (fun hp => absurd hp (by intro hp; exact (by simp_all : False)))) (fun h8 => Go.Ab.vc_q (fun h9 => Go.Ab.vc_ret ?_) (fun h9 => Go.Ab.vc_q (fun h10 => Go.Ab.vc_qs (Go.Ab.vc_ret ?_)) (fun h10 => Go.Ab.vc_qs (Go.Ab.vc_ret ?_))))))))) (fun h4 => Go.Ab.vc_qs (Go.Ab.vc_q (fun h5 => Go.Ab.vc_q (fun _ => Go.Ab.vc_ret ?_) (fun hp => absurd hp (by intro hp; exact (by simp_all : False)))) (fun h5 => Go.Ab.vc_q (fun h6 => Go.Ab.vc_q (fun _ => Go.Ab.vc_ret ?_) (fun hp => absurd hp (by intro hp; exact (by simp_all : False)))) (fun h6 => Go.Ab.vc_q (fun h7 => Go.Ab.vc_q (fun _ => Go.Ab.vc_ret ?_) (fun hp => absurd hp (by intro hp; exact (by simp_all : False)))) (fun h7 => Go.Ab.vc_q (fun h8 => Go.Ab.vc_ret ?_) (fun h8 => Go.Ab.vc_q (fun h9 => Go.Ab.vc_qs (Go.Ab.vc_ret ?_)) (fun h9 => Go.Ab.vc_qs (Go.Ab.vc_ret ?_))))))))))) (fun h2 => Go.Ab.vc_qs (Go.Ab.vc_q (fun h3 => Go.Ab.vc_qs (Go.Ab.vc_q (fun h4 => Go.Ab.vc_ret ?_) (fun h4 => Go.Ab.vc_q (fun h5 => Go.Ab.vc_q (fun _ => Go.Ab.vc_ret ?_) (fun hp => absurd hp (by intro hp; exact (by simp_all : False)))) (fun h5 => Go.Ab.vc_q (fun h6 => Go.Ab.vc_q (fun _ => Go.Ab.vc_ret ?_) (fun hp => absurd hp (by intro hp; exact (by simp_all : False)))) (fun h6 => Go.Ab.vc_q (fun h7 => Go.Ab.vc_q (fun _ => Go.Ab.vc_ret ?_) (fun hp => absurd hp (by intro hp; exact (by simp_all : False)))) (fun h7 => Go.Ab.vc_q (fun h8 => Go.Ab.vc_ret ?_) (fun h8 => Go.Ab.vc_q (fun h9 => Go.Ab.vc_qs (Go.Ab.vc_ret ?_)) (fun h9 => Go.Ab.vc_qs (Go.Ab.vc_ret ?_))))))))) (fun h3 => Go.Ab.vc_qs (Go.Ab.vc_q (fun h4 => Go.Ab.vc_q (fun _ => Go.Ab.vc_ret ?_) (fun hp => absurd hp (by intro hp; exact (by simp_all : False)))) (fun h4 => Go.Ab.vc_q (fun h5 => Go.Ab.vc_q (fun _ => Go.Ab.vc_ret ?_) (fun hp => absurd hp (by intro hp; exact (by simp_all : False)))) (fun h5 => Go.Ab.vc_q (fun h6 => Go.Ab.vc_q (fun _ => Go.Ab.vc_ret ?_) (fun hp => absurd hp (by intro hp; exact (by simp_all : False)))) (fun h6 => Go.Ab.vc_q (fun h7 => Go.Ab.vc_ret ?_) (fun h7 => Go.Ab.vc_q (fun h8 => Go.Ab.vc_qs (Go.Ab.vc_ret ?_)) (fun h8 => Go.Ab.vc_qs (Go.Ab.vc_ret ?_))))))))))))) (fun h0 => Go.Ab.vc_qs (Go.Ab.vc_q (fun h1 => Go.Ab.vc_qs (Go.Ab.vc_q (fun h2 => Go.Ab.vc_q (fun _ => Go.Ab.vc_ret ?_) (fun hp => absurd hp (by intro hp; exact (by simp_all : False)))) (fun h2 => Go.Ab.vc_q (fun h3 => Go.Ab.vc_qs (Go.Ab.vc_q (fun h4 => Go.Ab.vc_ret ?_) (fun h4 => Go.Ab.vc_q (fun h5 => Go.Ab.vc_q (fun _ => Go.Ab.vc_ret ?_) (fun hp => absurd hp (by intro hp; exact (by simp_all : False)))) (fun h5 => Go.Ab.vc_q (fun h6 => Go.Ab.vc_q (fun _ => Go.Ab.vc_ret ?_) (fun hp => absurd hp (by intro hp; exact (by simp_all : False)))) (fun h6 => Go.Ab.vc_q (fun h7 => Go.Ab.vc_q (fun _ => Go.Ab.vc_ret ?_) (fun hp => absurd hp (by intro hp; exact (by simp_all : False)))) (fun h7 => Go.Ab.vc_q (fun h8 => Go.Ab.vc_ret ?_) (fun h8 => Go.Ab.vc_q (fun h9 => Go.Ab.vc_qs (Go.Ab.vc_ret ?_)) (fun h9 => Go.Ab.vc_qs (Go.Ab.vc_ret ?_))))))))) (fun h3 => Go.Ab.vc_qs (Go.Ab.vc_q (fun h4 => Go.Ab.vc_q (fun _ => Go.Ab.vc_ret ?_) (fun hp => absurd hp (by intro hp; exact (by simp_all : False)))) (fun h4 => Go.Ab.vc_q (fun h5 => Go.Ab.vc_q (fun _ => Go.Ab.vc_ret ?_) (fun hp => absurd hp (by intro hp; exact (by simp_all : False)))) (fun h5 => Go.Ab.vc_q (fun h6 => Go.Ab.vc_q (fun _ => Go.Ab.vc_ret ?_) (fun hp => absurd hp (by intro hp; exact (by simp_all : False)))) (fun h6 => Go.Ab.vc_q (fun h7 => Go.Ab.vc_ret ?_) (fun h7 => Go.Ab.vc_q (fun h8 => Go.Ab.vc_qs (Go.Ab.vc_ret ?_)) (fun h8 => Go.Ab.vc_qs (Go.Ab.vc_ret ?_))))))))))) (fun h1 => Go.Ab.vc_qs (Go.Ab.vc_q (fun h2 => Go.Ab.vc_qs (Go.Ab.vc_q (fun h3 => Go.Ab.vc_ret ?_) (fun h3 => Go.Ab.vc_q (fun h4 => Go.Ab.vc_q (fun _ => Go.Ab.vc_ret ?_) (fun hp => absurd hp (by intro hp; exact (by simp_all : False)))) (fun h4 => Go.Ab.vc_q (fun h5 => Go.Ab.vc_q (fun _ => Go.Ab.vc_ret ?_) (fun hp => absurd hp (by intro hp; exact (by simp_all : False)))) (fun h5 => Go.Ab.vc_q (fun h6 => Go.Ab.vc_q (fun _ => Go.Ab.vc_ret ?_) (fun hp => absurd hp (by intro hp; exact (by simp_all : False)))) (fun h6 => Go.Ab.vc_q (fun h7 => Go.Ab.vc_ret ?_) (fun h7 => Go.Ab.vc_q (fun h8 => Go.Ab.vc_qs (Go.Ab.vc_ret ?_)) (fun h8 => Go.Ab.vc_qs (Go.Ab.vc_ret ?_))))))))) (fun h2 => Go.Ab.vc_qs (Go.Ab.vc_q (fun h3 => Go.Ab.vc_q (fun _ => Go.Ab.vc_ret ?_) (fun hp => absurd hp (by intro hp; exact (by simp_all : False)))) (fun h3 => Go.Ab.vc_q (fun h4 => Go.Ab.vc_q (fun _ => Go.Ab.vc_ret ?_) (fun hp => absurd hp (by intro hp; exact (by simp_all : False)))) (fun h4 => Go.Ab.vc_q (fun h5 => Go.Ab.vc_q (fun _ => Go.Ab.vc_ret ?_) (fun hp => absurd hp (by intro hp; exact (by simp_all : False)))) (fun h5 => Go.Ab.vc_q (fun h6 => Go.Ab.vc_ret ?_) (fun h6 => Go.Ab.vc_q (fun h7 => Go.Ab.vc_qs (Go.Ab.vc_ret ?_)) (fun h7 => Go.Ab.vc_qs (Go.Ab.vc_ret ?_)))))))))))))
  all_goals (first | (simp_all [plainR]; done) | (simp_all [plainR] <;> grind) | grind [plainR])
theorem c_runes_Val_1 {w0 : World} (r : Int) : AEv Tryd.prog w0 170 [.d (.int .i32 r)] [] (.d (.bool (valR r))) [] := by
  refine aev_of_run hmix Tryd.func170 [] 1 ?_
  refine Go.Ab.wp_fn (.q (decide (r ≥ 32)) (.qs [true] (.ret (A.d (D.bool (r != 127)), []))) (.qs [false] (.ret (A.d (D.bool false), [])))) (by kernel_rfl) (Go.Ab.vc_q (fun h0 => Go.Ab.vc_qs (Go.Ab.vc_ret ?_)) (fun h0 => Go.Ab.vc_qs (Go.Ab.vc_ret ?_)))
  all_goals (first | (simp_all [valR]; done) | (simp_all [valR] <;> grind) | grind [valR])
theorem c_cmd_parts_1 {w0 : World} (c : Cmd) : AEv Tryd.prog w0 148 [.ptr 0 0] [.cells (eCmd c)] (.ifc 141 (.ptr 0 1)) [.cells (eCmd c)] := by
  refine aev_of_run hmix Tryd.func148 [] 1 ?_
  refine Go.Ab.wp_fn (.ret (A.ifc 141 (A.ptr 0 1), [Ob.cells [A.d (D.int IntKind.i64 c.kind), A.d (D.int IntKind.i64 c.client), A.d (D.int IntKind.i64 c.seq), A.d (D.str c.key), A.d (D.str c.val), A.d (D.str c.old), A.d (D.int IntKind.i64 c.node)]])) (by kernel_rfl) (Go.Ab.vc_ret ?_)
  all_goals (rfl)
theorem c_cmd_parts_2 {w0 : World} (c : Cmd) : AEv Tryd.prog w0 149 [.ptr 0 0] [.cells (eCmd c)] (.ifc 141 (.ptr 0 2)) [.cells (eCmd c)] := by
  refine aev_of_run hmix Tryd.func149 [] 1 ?_
  refine Go.Ab.wp_fn (.ret (A.ifc 141 (A.ptr 0 2), [Ob.cells [A.d (D.int IntKind.i64 c.kind), A.d (D.int IntKind.i64 c.client), A.d (D.int IntKind.i64 c.seq), A.d (D.str c.key), A.d (D.str c.val), A.d (D.str c.old), A.d (D.int IntKind.i64 c.node)]])) (by kernel_rfl) (Go.Ab.vc_ret ?_)
  all_goals (rfl)
theorem c_cmd_parts_3 {w0 : World} (c : Cmd) : AEv Tryd.prog w0 151 [.ptr 0 0] [.cells (eCmd c)] (.ifc 142 (.ptr 0 3)) [.cells (eCmd c)] := by
  refine aev_of_run hmix Tryd.func151 [] 1 ?_
  refine Go.Ab.wp_fn (.ret (A.ifc 142 (A.ptr 0 3), [Ob.cells [A.d (D.int IntKind.i64 c.kind), A.d (D.int IntKind.i64 c.client), A.d (D.int IntKind.i64 c.seq), A.d (D.str c.key), A.d (D.str c.val), A.d (D.str c.old), A.d (D.int IntKind.i64 c.node)]])) (by kernel_rfl) (Go.Ab.vc_ret ?_)
  all_goals (rfl)
theorem c_cmd_parts_4 {w0 : World} (c : Cmd) : AEv Tryd.prog w0 153 [.ptr 0 0] [.cells (eCmd c)] (.ifc 142 (.ptr 0 5)) [.cells (eCmd c)] := by
  refine aev_of_run hmix Tryd.func153 [] 1 ?_
  refine Go.Ab.wp_fn (.ret (A.ifc 142 (A.ptr 0 5), [Ob.cells [A.d (D.int IntKind.i64 c.kind), A.d (D.int IntKind.i64 c.client), A.d (D.int IntKind.i64 c.seq), A.d (D.str c.key), A.d (D.str c.val), A.d (D.str c.old), A.d (D.int IntKind.i64 c.node)]])) (by kernel_rfl) (Go.Ab.vc_ret ?_)
  all_goals (rfl)
theorem c_cmd_parts_5 {w0 : World} (c : Cmd) : AEv Tryd.prog w0 154 [.ptr 0 0] [.cells (eCmd c)] (.ifc 142 (.ptr 0 4)) [.cells (eCmd c)] := by
  refine aev_of_run hmix Tryd.func154 [] 1 ?_
  refine Go.Ab.wp_fn (.ret (A.ifc 142 (A.ptr 0 4), [Ob.cells [A.d (D.int IntKind.i64 c.kind), A.d (D.int IntKind.i64 c.client), A.d (D.int IntKind.i64 c.seq), A.d (D.str c.key), A.d (D.str c.val), A.d (D.str c.old), A.d (D.int IntKind.i64 c.node)]])) (by kernel_rfl) (Go.Ab.vc_ret ?_)
  all_goals (rfl)
theorem c_cmd_parts_6 {w0 : World} (c : Cmd) : AEv Tryd.prog w0 155 [.ptr 0 0] [.cells (eCmd c)] (.ifc 141 (.ptr 0 6)) [.cells (eCmd c)] := by
  refine aev_of_run hmix Tryd.func155 [] 1 ?_
  refine Go.Ab.wp_fn (.ret (A.ifc 141 (A.ptr 0 6), [Ob.cells [A.d (D.int IntKind.i64 c.kind), A.d (D.int IntKind.i64 c.client), A.d (D.int IntKind.i64 c.seq), A.d (D.str c.key), A.d (D.str c.val), A.d (D.str c.old), A.d (D.int IntKind.i64 c.node)]])) (by kernel_rfl) (Go.Ab.vc_ret ?_)
  all_goals (rfl)
abbrev partsL : List (List D) := [[.int .i64 1, .int .i64 8, .nilFunc, .func 148], [.int .i64 1, .int .i64 4294967296, .nilFunc, .func 149], [.int .i64 2, .int .i64 0, .func 150, .func 151], [.int .i64 4, .int .i64 0, .func 152, .func 153], [.int .i64 8, .int .i64 0, .func 152, .func 154], [.int .i64 16, .int .i64 9, .nilFunc, .func 155]]
theorem c_cmd_parts {w0 : World}  : AEv Tryd.prog w0 107 [] [] (.d (.slice false 4 partsL)) [] := by
  refine aev_of_run hmix Tryd.func107 [] 1 ?_
  refine Go.Ab.wp_fn (.ret (A.d (D.slice false 4 [[D.int IntKind.i64 1, D.int IntKind.i64 8, D.nilFunc, D.func 148], [D.int IntKind.i64 1, D.int IntKind.i64 4294967296, D.nilFunc, D.func 149], [D.int IntKind.i64 2, D.int IntKind.i64 0, D.func 150, D.func 151], [D.int IntKind.i64 4, D.int IntKind.i64 0, D.func 152, D.func 153], [D.int IntKind.i64 8, D.int IntKind.i64 0, D.func 152, D.func 154], [D.int IntKind.i64 16, D.int IntKind.i64 9, D.nilFunc, D.func 155]]), [])) (by kernel_rfl) (Go.Ab.vc_ret ?_)
  all_goals (rfl)
end Go.Proofs.Tryd
set_option maxRecDepth 100000
set_option maxHeartbeats 4000000
set_option linter.unusedVariables false
set_option linter.unusedSimpArgs false
namespace Go.Proofs.Tryd
open Go Go.Ab Go.Pl Go.RowKit Go.Proofs.YtmecehpkjffanaaDoor
attribute [local irreducible] Go.Ab.wp Go.Ab.vc Go.Ab.run Go.Ab.runFn Go.Ab.body1 Go.Ab.Tr.qt Go.Ab.Tr.qf Go.Ab.AEv
theorem get_extract (s : ByteArray) (p k : Nat) (hp : p ≤ s.size) (h : p + k < s.size) : (s.extract p s.size).get! k = s.get! (p + k) := by
  have h1 : k < (s.extract p s.size).size := by simp; omega
  rw [Utf8W.get!_of_lt _ _ h1, Utf8W.get!_of_lt _ _ h]
  simp [ByteArray.getElem_extract]
theorem decodeGo_extract (s : ByteArray) (p : Nat) (h : p < s.size) : Lib.decodeGo (s.extract p s.size) = Utf8.decode s p := by
  have hs : (s.extract p s.size).size = s.size - p := by simp
  unfold Lib.decodeGo
  rw [if_neg (by omega)]
  have e0 : (s.extract p s.size).get! 0 = s.get! (p + 0) := get_extract s p 0 (by omega) (by omega)
  have ek : ∀ k, p + k < s.size → (s.extract p s.size).get! k = s.get! (p + k) := fun k hk => get_extract s p k (by omega) hk
  unfold Utf8.decode
  simp only [Nat.zero_add, hs]
  have c : ∀ k, (decide (k < s.size - p) && ((s.extract p s.size).get! k).toNat / 64 == 2) = (decide (p + k < s.size) && (s.get! (p + k)).toNat / 64 == 2) := by
    intro k
    by_cases hk : p + k < s.size
    · rw [ek k hk]; simp [hk]; intro _; omega
    · have : ¬ k < s.size - p := by omega
      simp [hk, this]
  simp only [e0, c]
  by_cases h1 : p + 1 < s.size <;> by_cases h2 : p + 2 < s.size <;> by_cases h3 : p + 3 < s.size <;> simp_all
theorem next172 {s : ByteArray} {R : Int} {pos : Nat} (hi : badFrom s (s.size - pos) pos = R) (h0 : decide (pos < s.size) = true) (hb : bad s pos = false) : s.size - (pos + (Utf8.decode s pos).2) < s.size - pos ∧ badFrom s (s.size - (pos + (Utf8.decode s pos).2)) (pos + (Utf8.decode s pos).2) = R := by
  have h0 := of_decide_eq_true h0
  have := dec_width s pos
  rw [badFrom_step s pos h0, hb] at hi
  exact ⟨by omega, by simpa using hi⟩
theorem bad_no {s : ByteArray} {pos : Nat} (h : (((Utf8.decode s pos).1 : Int) != 65533) = true) : bad s pos = false := by
  unfold bad
  simp at h ⊢
  omega
theorem bad_is {s : ByteArray} {pos : Nat} (h0 : decide (pos < s.size) = true) (h : (((Utf8.decode s pos).1 : Int) != 65533) = false) : bad s pos = (((Lib.decodeGo (s.extract pos s.size)).2 : Int) == 1) := by
  rw [decodeGo_extract s pos (of_decide_eq_true h0)]
  unfold bad
  have : (Utf8.decode s pos).1 = 65533 := by simp at h; omega
  rw [this, Bool.eq_iff_iff]
  simp
  omega
def l_runes_Bad_0_W : List Nat := others 25 [0, 2, 8]
theorem l_runes_Bad_0 {w0 : World} (hL : Laid w0) (s : ByteArray) (R : Int) (pos : Nat) (hi : badFrom s (s.size - pos) pos = R) : ACode Tryd.prog w0 0 (.loop (nthLoop Tryd.f172 0)) (⟨mkEnv 25 [(0, .d (.str s)), (2, .d (.int .i64 0)), (8, .ptr 0 0)], [.iter s pos]⟩) (fun e s' => (∃ q, R = -1 ∧ e = .exit 0 ∧ s' = ⟨mkEnv 25 [(0, .d (.str s)), (2, .d (.int .i64 0)), (8, .ptr 0 0)], [.iter s q]⟩) ∨ (∃ p q : Nat, R = p ∧ e = .ret ∧ s' = ⟨mkEnv 25 [(0, .d (.str s)), (2, .d (.int .i64 p)), (8, .ptr 0 0)], [.iter s q]⟩)) := by
  refine Go.Ab.acode_loop (s1 := ⟨mkEnv 25 [(0, .d (.str s)), (2, .d (.int .i64 0)), (8, .ptr 0 0)], [.iter s pos]⟩) (n := s.size - pos) hmix [] (fun n st => ∃ (pos : Nat), n = s.size - pos ∧ (badFrom s (s.size - pos) pos = R) ∧ st = ⟨mkEnv 25 [(0, .d (.str s)), (2, .d (.int .i64 0)), (8, .ptr 0 0)], [.iter s pos]⟩) (Weak.refl _) ⟨pos, rfl, hi, rfl⟩ ?_
  clear hi
  rintro n st ⟨pos, rfl, hi, rfl⟩
  refine Go.Ab.wp_rd l_runes_Bad_0_W (.q (decide (pos < s.size)) (.qs [true] (.q ((↑(Utf8.decode s pos).fst : Int) != 65533) (.ret (Ex.normal, true, ⟨mkEnv 25 [(0, A.d (D.str s)), (2, A.d (D.int IntKind.i64 0)), (8, A.ptr 0 0)], [Ob.iter s (pos + (Utf8.decode s pos).snd)]⟩)) (.chk (decide (0 ≤ (↑pos : Int) ∧ (↑pos : Int) ≤ (↑s.size : Int) ∧ (↑s.size : Int) ≤ (↑s.size : Int))) (.call 173 [A.d (D.str (s.extract (↑pos : Int).toNat (↑s.size : Int).toNat))] [] (A.tup [A.d (D.int IntKind.i32 (↑(Lib.decodeGo (s.extract (↑pos : Int).toNat (↑s.size : Int).toNat)).fst : Int)), A.d (D.int IntKind.i64 (↑(Lib.decodeGo (s.extract (↑pos : Int).toNat (↑s.size : Int).toNat)).snd : Int))]) [] (.q ((↑(Lib.decodeGo (s.extract (↑pos : Int).toNat (↑s.size : Int).toNat)).snd : Int) == 1) (.ret (Ex.ret, true, ⟨mkEnv 25 [(0, A.d (D.str s)), (2, A.d (D.int IntKind.i64 (↑pos : Int))), (8, A.ptr 0 0)], [Ob.iter s (pos + (Utf8.decode s pos).snd)]⟩)) (.ret (Ex.normal, true, ⟨mkEnv 25 [(0, A.d (D.str s)), (2, A.d (D.int IntKind.i64 0)), (8, A.ptr 0 0)], [Ob.iter s (pos + (Utf8.decode s pos).snd)]⟩))))))) (.qs [false] (.ret (Ex.exit 0, true, ⟨mkEnv 25 [(0, A.d (D.str s)), (2, A.d (D.int IntKind.i64 0)), (8, A.ptr 0 0)], [Ob.iter s pos]⟩)))) (by kernel_rfl) (Go.Ab.vc_q (fun h0 => Go.Ab.vc_qs (Go.Ab.vc_q (fun h1 => Go.Ab.vc_next ?_) (fun h1 => Go.Ab.vc_chk (by (have := of_decide_eq_true h0; simp; omega)) (Go.Ab.vc_call (c173 (by assumption) (s.extract (↑pos : Int).toNat (↑s.size : Int).toNat)) (Go.Ab.vc_q (fun h2 => Go.Ab.vc_back ?x7) (fun h2 => Go.Ab.vc_next ?_)))))) (fun h0 => Go.Ab.vc_qs (Go.Ab.vc_exit ?x10)))
  case x7 | x10 => first | exact .inl ⟨_, by rw [← hi, badFrom_end _ _ _ (of_decide_eq_false h0)], rfl, rfl⟩ | exact .inr ⟨_, _, by rw [← hi, badFrom_step _ _ (of_decide_eq_true h0), (bad_is h0 h1).trans h2]; rfl, rfl, rfl⟩
  all_goals (first | exact ⟨_, (next172 hi h0 (bad_no h1)).1, _, rfl, (next172 hi h0 (bad_no h1)).2, rfl⟩ | exact ⟨_, (next172 hi h0 ((bad_is h0 h1).trans h2)).1, _, rfl, (next172 hi h0 ((bad_is h0 h1).trans h2)).2, rfl⟩)
theorem c_runes_Bad {w0 : World} (hL : Laid w0) (s : ByteArray) : AEv Tryd.prog w0 172 [.d (.str s)] [] (.d (.int .i64 (badAt s))) [] := by
  refine aev_of_run hmix Tryd.func172 [] 1 ?_
  refine Go.Ab.wp_fn (.stop) (by kernel_rfl) (Go.Ab.vc_stop ?s0)
  case s0 =>
    refine Go.Ab.wp_loop (by kernel_rfl) (by kernel_rfl) (Go.Ab.acode_tidy (W := l_runes_Bad_0_W) (by kernel_rfl) (by kernel_rfl) (l_runes_Bad_0 (by first | assumption | exact rfl) s _ 0 (by first | assumption | exact rfl))) ?_
    rintro e s' (⟨q, j1, rfl, rfl⟩ | ⟨p, q, j2, rfl, rfl⟩)
    · skip
      refine Go.Ab.wp_fn (.ret (A.d (D.int IntKind.i64 (-1)), [])) (by kernel_rfl) (Go.Ab.vc_ret ?_)
      all_goals (simp_all [badAt])
    · skip
      refine Go.Ab.wp_fn (.ret (A.d (D.int IntKind.i64 (↑p : Int)), [])) (by kernel_rfl) (Go.Ab.vc_ret ?_)
      all_goals (simp_all [badAt])
end Go.Proofs.Tryd
set_option maxRecDepth 100000
set_option maxHeartbeats 4000000
set_option linter.unusedVariables false
set_option linter.unusedSimpArgs false
namespace Go.Proofs.Tryd
open Go Go.Ab Go.Pl Go.RowKit Go.Proofs.YtmecehpkjffanaaDoor
attribute [local irreducible] Go.Ab.wp Go.Ab.vc Go.Ab.run Go.Ab.runFn Go.Ab.body1 Go.Ab.Tr.qt Go.Ab.Tr.qf Go.Ab.AEv
theorem next168 {q : Int → Bool} {s : ByteArray} {R : Bool} {pos : Nat} (hi : allFrom q s (s.size - pos) pos = R) (h0 : decide (pos < s.size) = true) (hb : (!q ((Utf8.decode s pos).1 : Nat)) = false) : s.size - (pos + (Utf8.decode s pos).2) < s.size - pos ∧ allFrom q s (s.size - (pos + (Utf8.decode s pos).2)) (pos + (Utf8.decode s pos).2) = R := by
  have h0 := of_decide_eq_true h0
  have := dec_width s pos
  have hb : q ((Utf8.decode s pos).1 : Nat) = true := by simpa using hb
  rw [allFrom_step q s pos h0, hb] at hi
  exact ⟨by omega, by simpa using hi⟩
theorem exit168 {q : Int → Bool} {s : ByteArray} {R : Bool} {pos : Nat} (hi : allFrom q s (s.size - pos) pos = R) (h0 : decide (pos < s.size) = true) (hb : (!q ((Utf8.decode s pos).1 : Nat)) = true) : R = false := by
  have h0 := of_decide_eq_true h0
  have hb : q ((Utf8.decode s pos).1 : Nat) = false := by simpa using hb
  rw [allFrom_step q s pos h0, hb] at hi
  simpa using hi.symm
def l_all_plain_W : List Nat := others 16 [0, 1, 4, 8]
theorem l_all_plain {w0 : World} (s : ByteArray) (R : Bool) (pos : Nat) (hi : allFrom plainR s (s.size - pos) pos = R) : ACode Tryd.prog w0 0 (.loop (nthLoop Tryd.f168 0)) (⟨mkEnv 16 [(0, .d (.str s)), (1, .d (.func 169)), (4, .d (.bool false)), (8, .ptr 0 0)], [.iter s pos]⟩) (fun e s' => (∃ q, R = true ∧ e = .exit 0 ∧ s' = ⟨mkEnv 16 [(0, .d (.str s)), (1, .d (.func 169)), (4, .d (.bool false)), (8, .ptr 0 0)], [.iter s q]⟩) ∨ (∃ q : Nat, R = false ∧ e = .ret ∧ s' = ⟨mkEnv 16 [(0, .d (.str s)), (1, .d (.func 169)), (4, .d (.bool false)), (8, .ptr 0 0)], [.iter s q]⟩)) := by
  refine Go.Ab.acode_loop (s1 := ⟨mkEnv 16 [(0, .d (.str s)), (1, .d (.func 169)), (4, .d (.bool false)), (8, .ptr 0 0)], [.iter s pos]⟩) (n := s.size - pos) hmix [] (fun n st => ∃ (pos : Nat), n = s.size - pos ∧ (allFrom plainR s (s.size - pos) pos = R) ∧ st = ⟨mkEnv 16 [(0, .d (.str s)), (1, .d (.func 169)), (4, .d (.bool false)), (8, .ptr 0 0)], [.iter s pos]⟩) (Weak.refl _) ⟨pos, rfl, hi, rfl⟩ ?_
  clear hi
  rintro n st ⟨pos, rfl, hi, rfl⟩
  refine Go.Ab.wp_rd l_all_plain_W (.q (decide (pos < s.size)) (.qs [true] (.call 169 [A.d (D.int IntKind.i32 (↑(Utf8.decode s pos).fst : Int))] [] (A.d (D.bool (plainR (↑(Utf8.decode s pos).fst : Int)))) [] (.q (!plainR (↑(Utf8.decode s pos).fst : Int)) (.ret (Ex.ret, true, ⟨mkEnv 16 [(0, A.d (D.str s)), (1, A.d (D.func 169)), (4, A.d (D.bool false)), (8, A.ptr 0 0)], [Ob.iter s (pos + (Utf8.decode s pos).snd)]⟩)) (.ret (Ex.normal, true, ⟨mkEnv 16 [(0, A.d (D.str s)), (1, A.d (D.func 169)), (4, A.d (D.bool false)), (8, A.ptr 0 0)], [Ob.iter s (pos + (Utf8.decode s pos).snd)]⟩))))) (.qs [false] (.ret (Ex.exit 0, true, ⟨mkEnv 16 [(0, A.d (D.str s)), (1, A.d (D.func 169)), (4, A.d (D.bool false)), (8, A.ptr 0 0)], [Ob.iter s pos]⟩)))) (by kernel_rfl) (Go.Ab.vc_q (fun h0 => Go.Ab.vc_qs (Go.Ab.vc_call (c_runes_Plain (↑(Utf8.decode s pos).fst : Int)) (Go.Ab.vc_q (fun h1 => Go.Ab.vc_back ?x4) (fun h1 => Go.Ab.vc_next ?_)))) (fun h0 => Go.Ab.vc_qs (Go.Ab.vc_exit ?x7)))
  case x4 | x7 => first | exact .inl ⟨_, by rw [← hi, allFrom_end _ _ _ _ (of_decide_eq_false h0)], rfl, rfl⟩ | exact .inr ⟨_, exit168 hi h0 h1, rfl, rfl⟩
  all_goals (exact ⟨_, (next168 hi h0 h1).1, _, rfl, (next168 hi h0 h1).2, rfl⟩)
def l_all_val_W : List Nat := others 16 [0, 1, 4, 8]
theorem l_all_val {w0 : World} (s : ByteArray) (R : Bool) (pos : Nat) (hi : allFrom valR s (s.size - pos) pos = R) : ACode Tryd.prog w0 0 (.loop (nthLoop Tryd.f168 0)) (⟨mkEnv 16 [(0, .d (.str s)), (1, .d (.func 170)), (4, .d (.bool false)), (8, .ptr 0 0)], [.iter s pos]⟩) (fun e s' => (∃ q, R = true ∧ e = .exit 0 ∧ s' = ⟨mkEnv 16 [(0, .d (.str s)), (1, .d (.func 170)), (4, .d (.bool false)), (8, .ptr 0 0)], [.iter s q]⟩) ∨ (∃ q : Nat, R = false ∧ e = .ret ∧ s' = ⟨mkEnv 16 [(0, .d (.str s)), (1, .d (.func 170)), (4, .d (.bool false)), (8, .ptr 0 0)], [.iter s q]⟩)) := by
  refine Go.Ab.acode_loop (s1 := ⟨mkEnv 16 [(0, .d (.str s)), (1, .d (.func 170)), (4, .d (.bool false)), (8, .ptr 0 0)], [.iter s pos]⟩) (n := s.size - pos) hmix [] (fun n st => ∃ (pos : Nat), n = s.size - pos ∧ (allFrom valR s (s.size - pos) pos = R) ∧ st = ⟨mkEnv 16 [(0, .d (.str s)), (1, .d (.func 170)), (4, .d (.bool false)), (8, .ptr 0 0)], [.iter s pos]⟩) (Weak.refl _) ⟨pos, rfl, hi, rfl⟩ ?_
  clear hi
  rintro n st ⟨pos, rfl, hi, rfl⟩
  refine Go.Ab.wp_rd l_all_val_W (.q (decide (pos < s.size)) (.qs [true] (.call 170 [A.d (D.int IntKind.i32 (↑(Utf8.decode s pos).fst : Int))] [] (A.d (D.bool (valR (↑(Utf8.decode s pos).fst : Int)))) [] (.q (!valR (↑(Utf8.decode s pos).fst : Int)) (.ret (Ex.ret, true, ⟨mkEnv 16 [(0, A.d (D.str s)), (1, A.d (D.func 170)), (4, A.d (D.bool false)), (8, A.ptr 0 0)], [Ob.iter s (pos + (Utf8.decode s pos).snd)]⟩)) (.ret (Ex.normal, true, ⟨mkEnv 16 [(0, A.d (D.str s)), (1, A.d (D.func 170)), (4, A.d (D.bool false)), (8, A.ptr 0 0)], [Ob.iter s (pos + (Utf8.decode s pos).snd)]⟩))))) (.qs [false] (.ret (Ex.exit 0, true, ⟨mkEnv 16 [(0, A.d (D.str s)), (1, A.d (D.func 170)), (4, A.d (D.bool false)), (8, A.ptr 0 0)], [Ob.iter s pos]⟩)))) (by kernel_rfl) (Go.Ab.vc_q (fun h0 => Go.Ab.vc_qs (Go.Ab.vc_call (c_runes_Val_1 (↑(Utf8.decode s pos).fst : Int)) (Go.Ab.vc_q (fun h1 => Go.Ab.vc_back ?x4) (fun h1 => Go.Ab.vc_next ?_)))) (fun h0 => Go.Ab.vc_qs (Go.Ab.vc_exit ?x7)))
  case x4 | x7 => first | exact .inl ⟨_, by rw [← hi, allFrom_end _ _ _ _ (of_decide_eq_false h0)], rfl, rfl⟩ | exact .inr ⟨_, exit168 hi h0 h1, rfl, rfl⟩
  all_goals (exact ⟨_, (next168 hi h0 h1).1, _, rfl, (next168 hi h0 h1).2, rfl⟩)
theorem c_all_plain {w0 : World} (s : ByteArray) : AEv Tryd.prog w0 168 [.d (.str s), .d (.func 169)] [] (.d (.bool (allR plainR s))) [] := by
  refine aev_of_run hmix Tryd.func168 [] 1 ?_
  refine Go.Ab.wp_fn (.stop) (by kernel_rfl) (Go.Ab.vc_stop ?s0)
  case s0 =>
    refine Go.Ab.wp_loop (by kernel_rfl) (by kernel_rfl) (Go.Ab.acode_tidy (W := l_all_plain_W) (by kernel_rfl) (by kernel_rfl) (l_all_plain s _ 0 (by first | assumption | exact rfl))) ?_
    rintro e s' (⟨q, j1, rfl, rfl⟩ | ⟨q, j1, rfl, rfl⟩)
    · skip
      refine Go.Ab.wp_fn (.ret (A.d (D.bool true), [])) (by kernel_rfl) (Go.Ab.vc_ret ?_)
      all_goals (simp_all [allR])
    · skip
      refine Go.Ab.wp_fn (.ret (A.d (D.bool false), [])) (by kernel_rfl) (Go.Ab.vc_ret ?_)
      all_goals (simp_all [allR])
theorem c_all_val {w0 : World} (s : ByteArray) : AEv Tryd.prog w0 168 [.d (.str s), .d (.func 170)] [] (.d (.bool (allR valR s))) [] := by
  refine aev_of_run hmix Tryd.func168 [] 1 ?_
  refine Go.Ab.wp_fn (.stop) (by kernel_rfl) (Go.Ab.vc_stop ?s0)
  case s0 =>
    refine Go.Ab.wp_loop (by kernel_rfl) (by kernel_rfl) (Go.Ab.acode_tidy (W := l_all_val_W) (by kernel_rfl) (by kernel_rfl) (l_all_val s _ 0 (by first | assumption | exact rfl))) ?_
    rintro e s' (⟨q, j1, rfl, rfl⟩ | ⟨q, j1, rfl, rfl⟩)
    · skip
      refine Go.Ab.wp_fn (.ret (A.d (D.bool true), [])) (by kernel_rfl) (Go.Ab.vc_ret ?_)
      all_goals (simp_all [allR])
    · skip
      refine Go.Ab.wp_fn (.ret (A.d (D.bool false), [])) (by kernel_rfl) (Go.Ab.vc_ret ?_)
      all_goals (simp_all [allR])
theorem c_runes_Whole {w0 : World} (hL : Laid w0) (s : ByteArray) : AEv Tryd.prog w0 167 [.d (.str s)] [] (.d (.bool (decide (badAt s < 0)))) [] := by
  refine aev_of_run hmix Tryd.func167 [] 1 ?_
  refine Go.Ab.wp_fn (.call 172 [A.d (D.str s)] [] (A.d (D.int IntKind.i64 (badAt s))) [] (.ret (A.d (D.bool (decide (badAt s < 0))), []))) (by kernel_rfl) (Go.Ab.vc_call (c_runes_Bad (by first | assumption | exact rfl) s) (Go.Ab.vc_ret ?_))
  all_goals (simp_all)
theorem toList_nil (s : ByteArray) : (s.toList == []) = !decide (1 ≤ s.size) := by
  rw [Lib.toList_data, Lib.size_eq]
  cases h : s.data.toList with
  | nil => rfl
  | cons a l => simp
theorem c_runes_Key {w0 : World} (hL : Laid w0) (s : ByteArray) : AEv Tryd.prog w0 150 [.d (.str s)] [] (.d (.bool (keyR s))) [] := by
  refine aev_of_run hmix Tryd.func150 [] 1 ?_
  refine Go.Ab.wp_fn (.q (!s.toList == []) (.qs [true, true] (.q (decide ((↑s.size : Int) ≤ 24)) (.qs [true] (.call 167 [A.d (D.str s)] [] (A.d (D.bool (decide (badAt s < 0)))) [] (.q (decide (badAt s < 0)) (.qs [true] (.call 168 [A.d (D.str s), A.d (D.func 169)] [] (A.d (D.bool (allR plainR s))) [] (.ret (A.d (D.bool (allR plainR s)), [])))) (.qs [false] (.ret (A.d (D.bool false), [])))))) (.qs [false, false, false] (.ret (A.d (D.bool false), []))))) (.qs [false, false, false, false, false, false] (.ret (A.d (D.bool false), [])))) (by kernel_rfl) (Go.Ab.vc_q (fun h0 => Go.Ab.vc_qs (Go.Ab.vc_q (fun h1 => Go.Ab.vc_qs (Go.Ab.vc_call (c_runes_Whole (by first | assumption | exact rfl) s) (Go.Ab.vc_q (fun h2 => Go.Ab.vc_qs (Go.Ab.vc_call (c_all_plain s) (Go.Ab.vc_ret ?_))) (fun h2 => Go.Ab.vc_qs (Go.Ab.vc_ret ?_))))) (fun h1 => Go.Ab.vc_qs (Go.Ab.vc_ret ?_)))) (fun h0 => Go.Ab.vc_qs (Go.Ab.vc_ret ?_)))
  all_goals (first | (simp_all [keyR, toList_nil]; done) | (simp_all [keyR, toList_nil] <;> grind) | grind [keyR, toList_nil])
theorem c_runes_Val {w0 : World} (hL : Laid w0) (s : ByteArray) : AEv Tryd.prog w0 152 [.d (.str s)] [] (.d (.bool (valT s))) [] := by
  refine aev_of_run hmix Tryd.func152 [] 1 ?_
  refine Go.Ab.wp_fn (.q (decide ((↑s.size : Int) ≤ 48)) (.qs [true] (.call 167 [A.d (D.str s)] [] (A.d (D.bool (decide (badAt s < 0)))) [] (.q (decide (badAt s < 0)) (.qs [true] (.call 168 [A.d (D.str s), A.d (D.func 170)] [] (A.d (D.bool (allR valR s))) [] (.ret (A.d (D.bool (allR valR s)), [])))) (.qs [false] (.ret (A.d (D.bool false), [])))))) (.qs [false, false, false] (.ret (A.d (D.bool false), [])))) (by kernel_rfl) (Go.Ab.vc_q (fun h0 => Go.Ab.vc_qs (Go.Ab.vc_call (c_runes_Whole (by first | assumption | exact rfl) s) (Go.Ab.vc_q (fun h1 => Go.Ab.vc_qs (Go.Ab.vc_call (c_all_val s) (Go.Ab.vc_ret ?_))) (fun h1 => Go.Ab.vc_qs (Go.Ab.vc_ret ?_))))) (fun h0 => Go.Ab.vc_qs (Go.Ab.vc_ret ?_)))
  all_goals (first | (simp_all [valT]; done) | (simp_all [valT] <;> grind) | grind [valT])
end Go.Proofs.Tryd
set_option maxRecDepth 100000
set_option maxHeartbeats 4000000
set_option linter.unusedVariables false
set_option linter.unusedSimpArgs false
namespace Go.Proofs.Tryd
open Go Go.Ab Go.Pl Go.RowKit Go.Proofs.YtmecehpkjffanaaDoor
attribute [local irreducible] Go.Ab.wp Go.Ab.vc Go.Ab.run Go.Ab.runFn Go.Ab.body1 Go.Ab.Tr.qt Go.Ab.Tr.qf Go.Ab.AEv
theorem c_number_0 {w0 : World} (c : Cmd) (F : Int) : AEv Tryd.prog w0 108 [.agg [.d (.int .i64 1), .d (.int .i64 8), .d .nilFunc, .d (.func 148)], .ptr 0 0, .d (.int .i64 F)] [.cells (eCmd c)] (.tup [.d (.bool (if off F 1 then true else decide (1 ≤ c.client) && decide (c.client ≤ 8))), .d (.bool (if off F 1 then c.client == 0 else true))]) [.cells (eCmd c)] := by
  refine aev_of_run hmix Tryd.func108 [] 1 ?_
  refine Go.Ab.wp_fn (.call 148 [A.ptr 0 0] [Ob.cells [A.d (D.int IntKind.i64 c.kind), A.d (D.int IntKind.i64 c.client), A.d (D.int IntKind.i64 c.seq), A.d (D.str c.key), A.d (D.str c.val), A.d (D.str c.old), A.d (D.int IntKind.i64 c.node)]] (A.ifc 141 (A.ptr 0 1)) [Ob.cells (eCmd c)] (.qs [false] (.q (IntKind.i64.wrap (↑(BitVec.ofInt IntKind.i64.bits F &&& BitVec.ofInt IntKind.i64.bits 1).toNat : Int) == 0) (.ret (A.tup [A.d (D.bool true), A.d (D.bool (c.client == 0))], [Ob.cells [A.d (D.int IntKind.i64 c.kind), A.d (D.int IntKind.i64 c.client), A.d (D.int IntKind.i64 c.seq), A.d (D.str c.key), A.d (D.str c.val), A.d (D.str c.old), A.d (D.int IntKind.i64 c.node)]])) (.q (decide (c.client ≥ 1)) (.qs [true, true, true, true, true] (.ret (A.tup [A.d (D.bool (decide (c.client ≤ 8))), A.d (D.bool true)], [Ob.cells [A.d (D.int IntKind.i64 c.kind), A.d (D.int IntKind.i64 c.client), A.d (D.int IntKind.i64 c.seq), A.d (D.str c.key), A.d (D.str c.val), A.d (D.str c.old), A.d (D.int IntKind.i64 c.node)]]))) (.qs [false, false, false, false, false] (.ret (A.tup [A.d (D.bool false), A.d (D.bool true)], [Ob.cells [A.d (D.int IntKind.i64 c.kind), A.d (D.int IntKind.i64 c.client), A.d (D.int IntKind.i64 c.seq), A.d (D.str c.key), A.d (D.str c.val), A.d (D.str c.old), A.d (D.int IntKind.i64 c.node)]]))))))) (by kernel_rfl) (Go.Ab.vc_call (c_cmd_parts_1 c) (Go.Ab.vc_qs (Go.Ab.vc_q (fun h0 => Go.Ab.vc_ret ?_) (fun h0 => Go.Ab.vc_q (fun h1 => Go.Ab.vc_qs (Go.Ab.vc_ret ?_)) (fun h1 => Go.Ab.vc_qs (Go.Ab.vc_ret ?_))))))
  all_goals (first | (simp_all [off]; done) | (simp_all [off] <;> grind) | grind [off])
theorem c_text_0 {w0 : World} (c : Cmd) (F : Int) : AEv Tryd.prog w0 109 [.agg [.d (.int .i64 1), .d (.int .i64 8), .d .nilFunc, .d (.func 148)], .ptr 0 0, .d (.int .i64 F)] [.cells (eCmd c)] (.tup [.d (.bool true), .d (.bool true)]) [.cells (eCmd c)] := by
  refine aev_of_run hmix Tryd.func109 [] 1 ?_
  refine Go.Ab.wp_fn (.call 148 [A.ptr 0 0] [Ob.cells [A.d (D.int IntKind.i64 c.kind), A.d (D.int IntKind.i64 c.client), A.d (D.int IntKind.i64 c.seq), A.d (D.str c.key), A.d (D.str c.val), A.d (D.str c.old), A.d (D.int IntKind.i64 c.node)]] (A.ifc 141 (A.ptr 0 1)) [Ob.cells (eCmd c)] (.qs [true] (.ret (A.tup [A.d (D.bool true), A.d (D.bool true)], [Ob.cells [A.d (D.int IntKind.i64 c.kind), A.d (D.int IntKind.i64 c.client), A.d (D.int IntKind.i64 c.seq), A.d (D.str c.key), A.d (D.str c.val), A.d (D.str c.old), A.d (D.int IntKind.i64 c.node)]])))) (by kernel_rfl) (Go.Ab.vc_call (c_cmd_parts_1 c) (Go.Ab.vc_qs (Go.Ab.vc_ret ?_)))
  all_goals (first | (simp_all [off]; done) | (simp_all [off] <;> grind) | grind [off])
theorem c_number_1 {w0 : World} (c : Cmd) (F : Int) : AEv Tryd.prog w0 108 [.agg [.d (.int .i64 1), .d (.int .i64 4294967296), .d .nilFunc, .d (.func 149)], .ptr 0 0, .d (.int .i64 F)] [.cells (eCmd c)] (.tup [.d (.bool (if off F 1 then true else decide (1 ≤ c.seq) && decide (c.seq ≤ 4294967296))), .d (.bool (if off F 1 then c.seq == 0 else true))]) [.cells (eCmd c)] := by
  refine aev_of_run hmix Tryd.func108 [] 1 ?_
  refine Go.Ab.wp_fn (.call 149 [A.ptr 0 0] [Ob.cells [A.d (D.int IntKind.i64 c.kind), A.d (D.int IntKind.i64 c.client), A.d (D.int IntKind.i64 c.seq), A.d (D.str c.key), A.d (D.str c.val), A.d (D.str c.old), A.d (D.int IntKind.i64 c.node)]] (A.ifc 141 (A.ptr 0 2)) [Ob.cells (eCmd c)] (.qs [false] (.q (IntKind.i64.wrap (↑(BitVec.ofInt IntKind.i64.bits F &&& BitVec.ofInt IntKind.i64.bits 1).toNat : Int) == 0) (.ret (A.tup [A.d (D.bool true), A.d (D.bool (c.seq == 0))], [Ob.cells [A.d (D.int IntKind.i64 c.kind), A.d (D.int IntKind.i64 c.client), A.d (D.int IntKind.i64 c.seq), A.d (D.str c.key), A.d (D.str c.val), A.d (D.str c.old), A.d (D.int IntKind.i64 c.node)]])) (.q (decide (c.seq ≥ 1)) (.qs [true, true, true, true, true] (.ret (A.tup [A.d (D.bool (decide (c.seq ≤ 4294967296))), A.d (D.bool true)], [Ob.cells [A.d (D.int IntKind.i64 c.kind), A.d (D.int IntKind.i64 c.client), A.d (D.int IntKind.i64 c.seq), A.d (D.str c.key), A.d (D.str c.val), A.d (D.str c.old), A.d (D.int IntKind.i64 c.node)]]))) (.qs [false, false, false, false, false] (.ret (A.tup [A.d (D.bool false), A.d (D.bool true)], [Ob.cells [A.d (D.int IntKind.i64 c.kind), A.d (D.int IntKind.i64 c.client), A.d (D.int IntKind.i64 c.seq), A.d (D.str c.key), A.d (D.str c.val), A.d (D.str c.old), A.d (D.int IntKind.i64 c.node)]]))))))) (by kernel_rfl) (Go.Ab.vc_call (c_cmd_parts_2 c) (Go.Ab.vc_qs (Go.Ab.vc_q (fun h0 => Go.Ab.vc_ret ?_) (fun h0 => Go.Ab.vc_q (fun h1 => Go.Ab.vc_qs (Go.Ab.vc_ret ?_)) (fun h1 => Go.Ab.vc_qs (Go.Ab.vc_ret ?_))))))
  all_goals (first | (simp_all [off]; done) | (simp_all [off] <;> grind) | grind [off])
theorem c_text_1 {w0 : World} (c : Cmd) (F : Int) : AEv Tryd.prog w0 109 [.agg [.d (.int .i64 1), .d (.int .i64 4294967296), .d .nilFunc, .d (.func 149)], .ptr 0 0, .d (.int .i64 F)] [.cells (eCmd c)] (.tup [.d (.bool true), .d (.bool true)]) [.cells (eCmd c)] := by
  refine aev_of_run hmix Tryd.func109 [] 1 ?_
  refine Go.Ab.wp_fn (.call 149 [A.ptr 0 0] [Ob.cells [A.d (D.int IntKind.i64 c.kind), A.d (D.int IntKind.i64 c.client), A.d (D.int IntKind.i64 c.seq), A.d (D.str c.key), A.d (D.str c.val), A.d (D.str c.old), A.d (D.int IntKind.i64 c.node)]] (A.ifc 141 (A.ptr 0 2)) [Ob.cells (eCmd c)] (.qs [true] (.ret (A.tup [A.d (D.bool true), A.d (D.bool true)], [Ob.cells [A.d (D.int IntKind.i64 c.kind), A.d (D.int IntKind.i64 c.client), A.d (D.int IntKind.i64 c.seq), A.d (D.str c.key), A.d (D.str c.val), A.d (D.str c.old), A.d (D.int IntKind.i64 c.node)]])))) (by kernel_rfl) (Go.Ab.vc_call (c_cmd_parts_2 c) (Go.Ab.vc_qs (Go.Ab.vc_ret ?_)))
  all_goals (first | (simp_all [off]; done) | (simp_all [off] <;> grind) | grind [off])
theorem c_number_5 {w0 : World} (c : Cmd) (F : Int) : AEv Tryd.prog w0 108 [.agg [.d (.int .i64 16), .d (.int .i64 9), .d .nilFunc, .d (.func 155)], .ptr 0 0, .d (.int .i64 F)] [.cells (eCmd c)] (.tup [.d (.bool (if off F 16 then true else decide (1 ≤ c.node) && decide (c.node ≤ 9))), .d (.bool (if off F 16 then c.node == 0 else true))]) [.cells (eCmd c)] := by
  refine aev_of_run hmix Tryd.func108 [] 1 ?_
  refine Go.Ab.wp_fn (.call 155 [A.ptr 0 0] [Ob.cells [A.d (D.int IntKind.i64 c.kind), A.d (D.int IntKind.i64 c.client), A.d (D.int IntKind.i64 c.seq), A.d (D.str c.key), A.d (D.str c.val), A.d (D.str c.old), A.d (D.int IntKind.i64 c.node)]] (A.ifc 141 (A.ptr 0 6)) [Ob.cells (eCmd c)] (.qs [false] (.q (IntKind.i64.wrap (↑(BitVec.ofInt IntKind.i64.bits F &&& BitVec.ofInt IntKind.i64.bits 16).toNat : Int) == 0) (.ret (A.tup [A.d (D.bool true), A.d (D.bool (c.node == 0))], [Ob.cells [A.d (D.int IntKind.i64 c.kind), A.d (D.int IntKind.i64 c.client), A.d (D.int IntKind.i64 c.seq), A.d (D.str c.key), A.d (D.str c.val), A.d (D.str c.old), A.d (D.int IntKind.i64 c.node)]])) (.q (decide (c.node ≥ 1)) (.qs [true, true, true, true, true] (.ret (A.tup [A.d (D.bool (decide (c.node ≤ 9))), A.d (D.bool true)], [Ob.cells [A.d (D.int IntKind.i64 c.kind), A.d (D.int IntKind.i64 c.client), A.d (D.int IntKind.i64 c.seq), A.d (D.str c.key), A.d (D.str c.val), A.d (D.str c.old), A.d (D.int IntKind.i64 c.node)]]))) (.qs [false, false, false, false, false] (.ret (A.tup [A.d (D.bool false), A.d (D.bool true)], [Ob.cells [A.d (D.int IntKind.i64 c.kind), A.d (D.int IntKind.i64 c.client), A.d (D.int IntKind.i64 c.seq), A.d (D.str c.key), A.d (D.str c.val), A.d (D.str c.old), A.d (D.int IntKind.i64 c.node)]]))))))) (by kernel_rfl) (Go.Ab.vc_call (c_cmd_parts_6 c) (Go.Ab.vc_qs (Go.Ab.vc_q (fun h0 => Go.Ab.vc_ret ?_) (fun h0 => Go.Ab.vc_q (fun h1 => Go.Ab.vc_qs (Go.Ab.vc_ret ?_)) (fun h1 => Go.Ab.vc_qs (Go.Ab.vc_ret ?_))))))
  all_goals (first | (simp_all [off]; done) | (simp_all [off] <;> grind) | grind [off])
theorem c_text_5 {w0 : World} (c : Cmd) (F : Int) : AEv Tryd.prog w0 109 [.agg [.d (.int .i64 16), .d (.int .i64 9), .d .nilFunc, .d (.func 155)], .ptr 0 0, .d (.int .i64 F)] [.cells (eCmd c)] (.tup [.d (.bool true), .d (.bool true)]) [.cells (eCmd c)] := by
  refine aev_of_run hmix Tryd.func109 [] 1 ?_
  refine Go.Ab.wp_fn (.call 155 [A.ptr 0 0] [Ob.cells [A.d (D.int IntKind.i64 c.kind), A.d (D.int IntKind.i64 c.client), A.d (D.int IntKind.i64 c.seq), A.d (D.str c.key), A.d (D.str c.val), A.d (D.str c.old), A.d (D.int IntKind.i64 c.node)]] (A.ifc 141 (A.ptr 0 6)) [Ob.cells (eCmd c)] (.qs [true] (.ret (A.tup [A.d (D.bool true), A.d (D.bool true)], [Ob.cells [A.d (D.int IntKind.i64 c.kind), A.d (D.int IntKind.i64 c.client), A.d (D.int IntKind.i64 c.seq), A.d (D.str c.key), A.d (D.str c.val), A.d (D.str c.old), A.d (D.int IntKind.i64 c.node)]])))) (by kernel_rfl) (Go.Ab.vc_call (c_cmd_parts_6 c) (Go.Ab.vc_qs (Go.Ab.vc_ret ?_)))
  all_goals (first | (simp_all [off]; done) | (simp_all [off] <;> grind) | grind [off])
theorem c_number_2 {w0 : World} (c : Cmd) (F : Int) : AEv Tryd.prog w0 108 [.agg [.d (.int .i64 2), .d (.int .i64 0), .d (.func 150), .d (.func 151)], .ptr 0 0, .d (.int .i64 F)] [.cells (eCmd c)] (.tup [.d (.bool true), .d (.bool true)]) [.cells (eCmd c)] := by
  refine aev_of_run hmix Tryd.func108 [] 1 ?_
  refine Go.Ab.wp_fn (.call 151 [A.ptr 0 0] [Ob.cells [A.d (D.int IntKind.i64 c.kind), A.d (D.int IntKind.i64 c.client), A.d (D.int IntKind.i64 c.seq), A.d (D.str c.key), A.d (D.str c.val), A.d (D.str c.old), A.d (D.int IntKind.i64 c.node)]] (A.ifc 142 (A.ptr 0 3)) [Ob.cells (eCmd c)] (.qs [true] (.ret (A.tup [A.d (D.bool true), A.d (D.bool true)], [Ob.cells [A.d (D.int IntKind.i64 c.kind), A.d (D.int IntKind.i64 c.client), A.d (D.int IntKind.i64 c.seq), A.d (D.str c.key), A.d (D.str c.val), A.d (D.str c.old), A.d (D.int IntKind.i64 c.node)]])))) (by kernel_rfl) (Go.Ab.vc_call (c_cmd_parts_3 c) (Go.Ab.vc_qs (Go.Ab.vc_ret ?_)))
  all_goals (first | (simp_all [off]; done) | (simp_all [off] <;> grind) | grind [off])
theorem c_text_2 {w0 : World} (hL : Laid w0) (c : Cmd) (F : Int) : AEv Tryd.prog w0 109 [.agg [.d (.int .i64 2), .d (.int .i64 0), .d (.func 150), .d (.func 151)], .ptr 0 0, .d (.int .i64 F)] [.cells (eCmd c)] (.tup [.d (.bool (if off F 2 then true else keyR c.key)), .d (.bool (if off F 2 then c.key.toList == [] else true))]) [.cells (eCmd c)] := by
  refine aev_of_run hmix Tryd.func109 [] 1 ?_
  refine Go.Ab.wp_fn (.call 151 [A.ptr 0 0] [Ob.cells [A.d (D.int IntKind.i64 c.kind), A.d (D.int IntKind.i64 c.client), A.d (D.int IntKind.i64 c.seq), A.d (D.str c.key), A.d (D.str c.val), A.d (D.str c.old), A.d (D.int IntKind.i64 c.node)]] (A.ifc 142 (A.ptr 0 3)) [Ob.cells (eCmd c)] (.qs [false] (.q (IntKind.i64.wrap (↑(BitVec.ofInt IntKind.i64.bits F &&& BitVec.ofInt IntKind.i64.bits 2).toNat : Int) == 0) (.ret (A.tup [A.d (D.bool true), A.d (D.bool (c.key.toList == []))], [Ob.cells [A.d (D.int IntKind.i64 c.kind), A.d (D.int IntKind.i64 c.client), A.d (D.int IntKind.i64 c.seq), A.d (D.str c.key), A.d (D.str c.val), A.d (D.str c.old), A.d (D.int IntKind.i64 c.node)]])) (.call 150 [A.d (D.str c.key)] [] (A.d (D.bool (keyR c.key))) [] (.ret (A.tup [A.d (D.bool (keyR c.key)), A.d (D.bool true)], [Ob.cells [A.d (D.int IntKind.i64 c.kind), A.d (D.int IntKind.i64 c.client), A.d (D.int IntKind.i64 c.seq), A.d (D.str c.key), A.d (D.str c.val), A.d (D.str c.old), A.d (D.int IntKind.i64 c.node)]])))))) (by kernel_rfl) (Go.Ab.vc_call (c_cmd_parts_3 c) (Go.Ab.vc_qs (Go.Ab.vc_q (fun h0 => Go.Ab.vc_ret ?_) (fun h0 => Go.Ab.vc_call (c_runes_Key (by first | assumption | exact rfl) c.key) (Go.Ab.vc_ret ?_)))))
  all_goals (first | (simp_all [off]; done) | (simp_all [off] <;> grind) | grind [off])
theorem c_number_3 {w0 : World} (c : Cmd) (F : Int) : AEv Tryd.prog w0 108 [.agg [.d (.int .i64 4), .d (.int .i64 0), .d (.func 152), .d (.func 153)], .ptr 0 0, .d (.int .i64 F)] [.cells (eCmd c)] (.tup [.d (.bool true), .d (.bool true)]) [.cells (eCmd c)] := by
  refine aev_of_run hmix Tryd.func108 [] 1 ?_
  refine Go.Ab.wp_fn (.call 153 [A.ptr 0 0] [Ob.cells [A.d (D.int IntKind.i64 c.kind), A.d (D.int IntKind.i64 c.client), A.d (D.int IntKind.i64 c.seq), A.d (D.str c.key), A.d (D.str c.val), A.d (D.str c.old), A.d (D.int IntKind.i64 c.node)]] (A.ifc 142 (A.ptr 0 5)) [Ob.cells (eCmd c)] (.qs [true] (.ret (A.tup [A.d (D.bool true), A.d (D.bool true)], [Ob.cells [A.d (D.int IntKind.i64 c.kind), A.d (D.int IntKind.i64 c.client), A.d (D.int IntKind.i64 c.seq), A.d (D.str c.key), A.d (D.str c.val), A.d (D.str c.old), A.d (D.int IntKind.i64 c.node)]])))) (by kernel_rfl) (Go.Ab.vc_call (c_cmd_parts_4 c) (Go.Ab.vc_qs (Go.Ab.vc_ret ?_)))
  all_goals (first | (simp_all [off]; done) | (simp_all [off] <;> grind) | grind [off])
theorem c_text_3 {w0 : World} (hL : Laid w0) (c : Cmd) (F : Int) : AEv Tryd.prog w0 109 [.agg [.d (.int .i64 4), .d (.int .i64 0), .d (.func 152), .d (.func 153)], .ptr 0 0, .d (.int .i64 F)] [.cells (eCmd c)] (.tup [.d (.bool (if off F 4 then true else valT c.old)), .d (.bool (if off F 4 then c.old.toList == [] else true))]) [.cells (eCmd c)] := by
  refine aev_of_run hmix Tryd.func109 [] 1 ?_
  refine Go.Ab.wp_fn (.call 153 [A.ptr 0 0] [Ob.cells [A.d (D.int IntKind.i64 c.kind), A.d (D.int IntKind.i64 c.client), A.d (D.int IntKind.i64 c.seq), A.d (D.str c.key), A.d (D.str c.val), A.d (D.str c.old), A.d (D.int IntKind.i64 c.node)]] (A.ifc 142 (A.ptr 0 5)) [Ob.cells (eCmd c)] (.qs [false] (.q (IntKind.i64.wrap (↑(BitVec.ofInt IntKind.i64.bits F &&& BitVec.ofInt IntKind.i64.bits 4).toNat : Int) == 0) (.ret (A.tup [A.d (D.bool true), A.d (D.bool (c.old.toList == []))], [Ob.cells [A.d (D.int IntKind.i64 c.kind), A.d (D.int IntKind.i64 c.client), A.d (D.int IntKind.i64 c.seq), A.d (D.str c.key), A.d (D.str c.val), A.d (D.str c.old), A.d (D.int IntKind.i64 c.node)]])) (.call 152 [A.d (D.str c.old)] [] (A.d (D.bool (valT c.old))) [] (.ret (A.tup [A.d (D.bool (valT c.old)), A.d (D.bool true)], [Ob.cells [A.d (D.int IntKind.i64 c.kind), A.d (D.int IntKind.i64 c.client), A.d (D.int IntKind.i64 c.seq), A.d (D.str c.key), A.d (D.str c.val), A.d (D.str c.old), A.d (D.int IntKind.i64 c.node)]])))))) (by kernel_rfl) (Go.Ab.vc_call (c_cmd_parts_4 c) (Go.Ab.vc_qs (Go.Ab.vc_q (fun h0 => Go.Ab.vc_ret ?_) (fun h0 => Go.Ab.vc_call (c_runes_Val (by first | assumption | exact rfl) c.old) (Go.Ab.vc_ret ?_)))))
  all_goals (first | (simp_all [off]; done) | (simp_all [off] <;> grind) | grind [off])
theorem c_number_4 {w0 : World} (c : Cmd) (F : Int) : AEv Tryd.prog w0 108 [.agg [.d (.int .i64 8), .d (.int .i64 0), .d (.func 152), .d (.func 154)], .ptr 0 0, .d (.int .i64 F)] [.cells (eCmd c)] (.tup [.d (.bool true), .d (.bool true)]) [.cells (eCmd c)] := by
  refine aev_of_run hmix Tryd.func108 [] 1 ?_
  refine Go.Ab.wp_fn (.call 154 [A.ptr 0 0] [Ob.cells [A.d (D.int IntKind.i64 c.kind), A.d (D.int IntKind.i64 c.client), A.d (D.int IntKind.i64 c.seq), A.d (D.str c.key), A.d (D.str c.val), A.d (D.str c.old), A.d (D.int IntKind.i64 c.node)]] (A.ifc 142 (A.ptr 0 4)) [Ob.cells (eCmd c)] (.qs [true] (.ret (A.tup [A.d (D.bool true), A.d (D.bool true)], [Ob.cells [A.d (D.int IntKind.i64 c.kind), A.d (D.int IntKind.i64 c.client), A.d (D.int IntKind.i64 c.seq), A.d (D.str c.key), A.d (D.str c.val), A.d (D.str c.old), A.d (D.int IntKind.i64 c.node)]])))) (by kernel_rfl) (Go.Ab.vc_call (c_cmd_parts_5 c) (Go.Ab.vc_qs (Go.Ab.vc_ret ?_)))
  all_goals (first | (simp_all [off]; done) | (simp_all [off] <;> grind) | grind [off])
theorem c_text_4 {w0 : World} (hL : Laid w0) (c : Cmd) (F : Int) : AEv Tryd.prog w0 109 [.agg [.d (.int .i64 8), .d (.int .i64 0), .d (.func 152), .d (.func 154)], .ptr 0 0, .d (.int .i64 F)] [.cells (eCmd c)] (.tup [.d (.bool (if off F 8 then true else valT c.val)), .d (.bool (if off F 8 then c.val.toList == [] else true))]) [.cells (eCmd c)] := by
  refine aev_of_run hmix Tryd.func109 [] 1 ?_
  refine Go.Ab.wp_fn (.call 154 [A.ptr 0 0] [Ob.cells [A.d (D.int IntKind.i64 c.kind), A.d (D.int IntKind.i64 c.client), A.d (D.int IntKind.i64 c.seq), A.d (D.str c.key), A.d (D.str c.val), A.d (D.str c.old), A.d (D.int IntKind.i64 c.node)]] (A.ifc 142 (A.ptr 0 4)) [Ob.cells (eCmd c)] (.qs [false] (.q (IntKind.i64.wrap (↑(BitVec.ofInt IntKind.i64.bits F &&& BitVec.ofInt IntKind.i64.bits 8).toNat : Int) == 0) (.ret (A.tup [A.d (D.bool true), A.d (D.bool (c.val.toList == []))], [Ob.cells [A.d (D.int IntKind.i64 c.kind), A.d (D.int IntKind.i64 c.client), A.d (D.int IntKind.i64 c.seq), A.d (D.str c.key), A.d (D.str c.val), A.d (D.str c.old), A.d (D.int IntKind.i64 c.node)]])) (.call 152 [A.d (D.str c.val)] [] (A.d (D.bool (valT c.val))) [] (.ret (A.tup [A.d (D.bool (valT c.val)), A.d (D.bool true)], [Ob.cells [A.d (D.int IntKind.i64 c.kind), A.d (D.int IntKind.i64 c.client), A.d (D.int IntKind.i64 c.seq), A.d (D.str c.key), A.d (D.str c.val), A.d (D.str c.old), A.d (D.int IntKind.i64 c.node)]])))))) (by kernel_rfl) (Go.Ab.vc_call (c_cmd_parts_5 c) (Go.Ab.vc_qs (Go.Ab.vc_q (fun h0 => Go.Ab.vc_ret ?_) (fun h0 => Go.Ab.vc_call (c_runes_Val (by first | assumption | exact rfl) c.val) (Go.Ab.vc_ret ?_)))))
  all_goals (first | (simp_all [off]; done) | (simp_all [off] <;> grind) | grind [off])
end Go.Proofs.Tryd
