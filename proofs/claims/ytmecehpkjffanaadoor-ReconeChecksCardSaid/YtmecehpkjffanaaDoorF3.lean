/- Parts of the proof that a law of the program holds: the abstract run of the model. -/
import Derived.Test.YtmecehpkjffanaaDoorF2
/- Nil slices, whatever their elements' size; results that say the same. -/
set_option linter.unusedVariables false
set_option linter.unusedSimpArgs false
namespace Go.Ab
open Go Go.RowKit

mutual
def D.nrm : D → D
  | .slice n sz xs => .slice n (bif n then 0 else sz) (D.nrmR xs)
  | x => x
def D.nrmL : List D → List D
  | [] => []
  | x :: xs => D.nrm x :: D.nrmL xs
def D.nrmR : List (List D) → List (List D)
  | [] => []
  | c :: cs => D.nrmL c :: D.nrmR cs
end
mutual
def A.nrm : A → A
  | .d x => .d x.nrm
  | .pdat cs => .pdat (D.nrmL cs)
  | .clo f a c => .clo f (A.nrmL a) (A.nrmL c)
  | .ifc t x => .ifc t x.nrm
  | .agg cs => .agg (A.nrmL cs)
  | .tup xs => .tup (A.nrmL xs)
  | a => a
def A.nrmL : List A → List A
  | [] => []
  | a :: as => A.nrm a :: A.nrmL as
end
def Ob.nrm : Ob → Ob
  | .cells cs => .cells (A.nrmL cs)
  | .row nb e sz xs => .row nb e sz (D.nrmR xs)
  | o => o

theorem nrmL_len : ∀ (xs : List D), (D.nrmL xs).length = xs.length
  | [] => rfl
  | x :: xs => by simp [D.nrmL, nrmL_len xs]
theorem nrmR_len : ∀ (xs : List (List D)), (D.nrmR xs).length = xs.length
  | [] => rfl
  | x :: xs => by simp [D.nrmR, nrmR_len xs]
theorem nrmR_nil (xs : List (List D)) : D.nrmR xs = [] ↔ xs = [] := by cases xs <;> simp [D.nrmR]
theorem nrmR_all {sz : Nat} : ∀ (xs : List (List D)), (∀ x ∈ D.nrmR xs, x.length = sz) ↔ ∀ x ∈ xs, x.length = sz
  | [] => by simp [D.nrmR]
  | x :: xs => by simp [D.nrmR, nrmL_len, nrmR_all xs]
@[simp] theorem nrmL_append : ∀ (xs ys : List D), D.nrmL (xs ++ ys) = D.nrmL xs ++ D.nrmL ys
  | [], ys => rfl
  | x :: xs, ys => by simp [D.nrmL, nrmL_append xs]
@[simp] theorem nrmR_append : ∀ (xs ys : List (List D)), D.nrmR (xs ++ ys) = D.nrmR xs ++ D.nrmR ys
  | [], ys => rfl
  | x :: xs, ys => by simp [D.nrmR, nrmR_append xs]
@[simp] theorem nrmR_map {α : Type} (f : α → List D) : ∀ (l : List α), D.nrmR (l.map f) = l.map fun x => D.nrmL (f x)
  | [] => rfl
  | x :: l => by simp [D.nrmR, nrmR_map f l]

mutual
theorem drep_nrm {w : World} {F : Nat → Prop} : ∀ (x : D) (v : Value), DRep w F x.nrm v ↔ DRep w F x v
  | .bool _, _ => by simp [D.nrm]
  | .int _ _, _ => by simp [D.nrm]
  | .str _, _ => by simp [D.nrm]
  | .nilPtr, _ => by simp [D.nrm]
  | .nilFunc, _ => by simp [D.nrm]
  | .nilIface, _ => by simp [D.nrm]
  | .nilMap, _ => by simp [D.nrm]
  | .func _, _ => by simp [D.nrm]
  | .slice n sz xs, v => by
    simp only [D.nrm, DRep, nrmR_nil, nrmR_len, nrmR_all]
    cases n with
    | true => simp
    | false =>
      have := fun b off => rrep_nrm (w := w) (F := F) (b := b) (sz := sz) off xs
      simp [this]
theorem crep_nrm {w : World} {F : Nat → Prop} {b : Nat} : ∀ (off : Nat) (xs : List D), CellsRep w F b off (D.nrmL xs) ↔ CellsRep w F b off xs
  | _, [] => by simp [D.nrmL, CellsRep]
  | off, x :: xs => by
    have h1 := fun v => drep_nrm (w := w) (F := F) x v
    have h2 := crep_nrm (w := w) (F := F) (b := b) (off + 1) xs
    simp [D.nrmL, CellsRep, h1, h2]
theorem rrep_nrm {w : World} {F : Nat → Prop} {b sz : Nat} : ∀ (off : Nat) (xs : List (List D)), RowsRep w F b sz off (D.nrmR xs) ↔ RowsRep w F b sz off xs
  | _, [] => by simp [D.nrmR, RowsRep]
  | off, c :: cs => by
    have h1 := crep_nrm (w := w) (F := F) (b := b) off c
    have h2 := rrep_nrm (w := w) (F := F) (b := b) (sz := sz) (off + sz) cs
    simp [D.nrmR, RowsRep, h1, h2]
end
mutual
theorem rep_nrm {m : List Loc} {w : World} {F : Nat → Prop} : ∀ (a : A) (v : Value), Rep m w F a.nrm v ↔ Rep m w F a v
  | .d x, v => by simp only [A.nrm, Rep]; exact drep_nrm x v
  | .ptr _ _, _ => by simp [A.nrm]
  | .pel _ _ _, _ => by simp [A.nrm]
  | .pdat cs, v => by
    have := fun b off => crep_nrm (w := w) (F := F) (b := b) off cs
    simp [A.nrm, Rep, this]
  | .own _, _ => by simp [A.nrm]
  | .clo f a c, v => by
    have h1 := fun vs => repL_nrm (m := m) (w := w) (F := F) a vs
    have h2 := fun vs => repL_nrm (m := m) (w := w) (F := F) c vs
    simp [A.nrm, Rep, h1, h2]
  | .ifc t x, v => by
    have h1 := fun u => rep_nrm (m := m) (w := w) (F := F) x u
    simp [A.nrm, Rep, h1]
  | .agg cs, v => by
    have h1 := fun vs => repL_nrm (m := m) (w := w) (F := F) cs vs
    simp [A.nrm, Rep, h1]
  | .tup cs, v => by
    have h1 := fun vs => repL_nrm (m := m) (w := w) (F := F) cs vs
    simp [A.nrm, Rep, h1]
  | .top, _ => by simp [A.nrm]
theorem repL_nrm {m : List Loc} {w : World} {F : Nat → Prop} : ∀ (as : List A) (vs : List Value), RepL m w F (A.nrmL as) vs ↔ RepL m w F as vs
  | [], _ => by simp [A.nrmL]
  | a :: as, _ => by
    have h1 := fun v => rep_nrm (m := m) (w := w) (F := F) a v
    have h2 := fun vs => repL_nrm (m := m) (w := w) (F := F) as vs
    simp [A.nrmL, RepL, h1, h2]
end
section
variable {P : Program} {w0 : World} {n0 : Nat}
theorem nrm_live (o : Ob) : o.nrm.live = o.live := by cases o <;> rfl
theorem obOk_nrm {m : List Loc} {w : World} {F : Nat → Prop} {l : Loc} (o : Ob) : ObOk P m w F l o.nrm ↔ ObOk P m w F l o := by
  cases o with
  | cells cs =>
    have h1 := fun vs => repL_nrm (m := m) (w := w) (F := F) cs vs
    simp [Ob.nrm, ObOk, h1]
  | row nb e sz xs =>
    have h1 := fun b off => rrep_nrm (w := w) (F := F) (b := b) (sz := sz) off xs
    have h2 : (D.nrmR xs).isEmpty = xs.isEmpty := by cases xs <;> rfl
    simp [Ob.nrm, ObOk, h1, nrmR_len, nrmR_all, NilOk, nrmR_nil, h2]
  | iter s pos => rfl
  | dead => rfl
theorem nrm_at {H : List Ob} {i : Nat} {o : Ob} (h : (H.map Ob.nrm)[i]? = some o) : ∃ o', H[i]? = some o' ∧ o = o'.nrm := by
  rw [List.getElem?_map] at h
  cases hi : H[i]? with
  | none => rw [hi] at h; simp at h
  | some o' => rw [hi] at h; simp at h; exact ⟨o', rfl, h.symm⟩
theorem owned_nrm {m : List Loc} {H : List Ob} {b : Nat} : Owned m (H.map Ob.nrm) b ↔ Owned m H b := by
  constructor
  · rintro ⟨i, o, l, h1, h2, h3, h4, h5⟩
    obtain ⟨o', g1, rfl⟩ := nrm_at h1
    exact ⟨i, o', l, g1, h2, by rw [← nrm_live]; exact h3, h4, h5⟩
  · rintro ⟨i, o, l, h1, h2, h3, h4, h5⟩
    exact ⟨i, o.nrm, l, by simp [h1], h2, by rw [nrm_live]; exact h3, h4, h5⟩
theorem ff_nrm {X : Nat → Prop} {m : List Loc} {H : List Ob} : FF X m (H.map Ob.nrm) = FF X m H := by
  funext b
  exact propext (or_congr Iff.rfl owned_nrm)
theorem conc_nrm {X : Nat → Prop} {m : List Loc} {H : List Ob} {w : World} : Conc P w0 X m (H.map Ob.nrm) w ↔ Conc P w0 X m H w := by
  constructor
  · intro hc
    refine ⟨hc.below, by simpa using hc.len, hc.xlt, fun i o l h1 h2 => ?_, fun i o l h1 h2 h3 h4 => ?_, fun i j o p l k h1 h2 h3 h4 g1 g2 g3 g4 he => ?_⟩
    · have := hc.obj i o.nrm l (by simp [h1]) h2
      rw [ff_nrm] at this
      exact (obOk_nrm o).1 this
    · exact hc.own i o.nrm l (by simp [h1]) h2 (by rw [nrm_live]; exact h3) h4
    · exact hc.sep i j o.nrm p.nrm l k (by simp [h1]) h2 (by rw [nrm_live]; exact h3) h4 (by simp [g1]) g2 (by rw [nrm_live]; exact g3) g4 he
  · intro hc
    refine ⟨hc.below, by simpa using hc.len, hc.xlt, fun i o l h1 h2 => ?_, fun i o l h1 h2 h3 h4 => ?_, fun i j o p l k h1 h2 h3 h4 g1 g2 g3 g4 he => ?_⟩
    · obtain ⟨o', q1, rfl⟩ := nrm_at h1
      have := hc.obj i o' l q1 h2
      rw [ff_nrm]
      exact (obOk_nrm o').2 this
    · obtain ⟨o', q1, rfl⟩ := nrm_at h1
      exact hc.own i o' l q1 h2 (by rw [← nrm_live]; exact h3) h4
    · obtain ⟨o', q1, rfl⟩ := nrm_at h1
      obtain ⟨p', r1, rfl⟩ := nrm_at g1
      exact hc.sep i j o' p' l k q1 h2 (by rw [← nrm_live]; exact h3) h4 r1 g2 (by rw [← nrm_live]; exact g3) g4 he
/-- States that say the same. -/
def Same (s s' : St) : Prop := A.nrmL s.env = A.nrmL s'.env ∧ s.heap.map Ob.nrm = s'.heap.map Ob.nrm
theorem weak_same {s s' : St} (h : Same s s') : Weak P w0 n0 s s' := by
  intro X m w tmps hc hr
  have hff : FF X m s'.heap = FF X m s.heap := by rw [← ff_nrm (H := s'.heap), ← h.2, ff_nrm]
  refine ⟨m, ⟨fun _ _ => rfl, rfl, rfl, rfl, Nat.le_refl _, fun _ _ _ => rfl, fun b ho => .inl ?_⟩, ?_, ?_⟩
  · rw [← owned_nrm (H := s.heap), h.2, owned_nrm]; exact ho
  · rw [← conc_nrm (H := s'.heap), ← h.2, conc_nrm]; exact hc
  · rw [hff, ← repL_nrm s'.env, ← h.1, repL_nrm]; exact hr
/-- .. a function's results. -/
def Eqv (p p' : A × List Ob) : Prop := A.nrm p.1 = A.nrm p'.1 ∧ p.2.map Ob.nrm = p'.2.map Ob.nrm
theorem Eqv.of_eq {p p' : A × List Ob} (h : p = p') : Eqv p p' := by rw [h]; exact ⟨rfl, rfl⟩
theorem Eqv.weak {p p' : A × List Ob} (h : Eqv p p') : Weak P w0 n0 ⟨[p.1], p.2⟩ ⟨[p'.1], p'.2⟩ := weak_same ⟨by simp only [A.nrmL]; rw [h.1], h.2⟩
theorem aev_of_run_n (hmix : P.follows .mixedOrders = true) {f : FuncId} {fn : Func} (hf : P.funcs[f]? = some fn) (keep : List FuncId) (fz : Nat) {args : List A} {H : List Ob} {r : A} {H' : List Ob}
    (h : wp P w0 H.length (runFn P keep fz fn args H) (fun p => Eqv p (r, H'))) : AEv P w0 f args H r H' :=
  aev_of_run_w hmix hf keep fz (wp_mono (fun p hp => Eqv.weak hp) _ h)
theorem leaf_same {p p' : A × List Ob} (h : p = p') : Weak P w0 n0 ⟨[p.1], p.2⟩ ⟨[p'.1], p'.2⟩ := by rw [h]; exact Weak.refl _
theorem leaf_eqv {p p' : A × List Ob} (h : Eqv p p') : Weak P w0 n0 ⟨[p.1], p.2⟩ ⟨[p'.1], p'.2⟩ := h.weak
/-- A nil slice as a row of one's own. -/
theorem leaf_virt {z : Nat} {e : TypeId} {sz : Nat} {H : List Ob} (h : n0 ≤ H.length) : Weak P w0 n0 ⟨[.d (.slice true z [])], H⟩ ⟨[.own H.length], H ++ [.row true e sz []]⟩ := weak_virt (d := 0) (e := e) (sz := sz) (s := ⟨[.d (.slice true z [])], H⟩) h rfl
theorem acode_weak {c : Code} {s0 s1 : St} {J : Ex → St → Prop} (hw : Weak P w0 n0 s0 s1) (h : ACode P w0 n0 c s1 J) : ACode P w0 n0 c s0 J := by
  intro X m w a hc hr hd hn
  obtain ⟨m1, g1, g2, g3⟩ := hw X m w a.tmps.toList hc hr
  exact Go.wp_mono (h X m1 w a g2 g3 hd (ext_len g1 hn)) fun _ _ _ hp => Post.before g1 hp
/-- A contract at arguments that say the same. -/
theorem AEv.same {f : FuncId} {args args' : List A} {H H1 H' H1' : List Ob} {r r' : A} (h : AEv P w0 f args H r H') (h1 : A.nrmL args' = A.nrmL args) (h2 : H1.map Ob.nrm = H.map Ob.nrm) (h3 : Eqv (r, H') (r', H1')) : AEv P w0 f args' H1 r' H1' := by
  intro X m w vs hc hr
  have hff : FF X m H1 = FF X m H := by rw [← ff_nrm (H := H1), h2, ff_nrm]
  have hc' : Conc P w0 X m H w := by rw [← conc_nrm, ← h2, conc_nrm]; exact hc
  have hlen : H1.length = H.length := by have := congrArg List.length h2; simpa using this
  refine (h X m w vs hc' (by rw [← repL_nrm, ← h1, repL_nrm, ← hff]; exact hr)).mono fun e w' he => ?_
  cases e with
  | returned v =>
    obtain ⟨m', g1, g2, g3⟩ := he
    obtain ⟨m2, k1, k2, k3⟩ := (Eqv.weak (P := P) (w0 := w0) (n0 := H.length) h3) X m' w' [v] g2 ⟨_, _, rfl, g3, rfl⟩
    obtain ⟨u, hu, k4⟩ := repL_one k3
    simp only [List.cons.injEq, and_true] at hu
    subst hu
    have := g1.trans k1
    refine ⟨m2, ⟨fun i hi => this.pre i (by omega), this.os, this.tape, this.output, this.size, fun b hb hn => this.blk b hb fun ho => hn ?_, fun b ho => (this.own b ho).imp (fun h' => ?_) id⟩, k2, k4⟩
    · rw [← owned_nrm (H := H1), h2, owned_nrm]; exact ho
    · rw [← owned_nrm (H := H1), h2, owned_nrm]; exact h'
  | outgrown => exact he
  | panicked ch => exact he
end
end Go.Ab
namespace Go.Pl
def plain : Unit := ()
end Go.Pl
/- What data of a type are. -/
set_option linter.unusedVariables false
set_option linter.unusedSimpArgs false
namespace Go.Ab
open Go Go.RowKit
section
variable {P : Program}
theorem tyd_int {n t : Nat} {k : IntKind} {ds : List D} (hu : P.underlying t = some (.int k)) (h : TyD P (n + 1) t ds) : ∃ i, ds = [.int k i] ∧ k.min ≤ i ∧ i ≤ k.max := by
  unfold TyD at h; rw [hu] at h; exact h
theorem tyd_bool {n t : Nat} {ds : List D} (hu : P.underlying t = some .bool) (h : TyD P (n + 1) t ds) : ∃ b, ds = [.bool b] := by
  unfold TyD at h; rw [hu] at h; exact h
theorem tyd_str {n t : Nat} {ds : List D} (hu : P.underlying t = some .string) (h : TyD P (n + 1) t ds) : ∃ s, ds = [.str s] ∧ s.size ≤ maxLen := by
  unfold TyD at h; rw [hu] at h; exact h
theorem tyd_slice {n t e : Nat} {ds : List D} (hu : P.underlying t = some (.slice e)) (h : TyD P (n + 1) t ds) : ∃ isNil xs, ds = [.slice isNil (if isNil then 0 else P.cellsOf e) xs] ∧ (isNil = true → xs = []) ∧ xs.length ≤ maxLen ∧ ∀ x ∈ xs, x.length = P.cellsOf e ∧ TyD P n e x := by
  unfold TyD at h; rw [hu] at h; exact h
theorem tyd_struct {n t : Nat} {fs : Array Field} {ds : List D} (hu : P.underlying t = some (.struct fs)) (h : TyD P (n + 1) t ds) : ds.length = P.cellsOf t ∧ ∀ f ∈ fs.toList, TyD P n f.type ((ds.drop f.offset).take (P.cellsOf f.type)) := by
  unfold TyD at h; rw [hu] at h; exact h
/-- A field's data, by its place. -/
theorem tyd_field {n t : Nat} {fs : Array Field} {ds : List D} (hu : P.underlying t = some (.struct fs)) (h : TyD P (n + 1) t ds) (i : Nat) {ft off sz : Nat} (hi : ((fs[i]?).map fun f => (f.type, f.offset, P.cellsOf f.type)) = some (ft, off, sz)) : TyD P n ft ((ds.drop off).take sz) := by
  cases hf : fs[i]? with
  | none => rw [hf] at hi; simp at hi
  | some f =>
    rw [hf] at hi
    simp only [Option.map_some, Option.some.injEq, Prod.mk.injEq] at hi
    obtain ⟨rfl, rfl, rfl⟩ := hi
    exact (tyd_struct hu h).2 f (by
      have := Array.mem_of_getElem? hf
      simpa using this)
/-- Data one by one, as data of another type. -/
theorem all_map {T : Type} {f : T → List D} {Q : T → Prop} : ∀ (xs : List (List D)), (∀ x ∈ xs, ∃ y, Q y ∧ D.nrmL x = D.nrmL (f y)) → ∃ l : List T, (∀ y ∈ l, Q y) ∧ D.nrmR xs = D.nrmR (l.map f) ∧ l.length = xs.length
  | [], _ => ⟨[], by simp, rfl, rfl⟩
  | x :: xs, h => by
    obtain ⟨y, h1, h2⟩ := h x (by simp)
    obtain ⟨l, g1, g2, g3⟩ := all_map xs fun x hx => h x (by simp [hx])
    refine ⟨y :: l, ?_, ?_, by simp [g3]⟩
    · intro z hz
      rcases List.mem_cons.1 hz with rfl | hz
      · exact h1
      · exact g1 z hz
    · simp only [List.map_cons, D.nrmR]
      rw [h2, g2]
theorem nrmL_map : ∀ (ds : List D), A.nrmL (ds.map .d) = (D.nrmL ds).map .d
  | [] => rfl
  | x :: xs => by simp [A.nrmL, D.nrmL, A.nrm, nrmL_map xs]
end
end Go.Ab
