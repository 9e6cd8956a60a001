/- Parts of the proof that a law of the program holds: the abstract run of the model. -/
import Derived.ProofKit
import Derived.Lib.AppendZerosOnto
import Derived.Laws.Externs
import Derived.Lib.Overlaps
import Derived.Test.YtmecehpkjffanaaDoorF2
/- An argument's reading, as data. -/
set_option linter.unusedVariables false
set_option linter.unusedSimpArgs false
namespace Go.Ab
open Go Go.RowKit
section
variable {P : Program}

/-- Fields that lie one behind the other, and fill their struct. -/
def tileB (P : Program) (q : TypeId → Bool) : Nat → List Field → Nat → Bool
  | off, [], tot => Nat.beq off tot
  | off, f :: fs, tot => Nat.beq f.offset off && q f.type && tileB P q (off + P.cellsOf f.type) fs tot
/-- Types of numbers, texts, structs, slices of such. -/
def plainT (P : Program) : Nat → TypeId → Bool
  | 0, _ => false
  | n + 1, t => match P.underlying t with
    | some .bool => true
    | some (.int _) => true
    | some .string => true
    | some (.slice e) => Nat.blt 0 (P.cellsOf e) && plainT P n e
    | some (.struct fs) => tileB P (plainT P n) 0 fs.toList (P.cellsOf t)
    | _ => false
/-- Data of a type. -/
def TyD (P : Program) : Nat → TypeId → List D → Prop
  | 0, _, _ => False
  | n + 1, t, ds => match P.underlying t with
    | some .bool => ∃ b, ds = [.bool b]
    | some (.int k) => ∃ i, ds = [.int k i] ∧ k.min ≤ i ∧ i ≤ k.max
    | some .string => ∃ s, ds = [.str s] ∧ s.size ≤ maxLen
    | some (.slice e) => ∃ isNil xs, ds = [.slice isNil (if isNil then 0 else P.cellsOf e) xs] ∧ (isNil = true → xs = []) ∧ xs.length ≤ maxLen ∧ ∀ x ∈ xs, x.length = P.cellsOf e ∧ TyD P n e x
    | some (.struct fs) => ds.length = P.cellsOf t ∧ ∀ f ∈ fs.toList, TyD P n f.type ((ds.drop f.offset).take (P.cellsOf f.type))
    | _ => False

theorem tile_le (q : TypeId → Bool) : ∀ (fs : List Field) (off tot : Nat), tileB P q off fs tot = true → off ≤ tot
  | [], off, tot, h => by simp only [tileB] at h; have := Nat.eq_of_beq_eq_true h; omega
  | f :: fs, off, tot, h => by
    simp only [tileB, Bool.and_eq_true] at h
    have := tile_le q fs _ tot h.2
    omega
theorem tile_off (q : TypeId → Bool) : ∀ (fs : List Field) (off tot : Nat), tileB P q off fs tot = true → ∀ f ∈ fs, off ≤ f.offset ∧ f.offset + P.cellsOf f.type ≤ tot ∧ q f.type = true
  | [], off, tot, h, f, hf => by simp at hf
  | f0 :: fs, off, tot, h, f, hf => by
    simp only [tileB, Bool.and_eq_true] at h
    have h1 := tile_le q fs _ tot h.2
    have h2 := Nat.eq_of_beq_eq_true h.1.1
    rcases List.mem_cons.1 hf with rfl | hf
    · exact ⟨by omega, by omega, h.1.2⟩
    · have := tile_off q fs _ tot h.2 f hf
      exact ⟨by omega, this.2⟩
theorem tile_join (q : TypeId → Bool) {T : TypeId → List D → Prop} {m : List Loc} {w : World} {F : Nat → Prop} {cs : List Value} : ∀ (fs : List Field) (off tot : Nat), tileB P q off fs tot = true → cs.length = tot →
    (∀ f ∈ fs, ∃ ds : List D, RepL m w F (ds.map .d) ((cs.drop f.offset).take (P.cellsOf f.type)) ∧ T f.type ds) →
    ∃ ds : List D, RepL m w F (ds.map .d) (cs.drop off) ∧ ∀ f ∈ fs, T f.type ((ds.drop (f.offset - off)).take (P.cellsOf f.type))
  | [], off, tot, h, hl, _ => by
    simp only [tileB] at h
    have := Nat.eq_of_beq_eq_true h
    exact ⟨[], by rw [List.drop_of_length_le (by omega)]; rfl, by simp⟩
  | f0 :: fs, off, tot, h, hl, hall => by
    have hle := tile_off q _ off tot h
    simp only [tileB, Bool.and_eq_true] at h
    have h2 := Nat.eq_of_beq_eq_true h.1.1
    obtain ⟨ds0, r0, t0⟩ := hall f0 (by simp)
    obtain ⟨ds1, r1, t1⟩ := tile_join q fs (off + P.cellsOf f0.type) tot h.2 hl fun f hf => hall f (by simp [hf])
    have hl0 : ds0.length = P.cellsOf f0.type := by
      have := RepL.length _ _ r0
      simp at this
      have := (hle f0 (by simp)).2.1
      omega
    refine ⟨ds0 ++ ds1, ?_, fun f hf => ?_⟩
    · have : cs.drop off = (cs.drop off).take (P.cellsOf f0.type) ++ cs.drop (off + P.cellsOf f0.type) := by
        rw [← List.drop_drop, List.take_append_drop]
      rw [this, List.map_append]
      refine RepL.append ?_ r1
      rw [← h2]
      exact r0
    · rcases List.mem_cons.1 hf with rfl | hf
      · rw [h2, Nat.sub_self, List.drop_zero, ← hl0, List.take_left']
        · rw [hl0] at *; exact t0
        · rfl
      · have h3 := tile_off q fs _ tot h.2 f hf
        have : (ds0 ++ ds1).drop (f.offset - off) = ds1.drop (f.offset - (off + P.cellsOf f0.type)) := by
          rw [List.drop_append, List.drop_of_length_le (by omega), List.nil_append]
          congr 1
          omega
        rw [this]
        exact t1 f hf

theorem rows_of_cells {w : World} {F : Nat → Prop} {b sz : Nat} {Q : List D → Prop} : ∀ (n off : Nat), (∀ i, i < n → ∃ c : List D, c.length = sz ∧ CellsRep w F b (off + i * sz) c ∧ Q c) → ∃ xs : List (List D), xs.length = n ∧ (∀ x ∈ xs, x.length = sz ∧ Q x) ∧ RowsRep w F b sz off xs
  | 0, off, h => ⟨[], rfl, by simp, trivial⟩
  | n + 1, off, h => by
    obtain ⟨c, h1, h2, h3⟩ := h 0 (by omega)
    obtain ⟨xs, g1, g2, g3⟩ := rows_of_cells (Q := Q) n (off + sz) fun i hi => by
      obtain ⟨c, k1, k2, k3⟩ := h (i + 1) (by omega)
      exact ⟨c, k1, by rwa [show off + sz + i * sz = off + (i + 1) * sz by rw [Nat.add_mul]; omega], k3⟩
    refine ⟨c :: xs, by simp [g1], fun x hx => ?_, ⟨by simpa using h2, g3⟩⟩
    rcases List.mem_cons.1 hx with rfl | hx
    · exact ⟨h1, h3⟩
    · exact g2 x hx

/-- A READING, AS DATA. -/
theorem read_data {H : Type} {enc : TypeId × Value → H} {w : World} {base : Nat} {spare : Nat → Bool} {held : Bool} : ∀ (n : Nat) (t : TypeId), plainT P n t = true → ∀ (fuel : Nat) (cs : List Value) (x : DataW H × List MemPlace), DataW.trod enc P w base spare held fuel t cs = some x →
    ∃ ds : List D, RepL [] w (fun _ => False) (ds.map .d) cs ∧ TyD P n t ds := by
  intro n
  induction n with
  | zero => intro t hp; simp [plainT] at hp
  | succ n ih =>
    intro t hp fuel cs x h
    cases hu : P.underlying t with
    | none => simp [plainT, hu] at hp
    | some u =>
      cases u with
      | bool =>
        obtain ⟨b, rfl, _⟩ := DataW.trod_bool hu h
        exact ⟨[.bool b], ⟨_, _, rfl, rfl, rfl⟩, by simp [TyD, hu]⟩
      | int k =>
        obtain ⟨i, rfl, _, hw⟩ := DataW.trod_int hu h
        simp [Lit.wf] at hw
        exact ⟨[.int k i], ⟨_, _, rfl, rfl, rfl⟩, by simp [TyD, hu, hw]⟩
      | string =>
        obtain ⟨s, rfl, _, hs⟩ := DataW.trod_string hu h
        exact ⟨[.str s], ⟨_, _, rfl, rfl, rfl⟩, by simp [TyD, hu, hs]⟩
      | slice e =>
        simp only [plainT, hu, Bool.and_eq_true] at hp
        obtain ⟨hpos, hpe⟩ := hp
        have hpos := Nat.le_of_ble_eq_true hpos
        rcases DataW.trod_slice hu h with ⟨rfl, _⟩ | ⟨a, len, cap, elems, rest, m, _, rfl, _, hb, hl, hm, hlen, hel, _, _⟩
        · exact ⟨[.slice true 0 []], ⟨_, _, rfl, .inl ⟨rfl, rfl, rfl⟩, rfl⟩, by simp only [TyD, hu]; exact ⟨true, [], by simp⟩⟩
        · have hcell : ∀ i, i < len → ∃ cs', w.cells? base (a.add (i * P.cellsOf e)) (P.cellsOf e) = some cs' ∧ ∃ y, DataW.trod enc P w base spare held m e cs' = some y := by
            intro i hi
            have := hel i hi
            rw [List.getElem?_eq_getElem (by omega)] at this
            obtain ⟨cs', h1, h2⟩ := Option.bind_eq_some_iff.1 this
            exact ⟨cs', h1, _, h2⟩
          -- the address is a plain one
          have hspot : 0 < len → a.spot = none ∧ a.block < w.heap.size := by
            intro h0
            obtain ⟨cs', h1, _⟩ := hcell 0 h0
            obtain ⟨_, h2, h3⟩ := World.cells?_some h1
            have h4 := h3 0 (by omega)
            rw [Nat.zero_mul, Addr.add_zero', Addr.add_zero', List.getElem?_eq_getElem (by omega)] at h4
            unfold World.cell? at h4
            split at h4
            · rename_i c e' fr hbk
              split at h4
              · simp at h4
              · rename_i hs
                exact ⟨by cases hs' : a.spot with
                  | none => rfl
                  | some z => rw [hs'] at hs; simp at hs, (Array.getElem?_eq_some_iff.1 hbk).1⟩
            · simp at h4
          obtain ⟨xs, g1, g2, g3⟩ := rows_of_cells (w := w) (F := fun _ => False) (b := a.block) (sz := P.cellsOf e) (Q := TyD P n e) len a.off fun i hi => by
            obtain ⟨cs', h1, y, h2⟩ := hcell i hi
            obtain ⟨ds, k1, k2⟩ := ih e hpe m cs' y h2
            obtain ⟨_, q2, q3⟩ := World.cells?_some h1
            have hln := RepL.length _ _ k1
            simp at hln
            refine ⟨ds, by omega, cells_of_vals _ _ _ k1 fun j v hj => ?_, k2⟩
            have hjl := lt_of_get hj
            have := q3 j (by omega)
            rw [hj] at this
            have hs := (hspot (by omega)).1
            have ha : a = ⟨a.block, a.off, none⟩ := by rw [← hs]
            rw [ha, Addr.add_lit, Addr.add_lit] at this
            exact this
          refine ⟨[.slice false (P.cellsOf e) xs], ⟨_, _, rfl, .inr ⟨rfl, a, cap, by rw [g1], by omega, fun x hx => (g2 x hx).1, ?_⟩, rfl⟩, by simp only [TyD, hu]; exact ⟨false, xs, by simp, by simp, by omega, g2⟩⟩
          rcases Nat.eq_zero_or_pos len with h0 | h0
          · exact .inl (List.eq_nil_of_length_eq_zero (by omega))
          · obtain ⟨s1, s2⟩ := hspot h0
            exact .inr ⟨a.block, a.off, by rw [← s1], fun h => h, s2, g3⟩
      | struct fs =>
        simp only [plainT, hu] at hp
        obtain ⟨xs, m, _, _, hl, hxl, hall⟩ := DataW.trod_struct hu h
        obtain ⟨ds, r1, r2⟩ := tile_join (P := P) (plainT P n) (T := TyD P n) (m := []) (w := w) (F := fun _ => False) (cs := cs) fs.toList 0 _ hp hl fun f hf => by
          obtain ⟨i, hi⟩ := List.getElem?_of_mem hf
          have hi' : fs[i]? = some f := by simpa using hi
          have hil : i < xs.length := by have := lt_of_get hi; simp at this; omega
          have := hall i f hi'
          rw [List.getElem?_eq_getElem hil] at this
          exact ih f.type (tile_off _ _ _ _ hp f hf).2.2 m _ _ this
        simp only [List.drop_zero] at r1
        refine ⟨ds, r1, ?_⟩
        simp only [TyD, hu]
        have hln := RepL.length _ _ r1
        simp at hln
        exact ⟨by omega, fun f hf => by simpa using r2 f hf⟩
      | _ => simp [plainT, hu] at hp
end
end Go.Ab
/- From a law's contract to its row. -/
set_option linter.unusedVariables false
set_option linter.unusedSimpArgs false
namespace Go.Ab
open Go Go.RowKit Go.ChangeShapes Go.WideShapes
section
variable {P : Program}

/-- An argument's abstract value. -/
def asArg (P : Program) (t : TypeId) (ds : List D) : A :=
  match isAggB P t, ds with
  | some true, ds => .agg (ds.map .d)
  | _, [x] => .d x
  | _, _ => .top
def ArgsOk (P : Program) : List TypeId → List A → Prop
  | [], as => as = []
  | t :: ts, as => ∃ ds as', as = asArg P t ds :: as' ∧ TyD P 8 t ds ∧ ArgsOk P ts as'

theorem arg_rep {H : Type} {enc : TypeId × Value → H} {w : World} {base b0 : Nat} {spare : Nat → Bool} {held : Bool} {t : TypeId} {v : Value} {d : DataW H} {ps : List MemPlace} {r : Reach} (hp : plainT P 8 t = true) (hval : Value.okWide P w r b0 t v) (h : DataW.Trod enc P w base spare held t v d ps) :
    ∃ ds, TyD P 8 t ds ∧ Rep [] w (fun _ => False) (asArg P t ds) v := by
  obtain ⟨fuel, hf⟩ := h
  obtain ⟨ds, h1, h2⟩ := read_data 8 t hp fuel _ _ hf
  refine ⟨ds, h2, ?_⟩
  have one : ∀ u, P.underlying t = some u → (∀ fs, u ≠ .struct fs) → (∀ n e, u ≠ .array n e) → v.cells.toList = [v] → Rep [] w (fun _ => False) (asArg P t ds) v := by
    intro u hu h3 h4 h5
    rw [h5] at h1
    have hl := RepL.length _ _ h1
    simp at hl
    match ds, hl with
    | [x], _ =>
      have hag : isAggB P t = some false := by
        unfold isAggB
        rw [hu]
        cases u <;> simp_all
      unfold asArg
      rw [hag]
      obtain ⟨v', _, e1, e2, _⟩ := h1
      simp at e1
      rw [e1.1]
      exact e2
  cases hu : P.underlying t with
  | none => simp [plainT, hu] at hp
  | some u =>
    cases u with
    | bool => obtain ⟨b, rfl⟩ := okWide_bool hu hval; exact one _ hu (by simp) (by simp) rfl
    | int k => obtain ⟨b, rfl⟩ := okWide_int hu hval; exact one _ hu (by simp) (by simp) rfl
    | string => obtain ⟨b, rfl⟩ := okWide_string hu hval; exact one _ hu (by simp) (by simp) rfl
    | slice e => obtain ⟨a, l, c, rfl⟩ := okWide_slice hu hval; exact one _ hu (by simp) (by simp) rfl
    | struct fs =>
      unfold Value.okWide at hval
      rw [hu] at hval
      obtain ⟨cs, rfl, _⟩ := hval
      have hag : isAggB P t = some true := by unfold isAggB; rw [hu]
      unfold asArg
      rw [hag]
      exact ⟨cs, rfl, h1⟩
    | _ => simp [plainT, hu] at hp
theorem args_rep {H : Type} {enc : TypeId × Value → H} {w : World} {base b0 : Nat} {spare : Nat → Bool} {held : Bool} {r : Reach} : ∀ (ts : List TypeId) (vs : List Value) (ds : List (DataW H)) (ps : List MemPlace), (∀ t ∈ ts, plainT P 8 t = true) →
    (∀ (j : Nat) t v, ts[j]? = some t → vs[j]? = some v → Value.okWide P w r b0 t v) → DataW.TrodAll enc P w base spare held ts vs ds ps → ∃ as, ArgsOk P ts as ∧ RepL [] w (fun _ => False) as vs
  | [], [], [], ps, _, _, _ => ⟨[], rfl, rfl⟩
  | t :: ts, v :: vs, d :: ds, ps, hp, hval, ⟨p, q, h1, h2, _⟩ => by
    obtain ⟨as, g1, g2⟩ := args_rep ts vs ds q (fun t ht => hp t (by simp [ht])) (fun j t v ht hv => hval (j + 1) t v (by simpa using ht) (by simpa using hv)) h2
    obtain ⟨xs, k1, k2⟩ := arg_rep (hp t (by simp)) (hval 0 t v rfl rfl) h1
    exact ⟨asArg P t xs :: as, ⟨xs, as, rfl, k1, g1⟩, ⟨v, vs, rfl, k2, g2⟩⟩
  | [], _ :: _, _, _, _, _, h => h.elim
  | [], [], _ :: _, _, _, _, h => h.elim
  | _ :: _, [], _, _, _, _, h => h.elim
  | _ :: _, _ :: _, [], _, _, _, h => h.elim

theorem trodAll_below {H : Type} {enc : TypeId × Value → H} {W W' : World} (hl : laidOutB P = true) (hb : Below W.heap.size W W') : ∀ (ts : List TypeId) (vs : List Value) (ds : List (DataW H)) (ps : List MemPlace), (∀ t ∈ ts, P.readableRec t = true ∧ t < P.types.size) →
    (∀ x ∈ ps, x.block < W.heap.size) → DataW.TrodAll enc P W 0 (fun _ => true) true ts vs ds ps → DataW.TrodAll enc P W' 0 (fun b => decide (b < W.heap.size)) true ts vs ds ps
  | [], [], [], ps, _, _, h => h
  | t :: ts, v :: vs, d :: ds, ps, hr, hlt, ⟨p, q, h1, h2, h3⟩ => by
    subst h3
    exact ⟨p, q, Below.trod hl (hr t (by simp)).1 (hr t (by simp)).2 h1 hb fun x hx => hlt x (by simp [hx]), trodAll_below hl hb ts vs ds q (fun t ht => hr t (by simp [ht])) (fun x hx => hlt x (by simp [hx])) h2, rfl⟩
  | [], _ :: _, _, _, _, _, h => h.elim
  | [], [], _ :: _, _, _, _, h => h.elim
  | _ :: _, [], _, _, _, _, h => h.elim
  | _ :: _, _ :: _, [], _, _, _, h => h.elim
theorem trodAll_len {H : Type} {enc : TypeId × Value → H} {w : World} {base : Nat} {spare : Nat → Bool} {held : Bool} : ∀ (ts : List TypeId) (vs : List Value) (ds : List (DataW H)) (ps : List MemPlace), DataW.TrodAll enc P w base spare held ts vs ds ps → ds.length = ts.length
  | [], [], [], ps, _ => rfl
  | t :: ts, v :: vs, d :: ds, ps, ⟨p, q, h1, h2, h3⟩ => by simp [trodAll_len ts vs ds q h2]
  | [], _ :: _, _, _, h => h.elim
  | [], [], _ :: _, _, h => h.elim
  | _ :: _, [], _, _, h => h.elim
  | _ :: _, _ :: _, [], _, h => h.elim

/-- Can a law's arguments be read here? -/
def lawArgs (P : Program) (ts : List TypeId) : Bool := ts.all fun t => plainT P 8 t && P.readableRec t && decide (t < P.types.size)

/-- A LAW's CALL, OUT OF ITS CONTRACT. -/
theorem law_calls (hl : laidOutB P = true) {f : FuncId} {fn : Func} {s : ChangeSpec} (hargs : lawArgs P fn.params.toList = true) {tb : TypeId} (hres : fn.resultTypes = #[tb]) (htb : P.underlying tb = some .bool) (hvars : s.vars = [])
    (hfn : ∀ (H : Type) (ds : List (DataW H)), ds.length = fn.params.size → s.fn H ds = { results := [.lit (.bool true)], args := ds }) {W : World}
    (hlaw : ∀ as, ArgsOk P fn.params.toList as → AEv P W f as [] (.d (.bool true)) [])
    {H : Type} {enc : TypeId × Value → H} {base : Nat} {args : Array Value} {ds gs : List (DataW H)} {before : List MemPlace} (hval : ∀ (j : Nat) t v, fn.params[j]? = some t → args[j]? = some v → Value.okWide P W .any base t v)
    (hW : DataW.Whole enc P fn.params.toList s.vars false W args.toList ds gs before) :
    Calls P f args W fun e W' => ∃ v, e = .returned v ∧ s.post enc P fn false true false false W args v W' := by
  have hW' := hW
  obtain ⟨p, q, hA, hV, rfl, hfz, hnd⟩ := hW
  rw [hvars] at hV
  obtain ⟨rfl, rfl⟩ := trodVars_none hV
  unfold lawArgs at hargs
  rw [List.all_eq_true] at hargs
  have harg : ∀ t ∈ fn.params.toList, plainT P 8 t = true ∧ P.readableRec t = true ∧ t < P.types.size := fun t ht => by
    have := hargs t ht
    simp only [Bool.and_eq_true, decide_eq_true_eq] at this
    exact ⟨this.1.1, this.1.2, this.2⟩
  obtain ⟨as, h1, h2⟩ := args_rep fn.params.toList args.toList ds p (fun t ht => (harg t ht).1) (fun j t v ht hv => hval j t v (by simpa using ht) (by simpa using hv)) hA
  have hc : Conc P W (fun _ => False) [] [] W := ⟨Below.refl _ _, rfl, fun b h => h.elim, fun i o l h => by simp at h, fun i o l h => by simp at h, fun i j o p l k h => by simp at h⟩
  have hff : FF (fun _ => False) [] [] = fun _ => False := by
    funext b
    apply propext
    constructor
    · rintro (h | ⟨i, o, l, h, _⟩)
      · exact h
      · simp at h
    · exact fun h => h.elim
  have := hlaw as h1 (fun _ => False) [] W args.toList hc (by rw [hff]; exact h2)
  refine (show Calls P f args W _ by simpa using this).mono fun e W' he => ?_
  cases e with
  | outgrown => exact he.elim
  | panicked ch => exact he.elim
  | returned v =>
    obtain ⟨m', _, hcc, hv⟩ := he
    simp only [Rep, DRep] at hv
    subst hv
    have hbelow := hcc.below
    have hlt : ∀ x ∈ p, x.block < W.heap.size := fun x hx => by simpa using hW'.lt x (by simpa using hx)
    have hspec := hfn H ds (by have := trodAll_len _ _ _ _ hA; simpa using this)
    refine ⟨_, rfl, ds, [], p, [], p, [], by simpa using hW', ?_, ?_, ?_, hbelow.frame _, fun h => by cases h⟩
    · rw [List.append_nil, hspec, hres]
      exact trodAll_mk1 (shut_bool htb _)
    · rw [List.append_nil, hspec]
      exact trodAll_below hl hbelow _ _ _ _ (fun t ht => (harg t ht).2) hlt hA
    · rw [List.append_nil, hspec, hvars]
      rfl
end
end Go.Ab
/- A run's tree, told by a skeleton: one reckoning of the kernel for the whole. -/
set_option linter.unusedVariables false
set_option linter.unusedSimpArgs false
namespace Go.Ab
open Go Go.RowKit

/-- What a run's tree shows: results, as a view shows them; questions; calls, and what they answer; loops, and what they come to. -/
inductive Sk (β : Type) where
  | ret (x : β)
  | q (b : Bool) (s t : Sk β)
  | qs (bs : List Bool) (s : Sk β)
  | chk (b : Bool) (s : Sk β)
  | opt (o : Option (List D)) (c : List D) (s : Sk β)
  | call (f : FuncId) (args : List A) (H : List Ob) (r : A) (H' : List Ob) (s : Sk β)
  | loop (c : Code) (W : List Nat) (ok : Bool) (s2 : St) (e : Ex) (s' : St) (s : Sk β)
  | stop
  | bad

/-- Questions whose answers are plain. -/
def Tr.wk {α : Type} : List Bool → Tr α → Tr α
  | [], t => t
  | b :: bs, .q _ k => Tr.wk bs (k b)
  | _, _ => .fail
def Tr.wkOk {α : Type} : List Bool → Tr α → Bool
  | [], _ => true
  | b :: bs, .q c k => match c, b with
    | true, true => Tr.wkOk bs (k true)
    | false, false => Tr.wkOk bs (k false)
    | _, _ => false
  | _, _ => false
/-- The skeleton of a tree, guided by one. -/
def proj {α β : Type} (n0 : Nat) (φ : α → β) : Sk β → Tr α → Sk β
  | .ret _, .ret x => .ret (φ x)
  | .q _ s t, .q b k => .q b (proj n0 φ s (k true)) (proj n0 φ t (k false))
  | .qs bs s, t => match Tr.wkOk bs t with | true => .qs bs (proj n0 φ s (Tr.wk bs t)) | false => .bad
  | .chk _ s, .chk b k => .chk b (proj n0 φ s k)
  | .opt _ c s, .opt o k => .opt o c (proj n0 φ s (k c))
  | .call _ _ _ r H' s, .call f args H k => .call f args H r H' (proj n0 φ s (k r H'))
  | .loop _ W _ _ e s' s, .loop c s0 k => .loop c W (tidyOk n0 W s0) (tidy n0 W s0) e s' (proj n0 φ s (k e s'))
  | .stop, _ => .stop
  | _, _ => .bad

section
variable (P : Program) (w0 : World) (n0 : Nat) {α β : Type} (Q : α → Prop) (Q' : β → Prop)
/-- What is left to show. -/
def vc : Sk β → Tr α → Prop
  | .ret x, _ => Q' x
  | .q b s u, t => (b = true → vc s t.qt) ∧ (b = false → vc u t.qf)
  | .qs bs s, t => vc s (Tr.wk bs t)
  | .chk b s, t => b = true ∧ vc s t.ck
  | .opt o c s, t => o = some c ∧ vc s (t.ok c)
  | .call f args H r H' s, t => AEv P w0 f args H r H' ∧ vc s (t.cres r H')
  | .loop c W ok s2 e s' s, t => (ok = true ∧ ACode P w0 n0 (.loop c) s2 (fun e0 s0 => e0 = e ∧ s0 = s')) ∧ vc s (t.lk e s')
  | .stop, t => wp P w0 n0 t Q
  | .bad, _ => False
end

section
variable {P : Program} {w0 : World} {n0 : Nat} {α β : Type} {Q : α → Prop} {Q' : β → Prop}
theorem wp_wk : ∀ (bs : List Bool) (t : Tr α), Tr.wkOk bs t = true → wp P w0 n0 (Tr.wk bs t) Q → wp P w0 n0 t Q
  | [], t, _, h => h
  | b :: bs, t, hk, h => by
    cases t <;> simp only [Tr.wkOk, Bool.false_eq_true] at hk
    rename_i c k
    simp only [Tr.wk] at h
    cases c <;> cases b <;> simp only [Bool.false_eq_true] at hk
    · exact ⟨fun e => by simp at e, fun _ => wp_wk bs _ hk h⟩
    · exact ⟨fun _ => wp_wk bs _ hk h, fun e => by simp at e⟩
theorem wp_sk {φ : α → β} (hφ : ∀ x, Q' (φ x) → Q x) : ∀ (s : Sk β) (t : Tr α), proj n0 φ s t = s → vc P w0 n0 Q Q' s t → wp P w0 n0 t Q
  | .ret x, t, h, hv => by
    cases t <;> simp only [proj, Sk.ret.injEq, reduceCtorEq] at h
    exact hφ _ (by rw [h]; exact hv)
  | .q b s1 s2, t, h, hv => by
    cases t <;> simp only [proj, Sk.q.injEq, reduceCtorEq] at h
    obtain ⟨rfl, h1, h2⟩ := h
    exact ⟨fun e => wp_sk hφ s1 _ h1 (hv.1 e), fun e => wp_sk hφ s2 _ h2 (hv.2 e)⟩
  | .qs bs s, t, h, hv => by
    cases hw : Tr.wkOk bs t with
    | false => simp only [proj, hw, reduceCtorEq] at h
    | true =>
      simp only [proj, hw, Sk.qs.injEq, true_and] at h
      exact wp_wk bs t hw (wp_sk hφ s _ h hv)
  | .chk b s, t, h, hv => by
    cases t <;> simp only [proj, Sk.chk.injEq, reduceCtorEq] at h
    obtain ⟨rfl, h1⟩ := h
    exact ⟨hv.1, wp_sk hφ s _ h1 hv.2⟩
  | .opt o c s, t, h, hv => by
    cases t <;> simp only [proj, Sk.opt.injEq, reduceCtorEq] at h
    obtain ⟨rfl, _, h1⟩ := h
    exact ⟨c, hv.1, wp_sk hφ s _ h1 hv.2⟩
  | .call f args H r H' s, t, h, hv => by
    cases t <;> simp only [proj, Sk.call.injEq, reduceCtorEq] at h
    obtain ⟨rfl, rfl, rfl, _, _, h1⟩ := h
    exact ⟨r, H', hv.1, wp_sk hφ s _ h1 hv.2⟩
  | .loop c W ok s2 e s' s, t, h, hv => by
    cases t <;> simp only [proj, Sk.loop.injEq, reduceCtorEq] at h
    obtain ⟨rfl, _, hok, hs2, _, _, h1⟩ := h
    obtain ⟨⟨v1, v2⟩, v3⟩ := hv
    exact ⟨fun e0 s0 => e0 = e ∧ s0 = s', acode_tidy (hok.trans v1) hs2 v2, fun e0 s0 ⟨he, hs⟩ => by subst he hs; exact wp_sk hφ s _ h1 v3⟩
  | .stop, t, h, hv => by cases t <;> exact hv
  | .bad, t, h, hv => by cases t <;> exact hv.elim

/-- A function's run. -/
theorem wp_fn {t : Tr (A × List Ob)} {Q : A × List Ob → Prop} (s : Sk (A × List Ob)) (h : proj n0 id s t = s) (hv : vc P w0 n0 Q Q s t) : wp P w0 n0 t Q := wp_sk (φ := id) (fun _ h => h) s t h hv
/-- A loop's round, as its end is seen. -/
def seen (n0 : Nat) (W : List Nat) (p : Ex × St) : Ex × Bool × St := (p.1, tidyOk n0 W p.2, tidy n0 W p.2)
def RoundQ (I : Nat → St → Prop) (J : Ex → St → Prop) (n : Nat) (p : Ex × Bool × St) : Prop :=
  p.2.1 = true ∧ match p.1 with
    | .normal => ∃ k, k < n ∧ I k p.2.2
    | e => J e p.2.2
theorem wp_rd {t : Tr (Ex × St)} {I : Nat → St → Prop} {J : Ex → St → Prop} {n : Nat} (W : List Nat) (s : Sk (Ex × Bool × St)) (h : proj n0 (seen n0 W) s t = s) (hv : vc P w0 n0 (Round P w0 n0 I J n) (RoundQ I J n) s t) : wp P w0 n0 t (Round P w0 n0 I J n) :=
  wp_sk (φ := seen n0 W) (fun x hx => by
    obtain ⟨e, st⟩ := x
    obtain ⟨h1, h2⟩ := hx
    unfold Round
    cases e with
    | normal => exact ⟨_, weak_tidy h1, h2⟩
    | exit id => exact ⟨_, weak_tidy h1, h2⟩
    | ret => exact ⟨_, weak_tidy h1, h2⟩) s t h hv

theorem vc_ret {x : β} {t : Tr α} (h : Q' x) : vc P w0 n0 Q Q' (.ret x) t := h
theorem vc_q {b : Bool} {s u : Sk β} {t : Tr α} (h1 : b = true → vc P w0 n0 Q Q' s t.qt) (h2 : b = false → vc P w0 n0 Q Q' u t.qf) : vc P w0 n0 Q Q' (.q b s u) t := ⟨h1, h2⟩
theorem vc_qs {bs : List Bool} {s : Sk β} {t : Tr α} (h : vc P w0 n0 Q Q' s (Tr.wk bs t)) : vc P w0 n0 Q Q' (.qs bs s) t := h
theorem vc_chk {b : Bool} {s : Sk β} {t : Tr α} (h1 : b = true) (h2 : vc P w0 n0 Q Q' s t.ck) : vc P w0 n0 Q Q' (.chk b s) t := ⟨h1, h2⟩
theorem vc_opt {o : Option (List D)} {c : List D} {s : Sk β} {t : Tr α} (h1 : o = some c) (h2 : vc P w0 n0 Q Q' s (t.ok c)) : vc P w0 n0 Q Q' (.opt o c s) t := ⟨h1, h2⟩
theorem vc_call {f : FuncId} {args : List A} {H : List Ob} {r : A} {H' : List Ob} {s : Sk β} {t : Tr α} (h1 : AEv P w0 f args H r H') (h2 : vc P w0 n0 Q Q' s (t.cres r H')) : vc P w0 n0 Q Q' (.call f args H r H' s) t := ⟨h1, h2⟩
theorem vc_loop {c : Code} {W : List Nat} {ok : Bool} {s2 : St} {e : Ex} {s' : St} {s : Sk β} {t : Tr α} (h0 : ok = true) (h1 : ACode P w0 n0 (.loop c) s2 (fun e0 s0 => e0 = e ∧ s0 = s')) (h2 : vc P w0 n0 Q Q' s (t.lk e s')) : vc P w0 n0 Q Q' (.loop c W ok s2 e s' s) t := ⟨⟨h0, h1⟩, h2⟩
theorem vc_stop {t : Tr α} (h : wp P w0 n0 t Q) : vc P w0 n0 Q Q' .stop t := h
theorem vc_next {I : Nat → St → Prop} {J : Ex → St → Prop} {n : Nat} {s2 : St} {t : Tr (Ex × St)} {Q : Ex × St → Prop} (h : ∃ k, k < n ∧ I k s2) : vc P w0 n0 Q (RoundQ I J n) (.ret (.normal, true, s2)) t := ⟨rfl, h⟩
theorem vc_exit {I : Nat → St → Prop} {J : Ex → St → Prop} {n : Nat} {s2 : St} {t : Tr (Ex × St)} {Q : Ex × St → Prop} {id : Nat} (h : J (.exit id) s2) : vc P w0 n0 Q (RoundQ I J n) (.ret (.exit id, true, s2)) t := ⟨rfl, h⟩
theorem vc_back {I : Nat → St → Prop} {J : Ex → St → Prop} {n : Nat} {s2 : St} {t : Tr (Ex × St)} {Q : Ex × St → Prop} (h : J .ret s2) : vc P w0 n0 Q (RoundQ I J n) (.ret (.ret, true, s2)) t := ⟨rfl, h⟩
end
/-- An element of a list of data of a type. -/
def at_ {T : Type} [Inhabited T] (l : List T) (i : Int) : T := l.getD i.toNat default
theorem at_get {T : Type} [Inhabited T] {l : List T} {i : Nat} (h : i < l.length) : l[i]? = some (at_ l i) := by
  simp [at_, h]
theorem getC_at {T : Type} [Inhabited T] {f : T → List D} {sz : Nat} {l : List T} {i : Int} (hf : ∀ x, (f x).length = sz) (h0 : 0 ≤ i) (h1 : i < l.length) : getC sz (l.map f) i = some (f (at_ l i)) := by
  have hlt : i.toNat < l.length := by omega
  unfold getC
  have hi : at_ l ((i.toNat : Nat) : Int) = at_ l i := by rw [Int.toNat_of_nonneg h0]
  rw [if_pos h0, List.getElem?_map, at_get hlt, hi]
  simp [hf]
end Go.Ab
/- Nil slices, whatever their elements' size; results that say the same. -/
set_option linter.unusedVariables false
set_option linter.unusedSimpArgs false
namespace Go.Ab
open Go Go.RowKit

mutual
def D.nrm : D → D
  | .slice n sz xs => .slice n (bif n then 0 else sz) (D.nrmR xs)
  | x => x
def D.nrmL : List D → List D
  | [] => []
  | x :: xs => D.nrm x :: D.nrmL xs
def D.nrmR : List (List D) → List (List D)
  | [] => []
  | c :: cs => D.nrmL c :: D.nrmR cs
end
mutual
def A.nrm : A → A
  | .d x => .d x.nrm
  | .pdat cs => .pdat (D.nrmL cs)
  | .clo f a c => .clo f (A.nrmL a) (A.nrmL c)
  | .ifc t x => .ifc t x.nrm
  | .agg cs => .agg (A.nrmL cs)
  | .tup xs => .tup (A.nrmL xs)
  | a => a
def A.nrmL : List A → List A
  | [] => []
  | a :: as => A.nrm a :: A.nrmL as
end
def Ob.nrm : Ob → Ob
  | .cells cs => .cells (A.nrmL cs)
  | .row nb e sz xs => .row nb e sz (D.nrmR xs)
  | o => o

theorem nrmL_len : ∀ (xs : List D), (D.nrmL xs).length = xs.length
  | [] => rfl
  | x :: xs => by simp [D.nrmL, nrmL_len xs]
theorem nrmR_len : ∀ (xs : List (List D)), (D.nrmR xs).length = xs.length
  | [] => rfl
  | x :: xs => by simp [D.nrmR, nrmR_len xs]
theorem nrmR_nil (xs : List (List D)) : D.nrmR xs = [] ↔ xs = [] := by cases xs <;> simp [D.nrmR]
theorem nrmR_all {sz : Nat} : ∀ (xs : List (List D)), (∀ x ∈ D.nrmR xs, x.length = sz) ↔ ∀ x ∈ xs, x.length = sz
  | [] => by simp [D.nrmR]
  | x :: xs => by simp [D.nrmR, nrmL_len, nrmR_all xs]
@[simp] theorem nrmL_append : ∀ (xs ys : List D), D.nrmL (xs ++ ys) = D.nrmL xs ++ D.nrmL ys
  | [], ys => rfl
  | x :: xs, ys => by simp [D.nrmL, nrmL_append xs]
@[simp] theorem nrmR_append : ∀ (xs ys : List (List D)), D.nrmR (xs ++ ys) = D.nrmR xs ++ D.nrmR ys
  | [], ys => rfl
  | x :: xs, ys => by simp [D.nrmR, nrmR_append xs]
@[simp] theorem nrmR_map {α : Type} (f : α → List D) : ∀ (l : List α), D.nrmR (l.map f) = l.map fun x => D.nrmL (f x)
  | [] => rfl
  | x :: l => by simp [D.nrmR, nrmR_map f l]

mutual
theorem drep_nrm {w : World} {F : Nat → Prop} : ∀ (x : D) (v : Value), DRep w F x.nrm v ↔ DRep w F x v
  | .bool _, _ => by simp [D.nrm]
  | .int _ _, _ => by simp [D.nrm]
  | .str _, _ => by simp [D.nrm]
  | .nilPtr, _ => by simp [D.nrm]
  | .nilFunc, _ => by simp [D.nrm]
  | .nilIface, _ => by simp [D.nrm]
  | .nilMap, _ => by simp [D.nrm]
  | .func _, _ => by simp [D.nrm]
  | .slice n sz xs, v => by
    simp only [D.nrm, DRep, nrmR_nil, nrmR_len, nrmR_all]
    cases n with
    | true => simp
    | false =>
      have := fun b off => rrep_nrm (w := w) (F := F) (b := b) (sz := sz) off xs
      simp [this]
theorem crep_nrm {w : World} {F : Nat → Prop} {b : Nat} : ∀ (off : Nat) (xs : List D), CellsRep w F b off (D.nrmL xs) ↔ CellsRep w F b off xs
  | _, [] => by simp [D.nrmL, CellsRep]
  | off, x :: xs => by
    have h1 := fun v => drep_nrm (w := w) (F := F) x v
    have h2 := crep_nrm (w := w) (F := F) (b := b) (off + 1) xs
    simp [D.nrmL, CellsRep, h1, h2]
theorem rrep_nrm {w : World} {F : Nat → Prop} {b sz : Nat} : ∀ (off : Nat) (xs : List (List D)), RowsRep w F b sz off (D.nrmR xs) ↔ RowsRep w F b sz off xs
  | _, [] => by simp [D.nrmR, RowsRep]
  | off, c :: cs => by
    have h1 := crep_nrm (w := w) (F := F) (b := b) off c
    have h2 := rrep_nrm (w := w) (F := F) (b := b) (sz := sz) (off + sz) cs
    simp [D.nrmR, RowsRep, h1, h2]
end
mutual
theorem rep_nrm {m : List Loc} {w : World} {F : Nat → Prop} : ∀ (a : A) (v : Value), Rep m w F a.nrm v ↔ Rep m w F a v
  | .d x, v => by simp only [A.nrm, Rep]; exact drep_nrm x v
  | .ptr _ _, _ => by simp [A.nrm]
  | .pel _ _ _, _ => by simp [A.nrm]
  | .pdat cs, v => by
    have := fun b off => crep_nrm (w := w) (F := F) (b := b) off cs
    simp [A.nrm, Rep, this]
  | .own _, _ => by simp [A.nrm]
  | .clo f a c, v => by
    have h1 := fun vs => repL_nrm (m := m) (w := w) (F := F) a vs
    have h2 := fun vs => repL_nrm (m := m) (w := w) (F := F) c vs
    simp [A.nrm, Rep, h1, h2]
  | .ifc t x, v => by
    have h1 := fun u => rep_nrm (m := m) (w := w) (F := F) x u
    simp [A.nrm, Rep, h1]
  | .agg cs, v => by
    have h1 := fun vs => repL_nrm (m := m) (w := w) (F := F) cs vs
    simp [A.nrm, Rep, h1]
  | .tup cs, v => by
    have h1 := fun vs => repL_nrm (m := m) (w := w) (F := F) cs vs
    simp [A.nrm, Rep, h1]
  | .top, _ => by simp [A.nrm]
theorem repL_nrm {m : List Loc} {w : World} {F : Nat → Prop} : ∀ (as : List A) (vs : List Value), RepL m w F (A.nrmL as) vs ↔ RepL m w F as vs
  | [], _ => by simp [A.nrmL]
  | a :: as, _ => by
    have h1 := fun v => rep_nrm (m := m) (w := w) (F := F) a v
    have h2 := fun vs => repL_nrm (m := m) (w := w) (F := F) as vs
    simp [A.nrmL, RepL, h1, h2]
end
section
variable {P : Program} {w0 : World} {n0 : Nat}
theorem nrm_live (o : Ob) : o.nrm.live = o.live := by cases o <;> rfl
theorem obOk_nrm {m : List Loc} {w : World} {F : Nat → Prop} {l : Loc} (o : Ob) : ObOk P m w F l o.nrm ↔ ObOk P m w F l o := by
  cases o with
  | cells cs =>
    have h1 := fun vs => repL_nrm (m := m) (w := w) (F := F) cs vs
    simp [Ob.nrm, ObOk, h1]
  | row nb e sz xs =>
    have h1 := fun b off => rrep_nrm (w := w) (F := F) (b := b) (sz := sz) off xs
    have h2 : (D.nrmR xs).isEmpty = xs.isEmpty := by cases xs <;> rfl
    simp [Ob.nrm, ObOk, h1, nrmR_len, nrmR_all, NilOk, nrmR_nil, h2]
  | iter s pos => rfl
  | dead => rfl
theorem nrm_at {H : List Ob} {i : Nat} {o : Ob} (h : (H.map Ob.nrm)[i]? = some o) : ∃ o', H[i]? = some o' ∧ o = o'.nrm := by
  rw [List.getElem?_map] at h
  cases hi : H[i]? with
  | none => rw [hi] at h; simp at h
  | some o' => rw [hi] at h; simp at h; exact ⟨o', rfl, h.symm⟩
theorem owned_nrm {m : List Loc} {H : List Ob} {b : Nat} : Owned m (H.map Ob.nrm) b ↔ Owned m H b := by
  constructor
  · rintro ⟨i, o, l, h1, h2, h3, h4, h5⟩
    obtain ⟨o', g1, rfl⟩ := nrm_at h1
    exact ⟨i, o', l, g1, h2, by rw [← nrm_live]; exact h3, h4, h5⟩
  · rintro ⟨i, o, l, h1, h2, h3, h4, h5⟩
    exact ⟨i, o.nrm, l, by simp [h1], h2, by rw [nrm_live]; exact h3, h4, h5⟩
theorem ff_nrm {X : Nat → Prop} {m : List Loc} {H : List Ob} : FF X m (H.map Ob.nrm) = FF X m H := by
  funext b
  exact propext (or_congr Iff.rfl owned_nrm)
theorem conc_nrm {X : Nat → Prop} {m : List Loc} {H : List Ob} {w : World} : Conc P w0 X m (H.map Ob.nrm) w ↔ Conc P w0 X m H w := by
  constructor
  · intro hc
    refine ⟨hc.below, by simpa using hc.len, hc.xlt, fun i o l h1 h2 => ?_, fun i o l h1 h2 h3 h4 => ?_, fun i j o p l k h1 h2 h3 h4 g1 g2 g3 g4 he => ?_⟩
    · have := hc.obj i o.nrm l (by simp [h1]) h2
      rw [ff_nrm] at this
      exact (obOk_nrm o).1 this
    · exact hc.own i o.nrm l (by simp [h1]) h2 (by rw [nrm_live]; exact h3) h4
    · exact hc.sep i j o.nrm p.nrm l k (by simp [h1]) h2 (by rw [nrm_live]; exact h3) h4 (by simp [g1]) g2 (by rw [nrm_live]; exact g3) g4 he
  · intro hc
    refine ⟨hc.below, by simpa using hc.len, hc.xlt, fun i o l h1 h2 => ?_, fun i o l h1 h2 h3 h4 => ?_, fun i j o p l k h1 h2 h3 h4 g1 g2 g3 g4 he => ?_⟩
    · obtain ⟨o', q1, rfl⟩ := nrm_at h1
      have := hc.obj i o' l q1 h2
      rw [ff_nrm]
      exact (obOk_nrm o').2 this
    · obtain ⟨o', q1, rfl⟩ := nrm_at h1
      exact hc.own i o' l q1 h2 (by rw [← nrm_live]; exact h3) h4
    · obtain ⟨o', q1, rfl⟩ := nrm_at h1
      obtain ⟨p', r1, rfl⟩ := nrm_at g1
      exact hc.sep i j o' p' l k q1 h2 (by rw [← nrm_live]; exact h3) h4 r1 g2 (by rw [← nrm_live]; exact g3) g4 he
/-- States that say the same. -/
def Same (s s' : St) : Prop := A.nrmL s.env = A.nrmL s'.env ∧ s.heap.map Ob.nrm = s'.heap.map Ob.nrm
theorem weak_same {s s' : St} (h : Same s s') : Weak P w0 n0 s s' := by
  intro X m w tmps hc hr
  have hff : FF X m s'.heap = FF X m s.heap := by rw [← ff_nrm (H := s'.heap), ← h.2, ff_nrm]
  refine ⟨m, ⟨fun _ _ => rfl, rfl, rfl, rfl, Nat.le_refl _, fun _ _ _ => rfl, fun b ho => .inl ?_⟩, ?_, ?_⟩
  · rw [← owned_nrm (H := s.heap), h.2, owned_nrm]; exact ho
  · rw [← conc_nrm (H := s'.heap), ← h.2, conc_nrm]; exact hc
  · rw [hff, ← repL_nrm s'.env, ← h.1, repL_nrm]; exact hr
/-- .. a function's results. -/
def Eqv (p p' : A × List Ob) : Prop := A.nrm p.1 = A.nrm p'.1 ∧ p.2.map Ob.nrm = p'.2.map Ob.nrm
theorem Eqv.of_eq {p p' : A × List Ob} (h : p = p') : Eqv p p' := by rw [h]; exact ⟨rfl, rfl⟩
theorem Eqv.weak {p p' : A × List Ob} (h : Eqv p p') : Weak P w0 n0 ⟨[p.1], p.2⟩ ⟨[p'.1], p'.2⟩ := weak_same ⟨by simp only [A.nrmL]; rw [h.1], h.2⟩
theorem aev_of_run_n (hmix : P.follows .mixedOrders = true) {f : FuncId} {fn : Func} (hf : P.funcs[f]? = some fn) (keep : List FuncId) (fz : Nat) {args : List A} {H : List Ob} {r : A} {H' : List Ob}
    (h : wp P w0 H.length (runFn P keep fz fn args H) (fun p => Eqv p (r, H'))) : AEv P w0 f args H r H' :=
  aev_of_run_w hmix hf keep fz (wp_mono (fun p hp => Eqv.weak hp) _ h)
theorem leaf_same {p p' : A × List Ob} (h : p = p') : Weak P w0 n0 ⟨[p.1], p.2⟩ ⟨[p'.1], p'.2⟩ := by rw [h]; exact Weak.refl _
theorem leaf_eqv {p p' : A × List Ob} (h : Eqv p p') : Weak P w0 n0 ⟨[p.1], p.2⟩ ⟨[p'.1], p'.2⟩ := h.weak
/-- A nil slice as a row of one's own. -/
theorem leaf_virt {z : Nat} {e : TypeId} {sz : Nat} {H : List Ob} (h : n0 ≤ H.length) : Weak P w0 n0 ⟨[.d (.slice true z [])], H⟩ ⟨[.own H.length], H ++ [.row true e sz []]⟩ := weak_virt (d := 0) (e := e) (sz := sz) (s := ⟨[.d (.slice true z [])], H⟩) h rfl
theorem acode_weak {c : Code} {s0 s1 : St} {J : Ex → St → Prop} (hw : Weak P w0 n0 s0 s1) (h : ACode P w0 n0 c s1 J) : ACode P w0 n0 c s0 J := by
  intro X m w a hc hr hd hn
  obtain ⟨m1, g1, g2, g3⟩ := hw X m w a.tmps.toList hc hr
  exact Go.wp_mono (h X m1 w a g2 g3 hd (ext_len g1 hn)) fun _ _ _ hp => Post.before g1 hp
/-- A contract at arguments that say the same. -/
theorem AEv.same {f : FuncId} {args args' : List A} {H H1 H' H1' : List Ob} {r r' : A} (h : AEv P w0 f args H r H') (h1 : A.nrmL args' = A.nrmL args) (h2 : H1.map Ob.nrm = H.map Ob.nrm) (h3 : Eqv (r, H') (r', H1')) : AEv P w0 f args' H1 r' H1' := by
  intro X m w vs hc hr
  have hff : FF X m H1 = FF X m H := by rw [← ff_nrm (H := H1), h2, ff_nrm]
  have hc' : Conc P w0 X m H w := by rw [← conc_nrm, ← h2, conc_nrm]; exact hc
  have hlen : H1.length = H.length := by have := congrArg List.length h2; simpa using this
  refine (h X m w vs hc' (by rw [← repL_nrm, ← h1, repL_nrm, ← hff]; exact hr)).mono fun e w' he => ?_
  cases e with
  | returned v =>
    obtain ⟨m', g1, g2, g3⟩ := he
    obtain ⟨m2, k1, k2, k3⟩ := (Eqv.weak (P := P) (w0 := w0) (n0 := H.length) h3) X m' w' [v] g2 ⟨_, _, rfl, g3, rfl⟩
    obtain ⟨u, hu, k4⟩ := repL_one k3
    simp only [List.cons.injEq, and_true] at hu
    subst hu
    have := g1.trans k1
    refine ⟨m2, ⟨fun i hi => this.pre i (by omega), this.os, this.tape, this.output, this.size, fun b hb hn => this.blk b hb fun ho => hn ?_, fun b ho => (this.own b ho).imp (fun h' => ?_) id⟩, k2, k4⟩
    · rw [← owned_nrm (H := H1), h2, owned_nrm]; exact ho
    · rw [← owned_nrm (H := H1), h2, owned_nrm]; exact h'
  | outgrown => exact he
  | panicked ch => exact he
end
end Go.Ab
namespace Go.Pl
def plain : Unit := ()
end Go.Pl
/- What data of a type are. -/
set_option linter.unusedVariables false
set_option linter.unusedSimpArgs false
namespace Go.Ab
open Go Go.RowKit
section
variable {P : Program}
theorem tyd_int {n t : Nat} {k : IntKind} {ds : List D} (hu : P.underlying t = some (.int k)) (h : TyD P (n + 1) t ds) : ∃ i, ds = [.int k i] ∧ k.min ≤ i ∧ i ≤ k.max := by
  unfold TyD at h; rw [hu] at h; exact h
theorem tyd_bool {n t : Nat} {ds : List D} (hu : P.underlying t = some .bool) (h : TyD P (n + 1) t ds) : ∃ b, ds = [.bool b] := by
  unfold TyD at h; rw [hu] at h; exact h
theorem tyd_str {n t : Nat} {ds : List D} (hu : P.underlying t = some .string) (h : TyD P (n + 1) t ds) : ∃ s, ds = [.str s] ∧ s.size ≤ maxLen := by
  unfold TyD at h; rw [hu] at h; exact h
theorem tyd_slice {n t e : Nat} {ds : List D} (hu : P.underlying t = some (.slice e)) (h : TyD P (n + 1) t ds) : ∃ isNil xs, ds = [.slice isNil (if isNil then 0 else P.cellsOf e) xs] ∧ (isNil = true → xs = []) ∧ xs.length ≤ maxLen ∧ ∀ x ∈ xs, x.length = P.cellsOf e ∧ TyD P n e x := by
  unfold TyD at h; rw [hu] at h; exact h
theorem tyd_struct {n t : Nat} {fs : Array Field} {ds : List D} (hu : P.underlying t = some (.struct fs)) (h : TyD P (n + 1) t ds) : ds.length = P.cellsOf t ∧ ∀ f ∈ fs.toList, TyD P n f.type ((ds.drop f.offset).take (P.cellsOf f.type)) := by
  unfold TyD at h; rw [hu] at h; exact h
/-- A field's data, by its place. -/
theorem tyd_field {n t : Nat} {fs : Array Field} {ds : List D} (hu : P.underlying t = some (.struct fs)) (h : TyD P (n + 1) t ds) (i : Nat) {ft off sz : Nat} (hi : ((fs[i]?).map fun f => (f.type, f.offset, P.cellsOf f.type)) = some (ft, off, sz)) : TyD P n ft ((ds.drop off).take sz) := by
  cases hf : fs[i]? with
  | none => rw [hf] at hi; simp at hi
  | some f =>
    rw [hf] at hi
    simp only [Option.map_some, Option.some.injEq, Prod.mk.injEq] at hi
    obtain ⟨rfl, rfl, rfl⟩ := hi
    exact (tyd_struct hu h).2 f (by
      have := Array.mem_of_getElem? hf
      simpa using this)
/-- Data one by one, as data of another type. -/
theorem all_map {T : Type} {f : T → List D} {Q : T → Prop} : ∀ (xs : List (List D)), (∀ x ∈ xs, ∃ y, Q y ∧ D.nrmL x = D.nrmL (f y)) → ∃ l : List T, (∀ y ∈ l, Q y) ∧ D.nrmR xs = D.nrmR (l.map f) ∧ l.length = xs.length
  | [], _ => ⟨[], by simp, rfl, rfl⟩
  | x :: xs, h => by
    obtain ⟨y, h1, h2⟩ := h x (by simp)
    obtain ⟨l, g1, g2, g3⟩ := all_map xs fun x hx => h x (by simp [hx])
    refine ⟨y :: l, ?_, ?_, by simp [g3]⟩
    · intro z hz
      rcases List.mem_cons.1 hz with rfl | hz
      · exact h1
      · exact g1 z hz
    · simp only [List.map_cons, D.nrmR]
      rw [h2, g2]
theorem nrmL_map : ∀ (ds : List D), A.nrmL (ds.map .d) = (D.nrmL ds).map .d
  | [] => rfl
  | x :: xs => by simp [A.nrmL, D.nrmL, A.nrm, nrmL_map xs]
end
end Go.Ab
/- slices.Insert of one element, out of the walks of its body. -/
set_option linter.unusedVariables false
set_option linter.unusedSimpArgs false
namespace Go.Ab
open Go Go.RowKit
section
variable {P : Program} {w0 : World}
/-- copy, elements of any size. -/
theorem run_copy_sz (w : World) (dT sT ty elem : TypeId) (g o dLen dCap : Nat) (a : Addr) (sLen sCap : Nat) (cur : Array Value) (t : TypeId) (cs : List Value) (sz k : Nat)
    (hu : P.underlying dT = some (.slice elem)) (hs : (P.info? elem).map (·.size) = some sz)
    (hg : w.heap[g]? = some (.cells cur t (0, 0))) (hk : Nat.min sLen dLen = k) (hn : cs.length = k * sz)
    (hsrc : ∀ j v, cs[j]? = some v → w.cell? (a.add j) = some v) (hfit : o + cs.length ≤ cur.size) (h1 : ∀ v ∈ cs, v.oneCell' = true) :
    (Builtin.copy_ #[dT, sT] ty #[.slice (some ⟨g, o, none⟩) dLen dCap, .slice (some a) sLen sCap]).run P w =
      .ok (goInt k) (w.setRow g (cur.toList.take o ++ cs ++ cur.toList.drop (o + cs.length)).toArray) := by
  have hl := run_loadCells_list (P := P) w a cs hsrc
  have hst := run_storeCells_at P g o t cs 0 cur w hg (by simpa using hfit) h1
  cases hq : P.info? elem with
  | none => simp [hq] at hs
  | some i =>
    have hi : i.size = sz := by simpa [hq] using hs
    simp [Builtin.copy_, run_underlying hu, Builtin.lenOf, Builtin.firstCells, sizeOf, typeInfo, hq, hi, hk, ← hn, hl, hst]

/-- The walks of a body of slices.Insert, one element being inserted. -/
structure InsW (P : Program) (f ov t tn sz : Nat) : Prop where
  shift : ∀ (b n c i vb voff vc : Nat) (W1 W2 w : World), i < n → n + 1 ≤ c → c ≤ 9223372036854775807 →
    (∀ lb cb, (callFunc ov #[.slice (some ⟨vb, voff, none⟩) 1 vc, .slice (some ⟨b, (i + 1) * sz, none⟩) lb cb]).run P w = .ok (.value (.bool false)) w) →
    (∀ ty dc sc, (Builtin.copy_ #[t, t] ty #[.slice (some ⟨b, (i + 1) * sz, none⟩) (n - i) dc, .slice (some ⟨b, i * sz, none⟩) (n + 1 - i) sc]).run P w.drew = .ok (goInt (n - i)) W1) →
    (∀ (W : World), W = W1 → ∀ ty dc, (Builtin.copy_ #[t, t] ty #[.slice (some ⟨b, i * sz, none⟩) (n + 1 - i) dc, .slice (some ⟨vb, voff, none⟩) 1 vc]).run P W = .ok (goInt 1) W2) →
    Calls P f #[.slice (some ⟨b, 0, none⟩) n c, .int .i64 i, .slice (some ⟨vb, voff, none⟩) 1 vc] w fun e w' => e = .returned (.slice (some ⟨b, 0, none⟩) (n + 1) c) ∧ w' = W2
  grow : ∀ (b n c i vb voff vc N G : Nat) (WA WB WC w : World), i < n → n ≤ c → c < n + 1 → c ≤ 9223372036854775807 → n + 1 ≤ G → G ≤ 9223372036854775807 →
    (∀ ty, (Builtin.append_ #[t, tn] ty #[.slice (some ⟨b, 0, none⟩) i c, .int .i64 ((n : Int) + 1 - (i : Int))]).run P w = .ok (.slice (some ⟨N, 0, none⟩) (n + 1) G) WA) →
    (∀ ty dc, (Builtin.copy_ #[t, t] ty #[.slice (some ⟨N, i * sz, none⟩) (n + 1 - i) dc, .slice (some ⟨vb, voff, none⟩) 1 vc]).run P WA = .ok (goInt 1) WB) →
    (∀ ty dc sc, (Builtin.copy_ #[t, t] ty #[.slice (some ⟨N, (i + 1) * sz, none⟩) (n - i) dc, .slice (some ⟨b, i * sz, none⟩) (n - i) sc]).run P WB.drew = .ok (goInt (n - i)) WC) →
    Calls P f #[.slice (some ⟨b, 0, none⟩) n c, .int .i64 i, .slice (some ⟨vb, voff, none⟩) 1 vc] w fun e w' => e = .returned (.slice (some ⟨N, 0, none⟩) (n + 1) G) ∧ w' = WC
  fin : ∀ (s : Option Addr) (n c vb voff vc : Nat) (R : Value → World → Prop) (w : World), n ≤ c → c ≤ 9223372036854775807 → (s = none → n = 0 ∧ c = 0) →
    (∀ (o : Oper) (s0 x0 : Operand) (a : Act) (K : Act → World → Prop) (Q : Exit → Act → World → Prop), o.op = .call { callee := .builtin .append, args := #[s0, x0], argTypes := #[t, t] } → a.eval s0 = .slice s n c → a.eval x0 = .slice (some ⟨vb, voff, none⟩) 1 vc →
      (∀ v' w', R v' w' → K (a.put o.dst v') w') → o.wp P a w K Q) →
    Calls P f #[.slice s n c, .int .i64 n, .slice (some ⟨vb, voff, none⟩) 1 vc] w fun e w' => ∃ v', e = .returned v' ∧ R v' w'

theorem splice_shift {L olds vals : List Value} {k z N : Nat} (h : L.take N = olds) (hk : k ≤ N) (hz : vals.length = z) (hN : N + z ≤ L.length) (ho : olds.length = N) :
    (L.take (k + z) ++ olds.drop k ++ L.drop (k + z + (olds.drop k).length)).take k ++ vals ++ (L.take (k + z) ++ olds.drop k ++ L.drop (k + z + (olds.drop k).length)).drop (k + vals.length) = olds.take k ++ (vals ++ olds.drop k) ++ L.drop (N + z) := by
  have e1 : (L.take (k + z) ++ olds.drop k ++ L.drop (k + z + (olds.drop k).length)).take k = olds.take k := by
    rw [List.append_assoc, List.take_append_of_le_length (by simp; omega), List.take_take, ← h, List.take_take]
    congr 1; omega
  have e2 : (L.take (k + z) ++ olds.drop k ++ L.drop (k + z + (olds.drop k).length)).drop (k + vals.length) = olds.drop k ++ L.drop (N + z) := by
    rw [hz, List.append_assoc, List.drop_append_of_le_length (by simp; omega), List.drop_of_length_le (by simp; omega), List.nil_append]
    have : k + z + (olds.drop k).length = N + z := by simp; omega
    rw [this]
  rw [e1, e2]
  simp only [List.append_assoc]
theorem splice_grow {L olds vals : List Value} {k z N : Nat} (h : L.take k = olds.take k) (hk : k ≤ N) (hz : vals.length = z) (hN : N + z ≤ L.length) (ho : olds.length = N) :
    (L.take k ++ vals ++ L.drop (k + vals.length)).take (k + z) ++ olds.drop k ++ (L.take k ++ vals ++ L.drop (k + vals.length)).drop (k + z + (olds.drop k).length) = olds.take k ++ (vals ++ olds.drop k) ++ L.drop (N + z) := by
  have e1 : (L.take k ++ vals ++ L.drop (k + vals.length)).take (k + z) = olds.take k ++ vals := by
    have hl : (L.take k ++ vals).length = k + z := by simp; omega
    rw [← hl, List.take_left', h]
    rfl
  have e2 : (L.take k ++ vals ++ L.drop (k + vals.length)).drop (k + z + (olds.drop k).length) = L.drop (N + z) := by
    have hl : (L.take k ++ vals).length = k + z := by simp; omega
    rw [List.drop_append, List.drop_of_length_le (by rw [hl]; omega), List.nil_append, hl, List.drop_drop]
    congr 1; simp; omega
  rw [e1, e2]
  simp only [List.append_assoc]
theorem flat_take {sz : Nat} : ∀ (xs : List (List D)) (i : Nat), (∀ x ∈ xs, x.length = sz) → i ≤ xs.length → (xs.take i).flatten = xs.flatten.take (i * sz) ∧ (xs.drop i).flatten = xs.flatten.drop (i * sz)
  | xs, 0, _, _ => by simp
  | [], i + 1, _, h => by simp at h
  | x :: xs, i + 1, hl, h => by
    obtain ⟨a, b⟩ := flat_take xs i (fun y hy => hl y (by simp [hy])) (by simpa using h)
    have hx := hl x (by simp)
    have e : (i + 1) * sz = x.length + i * sz := by rw [Nat.add_mul, hx]; omega
    refine ⟨?_, ?_⟩
    · rw [List.take_succ_cons, List.flatten_cons, List.flatten_cons, a, e, List.take_append, List.take_of_length_le (l := x) (Nat.le_add_right _ _), Nat.add_sub_cancel_left]
    · rw [List.drop_succ_cons, List.flatten_cons, b, e, List.drop_append]
      simp
/-- An own row whose cells are these values. -/
theorem row_of_vals {m : List Loc} {w : World} {F : Nat → Prop} {b sz : Nat} {xs : List (List D)} {vals : List Value} {cur : Array Value} {e : TypeId} (hl : ∀ x ∈ xs, x.length = sz) (hr : RepL m w F (xs.flatten.map .d) vals)
    (hb : w.heap[b]? = some (.cells cur e (0, 0))) (hc : ∀ (j : Nat) (u : Value), vals[j]? = some u → cur[j]? = some u) : RowsRep w F b sz 0 xs := by
  rw [rows_flat _ _ hl]
  refine cells_of_vals (m := m) _ _ vals hr fun j v hj => ?_
  rw [cell_of_cells hb, Nat.zero_add]
  exact hc j v hj
theorem heap_drew (w : World) : w.drew.heap = w.heap := rfl
theorem setRow_size (w : World) (g : Nat) (cs : Array Value) : (w.setRow g cs).heap.size = w.heap.size := by unfold World.setRow; simp
theorem insert_mem {xs : List (List D)} {y : List D} {i sz : Nat} (hx : ∀ x ∈ xs, x.length = sz) (hy : y.length = sz) : ∀ x ∈ xs.take i ++ y :: xs.drop i, x.length = sz := by
  intro x h
  rcases List.mem_append.1 h with h | h
  · exact hx x (List.mem_of_mem_take h)
  · rcases List.mem_cons.1 h with rfl | h
    · exact hy
    · exact hx x (List.mem_of_mem_drop h)

/-- INSERT. -/
theorem aev_insert {f ov t tn e sz : Nat} (hw : InsW P f ov t tn sz) (hu : P.underlying t = some (.slice e)) (hun : P.underlying tn = some (.int .i64)) (hg : growOk P e = true) (hce : P.cellsOf e = sz)
    (hov : ∀ (w : World) (a b : Addr) (la ca lb cb : Nat) (tA tB : TypeId) (kA kB : Nat), a.block ≠ b.block → w.shape? a.block = some (tA, kA) → w.shape? b.block = some (tB, kB) → kB ≠ 0 → w.frozen? a = false → w.frozen? { block := a.block, off := kA } = false →
      (callFunc ov #[.slice (some a) la ca, .slice (some b) lb cb]).run P w = .ok (.value (.bool false)) w)
    (nb nb2 : Bool) (xs : List (List D)) (y : List D) (i : Nat) (hi : i ≤ xs.length) (hx : xs.length ≤ 1000000000) :
    AEv P w0 f [.own 0, .d (.int .i64 i), .own 1] [.row nb e sz xs, .row nb2 e sz [y]] (.own 2) [.dead, .row nb2 e sz [y], .row nb e sz (xs.take i ++ y :: xs.drop i)] := by
  intro X m w vs hc hr
  obtain ⟨u, q, v, rfl, h1, h2, h3⟩ := repL_three hr
  simp only [Rep, DRep] at h2
  subst h2
  obtain ⟨l, hl, hcase⟩ := h1
  obtain ⟨l2, hl2, hcase2⟩ := h3
  have hlen := hc.len
  obtain ⟨k1, k2, k3, k4, k5⟩ := hc.obj 0 _ _ rfl hl
  obtain ⟨j1, j2, j3, j4, j5⟩ := hc.obj 1 _ _ rfl hl2
  obtain ⟨ie, z, hie, hz, hzs, hpos, hby, hce', hbe, hb2⟩ := growOk_some hg
  have hsz : ie.size = sz := by rw [← hce', hce]
  have hnil2 : l2.nil = false := j3.block (by simp)
  obtain ⟨cur2, g1, g2, g3, g4, _, g6⟩ := j5 hnil2
  have hv : v = .slice (some ⟨l2.b, 0, none⟩) 1 l2.cap := by
    rcases hcase2 with ⟨h, _⟩ | ⟨_, h⟩
    · rw [hnil2] at h; simp at h
    · rw [h, j2]; rfl
  subst hv
  have hy : y.length = sz := j4 y (by simp)
  obtain ⟨yv, yl, yr, yc, y1⟩ := elems_vals (m := m) (H := [.row nb e sz xs, .row nb2 e sz [y]]) (X := X) j4 g6
  simp only [List.length_singleton, Nat.one_mul] at yl
  have hs' : (P.info? e).map (·.size) = some sz := by rw [hie]; simp [hsz]
  by_cases hin : i = xs.length
  · -- at the end
    subst hin
    have hsl : ∃ (s : Option Addr) (c : Nat), u = .slice s xs.length c ∧ xs.length ≤ c ∧ c ≤ 9223372036854775807 ∧ (s = none → xs.length = 0 ∧ c = 0) := by
      rcases hcase with ⟨h, hv⟩ | ⟨h, hv⟩
      · have := (k3.1 h).1
        subst this
        exact ⟨l.adr, 0, hv, Nat.le_refl _, by omega, fun _ => ⟨rfl, rfl⟩⟩
      · obtain ⟨cur, q1, q2, q3, q4, _⟩ := k5 h
        rw [k2] at q2
        exact ⟨_, l.cap, by rw [hv, k2], q2, by simp only [maxLen] at q3; omega, fun h => by simp at h⟩
    obtain ⟨s, c, rfl, hc1, hc2, hc3⟩ := hsl
    refine (hw.fin s xs.length c l2.b 0 l2.cap (fun v' w' => ∃ m', Ext 2 m [.row nb e sz xs, .row nb2 e sz [y]] w m' [.dead, .row nb2 e sz [y], .row nb e sz (xs ++ [y])] w' ∧ Conc P w0 X m' [.dead, .row nb2 e sz [y], .row nb e sz (xs ++ [y])] w' ∧ Rep m' w' (FF X m' [.dead, .row nb2 e sz [y], .row nb e sz (xs ++ [y])]) (.own 2) v') w hc1 hc2 hc3 ?_).mono ?_
    · intro o s0 x0 a K Q ho e1 e2 hK
      obtain ⟨dst, op, type, pos, after, guard⟩ := o
      simp only at ho
      subst ho
      have := append_ok (P := P) (w0 := w0) (dst := dst) (type := type) (pos := pos) (after := after) (guard := guard) (t := t) (e := e) (s0 := s0) (x0 := x0) (s := .own 0) (x := .own 1) (H := [.row nb e sz xs, .row nb2 e sz [y]]) (id := some 0) (nb := nb) (isNil := nb2 && false) (sz' := sz) (xs := xs) (ys := [y]) hu hg (by simp [elemsOf]) (by simp [hce])
        ⟨rfl, by rw [hce]; rfl, rfl⟩ (by simp; omega)
      refine this X m w a hc ?_ K Q fun m' w' v' q1 q2 q3 => hK v' w' ⟨m', ?_⟩
      · simp only [Op.operands, Call.operands]
        simp only [List.append_toArray, List.nil_append, List.map_cons, List.map_nil, e1, e2]
        exact ⟨_, _, rfl, ⟨l, hl, hcase⟩, _, _, rfl, ⟨l2, hl2, hcase2⟩, rfl⟩
      · rw [hce] at q1 q2 q3
        exact ⟨q1, q2, q3⟩
    · intro e' w' ⟨v', he, m', q1, q2, q3⟩
      subst he
      simp only [List.take_length, List.drop_length]
      exact ⟨m', q1, q2, q3⟩
  · -- ahead of it
    have hin' : i < xs.length := by omega
    have hnil : l.nil = false := k3.block (by rintro rfl; simp at hin')
    obtain ⟨cur, q1, q2, q3, q4, _, q6⟩ := k5 hnil
    have hu' : u = .slice (some ⟨l.b, 0, none⟩) xs.length l.cap := by
      rcases hcase with ⟨h, _⟩ | ⟨_, h⟩
      · rw [hnil] at h; simp at h
      · rw [h, k2]
    subst hu'
    obtain ⟨xv, xl, xr, xc, x1⟩ := elems_vals (m := m) (H := [.row nb e sz xs, .row nb2 e sz [y]]) (X := X) k4 q6
    have hbb : l.b ≠ l2.b := fun h => by have := hc.sep 0 1 _ _ _ _ rfl hl rfl hnil rfl hl2 rfl hnil2 h; omega
    have hown := hc.own 0 _ _ rfl hl rfl hnil
    have hown2 := hc.own 1 _ _ rfl hl2 rfl hnil2
    rw [k2] at q2
    have hcl : cur.toList.length = l.cap * sz := by simp [q4]
    have hcap : l.cap ≤ 9223372036854775807 := by simp only [maxLen] at q3; omega
    have hLo : cur.toList.take (xs.length * sz) = xv := by
      have hle : xs.length * sz ≤ cur.size := by rw [q4]; exact Nat.mul_le_mul_right _ q2
      apply List.ext_getElem?
      intro j
      by_cases hj : j < xs.length * sz
      · rw [List.getElem?_take_of_lt hj]
        have := xc j _ (List.getElem?_eq_getElem (by omega))
        rw [Addr.add_lit, cell_of_cells q1, Nat.zero_add] at this
        rw [Array.getElem?_toList, this, List.getElem?_eq_getElem (by omega)]
      · rw [List.getElem?_take, if_neg hj, List.getElem?_eq_none (by omega)]
    have hNew : ∀ (w' : World) (F' : Nat → Prop) (m' : List Loc), Stays w (FF X m [.row nb e sz xs, .row nb2 e sz [y]]) w' F' → (∀ (i : Nat) (k : Loc), m[i]? = some k → m'[i]? = some k) → RepL m' w' F' ((xs.take i ++ y :: xs.drop i).flatten.map .d) (xv.take (i * sz) ++ (yv ++ xv.drop (i * sz))) := by
      intro w' F' m' hst hm
      obtain ⟨f1, f2⟩ := flat_take xs i k4 hi
      have : RepL m w (FF X m [.row nb e sz xs, .row nb2 e sz [y]]) ((xs.take i ++ y :: xs.drop i).flatten.map .d) (xv.take (i * sz) ++ (yv ++ xv.drop (i * sz))) := by
        rw [List.flatten_append, List.flatten_cons, f1, f2, List.map_append, List.map_append, List.map_take, List.map_drop]
        refine RepL.append (RepL.take _ xr) (RepL.append ?_ (RepL.drop _ xr))
        simpa using yr
      exact RepL.stays hst hm _ _ this
    have hdl : (xv.drop (i * sz)).length = (xs.length - i) * sz := by rw [List.length_drop, xl, Nat.sub_mul]
    have hk : i * sz ≤ xs.length * sz := Nat.mul_le_mul_right _ hi
    have hall := insert_mem (i := i) k4 hy
    have hln : (xs.take i ++ y :: xs.drop i).length = xs.length + 1 := by simp; omega
    have hne : (nb && (xs.take i ++ y :: xs.drop i).isEmpty) = false := by
      have : (xs.take i ++ y :: xs.drop i).isEmpty = false := by
        cases hh : (xs.take i ++ y :: xs.drop i) with
        | nil => rw [hh] at hln; simp at hln
        | cons _ _ => rfl
      rw [this]; cases nb <;> rfl
    by_cases hroom : xs.length + 1 ≤ l.cap
    · -- there is room
      have hfit : (i + 1) * sz + (xs.length - i) * sz ≤ cur.size := by
        rw [← Nat.add_mul, q4]; exact Nat.mul_le_mul_right _ (by omega)
      have hrow1 := fun ty dc sc => run_copy_sz (P := P) w.drew t t ty e l.b ((i + 1) * sz) (xs.length - i) dc ⟨l.b, i * sz, none⟩ (xs.length + 1 - i) sc cur e (xv.drop (i * sz)) sz (xs.length - i) hu hs' q1 (by simp only [Nat.min_def]; split <;> omega) hdl
        (fun j v hj => by
          rw [List.getElem?_drop] at hj
          have := xc _ v hj
          rw [Addr.add_lit, Nat.zero_add] at this
          rw [Addr.add_lit]; exact this) (by rw [hdl]; exact hfit) (fun v hv => x1 v (List.mem_of_mem_drop hv))
      have hW1 : ∃ W1, W1 = w.drew.setRow l.b (cur.toList.take ((i + 1) * sz) ++ xv.drop (i * sz) ++ cur.toList.drop ((i + 1) * sz + (xv.drop (i * sz)).length)).toArray := ⟨_, rfl⟩
      obtain ⟨W1, hW1⟩ := hW1
      rw [← hW1] at hrow1
      have hh1 : W1.heap[l.b]? = some (.cells (cur.toList.take ((i + 1) * sz) ++ xv.drop (i * sz) ++ cur.toList.drop ((i + 1) * sz + (xv.drop (i * sz)).length)).toArray e (0, 0)) := by
        rw [hW1]; exact setRow_heap _ _ _ _ _ _ q1
      have hsize1 : (i * sz + yv.length) ≤ (cur.toList.take ((i + 1) * sz) ++ xv.drop (i * sz) ++ cur.toList.drop ((i + 1) * sz + (xv.drop (i * sz)).length)).toArray.size := by
        have : (i + 1) * sz = i * sz + sz := by rw [Nat.add_mul]; omega
        simp only [List.size_toArray, List.length_append, List.length_take, List.length_drop, Array.length_toList, yl]
        omega
      have hrow2 := fun ty dc => run_copy_sz (P := P) W1 t t ty e l.b (i * sz) (xs.length + 1 - i) dc ⟨l2.b, 0, none⟩ 1 l2.cap _ e yv sz 1 hu hs' hh1 (by simp only [Nat.min_def]; split <;> omega) (by rw [yl]; omega)
        (fun j v hj => by
          have := yc j v hj
          rw [Addr.add_lit, Nat.zero_add] at this ⊢
          rw [← this]
          have : W1.heap[l2.b]? = w.heap[l2.b]? := by rw [hW1]; exact setRow_other _ _ _ _ hbb.symm
          simp only [World.cell?, this]) hsize1 y1
      obtain ⟨W2, hW2⟩ : ∃ W2, W2 = W1.setRow l.b ((cur.toList.take ((i + 1) * sz) ++ xv.drop (i * sz) ++ cur.toList.drop ((i + 1) * sz + (xv.drop (i * sz)).length)).toArray.toList.take (i * sz) ++ yv ++ (cur.toList.take ((i + 1) * sz) ++ xv.drop (i * sz) ++ cur.toList.drop ((i + 1) * sz + (xv.drop (i * sz)).length)).toArray.toList.drop (i * sz + yv.length)).toArray := ⟨_, rfl⟩
      rw [← hW2] at hrow2
      have hh2 : W2.heap[l.b]? = some (.cells (xv.take (i * sz) ++ (yv ++ xv.drop (i * sz)) ++ cur.toList.drop (xs.length * sz + sz)).toArray e (0, 0)) := by
        rw [hW2, setRow_heap _ _ _ _ _ _ hh1]
        have e1 : (i + 1) * sz = i * sz + sz := by rw [Nat.add_mul]; omega
        have := splice_shift (L := cur.toList) (olds := xv) (vals := yv) (k := i * sz) (z := sz) (N := xs.length * sz) hLo hk yl (by
          rw [hcl]
          have := Nat.mul_le_mul_right sz hroom
          rw [Nat.add_mul] at this
          omega) xl
        rw [List.toList_toArray, e1, this]
      refine (hw.shift l.b xs.length l.cap i l2.b 0 l2.cap W1 W2 w hin' hroom hcap ?_ ?_ ?_).mono ?_
      · intro lb cb
        have hc0 : cur.size ≠ 0 := by
          rw [q4]
          have : 0 < l.cap * sz := Nat.mul_pos (by omega) (by omega)
          omega
        exact hov w ⟨l2.b, 0, none⟩ ⟨l.b, (i + 1) * sz, none⟩ 1 l2.cap lb cb e e cur2.size cur.size hbb.symm (by simp [World.shape?, g1]) (by simp [World.shape?, q1]) hc0 (by simp [World.frozen?, g1]) (by simp [World.frozen?, g1])
      · intro ty dc sc
        rw [hrow1 ty dc sc]
        congr 1
        rw [show ((xs.length - i : Nat) : Int) = (xs.length : Int) - (i : Int) by omega]
      · rintro W rfl ty dc
        exact hrow2 ty dc
      · rintro e' w' ⟨he, hw'⟩
        subst he hw'
        obtain ⟨z1, z2⟩ := conc_swap hc (w' := w') (o2 := .row nb e sz (xs.take i ++ y :: xs.drop i)) (l' := ⟨l.b, xs.length + 1, sz, l.cap, false, none⟩) (id := 0) rfl hl rfl (by rw [hW2, hW1]; rfl) (by rw [hW2, hW1]; rfl) (by rw [hW2, hW1]; rfl) (by rw [hW2, hW1, setRow_size, setRow_size, heap_drew]; exact Nat.le_refl _)
          (fun b hb hbl => by
            rw [hW2, hW1, setRow_other _ _ _ _ (hbl hnil), setRow_other _ _ _ _ (hbl hnil)]; rfl) (fun _ => .inr ⟨hnil, rfl⟩)
          (fun hst hm => ⟨rfl, hln.symm, ⟨fun h => by simp at h, fun _ => hne⟩, hall, fun _ => ⟨_, hh2, hroom, q3, by
            have e1 : (xs.length + 1) * sz = xs.length * sz + sz := by rw [Nat.add_mul]; omega
            have e2 : (xs.length + 1) * sz ≤ l.cap * sz := Nat.mul_le_mul_right _ hroom
            simp only [List.size_toArray, List.length_append, List.length_take, List.length_drop, Array.length_toList, yl, xl, q4]
            omega, trivial, row_of_vals (m := m ++ [⟨l.b, xs.length + 1, sz, l.cap, false, none⟩]) hall (hNew _ _ _ hst hm) hh2 fun j u hj => by
            rw [List.getElem?_toArray, List.getElem?_append_left (lt_of_get hj)]; exact hj⟩⟩)
        refine ⟨_, z2, z1, ⟨l.b, xs.length + 1, sz, l.cap, false, none⟩, ?_, .inr ⟨rfl, rfl⟩⟩
        have : m.length = 2 := hlen
        rw [List.getElem?_append_right (by omega), this]
        rfl
    · -- a new row
      have hceq : l.cap = xs.length := by omega
      have hik : i + (xs.length + 1 - i) = xs.length + 1 := by omega
      have hold : (Builtin.firstCells ie.size i (.slice (some ⟨l.b, 0, none⟩) i l.cap)).run P w.drew = .ok (xv.take (i * sz)).toArray w.drew := by
        rw [hsz]
        refine run_firstCells_some (P := P) w.drew sz i ⟨l.b, 0, none⟩ i l.cap (xv.take (i * sz)) (by rw [List.length_take, xl]; omega) fun j v hj => ?_
        rw [List.getElem?_take] at hj
        split at hj
        · exact xc j v hj
        · simp at hj
      have hfits : (xs.length + 1) * ie.bytes ≤ 140737488355328 := Nat.le_trans (Nat.mul_le_mul (show xs.length + 1 ≤ 68719476736 by omega) hb2) (by decide)
      have hb1 : (xs.length + 1 - i) * ie.bytes ≤ (xs.length + 1) * ie.bytes := Nat.mul_le_mul_right _ (by omega)
      have hrz : ∀ ty, (Builtin.append_ #[t, tn] ty #[.slice (some ⟨l.b, 0, none⟩) i l.cap, .int .i64 ((xs.length : Int) + 1 - (i : Int))]).run P w =
          .ok (.slice (some ⟨w.heap.size, 0, none⟩) (xs.length + 1) (grownCap w (xs.length + 1) l.cap e)) (w.drew.alloc (.cells ((xv.take (i * sz)).toArray ++ Builtin.zeroCells z.cells (xs.length + 1 - i) ++ Builtin.zeroCells z.cells (grownCap w (xs.length + 1) l.cap e - (xs.length + 1))) e)) := fun ty => by
        have h := Lib.run_append_grow_zeros w t tn ty e ie z .i64 .i64 hu hun hie hz (some ⟨l.b, 0, none⟩) i l.cap (xv.take (i * sz)) hold (xs.length + 1 - i) (by omega) (by omega) (by omega) (by omega) (by omega) (by rw [hik]; exact growslice_fits (by omega) hfits)
        rw [hik] at h
        rw [show ((xs.length : Int) + 1 - (i : Int)) = ((xs.length + 1 - i : Nat) : Int) by omega]
        exact h
      obtain ⟨G, hG⟩ : ∃ G, G = grownCap w (xs.length + 1) l.cap e := ⟨_, rfl⟩
      have hGn : xs.length + 1 ≤ G := by rw [hG]; exact grownCap_ge w _ _ _
      have hGm : G ≤ maxLen := by rw [hG]; exact grownCap_le_maxLen w _ _ _ (by simp only [maxLen]; omega)
      obtain ⟨ROW, hROW⟩ : ∃ ROW : Array Value, ROW = (xv.take (i * sz)).toArray ++ Builtin.zeroCells z.cells (xs.length + 1 - i) ++ Builtin.zeroCells z.cells (G - (xs.length + 1)) := ⟨_, rfl⟩
      rw [← hG, ← hROW] at hrz
      have hzl : ∀ k, (Builtin.zeroCells z.cells k).size = k * sz := fun k => by simp [Builtin.zeroCells, hzs, hsz]
      have hRl : ROW.size = G * sz := by
        have e1 : (xs.length + 1 - i) * sz + i * sz = (xs.length + 1) * sz := by rw [← Nat.add_mul]; congr 1; omega
        have e2 : (G - (xs.length + 1)) * sz + (xs.length + 1) * sz = G * sz := by rw [← Nat.add_mul]; congr 1; omega
        rw [hROW]
        simp only [Array.size_append, hzl, List.size_toArray, List.length_take, xl]
        omega
      have hRt : ROW.toList.take (i * sz) = xv.take (i * sz) := by
        rw [hROW]
        simp only [Array.toList_append, List.append_assoc, List.toList_toArray]
        rw [List.take_append_of_le_length (by rw [List.length_take, xl]; omega)]
        exact List.take_of_length_le (by rw [List.length_take]; omega)
      obtain ⟨WA, hWA⟩ : ∃ WA, WA = w.drew.alloc (.cells ROW e) := ⟨_, rfl⟩
      rw [← hWA] at hrz
      have hhA : WA.heap[w.heap.size]? = some (.cells ROW e (0, 0)) := by rw [hWA]; exact heap_alloc_new w.drew _
      have hhAo : ∀ b, b < w.heap.size → WA.heap[b]? = w.heap[b]? := fun b hb => by rw [hWA]; exact heap_alloc_old w.drew _ b hb
      have hG2 : (xs.length + 1) * sz ≤ G * sz := Nat.mul_le_mul_right _ hGn
      have e1 : (i + 1) * sz = i * sz + sz := by rw [Nat.add_mul]; omega
      have e2 : (xs.length + 1) * sz = xs.length * sz + sz := by rw [Nat.add_mul]; omega
      have hrowA := fun ty dc => run_copy_sz (P := P) WA t t ty e w.heap.size (i * sz) (xs.length + 1 - i) dc ⟨l2.b, 0, none⟩ 1 l2.cap ROW e yv sz 1 hu hs' hhA (by simp only [Nat.min_def]; split <;> omega) (by rw [yl]; omega)
        (fun j v hj => by
          have := yc j v hj
          rw [Addr.add_lit, Nat.zero_add] at this ⊢
          rw [← this]
          simp only [World.cell?, hhAo _ hown2.2.1]) (by rw [yl, hRl]; omega) y1
      obtain ⟨WB, hWB⟩ : ∃ WB, WB = WA.setRow w.heap.size (ROW.toList.take (i * sz) ++ yv ++ ROW.toList.drop (i * sz + yv.length)).toArray := ⟨_, rfl⟩
      rw [← hWB] at hrowA
      have hhB : WB.heap[w.heap.size]? = some (.cells (ROW.toList.take (i * sz) ++ yv ++ ROW.toList.drop (i * sz + yv.length)).toArray e (0, 0)) := by rw [hWB]; exact setRow_heap _ _ _ _ _ _ hhA
      have hhBo : ∀ b, b < w.heap.size → WB.heap[b]? = w.heap[b]? := fun b hb => by rw [hWB, setRow_other _ _ _ _ (by omega), hhAo b hb]
      have hrowB := fun ty dc sc => run_copy_sz (P := P) WB.drew t t ty e w.heap.size ((i + 1) * sz) (xs.length - i) dc ⟨l.b, i * sz, none⟩ (xs.length - i) sc _ e (xv.drop (i * sz)) sz (xs.length - i) hu hs' hhB (by simp only [Nat.min_def]; split <;> omega) hdl
        (fun j v hj => by
          rw [List.getElem?_drop] at hj
          have := xc _ v hj
          rw [Addr.add_lit, Nat.zero_add] at this
          rw [Addr.add_lit, ← this]
          simp only [World.cell?, heap_drew, hhBo _ hown.2.1]) (by
          have e3 : (xs.length - i) * sz + i * sz = xs.length * sz := by rw [← Nat.add_mul]; congr 1; omega
          simp only [List.size_toArray, List.length_append, List.length_take, List.length_drop, Array.length_toList, yl, hRl, hdl]
          omega) (fun v hv => x1 v (List.mem_of_mem_drop hv))
      obtain ⟨WC, hWC⟩ : ∃ WC, WC = WB.drew.setRow w.heap.size ((ROW.toList.take (i * sz) ++ yv ++ ROW.toList.drop (i * sz + yv.length)).toArray.toList.take ((i + 1) * sz) ++ xv.drop (i * sz) ++ (ROW.toList.take (i * sz) ++ yv ++ ROW.toList.drop (i * sz + yv.length)).toArray.toList.drop ((i + 1) * sz + (xv.drop (i * sz)).length)).toArray := ⟨_, rfl⟩
      rw [← hWC] at hrowB
      have hhC : WC.heap[w.heap.size]? = some (.cells (xv.take (i * sz) ++ (yv ++ xv.drop (i * sz)) ++ ROW.toList.drop (xs.length * sz + sz)).toArray e (0, 0)) := by
        rw [hWC, setRow_heap _ _ _ _ _ _ (show WB.drew.heap[w.heap.size]? = _ from hhB)]
        have := splice_grow (L := ROW.toList) (olds := xv) (vals := yv) (k := i * sz) (z := sz) (N := xs.length * sz) hRt hk yl (by rw [show ROW.toList.length = ROW.size by simp, hRl]; omega) xl
        rw [List.toList_toArray, e1, this]
      have hhCo : ∀ b, b < w.heap.size → WC.heap[b]? = w.heap[b]? := fun b hb => by
        rw [hWC, setRow_other _ _ _ _ (by omega)]; exact hhBo b hb
      have hsz' : WC.heap.size = w.heap.size + 1 := by
        have : (w.drew.alloc (.cells ROW e)).heap.size = w.heap.size + 1 := World.size_alloc _ _
        rw [hWC, hWB, hWA, setRow_size, heap_drew, setRow_size, this]
      refine (hw.grow l.b xs.length l.cap i l2.b 0 l2.cap w.heap.size G WA WB WC w hin' q2 (by omega) hcap hGn (by simp only [maxLen] at hGm; omega) hrz hrowA ?_).mono ?_
      · intro ty dc sc
        rw [hrowB ty dc sc]
        congr 1
        rw [show ((xs.length - i : Nat) : Int) = (xs.length : Int) - (i : Int) by omega]
      · rintro e' w' ⟨he, hw'⟩
        subst he hw'
        obtain ⟨z1, z2⟩ := conc_swap hc (w' := w') (o2 := .row nb e sz (xs.take i ++ y :: xs.drop i)) (l' := ⟨w.heap.size, xs.length + 1, sz, G, false, none⟩) (id := 0) rfl hl rfl (by rw [hWC, hWB, hWA]; rfl) (by rw [hWC, hWB, hWA]; rfl) (by rw [hWC, hWB, hWA]; rfl) (by omega)
          (fun b hb _ => hhCo b hb) (fun _ => .inl ⟨Nat.le_refl _, by simp only; omega⟩)
          (fun hst hm => ⟨rfl, hln.symm, ⟨fun h => by simp at h, fun _ => hne⟩, hall, fun _ => ⟨_, hhC, hGn, hGm, by
            simp only [List.size_toArray, List.length_append, List.length_take, List.length_drop, Array.length_toList, yl, xl, hRl]
            omega, trivial, row_of_vals (m := m ++ [⟨w.heap.size, xs.length + 1, sz, G, false, none⟩]) hall (hNew _ _ _ hst hm) hhC fun j u hj => by
            rw [List.getElem?_toArray, List.getElem?_append_left (lt_of_get hj)]; exact hj⟩⟩)
        refine ⟨_, z2, z1, ⟨w.heap.size, xs.length + 1, sz, G, false, none⟩, ?_, .inr ⟨rfl, rfl⟩⟩
        have : m.length = 2 := hlen
        rw [List.getElem?_append_right (by omega), this]
        rfl
end
end Go.Ab
