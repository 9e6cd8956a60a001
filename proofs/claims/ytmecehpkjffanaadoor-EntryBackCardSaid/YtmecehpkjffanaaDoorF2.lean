/- Parts of the proof that a law of the program holds: the abstract run of the model. -/
import Derived.Lib.AppendStr
import Derived.Test.YtmecehpkjffanaaDoorF1
/- Builtins. -/
set_option linter.unusedVariables false
set_option linter.unusedSimpArgs false
namespace Go.Ab
open Go Go.RowKit
section
variable {P : Program} {w0 : World} {n0 : Nat} {α : Type} {Q : α → Prop} {keep : List FuncId}

/-- A new object, that may lie in a new block, or nowhere. -/
theorem conc_add {X : Nat → Prop} {m : List Loc} {H : List Ob} {w w' : World} (hc : Conc P w0 X m H w) {o2 : Ob} {l' : Loc}
    (hos : w'.os = w.os) (htape : w'.tape = w.tape) (hout : w'.output = w.output) (hsize : w.heap.size ≤ w'.heap.size) (hblk : ∀ b, b < w.heap.size → w'.heap[b]? = w.heap[b]?)
    (hl : l'.nil = false → (w.heap.size ≤ l'.b ∧ l'.b < w'.heap.size))
    (ok : Stays w (FF X m H) w' (FF X (m ++ [l']) (H ++ [o2])) → (∀ (i : Nat) (k : Loc), m[i]? = some k → (m ++ [l'])[i]? = some k) → ObOk P (m ++ [l']) w' (FF X (m ++ [l']) (H ++ [o2])) l' o2) :
    Conc P w0 X (m ++ [l']) (H ++ [o2]) w' ∧ Ext H.length m H w (m ++ [l']) (H ++ [o2]) w' := by
  have hlen := hc.len
  have new : ∀ (i : Nat) (o : Ob) (k : Loc), (False ∨ H.length ≤ i) → (H ++ [o2])[i]? = some o → (m ++ [l'])[i]? = some k → i = H.length ∧ o = o2 ∧ k = l' := by
    intro i o k hi h1 h2
    have hi := hi.resolve_left id
    have hl1 := lt_of_get h1
    simp at hl1
    have hi' : i = H.length := by omega
    subst hi'
    rw [List.getElem?_append_right (by omega)] at h1
    rw [List.getElem?_append_right (by omega)] at h2
    simp [hlen] at h1 h2
    exact ⟨rfl, h1.symm, h2.symm⟩
  have st : Step X (fun _ => False) m H w (m ++ [l']) (H ++ [o2]) w' := by
    refine ⟨hos, htape, hout, hsize, by simp [hlen], by simp, fun i hi => ?_, fun i hi hne => ?_, fun b hb hb' => hblk b hb, fun i p k hi h1 h2 h3 h4 => ?_, fun i j o' p k1 k2 hi hj h1 h2 h3 h4 g1 g2 g3 g4 he => ?_⟩
    · rw [List.getElem?_append_left (by omega)]
    · rw [List.getElem?_append_left (by omega)]
    · obtain ⟨rfl, rfl, rfl⟩ := new i p k hi h1 h2
      exact .inl (hl h4)
    · obtain ⟨rfl, _, _⟩ := new i o' k1 hi h1 h2
      obtain ⟨rfl, _, _⟩ := new j p k2 hj g1 g2
      rfl
  exact st.conc hc fun i o k hi h1 h2 => by
    obtain ⟨rfl, rfl, rfl⟩ := new i o k hi h1 h2
    exact ok st.stays (st.pres hc)

theorem told_slice {dst type pos after guard} {t : TypeId} {x0 : Operand} {lo hi mx : Option Operand} {args : List A} {H : List Ob} {k : A → List Ob → Tr α}
    (h : wp P w0 n0 (xop P keep ⟨dst, .slice t x0 lo hi mx, type, pos, after, guard⟩ args H k) Q) : Told P w0 n0 ⟨dst, .slice t x0 lo hi mx, type, pos, after, guard⟩ args H k Q := by
  unfold xop at h
  dsimp only at h
  split at h
  · split at h
    · rename_i x k1 hh k2 mm
      split at h
      · rename_i hz
        split at h
        · rename_i e isNil sz xs he hx
          split at h
          · rename_i hpos
            refine ⟨_, _, .of_run fun X m w a hc hr => ?_, fun hq => by simp [quietOp] at hq, h⟩
            obtain ⟨hz1, hz2⟩ := Bool.and_eq_true _ _ |>.mp hz
            have hz1 : hh = 0 := by simpa using hz1
            have hz2 : mm = 0 := by simpa using hz2
            subst hz1 hz2
            obtain ⟨u, v1, v2, huv, h1, h2, h3⟩ := repL_three hr
            simp [Op.operands] at huv
            obtain ⟨e1, e2, e3⟩ := huv
            simp only [Rep, DRep] at h2 h3
            subst h2 h3
            obtain ⟨ad, cap, rfl, hnil, hnone, hcap, hlens, hrows⟩ := elemsOf_some hc hx h1
            have hu := elemOfSlice_some he
            obtain ⟨ie, hie⟩ := info_of_cells (P := P) (Nat.le_of_ble_eq_true hpos)
            have hnb : ad.isNone = isNil := by cases ad <;> cases isNil <;> simp_all
            obtain ⟨g1, g2⟩ := conc_add hc (w' := w) (o2 := .row isNil e (P.cellsOf e) []) (l' := ⟨0, 0, P.cellsOf e, 0, true, ad⟩) rfl rfl rfl (Nat.le_refl _) (fun _ _ => rfl) (by simp) (fun hs hm => ⟨rfl, rfl, ⟨fun _ => ⟨rfl, hnb⟩, fun h => by simp at h⟩, by simp, by simp⟩)
            refine ⟨_, w, .slice ad 0 0, ?_, g2, g1, ⟨⟨0, 0, P.cellsOf e, 0, true, ad⟩, by rw [← hc.len]; simp, .inl ⟨rfl, rfl⟩⟩⟩
            simp [execOp, e1, e2, e3, Instr.sliceAt, Instr.slice, run_underlying hu, Instr.sliceBounds, Instr.sliceBound, asIntOf, run_sizeOf w hie]
          · exact h.elim
        · exact h.elim
      · exact h.elim
    · exact h.elim
  · split at h
    · obtain ⟨v, h, hs⟩ := sliceA_told h
      refine Told.quiet (v := v) (fun X m w a hc hr => ?_) h
      obtain ⟨u, hu, h1⟩ := repL_one hr
      simp [Op.operands] at hu
      obtain ⟨v', h2, h3⟩ := hs m w _ u none none h1 rfl rfl
      exact ⟨v', by simp [execOp, hu, h2], h3⟩
    · obtain ⟨v, h, hs⟩ := sliceA_told h
      refine Told.quiet (v := v) (fun X m w a hc hr => ?_) h
      obtain ⟨u, z, hu, h1, h1'⟩ := repL_two hr
      simp [Op.operands] at hu
      obtain ⟨e1, e2⟩ := hu
      obtain ⟨v', h2, h3⟩ := hs m w _ u (some z) none h1 ⟨z, rfl, h1'⟩ rfl
      exact ⟨v', by simp [execOp, e1, e2, h2], h3⟩
    · obtain ⟨v, h, hs⟩ := sliceA_told h
      refine Told.quiet (v := v) (fun X m w a hc hr => ?_) h
      obtain ⟨u, z, hu, h1, h1'⟩ := repL_two hr
      simp [Op.operands] at hu
      obtain ⟨e1, e2⟩ := hu
      obtain ⟨v', h2, h3⟩ := hs m w _ u none (some z) h1 rfl ⟨z, rfl, h1'⟩
      exact ⟨v', by simp [execOp, e1, e2, h2], h3⟩
    · obtain ⟨v, h, hs⟩ := sliceA_told h
      refine Told.quiet (v := v) (fun X m w a hc hr => ?_) h
      obtain ⟨u, z, y, hu, h1, h1', h1''⟩ := repL_three hr
      simp [Op.operands] at hu
      obtain ⟨e1, e2, e3⟩ := hu
      obtain ⟨v', h2, h3⟩ := hs m w _ u (some z) (some y) h1 ⟨z, rfl, h1'⟩ ⟨y, rfl, h1''⟩
      exact ⟨v', by simp [execOp, e1, e2, e3, h2], h3⟩
    · exact h.elim

/-- What an append comes to, at an operation. -/
theorem append_ok {dst type pos after guard} {t e : TypeId} {s0 x0 : Operand} {s x : A} {H : List Ob} {id : Option Nat} {nb isNil : Bool} {sz' : Nat} {xs ys : List (List D)}
    (ht : P.underlying t = some (.slice e)) (hg : growOk P e = true) (hx : elemsOf H x = some (isNil, sz', ys)) (hsz : (Nat.beq sz' (P.cellsOf e) || ys.isEmpty) = true)
    (hs : match id with
      | some id => s = .own id ∧ H[id]? = some (.row nb e (P.cellsOf e) xs) ∧ apartFrom id x = true
      | none => (∃ q r, s = .d (.slice true q r)) ∧ nb = true ∧ xs = []) (hfit0 : xs.length + ys.length ≤ 68719476736) :
    OpOk P w0 ⟨dst, .call { callee := .builtin .append, args := #[s0, x0], argTypes := #[t, t] }, type, pos, after, guard⟩ [s, x] H (.own H.length) ((match id with | some id => H.set id .dead | none => H) ++ [.row nb e (P.cellsOf e) (xs ++ ys)]) := by
  obtain ⟨i, z, hi, hz, hzs, hpos, hby, hce, hbe, hb2⟩ := growOk_some hg
  intro X m w a hc hr next Q hn
  obtain ⟨u, v, huv, h1, h2⟩ := repL_two hr
  simp [Op.operands, Call.operands] at huv
  obtain ⟨e1, e2⟩ := huv
  obtain ⟨ad, cap, rfl, hnil, hnone, hcap, hlens, hrows⟩ := elemsOf_some hc hx h2
  have hlen := hc.len
  -- the slice that is appended to
  have hslice : ∃ (l : Loc) (sb : Option Addr) (n c : Nat) (olds : List Value), u = .slice sb n c ∧ n = xs.length ∧ olds.length = n * i.size ∧ RepL m w (FF X m H) (xs.flatten.map .d) olds ∧ n ≤ c ∧ c ≤ maxLen ∧ (sb = none → n = 0 ∧ c = 0 ∧ l.nil = true ∧ l.adr = none) ∧ l.n = n ∧ l.sz = i.size ∧
      (∀ x ∈ xs, x.length = i.size) ∧ NilOk l nb xs ∧
      (∀ g, sb = some g → (l.nil = true ∧ l.adr = some g ∧ n = 0 ∧ c = 0) ∨ (l.nil = false ∧ l.cap = c ∧ ∃ cur, g = ⟨l.b, 0, none⟩ ∧ w.heap[l.b]? = some (.cells cur e (0, 0)) ∧ cur.size = c * i.size ∧ RowsRep w (FF X m H) l.b i.size 0 xs ∧ (∀ (j : Nat) (u : Value), olds[j]? = some u → cur[j]? = some u) ∧ (∀ b off, ad = some ⟨b, off, none⟩ → ys ≠ [] → l.b ≠ b))) ∧
      (match id with | some id => m[id]? = some l | none => l.nil = true) := by
    cases id with
    | none =>
      obtain ⟨⟨q, r, rfl⟩, rfl, rfl⟩ := hs
      simp only [Rep, DRep] at h1
      simp at h1
      obtain ⟨_, rfl⟩ := h1
      exact ⟨⟨0, 0, i.size, 0, true, none⟩, none, 0, 0, [], rfl, rfl, by simp, rfl, Nat.le_refl _, by simp [maxLen], fun _ => ⟨rfl, rfl, rfl, rfl⟩, rfl, rfl, by simp, ⟨fun _ => ⟨rfl, rfl⟩, fun h => by simp at h⟩, by simp, rfl⟩
    | some id =>
      obtain ⟨rfl, hid, hap⟩ := hs
      obtain ⟨l, hl, hcase⟩ := h1
      obtain ⟨k1, k2, k3, k4, k5⟩ := hc.obj _ _ _ hid hl
      rw [hce] at k1 k4 k5
      rcases hcase with ⟨hnl, rfl⟩ | ⟨hnl, rfl⟩
      · obtain ⟨rfl, _⟩ := k3.1 hnl
        simp at k2
        exact ⟨l, l.adr, 0, 0, [], rfl, rfl, by simp, rfl, Nat.le_refl _, by simp [maxLen], fun h => ⟨rfl, rfl, hnl, h⟩, k2, k1, by simp, k3, fun g hg => .inl ⟨hnl, hg, rfl, rfl⟩, hl⟩
      · obtain ⟨cur, g1, g2, g3, g4, g5, g6⟩ := k5 hnl
        obtain ⟨vs, v1, v2, v3⟩ := cells_vals (m := m) _ _ ((rows_flat xs 0 k4).1 g6)
        refine ⟨l, some ⟨l.b, 0, none⟩, l.n, l.cap, vs, rfl, k2, by rw [v1, flat_len xs k4, k2], v2, g2, g3, fun h => by simp at h, rfl, k1, k4, k3, fun g hg => ?_, hl⟩
        simp only [Option.some.injEq] at hg
        subst hg
        refine .inr ⟨hnl, rfl, cur, rfl, g1, g4, g6, fun j u hj => ?_, fun b off hb hys => ?_⟩
        · have := v3 j u hj
          rw [cell_of_cells g1, Nat.zero_add] at this
          exact this
        · -- what is appended lies elsewhere
          subst hb
          intro hbb
          cases x with
          | d xd =>
            cases xd with
            | slice n' s' ys' =>
              simp only [elemsOf, Option.some.injEq, Prod.mk.injEq] at hx
              obtain ⟨rfl, rfl, rfl⟩ := hx
              rcases h2 with ⟨_, hy, _⟩ | ⟨_, a', cap', hv, _, _, hcase⟩
              · exact hys hy
              · simp at hv
                rcases hcase with hy | ⟨b', off', ha', hF, _, _⟩
                · exact hys hy
                · rw [ha'] at hv
                  simp at hv
                  exact hF (.inr ⟨id, _, l, hid, hl, rfl, hnl, by rw [hbb, hv.1.1]⟩)
            | _ => simp [elemsOf] at hx
          | own j =>
            obtain ⟨lj, hlj, hcj⟩ := h2
            have hidj : id ≠ j := fun e => by subst e; simp [apartFrom] at hap
            rcases hcj with ⟨hnj, hv⟩ | ⟨hnj, hv⟩
            · simp only [elemsOf] at hx
              split at hx
              · rename_i nbj ej szj xsj hidj'
                simp only [Option.some.injEq, Prod.mk.injEq] at hx
                obtain ⟨_, _, rfl⟩ := hx
                obtain ⟨_, _, z3, _⟩ := hc.obj _ _ _ hidj' hlj
                exact hys (z3.1 hnj).1
              · simp at hx
            · simp at hv
              simp only [elemsOf] at hx
              split at hx
              · rename_i nbj ej szj xsj hidj'
                exact hidj (hc.sep id j _ _ l lj hid hl rfl hnl hidj' hlj rfl hnj (by rw [hbb, hv.1.1]))
              · simp at hx
          | _ => simp [elemsOf] at hx
  obtain ⟨l, sb, n, c, olds, rfl, hnx, hol, horep, hnc, hcm, hsn, hln, hlsz, hxl, hlnil, hsome, hlid⟩ := hslice
  -- how it ends
  have fin : ∀ (w' : World) (v' : Value) (l' : Loc), (Builtin.append_ #[t, t] type #[.slice sb n c, .slice ad ys.length cap]).run P w = .ok v' w' → w'.os = w.os → w'.tape = w.tape → w'.output = w.output → w.heap.size ≤ w'.heap.size →
      (∀ b, b < w.heap.size → (l.nil = false → b ≠ l.b) → w'.heap[b]? = w.heap[b]?) → (l'.nil = false → (w.heap.size ≤ l'.b ∧ l'.b < w'.heap.size) ∨ (l.nil = false ∧ l'.b = l.b)) →
      (∀ m' F', Stays w (FF X m H) w' F' → (∀ (i : Nat) (k : Loc), m[i]? = some k → m'[i]? = some k) → ObOk P m' w' F' l' (.row nb e (P.cellsOf e) (xs ++ ys))) →
      ((l'.nil = true ∧ v' = .slice l'.adr 0 0) ∨ (l'.nil = false ∧ v' = .slice (some ⟨l'.b, 0, none⟩) l'.n l'.cap)) →
      Oper.wp P ⟨dst, .call { callee := .builtin .append, args := #[s0, x0], argTypes := #[t, t] }, type, pos, after, guard⟩ a w next Q := by
    intro w' v' l' hrun hos htape hout hsize hblk hl' hok hv'
    have hexec : (execOp a.eval ⟨dst, .call { callee := .builtin .append, args := #[s0, x0], argTypes := #[t, t] }, type, pos, after, guard⟩).run P w = .ok (.value v') w' := by
      simp [execOp, resolve, invoke, builtin, e1, e2, hrun]
    unfold Oper.wp
    rw [hexec]
    cases id with
    | none =>
      simp only at hlid
      obtain ⟨g1, g2⟩ := conc_add hc (o2 := .row nb e (P.cellsOf e) (xs ++ ys)) (l' := l') hos htape hout hsize (fun b hb => hblk b hb fun h => by rw [hlid] at h; simp at h) (fun h => (hl' h).resolve_right fun h' => by rw [hlid] at h'; simp at h') (fun hs hm => hok _ _ hs hm)
      exact hn _ _ _ g2 g1 ⟨l', by rw [← hlen]; simp, hv'⟩
    | some id =>
      obtain ⟨rfl, hid, hap⟩ := hs
      obtain ⟨g1, g2⟩ := conc_swap hc (o2 := .row nb e (P.cellsOf e) (xs ++ ys)) (l' := l') hid hlid rfl hos htape hout hsize hblk hl' (fun hs hm => hok _ _ hs hm)
      exact hn _ _ _ g2 g1 ⟨l', by rw [← hlen]; simp, hv'⟩
  by_cases hys : ys = []
  · -- nothing is appended
    subst hys
    refine fin w (.slice sb n c) l (run_append_none w t type e i ht hi sb n c hnc ad cap) rfl rfl rfl (Nat.le_refl _) (fun _ _ _ => rfl) (fun h => .inr ⟨h, rfl⟩) (fun m' F' hst hm => ?_) ?_
    · rw [hce, List.append_nil]
      refine ⟨hlsz, by omega, hlnil, hxl, fun h => ?_⟩
      cases sb with
      | none => have := (hsn rfl).2.2.1; rw [this] at h; simp at h
      | some g =>
        rcases hsome g rfl with ⟨hh, _⟩ | ⟨_, hlc, cur, _, g1, g2, g3, _⟩
        · rw [hh] at h; simp at h
        exact ⟨cur, g1, by omega, by omega, by rw [g2, hlc], trivial, RowsRep.stays hst _ _ rfl _ _ g3⟩
    · cases sb with
      | none => obtain ⟨rfl, rfl, h, h'⟩ := hsn rfl; exact .inl ⟨h, by rw [h']⟩
      | some g =>
        rcases hsome g rfl with ⟨h, h', rfl, rfl⟩ | ⟨h, hlc, cur, rfl, _⟩
        · exact .inl ⟨h, by rw [h']⟩
        exact .inr ⟨h, by rw [hlc, hln]⟩
  · obtain ⟨b, off, rfl, hblt, hyr⟩ := hrows hys
    have hsz' : sz' = i.size := by
      rcases Bool.or_eq_true _ _ |>.mp hsz with h' | h'
      · rw [← hce]; exact Nat.eq_of_beq_eq_true h'
      · exact absurd (by simpa using h') hys
    subst hsz'
    have hall : ∀ x ∈ xs ++ ys, x.length = i.size := fun x hx => (List.mem_append.1 hx).elim (hxl x) (hlens x)
    have hnil' : (nb && (xs ++ ys).isEmpty) = false := by
      cases ys with
      | nil => exact absurd rfl hys
      | cons y ys => cases nb <;> cases xs <;> rfl
    have hfits : (n + ys.length) * i.bytes ≤ 140737488355328 := Nat.le_trans (Nat.mul_le_mul (show n + ys.length ≤ 68719476736 by omega) hb2) (by decide)
    obtain ⟨news, hnr, hnl, hcase⟩ := append_step hc (ty := type) ht hi hz hzs hpos hby (cap := cap) hys hlens hyr sb n c olds hol (fun g hg => by
      rcases hsome g hg with ⟨_, _, h1, h2⟩ | ⟨_, _, cur, rfl, g1, g2, _, g3, g4⟩
      · exact .inl ⟨h1, h2⟩
      exact .inr ⟨l.b, cur, rfl, g1, hnc, g2, g4 b off rfl hys, g3⟩) (fun h => ⟨(hsn h).1, (hsn h).2.1⟩) hfits
    · rcases hcase with ⟨k, cur, rfl, hb, hroom, hrun⟩ | ⟨cap', hcap', hcm', hrun⟩
      · -- there
        have hyl : 0 < ys.length := List.length_pos_iff.2 hys
        rcases hsome _ rfl with ⟨_, _, h1, h2⟩ | ⟨hl1, hlc, cur', hke, hb', hcs, hxr, hcur, _⟩
        · omega
        simp only [Addr.mk.injEq, and_true] at hke
        subst hke
        rw [hb] at hb'
        simp only [Option.some.injEq, Obj.cells.injEq, and_true] at hb'
        subst hb'
        have hfit : n * i.size + news.length ≤ cur.size := by rw [hnl, hcs, ← Nat.add_mul]; exact Nat.mul_le_mul_right _ hroom
        refine (fin _ _ ⟨l.b, n + ys.length, i.size, c, false, none⟩ hrun rfl rfl rfl (by simp) (fun b' _ hne => setRow_other _ _ _ _ (hne hl1)) (fun _ => .inr ⟨hl1, rfl⟩) (fun m' F' hst hm => ?_) (.inr ⟨rfl, rfl⟩))
        rw [hce]
        refine ⟨rfl, by simp [hnx], ⟨fun h => by simp at h, fun _ => hnil'⟩, hall, fun _ => ⟨_, setRow_heap w l.b cur _ e _ hb, hroom, hcm, ?_, trivial, ?_⟩⟩
        · simp only [List.size_toArray, List.length_append, List.length_take, List.length_drop, Array.length_toList]
          omega
        · refine rows_of_vals (m := m') (vs := olds ++ news) (setRow_heap w l.b cur _ e _ hb) hall ?_ fun j v hj => ?_
          · rw [List.flatten_append, List.map_append]
            exact RepL.append (RepL.stays hst hm _ _ horep) (RepL.stays hst hm _ _ hnr)
          · have hl2 : n * i.size ≤ cur.toList.length := by rw [Array.length_toList]; omega
            simp only [List.getElem?_toArray, List.append_assoc]
            rw [List.getElem?_append] at hj
            split at hj
            · rename_i hlt
              rw [List.getElem?_append_left (by rw [List.length_take]; omega), List.getElem?_take_of_lt (by omega)]
              simpa using hcur j v hj
            · rename_i hlt
              rw [List.getElem?_append_right (by rw [List.length_take]; omega), List.length_take, Nat.min_eq_left hl2]
              rw [hol] at hj
              rw [List.getElem?_append_left (lt_of_get hj)]
              exact hj
      · -- elsewhere
        have hnew : (w.drew.alloc (.cells (olds.toArray ++ news.toArray ++ Builtin.zeroCells z.cells (cap' - (n + ys.length))) e)).heap[w.heap.size]? = some (.cells (olds.toArray ++ news.toArray ++ Builtin.zeroCells z.cells (cap' - (n + ys.length))) e) := heap_alloc_new w.drew _
        refine (fin _ _ ⟨w.heap.size, n + ys.length, i.size, cap', false, none⟩ hrun rfl rfl rfl (by simp) (fun b' hb' _ => heap_alloc_old w.drew _ b' hb') (fun _ => .inl ⟨Nat.le_refl _, by simp⟩) (fun m' F' hst hm => ?_) (.inr ⟨rfl, rfl⟩))
        rw [hce]
        refine ⟨rfl, by simp [hnx], ⟨fun h => by simp at h, fun _ => hnil'⟩, hall, fun _ => ⟨_, hnew, hcap', hcm', ?_, trivial, ?_⟩⟩
        · simp only [Array.size_append, List.size_toArray, size_zeroCells, hzs, hol, hnl, ← Nat.add_mul]
          congr 1
          omega
        · refine rows_of_vals (m := m') (vs := olds ++ news) hnew hall ?_ fun j v hj => ?_
          · rw [List.flatten_append, List.map_append]
            exact RepL.append (RepL.stays hst hm _ _ horep) (RepL.stays hst hm _ _ hnr)
          · have := lt_of_get hj
            rw [Array.getElem?_append_left (by simp at this ⊢; omega)]
            simpa using hj
end
end Go.Ab
/- Appends of a string's bytes. -/
set_option linter.unusedVariables false
set_option linter.unusedSimpArgs false
namespace Go.Ab
open Go Go.RowKit
section
variable {P : Program} {w0 : World} {n0 : Nat} {α : Type} {Q : α → Prop} {keep : List FuncId}

theorem run_append_noneS (w : World) (t u ty e : TypeId) (i : TypeInfo) (ht : P.underlying t = some (.slice e)) (hu : P.underlying u = some .string) (hi : P.info? e = some i) (b : Option Addr) (n c : Nat) (hn : n ≤ c) (str : ByteArray) (h0 : str.size = 0) :
    (Builtin.append_ #[t, u] ty #[.slice b n c, .string str]).run P w = .ok (.slice b n c) w := by
  have hf := Lib.run_firstCells_string (P := P) w i.size str
  have hs : Lib.strCells str = [] := List.eq_nil_of_length_eq_zero (by rw [Lib.strCells_length]; exact h0)
  rw [h0, hs] at hf
  cases b <;> simp [Builtin.append_, run_underlying ht, run_underlying hu, sizeOf, typeInfo, hi, Builtin.lenOf, h0, hn, hf, storeCells]
theorem bytes_rep {m : List Loc} {w : World} {F : Nat → Prop} : ∀ (l : List UInt8), RepL m w F ((l.map fun b => [D.int .u8 b.toNat]).flatten.map .d) (l.map fun b => Value.int .u8 b.toNat)
  | [] => rfl
  | b :: l => ⟨_, _, rfl, rfl, bytes_rep l⟩
/-- AN APPEND of a string's bytes, told. -/
theorem append_stepS {X : Nat → Prop} {m : List Loc} {H : List Ob} {w : World} (hc : Conc P w0 X m H w) {t u ty e : TypeId} {i : TypeInfo} {z : Value} (ht : P.underlying t = some (.slice e)) (hu : P.underlying u = some .string) (hi : P.info? e = some i) (hz : i.zero = some z) (hzs : z.cells.size = i.size) (hs1 : i.size = 1) (hby : 0 < i.bytes)
    {str : ByteArray} (hne : str.size ≠ 0) (sb : Option Addr) (n c : Nat) (olds : List Value) (hol : olds.length = n * i.size)
    (hold : ∀ g, sb = some g → (n = 0 ∧ c = 0) ∨ ∃ k cur, g = ⟨k, 0, none⟩ ∧ w.heap[k]? = some (.cells cur e (0, 0)) ∧ n ≤ c ∧ cur.size = c * i.size ∧ ∀ (j : Nat) (u : Value), olds[j]? = some u → cur[j]? = some u) (hnone : sb = none → n = 0 ∧ c = 0) (hfits : (n + str.size) * i.bytes ≤ 140737488355328) :
    ∃ news : List Value, RepL m w (FF X m H) ((bytesD str).flatten.map .d) news ∧ news.length = str.size * i.size ∧
      ((∃ k cur, sb = some ⟨k, 0, none⟩ ∧ w.heap[k]? = some (.cells cur e (0, 0)) ∧ n + str.size ≤ c ∧
        (Builtin.append_ #[t, u] ty #[.slice sb n c, .string str]).run P w = .ok (.slice sb (n + str.size) c) (w.setRow k (cur.toList.take (n * i.size) ++ news ++ cur.toList.drop (n * i.size + news.length)).toArray)) ∨
       (∃ cap', n + str.size ≤ cap' ∧ cap' ≤ maxLen ∧ (Builtin.append_ #[t, u] ty #[.slice sb n c, .string str]).run P w =
        .ok (.slice (some ⟨w.heap.size, 0, none⟩) (n + str.size) cap') (w.drew.alloc (.cells (olds.toArray ++ news.toArray ++ Builtin.zeroCells z.cells (cap' - (n + str.size))) e)))) := by
  have hl := Lib.strCells_length str
  have hr : RepL m w (FF X m H) ((bytesD str).flatten.map .d) (Lib.strCells str) := by
    unfold bytesD Lib.strCells
    rw [ByteArray.toList_eq]
    exact bytes_rep _
  refine ⟨Lib.strCells str, hr, by rw [hl, hs1, Nat.mul_one], ?_⟩
  by_cases hroom : n + str.size ≤ c
  · cases sb with
    | none => have := hnone rfl; omega
    | some g =>
      rcases hold g rfl with hz0 | ⟨k, cur, rfl, hb, hnc', hcs, hcur⟩
      · omega
      left
      refine ⟨k, cur, rfl, hb, hroom, ?_⟩
      rw [hs1, Nat.mul_one] at hcs
      rw [Lib.run_append_room_string (P := P) w t u ty e i ht hu hi hs1 k n c cur hb str hroom (by omega), hs1, Nat.mul_one, hl]
  · right
    have hp : Builtin.nextslicecap (n + str.size) c * i.bytes ≤ 281474976710656 := growslice_fits (by omega) hfits
    have hnb : (n + str.size) * i.bytes ≤ 281474976710656 := Nat.le_trans (Nat.mul_le_mul_right _ (le_nextslicecap (by omega))) hp
    have hle : n + str.size ≤ (n + str.size) * i.bytes := Nat.le_mul_of_pos_right _ hby
    have h63 : ((n + str.size : Nat) : Int) ≤ 9223372036854775807 := by omega
    refine ⟨grownCap w (n + str.size) c e, grownCap_ge w _ _ _, grownCap_le_maxLen w _ _ _ (by simp only [maxLen]; omega), ?_⟩
    cases sb with
    | none =>
      obtain ⟨rfl, rfl⟩ := hnone rfl
      have ho : olds = [] := List.eq_nil_of_length_eq_zero (by simpa using hol)
      subst ho
      have := run_append_nil_string (P := P) w t u ty e i z ht hu hi hz str (by omega) (by simpa using h63) (by simpa using hnb)
      have hd : str.data.map (fun b => Value.int .u8 b.toNat) = (Lib.strCells str).toArray := by
        unfold Lib.strCells
        apply Array.ext'
        simp
      rw [hd] at this
      simpa using this
    | some g =>
      refine Lib.run_append_grow_string (P := P) w t u ty e i z ht hu hi hz g n c olds hol (fun j v hj => ?_) str (by omega) h63 hp
      rcases hold g rfl with ⟨rfl, rfl⟩ | ⟨k, cur, rfl, hb, _, _, hcur⟩
      · have ho : olds = [] := List.eq_nil_of_length_eq_zero (by simpa using hol)
        rw [ho] at hj; simp at hj
      · rw [Addr.add_lit, cell_of_cells hb, Nat.zero_add]; exact hcur j v hj

/-- .. of a string's bytes. -/
theorem append_okS {dst type pos after guard} {t u' e : TypeId} {s0 x0 : Operand} {s : A} {str : ByteArray} {H : List Ob} {id : Option Nat} {nb : Bool} {xs ys : List (List D)} (hys0 : ys = bytesD str)
    (ht : P.underlying t = some (.slice e)) (hu' : P.underlying u' = some .string) (hg : growOk P e = true) (he1 : P.cellsOf e = 1)
    (hs : match id with
      | some id => s = .own id ∧ H[id]? = some (.row nb e (P.cellsOf e) xs)
      | none => (∃ q r, s = .d (.slice true q r)) ∧ nb = true ∧ xs = []) (hfit0 : xs.length + ys.length ≤ 68719476736) :
    OpOk P w0 ⟨dst, .call { callee := .builtin .append, args := #[s0, x0], argTypes := #[t, u'] }, type, pos, after, guard⟩ [s, .d (.str str)] H (.own H.length) ((match id with | some id => H.set id .dead | none => H) ++ [.row nb e (P.cellsOf e) (xs ++ ys)]) := by
  obtain ⟨i, z, hi, hz, hzs, hpos, hby, hce, hbe, hb2⟩ := growOk_some hg
  intro X m w a hc hr next Q hn
  obtain ⟨u, v, huv, h1, h2⟩ := repL_two hr
  simp [Op.operands, Call.operands] at huv
  obtain ⟨e1, e2⟩ := huv
  simp only [Rep, DRep] at h2
  subst h2
  have hyl0 : ys.length = str.size := by rw [hys0, bytesD_len]
  have hlens : ∀ y ∈ ys, y.length = i.size := by
    intro y hy
    rw [hys0] at hy
    simp [bytesD] at hy
    obtain ⟨b, _, rfl⟩ := hy
    rw [← hce, he1]; rfl
  have hlen := hc.len
  -- the slice that is appended to
  have hslice : ∃ (l : Loc) (sb : Option Addr) (n c : Nat) (olds : List Value), u = .slice sb n c ∧ n = xs.length ∧ olds.length = n * i.size ∧ RepL m w (FF X m H) (xs.flatten.map .d) olds ∧ n ≤ c ∧ c ≤ maxLen ∧ (sb = none → n = 0 ∧ c = 0 ∧ l.nil = true ∧ l.adr = none) ∧ l.n = n ∧ l.sz = i.size ∧
      (∀ x ∈ xs, x.length = i.size) ∧ NilOk l nb xs ∧
      (∀ g, sb = some g → (l.nil = true ∧ l.adr = some g ∧ n = 0 ∧ c = 0) ∨ (l.nil = false ∧ l.cap = c ∧ ∃ cur, g = ⟨l.b, 0, none⟩ ∧ w.heap[l.b]? = some (.cells cur e (0, 0)) ∧ cur.size = c * i.size ∧ RowsRep w (FF X m H) l.b i.size 0 xs ∧ (∀ (j : Nat) (u : Value), olds[j]? = some u → cur[j]? = some u))) ∧
      (match id with | some id => m[id]? = some l | none => l.nil = true) := by
    cases id with
    | none =>
      obtain ⟨⟨q, r, rfl⟩, rfl, rfl⟩ := hs
      simp only [Rep, DRep] at h1
      simp at h1
      obtain ⟨_, rfl⟩ := h1
      exact ⟨⟨0, 0, i.size, 0, true, none⟩, none, 0, 0, [], rfl, rfl, by simp, rfl, Nat.le_refl _, by simp [maxLen], fun _ => ⟨rfl, rfl, rfl, rfl⟩, rfl, rfl, by simp, ⟨fun _ => ⟨rfl, rfl⟩, fun h => by simp at h⟩, by simp, rfl⟩
    | some id =>
      obtain ⟨rfl, hid⟩ := hs
      obtain ⟨l, hl, hcase⟩ := h1
      obtain ⟨k1, k2, k3, k4, k5⟩ := hc.obj _ _ _ hid hl
      rw [hce] at k1 k4 k5
      rcases hcase with ⟨hnl, rfl⟩ | ⟨hnl, rfl⟩
      · obtain ⟨rfl, _⟩ := k3.1 hnl
        simp at k2
        exact ⟨l, l.adr, 0, 0, [], rfl, rfl, by simp, rfl, Nat.le_refl _, by simp [maxLen], fun h => ⟨rfl, rfl, hnl, h⟩, k2, k1, by simp, k3, fun g hg => .inl ⟨hnl, hg, rfl, rfl⟩, hl⟩
      · obtain ⟨cur, g1, g2, g3, g4, g5, g6⟩ := k5 hnl
        obtain ⟨vs, v1, v2, v3⟩ := cells_vals (m := m) _ _ ((rows_flat xs 0 k4).1 g6)
        refine ⟨l, some ⟨l.b, 0, none⟩, l.n, l.cap, vs, rfl, k2, by rw [v1, flat_len xs k4, k2], v2, g2, g3, fun h => by simp at h, rfl, k1, k4, k3, fun g hg => ?_, hl⟩
        simp only [Option.some.injEq] at hg
        subst hg
        refine .inr ⟨hnl, rfl, cur, rfl, g1, g4, g6, fun j u hj => ?_⟩
        have := v3 j u hj
        rw [cell_of_cells g1, Nat.zero_add] at this
        exact this
  obtain ⟨l, sb, n, c, olds, rfl, hnx, hol, horep, hnc, hcm, hsn, hln, hlsz, hxl, hlnil, hsome, hlid⟩ := hslice
  -- how it ends
  have fin : ∀ (w' : World) (v' : Value) (l' : Loc), (Builtin.append_ #[t, u'] type #[.slice sb n c, .string str]).run P w = .ok v' w' → w'.os = w.os → w'.tape = w.tape → w'.output = w.output → w.heap.size ≤ w'.heap.size →
      (∀ b, b < w.heap.size → (l.nil = false → b ≠ l.b) → w'.heap[b]? = w.heap[b]?) → (l'.nil = false → (w.heap.size ≤ l'.b ∧ l'.b < w'.heap.size) ∨ (l.nil = false ∧ l'.b = l.b)) →
      (∀ m' F', Stays w (FF X m H) w' F' → (∀ (i : Nat) (k : Loc), m[i]? = some k → m'[i]? = some k) → ObOk P m' w' F' l' (.row nb e (P.cellsOf e) (xs ++ ys))) →
      ((l'.nil = true ∧ v' = .slice l'.adr 0 0) ∨ (l'.nil = false ∧ v' = .slice (some ⟨l'.b, 0, none⟩) l'.n l'.cap)) →
      Oper.wp P ⟨dst, .call { callee := .builtin .append, args := #[s0, x0], argTypes := #[t, u'] }, type, pos, after, guard⟩ a w next Q := by
    intro w' v' l' hrun hos htape hout hsize hblk hl' hok hv'
    have hexec : (execOp a.eval ⟨dst, .call { callee := .builtin .append, args := #[s0, x0], argTypes := #[t, u'] }, type, pos, after, guard⟩).run P w = .ok (.value v') w' := by
      simp [execOp, resolve, invoke, builtin, e1, e2, hrun]
    unfold Oper.wp
    rw [hexec]
    cases id with
    | none =>
      simp only at hlid
      obtain ⟨g1, g2⟩ := conc_add hc (o2 := .row nb e (P.cellsOf e) (xs ++ ys)) (l' := l') hos htape hout hsize (fun b hb => hblk b hb fun h => by rw [hlid] at h; simp at h) (fun h => (hl' h).resolve_right fun h' => by rw [hlid] at h'; simp at h') (fun hs hm => hok _ _ hs hm)
      exact hn _ _ _ g2 g1 ⟨l', by rw [← hlen]; simp, hv'⟩
    | some id =>
      obtain ⟨rfl, hid⟩ := hs
      obtain ⟨g1, g2⟩ := conc_swap hc (o2 := .row nb e (P.cellsOf e) (xs ++ ys)) (l' := l') hid hlid rfl hos htape hout hsize hblk hl' (fun hs hm => hok _ _ hs hm)
      exact hn _ _ _ g2 g1 ⟨l', by rw [← hlen]; simp, hv'⟩
  by_cases hys : ys = []
  · -- nothing is appended
    have hys' := hys
    subst hys'
    refine fin w (.slice sb n c) l (run_append_noneS w t u' type e i ht hu' hi sb n c hnc str (by rw [← hyl0, hys]; rfl)) rfl rfl rfl (Nat.le_refl _) (fun _ _ _ => rfl) (fun h => .inr ⟨h, rfl⟩) (fun m' F' hst hm => ?_) ?_
    · rw [hce, List.append_nil]
      refine ⟨hlsz, by omega, hlnil, hxl, fun h => ?_⟩
      cases sb with
      | none => have := (hsn rfl).2.2.1; rw [this] at h; simp at h
      | some g =>
        rcases hsome g rfl with ⟨hh, _⟩ | ⟨_, hlc, cur, _, g1, g2, g3, _⟩
        · rw [hh] at h; simp at h
        exact ⟨cur, g1, by omega, by omega, by rw [g2, hlc], trivial, RowsRep.stays hst _ _ rfl _ _ g3⟩
    · cases sb with
      | none => obtain ⟨rfl, rfl, h, h'⟩ := hsn rfl; exact .inl ⟨h, by rw [h']⟩
      | some g =>
        rcases hsome g rfl with ⟨h, h', rfl, rfl⟩ | ⟨h, hlc, cur, rfl, _⟩
        · exact .inl ⟨h, by rw [h']⟩
        exact .inr ⟨h, by rw [hlc, hln]⟩
  · have hne0 : str.size ≠ 0 := by rw [← hyl0]; have := List.length_pos_iff.2 hys; omega
    have hall : ∀ x ∈ xs ++ ys, x.length = i.size := fun x hx => (List.mem_append.1 hx).elim (hxl x) (hlens x)
    have hnil' : (nb && (xs ++ ys).isEmpty) = false := by
      cases ys with
      | nil => exact absurd rfl hys
      | cons y ys => cases nb <;> cases xs <;> rfl
    have hfits : (n + ys.length) * i.bytes ≤ 140737488355328 := Nat.le_trans (Nat.mul_le_mul (show n + ys.length ≤ 68719476736 by omega) hb2) (by decide)
    obtain ⟨news, hnr, hnl, hcase⟩ := append_stepS hc (ty := type) ht hu' hi hz hzs (by rw [← hce]; exact he1) hby hne0 sb n c olds hol (fun g hg => by
      rcases hsome g hg with ⟨_, _, h1, h2⟩ | ⟨_, _, cur, rfl, g1, g2, _, g3⟩
      · exact .inl ⟨h1, h2⟩
      exact .inr ⟨l.b, cur, rfl, g1, hnc, g2, g3⟩) (fun h => ⟨(hsn h).1, (hsn h).2.1⟩) (by rw [← hyl0]; exact hfits)
    rw [← hys0] at hnr
    rw [← hyl0] at hnl hcase
    · rcases hcase with ⟨k, cur, rfl, hb, hroom, hrun⟩ | ⟨cap', hcap', hcm', hrun⟩
      · -- there
        have hyl : 0 < ys.length := List.length_pos_iff.2 hys
        rcases hsome _ rfl with ⟨_, _, h1, h2⟩ | ⟨hl1, hlc, cur', hke, hb', hcs, hxr, hcur⟩
        · omega
        simp only [Addr.mk.injEq, and_true] at hke
        subst hke
        rw [hb] at hb'
        simp only [Option.some.injEq, Obj.cells.injEq, and_true] at hb'
        subst hb'
        have hfit : n * i.size + news.length ≤ cur.size := by rw [hnl, hcs, ← Nat.add_mul]; exact Nat.mul_le_mul_right _ hroom
        refine (fin _ _ ⟨l.b, n + ys.length, i.size, c, false, none⟩ hrun rfl rfl rfl (by simp) (fun b' _ hne => setRow_other _ _ _ _ (hne hl1)) (fun _ => .inr ⟨hl1, rfl⟩) (fun m' F' hst hm => ?_) (.inr ⟨rfl, rfl⟩))
        rw [hce]
        refine ⟨rfl, by simp [hnx], ⟨fun h => by simp at h, fun _ => hnil'⟩, hall, fun _ => ⟨_, setRow_heap w l.b cur _ e _ hb, hroom, hcm, ?_, trivial, ?_⟩⟩
        · simp only [List.size_toArray, List.length_append, List.length_take, List.length_drop, Array.length_toList]
          omega
        · refine rows_of_vals (m := m') (vs := olds ++ news) (setRow_heap w l.b cur _ e _ hb) hall ?_ fun j v hj => ?_
          · rw [List.flatten_append, List.map_append]
            exact RepL.append (RepL.stays hst hm _ _ horep) (RepL.stays hst hm _ _ hnr)
          · have hl2 : n * i.size ≤ cur.toList.length := by rw [Array.length_toList]; omega
            simp only [List.getElem?_toArray, List.append_assoc]
            rw [List.getElem?_append] at hj
            split at hj
            · rename_i hlt
              rw [List.getElem?_append_left (by rw [List.length_take]; omega), List.getElem?_take_of_lt (by omega)]
              simpa using hcur j v hj
            · rename_i hlt
              rw [List.getElem?_append_right (by rw [List.length_take]; omega), List.length_take, Nat.min_eq_left hl2]
              rw [hol] at hj
              rw [List.getElem?_append_left (lt_of_get hj)]
              exact hj
      · -- elsewhere
        have hnew : (w.drew.alloc (.cells (olds.toArray ++ news.toArray ++ Builtin.zeroCells z.cells (cap' - (n + ys.length))) e)).heap[w.heap.size]? = some (.cells (olds.toArray ++ news.toArray ++ Builtin.zeroCells z.cells (cap' - (n + ys.length))) e) := heap_alloc_new w.drew _
        refine (fin _ _ ⟨w.heap.size, n + ys.length, i.size, cap', false, none⟩ hrun rfl rfl rfl (by simp) (fun b' hb' _ => heap_alloc_old w.drew _ b' hb') (fun _ => .inl ⟨Nat.le_refl _, by simp⟩) (fun m' F' hst hm => ?_) (.inr ⟨rfl, rfl⟩))
        rw [hce]
        refine ⟨rfl, by simp [hnx], ⟨fun h => by simp at h, fun _ => hnil'⟩, hall, fun _ => ⟨_, hnew, hcap', hcm', ?_, trivial, ?_⟩⟩
        · simp only [Array.size_append, List.size_toArray, size_zeroCells, hzs, hol, hnl, ← Nat.add_mul]
          congr 1
          omega
        · refine rows_of_vals (m := m') (vs := olds ++ news) hnew hall ?_ fun j v hj => ?_
          · rw [List.flatten_append, List.map_append]
            exact RepL.append (RepL.stays hst hm _ _ horep) (RepL.stays hst hm _ _ hnr)
          · have := lt_of_get hj
            rw [Array.getElem?_append_left (by simp at this ⊢; omega)]
            simpa using hj
end
end Go.Ab
/- The objects that a part of the code sees: taken out, renamed, put back. -/
set_option linter.unusedVariables false
set_option linter.unusedSimpArgs false
namespace Go.Ab
open Go Go.RowKit
section
variable {P : Program} {w0 : World} {n0 : Nat} {α : Type} {Q : α → Prop} {keep : List FuncId}

instance : Inhabited Loc := ⟨⟨0, 0, 0, 0, true, none⟩⟩

theorem reach_ok (H : List Ob) : ∀ (n : Nat) (todo seen : List Nat), seen.Nodup → (∀ i ∈ seen, i < H.length) → (reach H n todo seen).Nodup ∧ ∀ i ∈ reach H n todo seen, i < H.length
  | 0, todo, seen, h1, h2 => by simp only [reach]; exact ⟨List.pairwise_reverse.2 (List.Pairwise.imp Ne.symm h1), fun i hi => h2 i (by simpa using hi)⟩
  | n + 1, [], seen, h1, h2 => by simp only [reach]; exact ⟨List.pairwise_reverse.2 (List.Pairwise.imp Ne.symm h1), fun i hi => h2 i (by simpa using hi)⟩
  | n + 1, i :: todo, seen, h1, h2 => by
    simp only [reach]
    split
    · exact reach_ok H n todo seen h1 h2
    · rename_i hc
      split
      · rename_i o ho
        refine reach_ok H n _ (i :: seen) (List.nodup_cons.2 ⟨by simpa using hc, h1⟩) fun j hj => ?_
        rcases List.mem_cons.1 hj with rfl | hj
        · exact lt_of_get ho
        · exact h2 j hj
      · exact reach_ok H n todo seen h1 h2

theorem placeOf_some : ∀ (ids : List Nat) (i j : Nat), placeOf ids i = some j → ids[j]? = some i
  | [], i, j, h => by simp [placeOf] at h
  | x :: xs, i, j, h => by
    unfold placeOf at h
    split at h
    · rename_i hx
      have := Nat.eq_of_beq_eq_true hx
      simp at h
      subst h
      simp [this]
    · cases hp : placeOf xs i with
      | none => rw [hp] at h; simp at h
      | some k =>
        rw [hp] at h
        simp at h
        subst h
        simpa using placeOf_some xs i k hp

theorem ObOk.mapId {m m' : List Loc} {w : World} {F : Nat → Prop} {f : Nat → Option Nat} (hf : ∀ (i j : Nat) (l : Loc), f i = some j → m[i]? = some l → m'[j]? = some l) {l : Loc} {o : Ob} (ho : ObOk P m w F l o) : ObOk P m' w F l (o.mapId f) := by
  cases o with
  | cells cs =>
    obtain ⟨h1, c, e, h2, h3⟩ := ho
    exact ⟨h1, c, e, h2, RepL.mapId hf _ _ h3⟩
  | row nb e sz xs => exact ho
  | iter s pos => exact ho
  | dead => trivial
theorem live_mapId (f : Nat → Option Nat) (o : Ob) : (o.mapId f).live = o.live := by cases o <;> rfl

/-- The blocks that a part does not see. -/
def Rest (X : Nat → Prop) (m : List Loc) (H : List Ob) (ids : List Nat) (b : Nat) : Prop :=
  X b ∨ ∃ (i : Nat) (o : Ob) (l : Loc), i ∉ ids ∧ H[i]? = some o ∧ m[i]? = some l ∧ o.live = true ∧ l.nil = false ∧ l.b = b
def locs (m : List Loc) (ids : List Nat) : List Loc := ids.map fun i => (m[i]?).getD default

theorem locs_at {m : List Loc} {ids : List Nat} {j i : Nat} (h : ids[j]? = some i) (hi : i < m.length) : (locs m ids)[j]? = m[i]? := by
  unfold locs
  simp [List.getElem?_map, h, List.getElem?_eq_getElem hi]
theorem pack_at {H : List Ob} {ids : List Nat} {j i : Nat} (h : ids[j]? = some i) (hi : i < H.length) : (pack H ids)[j]? = (H[i]?).map (·.mapId (placeOf ids)) := by
  unfold pack
  simp [List.getElem?_map, h, List.getElem?_eq_getElem hi]

theorem ff_pack {X : Nat → Prop} {m : List Loc} {H : List Ob} {ids : List Nat} (hlen : m.length = H.length) (hin : ∀ i ∈ ids, i < H.length) : FF (Rest X m H ids) (locs m ids) (pack H ids) = FF X m H := by
  funext b
  apply propext
  constructor
  · rintro ((hx | ⟨i, o, l, h1, h2, h3, h4, h5, h6⟩) | ⟨j, o, l, h1, h2, h3, h4, h5⟩)
    · exact .inl hx
    · exact .inr ⟨i, o, l, h2, h3, h4, h5, h6⟩
    · have hj : j < ids.length := by have := lt_of_get h1; simpa [pack] using this
      have hji := List.getElem?_eq_getElem hj
      have hi := hin _ (List.getElem_mem hj)
      rw [pack_at hji hi, List.getElem?_eq_getElem hi] at h1
      rw [locs_at hji (by omega)] at h2
      simp at h1
      subst h1
      rw [live_mapId] at h3
      exact .inr ⟨ids[j], _, l, List.getElem?_eq_getElem hi, h2, h3, h4, h5⟩
  · rintro (hx | ⟨i, o, l, h1, h2, h3, h4, h5⟩)
    · exact .inl (.inl hx)
    · by_cases hm : i ∈ ids
      · obtain ⟨j, hj⟩ := List.getElem?_of_mem hm
        have hi := lt_of_get h1
        exact .inr ⟨j, o.mapId (placeOf ids), l, by rw [pack_at hj hi, h1]; rfl, by rw [locs_at hj (by omega)]; exact h2, by rw [live_mapId]; exact h3, h4, h5⟩
      · exact .inl (.inr ⟨i, o, l, hm, h1, h2, h3, h4, h5⟩)

theorem nodup_at {ids : List Nat} (hn : ids.Nodup) {i j x : Nat} (h1 : ids[i]? = some x) (h2 : ids[j]? = some x) : i = j := by
  obtain ⟨hi, e1⟩ := List.getElem?_eq_some_iff.1 h1
  obtain ⟨hj, e2⟩ := List.getElem?_eq_some_iff.1 h2
  rcases Nat.lt_trichotomy i j with h | h | h
  · exact absurd (e1.trans e2.symm) (List.pairwise_iff_getElem.1 hn i j hi hj h)
  · exact h
  · exact absurd (e2.trans e1.symm) (List.pairwise_iff_getElem.1 hn j i hj hi h)

theorem map_ok {m : List Loc} {H : List Ob} {ids : List Nat} (hlen : m.length = H.length) (hin : ∀ i ∈ ids, i < H.length) : ∀ (i j : Nat) (l : Loc), placeOf ids i = some j → m[i]? = some l → (locs m ids)[j]? = some l := by
  intro i j l h1 h2
  rw [locs_at (placeOf_some ids i j h1) (lt_of_get h2)]
  exact h2

theorem conc_pack {X : Nat → Prop} {m : List Loc} {H : List Ob} {w : World} (hc : Conc P w0 X m H w) {ids : List Nat} (hn : ids.Nodup) (hin : ∀ i ∈ ids, i < H.length) : Conc P w0 (Rest X m H ids) (locs m ids) (pack H ids) w := by
  have hlen := hc.len
  have at_ : ∀ (j : Nat) (o : Ob) (l : Loc), (pack H ids)[j]? = some o → (locs m ids)[j]? = some l → ∃ i o', ids[j]? = some i ∧ H[i]? = some o' ∧ m[i]? = some l ∧ o = o'.mapId (placeOf ids) := by
    intro j o l h1 h2
    have hj : j < ids.length := by have := lt_of_get h1; simpa [pack] using this
    have hji := List.getElem?_eq_getElem hj
    have hi := hin _ (List.getElem_mem hj)
    rw [pack_at hji hi, List.getElem?_eq_getElem hi] at h1
    rw [locs_at hji (by omega)] at h2
    simp at h1
    exact ⟨ids[j], _, hji, List.getElem?_eq_getElem hi, h2, h1.symm⟩
  refine ⟨hc.below, by simp [locs, pack], ?_, ?_, ?_, ?_⟩
  · rintro b (hx | ⟨i, o, l, h1, h2, h3, h4, h5, rfl⟩)
    · exact hc.xlt b hx
    · exact (hc.own i o l h2 h3 h4 h5).2.1
  · intro j o l h1 h2
    obtain ⟨i, o', g1, g2, g3, rfl⟩ := at_ j o l h1 h2
    rw [ff_pack hlen hin]
    exact ObOk.mapId (map_ok hlen hin) (hc.obj i o' l g2 g3)
  · intro j o l h1 h2 h3 h4
    obtain ⟨i, o', g1, g2, g3, rfl⟩ := at_ j o l h1 h2
    rw [live_mapId] at h3
    obtain ⟨k1, k2, k3⟩ := hc.own i o' l g2 g3 h3 h4
    refine ⟨k1, k2, ?_⟩
    rintro (hx | ⟨i', o2, l2, q1, q2, q3, q4, q5, q6⟩)
    · exact k3 hx
    · have := hc.sep i' i o2 o' l2 l q2 q3 q4 q5 g2 g3 h3 h4 q6
      subst this
      exact q1 (List.mem_of_getElem? g1)
  · intro i j o p l k h1 h2 h3 h4 q1 q2 q3 q4 he
    obtain ⟨i', o', g1, g2, g3, rfl⟩ := at_ i o l h1 h2
    obtain ⟨j', p', k1, k2, k3, rfl⟩ := at_ j p k q1 q2
    rw [live_mapId] at h3 q3
    have := hc.sep i' j' o' p' l k g2 g3 h3 h4 k2 k3 q3 q4 he
    subst this
    exact nodup_at hn g1 k1

/-! ### Rows become data -/
def isRow : Option Ob → Bool
  | some (.row _ _ _ _) => true
  | _ => false
theorem kill_at : ∀ (os : List Nat) (H : List Ob) (i : Nat), (kill H os)[i]? = if i ∈ os ∧ isRow (H[i]?) = true then some .dead else H[i]?
  | [], H, i => by simp [kill]
  | j :: js, H, i => by
    simp only [kill]
    split
    · rename_i nb e sz xs hj
      rw [kill_at js]
      by_cases hij : i = j
      · subst hij
        have hlt := lt_of_get hj
        rw [List.getElem?_set_self hlt]
        simp [isRow, hj]
      · rw [List.getElem?_set_ne (fun e => hij e.symm)]
        simp [hij]
    · rename_i hj
      rw [kill_at js]
      by_cases hij : i = j
      · subst hij
        have : isRow H[i]? = false := by
          cases ho : H[i]? with
          | none => rfl
          | some o => cases o <;> first | rfl | exact absurd ho (hj _ _ _ _)
        simp [this]
      · simp [hij]
theorem kill_len : ∀ (os : List Nat) (H : List Ob), (kill H os).length = H.length
  | [], H => rfl
  | j :: js, H => by simp only [kill]; split <;> simp [kill_len js]
theorem kill_live {os : List Nat} {H : List Ob} {i : Nat} {o : Ob} (h : (kill H os)[i]? = some o) (hl : o.live = true) : H[i]? = some o ∧ ¬ (i ∈ os ∧ isRow (H[i]?) = true) := by
  rw [kill_at] at h
  split at h
  · simp at h; subst h; simp [Ob.live] at hl
  · rename_i hn; exact ⟨h, hn⟩

theorem owned_kill {m : List Loc} {H : List Ob} {os : List Nat} {b : Nat} (h : Owned m (kill H os) b) : Owned m H b := by
  obtain ⟨i, o, l, h1, h2, h3, h4, h5⟩ := h
  exact ⟨i, o, l, (kill_live h1 h3).1, h2, h3, h4, h5⟩

theorem stays_kill {X : Nat → Prop} {m : List Loc} {H : List Ob} (w : World) (os : List Nat) : Stays w (FF X m H) w (FF X m (kill H os)) :=
  ⟨Nat.le_refl _, fun b _ hF => ⟨rfl, fun h => hF (h.imp id owned_kill)⟩⟩

theorem conc_kill {X : Nat → Prop} {m : List Loc} {H : List Ob} {w : World} (hc : Conc P w0 X m H w) (os : List Nat) : Conc P w0 X m (kill H os) w := by
  refine ⟨hc.below, by rw [kill_len]; exact hc.len, hc.xlt, ?_, ?_, ?_⟩
  · intro i o l h1 h2
    rw [kill_at] at h1
    split at h1
    · simp at h1; subst h1; trivial
    · exact ObOk.stays (stays_kill w os) (fun _ _ h => h) (fun _ _ => rfl) (hc.obj i o l h1 h2)
  · intro i o l h1 h2 h3 h4
    exact hc.own i o l (kill_live h1 h3).1 h2 h3 h4
  · intro i j o p l k h1 h2 h3 h4 g1 g2 g3 g4 he
    exact hc.sep i j o p l k (kill_live h1 h3).1 h2 h3 h4 (kill_live g1 g3).1 g2 g3 g4 he

mutual
theorem frz_rep {X : Nat → Prop} {m : List Loc} {H : List Ob} {w : World} (hc : Conc P w0 X m H w) {os : List Nat} : ∀ (a : A) (v : Value), (∀ i ∈ A.owns a, i ∈ os) → Rep m w (FF X m H) a v → Rep m w (FF X m (kill H os)) (A.frz H a) v
  | .d x, v, _, h => by simpa only [A.frz, Rep] using DRep.stays (stays_kill w os) x v h
  | .ptr id off, v, _, h => by simpa only [A.frz, Rep] using h
  | .pel id i off, v, _, h => by simpa only [A.frz, Rep] using h
  | .pdat cs, v, _, h => by simpa only [A.frz] using Rep.stays (stays_kill w os) (fun _ _ h => h) (.pdat cs) v h
  | .own id, v, ho, ⟨l, hl, hcase⟩ => by
    simp only [A.frz]
    split
    · rename_i nb e sz xs hid
      obtain ⟨h1, h2, h3, h4, h5⟩ := hc.obj _ _ _ hid hl
      rcases hcase with ⟨hn, rfl⟩ | ⟨hn, rfl⟩
      · obtain ⟨hem, had⟩ := h3.1 hn
        subst hem
        cases hadr : l.adr with
        | none => rw [hadr] at had; exact .inl ⟨by rw [← had]; rfl, rfl, rfl⟩
        | some g => rw [hadr] at had; exact .inr ⟨by rw [← had]; rfl, g, 0, rfl, by simp, by simp, .inl rfl⟩
      · obtain ⟨cur, g1, g2, g3, g4, g5, g6⟩ := h5 hn
        refine .inr ⟨h3.2 hn, ⟨l.b, 0, none⟩, l.cap, by rw [h2], by omega, h4, .inr ⟨l.b, 0, rfl, ?_, (Array.getElem?_eq_some_iff.1 g1).1, RowsRep.stays (stays_kill w os) _ _ rfl _ _ g6⟩⟩
        rintro (hx | ⟨i, o, k, k1, k2, k3, k4, k5⟩)
        · exact (hc.own id _ l hid hl rfl hn).2.2 hx
        · obtain ⟨k1, k6⟩ := kill_live k1 k3
          have := hc.sep i id o _ k l k1 k2 k3 k4 hid hl rfl hn k5
          subst this
          exact k6 ⟨ho i (by simp [A.owns]), by simp [isRow, hid]⟩
    · trivial
  | .clo f a c, v, ho, ⟨va, vc, h1, h2, h3⟩ => by
    simp only [A.frz]
    exact ⟨va, vc, h1, frzL_rep hc a _ (fun i hi => ho i (by simp [A.owns, hi])) h2, frzL_rep hc c _ (fun i hi => ho i (by simp [A.owns, hi])) h3⟩
  | .ifc t x, v, ho, ⟨u, h1, h2⟩ => by simp only [A.frz]; exact ⟨u, h1, frz_rep hc x u (fun i hi => ho i (by simpa [A.owns] using hi)) h2⟩
  | .agg cs, v, ho, ⟨vs, h1, h2⟩ => by simp only [A.frz]; exact ⟨vs, h1, frzL_rep hc cs _ (fun i hi => ho i (by simpa [A.owns] using hi)) h2⟩
  | .tup xs, v, ho, ⟨vs, h1, h2⟩ => by simp only [A.frz]; exact ⟨vs, h1, frzL_rep hc xs _ (fun i hi => ho i (by simpa [A.owns] using hi)) h2⟩
  | .top, v, _, _ => by simp only [A.frz]; trivial
theorem frzL_rep {X : Nat → Prop} {m : List Loc} {H : List Ob} {w : World} (hc : Conc P w0 X m H w) {os : List Nat} : ∀ (as : List A) (vs : List Value), (∀ i ∈ A.ownsL as, i ∈ os) → RepL m w (FF X m H) as vs → RepL m w (FF X m (kill H os)) (A.frzL H as) vs
  | [], _, _, h => by simpa only [A.frzL, RepL] using h
  | a :: as, _, ho, ⟨v, vs', h1, h2, h3⟩ => by
    simp only [A.frzL]
    exact ⟨v, vs', h1, frz_rep hc a v (fun i hi => ho i (by simp [A.ownsL, hi])) h2, frzL_rep hc as vs' (fun i hi => ho i (by simp [A.ownsL, hi])) h3⟩
end

mutual
theorem owns_lt {m : List Loc} {w : World} {F : Nat → Prop} : ∀ (a : A) (v : Value), Rep m w F a v → ∀ i ∈ A.owns a, i < m.length
  | .d _, _, _, i, hi => by simp [A.owns] at hi
  | .ptr _ _, _, _, i, hi => by simp [A.owns] at hi
  | .pel _ _ _, _, _, i, hi => by simp [A.owns] at hi
  | .pdat _, _, _, i, hi => by simp [A.owns] at hi
  | .own id, _, ⟨l, hl, _⟩, i, hi => by simp [A.owns] at hi; subst hi; exact lt_of_get hl
  | .clo _ a c, _, ⟨_, _, _, h2, h3⟩, i, hi => by simp [A.owns] at hi; exact hi.elim (ownsL_lt a _ h2 i) (ownsL_lt c _ h3 i)
  | .ifc _ x, _, ⟨u, _, h2⟩, i, hi => by simp [A.owns] at hi; exact owns_lt x u h2 i hi
  | .agg cs, _, ⟨vs, _, h2⟩, i, hi => by simp [A.owns] at hi; exact ownsL_lt cs _ h2 i hi
  | .tup cs, _, ⟨vs, _, h2⟩, i, hi => by simp [A.owns] at hi; exact ownsL_lt cs _ h2 i hi
  | .top, _, _, i, hi => by simp [A.owns] at hi
theorem ownsL_lt {m : List Loc} {w : World} {F : Nat → Prop} : ∀ (as : List A) (vs : List Value), RepL m w F as vs → ∀ i ∈ A.ownsL as, i < m.length
  | [], _, _, i, hi => by simp [A.ownsL] at hi
  | a :: as, _, ⟨v, vs', _, h2, h3⟩, i, hi => by simp [A.ownsL] at hi; exact hi.elim (owns_lt a v h2 i) (ownsL_lt as vs' h3 i)
end
theorem frzH_at {H : List Ob} {i : Nat} {o : Ob} (h : (frzH H)[i]? = some o) : ∃ o1, H[i]? = some o1 ∧ ((isRow (some o1) = true ∧ o = .dead) ∨ (isRow (some o1) = false ∧ o = o1.frz H)) := by
  unfold frzH at h
  rw [kill_at] at h
  have hr : ∀ o : Ob, isRow (some (o.frz H)) = isRow (some o) := fun o => by cases o <;> rfl
  cases hi : H[i]? with
  | none => rw [List.getElem?_map, hi] at h; simp [isRow] at h
  | some o1 =>
    have hlt : i < H.length := (List.getElem?_eq_some_iff.1 hi).1
    rw [List.getElem?_map, hi] at h
    simp only [Option.map_some, hr, List.mem_range, hlt, true_and] at h
    split at h
    · rename_i hrow
      simp only [Option.some.injEq] at h
      exact ⟨o1, rfl, .inl ⟨hrow, h.symm⟩⟩
    · rename_i hrow
      simp only [Option.some.injEq] at h
      exact ⟨o1, rfl, .inr ⟨by simpa using hrow, h.symm⟩⟩
theorem frzH_live {H : List Ob} {i : Nat} {o : Ob} (h : (frzH H)[i]? = some o) (hl : o.live = true) : ∃ o1, H[i]? = some o1 ∧ isRow (some o1) = false ∧ o1.live = true := by
  obtain ⟨o1, h1, h2⟩ := frzH_at h
  rcases h2 with ⟨_, rfl⟩ | ⟨h2, rfl⟩
  · simp [Ob.live] at hl
  · exact ⟨o1, h1, h2, by cases o1 <;> simp_all [Ob.frz, Ob.live]⟩
theorem owned_frz {m : List Loc} {H : List Ob} {b : Nat} (h : Owned m (frzH H) b) : Owned m (kill H (List.range H.length)) b := by
  obtain ⟨i, o, l, h1, h2, h3, h4, h5⟩ := h
  obtain ⟨o1, g1, g2, g3⟩ := frzH_live h1 h3
  exact ⟨i, o1, l, by rw [kill_at, g1]; simp [g2], h2, g3, h4, h5⟩
/-- All rows become data. -/
theorem conc_frz {X : Nat → Prop} {m : List Loc} {H : List Ob} {w : World} (hc : Conc P w0 X m H w) :
    Conc P w0 X m (frzH H) w ∧ (∀ (a : A) (v : Value), Rep m w (FF X m H) a v → Rep m w (FF X m (frzH H)) (A.frz H a) v) ∧ (∀ b, Owned m (frzH H) b → Owned m H b) := by
  have hst : Stays w (FF X m (kill H (List.range H.length))) w (FF X m (frzH H)) := ⟨Nat.le_refl _, fun b _ hF => ⟨rfl, fun h => hF (h.imp id owned_frz)⟩⟩
  have hin : ∀ i, i < m.length → i ∈ List.range H.length := fun i hi => by rw [← hc.len]; exact List.mem_range.2 hi
  have hrep : ∀ (a : A) (v : Value), Rep m w (FF X m H) a v → Rep m w (FF X m (frzH H)) (A.frz H a) v := fun a v h =>
    Rep.stays hst (fun _ _ h => h) _ _ (frz_rep hc a v (fun i hi => hin i (owns_lt a v h i hi)) h)
  have hrepL : ∀ (as : List A) (vs : List Value), RepL m w (FF X m H) as vs → RepL m w (FF X m (frzH H)) (A.frzL H as) vs := fun a v h =>
    RepL.stays hst (fun _ _ h => h) _ _ (frzL_rep hc a v (fun i hi => hin i (ownsL_lt a v h i hi)) h)
  refine ⟨⟨hc.below, by rw [hc.len]; simp [frzH, kill_len], hc.xlt, fun i o l h1 h2 => ?_, fun i o l h1 h2 h3 h4 => ?_, fun i j o p l k h1 h2 h3 h4 g1 g2 g3 g4 he => ?_⟩, hrep, fun b h => owned_kill (owned_frz h)⟩
  · obtain ⟨o1, g1, g2⟩ := frzH_at h1
    rcases g2 with ⟨_, rfl⟩ | ⟨g2, rfl⟩
    · trivial
    · have := hc.obj i o1 l g1 h2
      cases o1 with
      | cells cs =>
        obtain ⟨k1, c, e, k2, k3⟩ := this
        exact ⟨k1, c, e, k2, hrepL _ _ k3⟩
      | row nb e sz xs => simp [isRow] at g2
      | iter s pos => exact this
      | dead => trivial
  · obtain ⟨o1, g1, _, g3⟩ := frzH_live h1 h3
    exact hc.own i o1 l g1 h2 g3 h4
  · obtain ⟨o1, q1, _, q3⟩ := frzH_live h1 h3
    obtain ⟨p1, r1, _, r3⟩ := frzH_live g1 g3
    exact hc.sep i j o1 p1 l k q1 h2 q3 h4 r1 g2 r3 g4 he
end
end Go.Ab
/- The objects put back. -/
set_option linter.unusedVariables false
set_option linter.unusedSimpArgs false
namespace Go.Ab
open Go Go.RowKit
section
variable {P : Program} {w0 : World} {n0 : Nat} {α : Type} {Q : α → Prop} {keep : List FuncId}

theorem putBack_len : ∀ (is : List Nat) (os H : List Ob), (putBack H is os).length = H.length
  | [], os, H => by cases os <;> rfl
  | i :: is, [], H => rfl
  | i :: is, o :: os, H => by simp [putBack, putBack_len is os]
theorem putBack_other : ∀ (is : List Nat) (os H : List Ob) (k : Nat), k ∉ is → (putBack H is os)[k]? = H[k]?
  | [], os, H, k, _ => by cases os <;> rfl
  | i :: is, [], H, k, _ => rfl
  | i :: is, o :: os, H, k, h => by
    simp only [putBack]
    rw [putBack_other is os _ k (fun e => h (by simp [e])), List.getElem?_set_ne (fun e => h (by simp [e]))]
theorem putBack_at : ∀ (is : List Nat) (os H : List Ob) (j i : Nat) (o : Ob), is.Nodup → (∀ i ∈ is, i < H.length) → is[j]? = some i → os[j]? = some o → (putBack H is os)[i]? = some o
  | [], os, H, j, i, o, _, _, h, _ => by simp at h
  | i0 :: is, [], H, j, i, o, _, _, _, h => by simp at h
  | i0 :: is, o0 :: os, H, j, i, o, hn, hlt, hi, ho => by
    simp only [putBack]
    obtain ⟨hn1, hn2⟩ := List.nodup_cons.1 hn
    cases j with
    | zero =>
      simp at hi ho
      subst hi ho
      rw [putBack_other is os _ i0 hn1, List.getElem?_set_self (hlt i0 (by simp))]
    | succ j =>
      exact putBack_at is os _ j i o hn2 (fun k hk => by simpa using hlt k (by simp [hk])) (by simpa using hi) (by simpa using ho)

theorem backIds_len {ids : List Nat} {h n : Nat} (hle : ids.length ≤ n) : (backIds ids h n).length = n := by simp [backIds]; omega
theorem backIds_old {ids : List Nat} {h n j : Nat} (hj : j < ids.length) : (backIds ids h n)[j]? = ids[j]? := by unfold backIds; rw [List.getElem?_append_left hj]
theorem backIds_new {ids : List Nat} {h n j : Nat} (hj : ids.length ≤ j) (hn : j < n) : (backIds ids h n)[j]? = some (h + (j - ids.length)) := by
  unfold backIds
  rw [List.getElem?_append_right hj, List.getElem?_map, List.getElem?_range (by omega)]
  rfl
theorem backIds_nodup {ids : List Nat} {h n : Nat} (hn : ids.Nodup) (hin : ∀ i ∈ ids, i < h) : (backIds ids h n).Nodup := by
  unfold backIds
  refine List.nodup_append.2 ⟨hn, ?_, ?_⟩
  · refine List.Pairwise.map _ ?_ List.nodup_range
    intro a b hab e
    exact hab (by omega)
  · intro a ha b hb e
    have h1 := hin a ha
    simp at hb
    obtain ⟨c, _, rfl⟩ := hb
    omega
theorem backIds_lt {ids : List Nat} {h n : Nat} (hle : ids.length ≤ n) (hin : ∀ i ∈ ids, i < h) : ∀ i ∈ backIds ids h n, i < h + (n - ids.length) := by
  intro i hi
  unfold backIds at hi
  rcases List.mem_append.1 hi with hi | hi
  · have := hin i hi; omega
  · simp at hi
    obtain ⟨c, hc, rfl⟩ := hi
    omega

theorem conc_unpack {X : Nat → Prop} {m : List Loc} {H : List Ob} {w w' : World} (hc : Conc P w0 X m H w) {ids : List Nat} (hn : ids.Nodup) (hin : ∀ i ∈ ids, i < H.length) {Hk Hs' : List Ob} {ms' : List Loc}
    (hk : ∀ b, Owned (locs m ids) Hk b → Owned (locs m ids) (pack H ids) b) (hkl : Hk.length = ids.length) (hext : Ext Hk.length (locs m ids) Hk w ms' Hs' w') (hc' : Conc P w0 (Rest X m H ids) ms' Hs' w') :
    ∃ m', Ext H.length m H w m' (unpack H ids Hs') w' ∧ Conc P w0 X m' (unpack H ids Hs') w' ∧ FF (Rest X m H ids) ms' Hs' = FF X m' (unpack H ids Hs') ∧
      ∀ (i j : Nat) (l : Loc), (backIds ids H.length Hs'.length)[i]? = some j → ms'[i]? = some l → m'[j]? = some l := by
  have hlen := hc.len
  have hlen' := hc'.len
  have hll : (locs m ids).length = ids.length := by simp [locs]
  -- the part has at least its old objects
  have hge : ids.length ≤ ms'.length := by
    rcases Nat.eq_zero_or_pos ids.length with h0 | h0
    · omega
    · have := hext.pre (ids.length - 1) (by omega)
      rw [List.getElem?_eq_getElem (show ids.length - 1 < (locs m ids).length by omega)] at this
      have := lt_of_get this
      omega
  have hge' : ids.length ≤ Hs'.length := by omega
  have hbl := backIds_len (h := H.length) hge'
  have hbn := backIds_nodup (n := Hs'.length) hn hin
  have hblt := backIds_lt (h := H.length) hge' hin
  let back := backIds ids H.length Hs'.length
  let m' := m ++ ms'.drop ids.length
  have hml : m'.length = H.length + (Hs'.length - ids.length) := by simp [m']; omega
  have hHl : (unpack H ids Hs').length = H.length + (Hs'.length - ids.length) := by
    unfold unpack
    simp only [putBack_len, List.length_append, List.length_replicate]
  -- where the part's objects lie
  have hmat : ∀ (i j : Nat) (l : Loc), back[i]? = some j → ms'[i]? = some l → m'[j]? = some l := by
    intro i j l h1 h2
    have hi := lt_of_get h2
    rcases Nat.lt_or_ge i ids.length with h | h
    · rw [backIds_old h] at h1
      have hj := hin j (List.mem_of_getElem? h1)
      have h3 := hext.pre i (by omega)
      rw [locs_at h1 (by omega)] at h3
      show (m ++ ms'.drop ids.length)[j]? = some l
      rw [List.getElem?_append_left (by omega), ← h3]
      exact h2
    · rw [backIds_new h (by omega)] at h1
      simp only [Option.some.injEq] at h1
      subst h1
      show (m ++ ms'.drop ids.length)[_]? = some l
      rw [List.getElem?_append_right (by omega), List.getElem?_drop]
      rw [show ids.length + (H.length + (i - ids.length) - m.length) = i by omega]
      exact h2
  have hHat : ∀ (i j : Nat) (o : Ob), back[i]? = some j → Hs'[i]? = some o → (unpack H ids Hs')[j]? = some (o.mapId (back[·]?)) := by
    intro i j o h1 h2
    unfold unpack
    exact putBack_at _ _ _ i j _ hbn (fun k hk => by simpa using hblt k hk) h1 (by rw [List.getElem?_map, h2]; rfl)
  have hHother : ∀ i, i < H.length → i ∉ ids → (unpack H ids Hs')[i]? = H[i]? := by
    intro i hi hni
    unfold unpack
    rw [putBack_other _ _ _ i ?_, List.getElem?_append_left hi]
    intro hm
    unfold backIds at hm
    rcases List.mem_append.1 hm with hm | hm
    · exact hni hm
    · simp at hm
      omega
  have hmother : ∀ i, i < H.length → m'[i]? = m[i]? := fun i hi => by
    show (m ++ ms'.drop ids.length)[i]? = _
    rw [List.getElem?_append_left (by omega)]
  -- every object is one of the part's, or one that was put aside
  have hcase : ∀ (j : Nat) (o : Ob) (l : Loc), (unpack H ids Hs')[j]? = some o → m'[j]? = some l → (∃ (i : Nat) (o' : Ob), back[i]? = some j ∧ Hs'[i]? = some o' ∧ ms'[i]? = some l ∧ o = o'.mapId (back[·]?)) ∨ (j < H.length ∧ j ∉ ids ∧ H[j]? = some o ∧ m[j]? = some l) := by
    intro j o l h1 h2
    by_cases hj : j ∈ back
    · obtain ⟨i, hi⟩ := List.getElem?_of_mem hj
      have hilt := lt_of_get hi
      have hilt : i < Hs'.length := by rw [show back.length = Hs'.length from hbl] at hilt; exact hilt
      have e1 := hHat i j _ hi (List.getElem?_eq_getElem hilt)
      have e2 := hmat i j _ hi (List.getElem?_eq_getElem (show i < ms'.length by omega))
      rw [h1] at e1
      rw [h2] at e2
      simp only [Option.some.injEq] at e1 e2
      refine .inl ⟨i, Hs'[i], hi, List.getElem?_eq_getElem hilt, ?_, e1⟩
      rw [e2]; exact List.getElem?_eq_getElem _
    · have hjl := lt_of_get h1
      rw [hHl] at hjl
      have hjH : j < H.length := by
        rcases Nat.lt_or_ge j H.length with h | h
        · exact h
        · exfalso
          apply hj
          refine List.mem_of_getElem? (i := ids.length + (j - H.length)) ?_
          rw [show back = backIds ids H.length Hs'.length from rfl, backIds_new (by omega) (by omega)]
          congr 1
          omega
      have hjn : j ∉ ids := fun h => hj (List.mem_append.2 (.inl h))
      rw [hHother j hjH hjn] at h1
      rw [hmother j hjH] at h2
      exact .inr ⟨hjH, hjn, h1, h2⟩
  have hff : FF (Rest X m H ids) ms' Hs' = FF X m' (unpack H ids Hs') := by
    funext b
    apply propext
    constructor
    · rintro ((hx | ⟨i, o, l, h1, h2, h3, h4, h5, h6⟩) | ⟨i, o, l, h1, h2, h3, h4, h5⟩)
      · exact .inl hx
      · have hi := lt_of_get h2
        exact .inr ⟨i, o, l, by rw [hHother i hi h1]; exact h2, by rw [hmother i hi]; exact h3, h4, h5, h6⟩
      · have hi := lt_of_get h1
        have hb : back[i]? = some (back[i]'(by rw [show back.length = Hs'.length from hbl]; exact hi)) := List.getElem?_eq_getElem _
        exact .inr ⟨_, _, l, hHat i _ o hb h1, hmat i _ l hb h2, by rw [live_mapId]; exact h3, h4, h5⟩
    · rintro (hx | ⟨j, o, l, h1, h2, h3, h4, h5⟩)
      · exact .inl (.inl hx)
      · rcases hcase j o l h1 h2 with ⟨i, o', g1, g2, g3, rfl⟩ | ⟨g1, g2, g3, g4⟩
        · rw [live_mapId] at h3
          exact .inr ⟨i, o', l, g2, g3, h3, h4, h5⟩
        · exact .inl (.inr ⟨j, o, l, g2, g3, g4, h3, h4, h5⟩)
  have hunk : ∀ b, b < w.heap.size → ¬ Owned m H b → ¬ Owned (locs m ids) Hk b := by
    intro b hb hno ho
    have h1 := hk b ho
    have h2 : FF (Rest X m H ids) (locs m ids) (pack H ids) b := .inr h1
    rw [ff_pack hlen hin] at h2
    rcases h2 with hx | h2
    · obtain ⟨j, o, l, q1, q2, q3, q4, q5⟩ := h1
      have := (conc_pack hc hn hin).own j o l q1 q2 q3 q4
      rw [q5] at this
      exact this.2.2 (.inl hx)
    · exact hno h2
  -- what was put aside is as it was
  have haside : ∀ (i : Nat) (o : Ob) (l : Loc), i ∉ ids → H[i]? = some o → m[i]? = some l → o.live = true → l.nil = false → w'.heap[l.b]? = w.heap[l.b]? := by
    intro i o l h1 h2 h3 h4 h5
    refine hext.blk l.b (hc.own i o l h2 h3 h4 h5).2.1 fun ho => ?_
    obtain ⟨j, o', l', q1, q2, q3, q4, q5⟩ := hk _ ho
    have := (conc_pack hc hn hin).own j o' l' q1 q2 q3 q4
    rw [q5] at this
    exact this.2.2 (.inr ⟨i, o, l, h1, h2, h3, h4, h5, rfl⟩)
  have hst : Stays w (FF X m H) w' (FF X m' (unpack H ids Hs')) := by
    refine ⟨hext.size, fun b hb hF => ⟨hext.blk b hb (hunk b hb fun h => hF (.inr h)), ?_⟩⟩
    rw [← hff]
    rintro (hx | ho)
    · exact hF (by rw [← ff_pack hlen hin]; exact .inl hx)
    · rcases hext.own b ho with h1 | h1
      · exact hunk b hb (fun h => hF (.inr h)) h1
      · omega
  refine ⟨m', ⟨fun i hi => hmother i hi, hext.os, hext.tape, hext.output, hext.size, fun b hb hno => hext.blk b hb (hunk b hb hno), ?_⟩, ⟨hc'.below, by rw [hml, hHl], ?_, ?_, ?_, ?_⟩, hff, hmat⟩
  · rintro b ⟨j, o, l, h1, h2, h3, h4, h5⟩
    rcases hcase j o l h1 h2 with ⟨i, o', g1, g2, g3, rfl⟩ | ⟨g1, g2, g3, g4⟩
    · rw [live_mapId] at h3
      rcases hext.own b ⟨i, o', l, g2, g3, h3, h4, h5⟩ with h6 | h6
      · obtain ⟨j', p, k, q1, q2, q3, q4, q5⟩ := hk b h6
        have h7 : FF (Rest X m H ids) (locs m ids) (pack H ids) b := .inr ⟨j', p, k, q1, q2, q3, q4, q5⟩
        rw [ff_pack hlen hin] at h7
        rcases h7 with hx | h7
        · have := (conc_pack hc hn hin).own j' p k q1 q2 q3 q4
          rw [q5] at this
          exact absurd (.inl hx) this.2.2
        · exact .inl h7
      · exact .inr h6
    · exact .inl ⟨j, o, l, g3, g4, h3, h4, h5⟩
  · exact fun b hx => Nat.lt_of_lt_of_le (hc.xlt b hx) hext.size
  · intro j o l h1 h2
    rcases hcase j o l h1 h2 with ⟨i, o', g1, g2, g3, rfl⟩ | ⟨g1, g2, g3, g4⟩
    · rw [← hff]
      exact ObOk.mapId hmat (hc'.obj i o' l g2 g3)
    · exact ObOk.stays hst (fun k l' hk' => by rw [hmother k (by have := lt_of_get hk'; omega)]; exact hk') (fun hl hnil => haside j o l g2 g3 g4 hl hnil) (hc.obj j o l g3 g4)
  · intro j o l h1 h2 h3 h4
    rcases hcase j o l h1 h2 with ⟨i, o', g1, g2, g3, rfl⟩ | ⟨g1, g2, g3, g4⟩
    · rw [live_mapId] at h3
      have := hc'.own i o' l g2 g3 h3 h4
      exact ⟨this.1, this.2.1, fun hx => this.2.2 (.inl hx)⟩
    · have := hc.own j o l g3 g4 h3 h4
      exact ⟨this.1, Nat.lt_of_lt_of_le this.2.1 hext.size, this.2.2⟩
  · intro i j o p l k h1 h2 h3 h4 q1 q2 q3 q4 he
    rcases hcase i o l h1 h2 with ⟨i', o', g1, g2, g3, rfl⟩ | ⟨g1, g2, g3, g4⟩
    · rw [live_mapId] at h3
      rcases hcase j p k q1 q2 with ⟨j', p', k1, k2, k3, rfl⟩ | ⟨k1, k2, k3, k4⟩
      · rw [live_mapId] at q3
        have := hc'.sep i' j' o' p' l k g2 g3 h3 h4 k2 k3 q3 q4 he
        subst this
        rw [g1] at k1
        simpa using k1
      · exact absurd (.inr ⟨j, p, k, k2, k3, k4, q3, q4, he.symm⟩) (hc'.own i' o' l g2 g3 h3 h4).2.2
    · rcases hcase j p k q1 q2 with ⟨j', p', k1, k2, k3, rfl⟩ | ⟨k1, k2, k3, k4⟩
      · rw [live_mapId] at q3
        exact absurd (.inr ⟨i, o, l, g2, g3, g4, h3, h4, he⟩) (hc'.own j' p' k k2 k3 q3 q4).2.2
      · exact hc.sep i j o p l k g3 g4 h3 h4 k3 k4 q3 q4 he
end
end Go.Ab
/- Calls; every operation. -/
set_option linter.unusedVariables false
set_option linter.unusedSimpArgs false
namespace Go.Ab
open Go Go.RowKit
section
variable {P : Program} {w0 : World} {n0 : Nat} {α : Type} {Q : α → Prop} {keep : List FuncId}

/-- A call, seen from the objects of its caller. -/
theorem call_frame {f : FuncId} {args : List A} {H : List Ob} {os : List Nat} {args2 : List A} {r : A} {Hs : List Ob} {ids : List Nat} (hn : ids.Nodup) (hin : ∀ i ∈ ids, i < H.length)
    (ha : AEv P w0 f args2 (kill (pack H ids) os) r Hs)
    (hargs : ∀ (m : List Loc) (w : World) (X : Nat → Prop) (vs : List Value), Conc P w0 X m (pack H ids) w → RepL m w (FF X m (pack H ids)) (A.mapIdL (placeOf ids) args) vs → RepL m w (FF X m (kill (pack H ids) os)) args2 vs)
    {X : Nat → Prop} {m : List Loc} {w : World} {vs : List Value} (hc : Conc P w0 X m H w) (hr : RepL m w (FF X m H) args vs) :
    Calls P f vs.toArray w fun e w' => match e with
      | .returned v => ∃ m', Ext H.length m H w m' (unpack H ids Hs) w' ∧ Conc P w0 X m' (unpack H ids Hs) w' ∧ Rep m' w' (FF X m' (unpack H ids Hs)) (r.mapId ((backIds ids H.length Hs.length)[·]?)) v
      | .panicked _ => False
      | .outgrown => False := by
  have hlen := hc.len
  have hcp := conc_pack hc hn hin
  have hr1 := RepL.mapId (map_ok hlen hin) _ _ hr
  rw [← ff_pack (X := X) hlen hin] at hr1
  refine (ha _ _ w vs (conc_kill hcp os) (hargs _ w _ vs hcp hr1)).mono fun e w' he => ?_
  cases e with
  | returned v =>
    obtain ⟨ms', h1, h2, h3⟩ := he
    obtain ⟨m', g1, g2, g3, g4⟩ := conc_unpack hc hn hin (fun b => owned_kill) (by rw [kill_len]; simp [pack]) h1 h2
    exact ⟨m', g1, g2, by rw [← g3]; exact Rep.mapId g4 _ _ h3⟩
  | panicked ch => exact he
  | outgrown => exact he

theorem told_callA {dst type pos after guard} {f0 : Operand} {as0 : Array Operand} {ts : Array TypeId} {f : FuncId} {oargs args : List A} {H : List Ob} {k : A → List Ob → Tr α}
    (hop : ∀ (X : Nat → Prop) (m : List Loc) (w : World) (a : Act), Conc P w0 X m H w → RepL m w (FF X m H) oargs ((Op.call { callee := .value f0, args := as0, argTypes := ts }).operands.toList.map a.eval) →
      ∃ (va vc : Array Value), a.eval f0 = .func (.func f) va vc ∧ RepL m w (FF X m H) args (va ++ as0.map a.eval ++ vc).toList)
    (h : wp P w0 n0 (callA P keep f args H k) Q) : Told P w0 n0 ⟨dst, .call { callee := .value f0, args := as0, argTypes := ts }, type, pos, after, guard⟩ oargs H k Q := by
  unfold callA at h
  split at h
  · rename_i fn hfn
    split at h
    · rename_i hbody
      simp only [Bool.and_eq_true] at hbody
      obtain ⟨hb1, hb2⟩ := hbody
      obtain ⟨r, Hs, ha, h⟩ := h
      obtain ⟨hn, hin⟩ := reach_ok (kill H (if keep.contains f then [] else A.ownsL args)) 1000 (A.refsL (if keep.contains f then args else A.frzL H args)) [] List.nodup_nil (by simp)
      refine ⟨_, _, fun X m w a hc hr next Q' hnx => ?_, fun hq => by simp [quietOp] at hq, h⟩
      obtain ⟨va, vc, hf, hr2⟩ := hop X m w a hc hr
      have hr3 : RepL m w (FF X m (kill H (if keep.contains f then [] else A.ownsL args))) (if keep.contains f then args else A.frzL H args) (va ++ as0.map a.eval ++ vc).toList := by
        split
        · exact RepL.stays (stays_kill w _) (fun _ _ h => h) _ _ hr2
        · exact frzL_rep hc _ _ (fun i hi => hi) hr2
      have hcall := call_frame (os := []) hn hin ha (fun m w X vs hc hr => hr) (conc_kill hc _) hr3
      have hexec : (execOp a.eval ⟨dst, .call { callee := .value f0, args := as0, argTypes := ts }, type, pos, after, guard⟩).run P w = .ok (.enter f (va ++ as0.map a.eval ++ vc)) w := by
        have hnb : ¬ fn.body = none := fun e => by rw [e] at hb1; simp at hb1
        have hnm : ¬ fn.name = "runtime.NumGoroutine" := by simpa using hb2
        simp [execOp, resolve, Deferred.ofValue, hf, invoke, callFunc, hfn, hnm, hnb]
      unfold Oper.wp
      rw [hexec, Oper.upon_enter]
      have htl : (va ++ as0.map a.eval ++ vc) = (va ++ as0.map a.eval ++ vc).toList.toArray := by simp
      rw [htl]
      refine hcall.mono fun e w' he => ?_
      cases e with
      | returned v =>
        obtain ⟨m', g1, g2, g3⟩ := he
        rw [kill_len] at g1
        exact hnx m' w' v ⟨g1.pre, g1.os, g1.tape, g1.output, g1.size, fun b hb hno => g1.blk b hb fun ho => hno (owned_kill ho), fun b ho => (g1.own b ho).imp owned_kill id⟩ g2 g3
      | panicked ch => exact he.elim
      | outgrown => exact he.elim
    · exact h.elim
  · exact h.elim

theorem told_builtin {dst type pos after guard} {b : Builtin} {as0 : Array Operand} {ts : Array TypeId} {args : List A} {H : List Ob} {k : A → List Ob → Tr α}
    (h : wp P w0 n0 (builtinA P b ts args H k) Q) : Told P w0 n0 ⟨dst, .call { callee := .builtin b, args := as0, argTypes := ts }, type, pos, after, guard⟩ args H k Q := by
  have ops : ∀ a : Act, (Op.call { callee := .builtin b, args := as0, argTypes := ts }).operands.toList.map a.eval = as0.toList.map a.eval := fun a => by simp [Op.operands, Call.operands]
  have size_one : ∀ (a : Act) (v : Value), as0.toList.map a.eval = [v] → as0.map a.eval = #[v] := fun a v hv => by
    apply Array.toList_inj.1
    simpa using hv
  have size_two : ∀ (a : Act) (u v : Value), as0.toList.map a.eval = [u, v] → as0.map a.eval = #[u, v] := fun a u v hv => by
    apply Array.toList_inj.1
    simpa using hv
  unfold builtinA at h
  split at h
  · -- the length of a string
    rename_i s
    split at h
    · rename_i t ht
      split at h
      · rename_i hu
        refine ⟨_, H, .of_quiet fun X m w a hc hr => ?_, fun hq => by simp [quietOp] at hq, h⟩
        rw [ops] at hr
        obtain ⟨v, hv, h1⟩ := repL_one hr
        simp only [Rep, DRep] at h1
        subst h1
        exact ⟨.int .i64 s.size, by simp [execOp, resolve, invoke, builtin, size_one a _ hv, Builtin.len_, ht, run_underlying hu, goInt], by simp [Rep, DRep]⟩
      · exact h.elim
    · exact h.elim
  · -- the length of a slice, of an array
    rename_i x hx
    split at h
    · rename_i t ht
      split at h
      · rename_i e hu
        split at h
        · rename_i q1 q2 xs hel
          refine ⟨_, H, .of_quiet fun X m w a hc hr => ?_, fun hq => by simp [quietOp] at hq, h⟩
          rw [ops] at hr
          obtain ⟨v, hv, h1⟩ := repL_one hr
          obtain ⟨ad, cap, rfl, _⟩ := elemsOf_some hc hel h1
          exact ⟨.int .i64 xs.length, by simp [execOp, resolve, invoke, builtin, size_one a _ hv, Builtin.len_, ht, run_underlying hu, goInt], by simp [Rep, DRep]⟩
        · exact h.elim
      · rename_i n e hu
        refine ⟨_, H, .of_quiet fun X m w a hc hr => ?_, fun hq => by simp [quietOp] at hq, h⟩
        rw [ops] at hr
        obtain ⟨v, hv, h1⟩ := repL_one hr
        exact ⟨.int .i64 n, by simp [execOp, resolve, invoke, builtin, size_one a _ hv, Builtin.len_, ht, run_underlying hu, goInt], by simp [Rep, DRep]⟩
      · exact h.elim
    · exact h.elim
  · -- append
    rename_i s x
    split at h
    · rename_i t u ht hu
      split at h
      · rename_i e e' he hu2
        have hu1 := elemOfSlice_some he
        split at h
        · rename_i q1 sz' ys hel
          split at h
          · rename_i hcond
            simp only [Bool.and_eq_true] at hcond
            obtain ⟨⟨htu, hg⟩, hsz⟩ := hcond
            have htu := Nat.eq_of_beq_eq_true htu
            subst htu
            have fin : ∀ (H' : List Ob) (hk : ∀ (s0 x0 : Operand), OpOk P w0 ⟨dst, .call { callee := .builtin .append, args := #[s0, x0], argTypes := #[t, t] }, type, pos, after, guard⟩ [s, x] H (.own H.length) H'), wp P w0 n0 (k (.own H.length) H') Q → Told P w0 n0 ⟨dst, .call { callee := .builtin .append, args := as0, argTypes := ts }, type, pos, after, guard⟩ [s, x] H k Q := by
              intro H' hk hwp
              refine ⟨_, _, fun X m w a hc hr next Q' hnx => ?_, fun hq => by simp [quietOp] at hq, hwp⟩
              have hr' := hr
              simp only at hr'
              rw [ops] at hr'
              have hl := RepL.length _ _ hr'
              simp at hl
              have has : as0 = #[as0[0]'(by omega), as0[1]'(by omega)] := by
                apply Array.ext
                · simp; omega
                · intro i h1 h2
                  simp at h2
                  match i with
                  | 0 => rfl
                  | 1 => rfl
                  | i + 2 => omega
              have hexec : ∀ (ts' : Array TypeId), ts'[0]? = some t → ts'[1]? = some t → execOp a.eval ⟨dst, .call { callee := .builtin .append, args := as0, argTypes := ts }, type, pos, after, guard⟩ = execOp a.eval ⟨dst, .call { callee := .builtin .append, args := as0, argTypes := ts' }, type, pos, after, guard⟩ := by
                intro ts' h0 h1
                simp only [execOp, resolve, invoke, builtin, pure_bind, Builtin.append_, ht, hu, h0, h1]
              have hex := hexec #[t, t] rfl rfl
              have key := hk (as0[0]'(by omega)) (as0[1]'(by omega)) X m w a hc (by rw [has] at hr; exact hr) next Q' hnx
              rw [← has] at key
              unfold Oper.wp at key ⊢
              rw [hex]
              exact key
            split at h
            · rename_i id
              split at h
              · rename_i nb e2 sz xs hid
                split at h
                · rename_i hc2
                  simp only [Bool.and_eq_true] at hc2
                  obtain ⟨⟨he2, hs2⟩, hap⟩ := hc2
                  have he2 := Nat.eq_of_beq_eq_true he2
                  have hs2 := Nat.eq_of_beq_eq_true hs2
                  subst he2 hs2
                  obtain ⟨hb, h⟩ := h
                  exact fin _ (fun s0 x0 => append_ok (id := some id) hu1 hg hel hsz ⟨rfl, hid, hap⟩ (of_decide_eq_true hb)) h
                · exact h.elim
              · exact h.elim
            · rename_i q r
              obtain ⟨hb, h⟩ := h
              exact fin _ (fun s0 x0 => append_ok (id := none) (nb := true) (xs := []) hu1 hg hel hsz ⟨⟨_, _, rfl⟩, rfl, rfl⟩ (by simpa using of_decide_eq_true hb)) (by simpa using h)
            · exact h.elim
          · exact h.elim
        · exact h.elim
      · rename_i e he hu2
        have hu1 := elemOfSlice_some he
        split at h
        · rename_i str
          split at h
          · rename_i hcond
            simp only [Bool.and_eq_true] at hcond
            obtain ⟨hg, h1⟩ := hcond
            have he1 := Nat.eq_of_beq_eq_true h1
            have fin : ∀ (H' : List Ob) (hk : ∀ (s0 x0 : Operand), OpOk P w0 ⟨dst, .call { callee := .builtin .append, args := #[s0, x0], argTypes := #[t, u] }, type, pos, after, guard⟩ [s, .d (.str str)] H (.own H.length) H'), wp P w0 n0 (k (.own H.length) H') Q → Told P w0 n0 ⟨dst, .call { callee := .builtin .append, args := as0, argTypes := ts }, type, pos, after, guard⟩ [s, .d (.str str)] H k Q := by
              intro H' hk hwp
              refine ⟨_, _, fun X m w a hc hr next Q' hnx => ?_, fun hq => by simp [quietOp] at hq, hwp⟩
              have hr' := hr
              simp only at hr'
              rw [ops] at hr'
              have hl := RepL.length _ _ hr'
              simp at hl
              have has : as0 = #[as0[0]'(by omega), as0[1]'(by omega)] := by
                apply Array.ext
                · simp; omega
                · intro i h1 h2
                  simp at h2
                  match i with
                  | 0 => rfl
                  | 1 => rfl
                  | i + 2 => omega
              have hexec : ∀ (ts' : Array TypeId), ts'[0]? = some t → ts'[1]? = some u → execOp a.eval ⟨dst, .call { callee := .builtin .append, args := as0, argTypes := ts }, type, pos, after, guard⟩ = execOp a.eval ⟨dst, .call { callee := .builtin .append, args := as0, argTypes := ts' }, type, pos, after, guard⟩ := by
                intro ts' h0 h1
                simp only [execOp, resolve, invoke, builtin, pure_bind, Builtin.append_, ht, hu, h0, h1]
              have hex := hexec #[t, u] rfl rfl
              have key := hk (as0[0]'(by omega)) (as0[1]'(by omega)) X m w a hc (by rw [has] at hr; exact hr) next Q' hnx
              rw [← has] at key
              unfold Oper.wp at key ⊢
              rw [hex]
              exact key
            split at h
            · rename_i id
              split at h
              · rename_i nb e2 sz xs hid
                split at h
                · rename_i hc2
                  simp only [Bool.and_eq_true] at hc2
                  obtain ⟨he2, hs2⟩ := hc2
                  have he2 := Nat.eq_of_beq_eq_true he2
                  have hs2 := Nat.eq_of_beq_eq_true hs2
                  subst he2 hs2
                  obtain ⟨hb, h⟩ := h
                  exact fin _ (fun s0 x0 => append_okS (id := some id) rfl hu1 hu2 hg he1 ⟨rfl, hid⟩ (of_decide_eq_true hb)) h
                · exact h.elim
              · exact h.elim
            · rename_i q r
              obtain ⟨hb, h⟩ := h
              exact fin _ (fun s0 x0 => append_okS (id := none) (nb := true) (xs := []) rfl hu1 hu2 hg he1 ⟨⟨_, _, rfl⟩, rfl, rfl⟩ (by simpa using of_decide_eq_true hb)) (by simpa using h)
            · exact h.elim
          · exact h.elim
        · exact h.elim
      · exact h.elim
    · exact h.elim
  · -- the greatest
    rename_i ka x kb y
    split at h
    · rename_i hk
      subst hk
      refine ⟨_, H, .of_quiet fun X m w a hc hr => ?_, fun hq => by simp [quietOp] at hq, h⟩
      rw [ops] at hr
      obtain ⟨u, v, hv, h1, h2⟩ := repL_two hr
      simp only [Rep, DRep] at h1 h2
      subst h1 h2
      exact ⟨.int ka (if y > x then y else x), by simp [execOp, resolve, invoke, builtin, size_two a _ _ hv, Builtin.max_, Builtin.max2], by simp [Rep, DRep]⟩
    · exact h.elim
  · rename_i ka x kb y
    split at h
    · rename_i hk
      subst hk
      refine ⟨_, H, .of_quiet fun X m w a hc hr => ?_, fun hq => by simp [quietOp] at hq, h⟩
      rw [ops] at hr
      obtain ⟨u, v, hv, h1, h2⟩ := repL_two hr
      simp only [Rep, DRep] at h1 h2
      subst h1 h2
      exact ⟨.int ka (if y < x then y else x), by simp [execOp, resolve, invoke, builtin, size_two a _ _ hv, Builtin.min_, Builtin.min2], by simp [Rep, DRep]⟩
    · exact h.elim
  · exact h.elim

theorem told_call {dst type pos after guard} {c : Call} {args : List A} {H : List Ob} {k : A → List Ob → Tr α}
    (h : wp P w0 n0 (xop P keep ⟨dst, .call c, type, pos, after, guard⟩ args H k) Q) : Told P w0 n0 ⟨dst, .call c, type, pos, after, guard⟩ args H k Q := by
  obtain ⟨callee, as0, ts⟩ := c
  unfold xop at h
  dsimp only at h
  split at h
  · rename_i f0
    split at h
    · rename_i f as
      refine told_callA (fun X m w a hc hr => ?_) h
      obtain ⟨v, vs, hv, h1, h2⟩ := hr
      simp [Op.operands, Call.operands] at hv
      obtain ⟨e1, rfl⟩ := hv
      simp only [Rep, DRep] at h1
      exact ⟨#[], #[], by rw [e1, h1], by simpa using h2⟩
    · rename_i f first cap as
      refine told_callA (fun X m w a hc hr => ?_) h
      obtain ⟨v, vs, hv, ⟨va, vc, h1, h3, h4⟩, h2⟩ := hr
      simp [Op.operands, Call.operands] at hv
      obtain ⟨e1, rfl⟩ := hv
      refine ⟨va, vc, by rw [e1, h1], ?_⟩
      have := RepL.append (RepL.append h3 h2) h4
      simpa using this
    · exact h.elim
  · exact told_builtin h
  · exact h.elim

/-- EVERY OPERATION. -/
theorem told {o : Oper} {args : List A} {H : List Ob} {k : A → List Ob → Tr α} (h : wp P w0 n0 (xop P keep o args H k) Q) : Told P w0 n0 o args H k Q := by
  obtain ⟨dst, op, type, pos, after, guard⟩ := o
  cases op with
  | move x => exact told_move h
  | assign x => exact told_assign h
  | pick c a b => exact told_pick h
  | alloc e => exact told_alloc h
  | box e x => exact told_box h
  | build t ps => exact told_build h
  | buildSlice t n ps => exact told_buildSlice h
  | load t x => exact told_load h
  | store t p v => exact told_store h
  | nilCheck x => exact told_nilCheck h
  | binOp op t x y yt => exact told_binOp h
  | unOp op t x => exact told_unOp h
  | convert s t x => exact told_convert h
  | makeInterface t x => exact told_makeInterface h
  | makeFunc f a b => exact told_makeFunc h
  | slice t x lo hi mx => exact told_slice h
  | fieldAddr s x f => exact told_fieldAddr h
  | field s x f => exact told_field h
  | indexAddr t x i => exact told_indexAddr h
  | index t x i => exact told_index h
  | range t x => exact told_range h
  | next x b => exact told_next h
  | typeAssert x xt t ok => exact told_typeAssert h
  | extract x i => exact told_extract h
  | call c => exact told_call h
  | _ => exact (by unfold xop at h; exact h : False).elim
end
end Go.Ab
/- Regions in the order of their text. -/
set_option linter.unusedVariables false
set_option linter.unusedSimpArgs false
namespace Go.Ab
open Go Go.RowKit
section
variable {P : Program} {w0 : World} {n0 : Nat} {α : Type} {Q : α → Prop} {keep : List FuncId}

theorem env_get {m : List Loc} {w : World} {F : Nat → Prop} {env : List A} {tmps : Array Value} (h : RepL m w F env tmps.toList) (t : Nat) : Rep m w F (env.getD t undefA) (tmps.getD t undef) := by
  have hl := RepL.length _ _ h
  rw [List.getD_eq_getElem?_getD]
  rcases Nat.lt_or_ge t env.length with ht | ht
  · obtain ⟨v, hv, h1⟩ := RepL.at_ _ _ h t _ (List.getElem?_eq_getElem ht)
    have hv' : tmps[t]? = some v := by simpa using hv
    have ht' : t < tmps.size := by simp at hl; omega
    rw [List.getElem?_eq_getElem ht]
    have : tmps.getD t undef = v := by
      rw [Array.getD_eq_getD_getElem?, hv']
      rfl
    rw [this]
    exact h1
  · rw [List.getElem?_eq_none ht]
    have ht' : tmps.size ≤ t := by simp at hl; omega
    have : tmps.getD t undef = undef := by
      rw [Array.getD_eq_getD_getElem?, Array.getElem?_eq_none ht']
      rfl
    rw [this]
    exact ⟨#[], rfl, rfl⟩
theorem eval_rep {m : List Loc} {w : World} {F : Nat → Prop} {env : List A} {a : Act} (h : RepL m w F env a.tmps.toList) (o : Operand) : Rep m w F (evA env o) (a.eval o) := by
  cases o with
  | tmp t => exact env_get h t
  | const v => exact ofVal1_rep _ _ _ v
  | global g => trivial
  | func f => exact rfl
theorem evals_rep {m : List Loc} {w : World} {F : Nat → Prop} {env : List A} {a : Act} (h : RepL m w F env a.tmps.toList) : ∀ (l : List Operand), RepL m w F (l.map (evA env)) (l.map a.eval)
  | [] => rfl
  | o :: os => ⟨_, _, rfl, eval_rep h o, evals_rep h os⟩
theorem put_rep {m : List Loc} {w : World} {F : Nat → Prop} {env : List A} {a : Act} (h : RepL m w F env a.tmps.toList) {dst : Option Tmp} {x : A} {v : Value} (hv : Rep m w F x v) : RepL m w F (putA env dst x) (a.put dst v).tmps.toList := by
  cases dst with
  | none => exact h
  | some d => simp only [putA, Act.put, Array.toList_setIfInBounds]; exact RepL.set d h hv
theorem put_defers (a : Act) (dst : Option Tmp) (v : Value) : (a.put dst v).defers = a.defers := by cases dst <;> rfl
theorem undef_rep (m : List Loc) (w : World) (F : Nat → Prop) : Rep m w F undefA undef := ⟨#[], rfl, rfl⟩

theorem set_same {m : List Loc} {w : World} {F : Nat → Prop} {env : List A} {vs : List Value} (h : RepL m w F env vs) {d : Nat} {x y : A} (hx : env.getD d undefA = x) (hy : ∀ v, Rep m w F x v → Rep m w F y v) : RepL m w F (env.set d y) vs := by
  refine RepL.of_at _ _ (by rw [List.length_set]; exact RepL.length _ _ h) fun j a v ha hv => ?_
  rw [List.getElem?_set] at ha
  split at ha
  · rename_i hjd
    subst hjd
    split at ha
    · rename_i hlt
      simp at ha
      subst ha
      obtain ⟨u, hu, h1⟩ := RepL.at_ _ _ h d _ (List.getElem?_eq_getElem hlt)
      rw [hv] at hu
      simp at hu
      subst hu
      rw [List.getD_eq_getElem?_getD, List.getElem?_eq_getElem hlt] at hx
      simp at hx
      exact hy v (hx ▸ h1)
    · simp at ha
  · obtain ⟨u, hu, h1⟩ := RepL.at_ _ _ h j a ha
    rw [hv] at hu
    simp at hu
    subst hu
    exact h1

theorem yielded_bool {m : List Loc} {w : World} {F : Nat → Prop} {env : List A} {a : Act} (h : RepL m w F env a.tmps.toList) {ops : Array Oper} {j d : Nat} (hd : dstOf ops j = some d) {t : Bool} (ht : env.getD d undefA = .d (.bool t)) : yielded ops a.tmps j = some t := by
  unfold yielded
  unfold dstOf at hd
  rw [hd]
  have hl := RepL.length _ _ h
  have hdl : d < env.length := by
    rcases Nat.lt_or_ge d env.length with h' | h'
    · exact h'
    · rw [List.getD_eq_getElem?_getD, List.getElem?_eq_none h'] at ht
      simp [undefA] at ht
  obtain ⟨v, hv, h1⟩ := RepL.at_ _ _ h d _ (List.getElem?_eq_getElem hdl)
  rw [List.getD_eq_getElem?_getD, List.getElem?_eq_getElem hdl] at ht
  simp at ht
  rw [ht] at h1
  simp only [Rep, DRep] at h1
  subst h1
  have : a.tmps[d]? = some (.bool t) := by simpa using hv
  simp [this]
theorem yielded_tup {m : List Loc} {w : World} {F : Nat → Prop} {env : List A} {a : Act} (h : RepL m w F env a.tmps.toList) {ops : Array Oper} {j d : Nat} (hd : dstOf ops j = some d) {xs : List A} (ht : env.getD d undefA = .tup xs) : yielded ops a.tmps j = none := by
  unfold yielded
  unfold dstOf at hd
  rw [hd]
  have hl := RepL.length _ _ h
  simp at hl
  rcases Nat.lt_or_ge d env.length with h' | h'
  · obtain ⟨v, hv, h1⟩ := RepL.at_ _ _ h d _ (List.getElem?_eq_getElem h')
    rw [List.getD_eq_getElem?_getD, List.getElem?_eq_getElem h'] at ht
    simp at ht
    rw [ht] at h1
    obtain ⟨vs, rfl, _⟩ := h1
    have : a.tmps[d]? = some (.tuple vs) := by simpa using hv
    simp [this]
  · have : a.tmps[d]? = none := Array.getElem?_eq_none (by omega)
    simp [this]

theorem ext_len {m m' : List Loc} {H H' : List Ob} {w w' : World} (h : Ext n0 m H w m' H' w') (hn : n0 ≤ m.length) : n0 ≤ m'.length := by
  rcases Nat.eq_zero_or_pos n0 with h0 | h0
  · omega
  · have := h.pre (n0 - 1) (by omega)
    rw [List.getElem?_eq_getElem (show n0 - 1 < m.length by omega)] at this
    have := lt_of_get this
    omega

theorem runOps_sound {ops : Array Oper} {J : Exit → Act → World → Prop} : ∀ (l : List Oper) (s : St) (k : St → Tr α), wp P w0 n0 (runOps P keep ops l s k) Q →
    ∀ (X : Nat → Prop) (m : List Loc) (w : World) (a : Act), Conc P w0 X m s.heap w → RepL m w (FF X m s.heap) s.env a.tmps.toList → a.defers = [] → n0 ≤ m.length →
      (∀ (s' : St) (m' : List Loc) (w' : World) (a' : Act), Ext n0 m s.heap w m' s'.heap w' → Conc P w0 X m' s'.heap w' → RepL m' w' (FF X m' s'.heap) s'.env a'.tmps.toList → a'.defers = [] → wp P w0 n0 (k s') Q → J .normal a' w') → wpList P ops J l a w
  | [], s, k, h, X, m, w, a, hc, hr, hd, hn, hk => hk s m w a (Ext.refl _ _ _ _) hc hr hd h
  | o :: rest, s, k, h, X, m, w, a, hc, hr, hd, hn, hk => by
    -- the operation is carried out, from an environment that says as much
    have go : ∀ (env : List A), RepL m w (FF X m s.heap) env a.tmps.toList → wp P w0 n0 (xop P keep o (o.op.operands.toList.map (evA env)) s.heap fun v H => runOps P keep ops rest ⟨putA env o.dst v, H⟩ k) Q → o.wp P a w (wpList P ops J rest) J ∨ (o.asks P a w ∧ LetsOut J) := by
      intro env hr' h'
      obtain ⟨v, H', hop, _, h''⟩ := told h'
      refine .inl <| hop X m w a hc (evals_rep hr' _) _ _ (fun m' w' v' hext hconc hv' => ?_)
      have hst : Stays w (FF X m s.heap) w' (FF X m' H') := by
        refine ⟨hext.size, fun b hb hF => ⟨hext.blk b hb fun h => hF (.inr h), ?_⟩⟩
        rintro (hx | ho)
        · exact hF (.inl hx)
        · exact (hext.own b ho).elim (fun h => hF (.inr h)) (fun h => by omega)
      have hext' : Ext n0 m s.heap w m' H' w' := hext.mono (by rw [← hc.len]; exact hn)
      have hm : ∀ (i : Nat) (l : Loc), m[i]? = some l → m'[i]? = some l := fun i l hi => by
        rw [hext.pre i (by have := lt_of_get hi; rw [hc.len] at this; exact this)]; exact hi
      refine runOps_sound rest ⟨putA env o.dst v, H'⟩ k h'' X m' w' (a.put o.dst v') hconc (put_rep (RepL.stays hst hm _ _ hr') hv') (by rw [put_defers]; exact hd) (ext_len hext' hn) fun s'' m'' w'' a'' g1 g2 g3 g4 g5 => ?_
      exact hk s'' m'' w'' a'' (hext'.trans g1) g2 g3 g4 g5
    have skip : ∀ (env : List A), RepL m w (FF X m s.heap) env a.tmps.toList → wp P w0 n0 (runOps P keep ops rest ⟨putA env o.dst undefA, s.heap⟩ k) Q → wpList P ops J rest (a.put o.dst undef) w := by
      intro env hr' h'
      exact runOps_sound rest ⟨putA env o.dst undefA, s.heap⟩ k h' X m w (a.put o.dst undef) hc (put_rep hr' (undef_rep _ _ _)) (by rw [put_defers]; exact hd) hn hk
    unfold runOps at h
    unfold wpList
    cases hg : o.guard with
    | none =>
      rw [hg] at h
      have : Region.wanted o (yielded ops a.tmps) = true := by simp [Region.wanted, hg]
      rw [if_pos this]
      exact go s.env hr h
    | some gw =>
      obtain ⟨j, want⟩ := gw
      rw [hg] at h
      dsimp only at h
      split at h
      · rename_i d hdst
        split at h
        · rename_i t ht
          have hy := yielded_bool hr hdst ht
          have hset : RepL m w (FF X m s.heap) (s.env.set d (.d (.bool t))) a.tmps.toList := set_same hr ht fun v hv => hv
          have hw : Region.wanted o (yielded ops a.tmps) = (t == want) := by simp [Region.wanted, hg, hy]
          rw [hw]
          obtain ⟨h1, h2⟩ := h
          cases t with
          | true =>
            have h1 := h1 rfl
            cases want with
            | true => rw [if_pos (show (true == true) = true from rfl)]; exact go _ hset h1
            | false => rw [if_neg (by simp)]; exact skip _ hset h1
          | false =>
            have h2 := h2 rfl
            cases want with
            | true => rw [if_neg (by simp)]; exact skip _ hset h2
            | false => rw [if_pos (show (false == false) = true from rfl)]; exact go _ hset h2
        · rename_i xs ht
          have hy := yielded_tup hr hdst ht
          have hw : Region.wanted o (yielded ops a.tmps) = false := by simp [Region.wanted, hg, hy]
          rw [hw, if_neg (by simp)]
          exact skip _ hr h
        · exact h.elim
      · exact h.elim
end
end Go.Ab
/- Objects put back at chosen numbers. -/
set_option linter.unusedVariables false
set_option linter.unusedSimpArgs false
namespace Go.Ab
open Go Go.RowKit
section
variable {P : Program} {w0 : World} {n0 : Nat} {α : Type} {Q : α → Prop} {keep : List FuncId}

/-! ### Numbers that a value names -/
mutual
theorem Rep.stays' {m m' : List Loc} {w w' : World} {F F' : Nat → Prop} (h : Stays w F w' F') : ∀ (a : A) (v : Value), (∀ i ∈ A.refs a, ∀ l, m[i]? = some l → m'[i]? = some l) → Rep m w F a v → Rep m' w' F' a v
  | .d x, v, _, hx => DRep.stays h x v hx
  | .ptr id _, _, hm, ⟨l, h1, h2⟩ => ⟨l, hm id (by simp [A.refs]) l h1, h2⟩
  | .pel id _ _, _, hm, ⟨l, h1, h2⟩ => ⟨l, hm id (by simp [A.refs]) l h1, h2⟩
  | .pdat cs, _, _, ⟨b, off, h1, h2, h3, h4⟩ => ⟨b, off, h1, (h.2 b h3 h2).2, Nat.lt_of_lt_of_le h3 h.1, CellsRep.stays h b (h.2 b h3 h2).1 off cs h4⟩
  | .own id, _, hm, ⟨l, h1, h2⟩ => ⟨l, hm id (by simp [A.refs]) l h1, h2⟩
  | .clo _ a c, _, hm, ⟨va, vc, h1, h2, h3⟩ => ⟨va, vc, h1, RepL.stays' h a _ (fun i hi => hm i (by simp [A.refs, hi])) h2, RepL.stays' h c _ (fun i hi => hm i (by simp [A.refs, hi])) h3⟩
  | .ifc _ x, _, hm, ⟨u, h1, h2⟩ => ⟨u, h1, Rep.stays' h x u (fun i hi => hm i (by simpa [A.refs] using hi)) h2⟩
  | .agg cs, _, hm, ⟨vs, h1, h2⟩ => ⟨vs, h1, RepL.stays' h cs _ (fun i hi => hm i (by simpa [A.refs] using hi)) h2⟩
  | .tup xs, _, hm, ⟨vs, h1, h2⟩ => ⟨vs, h1, RepL.stays' h xs _ (fun i hi => hm i (by simpa [A.refs] using hi)) h2⟩
  | .top, _, _, _ => trivial
theorem RepL.stays' {m m' : List Loc} {w w' : World} {F F' : Nat → Prop} (h : Stays w F w' F') : ∀ (as : List A) (vs : List Value), (∀ i ∈ A.refsL as, ∀ l, m[i]? = some l → m'[i]? = some l) → RepL m w F as vs → RepL m' w' F' as vs
  | [], _, _, hx => hx
  | a :: as, _, hm, ⟨v, vs', h1, h2, h3⟩ => ⟨v, vs', h1, Rep.stays' h a v (fun i hi => hm i (by simp [A.refsL, hi])) h2, RepL.stays' h as vs' (fun i hi => hm i (by simp [A.refsL, hi])) h3⟩
end
theorem ObOk.stays' {m m' : List Loc} {w w' : World} {F F' : Nat → Prop} (h : Stays w F w' F') {l : Loc} {o : Ob} (hm : ∀ i ∈ o.refs, ∀ l, m[i]? = some l → m'[i]? = some l) (hb : o.live = true → l.nil = false → w'.heap[l.b]? = w.heap[l.b]?) (ho : ObOk P m w F l o) : ObOk P m' w' F' l o := by
  cases o with
  | cells cs =>
    obtain ⟨h1, c, e, h2, h3⟩ := ho
    exact ⟨h1, c, e, by rw [hb rfl h1]; exact h2, RepL.stays' h _ _ hm h3⟩
  | row nb e sz xs =>
    obtain ⟨h1, h2, h3, h4, h5⟩ := ho
    refine ⟨h1, h2, h3, h4, fun hn => ?_⟩
    obtain ⟨cur, g1, g2, g3, g4, g5, g6⟩ := h5 hn
    exact ⟨cur, by rw [hb rfl hn]; exact g1, g2, g3, g4, g5, RowsRep.stays h _ _ (hb rfl hn) _ _ g6⟩
  | iter s pos =>
    obtain ⟨h1, h2⟩ := ho
    exact ⟨h1, by rw [hb rfl h1]; exact h2⟩
  | dead => trivial
mutual
theorem refs_mapId (f : Nat → Option Nat) : ∀ (a : A), ∀ i ∈ A.refs (a.mapId f), ∃ j, f j = some i
  | .d x, i, hi => by simp [A.mapId, A.refs] at hi
  | .ptr id off, i, hi => by
    simp only [A.mapId] at hi
    cases hj : f id with
    | none => rw [hj] at hi; simp [A.refs] at hi
    | some j => rw [hj] at hi; simp [A.refs] at hi; exact ⟨id, by rw [hi]; exact hj⟩
  | .pel id k off, i, hi => by
    simp only [A.mapId] at hi
    cases hj : f id with
    | none => rw [hj] at hi; simp [A.refs] at hi
    | some j => rw [hj] at hi; simp [A.refs] at hi; exact ⟨id, by rw [hi]; exact hj⟩
  | .pdat cs, i, hi => by simp [A.mapId, A.refs] at hi
  | .own id, i, hi => by
    simp only [A.mapId] at hi
    cases hj : f id with
    | none => rw [hj] at hi; simp [A.refs] at hi
    | some j => rw [hj] at hi; simp [A.refs] at hi; exact ⟨id, by rw [hi]; exact hj⟩
  | .clo g a c, i, hi => by
    simp only [A.mapId, A.refs, List.mem_append] at hi
    exact hi.elim (refsL_mapId f a i) (refsL_mapId f c i)
  | .ifc t x, i, hi => by simp only [A.mapId, A.refs] at hi; exact refs_mapId f x i hi
  | .agg cs, i, hi => by simp only [A.mapId, A.refs] at hi; exact refsL_mapId f cs i hi
  | .tup xs, i, hi => by simp only [A.mapId, A.refs] at hi; exact refsL_mapId f xs i hi
  | .top, i, hi => by simp [A.mapId, A.refs] at hi
theorem refsL_mapId (f : Nat → Option Nat) : ∀ (as : List A), ∀ i ∈ A.refsL (A.mapIdL f as), ∃ j, f j = some i
  | [], i, hi => by simp [A.mapIdL, A.refsL] at hi
  | a :: as, i, hi => by
    simp only [A.mapIdL, A.refsL, List.mem_append] at hi
    exact hi.elim (refs_mapId f a i) (refsL_mapId f as i)
end
theorem ob_refs_mapId (f : Nat → Option Nat) (o : Ob) : ∀ i ∈ (o.mapId f).refs, ∃ j, f j = some i := by
  cases o with
  | cells cs => exact refsL_mapId f cs
  | row nb e sz xs => intro i hi; simp [Ob.mapId, Ob.refs] at hi
  | iter s pos => intro i hi; simp [Ob.mapId, Ob.refs] at hi
  | dead => intro i hi; simp [Ob.mapId, Ob.refs] at hi
mutual
theorem refs_lt {m : List Loc} {w : World} {F : Nat → Prop} : ∀ (a : A) (v : Value), Rep m w F a v → ∀ i ∈ A.refs a, i < m.length
  | .d x, v, _, i, hi => by simp [A.refs] at hi
  | .ptr id off, v, ⟨l, h1, h2⟩, i, hi => by simp [A.refs] at hi; subst hi; exact lt_of_get h1
  | .pel id k off, v, ⟨l, h1, h2⟩, i, hi => by simp [A.refs] at hi; subst hi; exact lt_of_get h1
  | .pdat cs, v, _, i, hi => by simp [A.refs] at hi
  | .own id, v, ⟨l, h1, h2⟩, i, hi => by simp [A.refs] at hi; subst hi; exact lt_of_get h1
  | .clo g a c, v, ⟨va, vc, h1, h2, h3⟩, i, hi => by
    simp only [A.refs, List.mem_append] at hi
    exact hi.elim (refsL_lt a _ h2 i) (refsL_lt c _ h3 i)
  | .ifc t x, v, ⟨u, h1, h2⟩, i, hi => by simp only [A.refs] at hi; exact refs_lt x u h2 i hi
  | .agg cs, v, ⟨vs, h1, h2⟩, i, hi => by simp only [A.refs] at hi; exact refsL_lt cs _ h2 i hi
  | .tup xs, v, ⟨vs, h1, h2⟩, i, hi => by simp only [A.refs] at hi; exact refsL_lt xs _ h2 i hi
  | .top, v, _, i, hi => by simp [A.refs] at hi
theorem refsL_lt {m : List Loc} {w : World} {F : Nat → Prop} : ∀ (as : List A) (vs : List Value), RepL m w F as vs → ∀ i ∈ A.refsL as, i < m.length
  | [], vs, _, i, hi => by simp [A.refsL] at hi
  | a :: as, vs, ⟨v, vs', h1, h2, h3⟩, i, hi => by
    simp only [A.refsL, List.mem_append] at hi
    exact hi.elim (refs_lt a v h2 i) (refsL_lt as vs' h3 i)
end
theorem ob_refs_lt {m : List Loc} {w : World} {F : Nat → Prop} {l : Loc} {o : Ob} (h : ObOk P m w F l o) : ∀ i ∈ o.refs, i < m.length := by
  cases o with
  | cells cs => obtain ⟨_, c, e, _, h3⟩ := h; exact refsL_lt _ _ h3
  | row nb e sz xs => intro i hi; simp [Ob.refs] at hi
  | iter s pos => intro i hi; simp [Ob.refs] at hi
  | dead => intro i hi; simp [Ob.refs] at hi

/-! ### Places put back -/
def putLocs : List Loc → List Nat → List Loc → List Loc
  | m, i :: is, l :: ls => putLocs (m.set i l) is ls
  | m, _, _ => m
theorem putLocs_len : ∀ (is : List Nat) (ls m : List Loc), (putLocs m is ls).length = m.length
  | [], ls, m => by cases ls <;> rfl
  | i :: is, [], m => rfl
  | i :: is, l :: ls, m => by simp [putLocs, putLocs_len is ls]
theorem putLocs_other : ∀ (is : List Nat) (ls m : List Loc) (k : Nat), k ∉ is → (putLocs m is ls)[k]? = m[k]?
  | [], ls, m, k, _ => by cases ls <;> rfl
  | i :: is, [], m, k, _ => rfl
  | i :: is, l :: ls, m, k, h => by
    simp only [putLocs]
    rw [putLocs_other is ls _ k (fun e => h (by simp [e])), List.getElem?_set_ne (fun e => h (by simp [e]))]
theorem putLocs_at : ∀ (is : List Nat) (ls m : List Loc) (j i : Nat) (l : Loc), is.Nodup → (∀ i ∈ is, i < m.length) → is[j]? = some i → ls[j]? = some l → (putLocs m is ls)[i]? = some l
  | [], ls, m, j, i, l, _, _, h, _ => by simp at h
  | i0 :: is, [], m, j, i, l, _, _, _, h => by simp at h
  | i0 :: is, l0 :: ls, m, j, i, l, hn, hlt, hi, ho => by
    simp only [putLocs]
    obtain ⟨hn1, hn2⟩ := List.nodup_cons.1 hn
    cases j with
    | zero =>
      simp at hi ho
      subst hi ho
      rw [putLocs_other is ls _ i0 hn1, List.getElem?_set_self (hlt i0 (by simp))]
    | succ j =>
      exact putLocs_at is ls _ j i l hn2 (fun k hk => by simpa using hlt k (by simp [hk])) (by simpa using hi) (by simpa using ho)

/-- Objects put back: the new ones at numbers that were kept for them. -/
def putAt (G : List Ob) (ids news : List Nat) (Hs : List Ob) : List Ob := putBack G (ids ++ news) (Hs.map (·.mapId ((ids ++ news)[·]?)))

theorem conc_put {X : Nat → Prop} {m : List Loc} {H : List Ob} {w w' : World} (hc : Conc P w0 X m H w) {ids news : List Nat} (hn : (ids ++ news).Nodup) (hin : ∀ i ∈ ids ++ news, i < H.length) {Hs' : List Ob} {ms' : List Loc}
    (hdead : ∀ i ∈ news, H[i]? = some .dead) (hrefs : ∀ (j : Nat) (o : Ob), H[j]? = some o → ∀ i ∈ o.refs, i ∉ news) (hn0 : ∀ i ∈ news, n0 ≤ i) (hnl : news.length = Hs'.length - ids.length)
    (hext : Ext ids.length (locs m ids) (pack H ids) w ms' Hs' w') (hc' : Conc P w0 (Rest X m H ids) ms' Hs' w') :
    ∃ m', Ext n0 m H w m' (putAt H ids news Hs') w' ∧ Conc P w0 X m' (putAt H ids news Hs') w' ∧ FF (Rest X m H ids) ms' Hs' = FF X m' (putAt H ids news Hs') ∧
      (∀ (i j : Nat) (l : Loc), (ids ++ news)[i]? = some j → ms'[i]? = some l → m'[j]? = some l) ∧ Stays w (FF X m H) w' (FF X m' (putAt H ids news Hs')) ∧ ∀ i, i ∉ news → m'[i]? = m[i]? := by
  have hlen := hc.len
  have hlen' := hc'.len
  have hll : (locs m ids).length = ids.length := by simp [locs]
  have hge : ids.length ≤ ms'.length := by
    rcases Nat.eq_zero_or_pos ids.length with h0 | h0
    · omega
    · have := hext.pre (ids.length - 1) (by omega)
      rw [List.getElem?_eq_getElem (show ids.length - 1 < (locs m ids).length by omega)] at this
      have := lt_of_get this
      omega
  have hbl : (ids ++ news).length = Hs'.length := by simp; omega
  obtain ⟨hn1, hn2, hn3⟩ := List.nodup_append.1 hn
  have hin1 : ∀ i ∈ ids, i < H.length := fun i hi => hin i (by simp [hi])
  let m' := putLocs m news (ms'.drop ids.length)
  have hml : m'.length = H.length := by simp [m', putLocs_len]; omega
  have hHl : (putAt H ids news Hs').length = H.length := by unfold putAt; rw [putBack_len]
  have hmother : ∀ i, i ∉ news → m'[i]? = m[i]? := fun i hi => putLocs_other _ _ _ i hi
  have hmat : ∀ (i j : Nat) (l : Loc), (ids ++ news)[i]? = some j → ms'[i]? = some l → m'[j]? = some l := by
    intro i j l h1 h2
    have hi := lt_of_get h2
    rcases Nat.lt_or_ge i ids.length with h | h
    · rw [List.getElem?_append_left h] at h1
      have hj := List.mem_of_getElem? h1
      have h3 := hext.pre i (by omega)
      rw [locs_at h1 (by have := hin1 j hj; omega)] at h3
      rw [hmother j (fun hj' => hn3 j hj j hj' rfl), ← h3]
      exact h2
    · rw [List.getElem?_append_right h] at h1
      exact putLocs_at _ _ _ (i - ids.length) j l hn2 (fun k hk => by have := hin k (by simp [hk]); omega) h1 (by rw [List.getElem?_drop, show ids.length + (i - ids.length) = i by omega]; exact h2)
  have hHat : ∀ (i j : Nat) (o : Ob), (ids ++ news)[i]? = some j → Hs'[i]? = some o → (putAt H ids news Hs')[j]? = some (o.mapId ((ids ++ news)[·]?)) := by
    intro i j o h1 h2
    exact putBack_at _ _ _ i j _ hn hin h1 (by rw [List.getElem?_map, h2]; rfl)
  have hHother : ∀ i, i ∉ ids ++ news → (putAt H ids news Hs')[i]? = H[i]? := fun i hi => putBack_other _ _ _ i hi
  have hcase : ∀ (j : Nat) (o : Ob) (l : Loc), (putAt H ids news Hs')[j]? = some o → m'[j]? = some l → (∃ (i : Nat) (o' : Ob), (ids ++ news)[i]? = some j ∧ Hs'[i]? = some o' ∧ ms'[i]? = some l ∧ o = o'.mapId ((ids ++ news)[·]?)) ∨ (j ∉ ids ++ news ∧ H[j]? = some o ∧ m[j]? = some l) := by
    intro j o l h1 h2
    by_cases hj : j ∈ ids ++ news
    · obtain ⟨i, hi⟩ := List.getElem?_of_mem hj
      have hilt := lt_of_get hi
      rw [hbl] at hilt
      have e1 := hHat i j _ hi (List.getElem?_eq_getElem hilt)
      have e2 := hmat i j _ hi (List.getElem?_eq_getElem (show i < ms'.length by omega))
      rw [h1] at e1
      rw [h2] at e2
      simp only [Option.some.injEq] at e1 e2
      refine .inl ⟨i, Hs'[i], hi, List.getElem?_eq_getElem hilt, ?_, e1⟩
      rw [e2]; exact List.getElem?_eq_getElem _
    · rw [hHother j hj] at h1
      rw [hmother j (fun h => hj (by simp [h]))] at h2
      exact .inr ⟨hj, h1, h2⟩
  have notnew : ∀ (i : Nat) (o : Ob), H[i]? = some o → o.live = true → i ∉ news := fun i o h1 h2 h3 => by
    rw [hdead i h3] at h1
    simp at h1
    subst h1
    simp [Ob.live] at h2
  have hff : FF (Rest X m H ids) ms' Hs' = FF X m' (putAt H ids news Hs') := by
    funext b
    apply propext
    constructor
    · rintro ((hx | ⟨i, o, l, h1, h2, h3, h4, h5, h6⟩) | ⟨i, o, l, h1, h2, h3, h4, h5⟩)
      · exact .inl hx
      · have h7 := notnew i o h2 h4
        exact .inr ⟨i, o, l, by rw [hHother i (by simp [h1, h7])]; exact h2, by rw [hmother i h7]; exact h3, h4, h5, h6⟩
      · have hi := lt_of_get h1
        have hb : (ids ++ news)[i]? = some ((ids ++ news)[i]'(by rw [hbl]; exact hi)) := List.getElem?_eq_getElem _
        exact .inr ⟨_, _, l, hHat i _ o hb h1, hmat i _ l hb h2, by rw [live_mapId]; exact h3, h4, h5⟩
    · rintro (hx | ⟨j, o, l, h1, h2, h3, h4, h5⟩)
      · exact .inl (.inl hx)
      · rcases hcase j o l h1 h2 with ⟨i, o', g1, g2, g3, rfl⟩ | ⟨g1, g3, g4⟩
        · rw [live_mapId] at h3
          exact .inr ⟨i, o', l, g2, g3, h3, h4, h5⟩
        · exact .inl (.inr ⟨j, o, l, fun h => g1 (by simp [h]), g3, g4, h3, h4, h5⟩)
  have hcp := conc_pack hc hn1 hin1
  have ffp := ff_pack (X := X) hlen hin1
  have hunk : ∀ b, b < w.heap.size → ¬ Owned m H b → ¬ Owned (locs m ids) (pack H ids) b := by
    intro b hb hno h1
    have h2 : FF (Rest X m H ids) (locs m ids) (pack H ids) b := .inr h1
    rw [ffp] at h2
    rcases h2 with hx | h2
    · obtain ⟨j, o, l, q1, q2, q3, q4, q5⟩ := h1
      have := hcp.own j o l q1 q2 q3 q4
      rw [q5] at this
      exact this.2.2 (.inl hx)
    · exact hno h2
  have haside : ∀ (i : Nat) (o : Ob) (l : Loc), i ∉ ids → H[i]? = some o → m[i]? = some l → o.live = true → l.nil = false → w'.heap[l.b]? = w.heap[l.b]? := by
    intro i o l h1 h2 h3 h4 h5
    refine hext.blk l.b (hc.own i o l h2 h3 h4 h5).2.1 fun ho => ?_
    obtain ⟨j, o', l', q1, q2, q3, q4, q5⟩ := ho
    have := hcp.own j o' l' q1 q2 q3 q4
    rw [q5] at this
    exact this.2.2 (.inr ⟨i, o, l, h1, h2, h3, h4, h5, rfl⟩)
  have hst : Stays w (FF X m H) w' (FF X m' (putAt H ids news Hs')) := by
    refine ⟨hext.size, fun b hb hF => ⟨hext.blk b hb (hunk b hb fun h => hF (.inr h)), ?_⟩⟩
    rw [← hff]
    rintro (hx | ho)
    · exact hF (by rw [← ffp]; exact .inl hx)
    · rcases hext.own b ho with h1 | h1
      · exact hunk b hb (fun h => hF (.inr h)) h1
      · omega
  refine ⟨m', ⟨fun i hi => hmother i (fun h => by have := hn0 i h; omega), hext.os, hext.tape, hext.output, hext.size, fun b hb hno => hext.blk b hb (hunk b hb hno), ?_⟩, ⟨hc'.below, by rw [hml, hHl], ?_, ?_, ?_, ?_⟩, hff, hmat, hst, hmother⟩
  · rintro b ⟨j, o, l, h1, h2, h3, h4, h5⟩
    rcases hcase j o l h1 h2 with ⟨i, o', g1, g2, g3, rfl⟩ | ⟨g1, g3, g4⟩
    · rw [live_mapId] at h3
      rcases hext.own b ⟨i, o', l, g2, g3, h3, h4, h5⟩ with h6 | h6
      · obtain ⟨j', p, k, q1, q2, q3, q4, q5⟩ := h6
        have h7 : FF (Rest X m H ids) (locs m ids) (pack H ids) b := .inr ⟨j', p, k, q1, q2, q3, q4, q5⟩
        rw [ffp] at h7
        rcases h7 with hx | h7
        · have := hcp.own j' p k q1 q2 q3 q4
          rw [q5] at this
          exact absurd (.inl hx) this.2.2
        · exact .inl h7
      · exact .inr h6
    · exact .inl ⟨j, o, l, g3, g4, h3, h4, h5⟩
  · exact fun b hx => Nat.lt_of_lt_of_le (hc.xlt b hx) hext.size
  · intro j o l h1 h2
    rcases hcase j o l h1 h2 with ⟨i, o', g1, g2, g3, rfl⟩ | ⟨g1, g3, g4⟩
    · rw [← hff]
      exact ObOk.mapId hmat (hc'.obj i o' l g2 g3)
    · exact ObOk.stays' hst (fun k hk l' hk' => by rw [hmother k (hrefs j o g3 k hk)]; exact hk') (fun hl hnil => haside j o l (fun h => g1 (by simp [h])) g3 g4 hl hnil) (hc.obj j o l g3 g4)
  · intro j o l h1 h2 h3 h4
    rcases hcase j o l h1 h2 with ⟨i, o', g1, g2, g3, rfl⟩ | ⟨g1, g3, g4⟩
    · rw [live_mapId] at h3
      have := hc'.own i o' l g2 g3 h3 h4
      exact ⟨this.1, this.2.1, fun hx => this.2.2 (.inl hx)⟩
    · have := hc.own j o l g3 g4 h3 h4
      exact ⟨this.1, Nat.lt_of_lt_of_le this.2.1 hext.size, this.2.2⟩
  · intro i j o p l k h1 h2 h3 h4 q1 q2 q3 q4 he
    rcases hcase i o l h1 h2 with ⟨i', o', g1, g2, g3, rfl⟩ | ⟨g1, g3, g4⟩
    · rw [live_mapId] at h3
      rcases hcase j p k q1 q2 with ⟨j', p', k1, k2, k3, rfl⟩ | ⟨k1, k3, k4⟩
      · rw [live_mapId] at q3
        have := hc'.sep i' j' o' p' l k g2 g3 h3 h4 k2 k3 q3 q4 he
        subst this
        rw [g1] at k1
        simpa using k1
      · exact absurd (.inr ⟨j, p, k, fun h => k1 (by simp [h]), k3, k4, q3, q4, he.symm⟩) (hc'.own i' o' l g2 g3 h3 h4).2.2
    · rcases hcase j p k q1 q2 with ⟨j', p', k1, k2, k3, rfl⟩ | ⟨k1, k3, k4⟩
      · rw [live_mapId] at q3
        exact absurd (.inr ⟨i, o, l, fun h => g1 (by simp [h]), g3, g4, h3, h4, he⟩) (hc'.own j' p' k k2 k3 q3 q4).2.2
      · exact hc.sep i j o p l k g3 g4 h3 h4 k3 k4 q3 q4 he
end
end Go.Ab
/- The trace of a region's run in the order of its text. -/
set_option linter.unusedVariables false
set_option linter.unusedSimpArgs false
namespace Go.Ab
open Go Go.RowKit
section
variable {P : Program} {w0 : World} {n0 : Nat} {α : Type} {Q : α → Prop} {keep : List FuncId}

/-- What one operation did. -/
structure Ev where
  o : Oper
  skip : Bool
  loud : Bool
  ids : List Nat
  news : List Nat
  v : A
  Hs : List Ob

def Ev.back (e : Ev) : List Nat := e.ids ++ e.news
def Ev.V (e : Ev) : A := if e.skip then undefA else e.v.mapId (e.back[·]?)
def Ev.foot (e : Ev) : Foot := if e.loud then ⟨e.back, e.back⟩ else ⟨e.ids, []⟩
def Ev.app (e : Ev) (G : List Ob) : List Ob := if e.loud then putAt G e.ids e.news e.Hs else G
def Ev.next (e : Ev) (s : St) : St := ⟨putA s.env e.o.dst e.V, if e.loud then unpack s.heap e.ids e.Hs else s.heap⟩
def argsOf (o : Oper) (env : List A) : List A := o.op.operands.toList.map (evA env)

/-- Its guard, in an environment. -/
def GuardIs (ops : Array Oper) (env : List A) (o : Oper) (skip : Bool) : Prop :=
  match skip with
  | true => ∃ j want d, o.guard = some (j, want) ∧ dstOf ops j = some d ∧ ((∃ xs, env.getD d undefA = .tup xs) ∨ env.getD d undefA = .d (.bool (!want)))
  | false => o.guard = none ∨ ∃ j want d, o.guard = some (j, want) ∧ dstOf ops j = some d ∧ env.getD d undefA = .d (.bool want)

structure EvOk (P : Program) (w0 : World) (ops : Array Oper) (e : Ev) (s : St) : Prop where
  guard : GuardIs ops s.env e.o e.skip
  nodup : e.ids.Nodup
  lt : ∀ i ∈ e.ids, i < s.heap.length
  news : e.news = (List.range (e.Hs.length - e.ids.length)).map (s.heap.length + ·)
  quiet : e.loud = false → e.news = []
  skip : e.skip = true → e.loud = false ∧ e.ids = []
  ok : e.skip = false → OpOk P w0 e.o (A.mapIdL (placeOf e.ids) (argsOf e.o s.env)) (pack s.heap e.ids) e.v e.Hs
  okQ : e.skip = false → e.loud = false → OpQ P w0 e.o (A.mapIdL (placeOf e.ids) (argsOf e.o s.env)) (pack s.heap e.ids) e.v

def Chain (P : Program) (w0 : World) (ops : Array Oper) : List Ev → St → St → Prop
  | [], s, s' => s = s'
  | e :: es, s, s' => EvOk P w0 ops e s ∧ Chain P w0 ops es (e.next s) s'

theorem set_getD {env : List A} {d : Nat} {x : A} (h : env.getD d undefA = x) : env.set d x = env := by
  apply List.ext_getElem?
  intro i
  rw [List.getElem?_set]
  split
  · rename_i hd
    subst hd
    split
    · rename_i hlt
      rw [List.getD_eq_getElem?_getD, List.getElem?_eq_getElem hlt] at h
      simp at h
      rw [List.getElem?_eq_getElem hlt, h]
    · rename_i hlt
      rw [List.getElem?_eq_none (by omega)]
  · rfl

theorem trace {ops : Array Oper} : ∀ (l : List Oper) (s : St) (fs : List Foot) (k : St → List Foot → Tr α), wp P w0 n0 (runDrawOps P keep ops l s fs k) Q →
    ∃ evs s', evs.map (·.o) = l ∧ Chain P w0 ops evs s s' ∧ wp P w0 n0 (k s' (fs.reverse ++ evs.map (·.foot))) Q
  | [], s, fs, k, h => ⟨[], s, rfl, rfl, by simpa [runDrawOps] using h⟩
  | o :: rest, s, fs, k, h => by
    have go : ∀ (hg : GuardIs ops s.env o false) (env : List A), env = s.env → wp P w0 n0 (xopF P keep o (o.op.operands.toList.map (evA env)) s.heap fun v H f => runDrawOps P keep ops rest ⟨putA env o.dst v, H⟩ (f :: fs) k) Q →
        ∃ evs s', evs.map (·.o) = o :: rest ∧ Chain P w0 ops evs s s' ∧ wp P w0 n0 (k s' (fs.reverse ++ evs.map (·.foot))) Q := by
      intro hg env he h'
      subst he
      unfold xopF at h'
      dsimp only at h'
      obtain ⟨hn, hin⟩ := reach_ok s.heap 1000 (A.refsL (o.op.operands.toList.map (evA s.env))) [] List.nodup_nil (by simp)
      obtain ⟨v, Hs, hop, hq, h''⟩ := told h'
      cases hqq : quietOp o.op with
      | true =>
        obtain ⟨rfl, hq2⟩ := hq hqq
        dsimp only at h''
        rw [if_pos hqq] at h''
        let e : Ev := ⟨o, false, false, reach s.heap 1000 (A.refsL (o.op.operands.toList.map (evA s.env))) [], [], v, pack s.heap (reach s.heap 1000 (A.refsL (o.op.operands.toList.map (evA s.env))) [])⟩
        have hback : backIds (reach s.heap 1000 (A.refsL (o.op.operands.toList.map (evA s.env))) []) s.heap.length (pack s.heap (reach s.heap 1000 (A.refsL (o.op.operands.toList.map (evA s.env))) [])).length = e.back := by
          simp [backIds, pack, Ev.back, e]
        rw [hback] at h''
        obtain ⟨evs, s', h1, h2, h3⟩ := trace rest (e.next s) (e.foot :: fs) k h''
        refine ⟨e :: evs, s', by simp [h1, e], ⟨⟨hg, hn, hin, by simp [e, pack], fun _ => rfl, fun hs => by simp [e] at hs, fun _ => hop, fun _ _ => hq2⟩, h2⟩, by simpa using h3⟩
      | false =>
        dsimp only at h''
        rw [if_neg (by rw [hqq]; simp)] at h''
        let e : Ev := ⟨o, false, true, reach s.heap 1000 (A.refsL (o.op.operands.toList.map (evA s.env))) [], (List.range (Hs.length - (reach s.heap 1000 (A.refsL (o.op.operands.toList.map (evA s.env))) []).length)).map (s.heap.length + ·), v, Hs⟩
        obtain ⟨evs, s', h1, h2, h3⟩ := trace rest (e.next s) (e.foot :: fs) k h''
        refine ⟨e :: evs, s', by simp [h1, e], ⟨⟨hg, hn, hin, rfl, fun hl => by simp [e] at hl, fun hs => by simp [e] at hs, fun _ => hop, fun _ hl => by simp [e] at hl⟩, h2⟩, by simpa using h3⟩
    have skip : ∀ (hg : GuardIs ops s.env o true) (env : List A), env = s.env → wp P w0 n0 (runDrawOps P keep ops rest ⟨putA env o.dst undefA, s.heap⟩ (⟨[], []⟩ :: fs) k) Q →
        ∃ evs s', evs.map (·.o) = o :: rest ∧ Chain P w0 ops evs s s' ∧ wp P w0 n0 (k s' (fs.reverse ++ evs.map (·.foot))) Q := by
      intro hg env he h'
      subst he
      let e : Ev := ⟨o, true, false, [], [], undefA, []⟩
      obtain ⟨evs, s', h1, h2, h3⟩ := trace rest (e.next s) (e.foot :: fs) k h'
      exact ⟨e :: evs, s', by simp [h1, e], ⟨⟨hg, List.nodup_nil, by simp [e], rfl, fun _ => rfl, fun _ => ⟨rfl, rfl⟩, fun hs => by simp [e] at hs, fun hs => by simp [e] at hs⟩, h2⟩, by simpa using h3⟩
    unfold runDrawOps at h
    cases hg : o.guard with
    | none =>
      rw [hg] at h
      exact go (.inl hg) _ rfl h
    | some gw =>
      obtain ⟨j, want⟩ := gw
      rw [hg] at h
      dsimp only at h
      split at h
      · rename_i d hdst
        split at h
        · rename_i t ht
          obtain ⟨h1, h2⟩ := h
          cases t with
          | true =>
            have h1 := h1 rfl
            cases want with
            | true => exact go (.inr ⟨j, true, d, hg, hdst, ht⟩) _ (set_getD ht) h1
            | false => exact skip ⟨j, false, d, hg, hdst, .inr ht⟩ _ (set_getD ht) h1
          | false =>
            have h2 := h2 rfl
            cases want with
            | true => exact skip ⟨j, true, d, hg, hdst, .inr ht⟩ _ (set_getD ht) h2
            | false => exact go (.inr ⟨j, false, d, hg, hdst, ht⟩) _ (set_getD ht) h2
        · rename_i xs ht
          exact skip ⟨j, want, d, hg, hdst, .inl ⟨xs, ht⟩⟩ _ rfl h
        · exact h.elim
      · exact h.elim

/-! ### The operations of a set, in the order of the text -/
def foldE (S : Nat → Bool) : List Ev → Nat → List A → List A
  | [], _, env => env
  | e :: es, k, env => foldE S es (k + 1) (if S k then putA env e.o.dst e.V else env)
def foldH (S : Nat → Bool) : List Ev → Nat → List Ob → List Ob
  | [], _, G => G
  | e :: es, k, G => foldH S es (k + 1) (if S k then e.app G else G)

theorem putA_len (env : List A) (d : Option Tmp) (v : A) : (putA env d v).length = env.length := by cases d <;> simp [putA]
theorem foldE_len (S : Nat → Bool) : ∀ (es : List Ev) (k : Nat) (env : List A), (foldE S es k env).length = env.length
  | [], _, _ => rfl
  | e :: es, k, env => by
    simp only [foldE]
    rw [foldE_len S es]
    split
    · exact putA_len _ _ _
    · rfl
theorem app_len (e : Ev) (G : List Ob) : (e.app G).length = G.length := by
  unfold Ev.app
  split
  · unfold putAt; rw [putBack_len]
  · rfl
theorem foldH_len (S : Nat → Bool) : ∀ (es : List Ev) (k : Nat) (G : List Ob), (foldH S es k G).length = G.length
  | [], _, _ => rfl
  | e :: es, k, G => by
    simp only [foldH]
    rw [foldH_len S es]
    split
    · exact app_len _ _
    · rfl
theorem foldE_none (S : Nat → Bool) : ∀ (es : List Ev) (k : Nat) (env : List A), (∀ j, k ≤ j → S j = false) → foldE S es k env = env
  | [], _, _, _ => rfl
  | e :: es, k, env, h => by
    simp only [foldE]
    rw [h k (Nat.le_refl k), if_neg (by simp)]
    exact foldE_none S es (k + 1) env fun j hj => h j (by omega)
theorem foldH_none (S : Nat → Bool) : ∀ (es : List Ev) (k : Nat) (G : List Ob), (∀ j, k ≤ j → S j = false) → foldH S es k G = G
  | [], _, _, _ => rfl
  | e :: es, k, G, h => by
    simp only [foldH]
    rw [h k (Nat.le_refl k), if_neg (by simp)]
    exact foldH_none S es (k + 1) G fun j hj => h j (by omega)

/-- What a slot holds hangs on those alone who write it. -/
theorem putA_get {env env' : List A} (hl : env.length = env'.length) {t : Nat} (h : env[t]? = env'[t]?) (d : Option Tmp) (v : A) : (putA env d v)[t]? = (putA env' d v)[t]? := by
  cases d with
  | none => exact h
  | some d =>
    simp only [putA, List.getElem?_set]
    split
    · rw [hl]
    · exact h
theorem putA_ne {env : List A} {t : Nat} {d : Option Tmp} (h : d ≠ some t) (v : A) : (putA env d v)[t]? = env[t]? := by
  cases d with
  | none => rfl
  | some d => exact List.getElem?_set_ne fun e => h (by rw [e])
theorem foldE_agree (S S' : Nat → Bool) (t : Nat) : ∀ (es : List Ev) (k : Nat) (env env' : List A), env.length = env'.length → env[t]? = env'[t]? → (∀ (j : Nat) (e : Ev), es[j]? = some e → e.o.dst = some t → S (k + j) = S' (k + j)) →
    (foldE S es k env)[t]? = (foldE S' es k env')[t]?
  | [], _, _, _, _, h, _ => h
  | e :: es, k, env, env', hl, h, hs => by
    simp only [foldE]
    refine foldE_agree S S' t es (k + 1) _ _ ?_ ?_ fun j e' he' hd => ?_
    · split <;> split <;> simp [putA_len, hl]
    · by_cases hd : e.o.dst = some t
      · have := hs 0 e rfl hd
        simp at this
        rw [this]
        split
        · exact putA_get hl h _ _
        · exact h
      · split <;> split <;> simp [putA_ne hd, h]
    · have := hs (j + 1) e' (by simpa using he') hd
      rwa [show k + 1 + j = k + (j + 1) by omega]

theorem putBack_get : ∀ (is : List Nat) (os G G' : List Ob) (x : Nat), G.length = G'.length → G[x]? = G'[x]? → (putBack G is os)[x]? = (putBack G' is os)[x]?
  | [], os, G, G', x, _, h => by cases os <;> exact h
  | i :: is, [], G, G', x, _, h => h
  | i :: is, o :: os, G, G', x, hl, h => by
    simp only [putBack]
    refine putBack_get is os _ _ x (by simpa using hl) ?_
    simp only [List.getElem?_set]
    split
    · rw [hl]
    · exact h
theorem app_get (e : Ev) {G G' : List Ob} {x : Nat} (hl : G.length = G'.length) (h : G[x]? = G'[x]?) : (e.app G)[x]? = (e.app G')[x]? := by
  unfold Ev.app
  split
  · exact putBack_get _ _ _ _ x hl h
  · exact h
theorem app_other (e : Ev) {G : List Ob} {x : Nat} (h : x ∉ e.foot.wrote) : (e.app G)[x]? = G[x]? := by
  unfold Ev.app
  split
  · rename_i hl
    refine putBack_other _ _ _ x fun hx => h ?_
    simpa [Ev.foot, hl, Ev.back] using hx
  · rfl
theorem foldH_agree (S S' : Nat → Bool) (x : Nat) : ∀ (es : List Ev) (k : Nat) (G G' : List Ob), G.length = G'.length → G[x]? = G'[x]? → (∀ (j : Nat) (e : Ev), es[j]? = some e → x ∈ e.foot.wrote → S (k + j) = S' (k + j)) →
    (foldH S es k G)[x]? = (foldH S' es k G')[x]?
  | [], _, _, _, _, h, _ => h
  | e :: es, k, G, G', hl, h, hs => by
    simp only [foldH]
    refine foldH_agree S S' x es (k + 1) _ _ ?_ ?_ fun j e' he' hd => ?_
    · split <;> split <;> simp [app_len, hl]
    · by_cases hd : x ∈ e.foot.wrote
      · have := hs 0 e rfl hd
        simp at this
        rw [this]
        split
        · exact app_get e hl h
        · exact h
      · split <;> split <;> simp [app_other e hd, h]
    · have := hs (j + 1) e' (by simpa using he') hd
      rwa [show k + 1 + j = k + (j + 1) by omega]
end
end Go.Ab
/- The trace's states; the order's form. -/
set_option linter.unusedVariables false
set_option linter.unusedSimpArgs false
namespace Go.Ab
open Go Go.RowKit
section
variable {P : Program} {w0 : World} {n0 : Nat} {α : Type} {Q : α → Prop} {keep : List FuncId}

def pad (N : Nat) (H : List Ob) : List Ob := H ++ List.replicate (N - H.length) .dead
theorem pad_len {N : Nat} {H : List Ob} (h : H.length ≤ N) : (pad N H).length = N := by simp [pad]; omega
theorem pad_old {N : Nat} {H : List Ob} {i : Nat} (h : i < H.length) : (pad N H)[i]? = H[i]? := by unfold pad; rw [List.getElem?_append_left h]
theorem pad_new {N : Nat} {H : List Ob} {i : Nat} (h : H.length ≤ i) (hN : i < N) : (pad N H)[i]? = some .dead := by
  unfold pad
  rw [List.getElem?_append_right h, List.getElem?_replicate, if_pos (by omega)]
theorem putBack_app : ∀ (is : List Nat) (os A B : List Ob), (∀ i ∈ is, i < A.length) → putBack (A ++ B) is os = putBack A is os ++ B
  | [], os, A, B, _ => by cases os <;> rfl
  | i :: is, [], A, B, _ => rfl
  | i :: is, o :: os, A, B, h => by
    simp only [putBack]
    rw [List.set_append_left i o (h i (by simp)), putBack_app is os _ _ fun j hj => by simpa using h j (by simp [hj])]

theorem EvOk.back_eq {ops : Array Oper} {e : Ev} {s : St} (h : EvOk P w0 ops e s) : backIds e.ids s.heap.length e.Hs.length = e.ids ++ e.news := by
  rw [h.news]; rfl
theorem EvOk.news_len {ops : Array Oper} {e : Ev} {s : St} (h : EvOk P w0 ops e s) : e.news.length = e.Hs.length - e.ids.length := by rw [h.news]; simp
theorem EvOk.news_mem {ops : Array Oper} {e : Ev} {s : St} (h : EvOk P w0 ops e s) {x : Nat} (hx : x ∈ e.news) : s.heap.length ≤ x ∧ x < s.heap.length + e.news.length := by
  have h1 := h.news_len
  rw [h.news] at hx
  simp at hx
  obtain ⟨c, hc, rfl⟩ := hx
  omega
theorem EvOk.back_nodup {ops : Array Oper} {e : Ev} {s : St} (h : EvOk P w0 ops e s) : (e.ids ++ e.news).Nodup := by
  rw [← h.back_eq]; exact backIds_nodup h.nodup h.lt
theorem next_heap {ops : Array Oper} {e : Ev} {s : St} (h : EvOk P w0 ops e s) : (e.next s).heap.length = s.heap.length + e.news.length := by
  unfold Ev.next
  cases hl : e.loud with
  | true =>
    simp only [if_true]
    unfold unpack
    simp only [putBack_len, List.length_append, List.length_replicate, h.news_len]
  | false => simp [h.quiet hl]
theorem pad_next {ops : Array Oper} {e : Ev} {s : St} (h : EvOk P w0 ops e s) {N : Nat} (hN : (e.next s).heap.length ≤ N) : pad N (e.next s).heap = e.app (pad N s.heap) := by
  have hnl := next_heap h
  unfold Ev.next Ev.app at *
  cases hl : e.loud with
  | true =>
    rw [hl] at hN hnl
    simp only [if_true] at *
    have h1 : unpack s.heap e.ids e.Hs = putBack (s.heap ++ List.replicate e.news.length .dead) (e.ids ++ e.news) (e.Hs.map (·.mapId ((e.ids ++ e.news)[·]?))) := by
      unfold unpack
      dsimp only
      rw [h.back_eq, h.news_len]
    have h2 : pad N s.heap = (s.heap ++ List.replicate e.news.length .dead) ++ List.replicate (N - (s.heap.length + e.news.length)) .dead := by
      unfold pad
      rw [List.append_assoc, List.replicate_append_replicate]
      congr 2
      omega
    unfold putAt
    rw [h2, putBack_app, ← h1]
    · unfold pad
      rw [hnl]
    · intro i hi
      simp only [List.length_append, List.length_replicate]
      rcases List.mem_append.1 hi with hi | hi
      · have := h.lt i hi; omega
      · exact (h.news_mem hi).2
  | false => simp

theorem chain_len {ops : Array Oper} : ∀ (es : List Ev) (s s' : St), Chain P w0 ops es s s' → s.heap.length ≤ s'.heap.length
  | [], s, s', h => by rw [show s = s' from h]; exact Nat.le_refl _
  | e :: es, s, s', ⟨h1, h2⟩ => by
    have := chain_len es _ _ h2
    rw [next_heap h1] at this
    omega
theorem chain_at {ops : Array Oper} : ∀ (es : List Ev) (k : Nat) (s s' : St), Chain P w0 ops es s s' → ∀ (i : Nat) (e : Ev), es[i]? = some e → ∃ si, EvOk P w0 ops e si ∧
    si.env = foldE (fun j => decide (j < k + i)) es k s.env ∧ (∀ N, s'.heap.length ≤ N → pad N si.heap = foldH (fun j => decide (j < k + i)) es k (pad N s.heap)) ∧
    s.heap.length ≤ si.heap.length ∧ si.heap.length + e.news.length ≤ s'.heap.length ∧
    ∀ (j : Nat) (e' : Ev), j < i → es[j]? = some e' → ∀ x ∈ e'.back, x < si.heap.length
  | [], k, s, s', h, i, e, he => by simp at he
  | e0 :: es, k, s, s', ⟨h1, h2⟩, 0, e, he => by
    simp at he
    subst he
    have hl := chain_len es _ _ h2
    rw [next_heap h1] at hl
    refine ⟨s, h1, ?_, fun N hN => ?_, Nat.le_refl _, hl, fun j e' hj => by omega⟩
    · exact (foldE_none _ _ _ _ fun j hj => by simp; omega).symm
    · exact (foldH_none _ _ _ _ fun j hj => by simp; omega).symm
  | e0 :: es, k, s, s', ⟨h1, h2⟩, i + 1, e, he => by
    obtain ⟨si, g1, g2, g3, g4, g5, g6⟩ := chain_at es (k + 1) _ s' h2 i e (by simpa using he)
    have hk : (fun j => decide (j < k + (i + 1))) = fun j => decide (j < k + 1 + i) := by funext j; simp only [decide_eq_decide]; omega
    have hnl := next_heap h1
    refine ⟨si, g1, ?_, fun N hN => ?_, by omega, g5, fun j e' hj he' x hx => ?_⟩
    · simp only [foldE]
      rw [if_pos (by simp), hk]
      exact g2
    · have hl := chain_len es _ _ h2
      simp only [foldH]
      rw [if_pos (by simp), hk, ← pad_next h1 (by omega)]
      exact g3 N hN
    · cases j with
      | zero =>
        simp at he'
        subst he'
        have : x < s.heap.length + e0.news.length := by
          rcases List.mem_append.1 hx with hx | hx
          · have := h1.lt x hx; omega
          · exact (h1.news_mem hx).2
        omega
      | succ j => exact g6 j e' (by omega) (by simpa using he') x hx
theorem chain_end {ops : Array Oper} (S : Nat → Bool) : ∀ (es : List Ev) (k : Nat) (s s' : St), Chain P w0 ops es s s' → (∀ j, j < es.length → S (k + j) = true) →
    foldE S es k s.env = s'.env ∧ foldH S es k (pad s'.heap.length s.heap) = s'.heap
  | [], k, s, s', h, hS => by
    rw [show s = s' from h]
    simp [foldE, foldH, pad]
  | e :: es, k, s, s', ⟨h1, h2⟩, hS => by
    have h0 := hS 0 (by simp)
    simp at h0
    have hl := chain_len es _ _ h2
    obtain ⟨g1, g2⟩ := chain_end S es (k + 1) _ s' h2 fun j hj => by
      have := hS (j + 1) (by simpa using hj)
      rwa [show k + 1 + j = k + (j + 1) by omega]
    simp only [foldE, foldH]
    rw [h0, if_pos rfl, if_pos rfl, ← pad_next h1 hl]
    exact ⟨g1, g2⟩

/-! ### Something holds of all values, of all objects -/
theorem foldE_all (S : Nat → Bool) (Pr : A → Prop) (h0 : Pr undefA) : ∀ (es : List Ev) (k : Nat) (env : List A), (∀ a ∈ env, Pr a) → (∀ (j : Nat) (e : Ev), es[j]? = some e → S (k + j) = true → Pr e.V) → ∀ a ∈ foldE S es k env, Pr a
  | [], k, env, h, _ => h
  | e :: es, k, env, h, hs => by
    simp only [foldE]
    refine foldE_all S Pr h0 es (k + 1) _ ?_ fun j e' he' hS => hs (j + 1) e' (by simpa using he') (by rwa [show k + (j + 1) = k + 1 + j by omega])
    split
    · rename_i hk
      have hv := hs 0 e rfl (by simpa using hk)
      intro a ha
      cases hd : e.o.dst with
      | none => rw [hd] at ha; exact h a ha
      | some d =>
        rw [hd] at ha
        rcases List.mem_or_eq_of_mem_set ha with ha | ha
        · exact h a ha
        · rw [ha]; exact hv
    · exact h
theorem putBack_all (Pr : Ob → Prop) : ∀ (is : List Nat) (os G : List Ob), (∀ o ∈ G, Pr o) → (∀ o ∈ os, Pr o) → ∀ o ∈ putBack G is os, Pr o
  | [], os, G, h, _ => by cases os <;> exact h
  | i :: is, [], G, h, _ => h
  | i :: is, o :: os, G, h, g => by
    simp only [putBack]
    refine putBack_all Pr is os _ (fun x hx => ?_) fun x hx => g x (by simp [hx])
    rcases List.mem_or_eq_of_mem_set hx with hx | hx
    · exact h x hx
    · rw [hx]; exact g o (by simp)
theorem foldH_all (S : Nat → Bool) (Pr : Ob → Prop) : ∀ (es : List Ev) (k : Nat) (G : List Ob), (∀ o ∈ G, Pr o) → (∀ (j : Nat) (e : Ev), es[j]? = some e → S (k + j) = true → e.loud = true → ∀ o ∈ e.Hs.map (·.mapId (e.back[·]?)), Pr o) → ∀ o ∈ foldH S es k G, Pr o
  | [], k, G, h, _ => h
  | e :: es, k, G, h, hs => by
    simp only [foldH]
    refine foldH_all S Pr es (k + 1) _ ?_ fun j e' he' hS => hs (j + 1) e' (by simpa using he') (by rwa [show k + (j + 1) = k + 1 + j by omega])
    split
    · rename_i hk
      unfold Ev.app
      split
      · rename_i hl
        exact putBack_all Pr _ _ _ h (hs 0 e rfl (by simpa using hk) hl)
      · exact h
    · exact h

/-! ### The order -/
theorem aheads_prefix : ∀ (os : List Oper) (acc : List (List Nat)) (j : Nat), j < acc.length → (aheads os acc)[j]? = acc[j]?
  | [], acc, j, _ => rfl
  | o :: os, acc, j, h => by
    simp only [aheads]
    rw [aheads_prefix os _ j (by simp; omega), List.getElem?_append_left h]
theorem aheads_at : ∀ (os : List Oper) (acc : List (List Nat)) (j : Nat) (o : Oper), os[j]? = some o → ∀ i ∈ (aheads os acc).getD (acc.length + j) [],
    ∃ e ∈ o.after.toList, Region.binds .any e = true ∧ (i = e.on ∨ i ∈ (aheads os acc).getD e.on [])
  | [], acc, j, o, h, i, hi => by simp at h
  | o0 :: os, acc, 0, o, h, i, hi => by
    simp at h
    subst h
    simp only [aheads, Nat.add_zero] at hi
    have h1 : (aheads os (acc ++ [aheadOf acc o0])).getD acc.length [] = aheadOf acc o0 := by
      rw [List.getD_eq_getElem?_getD, aheads_prefix os _ _ (by simp)]
      simp
    rw [h1] at hi
    unfold aheadOf at hi
    simp only [List.mem_flatMap] at hi
    obtain ⟨e, he, hi⟩ := hi
    refine ⟨e, he, ?_⟩
    split at hi
    · rename_i hb
      refine ⟨hb, ?_⟩
      rcases List.mem_cons.1 hi with hi | hi
      · exact .inl hi
      · refine .inr ?_
        simp only [aheads]
        rcases Nat.lt_or_ge e.on acc.length with hlt | hge
        · rw [List.getD_eq_getElem?_getD, aheads_prefix os _ _ (by simp; omega), List.getElem?_append_left hlt, ← List.getD_eq_getElem?_getD]
          exact hi
        · rw [List.getD_eq_getElem?_getD, List.getElem?_eq_none hge] at hi
          simp at hi
    · simp at hi
  | o0 :: os, acc, j + 1, o, h, i, hi => by
    simp only [aheads] at hi ⊢
    have := aheads_at os (acc ++ [aheadOf acc o0]) j o (by simpa using h) i (by simpa [Nat.add_assoc, Nat.add_comm 1 j] using hi)
    exact this

structure Form (ops : Array Oper) (as : List (List Nat)) : Prop where
  edge : ∀ (j : Nat) (o : Oper), ops.toList[j]? = some o → ∀ e ∈ o.after.toList, Region.binds .any e = true → e.on < j
  once : ∀ (i j : Nat) (oi oj : Oper) (d : Tmp), ops.toList[i]? = some oi → ops.toList[j]? = some oj → oi.dst = some d → oj.dst = some d → i = j
  read : ∀ (i j : Nat) (oi oj : Oper) (d : Tmp), ops.toList[i]? = some oi → ops.toList[j]? = some oj → oi.dst = some d → d ∈ slotsRead ops oj → i ∈ as.getD j []
  ahead : ∀ (j : Nat) (o : Oper), ops.toList[j]? = some o → ∀ i ∈ as.getD j [], ∃ e ∈ o.after.toList, Region.binds .any e = true ∧ (i = e.on ∨ i ∈ as.getD e.on [])

theorem form_of {ops : Array Oper} (h : formOk ops = true) : Form ops (aheads ops.toList []) := by
  unfold formOk at h
  simp only [List.all_eq_true, List.mem_range] at h
  have at_ : ∀ (j : Nat) (o : Oper), ops.toList[j]? = some o → (∀ e ∈ o.after.toList, Region.binds .any e = true → e.on < j) ∧
      ∀ (i : Nat) (oi : Oper) (d : Tmp), ops.toList[i]? = some oi → oi.dst = some d → (i = j ∨ o.dst ≠ some d) ∧ (d ∈ slotsRead ops o → i ∈ (aheads ops.toList []).getD j []) := by
    intro j o ho
    have h1 := h j (lt_of_get ho)
    rw [ho] at h1
    simp only [Bool.and_eq_true, List.all_eq_true, List.mem_range] at h1
    obtain ⟨h1, h2⟩ := h1
    refine ⟨fun e he hb => ?_, fun i oi d hoi hd => ?_⟩
    · have := h1 e he
      rw [hb] at this
      simpa using this
    · have h3 := h2 i (lt_of_get hoi)
      rw [hoi] at h3
      simp only [hd, Bool.and_eq_true, Bool.or_eq_true, Bool.not_eq_true'] at h3
      obtain ⟨h3, h4⟩ := h3
      refine ⟨h3.imp (fun e => Nat.eq_of_beq_eq_true e) (fun e => by simpa using e), fun hr => ?_⟩
      rcases h4 with h4 | h4
      · rw [List.contains_iff_mem.2 hr] at h4
        simp at h4
      · rw [List.any_eq_true] at h4
        obtain ⟨x, hx, he⟩ := h4
        rw [Nat.eq_of_beq_eq_true he]
        exact hx
  refine ⟨fun j o ho => (at_ j o ho).1, fun i j oi oj d hi hj hdi hdj => ?_, fun i j oi oj d hi hj hdi hr => ((at_ j oj hj).2 i oi d hi hdi).2 hr, fun j o ho i hi => ?_⟩
  · rcases ((at_ j oj hj).2 i oi d hi hdi).1 with h1 | h1
    · exact h1
    · exact absurd hdj h1
  · exact aheads_at ops.toList [] j o ho i (by simpa using hi)
theorem Form.lt {ops : Array Oper} {as : List (List Nat)} (h : Form ops as) : ∀ (j : Nat) (o : Oper), ops.toList[j]? = some o → ∀ i ∈ as.getD j [], i < j := by
  intro j
  induction j using Nat.strongRecOn with
  | _ j ih =>
    intro o ho i hi
    obtain ⟨e, he, hb, hi⟩ := h.ahead j o ho i hi
    have hlt := h.edge j o ho e he hb
    rcases hi with hi | hi
    · omega
    · have hj := lt_of_get ho
      have := ih e.on hlt _ (List.getElem?_eq_getElem (by omega)) i hi
      omega

theorem meets_iff {xs ys : List Nat} : meets xs ys = true ↔ ∃ x ∈ xs, x ∈ ys := by
  unfold meets
  simp only [List.any_eq_true]
  constructor
  · rintro ⟨x, hx, y, hy, he⟩
    rw [Nat.eq_of_beq_eq_true he] at hx
    exact ⟨y, hx, hy⟩
  · rintro ⟨x, hx, hy⟩
    exact ⟨x, hx, x, hy, by simp⟩
theorem draw_of {as : List (List Nat)} {fs : List Foot} (h : drawOk as fs = true) {i j : Nat} {f g : Foot} (hij : i < j) (hi : fs[i]? = some f) (hj : fs[j]? = some g) (hc : (∃ x ∈ f.wrote, x ∈ g.touched) ∨ ∃ x ∈ g.wrote, x ∈ f.touched) : i ∈ as.getD j [] := by
  unfold drawOk at h
  simp only [List.all_eq_true, List.mem_range] at h
  have h1 := h j (lt_of_get hj) i hij
  simp only [Bool.or_eq_true, Bool.not_eq_true', List.any_eq_true] at h1
  rcases h1 with ⟨x, hx, he⟩ | h1
  · rw [Nat.eq_of_beq_eq_true he]; exact hx
  · exfalso
    rw [List.getD_eq_getElem?_getD, List.getD_eq_getElem?_getD, hi, hj] at h1
    simp only [Option.getD_some, clash, Bool.or_eq_false_iff] at h1
    rcases hc with hc | hc
    · rw [meets_iff.2 hc] at h1; simp at h1
    · rw [meets_iff.2 hc] at h1; simp at h1
end
end Go.Ab
/- An operation of a region that draws, at the objects that it sees. -/
set_option linter.unusedVariables false
set_option linter.unusedSimpArgs false
namespace Go.Ab
open Go Go.RowKit
section
variable {P : Program} {w0 : World} {n0 : Nat} {α : Type} {Q : α → Prop} {keep : List FuncId}

/-- An operation that leaves its objects as they are. -/
theorem quiet_frame {o : Oper} {args : List A} {G : List Ob} {ids : List Nat} {v : A} (hn : ids.Nodup) (hin : ∀ i ∈ ids, i < G.length) (hq : OpQ P w0 o (A.mapIdL (placeOf ids) args) (pack G ids) v)
    {X : Nat → Prop} {m : List Loc} {w : World} {a : Act} (hc : Conc P w0 X m G w) (hr : RepL m w (FF X m G) args (o.op.operands.toList.map a.eval)) {next : Act → World → Prop} {J : Exit → Act → World → Prop}
    (hk : ∀ v', Rep m w (FF X m G) (v.mapId (ids[·]?)) v' → next (a.put o.dst v') w) : o.wp P a w next J := by
  have hlen := hc.len
  have hcp := conc_pack hc hn hin
  have hr1 := RepL.mapId (map_ok hlen hin) _ _ hr
  rw [← ff_pack (X := X) hlen hin] at hr1
  obtain ⟨v', h1, h2⟩ := hq _ _ w a hcp hr1
  rw [ff_pack hlen hin] at h2
  unfold Oper.wp
  rw [h1]
  refine hk v' (Rep.mapId (fun i j l h3 h4 => ?_) _ _ h2)
  have hj := hin j (List.mem_of_getElem? h3)
  rw [locs_at h3 (by omega)] at h4
  exact h4
theorem loud_frame {o : Oper} {args : List A} {G : List Ob} {ids news : List Nat} {v : A} {Hs : List Ob} (hn : (ids ++ news).Nodup) (hin : ∀ i ∈ ids ++ news, i < G.length) (hq : OpOk P w0 o (A.mapIdL (placeOf ids) args) (pack G ids) v Hs)
    (hdead : ∀ i ∈ news, G[i]? = some .dead) (hrefs : ∀ (j : Nat) (o : Ob), G[j]? = some o → ∀ i ∈ o.refs, i ∉ news) (hn0 : ∀ i ∈ news, n0 ≤ i) (hnl : news.length = Hs.length - ids.length)
    {X : Nat → Prop} {m : List Loc} {w : World} {a : Act} (hc : Conc P w0 X m G w) (hr : RepL m w (FF X m G) args (o.op.operands.toList.map a.eval)) {next : Act → World → Prop} {J : Exit → Act → World → Prop}
    (hk : ∀ m' w' v', Ext n0 m G w m' (putAt G ids news Hs) w' → Conc P w0 X m' (putAt G ids news Hs) w' → Stays w (FF X m G) w' (FF X m' (putAt G ids news Hs)) → (∀ i, i ∉ news → m'[i]? = m[i]?) → Rep m' w' (FF X m' (putAt G ids news Hs)) (v.mapId ((ids ++ news)[·]?)) v' → next (a.put o.dst v') w') :
    o.wp P a w next J := by
  have hlen := hc.len
  have hn1 := (List.nodup_append.1 hn).1
  have hin1 : ∀ i ∈ ids, i < G.length := fun i hi => hin i (by simp [hi])
  have hcp := conc_pack hc hn1 hin1
  have hr1 := RepL.mapId (map_ok hlen hin1) _ _ hr
  rw [← ff_pack (X := X) hlen hin1] at hr1
  refine hq _ _ w a hcp hr1 next J (fun ms' w' v' h1 h2 h3 => ?_)
  obtain ⟨m', g1, g2, g3, g4, g5, g6⟩ := conc_put (n0 := n0) hc hn hin hdead hrefs hn0 hnl (by simpa [pack] using h1) h2
  rw [g3] at h3
  exact hk m' w' v' g1 g2 g5 g6 (Rep.mapId g4 _ _ h3)

theorem guard_wanted {m : List Loc} {w : World} {F : Nat → Prop} {env : List A} {a : Act} {ops : Array Oper} {o : Oper} {skip : Bool} (h : RepL m w F env a.tmps.toList) (hg : GuardIs ops env o skip) : Region.wanted o (yielded ops a.tmps) = !skip := by
  cases skip with
  | true =>
    obtain ⟨j, want, d, h1, h2, h3⟩ := hg
    rcases h3 with ⟨xs, h3⟩ | h3
    · simp [Region.wanted, h1, yielded_tup h h2 h3]
    · have hne : (!want) ≠ want := by cases want <;> simp
      simp [Region.wanted, h1, yielded_bool h h2 h3, hne]
  | false =>
    rcases hg with h1 | ⟨j, want, d, h1, h2, h3⟩
    · simp [Region.wanted, h1]
    · simp [Region.wanted, h1, yielded_bool h h2 h3]
theorem guard_agree {ops : Array Oper} {env env' : List A} {o : Oper} {skip : Bool} (he : ∀ t ∈ slotsRead ops o, env'.getD t undefA = env.getD t undefA) (hg : GuardIs ops env o skip) : GuardIs ops env' o skip := by
  have key : ∀ j want d, o.guard = some (j, want) → dstOf ops j = some d → env'.getD d undefA = env.getD d undefA := by
    intro j want d h1 h2
    exact he d (List.mem_append.2 (.inr (by simp [h1, h2])))
  cases skip with
  | true =>
    obtain ⟨j, want, d, h1, h2, h3⟩ := hg
    exact ⟨j, want, d, h1, h2, by rw [key j want d h1 h2]; exact h3⟩
  | false =>
    rcases hg with h1 | ⟨j, want, d, h1, h2, h3⟩
    · exact .inl h1
    · exact .inr ⟨j, want, d, h1, h2, by rw [key j want d h1 h2]; exact h3⟩
theorem args_agree {ops : Array Oper} {env env' : List A} {o : Oper} (he : ∀ t ∈ slotsRead ops o, env'.getD t undefA = env.getD t undefA) : argsOf o env' = argsOf o env := by
  unfold argsOf
  refine List.map_congr_left fun x hx => ?_
  cases x with
  | tmp t => exact he t (List.mem_append.2 (.inl (List.mem_filterMap.2 ⟨.tmp t, hx, rfl⟩)))
  | const v => rfl
  | global g => rfl
  | func f => rfl

/-- What the run's text order leaves, and what any other order does. -/
structure Plan (P : Program) (w0 : World) (n0 : Nat) (ops : Array Oper) (as : List (List Nat)) (evs : List Ev) (s s' : St) : Prop where
  form : Form ops as
  opsEq : evs.map (·.o) = ops.toList
  chain : Chain P w0 ops evs s s'
  draw : drawOk as (evs.map (·.foot)) = true
  envlt : ∀ a ∈ s.env, ∀ i ∈ A.refs a, i < s.heap.length
  heaplt : ∀ o ∈ s.heap, ∀ i ∈ o.refs, i < s.heap.length
  n0le : n0 ≤ s.heap.length

def envS (evs : List Ev) (s : St) (S : Nat → Bool) : List A := foldE S evs 0 s.env
def heapS (evs : List Ev) (s s' : St) (S : Nat → Bool) : List Ob := foldH S evs 0 (pad s'.heap.length s.heap)

theorem ev_foot {ops : Array Oper} {e : Ev} {si : St} (h : EvOk P w0 ops e si) : e.foot.touched = e.back ∧ (e.loud = true → e.foot.wrote = e.back) ∧ (e.loud = false → e.foot.wrote = []) := by
  unfold Ev.foot Ev.back
  cases hl : e.loud with
  | true => simp
  | false => simp [h.quiet hl]

theorem Plan.step {ops : Array Oper} {as : List (List Nat)} {evs : List Ev} {s s' : St} (h : Plan P w0 n0 ops as evs s s') {S : Nat → Bool} (hcl : ∀ (j : Nat), S j = true → ∀ i ∈ as.getD j [], S i = true)
    {i : Nat} {e : Ev} (hi : evs[i]? = some e) (hS : S i = false) (ha : ∀ k ∈ as.getD i [], S k = true) :
    ∃ si, EvOk P w0 ops e si ∧ s.heap.length ≤ si.heap.length ∧ si.heap.length + e.news.length ≤ s'.heap.length ∧
      (∀ t ∈ slotsRead ops e.o, (envS evs s S).getD t undefA = si.env.getD t undefA) ∧
      (∀ x ∈ e.back, (heapS evs s s' S)[x]? = (pad s'.heap.length si.heap)[x]?) ∧
      heapS evs s s' (fun j => decide (j = i) || S j) = e.app (heapS evs s s' S) ∧
      envS evs s (fun j => decide (j = i) || S j) = putA (envS evs s S) e.o.dst e.V ∧
      (∀ a ∈ envS evs s S, ∀ k ∈ A.refs a, k ∉ e.news) ∧ (∀ o ∈ heapS evs s s' S, ∀ k ∈ o.refs, k ∉ e.news) := by
  obtain ⟨si, hok, h2, h3, h4, h5, h6⟩ := chain_at evs 0 s s' h.chain i e hi
  simp only [Nat.zero_add] at h2 h3
  have hop : ∀ (j : Nat) (e' : Ev), evs[j]? = some e' → ops.toList[j]? = some e'.o := fun j e' he => by rw [← h.opsEq, List.getElem?_map, he]; rfl
  have hft : ∀ (j : Nat) (e' : Ev), evs[j]? = some e' → (evs.map (·.foot))[j]? = some e'.foot := fun j e' he => by rw [List.getElem?_map, he]; rfl
  have evok : ∀ (j : Nat) (e' : Ev), evs[j]? = some e' → ∃ sj, EvOk P w0 ops e' sj := fun j e' he => let ⟨sj, g, _⟩ := chain_at evs 0 s s' h.chain j e' he; ⟨sj, g⟩
  obtain ⟨ft1, ft2, ft3⟩ := ev_foot hok
  have wsub : ∀ (j : Nat) (e' : Ev), evs[j]? = some e' → ∀ x ∈ e'.foot.wrote, x ∈ e'.back ∧ e'.loud = true := by
    intro j e' he x hx
    obtain ⟨sj, g⟩ := evok j e' he
    obtain ⟨_, g2, g3⟩ := ev_foot g
    cases hl : e'.loud with
    | true => rw [g2 hl] at hx; exact ⟨hx, rfl⟩
    | false => rw [g3 hl] at hx; simp at hx
  have touched : ∀ (j : Nat) (e' : Ev), evs[j]? = some e' → e'.foot.touched = e'.back := fun j e' he => let ⟨sj, g⟩ := evok j e' he; (ev_foot g).1
  have htot := pad_len (chain_len _ _ _ h.chain)
  -- who writes what this operation touches
  have whoH : ∀ x ∈ e.back, ∀ (j : Nat) (e' : Ev), evs[j]? = some e' → x ∈ e'.foot.wrote → (j ≠ i → S j = decide (j < i)) := by
    intro x hx j e' he hw hne
    rcases Nat.lt_or_ge j i with hlt | hge
    · have := draw_of h.draw hlt (hft j e' he) (hft i e hi) (.inl ⟨x, hw, by rw [ft1]; exact hx⟩)
      rw [ha j this]
      simp [hlt]
    · have hgt : i < j := by omega
      have := draw_of h.draw hgt (hft i e hi) (hft j e' he) (.inr ⟨x, hw, by rw [ft1]; exact hx⟩)
      cases hSj : S j with
      | false => simp; omega
      | true =>
        have := hcl j hSj i this
        rw [hS] at this
        simp at this
  have hread : ∀ x ∈ e.back, (heapS evs s s' S)[x]? = (pad s'.heap.length si.heap)[x]? := by
    intro x hx
    rw [h3 _ (Nat.le_refl _)]
    refine foldH_agree _ _ x evs 0 _ _ rfl rfl fun j e' he hw => ?_
    simp only [Nat.zero_add]
    by_cases hji : j = i
    · subst hji; rw [hS]; simp
    · exact whoH x hx j e' he hw hji
  -- the heap behind it
  have happ : heapS evs s s' (fun j => decide (j = i) || S j) = e.app (heapS evs s s' S) := by
    apply List.ext_getElem?
    intro x
    by_cases hx : x ∈ e.foot.wrote
    · -- as in the text's order, just behind it
      obtain ⟨hxb, hloud⟩ := wsub i e hi x hx
      have e1 : (heapS evs s s' (fun j => decide (j = i) || S j))[x]? = (foldH (fun j => decide (j < i + 1)) evs 0 (pad s'.heap.length s.heap))[x]? := by
        refine foldH_agree _ _ x evs 0 _ _ rfl rfl fun j e' he hw => ?_
        simp only [Nat.zero_add]
        by_cases hji : j = i
        · subst hji; simp
        · have := whoH x hxb j e' he hw hji
          rw [this]
          simp only [hji, decide_false, Bool.false_or, decide_eq_decide]
          omega
      have e2 : (foldH (fun j => decide (j < i + 1)) evs 0 (pad s'.heap.length s.heap))[x]? = (e.app (pad s'.heap.length si.heap))[x]? := by
        -- no later operation
        have key : ∀ (es : List Ev) (k n : Nat) (G : List Ob) (e : Ev), es[n]? = some e → foldH (fun j => decide (j < k + n + 1)) es k G = e.app (foldH (fun j => decide (j < k + n)) es k G) := by
          intro es
          induction es with
          | nil => intro k n G e hn; simp at hn
          | cons e0 es ih =>
            intro k n G e hn
            cases n with
            | zero =>
              simp at hn
              subst hn
              simp only [foldH, Nat.add_zero]
              rw [if_pos (by simp), if_neg (by simp), foldH_none _ _ _ _ (fun j hj => by simp; omega), foldH_none _ _ _ _ (fun j hj => by simp; omega)]
            | succ n =>
              simp only [foldH]
              rw [if_pos (by simp; omega), if_pos (by simp)]
              have := ih (k + 1) n (e0.app G) e (by simpa using hn)
              rw [show k + (n + 1) + 1 = k + 1 + n + 1 by omega, show k + (n + 1) = k + 1 + n by omega]
              exact this
        have := key evs 0 i (pad s'.heap.length s.heap) e hi
        simp only [Nat.zero_add] at this
        rw [this, ← h3 _ (Nat.le_refl _)]
      rw [e1, e2]
      refine (app_get e ?_ (hread x hxb)).symm
      rw [heapS, foldH_len, htot, pad_len (by omega)]
    · rw [app_other e hx]
      refine foldH_agree _ _ x evs 0 _ _ rfl rfl fun j e' he hw => ?_
      simp only [Nat.zero_add]
      by_cases hji : j = i
      · subst hji
        rw [hi] at he
        simp at he
        subst he
        exact absurd hw hx
      · simp [hji]
  have henv : envS evs s (fun j => decide (j = i) || S j) = putA (envS evs s S) e.o.dst e.V := by
    apply List.ext_getElem?
    intro t
    by_cases hd : e.o.dst = some t
    · -- it alone writes there
      have e1 : (envS evs s (fun j => decide (j = i) || S j))[t]? = (foldE (fun j => decide (j = i)) evs 0 s.env)[t]? := by
        refine foldE_agree _ _ t evs 0 _ _ rfl rfl fun j e' he hd' => ?_
        have := h.form.once i j _ _ t (hop i e hi) (hop j e' he) hd hd'
        subst this
        simp
      have e2 : ∀ (es : List Ev) (k n : Nat) (env : List A), es[n]? = some e → (∀ (j : Nat) (e' : Ev), es[j]? = some e' → e'.o.dst = some t → j = n) → (foldE (fun j => decide (j = k + n)) es k env)[t]? = (putA env e.o.dst e.V)[t]? := by
        intro es
        induction es with
        | nil => intro k n env hn; simp at hn
        | cons e0 es ih =>
          intro k n env hn hu
          cases n with
          | zero =>
            simp at hn
            subst hn
            simp only [foldE, Nat.add_zero]
            rw [if_pos (by simp), foldE_none _ _ _ _ (fun j hj => by simp; omega)]
          | succ n =>
            simp only [foldE]
            rw [if_neg (by simp)]
            have := ih (k + 1) n env (by simpa using hn) (fun j e' he hd' => by have := hu (j + 1) e' (by simpa using he) hd'; omega)
            rw [show k + (n + 1) = k + 1 + n by omega]
            exact this
      have e3 := e2 evs 0 i s.env hi fun j e' he hd' => (h.form.once i j _ _ t (hop i e hi) (hop j e' he) hd hd').symm
      simp only [Nat.zero_add] at e3
      rw [e1, e3, hd]
      simp only [putA, List.getElem?_set_self', envS]
      have hl := foldE_len S evs 0 s.env
      rcases Nat.lt_or_ge t s.env.length with ht | ht
      · rw [List.getElem?_eq_getElem ht, List.getElem?_eq_getElem (by omega)]; rfl
      · rw [List.getElem?_eq_none ht, List.getElem?_eq_none (by omega)]
    · rw [putA_ne hd]
      refine foldE_agree _ _ t evs 0 _ _ rfl rfl fun j e' he hd' => ?_
      simp only [Nat.zero_add]
      by_cases hji : j = i
      · subst hji
        rw [hi] at he
        simp at he
        subst he
        exact absurd hd' hd
      · simp [hji]
  -- nobody names a number that is yet to come
  have apart : ∀ (j : Nat) (e' : Ev), evs[j]? = some e' → S j = true → ∀ x ∈ e'.back, x ∉ e.news := by
    intro j e' he hSj x hx hn
    have hloud : e.loud = true := by
      cases hl : e.loud with
      | true => rfl
      | false => rw [hok.quiet hl] at hn; simp at hn
    rcases Nat.lt_or_ge j i with hlt | hge
    · have := h6 j e' hlt he x hx
      have := (hok.news_mem hn).1
      omega
    · have hgt : i < j := by
        rcases Nat.lt_or_eq_of_le hge with h | h
        · exact h
        · subst h; rw [hS] at hSj; simp at hSj
      have := draw_of h.draw hgt (hft i e hi) (hft j e' he) (.inl ⟨x, by rw [ft2 hloud]; simp [Ev.back, hn], by rw [touched j e' he]; exact hx⟩)
      have := hcl j hSj i this
      rw [hS] at this
      simp at this
  refine ⟨si, hok, h4, h5, fun t ht => ?_, hread, happ, henv, ?_, ?_⟩
  · rw [List.getD_eq_getElem?_getD, List.getD_eq_getElem?_getD, h2]
    congr 1
    refine foldE_agree _ _ t evs 0 _ _ rfl rfl fun j e' he hd => ?_
    simp only [Nat.zero_add]
    have hj := h.form.read j i _ _ t (hop j e' he) (hop i e hi) hd ht
    rw [ha j hj]
    have := h.form.lt i _ (hop i e hi) j hj
    simp [this]
  · refine foldE_all S (fun a => ∀ k ∈ A.refs a, k ∉ e.news) (by simp [undefA, A.refs, A.refsL]) evs 0 s.env (fun a ha' k hk hn => ?_) fun j e' he hSj k hk => ?_
    · have := h.envlt a ha' k hk
      have := (hok.news_mem hn).1
      omega
    · unfold Ev.V at hk
      split at hk
      · simp [undefA, A.refs, A.refsL] at hk
      · obtain ⟨y, hy⟩ := refs_mapId _ _ k hk
        exact apart j e' he (by simpa using hSj) k (List.mem_of_getElem? hy)
  · refine foldH_all S (fun o => ∀ k ∈ o.refs, k ∉ e.news) evs 0 _ (fun o ho k hk hn => ?_) fun j e' he hSj hl o ho k hk => ?_
    · unfold pad at ho
      rcases List.mem_append.1 ho with ho | ho
      · have := h.heaplt o ho k hk
        have := (hok.news_mem hn).1
        omega
      · rw [(List.mem_replicate.1 ho).2] at hk
        simp [Ob.refs] at hk
    · obtain ⟨o', _, rfl⟩ := List.mem_map.1 ho
      obtain ⟨y, hy⟩ := ob_refs_mapId _ _ k hk
      exact apart j e' he (by simpa using hSj) k (List.mem_of_getElem? hy)
end
end Go.Ab
/- A region whose order is drawn. -/
set_option linter.unusedVariables false
set_option linter.unusedSimpArgs false
namespace Go.Ab
open Go Go.RowKit
section
variable {P : Program} {w0 : World} {n0 : Nat} {α : Type} {Q : α → Prop} {keep : List FuncId}

def setOf (listed : Array Bool) (j : Nat) : Bool := listed.getD j false
theorem setOf_set {listed : Array Bool} {i : Nat} (hi : i < listed.size) : setOf (listed.setIfInBounds i true) = fun j => decide (j = i) || setOf listed j := by
  funext j
  unfold setOf
  rw [Array.getD_eq_getD_getElem?, Array.getD_eq_getD_getElem?, Array.getElem?_setIfInBounds]
  by_cases h : i = j
  · subst h
    simp [hi]
  · rw [if_neg h]
    simp [Ne.symm h]
theorem owned_pad {m : List Loc} {H : List Ob} {N : Nat} {ls : List Loc} (hl : m.length = H.length) {b : Nat} : Owned (m ++ ls) (pad N H) b ↔ Owned m H b := by
  constructor
  · rintro ⟨i, o, l, h1, h2, h3, h4, h5⟩
    rcases Nat.lt_or_ge i H.length with hi | hi
    · rw [pad_old hi] at h1
      rw [List.getElem?_append_left (by omega)] at h2
      exact ⟨i, o, l, h1, h2, h3, h4, h5⟩
    · unfold pad at h1
      rw [List.getElem?_append_right hi, List.getElem?_replicate] at h1
      split at h1
      · simp at h1; subst h1; simp [Ob.live] at h3
      · simp at h1
  · rintro ⟨i, o, l, h1, h2, h3, h4, h5⟩
    have := lt_of_get h1
    exact ⟨i, o, l, by rw [pad_old this]; exact h1, by rw [List.getElem?_append_left (by omega)]; exact h2, h3, h4, h5⟩
theorem conc_pad {X : Nat → Prop} {m : List Loc} {H : List Ob} {w : World} (hc : Conc P w0 X m H w) {N : Nat} (hN : H.length ≤ N) {ls : List Loc} (hls : ls.length = N - H.length) :
    Conc P w0 X (m ++ ls) (pad N H) w ∧ FF X (m ++ ls) (pad N H) = FF X m H := by
  have hlen := hc.len
  have hff : FF X (m ++ ls) (pad N H) = FF X m H := by funext b; apply propext; exact or_congr Iff.rfl (owned_pad hlen)
  have old : ∀ (i : Nat) (o : Ob) (l : Loc), (pad N H)[i]? = some o → (m ++ ls)[i]? = some l → o = .dead ∨ (H[i]? = some o ∧ m[i]? = some l) := by
    intro i o l h1 h2
    rcases Nat.lt_or_ge i H.length with hi | hi
    · rw [pad_old hi] at h1
      rw [List.getElem?_append_left (by omega)] at h2
      exact .inr ⟨h1, h2⟩
    · have h3 := lt_of_get h1
      rw [pad_len hN] at h3
      rw [pad_new hi h3] at h1
      simp at h1
      exact .inl h1.symm
  refine ⟨⟨hc.below, by rw [pad_len hN]; simp; omega, hc.xlt, fun i o l h1 h2 => ?_, fun i o l h1 h2 h3 h4 => ?_, fun i j o p l k h1 h2 h3 h4 g1 g2 g3 g4 he => ?_⟩, hff⟩
  · rcases old i o l h1 h2 with rfl | ⟨g1, g2⟩
    · trivial
    · rw [hff]
      exact ObOk.stays ⟨Nat.le_refl _, fun _ _ h => ⟨rfl, h⟩⟩ (fun i l hi => by rw [List.getElem?_append_left (lt_of_get hi)]; exact hi) (fun _ _ => rfl) (hc.obj i o l g1 g2)
  · rcases old i o l h1 h2 with rfl | ⟨g1, g2⟩
    · simp [Ob.live] at h3
    · exact hc.own i o l g1 g2 h3 h4
  · rcases old i o l h1 h2 with rfl | ⟨q1, q2⟩
    · simp [Ob.live] at h3
    · rcases old j p k g1 g2 with rfl | ⟨q3, q4⟩
      · simp [Ob.live] at g3
      · exact hc.sep i j o p l k q1 q2 h3 h4 q3 q4 g3 g4 he

theorem sim {ops : Array Oper} {as : List (List Nat)} {evs : List Ev} {s s' : St} (h : Plan P w0 n0 ops as evs s s') {J : Exit → Act → World → Prop} {X : Nat → Prop} {mS : List Loc} {wS : World}
    (hk : ∀ m w a, Ext n0 mS (pad s'.heap.length s.heap) wS m s'.heap w → Conc P w0 X m s'.heap w → RepL m w (FF X m s'.heap) s'.env a.tmps.toList → a.defers = [] → J .normal a w) :
    ∀ (fuel : Nat) (listed : Array Bool) (m : List Loc) (w : World) (a : Act), listed.size = ops.size → listed.toList.count false = fuel → (∀ (j : Nat), setOf listed j = true → ∀ i ∈ as.getD j [], setOf listed i = true) →
      Ext n0 mS (pad s'.heap.length s.heap) wS m (heapS evs s s' (setOf listed)) w → Conc P w0 X m (heapS evs s s' (setOf listed)) w → RepL m w (FF X m (heapS evs s s' (setOf listed))) (envS evs s (setOf listed)) a.tmps.toList → a.defers = [] →
      wpAny P .any ops J fuel listed a w := by
  have hsz : evs.length = ops.size := by have := congrArg List.length h.opsEq; simpa using this
  have fin : ∀ (listed : Array Bool) (m : List Loc) (w : World) (a : Act), listed.size = ops.size → listed.toList.count false = 0 → Ext n0 mS (pad s'.heap.length s.heap) wS m (heapS evs s s' (setOf listed)) w → Conc P w0 X m (heapS evs s s' (setOf listed)) w → RepL m w (FF X m (heapS evs s s' (setOf listed))) (envS evs s (setOf listed)) a.tmps.toList → a.defers = [] → J .normal a w := by
    intro listed m w a hs hcnt h1 h2 h3 h4
    have hall : ∀ j, j < evs.length → setOf listed (0 + j) = true := by
      intro j hj
      have hj' : j < listed.size := by omega
      have := List.count_eq_zero.1 hcnt
      cases hb : listed[j] with
      | true => simp [setOf, hj', hb]
      | false => exact absurd (by rw [← hb]; exact Array.getElem_mem_toList hj') this
    obtain ⟨e1, e2⟩ := chain_end (setOf listed) evs 0 s s' h.chain hall
    unfold envS at h3
    unfold heapS at h1 h2 h3
    rw [e1, e2] at h3
    rw [e2] at h1 h2
    exact hk m w a h1 h2 h3 h4
  intro fuel
  induction fuel with
  | zero =>
    intro listed m w a hs hcnt hcl h1 h2 h3 h4
    refine ⟨?_, fin listed m w a hs hcnt h1 h2 h3 h4⟩
    unfold Region.ready
    rw [List.filter_eq_nil_iff]
    intro i hi
    have hi' : i < listed.size := by rw [hs]; simpa using hi
    have := List.count_eq_zero.1 hcnt
    cases hb : listed[i] with
    | true => simp [hi', hb]
    | false => exact absurd (by rw [← hb]; exact Array.getElem_mem_toList hi') this
  | succ fuel ih =>
    intro listed m w a hs hcnt hcl h1 h2 h3 h4
    refine ⟨fun hnil => ?_, fun i hi => ?_⟩
    · -- none is ready: all are listed
      refine fin listed m w a hs ?_ h1 h2 h3 h4
      rw [List.count_eq_zero]
      intro hmem
      exfalso
      -- the first that is not listed is ready
      have hex : ∃ i, i < ops.size ∧ setOf listed i = false := by
        obtain ⟨i, hi, he⟩ := List.getElem_of_mem hmem
        exact ⟨i, by simpa [hs] using hi, by simp at hi he; simp [setOf, hi, he]⟩
      have hmin : ∀ n i, i < n → i < ops.size → setOf listed i = false → False := by
        intro n
        induction n with
        | zero => intro i h; omega
        | succ n ihn =>
          intro i hin hio hSi
          have hr : i ∉ Region.ready .any ops listed := by rw [hnil]; simp
          unfold Region.ready at hr
          rw [List.mem_filter] at hr
          simp only [List.mem_range, hio, true_and] at hr
          have hil : i < listed.size := by omega
          have hnl : listed.getD i true = false := by simp [setOf, hil] at hSi; simp [hil, hSi]
          rw [hnl] at hr
          simp only [Bool.not_false, Bool.true_and, Array.getElem?_eq_getElem hio, Option.map_some, Option.getD_some] at hr
          rw [Array.all_eq_true'] at hr
          obtain ⟨e, hr⟩ := Classical.not_forall.1 hr
          obtain ⟨he, hr⟩ := Classical.not_imp.1 hr
          simp only [Bool.or_eq_true, Bool.not_eq_true', not_or] at hr
          obtain ⟨hb, hl⟩ := hr
          have hb' : Region.binds .any e = true := by simpa using hb
          have hlt := h.form.edge i _ (by simp [hio] : ops.toList[i]? = some ops[i]) e (by simpa using he) hb'
          exact ihn e.on (by omega) (by omega) (by simpa [setOf] using hl)
      obtain ⟨i, hi1, hi2⟩ := hex
      exact hmin (i + 1) i (by omega) hi1 hi2
    · -- one that is ready
      unfold Region.ready at hi
      rw [List.mem_filter, List.mem_range] at hi
      obtain ⟨hio, hi⟩ := hi
      have hil : i < listed.size := by omega
      simp only [Bool.and_eq_true, Bool.not_eq_true', Array.getElem?_eq_getElem hio, Option.map_some, Option.getD_some] at hi
      obtain ⟨hnl, hedges⟩ := hi
      have hSi : setOf listed i = false := by simp [hil] at hnl; simp [setOf, hil, hnl]
      rw [Array.all_eq_true'] at hedges
      have hopi : ops.toList[i]? = some ops[i] := by simp [hio]
      have hahead : ∀ k ∈ as.getD i [], setOf listed k = true := by
        intro k hk'
        obtain ⟨e, he, hb, hk'⟩ := h.form.ahead i _ hopi k hk'
        have he1 := hedges e (by simpa using he)
        rw [hb] at he1
        have he2 : setOf listed e.on = true := by simpa [setOf] using he1
        rcases hk' with hk' | hk'
        · rw [hk']; exact he2
        · exact hcl e.on he2 k hk'
      have hei : evs[i]? = some (evs[i]'(by omega)) := List.getElem?_eq_getElem _
      obtain ⟨e, rfl⟩ : ∃ e, e = evs[i]'(by omega) := ⟨_, rfl⟩
      generalize he : evs[i]'(by omega) = e at hei
      have heo : e.o = ops[i] := by
        have : ops.toList[i]? = some e.o := by rw [← h.opsEq, List.getElem?_map, hei]; rfl
        rw [hopi] at this
        simpa using this.symm
      obtain ⟨si, hok, g1, g2, g3, g4, g5, g6, g7, g8⟩ := h.step hcl hei hSi hahead
      have hset := setOf_set (i := i) hil
      -- the next state
      have hs' : (listed.setIfInBounds i true).size = ops.size := by simp [hs]
      have hcnt' : (listed.setIfInBounds i true).toList.count false = fuel := by
        have hl : listed.toList[i]'(by simpa using hil) = false := by simp [hil] at hnl; simpa using hnl
        rw [Array.toList_setIfInBounds, List.count_set (by simpa using hil), hl, hcnt]
        simp
      have hcl' : ∀ (j : Nat), setOf (listed.setIfInBounds i true) j = true → ∀ k ∈ as.getD j [], setOf (listed.setIfInBounds i true) k = true := by
        rw [hset]
        intro j hj k hk'
        simp only [Bool.or_eq_true, decide_eq_true_eq] at hj ⊢
        rcases hj with rfl | hj
        · exact .inr (hahead k hk')
        · exact .inr (hcl j hj k hk')
      have htot := chain_len _ _ _ h.chain
      have hGl : (heapS evs s s' (setOf listed)).length = s'.heap.length := by unfold heapS; rw [foldH_len, pad_len htot]
      -- what is read is as in the text's order
      have hargs : argsOf e.o (envS evs s (setOf listed)) = argsOf e.o si.env := args_agree g3
      have hguard := guard_agree g3 hok.guard
      have hids : ∀ x ∈ e.ids, (heapS evs s s' (setOf listed))[x]? = si.heap[x]? := fun x hx => by
        rw [g4 x (by simp [Ev.back, hx]), pad_old (hok.lt x hx)]
      have hpack : pack (heapS evs s s' (setOf listed)) e.ids = pack si.heap e.ids := by
        unfold pack
        exact List.map_congr_left fun x hx => by rw [hids x hx]
      have hwant : Region.wanted ops[i] (yielded ops a.tmps) = !e.skip := by rw [← heo]; exact guard_wanted h3 hguard
      unfold wpOp
      rw [Array.getElem?_eq_getElem hio]
      dsimp only
      rw [hwant]
      cases hsk : e.skip with
      | true =>
        rw [if_neg (by simp)]
        obtain ⟨k1, k2⟩ := hok.skip hsk
        have happ : e.app (heapS evs s s' (setOf listed)) = heapS evs s s' (setOf listed) := by simp [Ev.app, k1]
        have hV : e.V = undefA := by simp [Ev.V, hsk]
        rw [happ] at g5
        rw [hV, heo] at g6
        refine ih _ m w _ hs' hcnt' hcl' ?_ ?_ ?_ (by rw [put_defers]; exact h4)
        · rw [hset, g5]; exact h1
        · rw [hset, g5]; exact h2
        · rw [hset, g5, g6]; exact put_rep h3 (undef_rep _ _ _)
      | false =>
        rw [if_pos (by simp)]
        have hin : ∀ x ∈ e.ids ++ e.news, x < (heapS evs s s' (setOf listed)).length := by
          intro x hx
          rw [hGl]
          rcases List.mem_append.1 hx with hx | hx
          · have := hok.lt x hx; omega
          · have := (hok.news_mem hx).2; omega
        have hreps : RepL m w (FF X m (heapS evs s s' (setOf listed))) (argsOf e.o si.env) (e.o.op.operands.toList.map a.eval) := by
          rw [← hargs]
          exact evals_rep h3 _
        have hV : e.V = e.v.mapId (e.back[·]?) := by simp [Ev.V, hsk]
        cases hl : e.loud with
        | false =>
          have hq := hok.okQ hsk hl
          rw [← hpack] at hq
          have happ : e.app (heapS evs s s' (setOf listed)) = heapS evs s s' (setOf listed) := by simp [Ev.app, hl]
          rw [happ] at g5
          refine .inl ?_
          rw [← heo]
          refine quiet_frame hok.nodup (fun x hx => hin x (by simp [hx])) hq h2 hreps fun v' hv' => ?_
          refine ih _ m w _ hs' hcnt' hcl' ?_ ?_ ?_ (by rw [put_defers]; exact h4)
          · rw [hset, g5]; exact h1
          · rw [hset, g5]; exact h2
          · rw [hset, g5, g6]
            refine put_rep h3 ?_
            rw [hV]
            have : e.back = e.ids := by simp [Ev.back, hok.quiet hl]
            rw [this]
            exact hv'
        | true =>
          have hq := hok.ok hsk
          rw [← hpack] at hq
          have happ : e.app (heapS evs s s' (setOf listed)) = putAt (heapS evs s s' (setOf listed)) e.ids e.news e.Hs := by simp [Ev.app, hl]
          rw [happ] at g5
          rw [← heo]
          refine .inl <| loud_frame (n0 := n0) hok.back_nodup hin hq (fun x hx => ?_) (fun j o hj x hx => g8 o (List.mem_of_getElem? hj) x hx) (fun x hx => ?_) hok.news_len h2 hreps fun m' w' v' q1 q2 q3 q4 q5 => ?_
          · obtain ⟨b1, b2⟩ := hok.news_mem hx
            rw [g4 x (by simp [Ev.back, hx]), pad_new b1 (by omega)]
          · have := (hok.news_mem hx).1
            have := h.n0le
            omega
          · refine ih _ m' w' _ hs' hcnt' hcl' ?_ ?_ ?_ (by rw [put_defers]; exact h4)
            · rw [hset, g5]; exact h1.trans q1
            · rw [hset, g5]; exact q2
            · rw [hset, g5, g6]
              refine put_rep (RepL.of_at _ _ (RepL.length _ _ h3) fun j x v hx hv => ?_) ?_
              · obtain ⟨u, hu, hr⟩ := RepL.at_ _ _ h3 j x hx
                rw [hv] at hu
                simp at hu
                subst hu
                exact Rep.stays' q3 x v (fun k hk' l hl' => by rw [q4 k (g7 x (List.mem_of_getElem? hx) k hk')]; exact hl') hr
              · rw [hV]
                exact q5

theorem draw_sound (hmix : P.follows .mixedOrders = true) {id : Nat} {ops : Array Oper} {J : Exit → Act → World → Prop} (s : St) (k : Ex → St → Tr α) (h : wp P w0 n0 (run P keep (.region id ops true) s k) Q)
    (X : Nat → Prop) (m : List Loc) (w : World) (a : Act) (hc : Conc P w0 X m s.heap w) (hr : RepL m w (FF X m s.heap) s.env a.tmps.toList) (hd : a.defers = []) (hn : n0 ≤ m.length)
    (hk : ∀ (s' : St) (m' : List Loc) (w' : World) (a' : Act), Ext n0 m s.heap w m' s'.heap w' → Conc P w0 X m' s'.heap w' → RepL m' w' (FF X m' s'.heap) s'.env a'.tmps.toList → a'.defers = [] → wp P w0 n0 (k .normal s') Q → J .normal a' w') :
    (Code.region id ops true).wp P J a w := by
  unfold run at h
  dsimp only at h
  split at h
  · rename_i hform
    obtain ⟨evs, s', h1, h2, h3⟩ := trace ops.toList s [] _ h
    split at h3
    · rename_i hdraw
      have hlen := hc.len
      have htot := chain_len _ _ _ h2
      -- the draw alone
      let w1 : World := { w with drawn := w.drawn + 1 }
      have hst0 : Stays w (FF X m s.heap) w1 (FF X m s.heap) := ⟨Nat.le_refl _, fun _ _ h => ⟨rfl, h⟩⟩
      obtain ⟨hc1, he1, hr1⟩ : Conc P w0 X m s.heap w1 ∧ Ext n0 m s.heap w m s.heap w1 ∧ RepL m w1 (FF X m s.heap) s.env a.tmps.toList :=
        ⟨⟨hc.below.trans ⟨rfl, rfl, rfl, Nat.le_refl _, fun _ _ => rfl⟩, hc.len, hc.xlt, fun i o l g1 g2 => ObOk.stays hst0 (fun _ _ h => h) (fun _ _ => rfl) (hc.obj i o l g1 g2), hc.own, hc.sep⟩,
          ⟨fun _ _ => rfl, rfl, rfl, rfl, Nat.le_refl _, fun _ _ _ => rfl, fun _ h => .inl h⟩, RepL.stays hst0 (fun _ _ h => h) _ _ hr⟩
      have hp : Plan P w0 n0 ops (aheads ops.toList []) evs s s' := by
        refine ⟨form_of hform, h1, h2, by simpa using hdraw, fun x hx i hi => ?_, fun o ho i hi => ?_, by omega⟩
        · obtain ⟨j, hj⟩ := List.getElem?_of_mem hx
          obtain ⟨v, _, hv⟩ := RepL.at_ _ _ hr j x hj
          have := refs_lt x v hv i hi
          omega
        · obtain ⟨j, hj⟩ := List.getElem?_of_mem ho
          have hjl := lt_of_get hj
          have := ob_refs_lt (hc.obj j o _ hj (List.getElem?_eq_getElem (show j < m.length by omega))) i hi
          omega
      let ls : List Loc := List.replicate (s'.heap.length - s.heap.length) default
      obtain ⟨hc2, hff⟩ := conc_pad hc1 htot (ls := ls) (by simp [ls])
      have hnone : setOf (Array.replicate ops.size false) = fun _ => false := by
        funext j
        unfold setOf
        rw [Array.getD_eq_getD_getElem?, Array.getElem?_replicate]
        split <;> rfl
      have hheap : heapS evs s s' (setOf (Array.replicate ops.size false)) = pad s'.heap.length s.heap := by rw [hnone]; exact foldH_none _ _ _ _ fun _ _ => rfl
      have henv : envS evs s (setOf (Array.replicate ops.size false)) = s.env := by rw [hnone]; exact foldE_none _ _ _ _ fun _ _ => rfl
      refine wp_region_any hmix (sim hp (mS := m ++ ls) (wS := w1) (X := X) (fun m' w' a' g1 g2 g3 g4 => ?_) ops.size _ (m ++ ls) w1 a (by simp) (by simp) ?_ ?_ ?_ ?_ hd)
      · have g1' : Ext n0 m s.heap w m' s'.heap w' := by
          refine ⟨fun i hi => ?_, g1.os, g1.tape, g1.output, g1.size, fun b hb hno => g1.blk b hb fun ho => hno ((owned_pad hlen).1 ho), fun b ho => (g1.own b ho).imp (owned_pad hlen).1 (fun h => h)⟩
          rw [g1.pre i hi, List.getElem?_append_left (by omega)]
        exact hk s' m' w' a' g1' g2 g3 g4 h3
      · rw [hnone]
        intro j hj
        simp at hj
      · rw [hheap]; exact Ext.refl _ _ _ _
      · rw [hheap]; exact hc2
      · rw [hheap, henv, hff]
        exact RepL.stays ⟨Nat.le_refl _, fun _ _ h => ⟨rfl, h⟩⟩ (fun i l hi => by rw [List.getElem?_append_left (lt_of_get hi)]; exact hi) _ _ hr1
    · exact h3.elim
  · exact h.elim
end
end Go.Ab
/- The run of code, of a function; loops. -/
set_option linter.unusedVariables false
set_option linter.unusedSimpArgs false
namespace Go.Ab
open Go Go.RowKit
section
variable {P : Program} {w0 : World} {n0 : Nat} {α : Type} {Q : α → Prop} {keep : List FuncId}

theorem run_sound (hmix : P.follows .mixedOrders = true) : ∀ (c : Code) (s : St) (k : Ex → St → Tr α), wp P w0 n0 (run P keep c s k) Q → ACode P w0 n0 c s fun e s' => wp P w0 n0 (k e s') Q := by
  intro c
  induction c with
  | skip => exact fun s k h X m w a hc hr hd hn => wp_skip ⟨s, m, h, Ext.refl _ _ _ _, hc, hr, hd⟩
  | label l => exact fun s k h X m w a hc hr hd hn => wp_label ⟨s, m, h, Ext.refl _ _ _ _, hc, hr, hd⟩
  | exit id => exact fun s k h X m w a hc hr hd hn => wp_exit ⟨s, m, h, Ext.refl _ _ _ _, hc, hr, hd⟩
  | ret => exact fun s k h X m w a hc hr hd hn => wp_ret ⟨s, m, h, Ext.refl _ _ _ _, hc, hr, hd⟩
  | region id ops draw =>
    intro s k h X m w a hc hr hd hn
    cases draw with
    | true => exact draw_sound hmix s k h X m w a hc hr hd hn fun s' m' w' a' g1 g2 g3 g4 g5 => ⟨s', m', g5, g1, g2, g3, g4⟩
    | false =>
      unfold run at h
      exact wp_region_list (runOps_sound _ s _ h X m w a hc hr hd hn fun s' m' w' a' g1 g2 g3 g4 g5 => ⟨s', m', g5, g1, g2, g3, g4⟩)
  | seq x y ihx ihy =>
    intro s k h X m w a hc hr hd hn
    unfold run at h
    refine wp_seq (Go.wp_mono (ihx s _ h X m w a hc hr hd hn) fun e a' w' hp => ?_)
    cases e with
    | normal =>
      obtain ⟨s', m', h1, h2, h3, h4, h5⟩ := hp
      exact Go.wp_mono (ihy s' k h1 X m' w' a' h3 h4 h5 (ext_len h2 hn)) fun _ _ _ hq => Post.before h2 hq
    | exit id => exact hp
    | ret => exact hp
    | outgrown => exact hp
    | goto l => exact hp
    | panic ch => exact hp
  | cond c x y ihx ihy =>
    intro s k h X m w a hc hr hd hn
    unfold run at h
    split at h
    · rename_i t ht
      have he := eval_rep hr c
      rw [ht] at he
      simp only [Rep, DRep] at he
      obtain ⟨h1, h2⟩ := h
      refine wp_cond he ?_
      cases t with
      | true => exact ihx s k (h1 rfl) X m w a hc hr hd hn
      | false => exact ihy s k (h2 rfl) X m w a hc hr hd hn
    · exact h.elim
  | block id c ih =>
    intro s k h X m w a hc hr hd hn
    unfold run at h
    refine wp_block (Go.wp_mono (ih s _ h X m w a hc hr hd hn) fun e a' w' hp => ?_)
    cases e with
    | normal => exact hp
    | exit i =>
      obtain ⟨s', m', h1, h2⟩ := hp
      simp only [Exit.inBlock]
      dsimp only at h1
      split at h1
      · rename_i hi
        rw [if_pos (Nat.eq_of_beq_eq_true hi)]
        exact ⟨s', m', h1, h2⟩
      · rename_i hi
        rw [if_neg (fun e => by subst e; simp at hi)]
        exact ⟨s', m', h1, h2⟩
    | ret => exact hp
    | outgrown => exact hp
    | goto l => exact hp
    | panic ch => exact hp
  | loop c ih =>
    intro s k h
    unfold run at h
    obtain ⟨J, h1, h2⟩ := h
    exact h1.mono h2
  | scope c ih =>
    intro s k h X m w a hc hr hd hn
    unfold run at h
    refine wp_scope_straight (Go.wp_mono (ih s k h X m w a hc hr hd hn) fun e a' w' hp => ?_)
    cases e <;> exact hp
  | rangeFunc f ps as b _ _ => exact fun s k h => h.elim
  | goto l => exact fun s k h => h.elim
  | refuse why => exact fun s k h => h.elim

/-! ### The results -/
def resOne (tmps : Array Value) : ResultVar → Sem Value
  | .tmp t => pure (tmps.getD t undef)
  | .cell a t => do loadVar t (← asAddr (tmps.getD a undef))
theorem results_eq (fn : Func) (tmps : Array Value) : results fn tmps = (do let vs ← fn.results.mapM (resOne tmps); pure (if h : vs.size = 1 then vs[0] else .tuple vs)) := by
  unfold results
  congr 1
theorem resA_sound {s : St} : ∀ (rs : List ResultVar) (k : List A → Tr α), wp P w0 n0 (resA P s rs k) Q → ∃ vs, wp P w0 n0 (k vs) Q ∧
    ∀ (X : Nat → Prop) (m : List Loc) (w : World) (tmps : Array Value), Conc P w0 X m s.heap w → RepL m w (FF X m s.heap) s.env tmps.toList →
      ∃ us : List Value, (rs.mapM (resOne tmps)).run P w = .ok us w ∧ RepL m w (FF X m s.heap) vs us
  | [], k, h => ⟨[], h, fun X m w tmps hc hr => ⟨[], rfl, rfl⟩⟩
  | .tmp t :: rs, k, h => by
    obtain ⟨vs, h1, h2⟩ := resA_sound rs _ h
    refine ⟨_, h1, fun X m w tmps hc hr => ?_⟩
    obtain ⟨us, g1, g2⟩ := h2 X m w tmps hc hr
    refine ⟨tmps.getD t undef :: us, ?_, ⟨_, _, rfl, env_get hr t, g2⟩⟩
    rw [List.mapM_cons]
    simp only [resOne, pure_bind, Sem.run_bind, g1, Result.andThen_ok, Sem.run_pure]
  | .cell a t :: rs, k, h => by
    unfold resA at h
    obtain ⟨cs, h, hl, hload⟩ := loadA_told h
    obtain ⟨v, hv, h⟩ := wp_optK h
    obtain ⟨vs, h1, h2⟩ := resA_sound rs _ h
    refine ⟨_, h1, fun X m w tmps hc hr => ?_⟩
    obtain ⟨us, g1, g2⟩ := h2 X m w tmps hc hr
    obtain ⟨b, off, ws, e1, e2, e3⟩ := hload X m w _ hc (env_get hr a)
    obtain ⟨z, h4, h5⟩ := run_loadVarA hv hl e2 e3
    refine ⟨z :: us, ?_, ⟨_, _, rfl, h5, g2⟩⟩
    have hone : (resOne tmps (.cell a t)).run P w = .ok z w := by
      simp only [resOne, e1, asAddr, pure_bind, h4]
    rw [List.mapM_cons]
    simp only [Sem.run_bind, hone, Result.andThen_ok, g1, Sem.run_pure]

theorem oneOf_rep {m : List Loc} {w : World} {F : Nat → Prop} {vs : List A} {us : List Value} (h : RepL m w F vs us) : Rep m w F (oneOf vs) (if h : us.length = 1 then us[0] else .tuple us.toArray) := by
  have hl := RepL.length _ _ h
  unfold oneOf
  split
  · rename_i x
    obtain ⟨u, rfl, h1⟩ := repL_one h
    simpa using h1
  · rename_i hne
    have : ¬ us.length = 1 := fun e => by
      rw [e] at hl
      match vs, hl with
      | [x], _ => exact hne x rfl
    rw [dif_neg this]
    exact ⟨us.toArray, rfl, h⟩

theorem listEq_eq : ∀ (xs ys : List Nat), listEq xs ys = true → xs = ys
  | [], [], _ => rfl
  | [], y :: ys, h => by simp [listEq] at h
  | x :: xs, [], h => by simp [listEq] at h
  | x :: xs, y :: ys, h => by
    simp only [listEq, Bool.and_eq_true] at h
    rw [Nat.eq_of_beq_eq_true h.1, listEq_eq xs ys h.2]

/-- Only some objects are kept. -/
theorem conc_keep {X : Nat → Prop} {m : List Loc} {H : List Ob} {w : World} (hc : Conc P w0 X m H w) {ids : List Nat} (hn : ids.Nodup) (hin : ∀ i ∈ ids, i < H.length) (hpre : ids.take n0 = List.range n0) :
    ∃ m', Ext n0 m H w m' (pack H ids) w ∧ Conc P w0 X m' (pack H ids) w ∧ Stays w (FF X m H) w (FF X m' (pack H ids)) ∧ ∀ (i j : Nat) (l : Loc), placeOf ids i = some j → m[i]? = some l → m'[j]? = some l := by
  have hlen := hc.len
  have hcp := conc_pack hc hn hin
  have howned : ∀ b, Owned (locs m ids) (pack H ids) b → Owned m H b := by
    intro b ho
    have h1 : FF (Rest X m H ids) (locs m ids) (pack H ids) b := .inr ho
    rw [ff_pack hlen hin] at h1
    rcases h1 with hx | h1
    · obtain ⟨j, o, l, q1, q2, q3, q4, q5⟩ := ho
      have := hcp.own j o l q1 q2 q3 q4
      rw [q5] at this
      exact absurd (.inl hx) this.2.2
    · exact h1
  have hst : Stays w (FF X m H) w (FF X (locs m ids) (pack H ids)) := ⟨Nat.le_refl _, fun b _ hF => ⟨rfl, fun h => hF (h.imp id (howned b))⟩⟩
  refine ⟨locs m ids, ⟨fun i hi => ?_, rfl, rfl, rfl, Nat.le_refl _, fun _ _ _ => rfl, fun b ho => .inl (howned b ho)⟩, ⟨hcp.below, hcp.len, hc.xlt, fun j o l h1 h2 => ?_, fun j o l h1 h2 h3 h4 => ?_, hcp.sep⟩, hst, map_ok hlen hin⟩
  · have hi' : ids[i]? = some i := by
      have : (ids.take n0)[i]? = some i := by rw [hpre, List.getElem?_range hi]
      rwa [List.getElem?_take_of_lt hi] at this
    have := hin i (List.mem_of_getElem? hi')
    rw [locs_at hi' (by omega)]
  · have h3 := hcp.obj j o l h1 h2
    rw [ff_pack hlen hin] at h3
    exact ObOk.stays hst (fun _ _ h => h) (fun _ _ => rfl) h3
  · obtain ⟨q1, q2, q3⟩ := hcp.own j o l h1 h2 h3 h4
    exact ⟨q1, q2, fun hx => q3 (.inl hx)⟩

/-- A state that says less. -/
def Weak (P : Program) (w0 : World) (n0 : Nat) (s s' : St) : Prop :=
  ∀ (X : Nat → Prop) (m : List Loc) (w : World) (tmps : List Value), Conc P w0 X m s.heap w → RepL m w (FF X m s.heap) s.env tmps →
    ∃ m', Ext n0 m s.heap w m' s'.heap w ∧ Conc P w0 X m' s'.heap w ∧ RepL m' w (FF X m' s'.heap) s'.env tmps
/-- A FUNCTION's CONTRACT, OUT OF ITS RUN. -/
theorem aev_of_run_w (hmix : P.follows .mixedOrders = true) {f : FuncId} {fn : Func} (hf : P.funcs[f]? = some fn) (keep : List FuncId) (fz : Nat) {args : List A} {H : List Ob} {r : A} {H' : List Ob}
    (h : wp P w0 H.length (runFn P keep fz fn args H) (fun p => Weak P w0 H.length ⟨[p.1], p.2⟩ ⟨[r], H'⟩)) : AEv P w0 f args H r H' := by
  unfold runFn at h
  split at h
  · exact h.elim
  · rename_i c hb
    intro X m w vs hc hr
    have hlen := hc.len
    have hal := RepL.length _ _ hr
    refine calls_of_wp hf hb ?_
    have henv : RepL m w (FF X m H) (args ++ List.replicate (fn.ntmps - args.length) undefA) (vs.toArray ++ Array.replicate (fn.ntmps - vs.toArray.size) undef).toList := by
      rw [Array.toList_append, Array.toList_replicate]
      refine RepL.append (by simpa using hr) ?_
      simp only [List.size_toArray, ← hal]
      generalize fn.ntmps - args.length = n
      induction n with
      | zero => rfl
      | succ n ih => exact ⟨_, _, rfl, undef_rep _ _ _, ih⟩
    refine Go.wp_mono (run_sound hmix c _ _ h X m w _ hc henv rfl (by omega)) fun e a' w' hp => ?_
    have fin : ∀ s' m', wp P w0 H.length (finish P fz H.length fn.results.toList s') (fun p => Weak P w0 H.length ⟨[p.1], p.2⟩ ⟨[r], H'⟩) → Ext H.length m H w m' s'.heap w' → Conc P w0 X m' s'.heap w' → RepL m' w' (FF X m' s'.heap) s'.env a'.tmps.toList → a'.defers = [] →
        a'.defers = [] ∧ ∃ v, (results fn a'.tmps).run P w' = .ok v w' ∧ ∃ m', Ext H.length m H w m' H' w' ∧ Conc P w0 X m' H' w' ∧ Rep m' w' (FF X m' H') r v := by
      intro s' m' h1 h2 h3 h4 h5
      refine ⟨h5, ?_⟩
      unfold finish at h1
      obtain ⟨as, h1, hres⟩ := resA_sound _ _ h1
      obtain ⟨us, g1, g2⟩ := hres X m' w' a'.tmps h3 h4
      have hrun : (results fn a'.tmps).run P w' = .ok (if h : us.length = 1 then us[0] else .tuple us.toArray) w' := by
        rw [results_eq, Array.mapM_eq_mapM_toList]
        simp only [Sem.run_bind, Sem.run_map, g1, Result.andThen_ok, Sem.run_pure]
        by_cases hu : us.length = 1 <;> simp [hu]
      refine ⟨_, hrun, ?_⟩
      have hone := oneOf_rep g2
      -- frozen, or not
      have hfz : ∃ (r1 : A) (H1 : List Ob), endVal fz s'.heap (oneOf as) = r1 ∧ endHeap fz s'.heap (oneOf as) = H1 ∧ Ext H.length m H w m' H1 w' ∧ Conc P w0 X m' H1 w' ∧ Rep m' w' (FF X m' H1) r1 (if h : us.length = 1 then us[0] else .tuple us.toArray) := by
        match fz with
        | 0 => exact ⟨_, _, rfl, rfl, h2, h3, hone⟩
        | k + 2 =>
          obtain ⟨q1, q2, q3⟩ := conc_frz h3
          refine ⟨_, _, rfl, rfl, ⟨h2.pre, h2.os, h2.tape, h2.output, h2.size, h2.blk, fun b ho => h2.own b (q3 b ho)⟩, q1, ?_⟩
          exact q2 _ _ hone
        | 1 =>
          refine ⟨_, _, rfl, rfl, ⟨h2.pre, h2.os, h2.tape, h2.output, h2.size, h2.blk, fun b ho => h2.own b (owned_kill ho)⟩, conc_kill h3 _, ?_⟩
          exact frz_rep h3 _ _ (fun i hi => hi) hone
      obtain ⟨r1, H1, e1, e2, k1, k2, k3⟩ := hfz
      dsimp only at h1
      rw [e1, e2] at h1
      split at h1
      · rename_i hok
        have hweak : Weak P w0 H.length ⟨[A.mapId (placeOf (canonIds H.length ⟨[r1], H1⟩)) r1], pack H1 (canonIds H.length ⟨[r1], H1⟩)⟩ ⟨[r], H'⟩ := h1
        obtain ⟨hn, hin⟩ := reach_ok H1 1000 (List.range H.length ++ A.refsL [r1]) [] List.nodup_nil (by simp)
        obtain ⟨m2, q1, q2, q3, q4⟩ := conc_keep (n0 := H.length) k2 hn hin (listEq_eq _ _ hok)
        have := Rep.mapId (m := m') (m' := m2) q4 r1 _ k3
        obtain ⟨m3, z1, z2, z3⟩ := hweak X m2 w' [_] q2 ⟨_, _, rfl, Rep.stays q3 (fun _ _ h => h) _ _ this, rfl⟩
        obtain ⟨u, hu, z4⟩ := repL_one z3
        simp only [List.cons.injEq, and_true] at hu
        subst hu
        exact ⟨m3, (k1.trans q1).trans z1, z2, z4⟩
      · exact h1.elim
    cases e with
    | normal => obtain ⟨s', m', h1, h2, h3, h4, h5⟩ := hp; exact fin s' m' h1 h2 h3 h4 h5
    | ret => obtain ⟨s', m', h1, h2, h3, h4, h5⟩ := hp; exact fin s' m' h1 h2 h3 h4 h5
    | exit id => obtain ⟨s', m', h1, _⟩ := hp; exact h1.elim
    | outgrown => exact hp
    | goto l => exact hp
    | panic ch => exact hp.elim
theorem aev_of_run (hmix : P.follows .mixedOrders = true) {f : FuncId} {fn : Func} (hf : P.funcs[f]? = some fn) (keep : List FuncId) (fz : Nat) {args : List A} {H : List Ob} {r : A} {H' : List Ob}
    (h : wp P w0 H.length (runFn P keep fz fn args H) (· = (r, H'))) : AEv P w0 f args H r H' :=
  aev_of_run_w hmix hf keep fz (wp_mono (fun p hp => by rw [hp]; exact fun X m w tmps hc hr => ⟨m, Ext.refl _ _ _ _, hc, hr⟩) _ h)
end
end Go.Ab
/- How a tree's promise is shown: step by step, the kernel reckons. Loops. -/
set_option linter.unusedVariables false
set_option linter.unusedSimpArgs false
namespace Go.Ab
open Go Go.RowKit

instance : Inhabited St := ⟨⟨[], []⟩⟩
instance : Inhabited Ex := ⟨.normal⟩
instance : Inhabited A := ⟨.top⟩
instance {α : Type} : Inhabited (Tr α) := ⟨.fail⟩

section
variable {α : Type}
def Tr.isRet : Tr α → Bool | .ret _ => true | _ => false
def Tr.rv [Inhabited α] : Tr α → α | .ret x => x | _ => default
def Tr.isQ : Tr α → Bool | .q _ _ => true | _ => false
def Tr.qb : Tr α → Bool | .q b _ => b | .chk b _ => b | _ => false
def Tr.qt : Tr α → Tr α | .q _ k => k true | _ => .fail
def Tr.qf : Tr α → Tr α | .q _ k => k false | _ => .fail
def Tr.isChk : Tr α → Bool | .chk _ _ => true | _ => false
def Tr.ck : Tr α → Tr α | .chk _ k => k | _ => .fail
def Tr.isOpt : Tr α → Bool | .opt _ _ => true | _ => false
def Tr.oo : Tr α → Option (List D) | .opt o _ => o | _ => none
def Tr.ok : Tr α → List D → Tr α | .opt _ k, c => k c | _, _ => .fail
def Tr.isCall (f : FuncId) : Tr α → Bool | .call g _ _ _ => Nat.beq f g | _ => false
def Tr.cargs : Tr α → List A × List Ob | .call _ as H _ => (as, H) | _ => ([], [])
def Tr.cres : Tr α → A → List Ob → Tr α | .call _ _ _ k, r, H => k r H | _, _, _ => .fail
def Tr.isLoop : Tr α → Bool | .loop _ _ _ => true | _ => false
def Tr.lbody : Tr α → Code | .loop c _ _ => c | _ => .skip
def Tr.lst : Tr α → St | .loop _ s _ => s | _ => default
def Tr.lk : Tr α → Ex → St → Tr α | .loop _ _ k, e, s => k e s | _, _, _ => .fail
end

section
variable {P : Program} {w0 : World} {n0 : Nat} {α : Type} {Q : α → Prop} {keep : List FuncId}

theorem wp_ret [Inhabited α] {t : Tr α} {x : α} (h : t.isRet = true) (hx : t.rv = x) (hq : Q x) : wp P w0 n0 t Q := by
  cases t <;> simp [Tr.isRet] at h
  subst hx
  exact hq
theorem wp_q {t : Tr α} {b : Bool} (h : t.isQ = true) (hb : t.qb = b) (h1 : b = true → wp P w0 n0 t.qt Q) (h2 : b = false → wp P w0 n0 t.qf Q) : wp P w0 n0 t Q := by
  cases t <;> simp [Tr.isQ] at h
  subst hb
  exact ⟨h1, h2⟩
theorem wp_chk {t : Tr α} {b : Bool} (h : t.isChk = true) (hb : t.qb = b) (h1 : b = true) (h2 : wp P w0 n0 t.ck Q) : wp P w0 n0 t Q := by
  cases t <;> simp [Tr.isChk] at h
  subst hb
  exact ⟨h1, h2⟩
theorem wp_opt {t : Tr α} {o : Option (List D)} {c : List D} (h : t.isOpt = true) (ho : t.oo = o) (h1 : o = some c) (h2 : wp P w0 n0 (t.ok c) Q) : wp P w0 n0 t Q := by
  cases t <;> simp [Tr.isOpt] at h
  subst ho
  exact ⟨c, h1, h2⟩
theorem wp_call {t : Tr α} {f : FuncId} {args : List A} {H : List Ob} {r : A} {H' : List Ob} (h : t.isCall f = true) (ha : t.cargs = (args, H)) (h1 : AEv P w0 f args H r H') (h2 : wp P w0 n0 (t.cres r H') Q) : wp P w0 n0 t Q := by
  cases t <;> simp [Tr.isCall] at h
  subst h
  simp only [Tr.cargs, Prod.mk.injEq] at ha
  obtain ⟨rfl, rfl⟩ := ha
  exact ⟨r, H', h1, h2⟩
theorem wp_loop {t : Tr α} {c : Code} {J : Ex → St → Prop} (h : t.isLoop = true) (hc : t.lbody = c) (h1 : ACode P w0 n0 (.loop c) t.lst J) (h2 : ∀ e s', J e s' → wp P w0 n0 (t.lk e s') Q) : wp P w0 n0 t Q := by
  cases t <;> simp [Tr.isLoop] at h
  subst hc
  exact ⟨J, h1, h2⟩

theorem Weak.refl (s : St) : Weak P w0 n0 s s := fun X m w tmps hc hr => ⟨m, Ext.refl _ _ _ _, hc, hr⟩
theorem Weak.trans {s s' s'' : St} (h : Weak P w0 n0 s s') (g : Weak P w0 n0 s' s'') : Weak P w0 n0 s s'' := fun X m w tmps hc hr =>
  let ⟨m1, h1, h2, h3⟩ := h X m w tmps hc hr
  let ⟨m2, g1, g2, g3⟩ := g X m1 w tmps h2 h3
  ⟨m2, h1.trans g1, g2, g3⟩

theorem forget_rep {m : List Loc} {w : World} {F : Nat → Prop} : ∀ (is : List Nat) (env : List A) (vs : List Value), RepL m w F env vs → RepL m w F (forget env is) vs
  | [], _, _, h => h
  | i :: is, env, vs, h => by
    simp only [forget]
    exact forget_rep is _ vs (set_same h rfl fun _ _ => trivial)

/-- Slots forgotten, objects that nothing reaches gone, the others numbered anew. -/
def tidy (n0 : Nat) (W : List Nat) (s : St) : St := canon n0 ⟨forget s.env W, s.heap⟩
def tidyOk (n0 : Nat) (W : List Nat) (s : St) : Bool := canonOk n0 ⟨forget s.env W, s.heap⟩
theorem weak_tidy {W : List Nat} {s : St} (h : tidyOk n0 W s = true) : Weak P w0 n0 s (tidy n0 W s) := by
  intro X m w tmps hc hr
  obtain ⟨hn, hin⟩ := reach_ok s.heap 1000 (List.range n0 ++ A.refsL (forget s.env W)) [] List.nodup_nil (by simp)
  obtain ⟨m2, q1, q2, q3, q4⟩ := conc_keep (n0 := n0) hc hn hin (listEq_eq _ _ h)
  refine ⟨m2, q1, q2, ?_⟩
  have := RepL.mapId (m := m) (m' := m2) q4 _ _ (forget_rep W _ _ hr)
  exact RepL.stays q3 (fun _ _ h => h) _ _ this

/-- A nil slice in a slot, seen as a row of one's own that is nil as long as it is empty. -/
def virt (d : Nat) (e : TypeId) (sz : Nat) (s : St) : St := ⟨s.env.set d (.own s.heap.length), s.heap ++ [.row true e sz []]⟩
def isNilD : A → Bool
  | .d (.slice true _ _) => true
  | _ => false
theorem weak_virt {d : Nat} {e : TypeId} {sz : Nat} {s : St} (hn : n0 ≤ s.heap.length) (h : isNilD (s.env.getD d undefA) = true) : Weak P w0 n0 s (virt d e sz s) := by
  intro X m w tmps hc hr
  have hlen := hc.len
  obtain ⟨g1, g2⟩ := conc_add hc (w' := w) (o2 := .row true e sz []) (l' := ⟨0, 0, sz, 0, true, none⟩) rfl rfl rfl (Nat.le_refl _) (fun _ _ => rfl) (by simp) (fun hs hm => ⟨rfl, rfl, ⟨fun _ => ⟨rfl, rfl⟩, fun h => by simp at h⟩, by simp, by simp⟩)
  have hst : Stays w (FF X m s.heap) w (FF X (m ++ [⟨0, 0, sz, 0, true, none⟩]) (s.heap ++ [.row true e sz []])) := by
    refine ⟨Nat.le_refl _, fun b hb hF => ⟨rfl, ?_⟩⟩
    rintro (hx | ho)
    · exact hF (.inl hx)
    · exact (g2.own b ho).elim (fun h => hF (.inr h)) (fun h => by omega)
  refine ⟨_, g2.mono hn, g1, ?_⟩
  have hr' := RepL.stays hst (m' := m ++ [⟨0, 0, sz, 0, true, none⟩]) (fun i l hi => by rw [List.getElem?_append_left (lt_of_get hi)]; exact hi) _ _ hr
  refine set_same hr' rfl fun v hv => ?_
  generalize s.env.getD d undefA = x at h hv
  unfold isNilD at h
  split at h
  · rcases hv with ⟨_, _, rfl⟩ | ⟨hf, _⟩
    · exact ⟨⟨0, 0, sz, 0, true, none⟩, by rw [← hlen]; simp, .inl ⟨rfl, rfl⟩⟩
    · simp at hf
  · simp at h

/-- How a round ends. -/
def Round (P : Program) (w0 : World) (n0 : Nat) (I : Nat → St → Prop) (J : Ex → St → Prop) (n : Nat) (p : Ex × St) : Prop :=
  match p.1 with
  | .normal => ∃ s2, Weak P w0 n0 p.2 s2 ∧ ∃ k, k < n ∧ I k s2
  | e => ∃ s2, Weak P w0 n0 p.2 s2 ∧ J e s2
theorem round_next {I : Nat → St → Prop} {J : Ex → St → Prop} {n : Nat} {t : Tr (Ex × St)} {W : List Nat} {s2 : St} (h : t.isRet = true) (he : t.rv.1 = .normal) (hok : tidyOk n0 W t.rv.2 = true) (hs : tidy n0 W t.rv.2 = s2) (hI : ∃ k, k < n ∧ I k s2) :
    wp P w0 n0 t (Round P w0 n0 I J n) := by
  refine wp_ret h rfl ?_
  unfold Round
  rw [he]
  exact ⟨s2, hs ▸ weak_tidy hok, hI⟩
theorem round_exit {I : Nat → St → Prop} {J : Ex → St → Prop} {n : Nat} {t : Tr (Ex × St)} {W : List Nat} {s2 : St} {id : Nat} (h : t.isRet = true) (he : t.rv.1 = .exit id) (hok : tidyOk n0 W t.rv.2 = true) (hs : tidy n0 W t.rv.2 = s2) (hJ : J (.exit id) s2) : wp P w0 n0 t (Round P w0 n0 I J n) := by
  refine wp_ret h rfl ?_
  unfold Round
  rw [he]
  exact ⟨s2, hs ▸ weak_tidy hok, hJ⟩
theorem round_ret {I : Nat → St → Prop} {J : Ex → St → Prop} {n : Nat} {t : Tr (Ex × St)} {W : List Nat} {s2 : St} (h : t.isRet = true) (he : t.rv.1 = .ret) (hok : tidyOk n0 W t.rv.2 = true) (hs : tidy n0 W t.rv.2 = s2) (hJ : J .ret s2) : wp P w0 n0 t (Round P w0 n0 I J n) := by
  refine wp_ret h rfl ?_
  unfold Round
  rw [he]
  exact ⟨s2, hs ▸ weak_tidy hok, hJ⟩
theorem acode_tidy {c : Code} {s s2 : St} {J : Ex → St → Prop} {W : List Nat} (hok : tidyOk n0 W s = true) (hs : tidy n0 W s = s2) (h : ACode P w0 n0 c s2 J) : ACode P w0 n0 c s J := by
  intro X m w a hc hr hd hn
  obtain ⟨m1, g1, g2, g3⟩ := (hs ▸ weak_tidy (P := P) (w0 := w0) hok : Weak P w0 n0 s s2) X m w a.tmps.toList hc hr
  exact Go.wp_mono (h X m1 w a g2 g3 hd (ext_len g1 hn)) fun _ _ _ hp => Post.before g1 hp

/-- The loops' bodies of a piece of code, as they stand. -/
def loopsOf : Code → List Code
  | .seq a b => loopsOf a ++ loopsOf b
  | .cond _ a b => loopsOf a ++ loopsOf b
  | .block _ c => loopsOf c
  | .loop c => c :: loopsOf c
  | .scope c => loopsOf c
  | _ => []
def nthLoop (fn : Func) (k : Nat) : Code := match fn.body with | some c => (loopsOf c).getD k .skip | none => .skip
/-- An environment of some slots; of the others nothing is known. -/
def mkEnv (n : Nat) (l : List (Nat × A)) : List A := (List.range n).map fun i => match l.find? (fun p => Nat.beq p.1 i) with | some p => p.2 | none => .top
/-- All slots but some. -/
def others (n : Nat) (l : List Nat) : List Nat := (List.range n).filter fun i => !(l.any (Nat.beq i ·))

def body1 (P : Program) (keep : List FuncId) (c : Code) (s : St) : Tr (Ex × St) := run P keep c s fun e s' => .ret (e, s')

/-- A LOOP, BY WHAT HOLDS AT ITS HEAD. -/
theorem acode_loop (hmix : P.follows .mixedOrders = true) {c : Code} {s0 : St} {J : Ex → St → Prop} (keep : List FuncId) (I : Nat → St → Prop) {s1 : St} {n : Nat} (hw : Weak P w0 n0 s0 s1) (h0 : I n s1)
    (hstep : ∀ n s, I n s → wp P w0 n0 (body1 P keep c s) (Round P w0 n0 I J n)) : ACode P w0 n0 (.loop c) s0 J := by
  intro X m w a hc hr hd hn
  obtain ⟨m1, g1, g2, g3⟩ := hw X m w a.tmps.toList hc hr
  have hn1 := ext_len g1 hn
  -- by the measure
  have key : ∀ (n : Nat) (s : St) (m : List Loc) (w : World) (a : Act), I n s → Conc P w0 X m s.heap w → RepL m w (FF X m s.heap) s.env a.tmps.toList → a.defers = [] → n0 ≤ m.length → ∀ (b : Frame) (k : List Item) (cs : List Frame),
      ∃ e a' w', Post P w0 n0 X m s.heap w J e a' w' ∧ Arrives P (lone (b.at a (.code c :: .inLoop c :: k)) cs w) b k cs e a' w' := by
    intro n
    induction n using Nat.strongRecOn with
    | _ n ih =>
      intro s m w a hI hc hr hd hn b k cs
      obtain ⟨e, a1, w1, hq, harr⟩ := run_sound hmix c s _ (hstep n s hI) X m w a hc hr hd hn b (.inLoop c :: k) cs
      have hq : Post P w0 n0 X m s.heap w (fun e s' => Round P w0 n0 I J n (e, s')) e a1 w1 := hq
      cases e with
      | normal =>
        obtain ⟨s', m', hj, h1, h2, h3, h4⟩ := hq
        obtain ⟨s2, q1, k2, q2, q3⟩ := hj
        obtain ⟨m2, p1, p2, p3⟩ := q1 X m' w1 a1.tmps.toList h2 h3
        have hext := h1.trans p1
        obtain ⟨e2, a2, w2, hq2, harr2⟩ := ih k2 q2 s2 m2 w1 a1 q3 p2 p3 h4 (ext_len hext hn) b k cs
        exact ⟨e2, a2, w2, Post.before hext hq2, .of_steps (Steps.trans harr (.one step_inLoop)) harr2⟩
      | exit id =>
        obtain ⟨s', m', ⟨s2, q1, q2⟩, h1, h2, h3, h4⟩ := hq
        obtain ⟨m2, p1, p2, p3⟩ := q1 X m' w1 a1.tmps.toList h2 h3
        exact ⟨.exit id, a1, w1, ⟨s2, m2, q2, h1.trans p1, p2, p3, h4⟩, .pass (x := .inLoop c) rfl (fun _ _ => .inl (by simp)) harr⟩
      | goto l => exact hq.elim
      | ret =>
        obtain ⟨s', m', ⟨s2, q1, q2⟩, h1, h2, h3, h4⟩ := hq
        obtain ⟨m2, p1, p2, p3⟩ := q1 X m' w1 a1.tmps.toList h2 h3
        exact ⟨.ret, a1, w1, ⟨s2, m2, q2, h1.trans p1, p2, p3, h4⟩, .pass (x := .inLoop c) rfl (fun _ _ => .inl (by simp)) harr⟩
      | panic ch => exact hq.elim
      | outgrown => exact hq.elim
  intro b k cs
  obtain ⟨e, a', w', hq, harr⟩ := key n s1 m1 w a h0 g2 g3 hd hn1 b k cs
  exact ⟨e, a', w', Post.before g1 hq, .of_steps (.one step_loop) harr⟩
end
end Go.Ab
