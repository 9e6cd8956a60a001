/- Parts of the proof that a law of the program holds: contracts of the functions, and plain laws. -/
import Derived.IntWalk
import Derived.Test.YtmecehpkjffanaaDoorX4
/- Numbers in as few bytes as can be: what they are, and how they are read. -/
namespace Go.Pl

def vb (n : Nat) : List UInt8 := if h : n < 128 then [UInt8.ofNat n] else UInt8.ofNat (128 + n % 128) :: vb (n / 128)
termination_by n
decreasing_by omega

/-- What is read: a number, and of how many bytes; or why there is none. -/
inductive Vr where
  | short
  | form
  | ok (n m : Nat)
def Vr.more (c : Nat) : Vr → Vr
  | .ok n m => .ok (c + 128 * n) (m + 1)
  | r => r
/-- Read from the k-th byte on. -/
def vg : List UInt8 → Nat → Vr
  | [], _ => .short
  | c :: t, k => if (c = 0 ∧ 0 < k) ∨ 9 ≤ k then .form else if c.toNat < 128 then .ok c.toNat 1 else (vg t (k + 1)).more (c.toNat - 128)

theorem vb_small {n : Nat} (h : n < 128) : vb n = [UInt8.ofNat n] := by rw [vb]; simp [h]
theorem vb_large {n : Nat} (h : ¬ n < 128) : vb n = UInt8.ofNat (128 + n % 128) :: vb (n / 128) := by rw [vb]; simp [h]
theorem vb_ne (n : Nat) : vb n ≠ [] := by
  by_cases h : n < 128
  · rw [vb_small h]; simp
  · rw [vb_large h]; simp
theorem vb_pos (n : Nat) : 0 < (vb n).length := List.length_pos_iff.2 (vb_ne n)

/-- A number's bytes are read as that number, whatever comes behind. -/
theorem vg_vb : ∀ (k n : Nat) (t : List UInt8), (0 < k → 0 < n) → k ≤ 8 → n < 128 ^ (9 - k) → vg (vb n ++ t) k = .ok n (vb n).length := by
  intro k n
  induction n using Nat.strongRecOn generalizing k with
  | _ n ih =>
    intro t h0 h8 hn
    by_cases h : n < 128
    · rw [vb_small h]
      have hc : (UInt8.ofNat n).toNat = n := by simp; omega
      simp only [List.singleton_append, vg, hc, h, if_true, List.length_singleton]
      rw [if_neg]
      rintro (⟨h1, h2⟩ | h1)
      · have := congrArg UInt8.toNat h1
        rw [hc] at this
        have := h0 h2
        simp at *
        omega
      · omega
    · rw [vb_large h]
      have hc : (UInt8.ofNat (128 + n % 128)).toNat = 128 + n % 128 := by simp; omega
      simp only [List.cons_append, vg, hc]
      have h7 : k ≤ 7 := by
        apply Classical.byContradiction
        intro hk
        have : k = 8 := by omega
        subst this
        simp at hn
        omega
      rw [if_neg, if_neg (by omega), ih (n / 128) (by omega) (k + 1) t (fun _ => by omega) (by omega) ?_]
      · simp only [Vr.more, List.length_cons, Vr.ok.injEq, and_true]
        omega
      · rw [show 9 - k = (9 - (k + 1)) + 1 by omega, Nat.pow_succ] at hn
        exact Nat.div_lt_of_lt_mul (by rw [Nat.mul_comm]; exact hn)
      · rintro (⟨h1, _⟩ | h1)
        · have := congrArg UInt8.toNat h1
          rw [hc] at this
          simp at this
        · omega
/-- What is read as a number are its bytes. -/
theorem vg_ok : ∀ (l : List UInt8) (k n m : Nat), vg l k = .ok n m → m ≤ l.length ∧ l.take m = vb n ∧ (0 < k → 0 < n) ∧ k ≤ 8 ∧ n < 128 ^ (9 - k) ∧ 0 < m
  | [], _, _, _, h => by simp [vg] at h
  | c :: t, k, n, m, h => by
    simp only [vg] at h
    split at h
    · simp at h
    · rename_i h1
      have hk : k ≤ 8 := by omega
      have hcl := c.toNat_lt
      split at h
      · rename_i h2
        simp only [Vr.ok.injEq] at h
        obtain ⟨rfl, rfl⟩ := h
        refine ⟨by simp, ?_, fun h0 => ?_, hk, ?_, by omega⟩
        · rw [vb_small h2]; simp
        · apply Classical.byContradiction
          intro hz
          have hz : c.toNat = 0 := by omega
          exact h1 (.inl ⟨UInt8.toNat_inj.1 (by simpa using hz), h0⟩)
        · exact Nat.lt_of_lt_of_le h2 (by rw [show 9 - k = (8 - k) + 1 by omega, Nat.pow_succ]; exact Nat.le_mul_of_pos_left _ (Nat.pow_pos (by omega)))
      · rename_i h2
        cases hr : vg t (k + 1) with
        | short => rw [hr] at h; simp [Vr.more] at h
        | form => rw [hr] at h; simp [Vr.more] at h
        | ok n' m' =>
          rw [hr] at h
          simp only [Vr.more, Vr.ok.injEq] at h
          obtain ⟨rfl, rfl⟩ := h
          obtain ⟨g1, g2, g3, g4, g5, g6⟩ := vg_ok t (k + 1) n' m' hr
          have hn' := g3 (by omega)
          refine ⟨by simp; omega, ?_, fun _ => by omega, hk, ?_, by omega⟩
          · rw [vb_large (by omega), List.take_succ_cons, g2]
            congr 1
            · apply UInt8.toNat_inj.1
              simp
              omega
            · congr 1
              omega
          · rw [show 9 - k = (9 - (k + 1)) + 1 by omega, Nat.pow_succ]
            omega
theorem vb_len_le {n : Nat} (h : n < 128 ^ 9) : (vb n).length ≤ 9 := by
  have : ∀ (k n : Nat), n < 128 ^ (k + 1) → (vb n).length ≤ k + 1 := by
    intro k
    induction k with
    | zero => intro n h; rw [vb_small (by simpa using h)]; simp
    | succ k ih =>
      intro n h
      by_cases h1 : n < 128
      · rw [vb_small h1]; simp
      · rw [vb_large h1, List.length_cons]
        have := ih (n / 128) (Nat.div_lt_of_lt_mul (by rw [Nat.mul_comm, ← Nat.pow_succ]; exact h))
        omega
  exact this 8 n h
theorem vb_inj {a b : Nat} (ha : a < 128 ^ 9) (hb : b < 128 ^ 9) {s t : List UInt8} (h : vb a ++ s = vb b ++ t) : a = b ∧ s = t := by
  have h1 := vg_vb 0 a s (by omega) (by omega) (by simpa using ha)
  have h2 := vg_vb 0 b t (by omega) (by omega) (by simpa using hb)
  rw [h, h2] at h1
  simp only [Vr.ok.injEq] at h1
  obtain ⟨rfl, _⟩ := h1
  exact ⟨rfl, List.append_cancel_left h⟩
end Go.Pl
/- Records, numbers, readers and writers: what the program's functions answer. -/
set_option linter.unusedVariables false
namespace Go.Proofs.Tryd
open Go Go.Ab Go.Pl

def cmdZ (c : Cmd) : Bool := c.kind == 0 && (c.client == 0 && (c.seq == 0 && (c.key.toList == [] && (c.val.toList == [] && (c.old.toList == [] && (c.node == 0 && true))))))
def rangesB (x : Rec) : Bool := !(hasBal x.kind && (!mayB x.round x.node || (x.round == 0 && x.node == 0))) && (!hasInd x.kind || (decide (1 ≤ x.index) && decide (x.index ≤ 4294967296)))
def othersB (x : Rec) : Bool := (!hasBal x.kind && !(x.round == 0 && x.node == 0)) || (!hasInd x.kind && !(x.index == 0)) || (!hasCmd x.kind && !cmdZ x.cmd) || ((x.kind == 4) != decide (0 < x.image.length))
/-- What is wrong with a record. -/
def recErr (x : Rec) : Int :=
  if !(hasBal x.kind || hasInd x.kind) then 5
  else if !rangesB x then 6
  else if x.kind == 4 && decide (32768 < x.image.length) then 2
  else if hasCmd x.kind && cmdErr x.cmd != 0 then cmdErr x.cmd
  else if othersB x then 3 else 0
def cmdSame (c d : Cmd) : Bool := c.kind == d.kind && (c.client == d.client && (c.seq == d.seq && (c.key.toList == d.key.toList && (c.val.toList == d.val.toList && (c.old.toList == d.old.toList && (c.node == d.node && true))))))
def recSame (x y : Rec) : Bool := x.kind == y.kind && (x.round == y.round && x.node == y.node) && x.index == y.index && cmdSame x.cmd y.cmd && x.image == y.image
def recLarge (x : Rec) : Bool := decide (x.cmd.key.size > 200) || decide (x.cmd.val.size > 200) || decide (x.cmd.old.size > 200) || (decide (x.image.length > 300) && decide (x.image.length < 32760)) || decide (x.image.length > 32780)
end Go.Proofs.Tryd
/- Runes: the reference's reading of a byte sequence, and the library's. -/
set_option linter.unusedVariables false
namespace Go.Pl
open Go

abbrev byt (s : ByteArray) (i : Nat) : Nat := (s.toList.getD i 0).toNat
theorem byt_lt (s : ByteArray) (i : Nat) : byt s i < 256 := (s.toList.getD i 0).toNat_lt
/-- The bytes behind a first one. -/
def contR (s : ByteArray) (i : Nat) : Nat → Nat → Int → Option Int
  | 0, _, v => some v
  | n + 1, k, v => if 128 ≤ byt s (i + k) ∧ byt s (i + k) ≤ 191 then contR s i n (k + 1) (64 * v + byt s (i + k) - 128) else none
def sizeC (s : ByteArray) (i n : Nat) (low v : Int) : Int × Int :=
  if i + n > s.size then (0, 0) else
  match contR s i (n - 1) 1 v with
  | none => (0, 0)
  | some v => if v < low ∨ v > 1114111 ∨ (55296 ≤ v ∧ v ≤ 57343) then (0, 0) else (n, v)
/-- ref05.Size -/
def sizeR (s : ByteArray) (i : Nat) : Int × Int :=
  if byt s i < 128 then (1, byt s i)
  else if 194 ≤ byt s i ∧ byt s i ≤ 223 then sizeC s i 2 128 (byt s i - 192)
  else if 224 ≤ byt s i ∧ byt s i ≤ 239 then sizeC s i 3 2048 (byt s i - 224)
  else if 240 ≤ byt s i ∧ byt s i ≤ 244 then sizeC s i 4 65536 (byt s i - 240)
  else (0, 0)

theorem get_eq (s : ByteArray) (i : Nat) : (s.get! i).toNat = byt s i := by
  unfold byt
  rw [ByteArray.toList_eq]
  simp only [ByteArray.get!, List.getD_eq_getElem?_getD, Array.getElem?_toList]
  rw [getElem!_def]
  cases s.data[i]? <;> rfl

theorem valid_eq (r : Nat) : Utf8.valid (r : Int) = (decide (r < 55296) || (decide (57344 ≤ r) && decide (r ≤ 1114111))) := by
  unfold Utf8.valid
  rw [Bool.eq_iff_iff]
  simp
  omega
def post (p : Nat × Nat) : Int × Int := if (p.1 == 65533 && p.2 == 1) then (0, 0) else (p.2, p.1)
def sz2 (s : ByteArray) (i : Nat) : Int × Int := post (Utf8.decode s i)
/-- The library's reading, out of four bytes. -/
def dec4 (c d e f i z : Nat) : Nat × Nat :=
  if c < 128 then (c, 1)
  else if c / 32 = 6 ∧ i + 1 < z ∧ d / 64 = 2 then
    if c % 32 * 64 + d % 64 ≥ 128 then (c % 32 * 64 + d % 64, 2) else (65533, 1)
  else if c / 16 = 14 ∧ (i + 1 < z ∧ d / 64 = 2) ∧ i + 2 < z ∧ e / 64 = 2 then
    if c % 16 * 4096 + d % 64 * 64 + e % 64 ≥ 2048 ∧ (c % 16 * 4096 + d % 64 * 64 + e % 64 < 55296 ∨ (57344 ≤ c % 16 * 4096 + d % 64 * 64 + e % 64 ∧ c % 16 * 4096 + d % 64 * 64 + e % 64 ≤ 1114111)) then (c % 16 * 4096 + d % 64 * 64 + e % 64, 3) else (65533, 1)
  else if c / 8 = 30 ∧ (i + 1 < z ∧ d / 64 = 2) ∧ (i + 2 < z ∧ e / 64 = 2) ∧ i + 3 < z ∧ f / 64 = 2 then
    if c % 8 * 262144 + d % 64 * 4096 + e % 64 * 64 + f % 64 ≥ 65536 ∧ (c % 8 * 262144 + d % 64 * 4096 + e % 64 * 64 + f % 64 < 55296 ∨ (57344 ≤ c % 8 * 262144 + d % 64 * 4096 + e % 64 * 64 + f % 64 ∧ c % 8 * 262144 + d % 64 * 4096 + e % 64 * 64 + f % 64 ≤ 1114111)) then (c % 8 * 262144 + d % 64 * 4096 + e % 64 * 64 + f % 64, 4) else (65533, 1)
  else (65533, 1)
set_option maxRecDepth 20000 in
theorem decode4 (s : ByteArray) (i : Nat) : Utf8.decode s i = dec4 (byt s i) (byt s (i + 1)) (byt s (i + 2)) (byt s (i + 3)) i s.size := by
  unfold Utf8.decode dec4
  simp only [get_eq, Nat.add_zero, Utf8.runeError, valid_eq, Bool.and_eq_true, Bool.or_eq_true, decide_eq_true_eq, beq_iff_eq, and_assoc]
theorem post_no : post (65533, 1) = (0, 0) := rfl
theorem post_ok {a w : Nat} (h : w ≠ 1 ∨ a ≠ 65533) : post (a, w) = ((w : Int), (a : Int)) := by
  unfold post
  rw [if_neg]
  simp
  omega
set_option maxRecDepth 20000 in
/-- The two readings tell the same. -/
theorem sizeR_decode (s : ByteArray) (i : Nat) (h : i < s.size) : sizeR s i = sz2 s i := by
  unfold sizeR sz2
  rw [decode4]
  simp only [sizeC, contR]
  have b0 := byt_lt s i
  have b1 := byt_lt s (i + 1)
  have b2 := byt_lt s (i + 2)
  have b3 := byt_lt s (i + 3)
  generalize byt s i = c at *
  generalize byt s (i + 1) = d at *
  generalize byt s (i + 2) = e at *
  generalize byt s (i + 3) = f at *
  generalize s.size = z at *
  rcases (show c < 128 ∨ (128 ≤ c ∧ c < 192) ∨ (192 ≤ c ∧ c < 194) ∨ (194 ≤ c ∧ c < 224) ∨ (224 ≤ c ∧ c < 240) ∨ (240 ≤ c ∧ c < 245) ∨ 245 ≤ c by omega) with h1 | h1 | h1 | h1 | h1 | h1 | h1
  · rw [show dec4 c d e f i z = (c, 1) from if_pos h1, if_pos h1, post_ok (by omega)]; rfl
  · have : dec4 c d e f i z = (65533, 1) := by
      unfold dec4
      rw [if_neg (by omega), if_neg (by omega), if_neg (by omega), if_neg (by omega)]
    rw [this, post_no, if_neg (by omega), if_neg (by omega), if_neg (by omega), if_neg (by omega)]
  · have : dec4 c d e f i z = (65533, 1) := by
      unfold dec4
      rw [if_neg (by omega), if_neg (c := c / 16 = 14 ∧ _) (by omega), if_neg (c := c / 8 = 30 ∧ _) (by omega)]
      split
      · rw [if_neg (by omega)]
      · rfl
    rw [this, post_no, if_neg (by omega), if_neg (by omega), if_neg (by omega), if_neg (by omega)]
  · have e0 : dec4 c d e f i z = if i + 1 < z ∧ d / 64 = 2 then (c % 32 * 64 + d % 64, 2) else (65533, 1) := by
      unfold dec4
      rw [if_neg (by omega), if_neg (c := c / 16 = 14 ∧ _) (by omega), if_neg (c := c / 8 = 30 ∧ _) (by omega)]
      by_cases hd : i + 1 < z ∧ d / 64 = 2
      · rw [if_pos hd, if_pos ⟨by omega, hd⟩, if_pos (by omega)]
      · rw [if_neg hd, if_neg fun h => hd h.2]
    rw [e0, if_neg (by omega), if_pos (by omega)]
    by_cases hz : i + 1 < z
    · rw [if_neg (c := i + 2 > z) (by omega)]
      by_cases hd : d / 64 = 2
      · rw [if_pos (show 128 ≤ d ∧ d ≤ 191 by omega), if_pos ⟨hz, hd⟩, post_ok (by omega)]
        simp only []
        rw [if_neg (by omega)]
        simp only [Prod.mk.injEq, true_and]

        omega
      · rw [if_neg (show ¬ (128 ≤ d ∧ d ≤ 191) by omega), if_neg (fun h => hd h.2), post_no]
    · rw [if_pos (by omega), if_neg (fun h => hz h.1), post_no]
  · have e0 : dec4 c d e f i z = if (i + 1 < z ∧ d / 64 = 2) ∧ i + 2 < z ∧ e / 64 = 2 then
        if c % 16 * 4096 + d % 64 * 64 + e % 64 ≥ 2048 ∧ (c % 16 * 4096 + d % 64 * 64 + e % 64 < 55296 ∨ (57344 ≤ c % 16 * 4096 + d % 64 * 64 + e % 64 ∧ c % 16 * 4096 + d % 64 * 64 + e % 64 ≤ 1114111)) then (c % 16 * 4096 + d % 64 * 64 + e % 64, 3) else (65533, 1)
        else (65533, 1) := by
      unfold dec4
      rw [if_neg (by omega), if_neg (c := c / 32 = 6 ∧ _) (by omega), if_neg (c := c / 8 = 30 ∧ _) (by omega)]
      by_cases hd : (i + 1 < z ∧ d / 64 = 2) ∧ i + 2 < z ∧ e / 64 = 2
      · rw [if_pos hd, if_pos ⟨by omega, hd⟩]
      · rw [if_neg hd, if_neg fun h => hd h.2]
    rw [e0, if_neg (by omega), if_neg (by omega), if_pos (by omega)]
    by_cases hz : i + 2 < z
    · rw [if_neg (c := i + 3 > z) (by omega)]
      by_cases hd : d / 64 = 2
      · rw [if_pos (show 128 ≤ d ∧ d ≤ 191 by omega)]
        by_cases he : e / 64 = 2
        · rw [if_pos (show 128 ≤ e ∧ e ≤ 191 by omega), if_pos ⟨⟨by omega, hd⟩, hz, he⟩]
          simp only []
          by_cases hv : c % 16 * 4096 + d % 64 * 64 + e % 64 ≥ 2048 ∧ (c % 16 * 4096 + d % 64 * 64 + e % 64 < 55296 ∨ (57344 ≤ c % 16 * 4096 + d % 64 * 64 + e % 64 ∧ c % 16 * 4096 + d % 64 * 64 + e % 64 ≤ 1114111))
          · rw [if_pos hv, post_ok (by omega), if_neg (by omega)]
            simp only [Prod.mk.injEq, true_and]
            omega
          · rw [if_neg hv, post_no, if_pos (by omega)]
        · rw [if_neg (show ¬ (128 ≤ e ∧ e ≤ 191) by omega), if_neg (fun h => he h.2.2), post_no]
      · rw [if_neg (show ¬ (128 ≤ d ∧ d ≤ 191) by omega), if_neg (fun h => hd h.1.2), post_no]
    · rw [if_pos (by omega), if_neg (fun h => hz h.2.1), post_no]
  · have e0 : dec4 c d e f i z = if (i + 1 < z ∧ d / 64 = 2) ∧ (i + 2 < z ∧ e / 64 = 2) ∧ i + 3 < z ∧ f / 64 = 2 then
        if c % 8 * 262144 + d % 64 * 4096 + e % 64 * 64 + f % 64 ≥ 65536 ∧ (c % 8 * 262144 + d % 64 * 4096 + e % 64 * 64 + f % 64 < 55296 ∨ (57344 ≤ c % 8 * 262144 + d % 64 * 4096 + e % 64 * 64 + f % 64 ∧ c % 8 * 262144 + d % 64 * 4096 + e % 64 * 64 + f % 64 ≤ 1114111)) then (c % 8 * 262144 + d % 64 * 4096 + e % 64 * 64 + f % 64, 4) else (65533, 1)
        else (65533, 1) := by
      unfold dec4
      rw [if_neg (by omega), if_neg (c := c / 32 = 6 ∧ _) (by omega), if_neg (c := c / 16 = 14 ∧ _) (by omega)]
      by_cases hd : (i + 1 < z ∧ d / 64 = 2) ∧ (i + 2 < z ∧ e / 64 = 2) ∧ i + 3 < z ∧ f / 64 = 2
      · rw [if_pos hd, if_pos ⟨by omega, hd⟩]
      · rw [if_neg hd, if_neg fun h => hd h.2]
    rw [e0, if_neg (by omega), if_neg (by omega), if_neg (by omega), if_pos (by omega)]
    by_cases hz : i + 3 < z
    · rw [if_neg (c := i + 4 > z) (by omega)]
      by_cases hd : d / 64 = 2
      · rw [if_pos (show 128 ≤ d ∧ d ≤ 191 by omega)]
        by_cases he : e / 64 = 2
        · rw [if_pos (show 128 ≤ e ∧ e ≤ 191 by omega)]
          by_cases hf : f / 64 = 2
          · rw [if_pos (show 128 ≤ f ∧ f ≤ 191 by omega), if_pos ⟨⟨by omega, hd⟩, ⟨by omega, he⟩, hz, hf⟩]
            simp only []
            by_cases hv : c % 8 * 262144 + d % 64 * 4096 + e % 64 * 64 + f % 64 ≥ 65536 ∧ (c % 8 * 262144 + d % 64 * 4096 + e % 64 * 64 + f % 64 < 55296 ∨ (57344 ≤ c % 8 * 262144 + d % 64 * 4096 + e % 64 * 64 + f % 64 ∧ c % 8 * 262144 + d % 64 * 4096 + e % 64 * 64 + f % 64 ≤ 1114111))
            · rw [if_pos hv, post_ok (by omega), if_neg (by omega)]
              simp only [Prod.mk.injEq, true_and]
              omega
            · rw [if_neg hv, post_no, if_pos (by omega)]
          · rw [if_neg (show ¬ (128 ≤ f ∧ f ≤ 191) by omega), if_neg (fun h => hf h.2.2.2), post_no]
        · rw [if_neg (show ¬ (128 ≤ e ∧ e ≤ 191) by omega), if_neg (fun h => he h.2.1.2), post_no]
      · rw [if_neg (show ¬ (128 ≤ d ∧ d ≤ 191) by omega), if_neg (fun h => hd h.1.2), post_no]
    · rw [if_pos (by omega), if_neg (fun h => hz h.2.2.1), post_no]
  · have : dec4 c d e f i z = (65533, 1) := by
      unfold dec4
      rw [if_neg (by omega), if_neg (c := c / 32 = 6 ∧ _) (by omega), if_neg (c := c / 16 = 14 ∧ _) (by omega)]
      split
      · rw [if_neg (by omega)]
      · rfl
    rw [this, post_no, if_neg (by omega), if_neg (by omega), if_neg (by omega), if_neg (by omega)]
end Go.Pl
/- Texts: the reference's laws over them. -/
set_option linter.unusedVariables false
namespace Go.Proofs.Tryd
open Go Go.Ab Go.Pl

theorem sz2_first (s : ByteArray) (p : Nat) : (sz2 s p).1 = if bad s p then 0 else ((Utf8.decode s p).2 : Int) := by
  unfold sz2 post bad
  split <;> simp_all
theorem sz2_second (s : ByteArray) (p : Nat) (h : bad s p = false) : (sz2 s p).2 = ((Utf8.decode s p).1 : Int) := by
  unfold sz2 post
  unfold bad at h
  rw [h]
  simp
theorem sz2_zero (s : ByteArray) (p : Nat) : ((sz2 s p).1 == 0) = bad s p := by
  rw [sz2_first]
  have := dec_width s p
  cases h : bad s p with
  | true => simp
  | false => simp; omega
theorem sz_next {s : ByteArray} {p : Nat} (hz : s.size ≤ 1000000000) (hp : p < s.size) (hb : bad s p = false) : IntKind.i64.wrap ((p : Int) + (sz2 s p).1) = ((p + (Utf8.decode s p).2 : Nat) : Int) := by
  have := dec_width s p
  rw [sz2_first, hb]
  simp only [Bool.false_eq_true, if_false]
  rw [IntWalk.i64_in _ (by omega)]
  simp

/-- Are the bytes from a place on fit for a value? -/
def okB (s : ByteArray) : Nat → Nat → Bool
  | 0, _ => true
  | n + 1, p => if p < s.size then (if byt s p < 32 ∨ byt s p = 127 then false else okB s n (p + 1)) else true
theorem okB_more (s : ByteArray) : ∀ (n m p : Nat), s.size - p ≤ n → n ≤ m → okB s m p = okB s n p
  | 0, 0, p, _, _ => rfl
  | 0, m + 1, p, h, _ => by
    have : ¬ p < s.size := by omega
    simp [okB, this]
  | n + 1, 0, p, _, h => by omega
  | n + 1, m + 1, p, h, h' => by
    simp only [okB]
    split
    · split
      · rfl
      · exact okB_more s n m _ (by omega) (by omega)
    · rfl
theorem okB_step (s : ByteArray) (p : Nat) (h : p < s.size) : okB s (s.size - p) p = if byt s p < 32 ∨ byt s p = 127 then false else okB s (s.size - (p + 1)) (p + 1) := by
  obtain ⟨n, hn⟩ : ∃ n, s.size - p = n + 1 := ⟨s.size - p - 1, by omega⟩
  rw [hn]
  simp only [okB, h, if_true]
  split
  · rfl
  · exact okB_more s _ n _ (Nat.le_refl _) (by omega)
theorem okB_end (s : ByteArray) (p n : Nat) (h : ¬ p < s.size) : okB s n p = true := by cases n <;> simp [okB, h]
theorem okB_high (s : ByteArray) (p : Nat) (h : 128 ≤ byt s p) : okB s (s.size - p) p = okB s (s.size - (p + 1)) (p + 1) := by
  by_cases hp : p < s.size
  · rw [okB_step s p hp, if_neg (by omega)]
  · rw [okB_end _ _ _ hp, okB_end _ _ _ (by omega)]
/-- What a rune's bytes are. -/
theorem dec_cases (s : ByteArray) (p : Nat) (hb : bad s p = false) : ((Utf8.decode s p).2 = 1 ∧ (Utf8.decode s p).1 = byt s p ∧ byt s p < 128) ∨
    (128 ≤ (Utf8.decode s p).1 ∧ 128 ≤ byt s p ∧ ((Utf8.decode s p).2 = 2 ∨ (Utf8.decode s p).2 = 3 ∨ (Utf8.decode s p).2 = 4) ∧ ∀ k, 1 ≤ k → k < (Utf8.decode s p).2 → 128 ≤ byt s (p + k)) := by
  unfold bad at hb
  rw [decode4] at hb ⊢
  generalize hD : dec4 (byt s p) (byt s (p + 1)) (byt s (p + 2)) (byt s (p + 3)) p s.size = D at hb ⊢
  unfold dec4 at hD
  split at hD
  · subst hD; exact .inl ⟨rfl, rfl, by assumption⟩
  · right
    split at hD
    · split at hD
      · subst hD
        refine ⟨by dsimp only; omega, by omega, .inl rfl, fun k h1 h2 => ?_⟩
        obtain rfl : k = 1 := by dsimp only at h2; omega
        omega
      · subst hD; simp at hb
    · split at hD
      · split at hD
        · subst hD
          refine ⟨by dsimp only; omega, by omega, .inr (.inl rfl), fun k h1 h2 => ?_⟩
          rcases (show k = 1 ∨ k = 2 by dsimp only at h2; omega) with rfl | rfl <;> omega
        · subst hD; simp at hb
      · split at hD
        · split at hD
          · subst hD
            refine ⟨by dsimp only; omega, by omega, .inr (.inr rfl), fun k h1 h2 => ?_⟩
            rcases (show k = 1 ∨ k = 2 ∨ k = 3 by dsimp only at h2; omega) with rfl | rfl | rfl <;> omega
          · subst hD; simp at hb
        · subst hD; simp at hb
/-- Over one rune. -/
theorem okB_rune (s : ByteArray) (p : Nat) (hp : p < s.size) (hb : bad s p = false) : okB s (s.size - p) p = if valR (Utf8.decode s p).1 then okB s (s.size - (p + (Utf8.decode s p).2)) (p + (Utf8.decode s p).2) else false := by
  rcases dec_cases s p hb with ⟨h1, h2, h3⟩ | ⟨h1, h2, h3, h4⟩
  · rw [okB_step s p hp, h1, h2]
    by_cases h : byt s p < 32 ∨ byt s p = 127
    · have : valR (byt s p) = false := by simp [valR]; omega
      rw [if_pos h, this]; rfl
    · have : valR (byt s p) = true := by simp [valR]; omega
      rw [if_neg h, this]; rfl
  · have hv : valR (Utf8.decode s p).1 = true := by simp [valR]; omega
    rw [hv, if_pos rfl, okB_high s p h2]
    rcases h3 with h3 | h3 | h3 <;> rw [h3] at h4 ⊢
    · rw [okB_high s (p + 1) (h4 1 (by omega) (by omega))]
    · rw [okB_high s (p + 1) (h4 1 (by omega) (by omega)), okB_high s (p + 1 + 1) (h4 2 (by omega) (by omega))]
    · rw [okB_high s (p + 1) (h4 1 (by omega) (by omega)), okB_high s (p + 1 + 1) (h4 2 (by omega) (by omega)), okB_high s (p + 1 + 1 + 1) (h4 3 (by omega) (by omega))]
theorem okB_all (s : ByteArray) : ∀ (n p : Nat), s.size - p ≤ n → badFrom s (s.size - p) p < 0 → allFrom valR s (s.size - p) p = okB s (s.size - p) p := by
  intro n
  induction n with
  | zero => intro p h _; rw [allFrom_end _ _ _ _ (by omega), okB_end _ _ _ (by omega)]
  | succ n ih =>
    intro p h hb
    by_cases hp : p < s.size
    · rw [badFrom_step s p hp] at hb
      cases hbad : bad s p with
      | true => rw [hbad] at hb; simp at hb; omega
      | false =>
        rw [hbad] at hb
        have := dec_width s p
        rw [allFrom_step _ s p hp, okB_rune s p hp hbad]
        split
        · exact ih _ (by omega) (by simpa using hb)
        · rfl
    · rw [allFrom_end _ _ _ _ hp, okB_end _ _ _ hp]
theorem valT_ok (s : ByteArray) : valT s = (decide (s.size ≤ 48) && decide (badAt s < 0) && okB s s.size 0) := by
  unfold valT allR badAt
  by_cases h : badFrom s s.size 0 < 0
  · have := okB_all s s.size 0 (by omega) (by simpa using h)
    simp only [Nat.sub_zero] at this
    rw [this]
  · simp [h]
/-- No byte is bad, and all runes are so. -/
def okK (q : Int → Bool) (s : ByteArray) (n p : Nat) : Bool := decide (badFrom s n p < 0) && allFrom q s n p
theorem okK_step (q : Int → Bool) (s : ByteArray) (p : Nat) (h : p < s.size) : okK q s (s.size - p) p = if bad s p || !q (Utf8.decode s p).1 then false else okK q s (s.size - (p + (Utf8.decode s p).2)) (p + (Utf8.decode s p).2) := by
  unfold okK
  rw [badFrom_step s p h, allFrom_step q s p h]
  cases bad s p <;> cases q (Utf8.decode s p).1 <;> simp
  omega
theorem okK_end (q : Int → Bool) (s : ByteArray) (p n : Nat) (h : ¬ p < s.size) : okK q s n p = true := by
  unfold okK
  rw [badFrom_end _ _ _ h, allFrom_end _ _ _ _ h]
  rfl

/-- The letters that the reference lists. -/
def plainL : List UInt8 := [97, 98, 99, 100, 101, 102, 103, 104, 105, 106, 107, 108, 109, 110, 111, 112, 113, 114, 115, 116, 117, 118, 119, 120, 121, 122, 65, 66, 67, 68, 69, 70, 71, 72, 73, 74, 75, 76, 77, 78, 79, 80, 81, 82, 83, 84, 85, 86, 87, 88, 89, 90, 48, 49, 50, 51, 52, 53, 54, 55, 56, 57, 45, 95, 46, 58]
abbrev plainS : ByteArray := ⟨plainL.toArray⟩
def among (r : Int) (l : List UInt8) : Bool := l.any fun b => (b.toNat : Int) == r
theorem plain_among (r : Int) : (among r plainL || (decide (r ≥ 161) && r != 65533)) = plainR r := by
  unfold among plainL plainR
  rw [Bool.eq_iff_iff]
  simp
  omega
theorem plainS_byte (i : Nat) (h : i < 66) : byt plainS i = (plainL.getD i 0).toNat := by
  unfold byt plainS
  rw [ByteArray.toList_eq]
theorem among_step (r : Int) (i : Nat) (h : i < 66) : among r (plainL.drop i) = (((plainL.getD i 0).toNat : Int) == r || among r (plainL.drop (i + 1))) := by
  have hl : i < plainL.length := by simpa [plainL] using h
  rw [List.drop_eq_getElem_cons hl]
  unfold among
  rw [List.any_cons]
  simp only [List.getD_eq_getElem?_getD, List.getElem?_eq_getElem hl, Option.getD_some]
end Go.Proofs.Tryd
set_option maxRecDepth 100000
set_option maxHeartbeats 4000000
set_option linter.unusedVariables false
set_option linter.unusedSimpArgs false
namespace Go.Proofs.Tryd
open Go Go.Ab Go.Pl Go.RowKit Go.Proofs.YtmecehpkjffanaaDoor
attribute [local irreducible] Go.Ab.wp Go.Ab.vc Go.Ab.run Go.Ab.runFn Go.Ab.body1 Go.Ab.Tr.qt Go.Ab.Tr.qf Go.Ab.AEv
theorem byt_lt' (s : ByteArray) (i : Nat) : ((s.toList.getD i 0).toNat : Int) < 256 := by have := byt_lt s i; unfold byt at this; omega
theorem contR_last {s : ByteArray} {i m k : Nat} {v : Int} {R : Option Int} (hi : contR s i m k v = R) (h : m = 0) : R = some v := by subst h; exact hi.symm
theorem contR_step {s : ByteArray} {i m k : Nat} {v : Int} {R : Option Int} (hi : contR s i (m + 1) k v = R) : R = if 128 ≤ byt s (i + k) ∧ byt s (i + k) ≤ 191 then contR s i m (k + 1) (64 * v + byt s (i + k) - 128) else none := hi.symm
def vmax (k : Nat) : Int := if k = 1 then 32 else if k = 2 then 2048 else if k = 3 then 131072 else 8388608
theorem vmax_step {k : Nat} {v : Int} {b : Int} (h1 : 1 ≤ k) (h3 : k ≤ 3) (hv : v < vmax k) (hb : b ≤ 191) : 64 * v + b - 128 < vmax (k + 1) := by
  unfold vmax at hv ⊢
  rcases (show k = 1 ∨ k = 2 ∨ k = 3 by omega) with rfl | rfl | rfl <;> simp at hv ⊢ <;> omega
theorem size_go {s : ByteArray} {i n k : Nat} {v : Int} {R : Option Int} (hi : contR s i (n - k) k v = R ∧ 1 ≤ k ∧ k ≤ n ∧ n ≤ 4 ∧ i + n ≤ s.size ∧ 0 ≤ v ∧ v < vmax k) (hz : s.size ≤ 1000000000) (h0 : decide ((k : Int) < (n : Int)) = true) :
    IntKind.i64.wrap ((i : Int) + (k : Int)) = ((i + k : Nat) : Int) ∧ i + k < s.size ∧ IntKind.i64.wrap ((k : Int) + 1) = ((k + 1 : Nat) : Int) ∧
      IntKind.i64.wrap ((byt s (i + k) : Nat) : Int) = byt s (i + k) ∧
      IntKind.i64.wrap (IntKind.i64.wrap (IntKind.i64.wrap (64 * v) + (byt s (i + k) : Nat)) - 128) = 64 * v + (byt s (i + k) : Nat) - 128 := by
  obtain ⟨h1, h2, h3, h4, h5, h6, h7⟩ := hi
  have h0 := of_decide_eq_true h0
  have hb := byt_lt s (i + k)
  have hv : v < 8388608 := by unfold vmax at h7; split at h7 <;> (try split at h7) <;> (try split at h7) <;> omega
  generalize byt s (i + k) = b at *
  refine ⟨by rw [IntWalk.i64_in _ (by omega)]; omega, by omega, by rw [IntWalk.i64_in _ (by omega)]; omega, by rw [IntWalk.i64_in _ (by omega)], ?_⟩
  rw [IntWalk.i64_in (64 * v) (by omega), IntWalk.i64_in (64 * v + _) (by omega), IntWalk.i64_in _ (by omega)]
def l_ref05_Size_0_W : List Nat := others 92 [0, 1, 4, 5, 7, 8, 9, 10]
theorem l_ref05_Size_0 {w0 : World} (s : ByteArray) (i n : Nat) (low : Int) (R : Option Int) (hz : s.size ≤ 1000000000) (k : Nat) (v : Int) (hi : contR s i (n - k) k v = R ∧ 1 ≤ k ∧ k ≤ n ∧ n ≤ 4 ∧ i + n ≤ s.size ∧ 0 ≤ v ∧ v < vmax k) : ACode Tryd.prog w0 0 (.loop (nthLoop Tryd.f156 0)) (⟨mkEnv 92 [(0, .d (.str s)), (1, .d (.int .i64 i)), (4, .d (.int .i64 0)), (5, .d (.int .i64 0)), (7, .d (.int .i64 n)), (8, .d (.int .i64 low)), (9, .d (.int .i64 v)), (10, .d (.int .i64 k))], []⟩) (fun e s' => (∃ v' : Int, R = some v' ∧ e = .exit 1 ∧ s' = ⟨mkEnv 92 [(0, .d (.str s)), (1, .d (.int .i64 i)), (4, .d (.int .i64 0)), (5, .d (.int .i64 0)), (7, .d (.int .i64 n)), (8, .d (.int .i64 low)), (9, .d (.int .i64 v')), (10, .d (.int .i64 n))], []⟩) ∨ (∃ (k' : Nat) (v' : Int), R = none ∧ e = .ret ∧ s' = ⟨mkEnv 92 [(0, .d (.str s)), (1, .d (.int .i64 i)), (4, .d (.int .i64 0)), (5, .d (.int .i64 0)), (7, .d (.int .i64 n)), (8, .d (.int .i64 low)), (9, .d (.int .i64 v')), (10, .d (.int .i64 k'))], []⟩)) := by
  refine Go.Ab.acode_loop (s1 := ⟨mkEnv 92 [(0, .d (.str s)), (1, .d (.int .i64 i)), (4, .d (.int .i64 0)), (5, .d (.int .i64 0)), (7, .d (.int .i64 n)), (8, .d (.int .i64 low)), (9, .d (.int .i64 v)), (10, .d (.int .i64 k))], []⟩) (n := n - k) hmix [] (fun zm zs => ∃ (k : Nat) (v : Int), zm = n - k ∧ (contR s i (n - k) k v = R ∧ 1 ≤ k ∧ k ≤ n ∧ n ≤ 4 ∧ i + n ≤ s.size ∧ 0 ≤ v ∧ v < vmax k) ∧ zs = ⟨mkEnv 92 [(0, .d (.str s)), (1, .d (.int .i64 i)), (4, .d (.int .i64 0)), (5, .d (.int .i64 0)), (7, .d (.int .i64 n)), (8, .d (.int .i64 low)), (9, .d (.int .i64 v)), (10, .d (.int .i64 k))], []⟩) (Weak.refl _) ⟨k, v, rfl, hi, rfl⟩ ?_
  clear hi
  rintro zm zs ⟨k, v, rfl, hi, rfl⟩
  refine Go.Ab.wp_rd l_ref05_Size_0_W (.q (decide ((↑k : Int) < (↑n : Int))) (.chk (decide (0 ≤ IntKind.i64.wrap ((↑i : Int) + (↑k : Int)) ∧ IntKind.i64.wrap ((↑i : Int) + (↑k : Int)) < (↑s.size : Int))) (.q (decide (IntKind.i64.wrap (↑(s.toList.getD (IntKind.i64.wrap ((↑i : Int) + (↑k : Int))).toNat 0).toNat : Int) < 128)) (.qs [true, true] (.ret (Ex.ret, true, ⟨mkEnv 92 [(0, A.d (D.str s)), (1, A.d (D.int IntKind.i64 (↑i : Int))), (4, A.d (D.int IntKind.i64 0)), (5, A.d (D.int IntKind.i64 0)), (7, A.d (D.int IntKind.i64 (↑n : Int))), (8, A.d (D.int IntKind.i64 low)), (9, A.d (D.int IntKind.i64 v)), (10, A.d (D.int IntKind.i64 (↑k : Int)))], []⟩))) (.qs [false] (.q (decide (IntKind.i64.wrap (↑(s.toList.getD (IntKind.i64.wrap ((↑i : Int) + (↑k : Int))).toNat 0).toNat : Int) > 191)) (.ret (Ex.ret, true, ⟨mkEnv 92 [(0, A.d (D.str s)), (1, A.d (D.int IntKind.i64 (↑i : Int))), (4, A.d (D.int IntKind.i64 0)), (5, A.d (D.int IntKind.i64 0)), (7, A.d (D.int IntKind.i64 (↑n : Int))), (8, A.d (D.int IntKind.i64 low)), (9, A.d (D.int IntKind.i64 v)), (10, A.d (D.int IntKind.i64 (↑k : Int)))], []⟩)) (.ret (Ex.normal, true, ⟨mkEnv 92 [(0, A.d (D.str s)), (1, A.d (D.int IntKind.i64 (↑i : Int))), (4, A.d (D.int IntKind.i64 0)), (5, A.d (D.int IntKind.i64 0)), (7, A.d (D.int IntKind.i64 (↑n : Int))), (8, A.d (D.int IntKind.i64 low)), (9, A.d (D.int IntKind.i64 (IntKind.i64.wrap (IntKind.i64.wrap (IntKind.i64.wrap (64 * v) + IntKind.i64.wrap (↑(s.toList.getD (IntKind.i64.wrap ((↑i : Int) + (↑k : Int))).toNat 0).toNat : Int)) - 128)))), (10, A.d (D.int IntKind.i64 (IntKind.i64.wrap ((↑k : Int) + 1))))], []⟩)))))) (.ret (Ex.exit 1, true, ⟨mkEnv 92 [(0, A.d (D.str s)), (1, A.d (D.int IntKind.i64 (↑i : Int))), (4, A.d (D.int IntKind.i64 0)), (5, A.d (D.int IntKind.i64 0)), (7, A.d (D.int IntKind.i64 (↑n : Int))), (8, A.d (D.int IntKind.i64 low)), (9, A.d (D.int IntKind.i64 v)), (10, A.d (D.int IntKind.i64 (↑k : Int)))], []⟩))) (by kernel_rfl) (Go.Ab.vc_q (fun h0 => Go.Ab.vc_chk (by obtain ⟨e1, e2, e3, e4, e5⟩ := size_go hi hz h0; rw [e1]; simp; omega) (Go.Ab.vc_q (fun h1 => Go.Ab.vc_qs (Go.Ab.vc_back ?x5)) (fun h1 => Go.Ab.vc_qs (Go.Ab.vc_q (fun h2 => Go.Ab.vc_back ?x8) (fun h2 => Go.Ab.vc_next ?_))))) (fun h0 => Go.Ab.vc_exit ?x10))
  case x5 | x8 | x10 => first | (have hh := of_decide_eq_false h0; have hk : k = n := (by have := hi.2.2.1; omega); subst hk; exact .inl ⟨v, contR_last hi.1 (by omega), rfl, rfl⟩) | (have h0' := of_decide_eq_true h0; obtain ⟨e1, e2, e3, e4, e5⟩ := size_go hi hz h0; obtain ⟨hi, q1, q2, q3, q4, q5, q6⟩ := hi; rw [show n - k = (n - (k + 1)) + 1 by omega] at hi; have hi := contR_step hi; rw [if_neg ?_] at hi; exact .inr ⟨k, v, hi, rfl, rfl⟩; simp only [e1, e4, Int.toNat_natCast, decide_eq_true_eq] at *; unfold byt at *; omega)
  all_goals ((have h0' := of_decide_eq_true h0; obtain ⟨e1, e2, e3, e4, e5⟩ := size_go hi hz h0; obtain ⟨hi, q1, q2, q3, q4, q5, q6⟩ := hi; simp only [e1, e3, e4, e5, Int.toNat_natCast, decide_eq_false_iff_not] at h1 h2 ⊢; unfold byt at *; rw [show n - k = (n - (k + 1)) + 1 by omega] at hi; have hi := contR_step hi; have hb := byt_lt s (i + k); unfold byt at *; rw [if_pos (by omega)] at hi; refine ⟨n - (k + 1), by omega, k + 1, _, rfl, ⟨hi.symm, by omega, by omega, q3, q4, by omega, vmax_step q1 (by omega) q6 (by omega)⟩, rfl⟩))
theorem w64 {n : Int} (h : -9223372036854775808 ≤ n ∧ n ≤ 9223372036854775807) : IntKind.i64.wrap n = n := IntWalk.i64_in n h
theorem size_c (s : ByteArray) (i : Nat) : IntKind.i64.wrap ((s.toList.getD ((i : Int)).toNat 0).toNat : Int) = (byt s i : Int) := by
  have := byt_lt s i
  rw [Int.toNat_natCast]
  exact w64 (by unfold byt at this; omega)
theorem c_ref05_Size {w0 : World} (s : ByteArray) (i : Nat) (hz : s.size ≤ 1000000000) (h : i < s.size) : AEv Tryd.prog w0 156 [.d (.str s), .d (.int .i64 i)] [] (.tup [.d (.int .i64 (sz2 s i).1), .d (.int .i64 (sz2 s i).2)]) [] := by
  refine aev_of_run hmix Tryd.func156 [] 1 ?_
  refine Go.Ab.wp_fn (.chk (decide (0 ≤ (↑i : Int) ∧ (↑i : Int) < (↑s.size : Int))) (.q (decide (IntKind.i64.wrap (↑(s.toList.getD (↑i : Int).toNat 0).toNat : Int) < 128)) (.ret (A.tup [A.d (D.int IntKind.i64 1), A.d (D.int IntKind.i64 (IntKind.i64.wrap (↑(s.toList.getD (↑i : Int).toNat 0).toNat : Int)))], [])) (.q (decide (IntKind.i64.wrap (↑(s.toList.getD (↑i : Int).toNat 0).toNat : Int) ≥ 194)) (.qs [true] (.q (decide (IntKind.i64.wrap (↑(s.toList.getD (↑i : Int).toNat 0).toNat : Int) ≤ 223)) (.q (decide (IntKind.i64.wrap ((↑i : Int) + 2) > (↑s.size : Int))) (.ret (A.tup [A.d (D.int IntKind.i64 0), A.d (D.int IntKind.i64 0)], [])) (.stop)) (.q (decide (IntKind.i64.wrap (↑(s.toList.getD (↑i : Int).toNat 0).toNat : Int) ≥ 224)) (.qs [true] (.q (decide (IntKind.i64.wrap (↑(s.toList.getD (↑i : Int).toNat 0).toNat : Int) ≤ 239)) (.q (decide (IntKind.i64.wrap ((↑i : Int) + 3) > (↑s.size : Int))) (.ret (A.tup [A.d (D.int IntKind.i64 0), A.d (D.int IntKind.i64 0)], [])) (.stop)) (.q (decide (IntKind.i64.wrap (↑(s.toList.getD (↑i : Int).toNat 0).toNat : Int) ≥ 240)) (.qs [true] (.q (decide (IntKind.i64.wrap (↑(s.toList.getD (↑i : Int).toNat 0).toNat : Int) ≤ 244)) (.q (decide (IntKind.i64.wrap ((↑i : Int) + 4) > (↑s.size : Int))) (.ret (A.tup [A.d (D.int IntKind.i64 0), A.d (D.int IntKind.i64 0)], [])) (.stop)) (.ret (A.tup [A.d (D.int IntKind.i64 0), A.d (D.int IntKind.i64 0)], [])))) .stop))) .stop))) (.qs [false, false] (.q (decide (IntKind.i64.wrap (↑(s.toList.getD (↑i : Int).toNat 0).toNat : Int) ≥ 224)) .stop (.qs [false, false] (.q (decide (IntKind.i64.wrap (↑(s.toList.getD (↑i : Int).toNat 0).toNat : Int) ≥ 240)) .stop (.qs [false, false] (.ret (A.tup [A.d (D.int IntKind.i64 0), A.d (D.int IntKind.i64 0)], [])))))))))) (by kernel_rfl) (Go.Ab.vc_chk (by simp; omega) (Go.Ab.vc_q (fun h0 => Go.Ab.vc_ret ?_) (fun h0 => Go.Ab.vc_q (fun h1 => Go.Ab.vc_qs (Go.Ab.vc_q (fun h2 => Go.Ab.vc_q (fun h3 => Go.Ab.vc_ret ?_) (fun h3 => Go.Ab.vc_stop ?s8)) (fun h2 => Go.Ab.vc_q (fun _ => Go.Ab.vc_qs (Go.Ab.vc_q (fun h3 => Go.Ab.vc_q (fun h4 => Go.Ab.vc_ret ?_) (fun h4 => Go.Ab.vc_stop ?s42)) (fun h3 => Go.Ab.vc_q (fun _ => Go.Ab.vc_qs (Go.Ab.vc_q (fun h4 => Go.Ab.vc_q (fun h5 => Go.Ab.vc_ret ?_) (fun h5 => Go.Ab.vc_stop ?s76)) (fun h4 => Go.Ab.vc_ret ?_))) (fun hp => absurd hp (by intro hp; exact (by simp only [size_c, decide_eq_true_eq, decide_eq_false_iff_not] at *; (try simp (disch := omega) only [w64] at *); omega : False)))))) (fun hp => absurd hp (by intro hp; exact (by simp only [size_c, decide_eq_true_eq, decide_eq_false_iff_not] at *; (try simp (disch := omega) only [w64] at *); omega : False)))))) (fun h1 => Go.Ab.vc_qs (Go.Ab.vc_q (fun hp => absurd hp (by intro hp; exact (by simp only [size_c, decide_eq_true_eq, decide_eq_false_iff_not] at *; (try simp (disch := omega) only [w64] at *); omega : False))) (fun _ => Go.Ab.vc_qs (Go.Ab.vc_q (fun hp => absurd hp (by intro hp; exact (by simp only [size_c, decide_eq_true_eq, decide_eq_false_iff_not] at *; (try simp (disch := omega) only [w64] at *); omega : False))) (fun _ => Go.Ab.vc_qs (Go.Ab.vc_ret ?_)))))))))
  case s8 =>
    refine Go.Ab.wp_loop (by kernel_rfl) (by kernel_rfl) (Go.Ab.acode_tidy (W := l_ref05_Size_0_W) (by kernel_rfl) (by kernel_rfl) (l_ref05_Size_0 s i 2 128 _ (by first | assumption | (refine ⟨rfl, by decide, by decide, by decide, ?_, ?_, ?_⟩ <;> ((try simp only [size_c, decide_eq_true_eq, decide_eq_false_iff_not] at *); (try simp (disch := omega) only [w64] at *)) <;> first | omega | (simp [vmax]; omega))) 1 (IntKind.i64.wrap (IntKind.i64.wrap (↑(s.toList.getD (↑i : Int).toNat 0).toNat : Int) - 192)) (by first | assumption | (refine ⟨rfl, by decide, by decide, by decide, ?_, ?_, ?_⟩ <;> ((try simp only [size_c, decide_eq_true_eq, decide_eq_false_iff_not] at *); (try simp (disch := omega) only [w64] at *)) <;> first | omega | (simp [vmax]; omega))))) ?_
    rintro e s' (⟨v', j1, rfl, rfl⟩ | ⟨k', v', j2, rfl, rfl⟩)
    · skip
      refine Go.Ab.wp_fn (.q (decide (v' < 128)) (.qs [true, true, true, true, true, true] (.ret (A.tup [A.d (D.int IntKind.i64 0), A.d (D.int IntKind.i64 0)], []))) (.qs [false] (.q (decide (v' > 1114111)) (.qs [true, true, true, true] (.ret (A.tup [A.d (D.int IntKind.i64 0), A.d (D.int IntKind.i64 0)], []))) (.qs [false, false] (.q (decide (v' ≥ 55296)) (.qs [true, false] (.q (decide (v' ≤ 57343)) (.ret (A.tup [A.d (D.int IntKind.i64 0), A.d (D.int IntKind.i64 0)], [])) (.ret (A.tup [A.d (D.int IntKind.i64 2), A.d (D.int IntKind.i64 v')], [])))) (.qs [false, false, false] (.ret (A.tup [A.d (D.int IntKind.i64 2), A.d (D.int IntKind.i64 v')], [])))))))) (by kernel_rfl) (Go.Ab.vc_q (fun h4 => Go.Ab.vc_qs (Go.Ab.vc_ret ?_)) (fun h4 => Go.Ab.vc_qs (Go.Ab.vc_q (fun h5 => Go.Ab.vc_qs (Go.Ab.vc_ret ?_)) (fun h5 => Go.Ab.vc_qs (Go.Ab.vc_q (fun h6 => Go.Ab.vc_qs (Go.Ab.vc_q (fun h7 => Go.Ab.vc_ret ?_) (fun h7 => Go.Ab.vc_ret ?_))) (fun h6 => Go.Ab.vc_qs (Go.Ab.vc_ret ?_)))))))
      all_goals (rw [← sizeR_decode s i h]; (try simp only [size_c, decide_eq_true_eq, decide_eq_false_iff_not] at *); (try simp (disch := omega) only [w64] at *); unfold sizeR sizeC; (repeat' split) <;> first | omega | (simp_all; done) | (simp_all; omega))
    · skip
      refine Go.Ab.wp_fn (.ret (A.tup [A.d (D.int IntKind.i64 0), A.d (D.int IntKind.i64 0)], [])) (by kernel_rfl) (Go.Ab.vc_ret ?_)
      all_goals (rw [← sizeR_decode s i h]; (try simp only [size_c, decide_eq_true_eq, decide_eq_false_iff_not] at *); (try simp (disch := omega) only [w64] at *); unfold sizeR sizeC; (repeat' split) <;> first | omega | (simp_all; done) | (simp_all; omega))
  case s42 =>
    refine Go.Ab.wp_loop (by kernel_rfl) (by kernel_rfl) (Go.Ab.acode_tidy (W := l_ref05_Size_0_W) (by kernel_rfl) (by kernel_rfl) (l_ref05_Size_0 s i 3 2048 _ (by first | assumption | (refine ⟨rfl, by decide, by decide, by decide, ?_, ?_, ?_⟩ <;> ((try simp only [size_c, decide_eq_true_eq, decide_eq_false_iff_not] at *); (try simp (disch := omega) only [w64] at *)) <;> first | omega | (simp [vmax]; omega))) 1 (IntKind.i64.wrap (IntKind.i64.wrap (↑(s.toList.getD (↑i : Int).toNat 0).toNat : Int) - 224)) (by first | assumption | (refine ⟨rfl, by decide, by decide, by decide, ?_, ?_, ?_⟩ <;> ((try simp only [size_c, decide_eq_true_eq, decide_eq_false_iff_not] at *); (try simp (disch := omega) only [w64] at *)) <;> first | omega | (simp [vmax]; omega))))) ?_
    rintro e s' (⟨v', j1, rfl, rfl⟩ | ⟨k', v', j2, rfl, rfl⟩)
    · skip
      refine Go.Ab.wp_fn (.q (decide (v' < 2048)) (.qs [true, true, true, true, true, true] (.ret (A.tup [A.d (D.int IntKind.i64 0), A.d (D.int IntKind.i64 0)], []))) (.qs [false] (.q (decide (v' > 1114111)) (.qs [true, true, true, true] (.ret (A.tup [A.d (D.int IntKind.i64 0), A.d (D.int IntKind.i64 0)], []))) (.qs [false, false] (.q (decide (v' ≥ 55296)) (.qs [true, false] (.q (decide (v' ≤ 57343)) (.ret (A.tup [A.d (D.int IntKind.i64 0), A.d (D.int IntKind.i64 0)], [])) (.ret (A.tup [A.d (D.int IntKind.i64 3), A.d (D.int IntKind.i64 v')], [])))) (.qs [false, false, false] (.ret (A.tup [A.d (D.int IntKind.i64 3), A.d (D.int IntKind.i64 v')], [])))))))) (by kernel_rfl) (Go.Ab.vc_q (fun h5 => Go.Ab.vc_qs (Go.Ab.vc_ret ?_)) (fun h5 => Go.Ab.vc_qs (Go.Ab.vc_q (fun h6 => Go.Ab.vc_qs (Go.Ab.vc_ret ?_)) (fun h6 => Go.Ab.vc_qs (Go.Ab.vc_q (fun h7 => Go.Ab.vc_qs (Go.Ab.vc_q (fun h8 => Go.Ab.vc_ret ?_) (fun h8 => Go.Ab.vc_ret ?_))) (fun h7 => Go.Ab.vc_qs (Go.Ab.vc_ret ?_)))))))
      all_goals (rw [← sizeR_decode s i h]; (try simp only [size_c, decide_eq_true_eq, decide_eq_false_iff_not] at *); (try simp (disch := omega) only [w64] at *); unfold sizeR sizeC; (repeat' split) <;> first | omega | (simp_all; done) | (simp_all; omega))
    · skip
      refine Go.Ab.wp_fn (.ret (A.tup [A.d (D.int IntKind.i64 0), A.d (D.int IntKind.i64 0)], [])) (by kernel_rfl) (Go.Ab.vc_ret ?_)
      all_goals (rw [← sizeR_decode s i h]; (try simp only [size_c, decide_eq_true_eq, decide_eq_false_iff_not] at *); (try simp (disch := omega) only [w64] at *); unfold sizeR sizeC; (repeat' split) <;> first | omega | (simp_all; done) | (simp_all; omega))
  case s76 =>
    refine Go.Ab.wp_loop (by kernel_rfl) (by kernel_rfl) (Go.Ab.acode_tidy (W := l_ref05_Size_0_W) (by kernel_rfl) (by kernel_rfl) (l_ref05_Size_0 s i 4 65536 _ (by first | assumption | (refine ⟨rfl, by decide, by decide, by decide, ?_, ?_, ?_⟩ <;> ((try simp only [size_c, decide_eq_true_eq, decide_eq_false_iff_not] at *); (try simp (disch := omega) only [w64] at *)) <;> first | omega | (simp [vmax]; omega))) 1 (IntKind.i64.wrap (IntKind.i64.wrap (↑(s.toList.getD (↑i : Int).toNat 0).toNat : Int) - 240)) (by first | assumption | (refine ⟨rfl, by decide, by decide, by decide, ?_, ?_, ?_⟩ <;> ((try simp only [size_c, decide_eq_true_eq, decide_eq_false_iff_not] at *); (try simp (disch := omega) only [w64] at *)) <;> first | omega | (simp [vmax]; omega))))) ?_
    rintro e s' (⟨v', j1, rfl, rfl⟩ | ⟨k', v', j2, rfl, rfl⟩)
    · skip
      refine Go.Ab.wp_fn (.q (decide (v' < 65536)) (.qs [true, true, true, true, true, true] (.ret (A.tup [A.d (D.int IntKind.i64 0), A.d (D.int IntKind.i64 0)], []))) (.qs [false] (.q (decide (v' > 1114111)) (.qs [true, true, true, true] (.ret (A.tup [A.d (D.int IntKind.i64 0), A.d (D.int IntKind.i64 0)], []))) (.qs [false, false] (.q (decide (v' ≥ 55296)) (.qs [true, false] (.q (decide (v' ≤ 57343)) .stop (.ret (A.tup [A.d (D.int IntKind.i64 4), A.d (D.int IntKind.i64 v')], [])))) .stop))))) (by kernel_rfl) (Go.Ab.vc_q (fun h6 => Go.Ab.vc_qs (Go.Ab.vc_ret ?_)) (fun h6 => Go.Ab.vc_qs (Go.Ab.vc_q (fun h7 => Go.Ab.vc_qs (Go.Ab.vc_ret ?_)) (fun h7 => Go.Ab.vc_qs (Go.Ab.vc_q (fun _ => Go.Ab.vc_qs (Go.Ab.vc_q (fun hp => absurd hp (by intro hp; exact (by simp only [size_c, decide_eq_true_eq, decide_eq_false_iff_not] at *; (try simp (disch := omega) only [w64] at *); omega : False))) (fun _ => Go.Ab.vc_ret ?_))) (fun hp => absurd hp (by intro hp; exact (by simp only [size_c, decide_eq_true_eq, decide_eq_false_iff_not] at *; (try simp (disch := omega) only [w64] at *); omega : False))))))))
      all_goals (rw [← sizeR_decode s i h]; (try simp only [size_c, decide_eq_true_eq, decide_eq_false_iff_not] at *); (try simp (disch := omega) only [w64] at *); unfold sizeR sizeC; (repeat' split) <;> first | omega | (simp_all; done) | (simp_all; omega))
    · skip
      refine Go.Ab.wp_fn (.ret (A.tup [A.d (D.int IntKind.i64 0), A.d (D.int IntKind.i64 0)], [])) (by kernel_rfl) (Go.Ab.vc_ret ?_)
      all_goals (rw [← sizeR_decode s i h]; (try simp only [size_c, decide_eq_true_eq, decide_eq_false_iff_not] at *); (try simp (disch := omega) only [w64] at *); unfold sizeR sizeC; (repeat' split) <;> first | omega | (simp_all; done) | (simp_all; omega))
  all_goals (rw [← sizeR_decode s i h]; (try simp only [size_c, decide_eq_true_eq, decide_eq_false_iff_not] at *); (try simp (disch := omega) only [w64] at *); unfold sizeR sizeC; (repeat' split) <;> first | omega | (simp_all; done) | (simp_all; omega))
end Go.Proofs.Tryd
/- Lists of bytes. -/
set_option linter.unusedVariables false
namespace Go.Proofs.Tryd
open Go Go.Ab Go.Pl
theorem wI {n : Int} (h : -9223372036854775808 ≤ n ∧ n ≤ 9223372036854775807) : IntKind.i64.wrap n = n := IntWalk.i64_in n h
theorem wS (i : Nat) (h : i ≤ 1000000000000000000) : IntKind.i64.wrap ((i : Int) + 1) = ((i + 1 : Nat) : Int) := by rw [wI (by omega)]; omega
/-- Lists that are the same up to a place. -/
theorem same_step {T : Type} [Inhabited T] {a b : List T} {i : Nat} (hl : a.length = b.length) (h : a.take i = b.take i) (hi : i < a.length) (he : at_ a i = at_ b i) : a.take (i + 1) = b.take (i + 1) := by
  have ha := at_get (l := a) hi
  have hb := at_get (l := b) (i := i) (by omega)
  rw [List.take_add_one, List.take_add_one, h, ha, hb, he]
theorem diff_at {T : Type} [Inhabited T] {a b : List T} {i : Nat} (hl : a.length = b.length) (hi : i < a.length) (he : at_ a i ≠ at_ b i) : a ≠ b := by
  rintro rfl
  exact he rfl
theorem same_all {T : Type} {a b : List T} {i : Nat} (hl : a.length = b.length) (h : a.take i = b.take i) (hi : ¬ i < a.length) : a = b := by
  rw [List.take_of_length_le (by omega), List.take_of_length_le (by omega)] at h
  exact h
theorem u8_eq {a b : UInt8} : ((a.toNat : Int) = (b.toNat : Int)) ↔ a = b := by
  constructor
  · intro h; exact UInt8.toNat_inj.1 (by omega)
  · rintro rfl; rfl
theorem u8_same {a b : UInt8} (h : ((a.toNat : Int) != (b.toNat : Int)) = false) : a = b := u8_eq.1 (by simpa using h)
theorem u8_other {a b : UInt8} (h : ((a.toNat : Int) != (b.toNat : Int)) = true) : a ≠ b := by
  rintro rfl
  simp at h
theorem plain_go {r : Int} {i : Nat} {R : Bool} (hi : among r (plainL.drop i) = R ∧ i ≤ 66) (h0 : decide ((i : Int) < (plainS.size : Int)) = true) :
    i < 66 ∧ R = (IntKind.i64.wrap ((plainS.toList.getD ((i : Int)).toNat 0).toNat : Int) == r || among r (plainL.drop (i + 1))) := by
  have hs : plainS.size = 66 := rfl
  have h0 := of_decide_eq_true h0
  have hlt : i < 66 := by omega
  refine ⟨hlt, ?_⟩
  have hb := plainS_byte i hlt
  have h256 := byt_lt plainS i
  rw [← hi.1, among_step r i hlt, Int.toNat_natCast]
  unfold byt at hb h256
  rw [← hb, wI (by omega)]
theorem dlt {i n : Nat} (h : decide ((i : Int) < (n : Int)) = true) : i < n := by have := of_decide_eq_true h; omega
theorem dnlt {i n : Nat} (h : decide ((i : Int) < (n : Int)) = false) : ¬ i < n := by have := of_decide_eq_false h; omega
end Go.Proofs.Tryd
set_option maxRecDepth 100000
set_option maxHeartbeats 4000000
set_option linter.unusedVariables false
set_option linter.unusedSimpArgs false
namespace Go.Proofs.Tryd
open Go Go.Ab Go.Pl Go.RowKit Go.Proofs.YtmecehpkjffanaaDoor
attribute [local irreducible] Go.Ab.wp Go.Ab.vc Go.Ab.run Go.Ab.runFn Go.Ab.body1 Go.Ab.Tr.qt Go.Ab.Tr.qf Go.Ab.AEv
def l_ref05_Plain_0_W : List Nat := others 23 [0, 2, 3, 4]
theorem l_ref05_Plain_0 {w0 : World} (r : Int) (R : Bool) (i : Nat) (hi : among r (plainL.drop i) = R ∧ i ≤ 66) : ACode Tryd.prog w0 0 (.loop (nthLoop Tryd.f157 0)) (⟨mkEnv 23 [(0, .d (.int .i64 r)), (2, .d (.bool false)), (3, .d (.str plainS)), (4, .d (.int .i64 i))], []⟩) (fun e s' => (R = false ∧ e = .exit 0 ∧ s' = ⟨mkEnv 23 [(0, .d (.int .i64 r)), (2, .d (.bool false)), (3, .d (.str plainS)), (4, .d (.int .i64 66))], []⟩) ∨ (∃ k : Nat, R = true ∧ e = .ret ∧ s' = ⟨mkEnv 23 [(0, .d (.int .i64 r)), (2, .d (.bool true)), (3, .d (.str plainS)), (4, .d (.int .i64 k))], []⟩)) := by
  refine Go.Ab.acode_loop (s1 := ⟨mkEnv 23 [(0, .d (.int .i64 r)), (2, .d (.bool false)), (3, .d (.str plainS)), (4, .d (.int .i64 i))], []⟩) (n := 66 - i) hmix [] (fun zm zs => ∃ (i : Nat), zm = 66 - i ∧ (among r (plainL.drop i) = R ∧ i ≤ 66) ∧ zs = ⟨mkEnv 23 [(0, .d (.int .i64 r)), (2, .d (.bool false)), (3, .d (.str plainS)), (4, .d (.int .i64 i))], []⟩) (Weak.refl _) ⟨i, rfl, hi, rfl⟩ ?_
  clear hi
  rintro zm zs ⟨i, rfl, hi, rfl⟩
  refine Go.Ab.wp_rd l_ref05_Plain_0_W (.q (decide ((↑i : Int) < (↑plainS.size : Int))) (.chk (decide (0 ≤ (↑i : Int) ∧ (↑i : Int) < (↑plainS.size : Int))) (.q (IntKind.i64.wrap (↑(plainS.toList.getD (↑i : Int).toNat 0).toNat : Int) == r) (.ret (Ex.ret, true, ⟨mkEnv 23 [(0, A.d (D.int IntKind.i64 r)), (2, A.d (D.bool true)), (3, A.d (D.str plainS)), (4, A.d (D.int IntKind.i64 (↑i : Int)))], []⟩)) (.ret (Ex.normal, true, ⟨mkEnv 23 [(0, A.d (D.int IntKind.i64 r)), (2, A.d (D.bool false)), (3, A.d (D.str plainS)), (4, A.d (D.int IntKind.i64 (IntKind.i64.wrap ((↑i : Int) + 1))))], []⟩)))) (.ret (Ex.exit 0, true, ⟨mkEnv 23 [(0, A.d (D.int IntKind.i64 r)), (2, A.d (D.bool false)), (3, A.d (D.str plainS)), (4, A.d (D.int IntKind.i64 (↑i : Int)))], []⟩))) (by kernel_rfl) (Go.Ab.vc_q (fun h0 => Go.Ab.vc_chk (by (try simp only [decide_eq_true_eq, decide_eq_false_iff_not, Int.toNat_natCast] at *); first | omega | (simp_all; done) | (simp_all; omega)) (Go.Ab.vc_q (fun h1 => Go.Ab.vc_back ?x3) (fun h1 => Go.Ab.vc_next ?_))) (fun h0 => Go.Ab.vc_exit ?x5))
  case x3 | x5 => first | (obtain ⟨q1, q2⟩ := plain_go hi h0; rw [h1] at q2; exact .inr ⟨i, by simpa using q2, rfl, rfl⟩) | (have q := dnlt h0; have hs : plainS.size = 66 := rfl; have : i = 66 := (by omega); subst this; exact .inl ⟨hi.1.symm, rfl, rfl⟩)
  all_goals (obtain ⟨q1, q2⟩ := plain_go hi h0; rw [h1] at q2; exact ⟨66 - (i + 1), by omega, i + 1, rfl, ⟨by simpa using q2.symm, by omega⟩, by rw [wS i (by omega)]⟩)
def l_ref05_Bad_0_W : List Nat := others 22 [0, 2, 3]
theorem l_ref05_Bad_0 {w0 : World} (s : ByteArray) (hz : s.size ≤ 1000000000) (R : Int) (p : Nat) (hi : badFrom s (s.size - p) p = R) : ACode Tryd.prog w0 0 (.loop (nthLoop Tryd.f158 0)) (⟨mkEnv 22 [(0, .d (.str s)), (2, .d (.int .i64 0)), (3, .d (.int .i64 p))], []⟩) (fun e s' => (∃ k : Nat, R = -1 ∧ e = .exit 0 ∧ s' = ⟨mkEnv 22 [(0, .d (.str s)), (2, .d (.int .i64 0)), (3, .d (.int .i64 k))], []⟩) ∨ (∃ k : Nat, R = k ∧ e = .ret ∧ s' = ⟨mkEnv 22 [(0, .d (.str s)), (2, .d (.int .i64 k)), (3, .d (.int .i64 k))], []⟩)) := by
  refine Go.Ab.acode_loop (s1 := ⟨mkEnv 22 [(0, .d (.str s)), (2, .d (.int .i64 0)), (3, .d (.int .i64 p))], []⟩) (n := s.size - p) hmix [] (fun zm zs => ∃ (p : Nat), zm = s.size - p ∧ (badFrom s (s.size - p) p = R) ∧ zs = ⟨mkEnv 22 [(0, .d (.str s)), (2, .d (.int .i64 0)), (3, .d (.int .i64 p))], []⟩) (Weak.refl _) ⟨p, rfl, hi, rfl⟩ ?_
  clear hi
  rintro zm zs ⟨p, rfl, hi, rfl⟩
  refine Go.Ab.wp_rd l_ref05_Bad_0_W (.q (decide ((↑p : Int) < (↑s.size : Int))) (.call 156 [A.d (D.str s), A.d (D.int IntKind.i64 (↑p : Int))] [] (A.tup [A.d (D.int IntKind.i64 (sz2 s p).fst), A.d (D.int IntKind.i64 (sz2 s p).snd)]) [] (.q ((sz2 s p).fst == 0) (.ret (Ex.ret, true, ⟨mkEnv 22 [(0, A.d (D.str s)), (2, A.d (D.int IntKind.i64 (↑p : Int))), (3, A.d (D.int IntKind.i64 (↑p : Int)))], []⟩)) (.ret (Ex.normal, true, ⟨mkEnv 22 [(0, A.d (D.str s)), (2, A.d (D.int IntKind.i64 0)), (3, A.d (D.int IntKind.i64 (IntKind.i64.wrap ((↑p : Int) + (sz2 s p).fst))))], []⟩)))) (.ret (Ex.exit 0, true, ⟨mkEnv 22 [(0, A.d (D.str s)), (2, A.d (D.int IntKind.i64 0)), (3, A.d (D.int IntKind.i64 (↑p : Int)))], []⟩))) (by kernel_rfl) (Go.Ab.vc_q (fun h0 => Go.Ab.vc_call (c_ref05_Size s p (by first | assumption | exact dlt h0) (by first | assumption | exact dlt h0)) (Go.Ab.vc_q (fun h1 => Go.Ab.vc_back ?x3) (fun h1 => Go.Ab.vc_next ?_))) (fun h0 => Go.Ab.vc_exit ?x5))
  case x3 | x5 => first | (have hp := dlt h0; rw [sz2_zero] at h1; rw [badFrom_step s p hp, h1] at hi; exact .inr ⟨p, by simpa using hi.symm, rfl, rfl⟩) | exact .inl ⟨p, by rw [← hi, badFrom_end _ _ _ (dnlt h0)], rfl, rfl⟩
  all_goals (have hp := dlt h0; rw [sz2_zero] at h1; have hw := dec_width s p; rw [badFrom_step s p hp, h1] at hi; exact ⟨_, by omega, p + (Utf8.decode s p).2, rfl, by simpa using hi, by rw [sz_next hz hp h1]⟩)
def l_ref05_Val_0_W : List Nat := others 28 [0, 2, 3]
theorem l_ref05_Val_0 {w0 : World} (s : ByteArray) (hz : s.size ≤ 1000000000) (R : Bool) (p : Nat) (hi : okB s (s.size - p) p = R) : ACode Tryd.prog w0 0 (.loop (nthLoop Tryd.f113 0)) (⟨mkEnv 28 [(0, .d (.str s)), (2, .d (.bool false)), (3, .d (.int .i64 p))], []⟩) (fun e s' => (∃ k : Nat, R = true ∧ e = .exit 0 ∧ s' = ⟨mkEnv 28 [(0, .d (.str s)), (2, .d (.bool false)), (3, .d (.int .i64 k))], []⟩) ∨ (∃ k : Nat, R = false ∧ e = .ret ∧ s' = ⟨mkEnv 28 [(0, .d (.str s)), (2, .d (.bool false)), (3, .d (.int .i64 k))], []⟩)) := by
  refine Go.Ab.acode_loop (s1 := ⟨mkEnv 28 [(0, .d (.str s)), (2, .d (.bool false)), (3, .d (.int .i64 p))], []⟩) (n := s.size - p) hmix [] (fun zm zs => ∃ (p : Nat), zm = s.size - p ∧ (okB s (s.size - p) p = R) ∧ zs = ⟨mkEnv 28 [(0, .d (.str s)), (2, .d (.bool false)), (3, .d (.int .i64 p))], []⟩) (Weak.refl _) ⟨p, rfl, hi, rfl⟩ ?_
  clear hi
  rintro zm zs ⟨p, rfl, hi, rfl⟩
  refine Go.Ab.wp_rd l_ref05_Val_0_W (.q (decide ((↑p : Int) < (↑s.size : Int))) (.chk (decide (0 ≤ (↑p : Int) ∧ (↑p : Int) < (↑s.size : Int))) (.q (decide ((↑(s.toList.getD (↑p : Int).toNat 0).toNat : Int) < 32)) (.qs [true, true, true, true] (.ret (Ex.ret, true, ⟨mkEnv 28 [(0, A.d (D.str s)), (2, A.d (D.bool false)), (3, A.d (D.int IntKind.i64 (↑p : Int)))], []⟩))) (.qs [false, false] (.chk (decide (0 ≤ (↑p : Int) ∧ (↑p : Int) < (↑s.size : Int))) (.qs [false] (.q ((↑(s.toList.getD (↑p : Int).toNat 0).toNat : Int) == 127) (.ret (Ex.ret, true, ⟨mkEnv 28 [(0, A.d (D.str s)), (2, A.d (D.bool false)), (3, A.d (D.int IntKind.i64 (↑p : Int)))], []⟩)) (.ret (Ex.normal, true, ⟨mkEnv 28 [(0, A.d (D.str s)), (2, A.d (D.bool false)), (3, A.d (D.int IntKind.i64 (IntKind.i64.wrap ((↑p : Int) + 1))))], []⟩)))))))) (.ret (Ex.exit 0, true, ⟨mkEnv 28 [(0, A.d (D.str s)), (2, A.d (D.bool false)), (3, A.d (D.int IntKind.i64 (↑p : Int)))], []⟩))) (by kernel_rfl) (Go.Ab.vc_q (fun h0 => Go.Ab.vc_chk (by (try simp only [decide_eq_true_eq, decide_eq_false_iff_not, Int.toNat_natCast] at *); first | omega | (simp_all; done) | (simp_all; omega)) (Go.Ab.vc_q (fun h1 => Go.Ab.vc_qs (Go.Ab.vc_back ?x7)) (fun h1 => Go.Ab.vc_qs (Go.Ab.vc_chk (by (try simp only [decide_eq_true_eq, decide_eq_false_iff_not, Int.toNat_natCast] at *); first | omega | (simp_all; done) | (simp_all; omega)) (Go.Ab.vc_qs (Go.Ab.vc_q (fun h2 => Go.Ab.vc_back ?x13) (fun h2 => Go.Ab.vc_next ?_))))))) (fun h0 => Go.Ab.vc_exit ?x15))
  case x7 | x13 | x15 => first | (have hp := dlt h0; rw [okB_step s p hp, if_pos (by simp only [Int.toNat_natCast, decide_eq_true_eq, beq_iff_eq] at *; unfold byt; omega)] at hi; exact .inr ⟨p, hi.symm, rfl, rfl⟩) | exact .inl ⟨p, by rw [← hi, okB_end _ _ _ (dnlt h0)], rfl, rfl⟩
  all_goals (have hp := dlt h0; simp only [Int.toNat_natCast, decide_eq_false_iff_not, beq_eq_false_iff_ne] at h1 h2; rw [okB_step s p hp, if_neg (by unfold byt; omega)] at hi; exact ⟨_, by omega, p + 1, rfl, hi, by rw [wS p (by omega)]⟩)
def l_slices_Equal_byte_byte_0_W : List Nat := others 26 [0, 1, 4, 11, 12, 13]
theorem l_slices_Equal_byte_byte_0 {w0 : World} (m n : Bool) (a b : List UInt8) (hl : a.length = b.length) (hz : a.length ≤ 1000000000) (i : Nat) (hi : a.take i = b.take i ∧ i ≤ a.length) : ACode Tryd.prog w0 0 (.loop (nthLoop Tryd.f75 0)) (⟨mkEnv 26 [(0, .d (.slice m 1 (bR a))), (1, .d (.slice n 1 (bR b))), (4, .d (.bool false)), (11, .d (.slice m 1 (bR a))), (12, .d (.int .i64 (bR a).length)), (13, .d (.int .i64 i))], []⟩) (fun e s' => (∃ k : Nat, a = b ∧ e = .exit 0 ∧ s' = ⟨mkEnv 26 [(0, .d (.slice m 1 (bR a))), (1, .d (.slice n 1 (bR b))), (4, .d (.bool false)), (11, .d (.slice m 1 (bR a))), (12, .d (.int .i64 (bR a).length)), (13, .d (.int .i64 k))], []⟩) ∨ (∃ k : Nat, a ≠ b ∧ e = .ret ∧ s' = ⟨mkEnv 26 [(0, .d (.slice m 1 (bR a))), (1, .d (.slice n 1 (bR b))), (4, .d (.bool false)), (11, .d (.slice m 1 (bR a))), (12, .d (.int .i64 (bR a).length)), (13, .d (.int .i64 k))], []⟩)) := by
  refine Go.Ab.acode_loop (s1 := ⟨mkEnv 26 [(0, .d (.slice m 1 (bR a))), (1, .d (.slice n 1 (bR b))), (4, .d (.bool false)), (11, .d (.slice m 1 (bR a))), (12, .d (.int .i64 (bR a).length)), (13, .d (.int .i64 i))], []⟩) (n := a.length - i) hmix [] (fun zm zs => ∃ (i : Nat), zm = a.length - i ∧ (a.take i = b.take i ∧ i ≤ a.length) ∧ zs = ⟨mkEnv 26 [(0, .d (.slice m 1 (bR a))), (1, .d (.slice n 1 (bR b))), (4, .d (.bool false)), (11, .d (.slice m 1 (bR a))), (12, .d (.int .i64 (bR a).length)), (13, .d (.int .i64 i))], []⟩) (Weak.refl _) ⟨i, rfl, hi, rfl⟩ ?_
  clear hi
  rintro zm zs ⟨i, rfl, hi, rfl⟩
  refine Go.Ab.wp_rd l_slices_Equal_byte_byte_0_W (.q (decide ((↑i : Int) < (↑(bR a).length : Int))) (.opt (getC 1 (List.map (fun b => [D.int IntKind.u8 (↑b.toNat : Int)]) a) (↑i : Int)) ([D.int IntKind.u8 (↑(at_ a (↑i : Int)).toNat : Int)]) (.opt (getC 1 (List.map (fun b => [D.int IntKind.u8 (↑b.toNat : Int)]) b) (↑i : Int)) ([D.int IntKind.u8 (↑(at_ b (↑i : Int)).toNat : Int)]) (.q ((↑(at_ a (↑i : Int)).toNat : Int) != (↑(at_ b (↑i : Int)).toNat : Int)) (.ret (Ex.ret, true, ⟨mkEnv 26 [(0, A.d (D.slice m 1 (List.map (fun b => [D.int IntKind.u8 (↑b.toNat : Int)]) a))), (1, A.d (D.slice n 1 (List.map (fun b => [D.int IntKind.u8 (↑b.toNat : Int)]) b))), (4, A.d (D.bool false)), (11, A.d (D.slice m 1 (List.map (fun b => [D.int IntKind.u8 (↑b.toNat : Int)]) a))), (12, A.d (D.int IntKind.i64 (↑(List.map (fun b => [D.int IntKind.u8 (↑b.toNat : Int)]) a).length : Int))), (13, A.d (D.int IntKind.i64 (↑i : Int)))], []⟩)) (.ret (Ex.normal, true, ⟨mkEnv 26 [(0, A.d (D.slice m 1 (List.map (fun b => [D.int IntKind.u8 (↑b.toNat : Int)]) a))), (1, A.d (D.slice n 1 (List.map (fun b => [D.int IntKind.u8 (↑b.toNat : Int)]) b))), (4, A.d (D.bool false)), (11, A.d (D.slice m 1 (List.map (fun b => [D.int IntKind.u8 (↑b.toNat : Int)]) a))), (12, A.d (D.int IntKind.i64 (↑(List.map (fun b => [D.int IntKind.u8 (↑b.toNat : Int)]) a).length : Int))), (13, A.d (D.int IntKind.i64 (IntKind.i64.wrap ((↑i : Int) + 1))))], []⟩))))) (.ret (Ex.exit 0, true, ⟨mkEnv 26 [(0, A.d (D.slice m 1 (List.map (fun b => [D.int IntKind.u8 (↑b.toNat : Int)]) a))), (1, A.d (D.slice n 1 (List.map (fun b => [D.int IntKind.u8 (↑b.toNat : Int)]) b))), (4, A.d (D.bool false)), (11, A.d (D.slice m 1 (List.map (fun b => [D.int IntKind.u8 (↑b.toNat : Int)]) a))), (12, A.d (D.int IntKind.i64 (↑(List.map (fun b => [D.int IntKind.u8 (↑b.toNat : Int)]) a).length : Int))), (13, A.d (D.int IntKind.i64 (↑i : Int)))], []⟩))) (by kernel_rfl) (Go.Ab.vc_q (fun h0 => Go.Ab.vc_opt (by refine Go.Ab.getC_at (fun _ => rfl) ?_ ?_ <;> (try simp only [decide_eq_true_eq, decide_eq_false_iff_not, List.length_map] at *) <;> omega) (Go.Ab.vc_opt (by refine Go.Ab.getC_at (fun _ => rfl) ?_ ?_ <;> (try simp only [decide_eq_true_eq, decide_eq_false_iff_not, List.length_map] at *) <;> omega) (Go.Ab.vc_q (fun h1 => Go.Ab.vc_back ?x4) (fun h1 => Go.Ab.vc_next ?_)))) (fun h0 => Go.Ab.vc_exit ?x6))
  case x4 | x6 => first | (have hp : i < a.length := (by simpa using h0); exact .inr ⟨i, diff_at hl hp (u8_other h1), rfl, rfl⟩) | (have hp : ¬ i < a.length := (by simpa using h0); exact .inl ⟨i, same_all hl hi.1 hp, rfl, rfl⟩)
  all_goals (have hp : i < a.length := (by simpa using h0); exact ⟨a.length - (i + 1), by omega, i + 1, rfl, ⟨same_step hl hi.1 hp (u8_same h1), by omega⟩, by rw [wS i (by omega)]⟩)
def l_ref01_Same_0_W : List Nat := others 26 [0, 1, 4, 5]
theorem l_ref01_Same_0 {w0 : World} (m n : Bool) (a b : List UInt8) (hl : a.length = b.length) (hz : a.length ≤ 1000000000) (i : Nat) (hi : a.take i = b.take i ∧ i ≤ a.length) : ACode Tryd.prog w0 0 (.loop (nthLoop Tryd.f39 0)) (⟨mkEnv 26 [(0, .d (.slice m 1 (bR a))), (1, .d (.slice n 1 (bR b))), (4, .d (.bool false)), (5, .d (.int .i64 i))], []⟩) (fun e s' => (∃ k : Nat, a = b ∧ e = .exit 0 ∧ s' = ⟨mkEnv 26 [(0, .d (.slice m 1 (bR a))), (1, .d (.slice n 1 (bR b))), (4, .d (.bool false)), (5, .d (.int .i64 k))], []⟩) ∨ (∃ k : Nat, a ≠ b ∧ e = .ret ∧ s' = ⟨mkEnv 26 [(0, .d (.slice m 1 (bR a))), (1, .d (.slice n 1 (bR b))), (4, .d (.bool false)), (5, .d (.int .i64 k))], []⟩)) := by
  refine Go.Ab.acode_loop (s1 := ⟨mkEnv 26 [(0, .d (.slice m 1 (bR a))), (1, .d (.slice n 1 (bR b))), (4, .d (.bool false)), (5, .d (.int .i64 i))], []⟩) (n := a.length - i) hmix [] (fun zm zs => ∃ (i : Nat), zm = a.length - i ∧ (a.take i = b.take i ∧ i ≤ a.length) ∧ zs = ⟨mkEnv 26 [(0, .d (.slice m 1 (bR a))), (1, .d (.slice n 1 (bR b))), (4, .d (.bool false)), (5, .d (.int .i64 i))], []⟩) (Weak.refl _) ⟨i, rfl, hi, rfl⟩ ?_
  clear hi
  rintro zm zs ⟨i, rfl, hi, rfl⟩
  refine Go.Ab.wp_rd l_ref01_Same_0_W (.q (decide ((↑i : Int) < (↑(bR a).length : Int))) (.opt (getC 1 (List.map (fun b => [D.int IntKind.u8 (↑b.toNat : Int)]) a) (↑i : Int)) ([D.int IntKind.u8 (↑(at_ a (↑i : Int)).toNat : Int)]) (.opt (getC 1 (List.map (fun b => [D.int IntKind.u8 (↑b.toNat : Int)]) b) (↑i : Int)) ([D.int IntKind.u8 (↑(at_ b (↑i : Int)).toNat : Int)]) (.q ((↑(at_ a (↑i : Int)).toNat : Int) != (↑(at_ b (↑i : Int)).toNat : Int)) (.ret (Ex.ret, true, ⟨mkEnv 26 [(0, A.d (D.slice m 1 (List.map (fun b => [D.int IntKind.u8 (↑b.toNat : Int)]) a))), (1, A.d (D.slice n 1 (List.map (fun b => [D.int IntKind.u8 (↑b.toNat : Int)]) b))), (4, A.d (D.bool false)), (5, A.d (D.int IntKind.i64 (↑i : Int)))], []⟩)) (.ret (Ex.normal, true, ⟨mkEnv 26 [(0, A.d (D.slice m 1 (List.map (fun b => [D.int IntKind.u8 (↑b.toNat : Int)]) a))), (1, A.d (D.slice n 1 (List.map (fun b => [D.int IntKind.u8 (↑b.toNat : Int)]) b))), (4, A.d (D.bool false)), (5, A.d (D.int IntKind.i64 (IntKind.i64.wrap ((↑i : Int) + 1))))], []⟩))))) (.ret (Ex.exit 0, true, ⟨mkEnv 26 [(0, A.d (D.slice m 1 (List.map (fun b => [D.int IntKind.u8 (↑b.toNat : Int)]) a))), (1, A.d (D.slice n 1 (List.map (fun b => [D.int IntKind.u8 (↑b.toNat : Int)]) b))), (4, A.d (D.bool false)), (5, A.d (D.int IntKind.i64 (↑i : Int)))], []⟩))) (by kernel_rfl) (Go.Ab.vc_q (fun h0 => Go.Ab.vc_opt (by refine Go.Ab.getC_at (fun _ => rfl) ?_ ?_ <;> (try simp only [decide_eq_true_eq, decide_eq_false_iff_not, List.length_map] at *) <;> omega) (Go.Ab.vc_opt (by refine Go.Ab.getC_at (fun _ => rfl) ?_ ?_ <;> (try simp only [decide_eq_true_eq, decide_eq_false_iff_not, List.length_map] at *) <;> omega) (Go.Ab.vc_q (fun h1 => Go.Ab.vc_back ?x4) (fun h1 => Go.Ab.vc_next ?_)))) (fun h0 => Go.Ab.vc_exit ?x6))
  case x4 | x6 => first | (have hp : i < a.length := (by simpa using h0); exact .inr ⟨i, diff_at hl hp (u8_other h1), rfl, rfl⟩) | (have hp : ¬ i < a.length := (by simpa using h0); exact .inl ⟨i, same_all hl hi.1 hp, rfl, rfl⟩)
  all_goals (have hp : i < a.length := (by simpa using h0); exact ⟨a.length - (i + 1), by omega, i + 1, rfl, ⟨same_step hl hi.1 hp (u8_same h1), by omega⟩, by rw [wS i (by omega)]⟩)
theorem c_slices_Equal_byte_byte {w0 : World} (m n : Bool) (a b : List UInt8) (hz : a.length ≤ 1000000000) : AEv Tryd.prog w0 75 [.d (.slice m 1 (bR a)), .d (.slice n 1 (bR b))] [] (.d (.bool (a == b))) [] := by
  refine aev_of_run hmix Tryd.func75 [] 1 ?_
  refine Go.Ab.wp_fn (.q ((↑(List.map (fun b => [D.int IntKind.u8 (↑b.toNat : Int)]) a).length : Int) != (↑(List.map (fun b => [D.int IntKind.u8 (↑b.toNat : Int)]) b).length : Int)) (.ret (A.d (D.bool false), [])) (.stop)) (by kernel_rfl) (Go.Ab.vc_q (fun h0 => Go.Ab.vc_ret ?_) (fun h0 => Go.Ab.vc_stop ?s2))
  case s2 =>
    refine Go.Ab.wp_loop (by kernel_rfl) (by kernel_rfl) (Go.Ab.acode_tidy (W := l_slices_Equal_byte_byte_0_W) (by kernel_rfl) (by kernel_rfl) (l_slices_Equal_byte_byte_0 m n a b (by first | assumption | (simp at *; omega) | exact ⟨rfl, by omega⟩) (by first | assumption | (simp at *; omega) | exact ⟨rfl, by omega⟩) 0 (by first | assumption | (simp at *; omega) | exact ⟨rfl, by omega⟩))) ?_
    rintro e s' (⟨k, j1, rfl, rfl⟩ | ⟨k, j1, rfl, rfl⟩)
    · skip
      refine Go.Ab.wp_fn (.ret (A.d (D.bool true), [])) (by kernel_rfl) (Go.Ab.vc_ret ?_)
      all_goals (first | (simp_all; done) | (simp; intro h; subst h; simp at *))
    · skip
      refine Go.Ab.wp_fn (.ret (A.d (D.bool false), [])) (by kernel_rfl) (Go.Ab.vc_ret ?_)
      all_goals (first | (simp_all; done) | (simp; intro h; subst h; simp at *))
  all_goals (first | (simp_all; done) | (simp; intro h; subst h; simp at *))
theorem c_ref01_Same {w0 : World} (m n : Bool) (a b : List UInt8) (hz : a.length ≤ 1000000000) : AEv Tryd.prog w0 39 [.d (.slice m 1 (bR a)), .d (.slice n 1 (bR b))] [] (.d (.bool (a == b))) [] := by
  refine aev_of_run hmix Tryd.func39 [] 1 ?_
  refine Go.Ab.wp_fn (.q ((↑(List.map (fun b => [D.int IntKind.u8 (↑b.toNat : Int)]) a).length : Int) != (↑(List.map (fun b => [D.int IntKind.u8 (↑b.toNat : Int)]) b).length : Int)) (.ret (A.d (D.bool false), [])) (.stop)) (by kernel_rfl) (Go.Ab.vc_q (fun h0 => Go.Ab.vc_ret ?_) (fun h0 => Go.Ab.vc_stop ?s2))
  case s2 =>
    refine Go.Ab.wp_loop (by kernel_rfl) (by kernel_rfl) (Go.Ab.acode_tidy (W := l_ref01_Same_0_W) (by kernel_rfl) (by kernel_rfl) (l_ref01_Same_0 m n a b (by first | assumption | (simp at *; omega) | exact ⟨rfl, by omega⟩) (by first | assumption | (simp at *; omega) | exact ⟨rfl, by omega⟩) 0 (by first | assumption | (simp at *; omega) | exact ⟨rfl, by omega⟩))) ?_
    rintro e s' (⟨k, j1, rfl, rfl⟩ | ⟨k, j1, rfl, rfl⟩)
    · skip
      refine Go.Ab.wp_fn (.ret (A.d (D.bool true), [])) (by kernel_rfl) (Go.Ab.vc_ret ?_)
      all_goals (first | (simp_all; done) | (simp; intro h; subst h; simp at *))
    · skip
      refine Go.Ab.wp_fn (.ret (A.d (D.bool false), [])) (by kernel_rfl) (Go.Ab.vc_ret ?_)
      all_goals (first | (simp_all; done) | (simp; intro h; subst h; simp at *))
  all_goals (first | (simp_all; done) | (simp; intro h; subst h; simp at *))
theorem c_ref05_Plain {w0 : World} (r : Int) : AEv Tryd.prog w0 157 [.d (.int .i64 r)] [] (.d (.bool (plainR r))) [] := by
  refine aev_of_run hmix Tryd.func157 [] 1 ?_
  refine Go.Ab.wp_fn (.stop) (by kernel_rfl) (Go.Ab.vc_stop ?s0)
  case s0 =>
    refine Go.Ab.wp_loop (by kernel_rfl) (by kernel_rfl) (Go.Ab.acode_tidy (W := l_ref05_Plain_0_W) (by kernel_rfl) (by kernel_rfl) (l_ref05_Plain_0 r _ 0 (by exact ⟨rfl, by omega⟩))) ?_
    rintro e s' (⟨j0, rfl, rfl⟩ | ⟨k, j1, rfl, rfl⟩)
    · skip
      refine Go.Ab.wp_fn (.q (decide (r ≥ 161)) (.qs [true] (.ret (A.d (D.bool (r != 65533)), []))) (.qs [false] (.ret (A.d (D.bool false), [])))) (by kernel_rfl) (Go.Ab.vc_q (fun h0 => Go.Ab.vc_qs (Go.Ab.vc_ret ?_)) (fun h0 => Go.Ab.vc_qs (Go.Ab.vc_ret ?_)))
      all_goals (rw [← plain_among]; simp_all [List.drop_zero] <;> (intros; omega))
    · skip
      refine Go.Ab.wp_fn (.ret (A.d (D.bool true), [])) (by kernel_rfl) (Go.Ab.vc_ret ?_)
      all_goals (rw [← plain_among]; simp_all [List.drop_zero] <;> (intros; omega))
theorem c_ref05_Bad {w0 : World} (s : ByteArray) (hz : s.size ≤ 1000000000) : AEv Tryd.prog w0 158 [.d (.str s)] [] (.d (.int .i64 (badAt s))) [] := by
  refine aev_of_run hmix Tryd.func158 [] 1 ?_
  refine Go.Ab.wp_fn (.stop) (by kernel_rfl) (Go.Ab.vc_stop ?s0)
  case s0 =>
    refine Go.Ab.wp_loop (by kernel_rfl) (by kernel_rfl) (Go.Ab.acode_tidy (W := l_ref05_Bad_0_W) (by kernel_rfl) (by kernel_rfl) (l_ref05_Bad_0 s (by first | assumption | exact rfl) _ 0 (by first | assumption | exact rfl))) ?_
    rintro e s' (⟨k, j1, rfl, rfl⟩ | ⟨k, j1, rfl, rfl⟩)
    · skip
      refine Go.Ab.wp_fn (.ret (A.d (D.int IntKind.i64 (-1)), [])) (by kernel_rfl) (Go.Ab.vc_ret ?_)
      all_goals (simp_all [badAt])
    · skip
      refine Go.Ab.wp_fn (.ret (A.d (D.int IntKind.i64 (↑k : Int)), [])) (by kernel_rfl) (Go.Ab.vc_ret ?_)
      all_goals (simp_all [badAt])
theorem c_ref05_Val {w0 : World} (s : ByteArray) (hz : s.size ≤ 1000000000) : AEv Tryd.prog w0 113 [.d (.str s)] [] (.d (.bool (valT s))) [] := by
  refine aev_of_run hmix Tryd.func113 [] 1 ?_
  refine Go.Ab.wp_fn (.q (decide ((↑s.size : Int) > 48)) (.qs [true, true, true] (.ret (A.d (D.bool false), []))) (.qs [false] (.call 158 [A.d (D.str s)] [] (A.d (D.int IntKind.i64 (badAt s))) [] (.qs [false] (.q (decide (badAt s ≥ 0)) (.ret (A.d (D.bool false), [])) (.stop)))))) (by kernel_rfl) (Go.Ab.vc_q (fun h0 => Go.Ab.vc_qs (Go.Ab.vc_ret ?_)) (fun h0 => Go.Ab.vc_qs (Go.Ab.vc_call (c_ref05_Bad s (by first | assumption | exact rfl)) (Go.Ab.vc_qs (Go.Ab.vc_q (fun h1 => Go.Ab.vc_ret ?_) (fun h1 => Go.Ab.vc_stop ?s10))))))
  case s10 =>
    refine Go.Ab.wp_loop (by kernel_rfl) (by kernel_rfl) (Go.Ab.acode_tidy (W := l_ref05_Val_0_W) (by kernel_rfl) (by kernel_rfl) (l_ref05_Val_0 s (by first | assumption | exact rfl) _ 0 (by first | assumption | exact rfl))) ?_
    rintro e s' (⟨k, j1, rfl, rfl⟩ | ⟨k, j1, rfl, rfl⟩)
    · skip
      refine Go.Ab.wp_fn (.ret (A.d (D.bool true), [])) (by kernel_rfl) (Go.Ab.vc_ret ?_)
      all_goals (rw [valT_ok]; simp_all; try omega)
    · skip
      refine Go.Ab.wp_fn (.ret (A.d (D.bool false), [])) (by kernel_rfl) (Go.Ab.vc_ret ?_)
      all_goals (rw [valT_ok]; simp_all; try omega)
  all_goals (rw [valT_ok]; simp_all; try omega)
def l_ref05_Key_0_W : List Nat := others 34 [0, 2, 3]
theorem l_ref05_Key_0 {w0 : World} (s : ByteArray) (hz : s.size ≤ 1000000000) (R : Bool) (p : Nat) (hi : okK plainR s (s.size - p) p = R) : ACode Tryd.prog w0 0 (.loop (nthLoop Tryd.f112 0)) (⟨mkEnv 34 [(0, .d (.str s)), (2, .d (.bool false)), (3, .d (.int .i64 p))], []⟩) (fun e s' => (∃ k : Nat, R = true ∧ e = .exit 0 ∧ s' = ⟨mkEnv 34 [(0, .d (.str s)), (2, .d (.bool false)), (3, .d (.int .i64 k))], []⟩) ∨ (∃ k : Nat, R = false ∧ e = .ret ∧ s' = ⟨mkEnv 34 [(0, .d (.str s)), (2, .d (.bool false)), (3, .d (.int .i64 k))], []⟩)) := by
  refine Go.Ab.acode_loop (s1 := ⟨mkEnv 34 [(0, .d (.str s)), (2, .d (.bool false)), (3, .d (.int .i64 p))], []⟩) (n := s.size - p) hmix [] (fun zm zs => ∃ (p : Nat), zm = s.size - p ∧ (okK plainR s (s.size - p) p = R) ∧ zs = ⟨mkEnv 34 [(0, .d (.str s)), (2, .d (.bool false)), (3, .d (.int .i64 p))], []⟩) (Weak.refl _) ⟨p, rfl, hi, rfl⟩ ?_
  clear hi
  rintro zm zs ⟨p, rfl, hi, rfl⟩
  refine Go.Ab.wp_rd l_ref05_Key_0_W (.q (decide ((↑p : Int) < (↑s.size : Int))) (.call 156 [A.d (D.str s), A.d (D.int IntKind.i64 (↑p : Int))] [] (A.tup [A.d (D.int IntKind.i64 (sz2 s p).fst), A.d (D.int IntKind.i64 (sz2 s p).snd)]) [] (.q ((sz2 s p).fst == 0) (.qs [true, true, true] (.ret (Ex.ret, true, ⟨mkEnv 34 [(0, A.d (D.str s)), (2, A.d (D.bool false)), (3, A.d (D.int IntKind.i64 (↑p : Int)))], []⟩))) (.qs [false] (.call 157 [A.d (D.int IntKind.i64 (sz2 s p).snd)] [] (A.d (D.bool (plainR (sz2 s p).snd))) [] (.qs [false] (.q (!plainR (sz2 s p).snd) (.ret (Ex.ret, true, ⟨mkEnv 34 [(0, A.d (D.str s)), (2, A.d (D.bool false)), (3, A.d (D.int IntKind.i64 (↑p : Int)))], []⟩)) (.ret (Ex.normal, true, ⟨mkEnv 34 [(0, A.d (D.str s)), (2, A.d (D.bool false)), (3, A.d (D.int IntKind.i64 (IntKind.i64.wrap ((↑p : Int) + (sz2 s p).fst))))], []⟩)))))))) (.ret (Ex.exit 0, true, ⟨mkEnv 34 [(0, A.d (D.str s)), (2, A.d (D.bool false)), (3, A.d (D.int IntKind.i64 (↑p : Int)))], []⟩))) (by kernel_rfl) (Go.Ab.vc_q (fun h0 => Go.Ab.vc_call (c_ref05_Size s p (by first | assumption | exact dlt h0) (by first | assumption | exact dlt h0)) (Go.Ab.vc_q (fun h1 => Go.Ab.vc_qs (Go.Ab.vc_back ?x6)) (fun h1 => Go.Ab.vc_qs (Go.Ab.vc_call (c_ref05_Plain (sz2 s p).snd) (Go.Ab.vc_qs (Go.Ab.vc_q (fun h2 => Go.Ab.vc_back ?x11) (fun h2 => Go.Ab.vc_next ?_))))))) (fun h0 => Go.Ab.vc_exit ?x13))
  case x6 | x11 | x13 => first | (have hp := dlt h0; rw [sz2_zero] at h1; rw [okK_step _ s p hp, h1] at hi; exact .inr ⟨p, by simpa using hi.symm, rfl, rfl⟩) | (have hp := dlt h0; rw [sz2_zero] at h1; rw [sz2_second s p h1] at h2; rw [okK_step _ s p hp, h1, h2] at hi; exact .inr ⟨p, by simpa using hi.symm, rfl, rfl⟩) | exact .inl ⟨p, by rw [← hi, okK_end _ _ _ _ (dnlt h0)], rfl, rfl⟩
  all_goals (have hp := dlt h0; rw [sz2_zero] at h1; rw [sz2_second s p h1] at h2; have hw := dec_width s p; rw [okK_step _ s p hp, h1, h2] at hi; exact ⟨_, by omega, p + (Utf8.decode s p).2, rfl, by simpa using hi, by rw [sz_next hz hp h1]⟩)
theorem c_ref05_Key {w0 : World} (s : ByteArray) (hz : s.size ≤ 1000000000) : AEv Tryd.prog w0 112 [.d (.str s)] [] (.d (.bool (keyR s))) [] := by
  refine aev_of_run hmix Tryd.func112 [] 1 ?_
  refine Go.Ab.wp_fn (.q (decide ((↑s.size : Int) < 1)) (.qs [true, true, true] (.ret (A.d (D.bool false), []))) (.qs [false, false] (.q (decide ((↑s.size : Int) > 24)) (.ret (A.d (D.bool false), [])) (.stop)))) (by kernel_rfl) (Go.Ab.vc_q (fun h0 => Go.Ab.vc_qs (Go.Ab.vc_ret ?_)) (fun h0 => Go.Ab.vc_qs (Go.Ab.vc_q (fun h1 => Go.Ab.vc_ret ?_) (fun h1 => Go.Ab.vc_stop ?s9))))
  case s9 =>
    refine Go.Ab.wp_loop (by kernel_rfl) (by kernel_rfl) (Go.Ab.acode_tidy (W := l_ref05_Key_0_W) (by kernel_rfl) (by kernel_rfl) (l_ref05_Key_0 s (by first | assumption | exact rfl) _ 0 (by first | assumption | exact rfl))) ?_
    rintro e s' (⟨k, j1, rfl, rfl⟩ | ⟨k, j1, rfl, rfl⟩)
    · skip
      refine Go.Ab.wp_fn (.ret (A.d (D.bool true), [])) (by kernel_rfl) (Go.Ab.vc_ret ?_)
      all_goals (simp_all [keyR, okK, allR, badAt] <;> first | omega | grind)
    · skip
      refine Go.Ab.wp_fn (.ret (A.d (D.bool false), [])) (by kernel_rfl) (Go.Ab.vc_ret ?_)
      all_goals (simp_all [keyR, okK, allR, badAt] <;> first | omega | grind)
  all_goals (simp_all [keyR, okK, allR, badAt] <;> first | omega | grind)
end Go.Proofs.Tryd
set_option maxRecDepth 100000
set_option maxHeartbeats 4000000
set_option linter.unusedVariables false
set_option linter.unusedSimpArgs false
namespace Go.Proofs.Tryd
open Go Go.Ab Go.Pl Go.RowKit Go.Proofs.YtmecehpkjffanaaDoor
attribute [local irreducible] Go.Ab.wp Go.Ab.vc Go.Ab.run Go.Ab.runFn Go.Ab.body1 Go.Ab.Tr.qt Go.Ab.Tr.qf Go.Ab.AEv
/-- Short texts. -/
def Cmd.short (c : Cmd) : Prop := c.key.size ≤ 1000000000 ∧ c.val.size ≤ 1000000000 ∧ c.old.size ≤ 1000000000
/-- The reference's check of a command. -/
def refCmd (c : Cmd) : Int :=
  if !isKind c.kind then 5
  else if (owned c.kind && !(decide (1 ≤ c.client) && decide (c.client ≤ 8) && decide (1 ≤ c.seq) && decide (c.seq ≤ 4294967296))) || (member c.kind && !(decide (1 ≤ c.node) && decide (c.node ≤ 9))) then 6
  else if (owned c.kind && !keyR c.key) || ((c.kind == 2 || c.kind == 5) && !valT c.val) || (c.kind == 5 && !valT c.old) then 7
  else if (!owned c.kind && !(c.client == 0 && c.seq == 0 && (c.key.toList == []))) || (!(c.kind == 2 || c.kind == 5) && !(c.val.toList == [])) || (!(c.kind == 5) && !(c.old.toList == [])) || (!member c.kind && !(c.node == 0)) then 3 else 0
theorem c_refCmd_1 {w0 : World} (cl sq : Int) (ke va ol : ByteArray) (no : Int) (hc : (Cmd.mk 0 cl sq ke va ol no).short) : AEv Tryd.prog w0 74 [.agg (eCmd ⟨1, cl, sq, ke, va, ol, no⟩)] [] (.d (.int .i64 (refCmd ⟨1, cl, sq, ke, va, ol, no⟩))) [] := by
  refine aev_of_run hmix Tryd.func74 [] 1 ?_
  refine Go.Ab.wp_fn (.qs [false, false, false, false] (.call 110 [A.d (D.int IntKind.i64 1)] [] (A.d (D.bool (owned 1))) [] (.qs [false, false, false, false, false, false, false, false, false, false, false, false] (.call 111 [A.d (D.int IntKind.i64 1)] [] (A.d (D.bool (member 1))) [] (.qs [false, false, false, false, false, false, false, false, false, false, false, false, false, false, false, false, false, false, false, false, false, false, false, false, false, false, false, false, false, false, false, false, true, true, true, true] (.q (cl != 0) (.qs [true, true, true, true, true, true, true, true, true, true, true, true, true, true, true, true, true, true, true, true, true, true, true, true] (.ret (A.d (D.int IntKind.i64 3), []))) (.qs [false, false, true, true] (.q (sq != 0) (.qs [true, true, true, true, true, true, true, true, true, true, true, true, true, true, true, true, true, true, true] (.ret (A.d (D.int IntKind.i64 3), []))) (.qs [false, false, true] (.q (!ke.toList == []) (.qs [true, true, true, true, true, true, true, true, true, true, true, true, true, true, true] (.ret (A.d (D.int IntKind.i64 3), []))) (.qs [false, false, true, true, true, false] (.q (!va.toList == []) (.qs [true, true, true, true, true, true, true, true, true, true, true] (.ret (A.d (D.int IntKind.i64 3), []))) (.qs [false, false, false, true, true, true, false] (.q (!ol.toList == []) (.qs [true, true, true, true, true, true] (.ret (A.d (D.int IntKind.i64 3), []))) (.qs [false, false] (.call 111 [A.d (D.int IntKind.i64 1)] [] (A.d (D.bool (member 1))) [] (.qs [false, false, true, true, true, false] (.q (no != 0) (.ret (A.d (D.int IntKind.i64 3), [])) (.ret (A.d (D.int IntKind.i64 0), [])))))))))))))))))))) (by kernel_rfl) (Go.Ab.vc_qs (Go.Ab.vc_call (c_ref08_Owned 1) (Go.Ab.vc_qs (Go.Ab.vc_call (c_ref08_member 1) (Go.Ab.vc_qs (Go.Ab.vc_q (fun h0 => Go.Ab.vc_qs (Go.Ab.vc_ret ?_)) (fun h0 => Go.Ab.vc_qs (Go.Ab.vc_q (fun h1 => Go.Ab.vc_qs (Go.Ab.vc_ret ?_)) (fun h1 => Go.Ab.vc_qs (Go.Ab.vc_q (fun h2 => Go.Ab.vc_qs (Go.Ab.vc_ret ?_)) (fun h2 => Go.Ab.vc_qs (Go.Ab.vc_q (fun h3 => Go.Ab.vc_qs (Go.Ab.vc_ret ?_)) (fun h3 => Go.Ab.vc_qs (Go.Ab.vc_q (fun h4 => Go.Ab.vc_qs (Go.Ab.vc_ret ?_)) (fun h4 => Go.Ab.vc_qs (Go.Ab.vc_call (c_ref08_member 1) (Go.Ab.vc_qs (Go.Ab.vc_q (fun h5 => Go.Ab.vc_ret ?_) (fun h5 => Go.Ab.vc_ret ?_)))))))))))))))))))
  all_goals (first | (simp_all [refCmd, isKind, owned, member]; done) | (simp_all [refCmd, isKind, owned, member] <;> grind))
theorem c_refCmd_2 {w0 : World} (cl sq : Int) (ke va ol : ByteArray) (no : Int) (hc : (Cmd.mk 0 cl sq ke va ol no).short) : AEv Tryd.prog w0 74 [.agg (eCmd ⟨2, cl, sq, ke, va, ol, no⟩)] [] (.d (.int .i64 (refCmd ⟨2, cl, sq, ke, va, ol, no⟩))) [] := by
  refine aev_of_run hmix Tryd.func74 [] 1 ?_
  refine Go.Ab.wp_fn (.qs [false, false, false, false] (.call 110 [A.d (D.int IntKind.i64 2)] [] (A.d (D.bool (owned 2))) [] (.qs [true, true, true, true] (.q (decide (cl < 1)) (.qs [true, true, true, true, true, true, true, true, true, true, true, true, true, true, true, true, true, true, true] (.ret (A.d (D.int IntKind.i64 6), []))) (.qs [false, false, true, true] (.q (decide (cl > 8)) (.qs [true, true, true, true, true, true, true, true, true, true, true, true, true, true] (.ret (A.d (D.int IntKind.i64 6), []))) (.qs [false, false, true, true] (.q (decide (sq < 1)) (.qs [true, true, true, true, true, true, true, true, true] (.ret (A.d (D.int IntKind.i64 6), []))) (.qs [false, false, true] (.q (decide (sq > 4294967296)) (.qs [true, true, true, true, true] (.ret (A.d (D.int IntKind.i64 6), []))) (.qs [false, false] (.call 111 [A.d (D.int IntKind.i64 2)] [] (A.d (D.bool (member 2))) [] (.qs [false, false, false, false, false, false, false, false, true, true, true, true, true, true] (.call 112 [A.d (D.str ke)] [] (A.d (D.bool (keyR ke))) [] (.qs [true] (.q (!keyR ke) (.qs [true, true, true, true, true, true, true, true] (.ret (A.d (D.int IntKind.i64 7), []))) (.qs [false, true, true, true] (.call 113 [A.d (D.str va)] [] (A.d (D.bool (valT va))) [] (.qs [true, false] (.q (!valT va) (.qs [true, true, true, true, true] (.ret (A.d (D.int IntKind.i64 7), []))) (.qs [false, false, false, false, false, false, false, false, false, false, false, false, false, false, false, false, false, false, false, false, false, false, false, false, false, false, false, true, true, true, false] (.q (!ol.toList == []) (.qs [true, true, true, true, true, true] (.ret (A.d (D.int IntKind.i64 3), []))) (.qs [false, false] (.call 111 [A.d (D.int IntKind.i64 2)] [] (A.d (D.bool (member 2))) [] (.qs [false, false, true, true, true, false] (.q (no != 0) (.ret (A.d (D.int IntKind.i64 3), [])) (.ret (A.d (D.int IntKind.i64 0), [])))))))))))))))))))))))))))) (by kernel_rfl) (Go.Ab.vc_qs (Go.Ab.vc_call (c_ref08_Owned 2) (Go.Ab.vc_qs (Go.Ab.vc_q (fun h0 => Go.Ab.vc_qs (Go.Ab.vc_ret ?_)) (fun h0 => Go.Ab.vc_qs (Go.Ab.vc_q (fun h1 => Go.Ab.vc_qs (Go.Ab.vc_ret ?_)) (fun h1 => Go.Ab.vc_qs (Go.Ab.vc_q (fun h2 => Go.Ab.vc_qs (Go.Ab.vc_ret ?_)) (fun h2 => Go.Ab.vc_qs (Go.Ab.vc_q (fun h3 => Go.Ab.vc_qs (Go.Ab.vc_ret ?_)) (fun h3 => Go.Ab.vc_qs (Go.Ab.vc_call (c_ref08_member 2) (Go.Ab.vc_qs (Go.Ab.vc_call (c_ref05_Key ke (by first | assumption | exact hc.1 | exact hc.2.1 | exact hc.2.2)) (Go.Ab.vc_qs (Go.Ab.vc_q (fun h4 => Go.Ab.vc_qs (Go.Ab.vc_ret ?_)) (fun h4 => Go.Ab.vc_qs (Go.Ab.vc_call (c_ref05_Val va (by first | assumption | exact hc.1 | exact hc.2.1 | exact hc.2.2)) (Go.Ab.vc_qs (Go.Ab.vc_q (fun h5 => Go.Ab.vc_qs (Go.Ab.vc_ret ?_)) (fun h5 => Go.Ab.vc_qs (Go.Ab.vc_q (fun h6 => Go.Ab.vc_qs (Go.Ab.vc_ret ?_)) (fun h6 => Go.Ab.vc_qs (Go.Ab.vc_call (c_ref08_member 2) (Go.Ab.vc_qs (Go.Ab.vc_q (fun h7 => Go.Ab.vc_ret ?_) (fun h7 => Go.Ab.vc_ret ?_)))))))))))))))))))))))))))
  all_goals (first | (simp_all [refCmd, isKind, owned, member]; done) | (simp_all [refCmd, isKind, owned, member] <;> grind))
theorem c_refCmd_3 {w0 : World} (cl sq : Int) (ke va ol : ByteArray) (no : Int) (hc : (Cmd.mk 0 cl sq ke va ol no).short) : AEv Tryd.prog w0 74 [.agg (eCmd ⟨3, cl, sq, ke, va, ol, no⟩)] [] (.d (.int .i64 (refCmd ⟨3, cl, sq, ke, va, ol, no⟩))) [] := by
  refine aev_of_run hmix Tryd.func74 [] 1 ?_
  refine Go.Ab.wp_fn (.qs [false, false, false, false] (.call 110 [A.d (D.int IntKind.i64 3)] [] (A.d (D.bool (owned 3))) [] (.qs [true, true, true, true] (.q (decide (cl < 1)) (.qs [true, true, true, true, true, true, true, true, true, true, true, true, true, true, true, true, true, true, true] (.ret (A.d (D.int IntKind.i64 6), []))) (.qs [false, false, true, true] (.q (decide (cl > 8)) (.qs [true, true, true, true, true, true, true, true, true, true, true, true, true, true] (.ret (A.d (D.int IntKind.i64 6), []))) (.qs [false, false, true, true] (.q (decide (sq < 1)) (.qs [true, true, true, true, true, true, true, true, true] (.ret (A.d (D.int IntKind.i64 6), []))) (.qs [false, false, true] (.q (decide (sq > 4294967296)) (.qs [true, true, true, true, true] (.ret (A.d (D.int IntKind.i64 6), []))) (.qs [false, false] (.call 111 [A.d (D.int IntKind.i64 3)] [] (A.d (D.bool (member 3))) [] (.qs [false, false, false, false, false, false, false, false, false, false, false, true, true, true] (.call 112 [A.d (D.str ke)] [] (A.d (D.bool (keyR ke))) [] (.qs [true] (.q (!keyR ke) (.qs [true, true, true, true, true, true, true, true] (.ret (A.d (D.int IntKind.i64 7), []))) (.qs [false, false, false, false, false, false, false, false, false, false, false, false, false, false, false, false, false, false, false, false, false, false, false, false, false, false, true, true, true, false] (.q (!va.toList == []) (.qs [true, true, true, true, true, true, true, true, true, true, true] (.ret (A.d (D.int IntKind.i64 3), []))) (.qs [false, false, false, true, true, true, false] (.q (!ol.toList == []) (.qs [true, true, true, true, true, true] (.ret (A.d (D.int IntKind.i64 3), []))) (.qs [false, false] (.call 111 [A.d (D.int IntKind.i64 3)] [] (A.d (D.bool (member 3))) [] (.qs [false, false, true, true, true, false] (.q (no != 0) (.ret (A.d (D.int IntKind.i64 3), [])) (.ret (A.d (D.int IntKind.i64 0), [])))))))))))))))))))))))))) (by kernel_rfl) (Go.Ab.vc_qs (Go.Ab.vc_call (c_ref08_Owned 3) (Go.Ab.vc_qs (Go.Ab.vc_q (fun h0 => Go.Ab.vc_qs (Go.Ab.vc_ret ?_)) (fun h0 => Go.Ab.vc_qs (Go.Ab.vc_q (fun h1 => Go.Ab.vc_qs (Go.Ab.vc_ret ?_)) (fun h1 => Go.Ab.vc_qs (Go.Ab.vc_q (fun h2 => Go.Ab.vc_qs (Go.Ab.vc_ret ?_)) (fun h2 => Go.Ab.vc_qs (Go.Ab.vc_q (fun h3 => Go.Ab.vc_qs (Go.Ab.vc_ret ?_)) (fun h3 => Go.Ab.vc_qs (Go.Ab.vc_call (c_ref08_member 3) (Go.Ab.vc_qs (Go.Ab.vc_call (c_ref05_Key ke (by first | assumption | exact hc.1 | exact hc.2.1 | exact hc.2.2)) (Go.Ab.vc_qs (Go.Ab.vc_q (fun h4 => Go.Ab.vc_qs (Go.Ab.vc_ret ?_)) (fun h4 => Go.Ab.vc_qs (Go.Ab.vc_q (fun h5 => Go.Ab.vc_qs (Go.Ab.vc_ret ?_)) (fun h5 => Go.Ab.vc_qs (Go.Ab.vc_q (fun h6 => Go.Ab.vc_qs (Go.Ab.vc_ret ?_)) (fun h6 => Go.Ab.vc_qs (Go.Ab.vc_call (c_ref08_member 3) (Go.Ab.vc_qs (Go.Ab.vc_q (fun h7 => Go.Ab.vc_ret ?_) (fun h7 => Go.Ab.vc_ret ?_)))))))))))))))))))))))))
  all_goals (first | (simp_all [refCmd, isKind, owned, member]; done) | (simp_all [refCmd, isKind, owned, member] <;> grind))
theorem c_refCmd_4 {w0 : World} (cl sq : Int) (ke va ol : ByteArray) (no : Int) (hc : (Cmd.mk 0 cl sq ke va ol no).short) : AEv Tryd.prog w0 74 [.agg (eCmd ⟨4, cl, sq, ke, va, ol, no⟩)] [] (.d (.int .i64 (refCmd ⟨4, cl, sq, ke, va, ol, no⟩))) [] := by
  refine aev_of_run hmix Tryd.func74 [] 1 ?_
  refine Go.Ab.wp_fn (.qs [false, false, false, false] (.call 110 [A.d (D.int IntKind.i64 4)] [] (A.d (D.bool (owned 4))) [] (.qs [true, true, true, true] (.q (decide (cl < 1)) (.qs [true, true, true, true, true, true, true, true, true, true, true, true, true, true, true, true, true, true, true] (.ret (A.d (D.int IntKind.i64 6), []))) (.qs [false, false, true, true] (.q (decide (cl > 8)) (.qs [true, true, true, true, true, true, true, true, true, true, true, true, true, true] (.ret (A.d (D.int IntKind.i64 6), []))) (.qs [false, false, true, true] (.q (decide (sq < 1)) (.qs [true, true, true, true, true, true, true, true, true] (.ret (A.d (D.int IntKind.i64 6), []))) (.qs [false, false, true] (.q (decide (sq > 4294967296)) (.qs [true, true, true, true, true] (.ret (A.d (D.int IntKind.i64 6), []))) (.qs [false, false] (.call 111 [A.d (D.int IntKind.i64 4)] [] (A.d (D.bool (member 4))) [] (.qs [false, false, false, false, false, false, false, false, false, false, false, true, true, true] (.call 112 [A.d (D.str ke)] [] (A.d (D.bool (keyR ke))) [] (.qs [true] (.q (!keyR ke) (.qs [true, true, true, true, true, true, true, true] (.ret (A.d (D.int IntKind.i64 7), []))) (.qs [false, false, false, false, false, false, false, false, false, false, false, false, false, false, false, false, false, false, false, false, false, false, false, false, false, false, true, true, true, false] (.q (!va.toList == []) (.qs [true, true, true, true, true, true, true, true, true, true, true] (.ret (A.d (D.int IntKind.i64 3), []))) (.qs [false, false, false, true, true, true, false] (.q (!ol.toList == []) (.qs [true, true, true, true, true, true] (.ret (A.d (D.int IntKind.i64 3), []))) (.qs [false, false] (.call 111 [A.d (D.int IntKind.i64 4)] [] (A.d (D.bool (member 4))) [] (.qs [false, false, true, true, true, false] (.q (no != 0) (.ret (A.d (D.int IntKind.i64 3), [])) (.ret (A.d (D.int IntKind.i64 0), [])))))))))))))))))))))))))) (by kernel_rfl) (Go.Ab.vc_qs (Go.Ab.vc_call (c_ref08_Owned 4) (Go.Ab.vc_qs (Go.Ab.vc_q (fun h0 => Go.Ab.vc_qs (Go.Ab.vc_ret ?_)) (fun h0 => Go.Ab.vc_qs (Go.Ab.vc_q (fun h1 => Go.Ab.vc_qs (Go.Ab.vc_ret ?_)) (fun h1 => Go.Ab.vc_qs (Go.Ab.vc_q (fun h2 => Go.Ab.vc_qs (Go.Ab.vc_ret ?_)) (fun h2 => Go.Ab.vc_qs (Go.Ab.vc_q (fun h3 => Go.Ab.vc_qs (Go.Ab.vc_ret ?_)) (fun h3 => Go.Ab.vc_qs (Go.Ab.vc_call (c_ref08_member 4) (Go.Ab.vc_qs (Go.Ab.vc_call (c_ref05_Key ke (by first | assumption | exact hc.1 | exact hc.2.1 | exact hc.2.2)) (Go.Ab.vc_qs (Go.Ab.vc_q (fun h4 => Go.Ab.vc_qs (Go.Ab.vc_ret ?_)) (fun h4 => Go.Ab.vc_qs (Go.Ab.vc_q (fun h5 => Go.Ab.vc_qs (Go.Ab.vc_ret ?_)) (fun h5 => Go.Ab.vc_qs (Go.Ab.vc_q (fun h6 => Go.Ab.vc_qs (Go.Ab.vc_ret ?_)) (fun h6 => Go.Ab.vc_qs (Go.Ab.vc_call (c_ref08_member 4) (Go.Ab.vc_qs (Go.Ab.vc_q (fun h7 => Go.Ab.vc_ret ?_) (fun h7 => Go.Ab.vc_ret ?_)))))))))))))))))))))))))
  all_goals (first | (simp_all [refCmd, isKind, owned, member]; done) | (simp_all [refCmd, isKind, owned, member] <;> grind))
theorem c_refCmd_5 {w0 : World} (cl sq : Int) (ke va ol : ByteArray) (no : Int) (hc : (Cmd.mk 0 cl sq ke va ol no).short) : AEv Tryd.prog w0 74 [.agg (eCmd ⟨5, cl, sq, ke, va, ol, no⟩)] [] (.d (.int .i64 (refCmd ⟨5, cl, sq, ke, va, ol, no⟩))) [] := by
  refine aev_of_run hmix Tryd.func74 [] 1 ?_
  refine Go.Ab.wp_fn (.qs [false, false, false, false] (.call 110 [A.d (D.int IntKind.i64 5)] [] (A.d (D.bool (owned 5))) [] (.qs [true, true, true, true] (.q (decide (cl < 1)) (.qs [true, true, true, true, true, true, true, true, true, true, true, true, true, true, true, true, true, true, true] (.ret (A.d (D.int IntKind.i64 6), []))) (.qs [false, false, true, true] (.q (decide (cl > 8)) (.qs [true, true, true, true, true, true, true, true, true, true, true, true, true, true] (.ret (A.d (D.int IntKind.i64 6), []))) (.qs [false, false, true, true] (.q (decide (sq < 1)) (.qs [true, true, true, true, true, true, true, true, true] (.ret (A.d (D.int IntKind.i64 6), []))) (.qs [false, false, true] (.q (decide (sq > 4294967296)) (.qs [true, true, true, true, true] (.ret (A.d (D.int IntKind.i64 6), []))) (.qs [false, false] (.call 111 [A.d (D.int IntKind.i64 5)] [] (A.d (D.bool (member 5))) [] (.qs [false, false, false, false, false, false, false, false, false, false, false, true, true, true] (.call 112 [A.d (D.str ke)] [] (A.d (D.bool (keyR ke))) [] (.qs [true] (.q (!keyR ke) (.qs [true, true, true, true, true, true, true, true] (.ret (A.d (D.int IntKind.i64 7), []))) (.qs [false, true, true, true] (.call 113 [A.d (D.str va)] [] (A.d (D.bool (valT va))) [] (.qs [true, false] (.q (!valT va) (.qs [true, true, true, true, true] (.ret (A.d (D.int IntKind.i64 7), []))) (.qs [false, false, false, true, true, true] (.call 113 [A.d (D.str ol)] [] (A.d (D.bool (valT ol))) [] (.qs [true, false] (.q (!valT ol) (.ret (A.d (D.int IntKind.i64 7), [])) (.qs [false, false, false, false, false, false, false, false, false, false, false, false, false, false, false, false, false, false, false, false, false, false, false, false, false] (.call 111 [A.d (D.int IntKind.i64 5)] [] (A.d (D.bool (member 5))) [] (.qs [false, false, true, true, true, false] (.q (no != 0) (.ret (A.d (D.int IntKind.i64 3), [])) (.ret (A.d (D.int IntKind.i64 0), [])))))))))))))))))))))))))))))) (by kernel_rfl) (Go.Ab.vc_qs (Go.Ab.vc_call (c_ref08_Owned 5) (Go.Ab.vc_qs (Go.Ab.vc_q (fun h0 => Go.Ab.vc_qs (Go.Ab.vc_ret ?_)) (fun h0 => Go.Ab.vc_qs (Go.Ab.vc_q (fun h1 => Go.Ab.vc_qs (Go.Ab.vc_ret ?_)) (fun h1 => Go.Ab.vc_qs (Go.Ab.vc_q (fun h2 => Go.Ab.vc_qs (Go.Ab.vc_ret ?_)) (fun h2 => Go.Ab.vc_qs (Go.Ab.vc_q (fun h3 => Go.Ab.vc_qs (Go.Ab.vc_ret ?_)) (fun h3 => Go.Ab.vc_qs (Go.Ab.vc_call (c_ref08_member 5) (Go.Ab.vc_qs (Go.Ab.vc_call (c_ref05_Key ke (by first | assumption | exact hc.1 | exact hc.2.1 | exact hc.2.2)) (Go.Ab.vc_qs (Go.Ab.vc_q (fun h4 => Go.Ab.vc_qs (Go.Ab.vc_ret ?_)) (fun h4 => Go.Ab.vc_qs (Go.Ab.vc_call (c_ref05_Val va (by first | assumption | exact hc.1 | exact hc.2.1 | exact hc.2.2)) (Go.Ab.vc_qs (Go.Ab.vc_q (fun h5 => Go.Ab.vc_qs (Go.Ab.vc_ret ?_)) (fun h5 => Go.Ab.vc_qs (Go.Ab.vc_call (c_ref05_Val ol (by first | assumption | exact hc.1 | exact hc.2.1 | exact hc.2.2)) (Go.Ab.vc_qs (Go.Ab.vc_q (fun h6 => Go.Ab.vc_ret ?_) (fun h6 => Go.Ab.vc_qs (Go.Ab.vc_call (c_ref08_member 5) (Go.Ab.vc_qs (Go.Ab.vc_q (fun h7 => Go.Ab.vc_ret ?_) (fun h7 => Go.Ab.vc_ret ?_)))))))))))))))))))))))))))))
  all_goals (first | (simp_all [refCmd, isKind, owned, member]; done) | (simp_all [refCmd, isKind, owned, member] <;> grind))
theorem c_refCmd_6 {w0 : World} (cl sq : Int) (ke va ol : ByteArray) (no : Int) (hc : (Cmd.mk 0 cl sq ke va ol no).short) : AEv Tryd.prog w0 74 [.agg (eCmd ⟨6, cl, sq, ke, va, ol, no⟩)] [] (.d (.int .i64 (refCmd ⟨6, cl, sq, ke, va, ol, no⟩))) [] := by
  refine aev_of_run hmix Tryd.func74 [] 1 ?_
  refine Go.Ab.wp_fn (.qs [false, false, false, false] (.call 110 [A.d (D.int IntKind.i64 6)] [] (A.d (D.bool (owned 6))) [] (.qs [false, false, false, false, false, false, false, false, false, false, false, false] (.call 111 [A.d (D.int IntKind.i64 6)] [] (A.d (D.bool (member 6))) [] (.qs [false, false, false, false, false, false, false, false, false, false, false, false, false, false, false, false, false, false, false, false, false, false, false, false, false, false, false, false, false, false, false, false, true, true, true, true] (.q (cl != 0) (.qs [true, true, true, true, true, true, true, true, true, true, true, true, true, true, true, true, true, true, true, true, true, true, true, true] (.ret (A.d (D.int IntKind.i64 3), []))) (.qs [false, false, true, true] (.q (sq != 0) (.qs [true, true, true, true, true, true, true, true, true, true, true, true, true, true, true, true, true, true, true] (.ret (A.d (D.int IntKind.i64 3), []))) (.qs [false, false, true] (.q (!ke.toList == []) (.qs [true, true, true, true, true, true, true, true, true, true, true, true, true, true, true] (.ret (A.d (D.int IntKind.i64 3), []))) (.qs [false, false, true, true, true, false] (.q (!va.toList == []) (.qs [true, true, true, true, true, true, true, true, true, true, true] (.ret (A.d (D.int IntKind.i64 3), []))) (.qs [false, false, false, true, true, true, false] (.q (!ol.toList == []) (.qs [true, true, true, true, true, true] (.ret (A.d (D.int IntKind.i64 3), []))) (.qs [false, false] (.call 111 [A.d (D.int IntKind.i64 6)] [] (A.d (D.bool (member 6))) [] (.qs [false, false, true, true, true, false] (.q (no != 0) (.ret (A.d (D.int IntKind.i64 3), [])) (.ret (A.d (D.int IntKind.i64 0), [])))))))))))))))))))) (by kernel_rfl) (Go.Ab.vc_qs (Go.Ab.vc_call (c_ref08_Owned 6) (Go.Ab.vc_qs (Go.Ab.vc_call (c_ref08_member 6) (Go.Ab.vc_qs (Go.Ab.vc_q (fun h0 => Go.Ab.vc_qs (Go.Ab.vc_ret ?_)) (fun h0 => Go.Ab.vc_qs (Go.Ab.vc_q (fun h1 => Go.Ab.vc_qs (Go.Ab.vc_ret ?_)) (fun h1 => Go.Ab.vc_qs (Go.Ab.vc_q (fun h2 => Go.Ab.vc_qs (Go.Ab.vc_ret ?_)) (fun h2 => Go.Ab.vc_qs (Go.Ab.vc_q (fun h3 => Go.Ab.vc_qs (Go.Ab.vc_ret ?_)) (fun h3 => Go.Ab.vc_qs (Go.Ab.vc_q (fun h4 => Go.Ab.vc_qs (Go.Ab.vc_ret ?_)) (fun h4 => Go.Ab.vc_qs (Go.Ab.vc_call (c_ref08_member 6) (Go.Ab.vc_qs (Go.Ab.vc_q (fun h5 => Go.Ab.vc_ret ?_) (fun h5 => Go.Ab.vc_ret ?_)))))))))))))))))))
  all_goals (first | (simp_all [refCmd, isKind, owned, member]; done) | (simp_all [refCmd, isKind, owned, member] <;> grind))
theorem c_refCmd_7 {w0 : World} (cl sq : Int) (ke va ol : ByteArray) (no : Int) (hc : (Cmd.mk 0 cl sq ke va ol no).short) : AEv Tryd.prog w0 74 [.agg (eCmd ⟨7, cl, sq, ke, va, ol, no⟩)] [] (.d (.int .i64 (refCmd ⟨7, cl, sq, ke, va, ol, no⟩))) [] := by
  refine aev_of_run hmix Tryd.func74 [] 1 ?_
  refine Go.Ab.wp_fn (.qs [false, false, false, false] (.call 110 [A.d (D.int IntKind.i64 7)] [] (A.d (D.bool (owned 7))) [] (.qs [false, false, false, false, false, false, false, false, false, false, false, false] (.call 111 [A.d (D.int IntKind.i64 7)] [] (A.d (D.bool (member 7))) [] (.qs [false, true, true, true, true] (.q (decide (no < 1)) (.qs [true, true, true, false, true] (.ret (A.d (D.int IntKind.i64 6), []))) (.qs [false, false, true, false] (.q (decide (no > 9)) (.ret (A.d (D.int IntKind.i64 6), [])) (.qs [false, false, false, false, false, false, false, false, false, false, false, false, false, false, false, false, false, false, false, false, false, false, false, false, true, true, true, true] (.q (cl != 0) (.qs [true, true, true, true, true, true, true, true, true, true, true, true, true, true, true, true, true, true, true, true, true, true, true, true] (.ret (A.d (D.int IntKind.i64 3), []))) (.qs [false, false, true, true] (.q (sq != 0) (.qs [true, true, true, true, true, true, true, true, true, true, true, true, true, true, true, true, true, true, true] (.ret (A.d (D.int IntKind.i64 3), []))) (.qs [false, false, true] (.q (!ke.toList == []) (.qs [true, true, true, true, true, true, true, true, true, true, true, true, true, true, true] (.ret (A.d (D.int IntKind.i64 3), []))) (.qs [false, false, true, true, true, false] (.q (!va.toList == []) (.qs [true, true, true, true, true, true, true, true, true, true, true] (.ret (A.d (D.int IntKind.i64 3), []))) (.qs [false, false, false, true, true, true, false] (.q (!ol.toList == []) (.qs [true, true, true, true, true, true] (.ret (A.d (D.int IntKind.i64 3), []))) (.qs [false, false] (.call 111 [A.d (D.int IntKind.i64 7)] [] (A.d (D.bool (member 7))) [] (.qs [false, false, false, false, false, false, false] (.ret (A.d (D.int IntKind.i64 0), []))))))))))))))))))))))) (by kernel_rfl) (Go.Ab.vc_qs (Go.Ab.vc_call (c_ref08_Owned 7) (Go.Ab.vc_qs (Go.Ab.vc_call (c_ref08_member 7) (Go.Ab.vc_qs (Go.Ab.vc_q (fun h0 => Go.Ab.vc_qs (Go.Ab.vc_ret ?_)) (fun h0 => Go.Ab.vc_qs (Go.Ab.vc_q (fun h1 => Go.Ab.vc_ret ?_) (fun h1 => Go.Ab.vc_qs (Go.Ab.vc_q (fun h2 => Go.Ab.vc_qs (Go.Ab.vc_ret ?_)) (fun h2 => Go.Ab.vc_qs (Go.Ab.vc_q (fun h3 => Go.Ab.vc_qs (Go.Ab.vc_ret ?_)) (fun h3 => Go.Ab.vc_qs (Go.Ab.vc_q (fun h4 => Go.Ab.vc_qs (Go.Ab.vc_ret ?_)) (fun h4 => Go.Ab.vc_qs (Go.Ab.vc_q (fun h5 => Go.Ab.vc_qs (Go.Ab.vc_ret ?_)) (fun h5 => Go.Ab.vc_qs (Go.Ab.vc_q (fun h6 => Go.Ab.vc_qs (Go.Ab.vc_ret ?_)) (fun h6 => Go.Ab.vc_qs (Go.Ab.vc_call (c_ref08_member 7) (Go.Ab.vc_qs (Go.Ab.vc_ret ?_))))))))))))))))))))))
  all_goals (first | (simp_all [refCmd, isKind, owned, member]; done) | (simp_all [refCmd, isKind, owned, member] <;> grind))
theorem c_refCmd_8 {w0 : World} (cl sq : Int) (ke va ol : ByteArray) (no : Int) (hc : (Cmd.mk 0 cl sq ke va ol no).short) : AEv Tryd.prog w0 74 [.agg (eCmd ⟨8, cl, sq, ke, va, ol, no⟩)] [] (.d (.int .i64 (refCmd ⟨8, cl, sq, ke, va, ol, no⟩))) [] := by
  refine aev_of_run hmix Tryd.func74 [] 1 ?_
  refine Go.Ab.wp_fn (.qs [false, false, false, false] (.call 110 [A.d (D.int IntKind.i64 8)] [] (A.d (D.bool (owned 8))) [] (.qs [false, false, false, false, false, false, false, false, false, false, false, false] (.call 111 [A.d (D.int IntKind.i64 8)] [] (A.d (D.bool (member 8))) [] (.qs [false, true, true, true, true] (.q (decide (no < 1)) (.qs [true, true, true, false, true] (.ret (A.d (D.int IntKind.i64 6), []))) (.qs [false, false, true, false] (.q (decide (no > 9)) (.ret (A.d (D.int IntKind.i64 6), [])) (.qs [false, false, false, false, false, false, false, false, false, false, false, false, false, false, false, false, false, false, false, false, false, false, false, false, true, true, true, true] (.q (cl != 0) (.qs [true, true, true, true, true, true, true, true, true, true, true, true, true, true, true, true, true, true, true, true, true, true, true, true] (.ret (A.d (D.int IntKind.i64 3), []))) (.qs [false, false, true, true] (.q (sq != 0) (.qs [true, true, true, true, true, true, true, true, true, true, true, true, true, true, true, true, true, true, true] (.ret (A.d (D.int IntKind.i64 3), []))) (.qs [false, false, true] (.q (!ke.toList == []) (.qs [true, true, true, true, true, true, true, true, true, true, true, true, true, true, true] (.ret (A.d (D.int IntKind.i64 3), []))) (.qs [false, false, true, true, true, false] (.q (!va.toList == []) (.qs [true, true, true, true, true, true, true, true, true, true, true] (.ret (A.d (D.int IntKind.i64 3), []))) (.qs [false, false, false, true, true, true, false] (.q (!ol.toList == []) (.qs [true, true, true, true, true, true] (.ret (A.d (D.int IntKind.i64 3), []))) (.qs [false, false] (.call 111 [A.d (D.int IntKind.i64 8)] [] (A.d (D.bool (member 8))) [] (.qs [false, false, false, false, false, false, false] (.ret (A.d (D.int IntKind.i64 0), []))))))))))))))))))))))) (by kernel_rfl) (Go.Ab.vc_qs (Go.Ab.vc_call (c_ref08_Owned 8) (Go.Ab.vc_qs (Go.Ab.vc_call (c_ref08_member 8) (Go.Ab.vc_qs (Go.Ab.vc_q (fun h0 => Go.Ab.vc_qs (Go.Ab.vc_ret ?_)) (fun h0 => Go.Ab.vc_qs (Go.Ab.vc_q (fun h1 => Go.Ab.vc_ret ?_) (fun h1 => Go.Ab.vc_qs (Go.Ab.vc_q (fun h2 => Go.Ab.vc_qs (Go.Ab.vc_ret ?_)) (fun h2 => Go.Ab.vc_qs (Go.Ab.vc_q (fun h3 => Go.Ab.vc_qs (Go.Ab.vc_ret ?_)) (fun h3 => Go.Ab.vc_qs (Go.Ab.vc_q (fun h4 => Go.Ab.vc_qs (Go.Ab.vc_ret ?_)) (fun h4 => Go.Ab.vc_qs (Go.Ab.vc_q (fun h5 => Go.Ab.vc_qs (Go.Ab.vc_ret ?_)) (fun h5 => Go.Ab.vc_qs (Go.Ab.vc_q (fun h6 => Go.Ab.vc_qs (Go.Ab.vc_ret ?_)) (fun h6 => Go.Ab.vc_qs (Go.Ab.vc_call (c_ref08_member 8) (Go.Ab.vc_qs (Go.Ab.vc_ret ?_))))))))))))))))))))))
  all_goals (first | (simp_all [refCmd, isKind, owned, member]; done) | (simp_all [refCmd, isKind, owned, member] <;> grind))
theorem c_refCmd_none {w0 : World} (k : Int) (cl sq : Int) (ke va ol : ByteArray) (no : Int) (hc : (Cmd.mk 0 cl sq ke va ol no).short) (hk : isKind k = false) : AEv Tryd.prog w0 74 [.agg (eCmd ⟨k, cl, sq, ke, va, ol, no⟩)] [] (.d (.int .i64 (refCmd ⟨k, cl, sq, ke, va, ol, no⟩))) [] := by
  refine aev_of_run hmix Tryd.func74 [] 1 ?_
  refine Go.Ab.wp_fn (.q (decide (k < 1)) (.qs [true, true, true] (.ret (A.d (D.int IntKind.i64 5), []))) (.qs [false, false] (.q (decide (k > 8)) (.ret (A.d (D.int IntKind.i64 5), [])) .stop))) (by kernel_rfl) (Go.Ab.vc_q (fun h0 => Go.Ab.vc_qs (Go.Ab.vc_ret ?_)) (fun h0 => Go.Ab.vc_qs (Go.Ab.vc_q (fun _ => Go.Ab.vc_ret ?_) (fun hp => absurd hp (by intro hp; exact (by simp only [isKind, decide_eq_true_eq, decide_eq_false_iff_not, Bool.and_eq_false_iff] at *; omega : False))))))
  all_goals (simp [refCmd, hk])
theorem c_ref08_Check {w0 : World} (c : Cmd) (hc : c.short) : AEv Tryd.prog w0 74 [.agg (eCmd c)] [] (.d (.int .i64 (refCmd c))) [] := by
  obtain ⟨k, cl, sq, ke, va, ol, no⟩ := c
  have hc' : (Cmd.mk 0 cl sq ke va ol no).short := hc
  cases hk : isKind k with
  | false => exact c_refCmd_none k cl sq ke va ol no hc' hk
  | true =>
    have : k = 1 ∨ k = 2 ∨ k = 3 ∨ k = 4 ∨ k = 5 ∨ k = 6 ∨ k = 7 ∨ k = 8 := by simp [isKind] at hk; omega
    rcases this with rfl | rfl | rfl | rfl | rfl | rfl | rfl | rfl
    · exact c_refCmd_1 cl sq ke va ol no hc'
    · exact c_refCmd_2 cl sq ke va ol no hc'
    · exact c_refCmd_3 cl sq ke va ol no hc'
    · exact c_refCmd_4 cl sq ke va ol no hc'
    · exact c_refCmd_5 cl sq ke va ol no hc'
    · exact c_refCmd_6 cl sq ke va ol no hc'
    · exact c_refCmd_7 cl sq ke va ol no hc'
    · exact c_refCmd_8 cl sq ke va ol no hc'
end Go.Proofs.Tryd
/- The two checks of a command say the same. -/
set_option linter.unusedVariables false
set_option linter.unusedSimpArgs false
namespace Go.Proofs.Tryd
open Go Go.Ab Go.Pl
theorem off0 : off 0 1 = true ∧ off 0 2 = true ∧ off 0 4 = true ∧ off 0 8 = true ∧ off 0 16 = true := by decide
theorem off3 : off 3 1 = false ∧ off 3 2 = false ∧ off 3 4 = true ∧ off 3 8 = true ∧ off 3 16 = true := by decide
theorem off11 : off 11 1 = false ∧ off 11 2 = false ∧ off 11 4 = true ∧ off 11 8 = false ∧ off 11 16 = true := by decide
theorem off15 : off 15 1 = false ∧ off 15 2 = false ∧ off 15 4 = false ∧ off 15 8 = false ∧ off 15 16 = true := by decide
theorem off16 : off 16 1 = true ∧ off 16 2 = true ∧ off 16 4 = true ∧ off 16 8 = true ∧ off 16 16 = false := by decide
theorem refCmd_eq (c : Cmd) : refCmd c = cmdErr c := by
  obtain ⟨k, cl, sq, ke, va, ol, no⟩ := c
  cases hk : isKind k with
  | false => simp [refCmd, cmdErr, hk]
  | true =>
    have : k = 1 ∨ k = 2 ∨ k = 3 ∨ k = 4 ∨ k = 5 ∨ k = 6 ∨ k = 7 ∨ k = 8 := by simp [isKind] at hk; omega
    clear hk
    have a0 := off0
    have a3 := off3
    have a11 := off11
    have a15 := off15
    have a16 := off16
    rcases this with rfl | rfl | rfl | rfl | rfl | rfl | rfl | rfl <;> simp [refCmd, cmdErr, isKind, mask, accR, accT, accF, numOk, txtOk, numZ, txtZ, owned, member, a0, a3, a11, a15, a16] <;> (repeat' split) <;> first | rfl | omega | grind
end Go.Proofs.Tryd
set_option maxRecDepth 100000
set_option maxHeartbeats 4000000
set_option linter.unusedVariables false
set_option linter.unusedSimpArgs false
namespace Go.Proofs.Tryd
open Go Go.Ab Go.Pl Go.RowKit Go.Proofs.YtmecehpkjffanaaDoor
attribute [local irreducible] Go.Ab.wp Go.Ab.vc Go.Ab.run Go.Ab.runFn Go.Ab.body1 Go.Ab.Tr.qt Go.Ab.Tr.qf Go.Ab.AEv
theorem c_recone_ranges {w0 : World} (x : Rec) (c d : Bool) : AEv Tryd.prog w0 67 [.agg (eRec x), .agg [.d (.bool (hasBal x.kind)), .d (.bool (hasInd x.kind)), .d (.bool c), .d (.bool d)]] [] (.d (.bool (rangesB x))) [] := by
  refine aev_of_run hmix Tryd.func67 [] 1 ?_
  refine Go.Ab.wp_fn (.q (hasBal x.kind) (.qs [true, true] (.call 102 [A.agg [A.d (D.int IntKind.i64 x.round), A.d (D.int IntKind.i64 x.node)]] [] (A.d (D.bool (mayB x.round x.node))) [] (.qs [true, true] (.q (!mayB x.round x.node) (.qs [true, true, true, true, true] (.ret (A.d (D.bool false), []))) (.qs [false, false, false, true] (.q (x.round == 0 && (x.node == 0 && true)) (.ret (A.d (D.bool false), [])) (.q (!hasInd x.kind) (.qs [true, true, true, true] (.ret (A.d (D.bool true), []))) (.qs [false, false, false] (.q (decide (x.index ≥ 1)) (.qs [true, true, false] (.ret (A.d (D.bool (decide (x.index ≤ 4294967296))), []))) (.qs [false, false, false] (.ret (A.d (D.bool false), [])))))))))))) (.qs [false, false, false, false, false, false] (.q (!hasInd x.kind) (.qs [true, true, true, true] (.ret (A.d (D.bool true), []))) (.qs [false, false, false] (.q (decide (x.index ≥ 1)) (.qs [true, true, false] (.ret (A.d (D.bool (decide (x.index ≤ 4294967296))), []))) (.qs [false, false, false] (.ret (A.d (D.bool false), [])))))))) (by kernel_rfl) (Go.Ab.vc_q (fun h0 => Go.Ab.vc_qs (Go.Ab.vc_call (c_ballot_May x.round x.node) (Go.Ab.vc_qs (Go.Ab.vc_q (fun h1 => Go.Ab.vc_qs (Go.Ab.vc_ret ?_)) (fun h1 => Go.Ab.vc_qs (Go.Ab.vc_q (fun h2 => Go.Ab.vc_ret ?_) (fun h2 => Go.Ab.vc_q (fun h3 => Go.Ab.vc_qs (Go.Ab.vc_ret ?_)) (fun h3 => Go.Ab.vc_qs (Go.Ab.vc_q (fun h4 => Go.Ab.vc_qs (Go.Ab.vc_ret ?_)) (fun h4 => Go.Ab.vc_qs (Go.Ab.vc_ret ?_))))))))))) (fun h0 => Go.Ab.vc_qs (Go.Ab.vc_q (fun h1 => Go.Ab.vc_qs (Go.Ab.vc_ret ?_)) (fun h1 => Go.Ab.vc_qs (Go.Ab.vc_q (fun h2 => Go.Ab.vc_qs (Go.Ab.vc_ret ?_)) (fun h2 => Go.Ab.vc_qs (Go.Ab.vc_ret ?_)))))))
  all_goals (first | (simp_all [rangesB]; done) | (simp_all [rangesB] <;> grind) | grind [rangesB])
theorem c_recone_others {w0 : World} (x : Rec) : AEv Tryd.prog w0 69 [.agg (eRec x), .agg [.d (.bool (hasBal x.kind)), .d (.bool (hasInd x.kind)), .d (.bool (hasCmd x.kind)), .d (.bool (x.kind == 4))]] [] (.d (.bool (othersB x))) [] := by
  refine aev_of_run hmix Tryd.func69 [] 1 ?_
  refine Go.Ab.wp_fn (.q (!hasBal x.kind) (.qs [true, true, true] (.q (!(x.round == 0 && (x.node == 0 && true))) (.q (!(x.round == 0 && (x.node == 0 && true))) (.ret (A.d (D.bool true), [])) .stop) (.q (!hasInd x.kind) (.qs [true, true] (.q (x.index != 0) (.q (x.index != 0) (.ret (A.d (D.bool true), [])) .stop) (.q (!hasCmd x.kind) (.qs [true, true, true] (.q (!(x.cmd.kind == 0 && (x.cmd.client == 0 && (x.cmd.seq == 0 && (x.cmd.key.toList == [] && (x.cmd.val.toList == [] && (x.cmd.old.toList == [] && (x.cmd.node == 0 && true)))))))) (.ret (A.d (D.bool true), [])) (.ret (A.d (D.bool !(x.kind == 4) == decide ((↑(List.map (fun b => [D.int IntKind.u8 (↑b.toNat : Int)]) x.7).length : Int) > 0)), [])))) (.qs [false, false, false, false] (.ret (A.d (D.bool !(x.kind == 4) == decide ((↑(List.map (fun b => [D.int IntKind.u8 (↑b.toNat : Int)]) x.7).length : Int) > 0)), [])))))) (.qs [false, false, false] (.q (!hasCmd x.kind) (.qs [true, true, true] (.q (!(x.cmd.kind == 0 && (x.cmd.client == 0 && (x.cmd.seq == 0 && (x.cmd.key.toList == [] && (x.cmd.val.toList == [] && (x.cmd.old.toList == [] && (x.cmd.node == 0 && true)))))))) (.ret (A.d (D.bool true), [])) (.ret (A.d (D.bool !(x.kind == 4) == decide ((↑(List.map (fun b => [D.int IntKind.u8 (↑b.toNat : Int)]) x.7).length : Int) > 0)), [])))) (.qs [false, false, false, false] (.ret (A.d (D.bool !(x.kind == 4) == decide ((↑(List.map (fun b => [D.int IntKind.u8 (↑b.toNat : Int)]) x.7).length : Int) > 0)), [])))))))) (.qs [false, false, false, false] (.q (!hasInd x.kind) (.qs [true, true] (.q (x.index != 0) (.q (x.index != 0) (.ret (A.d (D.bool true), [])) .stop) (.q (!hasCmd x.kind) (.qs [true, true, true] (.q (!(x.cmd.kind == 0 && (x.cmd.client == 0 && (x.cmd.seq == 0 && (x.cmd.key.toList == [] && (x.cmd.val.toList == [] && (x.cmd.old.toList == [] && (x.cmd.node == 0 && true)))))))) (.ret (A.d (D.bool true), [])) (.ret (A.d (D.bool !(x.kind == 4) == decide ((↑(List.map (fun b => [D.int IntKind.u8 (↑b.toNat : Int)]) x.7).length : Int) > 0)), [])))) (.qs [false, false, false, false] (.ret (A.d (D.bool !(x.kind == 4) == decide ((↑(List.map (fun b => [D.int IntKind.u8 (↑b.toNat : Int)]) x.7).length : Int) > 0)), [])))))) (.qs [false, false, false] (.q (!hasCmd x.kind) (.qs [true, true, true] (.q (!(x.cmd.kind == 0 && (x.cmd.client == 0 && (x.cmd.seq == 0 && (x.cmd.key.toList == [] && (x.cmd.val.toList == [] && (x.cmd.old.toList == [] && (x.cmd.node == 0 && true)))))))) (.ret (A.d (D.bool true), [])) (.ret (A.d (D.bool !(x.kind == 4) == decide ((↑(List.map (fun b => [D.int IntKind.u8 (↑b.toNat : Int)]) x.7).length : Int) > 0)), [])))) (.qs [false, false, false, false] (.ret (A.d (D.bool !(x.kind == 4) == decide ((↑(List.map (fun b => [D.int IntKind.u8 (↑b.toNat : Int)]) x.7).length : Int) > 0)), [])))))))) (by kernel_rfl) (Go.Ab.vc_q (fun h0 => Go.Ab.vc_qs (Go.Ab.vc_q (fun h1 => Go.Ab.vc_q (fun _ => Go.Ab.vc_ret ?_) (fun hp => absurd hp (by intro hp; exact (by simp_all : False)))) (fun h1 => Go.Ab.vc_q (fun h2 => Go.Ab.vc_qs (Go.Ab.vc_q (fun h3 => Go.Ab.vc_q (fun _ => Go.Ab.vc_ret ?_) (fun hp => absurd hp (by intro hp; exact (by simp_all : False)))) (fun h3 => Go.Ab.vc_q (fun h4 => Go.Ab.vc_qs (Go.Ab.vc_q (fun h5 => Go.Ab.vc_ret ?_) (fun h5 => Go.Ab.vc_ret ?_))) (fun h4 => Go.Ab.vc_qs (Go.Ab.vc_ret ?_))))) (fun h2 => Go.Ab.vc_qs (Go.Ab.vc_q (fun h3 => Go.Ab.vc_qs (Go.Ab.vc_q (fun h4 => Go.Ab.vc_ret ?_) (fun h4 => Go.Ab.vc_ret ?_))) (fun h3 => Go.Ab.vc_qs (Go.Ab.vc_ret ?_))))))) (fun h0 => Go.Ab.vc_qs (Go.Ab.vc_q (fun h1 => Go.Ab.vc_qs (Go.Ab.vc_q (fun h2 => Go.Ab.vc_q (fun _ => Go.Ab.vc_ret ?_) (fun hp => absurd hp (by intro hp; exact (by simp_all : False)))) (fun h2 => Go.Ab.vc_q (fun h3 => Go.Ab.vc_qs (Go.Ab.vc_q (fun h4 => Go.Ab.vc_ret ?_) (fun h4 => Go.Ab.vc_ret ?_))) (fun h3 => Go.Ab.vc_qs (Go.Ab.vc_ret ?_))))) (fun h1 => Go.Ab.vc_qs (Go.Ab.vc_q (fun h2 => Go.Ab.vc_qs (Go.Ab.vc_q (fun h3 => Go.Ab.vc_ret ?_) (fun h3 => Go.Ab.vc_ret ?_))) (fun h2 => Go.Ab.vc_qs (Go.Ab.vc_ret ?_)))))))
  all_goals (first | (simp_all [othersB, cmdZ]; done) | (simp_all [othersB, cmdZ] <;> grind))
theorem c_recone_Check {w0 : World} (hL : Laid w0) (x : Rec) : AEv Tryd.prog w0 17 [.agg (eRec x)] [] (.d (.int .i64 (recErr x))) [] := by
  refine aev_of_run hmix Tryd.func17 [] 1 ?_
  refine Go.Ab.wp_fn (.call 66 [A.d (D.int IntKind.i64 x.kind)] [] (A.tup [A.agg [A.d (D.bool (hasBal x.kind)), A.d (D.bool (hasInd x.kind)), A.d (D.bool (hasCmd x.kind)), A.d (D.bool (x.kind == 4))], A.d (D.bool (hasBal x.kind || hasInd x.kind))]) [] (.q (!(hasBal x.kind || hasInd x.kind)) (.ret (A.d (D.int IntKind.i64 5), [])) (.call 67 [A.agg [A.d (D.int IntKind.i64 x.kind), A.d (D.int IntKind.i64 x.round), A.d (D.int IntKind.i64 x.node), A.d (D.int IntKind.i64 x.index), A.d (D.int IntKind.i64 x.cmd.kind), A.d (D.int IntKind.i64 x.cmd.client), A.d (D.int IntKind.i64 x.cmd.seq), A.d (D.str x.cmd.key), A.d (D.str x.cmd.val), A.d (D.str x.cmd.old), A.d (D.int IntKind.i64 x.cmd.node), A.d (D.slice x.inil 1 (List.map (fun b => [D.int IntKind.u8 (↑b.toNat : Int)]) x.7))], A.agg [A.d (D.bool (hasBal x.kind)), A.d (D.bool (hasInd x.kind)), A.d (D.bool (hasCmd x.kind)), A.d (D.bool (x.kind == 4))]] [] (A.d (D.bool (rangesB x))) [] (.q (!rangesB x) (.ret (A.d (D.int IntKind.i64 6), [])) (.q (x.kind == 4) (.qs [true, true, true] (.q (decide ((↑(List.map (fun b => [D.int IntKind.u8 (↑b.toNat : Int)]) x.7).length : Int) > 32768)) (.ret (A.d (D.int IntKind.i64 2), [])) (.q (hasCmd x.kind) (.call 68 [A.agg [A.d (D.int IntKind.i64 x.cmd.kind), A.d (D.int IntKind.i64 x.cmd.client), A.d (D.int IntKind.i64 x.cmd.seq), A.d (D.str x.cmd.key), A.d (D.str x.cmd.val), A.d (D.str x.cmd.old), A.d (D.int IntKind.i64 x.cmd.node)]] [] (A.d (D.int IntKind.i64 (cmdErr x.cmd))) [] (.q (cmdErr x.cmd != 0) (.ret (A.d (D.int IntKind.i64 (cmdErr x.cmd)), [])) (.call 69 [A.agg [A.d (D.int IntKind.i64 x.kind), A.d (D.int IntKind.i64 x.round), A.d (D.int IntKind.i64 x.node), A.d (D.int IntKind.i64 x.index), A.d (D.int IntKind.i64 x.cmd.kind), A.d (D.int IntKind.i64 x.cmd.client), A.d (D.int IntKind.i64 x.cmd.seq), A.d (D.str x.cmd.key), A.d (D.str x.cmd.val), A.d (D.str x.cmd.old), A.d (D.int IntKind.i64 x.cmd.node), A.d (D.slice x.inil 1 (List.map (fun b => [D.int IntKind.u8 (↑b.toNat : Int)]) x.7))], A.agg [A.d (D.bool (hasBal x.kind)), A.d (D.bool (hasInd x.kind)), A.d (D.bool (hasCmd x.kind)), A.d (D.bool (x.kind == 4))]] [] (A.d (D.bool (othersB x))) [] (.q (othersB x) (.ret (A.d (D.int IntKind.i64 3), [])) (.ret (A.d (D.int IntKind.i64 0), [])))))) (.call 69 [A.agg [A.d (D.int IntKind.i64 x.kind), A.d (D.int IntKind.i64 x.round), A.d (D.int IntKind.i64 x.node), A.d (D.int IntKind.i64 x.index), A.d (D.int IntKind.i64 x.cmd.kind), A.d (D.int IntKind.i64 x.cmd.client), A.d (D.int IntKind.i64 x.cmd.seq), A.d (D.str x.cmd.key), A.d (D.str x.cmd.val), A.d (D.str x.cmd.old), A.d (D.int IntKind.i64 x.cmd.node), A.d (D.slice x.inil 1 (List.map (fun b => [D.int IntKind.u8 (↑b.toNat : Int)]) x.7))], A.agg [A.d (D.bool (hasBal x.kind)), A.d (D.bool (hasInd x.kind)), A.d (D.bool (hasCmd x.kind)), A.d (D.bool (x.kind == 4))]] [] (A.d (D.bool (othersB x))) [] (.q (othersB x) (.ret (A.d (D.int IntKind.i64 3), [])) (.ret (A.d (D.int IntKind.i64 0), []))))))) (.qs [false, false, false, false] (.q (hasCmd x.kind) (.call 68 [A.agg [A.d (D.int IntKind.i64 x.cmd.kind), A.d (D.int IntKind.i64 x.cmd.client), A.d (D.int IntKind.i64 x.cmd.seq), A.d (D.str x.cmd.key), A.d (D.str x.cmd.val), A.d (D.str x.cmd.old), A.d (D.int IntKind.i64 x.cmd.node)]] [] (A.d (D.int IntKind.i64 (cmdErr x.cmd))) [] (.q (cmdErr x.cmd != 0) (.ret (A.d (D.int IntKind.i64 (cmdErr x.cmd)), [])) (.call 69 [A.agg [A.d (D.int IntKind.i64 x.kind), A.d (D.int IntKind.i64 x.round), A.d (D.int IntKind.i64 x.node), A.d (D.int IntKind.i64 x.index), A.d (D.int IntKind.i64 x.cmd.kind), A.d (D.int IntKind.i64 x.cmd.client), A.d (D.int IntKind.i64 x.cmd.seq), A.d (D.str x.cmd.key), A.d (D.str x.cmd.val), A.d (D.str x.cmd.old), A.d (D.int IntKind.i64 x.cmd.node), A.d (D.slice x.inil 1 (List.map (fun b => [D.int IntKind.u8 (↑b.toNat : Int)]) x.7))], A.agg [A.d (D.bool (hasBal x.kind)), A.d (D.bool (hasInd x.kind)), A.d (D.bool (hasCmd x.kind)), A.d (D.bool (x.kind == 4))]] [] (A.d (D.bool (othersB x))) [] (.q (othersB x) (.ret (A.d (D.int IntKind.i64 3), [])) (.ret (A.d (D.int IntKind.i64 0), [])))))) (.call 69 [A.agg [A.d (D.int IntKind.i64 x.kind), A.d (D.int IntKind.i64 x.round), A.d (D.int IntKind.i64 x.node), A.d (D.int IntKind.i64 x.index), A.d (D.int IntKind.i64 x.cmd.kind), A.d (D.int IntKind.i64 x.cmd.client), A.d (D.int IntKind.i64 x.cmd.seq), A.d (D.str x.cmd.key), A.d (D.str x.cmd.val), A.d (D.str x.cmd.old), A.d (D.int IntKind.i64 x.cmd.node), A.d (D.slice x.inil 1 (List.map (fun b => [D.int IntKind.u8 (↑b.toNat : Int)]) x.7))], A.agg [A.d (D.bool (hasBal x.kind)), A.d (D.bool (hasInd x.kind)), A.d (D.bool (hasCmd x.kind)), A.d (D.bool (x.kind == 4))]] [] (A.d (D.bool (othersB x))) [] (.q (othersB x) (.ret (A.d (D.int IntKind.i64 3), [])) (.ret (A.d (D.int IntKind.i64 0), []))))))))))) (by kernel_rfl) (Go.Ab.vc_call (c_recone_fields x.kind) (Go.Ab.vc_q (fun h0 => Go.Ab.vc_ret ?_) (fun h0 => Go.Ab.vc_call (c_recone_ranges x (hasCmd x.kind) (x.kind == 4)) (Go.Ab.vc_q (fun h1 => Go.Ab.vc_ret ?_) (fun h1 => Go.Ab.vc_q (fun h2 => Go.Ab.vc_qs (Go.Ab.vc_q (fun h3 => Go.Ab.vc_ret ?_) (fun h3 => Go.Ab.vc_q (fun h4 => Go.Ab.vc_call (c_cmd_Check (by first | assumption | exact rfl) x.cmd) (Go.Ab.vc_q (fun h5 => Go.Ab.vc_ret ?_) (fun h5 => Go.Ab.vc_call (c_recone_others x) (Go.Ab.vc_q (fun h6 => Go.Ab.vc_ret ?_) (fun h6 => Go.Ab.vc_ret ?_))))) (fun h4 => Go.Ab.vc_call (c_recone_others x) (Go.Ab.vc_q (fun h5 => Go.Ab.vc_ret ?_) (fun h5 => Go.Ab.vc_ret ?_)))))) (fun h2 => Go.Ab.vc_qs (Go.Ab.vc_q (fun h3 => Go.Ab.vc_call (c_cmd_Check (by first | assumption | exact rfl) x.cmd) (Go.Ab.vc_q (fun h4 => Go.Ab.vc_ret ?_) (fun h4 => Go.Ab.vc_call (c_recone_others x) (Go.Ab.vc_q (fun h5 => Go.Ab.vc_ret ?_) (fun h5 => Go.Ab.vc_ret ?_))))) (fun h3 => Go.Ab.vc_call (c_recone_others x) (Go.Ab.vc_q (fun h4 => Go.Ab.vc_ret ?_) (fun h4 => Go.Ab.vc_ret ?_))))))))))
  all_goals (first | (simp_all [recErr]; done) | (simp_all [recErr] <;> grind) | grind [recErr])
def oldErr (x : Rec) : Int := if recErr x != 0 then recErr x else if hasCmd x.kind && !verHas 1 x.cmd.kind then 8 else 0
theorem c_recone_older {w0 : World} (hL : Laid w0) (x : Rec) : AEv Tryd.prog w0 84 [.agg (eRec x)] [] (.d (.int .i64 (oldErr x))) [] := by
  refine aev_of_run hmix Tryd.func84 [] 1 ?_
  refine Go.Ab.wp_fn (.call 17 [A.agg [A.d (D.int IntKind.i64 x.kind), A.d (D.int IntKind.i64 x.round), A.d (D.int IntKind.i64 x.node), A.d (D.int IntKind.i64 x.index), A.d (D.int IntKind.i64 x.cmd.kind), A.d (D.int IntKind.i64 x.cmd.client), A.d (D.int IntKind.i64 x.cmd.seq), A.d (D.str x.cmd.key), A.d (D.str x.cmd.val), A.d (D.str x.cmd.old), A.d (D.int IntKind.i64 x.cmd.node), A.d (D.slice x.inil 1 (List.map (fun b => [D.int IntKind.u8 (↑b.toNat : Int)]) x.7))]] [] (A.d (D.int IntKind.i64 (recErr x))) [] (.q (recErr x != 0) (.ret (A.d (D.int IntKind.i64 (recErr x)), [])) (.call 66 [A.d (D.int IntKind.i64 x.kind)] [] (A.tup [A.agg [A.d (D.bool (hasBal x.kind)), A.d (D.bool (hasInd x.kind)), A.d (D.bool (hasCmd x.kind)), A.d (D.bool (x.kind == 4))], A.d (D.bool (hasBal x.kind || hasInd x.kind))]) [] (.q (hasCmd x.kind) (.qs [true, true, true] (.call 82 [A.d (D.int IntKind.i64 1), A.d (D.int IntKind.i64 x.cmd.kind)] [] (A.d (D.bool (verHas 1 x.cmd.kind))) [] (.qs [true] (.q (!verHas 1 x.cmd.kind) (.ret (A.d (D.int IntKind.i64 8), [])) (.ret (A.d (D.int IntKind.i64 0), [])))))) (.qs [false, false, false, false, false] (.ret (A.d (D.int IntKind.i64 0), []))))))) (by kernel_rfl) (Go.Ab.vc_call (c_recone_Check (by first | assumption | exact rfl) x) (Go.Ab.vc_q (fun h0 => Go.Ab.vc_ret ?_) (fun h0 => Go.Ab.vc_call (c_recone_fields x.kind) (Go.Ab.vc_q (fun h1 => Go.Ab.vc_qs (Go.Ab.vc_call (c_vers_Has 1 x.cmd.kind) (Go.Ab.vc_qs (Go.Ab.vc_q (fun h2 => Go.Ab.vc_ret ?_) (fun h2 => Go.Ab.vc_ret ?_))))) (fun h1 => Go.Ab.vc_qs (Go.Ab.vc_ret ?_))))))
  all_goals (first | (simp_all [oldErr]; done) | (simp_all [oldErr] <;> grind) | grind [oldErr])
theorem c_recone_Same {w0 : World} (x y : Rec) (hz : x.image.length ≤ 1000000000) : AEv Tryd.prog w0 19 [.agg (eRec x), .agg (eRec y)] [] (.d (.bool (recSame x y))) [] := by
  refine aev_of_run hmix Tryd.func19 [] 1 ?_
  refine Go.Ab.wp_fn (.q (x.kind == y.kind) (.qs [true, true, true, true] (.q (x.round == y.round && (x.node == y.node && true)) (.qs [true, true, true, true] (.q (x.index == y.index) (.qs [true, true, true, true] (.q (x.cmd.kind == y.cmd.kind && (x.cmd.client == y.cmd.client && (x.cmd.seq == y.cmd.seq && (x.cmd.key.toList == y.cmd.key.toList && (x.cmd.val.toList == y.cmd.val.toList && (x.cmd.old.toList == y.cmd.old.toList && (x.cmd.node == y.cmd.node && true))))))) (.qs [true, true, true, true] (.call 75 [A.d (D.slice x.inil 1 (List.map (fun b => [D.int IntKind.u8 (↑b.toNat : Int)]) x.7)), A.d (D.slice y.inil 1 (List.map (fun b => [D.int IntKind.u8 (↑b.toNat : Int)]) y.7))] [] (A.d (D.bool (x.7 == y.7))) [] (.ret (A.d (D.bool (x.7 == y.7)), [])))) (.qs [false, false, false, false] (.ret (A.d (D.bool false), []))))) (.qs [false, false, false, false, false, false, false, false, false] (.ret (A.d (D.bool false), []))))) (.qs [false, false, false, false, false, false, false, false, false, false, false, false, false, false] (.ret (A.d (D.bool false), []))))) (.qs [false, false, false, false, false, false, false, false, false, false, false, false, false, false, false, false, false, false, false] (.ret (A.d (D.bool false), [])))) (by kernel_rfl) (Go.Ab.vc_q (fun h0 => Go.Ab.vc_qs (Go.Ab.vc_q (fun h1 => Go.Ab.vc_qs (Go.Ab.vc_q (fun h2 => Go.Ab.vc_qs (Go.Ab.vc_q (fun h3 => Go.Ab.vc_qs (Go.Ab.vc_call (c_slices_Equal_byte_byte x.inil y.inil x.7 y.7 (by first | assumption | exact rfl)) (Go.Ab.vc_ret ?_))) (fun h3 => Go.Ab.vc_qs (Go.Ab.vc_ret ?_)))) (fun h2 => Go.Ab.vc_qs (Go.Ab.vc_ret ?_)))) (fun h1 => Go.Ab.vc_qs (Go.Ab.vc_ret ?_)))) (fun h0 => Go.Ab.vc_qs (Go.Ab.vc_ret ?_)))
  all_goals (first | (simp_all [recSame, cmdSame]; done) | (simp_all [recSame, cmdSame] <;> grind) | grind [recSame, cmdSame])
theorem c_ref16_Same {w0 : World} (x y : Rec) (hz : x.image.length ≤ 1000000000) : AEv Tryd.prog w0 20 [.agg (eRec x), .agg (eRec y)] [] (.d (.bool (recSame x y))) [] := by
  refine aev_of_run hmix Tryd.func20 [] 1 ?_
  refine Go.Ab.wp_fn (.q (x.kind == y.kind) (.qs [true, true, true, true] (.q (x.round == y.round && (x.node == y.node && true)) (.qs [true, true, true, true] (.q (x.index == y.index) (.qs [true, true, true, true] (.q (x.cmd.kind == y.cmd.kind && (x.cmd.client == y.cmd.client && (x.cmd.seq == y.cmd.seq && (x.cmd.key.toList == y.cmd.key.toList && (x.cmd.val.toList == y.cmd.val.toList && (x.cmd.old.toList == y.cmd.old.toList && (x.cmd.node == y.cmd.node && true))))))) (.qs [true, true, true, true] (.call 39 [A.d (D.slice x.inil 1 (List.map (fun b => [D.int IntKind.u8 (↑b.toNat : Int)]) x.7)), A.d (D.slice y.inil 1 (List.map (fun b => [D.int IntKind.u8 (↑b.toNat : Int)]) y.7))] [] (A.d (D.bool (x.7 == y.7))) [] (.ret (A.d (D.bool (x.7 == y.7)), [])))) (.qs [false, false, false, false] (.ret (A.d (D.bool false), []))))) (.qs [false, false, false, false, false, false, false, false, false] (.ret (A.d (D.bool false), []))))) (.qs [false, false, false, false, false, false, false, false, false, false, false, false, false, false] (.ret (A.d (D.bool false), []))))) (.qs [false, false, false, false, false, false, false, false, false, false, false, false, false, false, false, false, false, false, false] (.ret (A.d (D.bool false), [])))) (by kernel_rfl) (Go.Ab.vc_q (fun h0 => Go.Ab.vc_qs (Go.Ab.vc_q (fun h1 => Go.Ab.vc_qs (Go.Ab.vc_q (fun h2 => Go.Ab.vc_qs (Go.Ab.vc_q (fun h3 => Go.Ab.vc_qs (Go.Ab.vc_call (c_ref01_Same x.inil y.inil x.7 y.7 (by first | assumption | exact rfl)) (Go.Ab.vc_ret ?_))) (fun h3 => Go.Ab.vc_qs (Go.Ab.vc_ret ?_)))) (fun h2 => Go.Ab.vc_qs (Go.Ab.vc_ret ?_)))) (fun h1 => Go.Ab.vc_qs (Go.Ab.vc_ret ?_)))) (fun h0 => Go.Ab.vc_qs (Go.Ab.vc_ret ?_)))
  all_goals (first | (simp_all [recSame, cmdSame]; done) | (simp_all [recSame, cmdSame] <;> grind) | grind [recSame, cmdSame])
theorem c_ref16_Large {w0 : World} (x : Rec) : AEv Tryd.prog w0 15 [.agg (eRec x)] [] (.d (.bool (recLarge x))) [] := by
  refine aev_of_run hmix Tryd.func15 [] 1 ?_
  refine Go.Ab.wp_fn (.q (decide ((↑x.cmd.key.size : Int) > 200)) (.qs [true, true, true, true, true, true, true, true, true, true, true, true, true, true, true, true, true, true, true] (.ret (A.d (D.bool true), []))) (.qs [false, false, false, false] (.q (decide ((↑x.cmd.val.size : Int) > 200)) (.qs [true, true, true, true, true, true, true, true, true, true, true, true, true, true] (.ret (A.d (D.bool true), []))) (.qs [false, false, false, false] (.q (decide ((↑x.cmd.old.size : Int) > 200)) (.qs [true, true, true, true, true, true, true, true, true] (.ret (A.d (D.bool true), []))) (.qs [false, false, false, false] (.q (decide ((↑(List.map (fun b => [D.int IntKind.u8 (↑b.toNat : Int)]) x.7).length : Int) > 300)) (.qs [true, true, true, false] (.q (decide ((↑(List.map (fun b => [D.int IntKind.u8 (↑b.toNat : Int)]) x.7).length : Int) < 32760)) (.qs [true, true, true] (.ret (A.d (D.bool true), []))) (.qs [false, false, false] (.ret (A.d (D.bool (decide ((↑(List.map (fun b => [D.int IntKind.u8 (↑b.toNat : Int)]) x.7).length : Int) > 32780))), []))))) (.qs [false, false, false, false, false, false, false, false] (.ret (A.d (D.bool (decide ((↑(List.map (fun b => [D.int IntKind.u8 (↑b.toNat : Int)]) x.7).length : Int) > 32780))), [])))))))))) (by kernel_rfl) (Go.Ab.vc_q (fun h0 => Go.Ab.vc_qs (Go.Ab.vc_ret ?_)) (fun h0 => Go.Ab.vc_qs (Go.Ab.vc_q (fun h1 => Go.Ab.vc_qs (Go.Ab.vc_ret ?_)) (fun h1 => Go.Ab.vc_qs (Go.Ab.vc_q (fun h2 => Go.Ab.vc_qs (Go.Ab.vc_ret ?_)) (fun h2 => Go.Ab.vc_qs (Go.Ab.vc_q (fun h3 => Go.Ab.vc_qs (Go.Ab.vc_q (fun h4 => Go.Ab.vc_qs (Go.Ab.vc_ret ?_)) (fun h4 => Go.Ab.vc_qs (Go.Ab.vc_ret ?_)))) (fun h3 => Go.Ab.vc_qs (Go.Ab.vc_ret ?_)))))))))
  all_goals (first | (simp_all [recLarge]; done) | (simp_all [recLarge] <;> grind))
theorem c_refRec_1 {w0 : World} (ro no ix : Int) (c : Cmd) (nn : Bool) (im : List UInt8) (hc : c.short) : AEv Tryd.prog w0 18 [.agg (eRec ⟨1, ro, no, ix, c, nn, im⟩)] [] (.d (.int .i64 (recErr ⟨1, ro, no, ix, c, nn, im⟩))) [] := by
  refine aev_of_run hmix Tryd.func18 [] 1 ?_
  refine Go.Ab.wp_fn (.qs [false, false, false] (.call 70 [A.d (D.int IntKind.i64 1)] [] (A.d (D.bool (hasBal 1))) [] (.qs [true, true, true, true, true] (.q (ro == 0) (.qs [true, true, true, true, true, true, true, true, true] (.ret (A.d (D.int IntKind.i64 6), []))) (.qs [false, false] (.call 71 [A.agg [A.d (D.int IntKind.i64 ro), A.d (D.int IntKind.i64 no)]] [] (A.d (D.bool (mayB ro no))) [] (.qs [false, true] (.q (!mayB ro no) (.qs [true, true, true, true] (.ret (A.d (D.int IntKind.i64 6), []))) (.qs [false] (.call 72 [A.d (D.int IntKind.i64 1)] [] (A.d (D.bool (hasInd 1))) [] (.qs [false, false, false, false, false, false, false, false, false, false, false, false, false] (.call 73 [A.d (D.int IntKind.i64 1)] [] (A.d (D.bool (hasCmd 1))) [] (.qs [false] (.call 70 [A.d (D.int IntKind.i64 1)] [] (A.d (D.bool (hasBal 1))) [] (.qs [false, false, false, false, false, false, false, false] (.call 72 [A.d (D.int IntKind.i64 1)] [] (A.d (D.bool (hasInd 1))) [] (.qs [false, false, true, true, true, false] (.q (ix != 0) (.qs [true, true, true, true, true, true, true, true, true, true, true, true] (.ret (A.d (D.int IntKind.i64 3), []))) (.qs [false] (.call 73 [A.d (D.int IntKind.i64 1)] [] (A.d (D.bool (hasCmd 1))) [] (.qs [false, false, true, true, true, true, false] (.q (!(c.kind == 0 && (c.client == 0 && (c.seq == 0 && (c.key.toList == [] && (c.val.toList == [] && (c.old.toList == [] && (c.node == 0 && true)))))))) (.qs [true, true, true, true, true, true, true] (.ret (A.d (D.int IntKind.i64 3), []))) (.qs [false, false, false, false, false, false] (.q (!false == decide ((↑(List.map (fun b => [D.int IntKind.u8 (↑b.toNat : Int)]) im).length : Int) > 0)) (.ret (A.d (D.int IntKind.i64 3), [])) (.ret (A.d (D.int IntKind.i64 0), [])))))))))))))))))))))))))) (by kernel_rfl) (Go.Ab.vc_qs (Go.Ab.vc_call (c_ref16_HasBallot 1) (Go.Ab.vc_qs (Go.Ab.vc_q (fun h0 => Go.Ab.vc_qs (Go.Ab.vc_ret ?_)) (fun h0 => Go.Ab.vc_qs (Go.Ab.vc_call (c_ref10_May ro no) (Go.Ab.vc_qs (Go.Ab.vc_q (fun h1 => Go.Ab.vc_qs (Go.Ab.vc_ret ?_)) (fun h1 => Go.Ab.vc_qs (Go.Ab.vc_call (c_ref16_HasIndex 1) (Go.Ab.vc_qs (Go.Ab.vc_call (c_ref16_HasCmd 1) (Go.Ab.vc_qs (Go.Ab.vc_call (c_ref16_HasBallot 1) (Go.Ab.vc_qs (Go.Ab.vc_call (c_ref16_HasIndex 1) (Go.Ab.vc_qs (Go.Ab.vc_q (fun h2 => Go.Ab.vc_qs (Go.Ab.vc_ret ?_)) (fun h2 => Go.Ab.vc_qs (Go.Ab.vc_call (c_ref16_HasCmd 1) (Go.Ab.vc_qs (Go.Ab.vc_q (fun h3 => Go.Ab.vc_qs (Go.Ab.vc_ret ?_)) (fun h3 => Go.Ab.vc_qs (Go.Ab.vc_q (fun h4 => Go.Ab.vc_ret ?_) (fun h4 => Go.Ab.vc_ret ?_)))))))))))))))))))))))))
  all_goals (first | (simp_all [recErr, rangesB, othersB, cmdZ, hasBal, hasInd, hasCmd, refCmd_eq]; done) | (simp_all [recErr, rangesB, othersB, cmdZ, hasBal, hasInd, hasCmd, refCmd_eq] <;> grind [mayB]))
theorem c_refRec_2 {w0 : World} (ro no ix : Int) (c : Cmd) (nn : Bool) (im : List UInt8) (hc : c.short) : AEv Tryd.prog w0 18 [.agg (eRec ⟨2, ro, no, ix, c, nn, im⟩)] [] (.d (.int .i64 (recErr ⟨2, ro, no, ix, c, nn, im⟩))) [] := by
  refine aev_of_run hmix Tryd.func18 [] 1 ?_
  refine Go.Ab.wp_fn (.qs [false, false, false] (.call 70 [A.d (D.int IntKind.i64 2)] [] (A.d (D.bool (hasBal 2))) [] (.qs [true, true, true, true, true] (.q (ro == 0) (.qs [true, true, true, true, true, true, true, true, true] (.ret (A.d (D.int IntKind.i64 6), []))) (.qs [false, false] (.call 71 [A.agg [A.d (D.int IntKind.i64 ro), A.d (D.int IntKind.i64 no)]] [] (A.d (D.bool (mayB ro no))) [] (.qs [false, true] (.q (!mayB ro no) (.qs [true, true, true, true] (.ret (A.d (D.int IntKind.i64 6), []))) (.qs [false] (.call 72 [A.d (D.int IntKind.i64 2)] [] (A.d (D.bool (hasInd 2))) [] (.qs [false, true, true, true, true] (.q (decide (ix < 1)) (.qs [true, true, true, false, true] (.ret (A.d (D.int IntKind.i64 6), []))) (.qs [false, false, true, false] (.q (decide (ix > 4294967296)) (.ret (A.d (D.int IntKind.i64 6), [])) (.qs [false, false, false, false, false] (.call 73 [A.d (D.int IntKind.i64 2)] [] (A.d (D.bool (hasCmd 2))) [] (.qs [true] (.call 74 [A.agg [A.d (D.int IntKind.i64 c.kind), A.d (D.int IntKind.i64 c.client), A.d (D.int IntKind.i64 c.seq), A.d (D.str c.key), A.d (D.str c.val), A.d (D.str c.old), A.d (D.int IntKind.i64 c.node)]] [] (A.d (D.int IntKind.i64 (refCmd c))) [] (.q (refCmd c != 0) (.ret (A.d (D.int IntKind.i64 (refCmd c)), [])) (.call 70 [A.d (D.int IntKind.i64 2)] [] (A.d (D.bool (hasBal 2))) [] (.qs [false, false, false, false, false, false, false, false] (.call 72 [A.d (D.int IntKind.i64 2)] [] (A.d (D.bool (hasInd 2))) [] (.qs [false, false, false, false, false, false, false, false] (.call 73 [A.d (D.int IntKind.i64 2)] [] (A.d (D.bool (hasCmd 2))) [] (.qs [false, false, false, false, false, false, false, false, false, false, false, false, false, false] (.q (!false == decide ((↑(List.map (fun b => [D.int IntKind.u8 (↑b.toNat : Int)]) im).length : Int) > 0)) (.ret (A.d (D.int IntKind.i64 3), [])) (.ret (A.d (D.int IntKind.i64 0), [])))))))))))))))))))))))))))) (by kernel_rfl) (Go.Ab.vc_qs (Go.Ab.vc_call (c_ref16_HasBallot 2) (Go.Ab.vc_qs (Go.Ab.vc_q (fun h0 => Go.Ab.vc_qs (Go.Ab.vc_ret ?_)) (fun h0 => Go.Ab.vc_qs (Go.Ab.vc_call (c_ref10_May ro no) (Go.Ab.vc_qs (Go.Ab.vc_q (fun h1 => Go.Ab.vc_qs (Go.Ab.vc_ret ?_)) (fun h1 => Go.Ab.vc_qs (Go.Ab.vc_call (c_ref16_HasIndex 2) (Go.Ab.vc_qs (Go.Ab.vc_q (fun h2 => Go.Ab.vc_qs (Go.Ab.vc_ret ?_)) (fun h2 => Go.Ab.vc_qs (Go.Ab.vc_q (fun h3 => Go.Ab.vc_ret ?_) (fun h3 => Go.Ab.vc_qs (Go.Ab.vc_call (c_ref16_HasCmd 2) (Go.Ab.vc_qs (Go.Ab.vc_call (c_ref08_Check c (by first | assumption | exact hc.1 | exact hc.2.1 | exact hc.2.2)) (Go.Ab.vc_q (fun h4 => Go.Ab.vc_ret ?_) (fun h4 => Go.Ab.vc_call (c_ref16_HasBallot 2) (Go.Ab.vc_qs (Go.Ab.vc_call (c_ref16_HasIndex 2) (Go.Ab.vc_qs (Go.Ab.vc_call (c_ref16_HasCmd 2) (Go.Ab.vc_qs (Go.Ab.vc_q (fun h5 => Go.Ab.vc_ret ?_) (fun h5 => Go.Ab.vc_ret ?_)))))))))))))))))))))))))))
  all_goals (first | (simp_all [recErr, rangesB, othersB, cmdZ, hasBal, hasInd, hasCmd, refCmd_eq]; done) | (simp_all [recErr, rangesB, othersB, cmdZ, hasBal, hasInd, hasCmd, refCmd_eq] <;> grind [mayB]))
theorem c_refRec_3 {w0 : World} (ro no ix : Int) (c : Cmd) (nn : Bool) (im : List UInt8) (hc : c.short) : AEv Tryd.prog w0 18 [.agg (eRec ⟨3, ro, no, ix, c, nn, im⟩)] [] (.d (.int .i64 (recErr ⟨3, ro, no, ix, c, nn, im⟩))) [] := by
  refine aev_of_run hmix Tryd.func18 [] 1 ?_
  refine Go.Ab.wp_fn (.qs [false, false, false] (.call 70 [A.d (D.int IntKind.i64 3)] [] (A.d (D.bool (hasBal 3))) [] (.qs [false, false, false, false, false, false, false, false] (.call 72 [A.d (D.int IntKind.i64 3)] [] (A.d (D.bool (hasInd 3))) [] (.qs [false, true, true, true, true] (.q (decide (ix < 1)) (.qs [true, true, true, false, true] (.ret (A.d (D.int IntKind.i64 6), []))) (.qs [false, false, true, false] (.q (decide (ix > 4294967296)) (.ret (A.d (D.int IntKind.i64 6), [])) (.qs [false, false, false, false, false] (.call 73 [A.d (D.int IntKind.i64 3)] [] (A.d (D.bool (hasCmd 3))) [] (.qs [true] (.call 74 [A.agg [A.d (D.int IntKind.i64 c.kind), A.d (D.int IntKind.i64 c.client), A.d (D.int IntKind.i64 c.seq), A.d (D.str c.key), A.d (D.str c.val), A.d (D.str c.old), A.d (D.int IntKind.i64 c.node)]] [] (A.d (D.int IntKind.i64 (refCmd c))) [] (.q (refCmd c != 0) (.ret (A.d (D.int IntKind.i64 (refCmd c)), [])) (.call 70 [A.d (D.int IntKind.i64 3)] [] (A.d (D.bool (hasBal 3))) [] (.qs [true, true, true, true, true] (.q (ro != 0) (.qs [true, true, true, true, true, true, true, true, true, true, true, true, true, true, true, true, true, true, true, true, true, true] (.ret (A.d (D.int IntKind.i64 3), []))) (.qs [false, false, false, true] (.q (no != 0) (.qs [true, true, true, true, true, true, true, true, true, true, true, true, true, true, true, true, true] (.ret (A.d (D.int IntKind.i64 3), []))) (.qs [false] (.call 72 [A.d (D.int IntKind.i64 3)] [] (A.d (D.bool (hasInd 3))) [] (.qs [false, false, false, false, false, false, false, false] (.call 73 [A.d (D.int IntKind.i64 3)] [] (A.d (D.bool (hasCmd 3))) [] (.qs [false, false, false, false, false, false, false, false, false, false, false, false, false, false] (.q (!false == decide ((↑(List.map (fun b => [D.int IntKind.u8 (↑b.toNat : Int)]) im).length : Int) > 0)) (.ret (A.d (D.int IntKind.i64 3), [])) (.ret (A.d (D.int IntKind.i64 0), [])))))))))))))))))))))))))) (by kernel_rfl) (Go.Ab.vc_qs (Go.Ab.vc_call (c_ref16_HasBallot 3) (Go.Ab.vc_qs (Go.Ab.vc_call (c_ref16_HasIndex 3) (Go.Ab.vc_qs (Go.Ab.vc_q (fun h0 => Go.Ab.vc_qs (Go.Ab.vc_ret ?_)) (fun h0 => Go.Ab.vc_qs (Go.Ab.vc_q (fun h1 => Go.Ab.vc_ret ?_) (fun h1 => Go.Ab.vc_qs (Go.Ab.vc_call (c_ref16_HasCmd 3) (Go.Ab.vc_qs (Go.Ab.vc_call (c_ref08_Check c (by first | assumption | exact hc.1 | exact hc.2.1 | exact hc.2.2)) (Go.Ab.vc_q (fun h2 => Go.Ab.vc_ret ?_) (fun h2 => Go.Ab.vc_call (c_ref16_HasBallot 3) (Go.Ab.vc_qs (Go.Ab.vc_q (fun h3 => Go.Ab.vc_qs (Go.Ab.vc_ret ?_)) (fun h3 => Go.Ab.vc_qs (Go.Ab.vc_q (fun h4 => Go.Ab.vc_qs (Go.Ab.vc_ret ?_)) (fun h4 => Go.Ab.vc_qs (Go.Ab.vc_call (c_ref16_HasIndex 3) (Go.Ab.vc_qs (Go.Ab.vc_call (c_ref16_HasCmd 3) (Go.Ab.vc_qs (Go.Ab.vc_q (fun h5 => Go.Ab.vc_ret ?_) (fun h5 => Go.Ab.vc_ret ?_)))))))))))))))))))))))))
  all_goals (first | (simp_all [recErr, rangesB, othersB, cmdZ, hasBal, hasInd, hasCmd, refCmd_eq]; done) | (simp_all [recErr, rangesB, othersB, cmdZ, hasBal, hasInd, hasCmd, refCmd_eq] <;> grind [mayB]))
theorem c_refRec_4 {w0 : World} (ro no ix : Int) (c : Cmd) (nn : Bool) (im : List UInt8) (hc : c.short) : AEv Tryd.prog w0 18 [.agg (eRec ⟨4, ro, no, ix, c, nn, im⟩)] [] (.d (.int .i64 (recErr ⟨4, ro, no, ix, c, nn, im⟩))) [] := by
  refine aev_of_run hmix Tryd.func18 [] 1 ?_
  refine Go.Ab.wp_fn (.qs [false, false, false] (.call 70 [A.d (D.int IntKind.i64 4)] [] (A.d (D.bool (hasBal 4))) [] (.qs [false, false, false, false, false, false, false, false] (.call 72 [A.d (D.int IntKind.i64 4)] [] (A.d (D.bool (hasInd 4))) [] (.qs [false, true, true, true, true] (.q (decide (ix < 1)) (.qs [true, true, true, false, true] (.ret (A.d (D.int IntKind.i64 6), []))) (.qs [false, false, true, false] (.q (decide (ix > 4294967296)) (.ret (A.d (D.int IntKind.i64 6), [])) (.qs [true, true, true, true] (.q (decide ((↑(List.map (fun b => [D.int IntKind.u8 (↑b.toNat : Int)]) im).length : Int) > 32768)) (.ret (A.d (D.int IntKind.i64 2), [])) (.call 73 [A.d (D.int IntKind.i64 4)] [] (A.d (D.bool (hasCmd 4))) [] (.qs [false] (.call 70 [A.d (D.int IntKind.i64 4)] [] (A.d (D.bool (hasBal 4))) [] (.qs [true, true, true, true, true] (.q (ro != 0) (.qs [true, true, true, true, true, true, true, true, true, true, true, true, true, true, true, true, true, true, true, true, true, true] (.ret (A.d (D.int IntKind.i64 3), []))) (.qs [false, false, false, true] (.q (no != 0) (.qs [true, true, true, true, true, true, true, true, true, true, true, true, true, true, true, true, true] (.ret (A.d (D.int IntKind.i64 3), []))) (.qs [false] (.call 72 [A.d (D.int IntKind.i64 4)] [] (A.d (D.bool (hasInd 4))) [] (.qs [false, false, false, false, false, false, false, false] (.call 73 [A.d (D.int IntKind.i64 4)] [] (A.d (D.bool (hasCmd 4))) [] (.qs [false, false, true, true, true, true, false] (.q (!(c.kind == 0 && (c.client == 0 && (c.seq == 0 && (c.key.toList == [] && (c.val.toList == [] && (c.old.toList == [] && (c.node == 0 && true)))))))) (.qs [true, true, true, true, true, true, true] (.ret (A.d (D.int IntKind.i64 3), []))) (.qs [false, false, false, false, false, false] (.q (!true == decide ((↑(List.map (fun b => [D.int IntKind.u8 (↑b.toNat : Int)]) im).length : Int) > 0)) (.ret (A.d (D.int IntKind.i64 3), [])) (.ret (A.d (D.int IntKind.i64 0), []))))))))))))))))))))))))))) (by kernel_rfl) (Go.Ab.vc_qs (Go.Ab.vc_call (c_ref16_HasBallot 4) (Go.Ab.vc_qs (Go.Ab.vc_call (c_ref16_HasIndex 4) (Go.Ab.vc_qs (Go.Ab.vc_q (fun h0 => Go.Ab.vc_qs (Go.Ab.vc_ret ?_)) (fun h0 => Go.Ab.vc_qs (Go.Ab.vc_q (fun h1 => Go.Ab.vc_ret ?_) (fun h1 => Go.Ab.vc_qs (Go.Ab.vc_q (fun h2 => Go.Ab.vc_ret ?_) (fun h2 => Go.Ab.vc_call (c_ref16_HasCmd 4) (Go.Ab.vc_qs (Go.Ab.vc_call (c_ref16_HasBallot 4) (Go.Ab.vc_qs (Go.Ab.vc_q (fun h3 => Go.Ab.vc_qs (Go.Ab.vc_ret ?_)) (fun h3 => Go.Ab.vc_qs (Go.Ab.vc_q (fun h4 => Go.Ab.vc_qs (Go.Ab.vc_ret ?_)) (fun h4 => Go.Ab.vc_qs (Go.Ab.vc_call (c_ref16_HasIndex 4) (Go.Ab.vc_qs (Go.Ab.vc_call (c_ref16_HasCmd 4) (Go.Ab.vc_qs (Go.Ab.vc_q (fun h5 => Go.Ab.vc_qs (Go.Ab.vc_ret ?_)) (fun h5 => Go.Ab.vc_qs (Go.Ab.vc_q (fun h6 => Go.Ab.vc_ret ?_) (fun h6 => Go.Ab.vc_ret ?_))))))))))))))))))))))))))
  all_goals (first | (simp_all [recErr, rangesB, othersB, cmdZ, hasBal, hasInd, hasCmd, refCmd_eq]; done) | (simp_all [recErr, rangesB, othersB, cmdZ, hasBal, hasInd, hasCmd, refCmd_eq] <;> grind [mayB]))
theorem c_refRec_none {w0 : World} (k : Int) (ro no ix : Int) (c : Cmd) (nn : Bool) (im : List UInt8) (hc : c.short) (hk : decide (k < 1) = true ∨ decide (k > 4) = true) : AEv Tryd.prog w0 18 [.agg (eRec ⟨k, ro, no, ix, c, nn, im⟩)] [] (.d (.int .i64 (recErr ⟨k, ro, no, ix, c, nn, im⟩))) [] := by
  refine aev_of_run hmix Tryd.func18 [] 1 ?_
  refine Go.Ab.wp_fn (.q (decide (k < 1)) (.qs [true, true] (.ret (A.d (D.int IntKind.i64 5), []))) (.qs [false] (.q (decide (k > 4)) (.ret (A.d (D.int IntKind.i64 5), [])) .stop))) (by kernel_rfl) (Go.Ab.vc_q (fun h0 => Go.Ab.vc_qs (Go.Ab.vc_ret ?_)) (fun h0 => Go.Ab.vc_qs (Go.Ab.vc_q (fun _ => Go.Ab.vc_ret ?_) (fun hp => absurd hp (by intro hp; exact (by simp only [decide_eq_true_eq, decide_eq_false_iff_not] at *; omega : False))))))
  all_goals (have : (hasBal k || hasInd k) = false := (by simp only [decide_eq_true_eq] at hk; simp [hasBal, hasInd]; omega); simp [recErr, this])
theorem c_ref16_Check {w0 : World} (x : Rec) (hc : x.cmd.short) : AEv Tryd.prog w0 18 [.agg (eRec x)] [] (.d (.int .i64 (recErr x))) [] := by
  obtain ⟨k, ro, no, ix, c, nn, im⟩ := x
  by_cases hk : k < 1 ∨ k > 4
  · exact c_refRec_none k ro no ix c nn im hc (by simpa using hk)
  · have : k = 1 ∨ k = 2 ∨ k = 3 ∨ k = 4 := by omega
    rcases this with rfl | rfl | rfl | rfl
    · exact c_refRec_1 ro no ix c nn im hc
    · exact c_refRec_2 ro no ix c nn im hc
    · exact c_refRec_3 ro no ix c nn im hc
    · exact c_refRec_4 ro no ix c nn im hc
end Go.Proofs.Tryd
/- What is written. -/
set_option linter.unusedVariables false
set_option linter.unusedSimpArgs false
namespace Go.Proofs.Tryd
open Go Go.Ab Go.Pl
theorem bR_append (a b : List UInt8) : bR (a ++ b) = bR a ++ bR b := List.map_append
theorem bR_len (a : List UInt8) : (bR a).length = a.length := by simp
/-- The bytes that a loop of sevens appends. -/
theorem vb_even {n : Nat} (h : ¬ n < 128) : bR (vb n) = [D.int .u8 ((128 + n % 128 : Nat) : Int)] :: bR (vb (n / 128)) := by
  rw [vb_large h, bR, List.map_cons]
  congr 4
  have : (UInt8.ofNat (128 + n % 128)).toNat = 128 + n % 128 := by simp; omega
  omega
theorem vb_last {n : Nat} (h : n < 128) : bR (vb n) = [[D.int .u8 (n : Int)]] := by
  rw [vb_small h, bR, List.map_cons, List.map_nil]
  congr 4
  have : (UInt8.ofNat n).toNat = n := by simp; omega
  omega
theorem u8_or (n : Nat) : IntKind.u8.wrap (BitVec.ofInt IntKind.u8.bits (IntKind.u8.wrap (n : Int)) ||| BitVec.ofInt IntKind.u8.bits 128).toNat = ((128 + n % 128 : Nat) : Int) := by
  have h1 : IntKind.u8.wrap (n : Int) = ((n % 256 : Nat) : Int) := by
    rw [IntKind.wrap_u8]; omega
  rw [h1]
  have h2 : ∀ m : Nat, m < 256 → IntKind.u8.wrap ((BitVec.ofInt IntKind.u8.bits (m : Int) ||| BitVec.ofInt IntKind.u8.bits 128).toNat : Int) = ((128 + m % 128 : Nat) : Int) := by decide +kernel
  rw [h2 _ (Nat.mod_lt _ (by omega))]
  congr 1
  omega
theorem shr7 (n : Nat) : (n : Int).fdiv (2 ^ (min (Int.toNat 7) IntKind.i64.bits)) = ((n / 128 : Nat) : Int) := by
  have : min (Int.toNat 7) IntKind.i64.bits = 7 := by decide
  rw [this]
  rw [Int.fdiv_eq_ediv_of_nonneg _ (by decide)]
  omega
theorem u8_small {n : Nat} (h : n < 128) : IntKind.u8.wrap (n : Int) = (n : Int) := by rw [IntKind.wrap_u8]; omega
end Go.Proofs.Tryd
set_option maxRecDepth 100000
set_option maxHeartbeats 4000000
set_option linter.unusedVariables false
set_option linter.unusedSimpArgs false
namespace Go.Proofs.Tryd
open Go Go.Ab Go.Pl Go.RowKit Go.Proofs.YtmecehpkjffanaaDoor
attribute [local irreducible] Go.Ab.wp Go.Ab.vc Go.Ab.run Go.Ab.runFn Go.Ab.body1 Go.Ab.Tr.qt Go.Ab.Tr.qf Go.Ab.AEv
theorem c_slices_Clone_byte_byte {w0 : World} (n : Bool) (xs : List (List D)) (hn : n = true → xs = []) (hz : xs.length ≤ 2000000000) : AEv Tryd.prog w0 99 [.d (.slice n 1 xs)] [] (.d (.slice n 1 xs)) [] := by
  refine aev_of_run_n hmix Tryd.func99 [] 1 ?_
  refine Go.Ab.wp_fn (.q (n) (.ret (A.d (D.slice true 0 []), [])) (.chk (decide (0 + xs.length ≤ 68719476736)) (.ret (A.d (D.slice false 1 xs), [])))) (by kernel_rfl) (Go.Ab.vc_q (fun h0 => Go.Ab.vc_ret ?_) (fun h0 => Go.Ab.vc_chk (by simp; omega) (Go.Ab.vc_ret ?_)))
  all_goals (have hn' := hn; cases n <;> simp_all [Eqv, A.nrm, D.nrm, D.nrmR])
theorem c_CloneO_byte {w0 : World} (n : Bool) (xs : List (List D)) (hn : n = true → xs = []) (hz : xs.length ≤ 2000000000) : AEv Tryd.prog w0 99 [.d (.slice n 1 xs)] [] (.own 0) [.row n 5 1 xs] := by
  refine aev_of_run_w hmix Tryd.func99 [] 0 ?_
  refine Go.Ab.wp_fn (.q (n) (.ret (A.d (D.slice true 0 []), [])) (.chk (decide (0 + xs.length ≤ 68719476736)) (.ret (A.own 0, [Ob.row false 5 1 xs])))) (by kernel_rfl) (Go.Ab.vc_q (fun h0 => Go.Ab.vc_ret ?_) (fun h0 => Go.Ab.vc_chk (by simp; omega) (Go.Ab.vc_ret ?_)))
  all_goals (first | (obtain rfl := hn ‹_›; subst_vars; exact leaf_virt (Nat.le_refl _)) | (subst_vars; exact leaf_same rfl))
theorem put_go {k : Int} {ys T : List (List D)} (hi : ys ++ bR (vb k.toNat) = T ∧ 0 ≤ k ∧ k ≤ 9223372036854775807 ∧ T.length ≤ 3000000000) : ys.length + 1 ≤ 68719476736 := by
  have := congrArg List.length hi.1
  simp at this
  omega
theorem put_next {k : Int} {ys T : List (List D)} (hi : ys ++ bR (vb k.toNat) = T ∧ 0 ≤ k ∧ k ≤ 9223372036854775807 ∧ T.length ≤ 3000000000) (h0 : decide (k ≥ 128) = true) :
    (ys ++ [[D.int .u8 (IntKind.u8.wrap (BitVec.ofInt IntKind.u8.bits (IntKind.u8.wrap k) ||| BitVec.ofInt IntKind.u8.bits 128).toNat)]]) ++ bR (vb (k.fdiv 128).toNat) = T ∧ 0 ≤ k.fdiv 128 ∧ k.fdiv 128 ≤ 9223372036854775807 ∧ (k.fdiv 128).toNat < k.toNat := by
  obtain ⟨h1, h2, h3, _⟩ := hi
  obtain ⟨m, rfl⟩ := Int.eq_ofNat_of_zero_le h2
  have h0 := of_decide_eq_true h0
  have e : ((m : Int).fdiv 128) = ((m / 128 : Nat) : Int) := by
    rw [Int.fdiv_eq_ediv_of_nonneg _ (by decide)]; omega
  rw [e, u8_or]
  rw [Int.toNat_natCast] at h1 ⊢
  rw [vb_even (by omega)] at h1
  refine ⟨by simpa using h1, by omega, by omega, by rw [Int.toNat_natCast]; omega⟩
theorem put_end {k : Int} {ys T : List (List D)} (hi : ys ++ bR (vb k.toNat) = T) (h2 : 0 ≤ k) (h0 : k < 128) : ys ++ [[D.int .u8 (IntKind.u8.wrap k)]] = T := by
  obtain ⟨m, rfl⟩ := Int.eq_ofNat_of_zero_le h2
  rw [Int.toNat_natCast, vb_last (by omega)] at hi
  rw [u8_small (by omega)]
  exact hi
theorem put_n (k : Int) : (if 0 > k then 0 else k).toNat = k.toNat := by split <;> omega
theorem vbR_len {k : Int} (h : k ≤ 9223372036854775807) : (vb k.toNat).length ≤ 9 := by
  have h9 : (128 : Nat) ^ 9 = 9223372036854775808 := by decide
  exact vb_len_le (by omega)
theorem app_some {n : Bool} {xs ys : List (List D)} (h : ys ≠ []) : (n && (xs ++ ys).isEmpty) = false := by
  cases ys with
  | nil => exact absurd rfl h
  | cons y ys => cases xs <;> simp
theorem toList_len (s : ByteArray) : s.toList.length = s.size := by simp [ByteArray.toList_eq]
theorem bR_vb_ne (k : Nat) : bR (vb k) ≠ [] := by simp [vb_ne]
def l_varint_Put_0_W : List Nat := others 25 [1, 5]
theorem l_varint_Put_0 {w0 : World} (n : Bool) (T : List (List D)) (k : Int) (ys : List (List D)) (hi : ys ++ bR (vb k.toNat) = T ∧ 0 ≤ k ∧ k ≤ 9223372036854775807 ∧ T.length ≤ 3000000000) : ACode Tryd.prog w0 0 (.loop (nthLoop Tryd.f120 0)) (⟨mkEnv 25 [(1, .d (.int .i64 k)), (5, .own 0)], [.row n 5 1 ys]⟩) (fun e s' => ∃ (k : Int) (ys : List (List D)), (ys ++ bR (vb k.toNat) = T ∧ 0 ≤ k ∧ k < 128) ∧ e = .exit 0 ∧ s' = ⟨mkEnv 25 [(1, .d (.int .i64 k)), (5, .own 0)], [.row n 5 1 ys]⟩) := by
  refine Go.Ab.acode_loop (s1 := ⟨mkEnv 25 [(1, .d (.int .i64 k)), (5, .own 0)], [.row n 5 1 ys]⟩) (n := k.toNat) hmix [] (fun zm zs => ∃ (k : Int) (ys : List (List D)), zm = k.toNat ∧ (ys ++ bR (vb k.toNat) = T ∧ 0 ≤ k ∧ k ≤ 9223372036854775807 ∧ T.length ≤ 3000000000) ∧ zs = ⟨mkEnv 25 [(1, .d (.int .i64 k)), (5, .own 0)], [.row n 5 1 ys]⟩) (Weak.refl _) ⟨k, ys, rfl, hi, rfl⟩ ?_
  clear hi
  rintro zm zs ⟨k, ys, rfl, hi, rfl⟩
  refine Go.Ab.wp_rd l_varint_Put_0_W (.q (decide (k ≥ 128)) (.chk (decide (ys.length + 1 ≤ 68719476736)) (.chk (true) (.ret (Ex.normal, true, ⟨mkEnv 25 [(1, A.d (D.int IntKind.i64 (k.fdiv 128))), (5, A.own 0)], [Ob.row n 5 1 (ys ++ [[D.int IntKind.u8 (IntKind.u8.wrap (↑(BitVec.ofInt IntKind.u8.bits (IntKind.u8.wrap k) ||| BitVec.ofInt IntKind.u8.bits 128).toNat : Int))]])]⟩)))) (.ret (Ex.exit 0, true, ⟨mkEnv 25 [(1, A.d (D.int IntKind.i64 k)), (5, A.own 0)], [Ob.row n 5 1 ys]⟩))) (by kernel_rfl) (Go.Ab.vc_q (fun h0 => Go.Ab.vc_chk (by first | exact rfl | exact decide_eq_true (put_go hi)) (Go.Ab.vc_chk (by first | exact rfl | exact decide_eq_true (put_go hi)) (Go.Ab.vc_next ?_))) (fun h0 => Go.Ab.vc_exit ?x4))
  case x4 => (have h0' := of_decide_eq_false h0; exact ⟨_, _, ⟨hi.1, hi.2.1, by omega⟩, rfl, rfl⟩)
  all_goals (obtain ⟨q1, q2, q3, q4⟩ := put_next hi h0; exact ⟨_, q4, _, _, rfl, ⟨q1, q2, q3, hi.2.2.2⟩, rfl⟩)
theorem c_PutO {w0 : World} (n : Bool) (xs : List (List D)) (k : Int) (hn : n = true → xs = []) (hz : xs.length ≤ 2000000000) (hk : k ≤ 9223372036854775807) : AEv Tryd.prog w0 120 [.d (.slice n 1 xs), .d (.int .i64 k)] [] (.own 0) [.row n 5 1 (xs ++ bR (vb k.toNat))] := by
  refine aev_of_run hmix Tryd.func120 [] 0 ?_
  refine Go.Ab.wp_fn (.call 99 [A.d (D.slice n 1 xs)] [] (A.own 0) [Ob.row n 5 1 xs] (.stop)) (by kernel_rfl) (Go.Ab.vc_call (c_CloneO_byte n xs (by first | assumption | exact ⟨rfl, by (split <;> omega), by (split <;> omega), by (have := vbR_len hk; simp [put_n]; omega)⟩) (by first | assumption | exact ⟨rfl, by (split <;> omega), by (split <;> omega), by (have := vbR_len hk; simp [put_n]; omega)⟩)) (Go.Ab.vc_stop ?s1))
  case s1 =>
    refine Go.Ab.wp_loop (by kernel_rfl) (by kernel_rfl) (Go.Ab.acode_tidy (W := l_varint_Put_0_W) (by kernel_rfl) (by kernel_rfl) (l_varint_Put_0 n _ (if 0 > k then 0 else k) xs (by first | assumption | exact ⟨rfl, by (split <;> omega), by (split <;> omega), by (have := vbR_len hk; simp [put_n]; omega)⟩))) ?_
    rintro e s' (⟨k, ys, j2, rfl, rfl⟩)
    · skip
      refine Go.Ab.wp_fn (.chk (decide (ys.length + 1 ≤ 68719476736)) (.ret (A.own 0, [Ob.row n 5 1 (ys ++ [[D.int IntKind.u8 (IntKind.u8.wrap k)]])]))) (by kernel_rfl) (Go.Ab.vc_chk (by (have q := congrArg List.length (‹_ ∧ _› : _ ∧ _).1; have := vbR_len hk; simp [put_n] at q ⊢; omega)) (Go.Ab.vc_ret ?_))
      all_goals ((obtain ⟨q1, q2, q3⟩ := (‹_ ∧ _› : _ ∧ _); rw [put_n] at q1; rw [put_end q1 q2 q3]))
theorem c_Put {w0 : World} (n : Bool) (xs : List (List D)) (k : Int) (hn : n = true → xs = []) (hz : xs.length ≤ 2000000000) (hk : k ≤ 9223372036854775807) : AEv Tryd.prog w0 120 [.d (.slice n 1 xs), .d (.int .i64 k)] [] (.d (.slice false 1 (xs ++ bR (vb k.toNat)))) [] := by
  refine aev_of_run hmix Tryd.func120 [] 1 ?_
  refine Go.Ab.wp_fn (.call 99 [A.d (D.slice n 1 xs)] [] (A.own 0) [Ob.row n 5 1 xs] (.stop)) (by kernel_rfl) (Go.Ab.vc_call (c_CloneO_byte n xs (by first | assumption | exact ⟨rfl, by (split <;> omega), by (split <;> omega), by (have := vbR_len hk; simp [put_n]; omega)⟩) (by first | assumption | exact ⟨rfl, by (split <;> omega), by (split <;> omega), by (have := vbR_len hk; simp [put_n]; omega)⟩)) (Go.Ab.vc_stop ?s1))
  case s1 =>
    refine Go.Ab.wp_loop (by kernel_rfl) (by kernel_rfl) (Go.Ab.acode_tidy (W := l_varint_Put_0_W) (by kernel_rfl) (by kernel_rfl) (l_varint_Put_0 n _ (if 0 > k then 0 else k) xs (by first | assumption | exact ⟨rfl, by (split <;> omega), by (split <;> omega), by (have := vbR_len hk; simp [put_n]; omega)⟩))) ?_
    rintro e s' (⟨k, ys, j2, rfl, rfl⟩)
    · skip
      refine Go.Ab.wp_fn (.chk (decide (ys.length + 1 ≤ 68719476736)) (.ret (A.d (D.slice (n && (ys ++ [[D.int IntKind.u8 (IntKind.u8.wrap k)]]).isEmpty) 1 (ys ++ [[D.int IntKind.u8 (IntKind.u8.wrap k)]])), []))) (by kernel_rfl) (Go.Ab.vc_chk (by (have q := congrArg List.length (‹_ ∧ _› : _ ∧ _).1; have := vbR_len hk; simp [put_n] at q ⊢; omega)) (Go.Ab.vc_ret ?_))
      all_goals ((obtain ⟨q1, q2, q3⟩ := (‹_ ∧ _› : _ ∧ _); rw [put_n] at q1; rw [put_end q1 q2 q3, app_some (bR_vb_ne _)]))
theorem c_Number {w0 : World} (n : Bool) (xs : List (List D)) (k : Int) (hn : n = true → xs = []) (hz : xs.length ≤ 2000000000) (hk : k ≤ 9223372036854775807) : AEv Tryd.prog w0 85 [.ptr 0 0, .d (.int .i64 k)] [.cells [.d (.slice n 1 xs)]] (.tup []) [.cells [.d (.slice false 1 (xs ++ bR (vb k.toNat)))]] := by
  refine aev_of_run hmix Tryd.func85 [] 1 ?_
  refine Go.Ab.wp_fn (.qs [true] (.call 120 [A.d (D.slice n 1 xs), A.d (D.int IntKind.i64 k)] [] (A.d (D.slice false 1 (xs ++ bR (vb k.toNat)))) [] (.ret (A.tup [], [Ob.cells [A.d (D.slice false 1 (xs ++ List.map (fun b => [D.int IntKind.u8 (↑b.toNat : Int)]) (vb k.toNat)))]])))) (by kernel_rfl) (Go.Ab.vc_qs (Go.Ab.vc_call (c_Put n xs k (by first | assumption | exact rfl) (by first | assumption | exact rfl) (by first | assumption | exact rfl)) (Go.Ab.vc_ret ?_)))
  all_goals (rfl)
theorem c_RawW {w0 : World} (n m : Bool) (xs ys : List (List D)) (hn : n = true → xs = []) (hz : xs.length ≤ 1000000000) (hy : ys.length ≤ 1000000000) : AEv Tryd.prog w0 87 [.ptr 0 0, .d (.slice m 1 ys)] [.cells [.d (.slice n 1 xs)]] (.tup []) [.cells [.d (.slice false 1 (xs ++ bR (vb ys.length) ++ ys))]] := by
  refine aev_of_run hmix Tryd.func87 [] 2 ?_
  refine Go.Ab.wp_fn (.qs [true] (.call 120 [A.d (D.slice n 1 xs), A.d (D.int IntKind.i64 (↑ys.length : Int))] [] (A.own 0) [Ob.row n 5 1 (xs ++ bR (vb (↑ys.length : Int).toNat))] (.chk (decide ((xs ++ List.map (fun b => [D.int IntKind.u8 (↑b.toNat : Int)]) (vb (↑ys.length : Int).toNat)).length + ys.length ≤ 68719476736)) (.ret (A.tup [], [Ob.cells [A.d (D.slice (n && (xs ++ List.map (fun b => [D.int IntKind.u8 (↑b.toNat : Int)]) (vb (↑ys.length : Int).toNat) ++ ys).isEmpty) 1 (xs ++ List.map (fun b => [D.int IntKind.u8 (↑b.toNat : Int)]) (vb (↑ys.length : Int).toNat) ++ ys))]]))))) (by kernel_rfl) (Go.Ab.vc_qs (Go.Ab.vc_call (c_PutO n xs (↑ys.length : Int) (by first | assumption | omega) (by first | assumption | omega) (by first | assumption | omega)) (Go.Ab.vc_chk (by (have := vbR_len (k := (ys.length : Int)) (by omega); simp at this ⊢; omega)) (Go.Ab.vc_ret ?_))))
  all_goals ((have : (n && (xs ++ bR (vb ys.length) ++ ys).isEmpty) = false := (by rw [List.append_assoc]; exact app_some (by simp [vb_ne]))); simp only [Int.toNat_natCast, this])
theorem c_TextW {w0 : World} (n : Bool) (xs : List (List D)) (s : ByteArray) (hn : n = true → xs = []) (hz : xs.length ≤ 1000000000) (hy : s.size ≤ 1000000000) : AEv Tryd.prog w0 161 [.ptr 0 0, .d (.str s)] [.cells [.d (.slice n 1 xs)]] (.tup []) [.cells [.d (.slice false 1 (xs ++ bR (vb s.size) ++ bR s.toList))]] := by
  refine aev_of_run hmix Tryd.func161 [] 1 ?_
  refine Go.Ab.wp_fn (.call 87 [A.ptr 0 0, A.d (D.slice false 1 (List.map (fun b => [D.int IntKind.u8 (↑b.toNat : Int)]) s.toList))] [Ob.cells [A.d (D.slice n 1 xs)]] (A.tup []) [Ob.cells [A.d (D.slice false 1 (xs ++ bR (vb (List.map (fun b => [D.int IntKind.u8 (↑b.toNat : Int)]) s.toList).length) ++ List.map (fun b => [D.int IntKind.u8 (↑b.toNat : Int)]) s.toList))]] (.ret (A.tup [], [Ob.cells [A.d (D.slice false 1 (xs ++ List.map (fun b => [D.int IntKind.u8 (↑b.toNat : Int)]) (vb (List.map (fun b => [D.int IntKind.u8 (↑b.toNat : Int)]) s.toList).length) ++ List.map (fun b => [D.int IntKind.u8 (↑b.toNat : Int)]) s.toList))]]))) (by kernel_rfl) (Go.Ab.vc_call (c_RawW n false xs (List.map (fun b => [D.int IntKind.u8 (↑b.toNat : Int)]) s.toList) (by first | assumption | (rw [List.length_map, toList_len]; assumption)) (by first | assumption | (rw [List.length_map, toList_len]; assumption)) (by first | assumption | (rw [List.length_map, toList_len]; assumption))) (Go.Ab.vc_ret ?_))
  all_goals (rw [List.length_map, toList_len])
theorem c_BytesW {w0 : World} (n : Bool) (xs : List (List D)) (hn : n = true → xs = []) (hz : xs.length ≤ 2000000000) : AEv Tryd.prog w0 58 [.ptr 0 0] [.cells [.d (.slice n 1 xs)]] (.d (.slice n 1 xs)) [.cells [.d (.slice n 1 xs)]] := by
  refine aev_of_run hmix Tryd.func58 [] 1 ?_
  refine Go.Ab.wp_fn (.qs [false] (.call 99 [A.d (D.slice n 1 xs)] [] (A.d (D.slice n 1 xs)) [] (.ret (A.d (D.slice n 1 xs), [Ob.cells [A.d (D.slice n 1 xs)]])))) (by kernel_rfl) (Go.Ab.vc_qs (Go.Ab.vc_call (c_slices_Clone_byte_byte n xs (by first | assumption | exact rfl) (by first | assumption | exact rfl)) (Go.Ab.vc_ret ?_)))
  all_goals (rfl)
end Go.Proofs.Tryd
/- Commands written. -/
set_option linter.unusedVariables false
set_option linter.unusedSimpArgs false
namespace Go.Proofs.Tryd
open Go Go.Ab Go.Pl
def bitOf : Nat → Int
  | 0 => 1
  | 1 => 1
  | 2 => 2
  | 3 => 4
  | 4 => 8
  | _ => 16
/-- Have a version's bytes that field? -/
def wantB (v k : Int) (i : Nat) : Bool := if v == 1 then bitOf i != 4 else !off (mask k) (bitOf i)
def textB (s : ByteArray) : List UInt8 := vb s.size ++ s.toList
def fieldB (c : Cmd) : Nat → List UInt8
  | 0 => vb c.client.toNat
  | 1 => vb c.seq.toNat
  | 2 => textB c.key
  | 3 => textB c.old
  | 4 => textB c.val
  | _ => vb c.node.toNat
def partB (v : Int) (c : Cmd) (i : Nat) : List UInt8 := if wantB v c.kind i then fieldB c i else []
def partsB (v : Int) (c : Cmd) (i : Nat) : List UInt8 := ((List.range' i (6 - i)).map (partB v c)).flatten
/-- A command's bytes. -/
def cmdB (v : Int) (c : Cmd) : List UInt8 := vb c.kind.toNat ++ partsB v c 0
theorem partsB_step (v : Int) (c : Cmd) (i : Nat) (h : i < 6) : partsB v c i = partB v c i ++ partsB v c (i + 1) := by
  unfold partsB
  rw [show 6 - i = (6 - (i + 1)) + 1 by omega, List.range'_succ]
  simp
theorem partsB_end (v : Int) (c : Cmd) : partsB v c 6 = [] := rfl
/-- Numbers of the machine's; short texts. -/
def Cmd.fit (c : Cmd) : Prop := c.kind ≤ 9223372036854775807 ∧ c.client ≤ 9223372036854775807 ∧ c.seq ≤ 9223372036854775807 ∧ c.node ≤ 9223372036854775807 ∧ c.key.size ≤ 1000000 ∧ c.val.size ≤ 1000000 ∧ c.old.size ≤ 1000000
theorem textB_len (s : ByteArray) (h : s.size ≤ 1000000) : (textB s).length ≤ 1000009 := by
  unfold textB
  have := vbR_len (k := (s.size : Int)) (by omega)
  rw [List.length_append, toList_len]
  simp at this
  omega
theorem fieldB_len (c : Cmd) (h : c.fit) (i : Nat) : (fieldB c i).length ≤ 1000009 := by
  obtain ⟨h1, h2, h3, h4, h5, h6, h7⟩ := h
  unfold fieldB
  split
  · have := vbR_len h2; omega
  · have := vbR_len h3; omega
  · exact textB_len _ h5
  · exact textB_len _ h7
  · exact textB_len _ h6
  · have := vbR_len h4; omega
theorem partB_len (v : Int) (c : Cmd) (h : c.fit) (i : Nat) : (partB v c i).length ≤ 1000009 := by
  unfold partB
  split
  · exact fieldB_len c h i
  · simp
theorem partsB_len (v : Int) (c : Cmd) (h : c.fit) (i : Nat) : (partsB v c i).length ≤ 6000054 := by
  have key : ∀ (l : List Nat), ((l.map (partB v c)).flatten).length ≤ l.length * 1000009 := by
    intro l
    induction l with
    | nil => simp
    | cons a l ih =>
      have := partB_len v c h a
      simp only [List.map_cons, List.flatten_cons, List.length_append, List.length_cons]
      omega
  unfold partsB
  have := key (List.range' i (6 - i))
  rw [List.length_range'] at this
  omega
theorem cmdB_len (v : Int) (c : Cmd) (h : c.fit) : (cmdB v c).length ≤ 6000063 := by
  unfold cmdB
  have := vbR_len h.1
  have := partsB_len v c h 0
  rw [List.length_append]
  omega
end Go.Proofs.Tryd
