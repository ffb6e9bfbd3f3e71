/-
  Keys stand in the order of rows, and a row's key tells the row back: plain laws, no program in sight.
-/
import Derived.Test.YtclkpbokngamiaaDoorKeySpec2
import Derived.Test.YtclkpbokngamiaaDoorKeyEach
import Derived.Lib.Bytealg
namespace Go.Proofs.YtclkpbokngamiaaDoor.Dt
open Go.RowKit Go.Proofs.YtclkpbokngamiaaDoor.By

theorem compare_eq : ∀ l m, Lib.compareBytes l m = cmpL l m
  | [], [] => rfl
  | [], _ :: _ => rfl
  | _ :: _, [] => rfl
  | a :: l, b :: m => by rw [Lib.compareBytes, cmpL, compare_eq l m]
theorem cmpL_self : ∀ l, cmpL l l = 0
  | [] => rfl
  | a :: l => by rw [cmpL, if_neg (by simp), if_neg (by simp), cmpL_self l]
theorem cmpL_cons (a : UInt8) (l m : List UInt8) : cmpL (a :: l) (a :: m) = cmpL l m := by rw [cmpL, if_neg (by simp), if_neg (by simp)]
theorem cmpL_zero : ∀ {l m : List UInt8}, cmpL l m = 0 → l = m
  | [], [], _ => rfl
  | [], _ :: _, h => by simp [cmpL] at h
  | _ :: _, [], h => by simp [cmpL] at h
  | a :: l, b :: m, h => by
    rw [cmpL] at h
    by_cases h1 : a < b
    · rw [if_pos h1] at h; cases h
    · rw [if_neg h1] at h
      by_cases h2 : b < a
      · rw [if_pos h2] at h; cases h
      · rw [if_neg h2] at h
        have : a = b := UInt8.le_antisymm (UInt8.not_lt.1 h2) (UInt8.not_lt.1 h1)
        rw [this, cmpL_zero h]
theorem cmpL_heads {a b : UInt8} (h : a ≠ b) (l m : List UInt8) : cmpL (a :: l) (b :: m) = cmpI a.toNat b.toNat := by
  rw [cmpL]
  unfold cmpI
  have hne : a.toNat ≠ b.toNat := fun e => h (UInt8.toNat_inj.1 e)
  by_cases h1 : a < b
  · have := UInt8.lt_iff_toNat_lt.1 h1
    rw [if_pos h1, if_pos (by omega)]
  · have h3 : ¬ a.toNat < b.toNat := fun e => h1 (UInt8.lt_iff_toNat_lt.2 e)
    have h2 : b < a := UInt8.lt_iff_toNat_lt.2 (by omega)
    rw [if_neg h1, if_pos h2, if_neg (by omega), if_pos (by omega)]
theorem cmpI_zero {a b : Int} (h : cmpI a b = 0) : a = b := by
  unfold cmpI at h
  by_cases h1 : a < b
  · rw [if_pos h1] at h; cases h
  · rw [if_neg h1] at h
    by_cases h2 : b < a
    · rw [if_pos h2] at h; cases h
    · omega
theorem cmpI_self (a : Int) : cmpI a a = 0 := by unfold cmpI; simp
theorem cmpI_succ (a b : Nat) : cmpI ((a + 1 : Nat) : Int) ((b + 1 : Nat) : Int) = cmpI a b := by
  unfold cmpI
  by_cases d1 : a < b
  · rw [if_pos (by omega), if_pos (by omega)]
  · rw [if_neg (by omega : ¬ ((a + 1 : Nat) : Int) < ((b + 1 : Nat) : Int)), if_neg (by omega : ¬ (a : Int) < (b : Int))]
    by_cases d2 : b < a
    · rw [if_pos (by omega), if_pos (by omega)]
    · rw [if_neg (by omega), if_neg (by omega)]
theorem byte_lt (a b : Nat) (ha : a < 256) (hb : b < 256) : (UInt8.ofNat a < UInt8.ofNat b) ↔ a < b := by
  rw [UInt8.lt_iff_toNat_lt, UInt8.toNat_ofNat', UInt8.toNat_ofNat', Nat.mod_eq_of_lt ha, Nat.mod_eq_of_lt hb]
theorem esc_zero' (t : List UInt8) : esc (0 :: t) = 0 :: 255 :: esc t := rfl
theorem esc_other {d : UInt8} (h : d ≠ 0) (t : List UInt8) : esc (d :: t) = d :: esc t := by rw [esc, if_neg h]
theorem esc_head (c : UInt8) (s : List UInt8) : ∃ s', esc (c :: s) = c :: s' := by
  by_cases hc : c = 0
  · subst hc; exact ⟨_, rfl⟩
  · exact ⟨_, esc_other hc s⟩
/-- Numbers' bytes stand in the numbers' order. -/
theorem cmpL_be : ∀ (k a b : Nat) (x y : List UInt8), a < 256 ^ k → b < 256 ^ k → cmpL (Num.be k a ++ x) (Num.be k b ++ y) = if a < b then -1 else if b < a then 1 else cmpL x y
  | 0, a, b, x, y, ha, hb => by
    have ea : a = 0 := by simpa using ha
    have eb : b = 0 := by simpa using hb
    subst ea; subst eb
    rfl
  | k + 1, a, b, x, y, ha, hb => by
    rw [Nat.pow_succ] at ha hb
    have e : ∀ n, Num.be (k + 1) n = Num.be k (n / 256) ++ [UInt8.ofNat (n % 256)] := fun n => rfl
    rw [e, e, List.append_assoc, List.append_assoc, cmpL_be k (a / 256) (b / 256) _ _ (by omega) (by omega), List.singleton_append, List.singleton_append, cmpL]
    have h1 := byte_lt (a % 256) (b % 256) (by omega) (by omega)
    have h2 := byte_lt (b % 256) (a % 256) (by omega) (by omega)
    by_cases c1 : a / 256 < b / 256
    · rw [if_pos c1, if_pos (by omega)]
    · rw [if_neg c1]
      by_cases c2 : b / 256 < a / 256
      · rw [if_pos c2, if_neg (by omega), if_pos (by omega)]
      · rw [if_neg c2]
        by_cases c3 : a % 256 < b % 256
        · rw [if_pos (h1.2 c3), if_pos (by omega)]
        · rw [if_neg (fun e => c3 (h1.1 e))]
          by_cases c4 : b % 256 < a % 256
          · rw [if_pos (h2.2 c4), if_neg (by omega), if_pos (by omega)]
          · rw [if_neg (fun e => c4 (h2.1 e)), if_neg (by omega), if_neg (by omega)]
theorem cmpL_esc : ∀ (s t x y : List UInt8), cmpL (esc s ++ ([0, 0] ++ x)) (esc t ++ ([0, 0] ++ y)) = if cmpL s t = 0 then cmpL x y else cmpL s t
  | [], [], x, y => by
    show cmpL (0 :: 0 :: x) (0 :: 0 :: y) = _
    rw [cmpL_cons, cmpL_cons]; rfl
  | [], d :: t, x, y => by
    have e : cmpL [] (d :: t) = -1 := rfl
    rw [e, if_neg (by decide)]
    by_cases hd : d = 0
    · subst hd
      rw [show esc (0 :: t) = 0 :: 255 :: esc t from rfl]
      show cmpL (0 :: 0 :: x) (0 :: 255 :: _) = _
      rw [cmpL_cons, cmpL_heads (by decide)]; rfl
    · rw [esc_other hd]
      show cmpL (0 :: 0 :: x) (d :: _) = _
      rw [cmpL, if_pos (UInt8.pos_iff_ne_zero.2 hd)]
  | c :: s, [], x, y => by
    have e : cmpL (c :: s) [] = 1 := rfl
    rw [e, if_neg (by decide)]
    by_cases hd : c = 0
    · subst hd
      rw [show esc (0 :: s) = 0 :: 255 :: esc s from rfl]
      show cmpL (0 :: 255 :: _) (0 :: 0 :: y) = _
      rw [cmpL_cons, cmpL_heads (by decide)]; rfl
    · rw [esc_other hd]
      show cmpL (c :: _) (0 :: 0 :: y) = _
      rw [cmpL, if_neg (UInt8.not_lt.2 (UInt8.zero_le)), if_pos (UInt8.pos_iff_ne_zero.2 hd)]
  | c :: s, d :: t, x, y => by
    by_cases h : c = d
    · subst h
      rw [cmpL_cons, ← cmpL_esc s t x y]
      by_cases hc : c = 0
      · subst hc
        rw [show esc (0 :: t) = 0 :: 255 :: esc t from rfl, show esc (0 :: s) = 0 :: 255 :: esc s from rfl]
        show cmpL (0 :: 255 :: _) (0 :: 255 :: _) = _
        rw [cmpL_cons, cmpL_cons]
        rfl
      · rw [esc_other hc, esc_other hc]
        show cmpL (c :: _) (c :: _) = _
        rw [cmpL_cons]
        rfl
    · have hd : ∀ l m, cmpL (c :: l) (d :: m) = cmpI c.toNat d.toNat := cmpL_heads h
      have hz : cmpI c.toNat d.toNat ≠ 0 := fun e => h (UInt8.toNat_inj.1 (by have := cmpI_zero e; omega))
      rw [hd s t, if_neg hz]
      have e1 := esc_head c s
      have e2 := esc_head d t
      obtain ⟨s', e1⟩ := e1
      obtain ⟨t', e2⟩ := e2
      rw [e1, e2]
      exact hd (s' ++ ([0, 0] ++ x)) (t' ++ ([0, 0] ++ y))
theorem oneK_one (u : V) : 1 ≤ (oneK u).length := by
  unfold oneK
  split
  · simp
  · split <;> simp
/-- Two values' keys. -/
theorem cmpL_one {v u : V} (hv : checkV v = 0) (hu : checkV u = 0) (ov : v.ok) (ou : u.ok) (x y : List UInt8) : cmpL (oneK v ++ x) (oneK u ++ y) = if cmpV v u = 0 then cmpL x y else cmpV v u := by
  have kv := kind_of hv
  have ku := kind_of hu
  have head : ∀ {w : V}, checkV w = 0 → ∃ l, oneK w = UInt8.ofNat (w.k + 1) :: l := by
    intro w hw
    unfold oneK
    rcases kind_of hw with ⟨h0, _, _⟩ | ⟨h1, _⟩ | ⟨h2, _, _⟩
    · rw [if_neg (by omega), if_neg (by omega), h0]; exact ⟨_, rfl⟩
    · rw [if_pos h1, h1]; exact ⟨_, rfl⟩
    · rw [if_neg (by omega), if_pos h2]; exact ⟨_, rfl⟩
  by_cases hk : v.k = u.k
  · have e0 : cmpV v u = if v.k = 1 then cmpI v.n u.n else if v.k = 2 ∨ v.k = 3 then cmpL v.s.data.toList u.s.data.toList else 0 := by unfold cmpV; rw [if_neg (by simpa using hk)]
    rw [e0]
    clear e0
    by_cases h1 : v.k = 1
    · rw [if_pos h1]
      have e1 : oneK v = 2 :: Num.be 8 (turnK v.n) := by unfold oneK; rw [if_pos h1, Num.be_eight]
      have e2 : oneK u = 2 :: Num.be 8 (turnK u.n) := by unfold oneK; rw [if_pos (by omega), Num.be_eight]
      have b1 := ov.2.1
      have b2 := ou.2.1
      have l1 : turnK v.n < 256 ^ 8 := by unfold turnK; omega
      have l2 : turnK u.n < 256 ^ 8 := by unfold turnK; omega
      rw [e1, e2, List.cons_append, List.cons_append, cmpL_cons, cmpL_be 8 _ _ _ _ l1 l2]
      unfold cmpI turnK
      by_cases c1 : v.n < u.n
      · rw [if_pos (by omega), if_pos c1, if_neg (by decide)]
      · by_cases c2 : u.n < v.n
        · rw [if_neg (by omega), if_pos (by omega), if_neg c1, if_pos c2, if_neg (by decide)]
        · rw [if_neg (by omega), if_neg (by omega), if_neg c1, if_neg c2, if_pos rfl]
    · rw [if_neg h1]
      by_cases h2 : v.k = 2 ∨ v.k = 3
      · rw [if_pos h2]
        have e1 : oneK v = UInt8.ofNat (v.k + 1) :: (esc v.s.data.toList ++ [0, 0]) := by unfold oneK; rw [if_neg h1, if_pos h2]
        have e2 : oneK u = UInt8.ofNat (v.k + 1) :: (esc u.s.data.toList ++ [0, 0]) := by unfold oneK; rw [if_neg (by omega), if_pos (by omega), hk]
        rw [e1, e2, List.cons_append, List.cons_append, cmpL_cons, List.append_assoc, List.append_assoc, cmpL_esc]
      · rw [if_neg h2, if_pos rfl]
        have e1 : oneK v = [1] := by unfold oneK; rw [if_neg h1, if_neg h2]
        have e2 : oneK u = [1] := by unfold oneK; rw [if_neg (by omega), if_neg (by omega)]
        rw [e1, e2]
        exact cmpL_cons _ _ _
  · obtain ⟨l, e1⟩ := head hv
    obtain ⟨m, e2⟩ := head hu
    have k1 : v.k ≤ 3 := by omega
    have k2 : u.k ≤ 3 := by omega
    have c1 : (UInt8.ofNat (v.k + 1)).toNat = v.k + 1 := by rw [UInt8.toNat_ofNat']; omega
    have c2 : (UInt8.ofNat (u.k + 1)).toNat = u.k + 1 := by rw [UInt8.toNat_ofNat']; omega
    have hne : UInt8.ofNat (v.k + 1) ≠ UInt8.ofNat (u.k + 1) := fun e => by
      have := congrArg UInt8.toNat e
      rw [c1, c2] at this
      omega
    have e3 : cmpV v u = cmpI v.k u.k := by unfold cmpV; rw [if_pos hk]
    have e4 : cmpI ((v.k + 1 : Nat) : Int) ((u.k + 1 : Nat) : Int) = cmpI v.k u.k := by
      unfold cmpI
      by_cases d1 : v.k < u.k
      · rw [if_pos (by omega), if_pos (by omega)]
      · rw [if_neg (by omega), if_pos (by omega), if_neg (by omega), if_pos (by omega)]
    have e5 : cmpI v.k u.k ≠ 0 := fun e => hk (by have := cmpI_zero e; omega)
    rw [e1, e2, List.cons_append, List.cons_append, cmpL_heads hne, c1, c2, e3, e4, if_neg e5]
/-- The order of rows. -/
def cmpRow : List V → List V → Int
  | [], [] => 0
  | [], _ :: _ => -1
  | _ :: _, [] => 1
  | a :: l, b :: m => if cmpV a b = 0 then cmpRow l m else cmpV a b
theorem cmpL_all : ∀ {a b : List V}, (∀ v ∈ a, checkV v = 0) → (∀ v ∈ b, checkV v = 0) → (∀ v ∈ a, v.ok) → (∀ v ∈ b, v.ok) → cmpL (allK a) (allK b) = cmpRow a b
  | [], [], _, _, _, _ => rfl
  | [], u :: b, _, hb, _, _ => by
    have := oneK_one u
    unfold allK
    rw [List.flatMap_cons, cmpRow, List.flatMap_nil]
    match hq : oneK u, this with
    | c :: l, _ => rfl
  | u :: a, [], ha, _, _, _ => by
    have := oneK_one u
    unfold allK
    rw [List.flatMap_cons, cmpRow, List.flatMap_nil]
    match hq : oneK u, this with
    | c :: l, _ => rfl
  | v :: a, u :: b, ha, hb, oa, ob => by
    have ih := cmpL_all (a := a) (b := b) (fun x hx => ha x (List.mem_cons_of_mem _ hx)) (fun x hx => hb x (List.mem_cons_of_mem _ hx)) (fun x hx => oa x (List.mem_cons_of_mem _ hx)) (fun x hx => ob x (List.mem_cons_of_mem _ hx))
    unfold allK at *
    rw [List.flatMap_cons, List.flatMap_cons, cmpRow, cmpL_one (ha v List.mem_cons_self) (hb u List.mem_cons_self) (oa v List.mem_cons_self) (ob u List.mem_cons_self), ih]
/-- Where two rows are the same so far. -/
theorem cmpRow_step : ∀ {a b : List V} {i : Nat} {v u : V}, (∀ j : Nat, j < i → ∀ x y : V, a[j]? = some x → b[j]? = some y → cmpV x y = 0) → a[i]? = some v → b[i]? = some u → cmpV v u ≠ 0 → cmpRow a b = cmpV v u
  | [], b, i, v, u, _, h1, _, _ => by simp at h1
  | _ :: _, [], i, v, u, _, _, h2, _ => by simp at h2
  | x :: a, y :: b, 0, v, u, _, h1, h2, h => by
    simp at h1 h2
    subst h1; subst h2
    rw [cmpRow, if_neg h]
  | x :: a, y :: b, i + 1, v, u, hj, h1, h2, h => by
    rw [cmpRow, if_pos (hj 0 (by omega) x y rfl rfl)]
    exact cmpRow_step (i := i) (fun j hj' p q hp hq => hj (j + 1) (by omega) p q (by simpa using hp) (by simpa using hq)) (by simpa using h1) (by simpa using h2) h
theorem cmpRow_end : ∀ {a b : List V}, (∀ j : Nat, ∀ x y : V, a[j]? = some x → b[j]? = some y → cmpV x y = 0) → cmpRow a b = cmpI a.length b.length
  | [], [], _ => rfl
  | [], _ :: b, _ => by rw [cmpRow]; unfold cmpI; rw [if_pos (by simp only [List.length_cons, List.length_nil]; omega)]
  | _ :: a, [], _ => by rw [cmpRow]; unfold cmpI; rw [if_neg (by simp only [List.length_cons, List.length_nil]; omega), if_pos (by simp only [List.length_cons, List.length_nil]; omega)]
  | x :: a, y :: b, h => by
    rw [cmpRow, if_pos (h 0 x y rfl rfl), cmpRow_end (fun j p q hp hq => h (j + 1) p q (by simpa using hp) (by simpa using hq))]
    exact (cmpI_succ a.length b.length).symm
end Go.Proofs.YtclkpbokngamiaaDoor.Dt
