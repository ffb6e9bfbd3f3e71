/-
  Rows of values stand in one order: plain laws, no program in sight.
-/
import Derived.Test.YtghfaeapgghhlaaDoorOrd0
namespace Go.Proofs.YtghfaeapgghhlaaDoor.Dt

/-- An order told by -1, 0, 1. -/
structure Tot {α : Type} (f : α → α → Int) : Prop where
  lo : ∀ a b, -1 ≤ f a b
  anti : ∀ a b, f b a = - f a b
  le : ∀ a b c, f a b ≤ 0 → f b c ≤ 0 → f a c ≤ 0
  both : ∀ a b c, f a b ≤ 0 → f b c ≤ 0 → f a c = 0 → f a b = 0 ∧ f b c = 0

theorem Tot.hi {α : Type} {f : α → α → Int} (h : Tot f) (a b : α) : f a b ≤ 1 := by have := h.lo b a; have := h.anti a b; omega
theorem Tot.self {α : Type} {f : α → α → Int} (h : Tot f) (a : α) : f a a = 0 := by have := h.anti a a; omega
theorem Tot.zero {α : Type} {f : α → α → Int} (h : Tot f) {a b c : α} (h1 : f a b = 0) (h2 : f b c = 0) : f a c = 0 := by
  have := h.le a b c (by omega) (by omega)
  have := h.le c b a (by have := h.anti b c; omega) (by have := h.anti a b; omega)
  have := h.anti a c
  omega
theorem Tot.same {α : Type} {f : α → α → Int} (h : Tot f) {a b : α} (c : α) (h1 : f a b = 0) : f a c = f b c := by
  have e1 : f b a = 0 := by have := h.anti a b; omega
  have l1 := h.lo a c
  have u1 := h.hi a c
  have l2 := h.lo b c
  have u2 := h.hi b c
  have a1 := h.anti a c
  have a2 := h.anti b c
  rcases Int.lt_trichotomy (f a c) 0 with c1 | c1 | c1
  · have q1 := h.le b a c (by omega) (by omega)
    have q2 := fun e => h.both b a c (by omega) (by omega) e
    by_cases q : f b c = 0
    · have := (q2 q).2; omega
    · omega
  · rw [c1, h.zero e1 c1]
  · have q1 := h.le c a b (by omega) (by omega)
    have q2 := fun e => h.both c a b (by omega) (by omega) e
    have a3 := h.anti c b
    by_cases q : f c b = 0
    · have := (q2 q).1; omega
    · omega
/-- The order of lists. -/
def lexL {α : Type} (f : α → α → Int) : List α → List α → Int
  | [], [] => 0
  | [], _ :: _ => -1
  | _ :: _, [] => 1
  | a :: l, b :: m => if f a b = 0 then lexL f l m else f a b
theorem lexL_lo {α : Type} {f : α → α → Int} (h : Tot f) : ∀ l m, -1 ≤ lexL f l m
  | [], [] => by simp [lexL]
  | [], _ :: _ => by simp [lexL]
  | _ :: _, [] => by simp [lexL]
  | a :: l, b :: m => by rw [lexL]; split; exact lexL_lo h l m; exact h.lo a b
theorem lexL_anti {α : Type} {f : α → α → Int} (h : Tot f) : ∀ l m, lexL f m l = - lexL f l m
  | [], [] => by simp [lexL]
  | [], _ :: _ => by simp [lexL]
  | _ :: _, [] => by simp [lexL]
  | a :: l, b :: m => by
    rw [lexL, lexL]
    have := h.anti a b
    by_cases h1 : f a b = 0
    · rw [if_pos (by omega), if_pos h1]; exact lexL_anti h l m
    · rw [if_neg (by omega), if_neg h1]; exact this
theorem lexL_tr {α : Type} {f : α → α → Int} (h : Tot f) : ∀ l m n, lexL f l m ≤ 0 → lexL f m n ≤ 0 → lexL f l n ≤ 0 ∧ (lexL f l n = 0 → lexL f l m = 0 ∧ lexL f m n = 0)
  | [], [], [], _, _ => ⟨by simp [lexL], fun _ => ⟨rfl, rfl⟩⟩
  | [], [], _ :: _, _, _ => ⟨by simp [lexL], fun e => by simp [lexL] at e⟩
  | [], _ :: _, [], _, h2 => by simp [lexL] at h2
  | [], _ :: _, _ :: _, _, _ => ⟨by simp [lexL], fun e => by simp [lexL] at e⟩
  | _ :: _, [], _, h1, _ => by simp [lexL] at h1
  | _ :: _, _ :: _, [], _, h2 => by simp [lexL] at h2
  | a :: l, b :: m, c :: n, h1, h2 => by
    rw [lexL] at h1 h2
    rw [lexL, lexL, lexL]
    by_cases c1 : f a b = 0
    · rw [if_pos c1] at h1
      by_cases c2 : f b c = 0
      · rw [if_pos c2] at h2
        rw [if_pos (h.zero c1 c2), if_pos c1, if_pos c2]
        exact lexL_tr h l m n h1 h2
      · rw [if_neg c2] at h2
        have e := h.same c c1
        rw [if_neg (by omega), e]
        exact ⟨h2, fun x => absurd x c2⟩
    · rw [if_neg c1] at h1
      by_cases c2 : f b c = 0
      · have e1 : f c b = 0 := by have := h.anti b c; omega
        have e := h.same a e1
        have e3 := h.anti a c
        have e4 := h.anti a b
        rw [if_neg (by omega)]
        exact ⟨by omega, fun x => absurd (show f a b = 0 by omega) c1⟩
      · rw [if_neg c2] at h2
        have q1 := h.le a b c h1 h2
        have q2 := h.both a b c h1 h2
        have q3 : f a c ≠ 0 := fun e => c1 (q2 e).1
        rw [if_neg q3]
        exact ⟨q1, fun x => absurd x q3⟩
theorem lexL_tot {α : Type} {f : α → α → Int} (h : Tot f) : Tot (lexL f) :=
  ⟨lexL_lo h, lexL_anti h, fun a b c h1 h2 => (lexL_tr h a b c h1 h2).1, fun a b c h1 h2 => (lexL_tr h a b c h1 h2).2⟩
theorem cmpI_tot : Tot cmpI := by
  refine ⟨fun a b => (cmpI_bd a b).1, ?_, ?_, ?_⟩
  · intro a b; unfold cmpI; split <;> split <;> (try split) <;> omega
  · intro a b c; unfold cmpI; repeat' split
    all_goals (intros; omega)
  · intro a b c; unfold cmpI; repeat' split
    all_goals (intros; omega)
theorem cmpL_lex : ∀ l m, cmpL l m = lexL (fun a b : UInt8 => cmpI a.toNat b.toNat) l m
  | [], [] => rfl
  | [], _ :: _ => rfl
  | _ :: _, [] => rfl
  | a :: l, b :: m => by
    rw [lexL]
    by_cases h : a = b
    · subst h
      rw [cmpL_cons, cmpI_self, if_pos rfl, cmpL_lex l m]
    · have hz : cmpI a.toNat b.toNat ≠ 0 := fun e => h (UInt8.toNat_inj.1 (by have := cmpI_zero e; omega))
      rw [if_neg hz, cmpL_heads h]
theorem pull_tot {α β : Type} {f : β → β → Int} (h : Tot f) (g : α → β) : Tot (fun a b => f (g a) (g b)) :=
  ⟨fun _ _ => h.lo _ _, fun _ _ => h.anti _ _, fun _ _ _ => h.le _ _ _, fun _ _ _ => h.both _ _ _⟩
theorem cmpL_tot : Tot cmpL := by
  have h := lexL_tot (pull_tot cmpI_tot (fun a : UInt8 => (a.toNat : Int)))
  have e : cmpL = lexL (fun a b : UInt8 => cmpI a.toNat b.toNat) := by funext l m; exact cmpL_lex l m
  rw [e]; exact h
/-- One order behind another one. -/
theorem then_tot {α : Type} {f g : α → α → Int} (h : Tot f) (hg : Tot g) : Tot (fun a b => if f a b = 0 then g a b else f a b) := by
  refine ⟨?_, ?_, ?_, ?_⟩
  · intro a b; (try dsimp only); split; exact hg.lo _ _; exact h.lo _ _
  · intro a b
    have := h.anti a b
    (try dsimp only)
    by_cases c : f a b = 0
    · rw [if_pos (by omega), if_pos c]; exact hg.anti _ _
    · rw [if_neg (by omega), if_neg c]; exact this
  all_goals
    intro a b c h1 h2
    (try dsimp only at h1 h2 ⊢)
    by_cases c1 : f a b = 0
    · rw [if_pos c1] at h1
      by_cases c2 : f b c = 0
      · rw [if_pos c2] at h2
        rw [if_pos (h.zero c1 c2)]
        first
          | exact hg.le _ _ _ h1 h2
          | (rw [if_pos c1, if_pos c2]; exact hg.both _ _ _ h1 h2)
      · rw [if_neg c2] at h2
        have e := h.same c c1
        rw [if_neg (by omega)]
        first
          | (rw [e]; exact h2)
          | (rw [if_pos c1, if_neg c2]; intro x; exact absurd (show f b c = 0 by omega) c2)
    · rw [if_neg c1] at h1
      by_cases c2 : f b c = 0
      · have e1 : f c b = 0 := by have := h.anti b c; omega
        have e := h.same a e1
        have e3 := h.anti a c
        have e4 := h.anti a b
        rw [if_neg (by omega)]
        first
          | omega
          | (intro x; exact absurd (show f a b = 0 by omega) c1)
      · rw [if_neg c2] at h2
        have q1 := h.le a b c h1 h2
        have q3 : f a c ≠ 0 := fun e => c1 (h.both a b c h1 h2 e).1
        rw [if_neg q3]
        first
          | exact q1
          | (intro x; exact absurd x q3)
theorem const_tot {α : Type} : Tot (fun _ _ : α => (0 : Int)) := ⟨fun _ _ => by decide, fun _ _ => rfl, fun _ _ _ _ _ => Int.le_refl _, fun _ _ _ _ _ _ => ⟨rfl, rfl⟩⟩
/-- Values of unlike kinds by their kinds; of one kind by what they have. -/
theorem cmpV_eq (a b : V) : cmpV a b = if cmpI a.k b.k = 0 then (if cmpI (if a.k = 1 then a.n else 0) (if b.k = 1 then b.n else 0) = 0 then cmpL (if a.k = 2 ∨ a.k = 3 then a.s.data.toList else []) (if b.k = 2 ∨ b.k = 3 then b.s.data.toList else []) else cmpI (if a.k = 1 then a.n else 0) (if b.k = 1 then b.n else 0)) else cmpI a.k b.k := by
  unfold cmpV
  by_cases h : a.k = b.k
  · rw [if_neg (by simpa using h), h, cmpI_self, if_pos rfl]
    by_cases h1 : b.k = 1
    · have h2 : ¬ (b.k = 2 ∨ b.k = 3) := by omega
      simp only [if_pos h1, if_neg h2]
      by_cases hz : cmpI a.n b.n = 0
      · rw [if_pos hz, hz]; rfl
      · rw [if_neg hz]
    · simp only [if_neg h1, cmpI_self, if_true]
      by_cases h2 : b.k = 2 ∨ b.k = 3
      · simp only [if_pos h2]
      · simp only [if_neg h2]; rfl
  · have hz : cmpI (a.k : Int) b.k ≠ 0 := fun e => h (by have := cmpI_zero e; omega)
    rw [if_pos h, if_neg hz]
theorem cmpV_tot : Tot cmpV := by
  have h := then_tot (pull_tot cmpI_tot (fun a : V => (a.k : Int))) (then_tot (pull_tot cmpI_tot (fun a : V => if a.k = 1 then a.n else 0)) (pull_tot cmpL_tot (fun a : V => if a.k = 2 ∨ a.k = 3 then a.s.data.toList else [])))
  have e : cmpV = _ := funext fun a => funext fun b => cmpV_eq a b
  rw [e]; exact h
theorem cmpRow_lex : ∀ l m, cmpRow l m = lexL cmpV l m
  | [], [] => rfl
  | [], _ :: _ => rfl
  | _ :: _, [] => rfl
  | a :: l, b :: m => by rw [lexL, cmpRow, cmpRow_lex l m]
theorem cmpRow_tot : Tot cmpRow := by
  have e : cmpRow = lexL cmpV := funext fun a => funext fun b => cmpRow_lex a b
  rw [e]; exact lexL_tot cmpV_tot
theorem cmpRow_length : ∀ {l m : List V}, cmpRow l m = 0 → l.length = m.length
  | [], [], _ => rfl
  | [], _ :: _, h => by simp [cmpRow] at h
  | _ :: _, [], h => by simp [cmpRow] at h
  | a :: l, b :: m, h => by
    rw [cmpRow] at h
    by_cases c : cmpV a b = 0
    · rw [if_pos c] at h
      simp only [List.length_cons, cmpRow_length h]
    · rw [if_neg c] at h; exact absurd h c
theorem cmpRow_each : ∀ {l m : List V}, cmpRow l m = 0 → ∀ (i : Nat) (x y : V), l[i]? = some x → m[i]? = some y → cmpV x y = 0
  | [], _, _, i, x, y, h, _ => by simp at h
  | _ :: _, [], h, _, _, _, _, h2 => by simp at h2
  | a :: l, b :: m, h, i, x, y, h1, h2 => by
    rw [cmpRow] at h
    by_cases c : cmpV a b = 0
    · rw [if_pos c] at h
      rcases i with _ | i
      · simp at h1 h2; subst h1; subst h2; exact c
      · exact cmpRow_each h i x y (by simpa using h1) (by simpa using h2)
    · rw [if_neg c] at h; exact absurd h c
theorem cmpV_same {a b : V} (ha : checkV a = 0) (hb : checkV b = 0) (h : cmpV a b = 0) : a = b := by
  have ka := kind_of ha
  have kb := kind_of hb
  have hk : a.k = b.k := Decidable.byContradiction fun hk => by
    unfold cmpV at h
    rw [if_pos hk] at h
    have := cmpI_zero h
    omega
  unfold cmpV at h
  rw [if_neg (by simpa using hk)] at h
  rcases ka with ⟨h0, hn, hs⟩ | ⟨h1, hs⟩ | ⟨h2, hn, hs⟩
  · rcases kb with ⟨h0', hn', hs'⟩ | ⟨h1', hs'⟩ | ⟨h2', hn', hs'⟩
    · exact V.ext' hk (by rw [hn, hn']) (by rw [hs, hs'])
    · omega
    · omega
  · rcases kb with ⟨h0', hn', hs'⟩ | ⟨h1', hs'⟩ | ⟨h2', hn', hs'⟩
    · omega
    · rw [if_pos h1] at h
      exact V.ext' hk (cmpI_zero h) (by rw [hs, hs'])
    · omega
  · rcases kb with ⟨h0', hn', hs'⟩ | ⟨h1', hs'⟩ | ⟨h2', hn', hs'⟩
    · omega
    · omega
    · rw [if_neg (by omega), if_pos h2] at h
      exact V.ext' hk (by rw [hn, hn']) (ByteArray.ext (Array.toList_inj.1 (cmpL_zero h)))
end Go.Proofs.YtghfaeapgghhlaaDoor.Dt
