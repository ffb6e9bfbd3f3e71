/- EvalLogic: the law returns true at every input. -/
import Derived.Test.YtclkpbokngamiaaLift
import Derived.Test.YtclkpbokngamiaaKinOps
import Derived.Test.YtclkpbokngamiaaTypes
import Derived.Deep.DeepCutAuto
namespace Go.Proofs.Ytclkpbokngamiaa.EvalLogic
open Go.ChangeShapes Go.WideShapes Go.ChangeAt Go.RowKit Go.Proofs.Ytclkpbokngamiaa.By
set_option linter.unusedVariables false
-- witness .agg #[.int .u8 0, .int .i64 0, .string ByteArray.empty]
-- witness .agg #[.int .u8 0, .int .i64 0, .string ByteArray.empty]
/- EvalLogic: NOT of AND is OR of both NOTs, and the other way about, where something is null, too; of AND and OR it makes no difference which stands first. No conditions. -/
open Go.Proofs.Ytclkpbokngamiaa.Dt
/-- The two arguments' boxes. -/
structure LgAt (a b : V) (w wr : World) : Prop where
  ba : Box w.heap.size a.cells wr
  bb : Box (w.heap.size + 1) b.cells wr
  bel : Below w.heap.size w wr
theorem LgAt.later {a b : V} {w wr wx : World} (h : LgAt a b w wr) (hb : Below wr.heap.size wr wx) : LgAt a b w wx := ⟨h.ba.later hb, h.bb.later hb, next h.bel hb⟩
theorem lg_new (a b : V) (w : World) : LgAt a b w ((w.alloc (.cells #[.int .u8 (a.k : Int), .int .i64 a.n, .string a.s] 23)).alloc (.cells #[.int .u8 (b.k : Int), .int .i64 b.n, .string b.s] 23)) := by
  refine ⟨fun i u hu => ?_, fun i u hu => ?_, by go_grown⟩
  · rcases i with _ | _ | _ | i <;> simp [V.cells] at hu <;> subst hu <;> exact ⟨by go_simp, by go_simp⟩
  · rcases i with _ | _ | _ | i <;> simp [V.cells] at hu <;> subst hu <;> exact ⟨by go_simp, by go_simp⟩
def zer8 : List Value := [.int .u8 0, .int .u8 0, .int .i64 0, .string ⟨#[]⟩, .string ⟨#[]⟩, .string ⟨#[]⟩, .int .i64 0, .slice none 0 0]
def exCells (v : V) : List Value := [.int .u8 1, .int .u8 (v.k : Int), .int .i64 v.n, .string v.s, .string ⟨#[]⟩, .string ⟨#[]⟩, .int .i64 0, .slice none 0 0]
/-- What the operations give that make both expressions and their boxes. -/
def lgPr (a b : V) (dn : Nat → Bool) : Nat → Value → Nat → Nat → World → Prop
  | 0, v, _, _, _ => v = a.val
  | 1, v, _, _, _ => v = .agg #[.int .u8 1, .int .u8 (a.k : Int), .int .i64 a.n, .string a.s, .string ⟨#[]⟩, .string ⟨#[]⟩, .int .i64 0, .slice none 0 0]
  | 2, v, _, _, _ => v = b.val
  | 3, v, _, _, _ => v = .agg #[.int .u8 1, .int .u8 (b.k : Int), .int .i64 b.n, .string b.s, .string ⟨#[]⟩, .string ⟨#[]⟩, .int .i64 0, .slice none 0 0]
  | 4, v, s, e, w => v = .pointer (some ⟨s, 0, none⟩) ∧ e = s + 1 ∧ Box s (if dn 6 = true then exCells a else zer8) w
  | 5, v, s, e, w => v = .pointer (some ⟨s, 0, none⟩) ∧ e = s + 1 ∧ Box s (if dn 7 = true then exCells b else zer8) w
  | _ + 6, _, _, _, _ => True
def lgAim (i : Nat) : Option Nat := if i = 6 then some 4 else if i = 7 then some 5 else none
theorem box_grown {k : Nat} {cs : List Value} {w w' : World} {r : Option Nat} (h : Box k cs w) (hg : w.grownBy w' r) (hs : k < w.heap.size) (hr : ∀ q, r = some q → q ≠ k) : Box k cs w' := fun i u hu => by
  have hb := hg.block k hs (fun e => hr k e.symm rfl)
  exact ⟨(World.cell?_of_block (a := ⟨k, i, none⟩) hb).trans (h i u hu).1, (World.frozen?_of_block (a := ⟨k, i, none⟩) hb).trans (h i u hu).2⟩
theorem grown_self (w : World) (k : Nat) : w.grownBy w (some k) := ⟨rfl, rfl, rfl, Nat.le_refl _, fun _ _ _ => rfl⟩
theorem grown_sets {w : World} (k : Nat) : ∀ (cs : List Value) (o : Nat) {W : World}, w.grownBy W (some k) → w.grownBy (W.setCells k o cs) (some k)
  | [], _, _, h => h
  | _ :: cs, o, _, h => grown_sets k cs (o + 1) (grown_trans h (grown_set _ _ _ _))
theorem size_sets (k : Nat) : ∀ (cs : List Value) (o : Nat) (W : World), (W.setCells k o cs).heap.size = W.heap.size
  | [], _, _ => rfl
  | _ :: cs, o, W => by rw [World.setCells, size_sets k cs (o + 1)]; simp
section
variable {a b : V} {dn : Nat → Bool} {j : Nat} {v : Value} {s e : Nat} {w w' : World}
theorem lgPr_stab (i : Nat) (r : Option Nat) (ha : lgAim i ≠ some j) (h : lgPr a b dn j v s e w) (he : e ≤ w.heap.size) (hg : w.grownBy w' r) (hr : ∀ k, r = some k → k < s ∨ e ≤ k) : lgPr a b (upd dn i) j v s e w' := by
  match j with
  | 0 => exact h
  | 1 => exact h
  | 2 => exact h
  | 3 => exact h
  | 4 =>
    obtain ⟨hv, hse, hbx⟩ := h
    have hne : i ≠ 6 := fun h => ha (by rw [h]; rfl)
    have hu : upd dn i 6 = dn 6 := by unfold upd; simp [Ne.symm hne]
    refine ⟨hv, hse, ?_⟩
    rw [hu]
    exact box_grown hbx hg (by omega) fun k hk => by have := hr k hk; omega
  | 5 =>
    obtain ⟨hv, hse, hbx⟩ := h
    have hne : i ≠ 7 := fun h => ha (by rw [h]; rfl)
    have hu : upd dn i 7 = dn 7 := by unfold upd; simp [Ne.symm hne]
    refine ⟨hv, hse, ?_⟩
    rw [hu]
    exact box_grown hbx hg (by omega) fun k hk => by have := hr k hk; omega
  | _ + 6 => trivial
theorem lgPr_new (i st : Nat) (hi : (i = 4 ∧ st = 6) ∨ (i = 5 ∧ st = 7)) (w : World) (hd : dn st = false) : lgPr a b dn i (.pointer (some ⟨w.heap.size, 0, none⟩)) w.heap.size (w.alloc (.cells #[.int .u8 0, .int .u8 0, .int .i64 0, .string ⟨#[]⟩, .string ⟨#[]⟩, .string ⟨#[]⟩, .int .i64 0, .slice none 0 0] 27)).heap.size (w.alloc (.cells #[.int .u8 0, .int .u8 0, .int .i64 0, .string ⟨#[]⟩, .string ⟨#[]⟩, .string ⟨#[]⟩, .int .i64 0, .slice none 0 0] 27)) := by
  have hz := exBox_new w 27
  rcases hi with ⟨rfl, rfl⟩ | ⟨rfl, rfl⟩
  · refine ⟨rfl, by simp, ?_⟩
    rw [hd, if_neg (by decide)]
    exact hz
  · refine ⟨rfl, by simp, ?_⟩
    rw [hd, if_neg (by decide)]
    exact hz
theorem lgPr_fill {c : V} (i st : Nat) (hi : (i = 4 ∧ st = 6 ∧ c = a) ∨ (i = 5 ∧ st = 7 ∧ c = b)) (hv : v = .pointer (some ⟨s, 0, none⟩)) (he : e = s + 1) (hb : Box s zer8 w) : lgPr a b (upd dn st) i v s e (w.setCells s 0 (exCells c)) := by
  have hz := box_sets hb (exCells c) rfl
  rcases hi with ⟨rfl, rfl, rfl⟩ | ⟨rfl, rfl, rfl⟩
  · refine ⟨hv, he, ?_⟩
    rw [if_pos (by unfold upd; simp)]
    exact hz
  · refine ⟨hv, he, ?_⟩
    rw [if_pos (by unfold upd; simp)]
    exact hz
end
theorem ix0 (W : World) : (Instr.index 29 (.agg #[.int .u8 18, .int .u8 19]) (.int .i64 0)).run Try.prog W = .ok (.int .u8 18) W := by
  go_simp
  kernel_rfl
theorem ix1 (W : World) : (Instr.index 29 (.agg #[.int .u8 18, .int .u8 19]) (.int .i64 1)).run Try.prog W = .ok (.int .u8 19) W := by
  go_simp
  kernel_rfl
attribute [local go_sem high] ix0 ix1
attribute [local go_sem ↓] veil_store
attribute [local go_sem] run_veil
set_option maxRecDepth 100000 in
set_option maxHeartbeats 16000000 in
theorem walk (a b : V) (w : World) (ha : a.ok) (hb : b.ok) :
    Calls Try.prog 3 #[a.val, b.val] w fun e w' => e = .returned (.bool true) ∧ Below w.heap.size w w' := by
  have HOK := Lib.hid (And.intro ha hb)
  have HAT0 := Lib.hid (lg_new a b w)
  clear ha hb
  go_enter Try.func3, Try.ntmps3
  go_wp2_with fail
  generalize hWA : ((w.alloc (.cells #[.int .u8 (a.k : Int), .int .i64 a.n, .string a.s] 23)).alloc (.cells #[.int .u8 (b.k : Int), .int .i64 b.n, .string b.s] 23)) = WA at *
  clear hWA
  refine (works _).mono ?_
  rintro e w1 ⟨rfl, hb1⟩
  have HAT1 := Lib.hid (HAT0.out.later hb1)
  clear hb1
  obtain ⟨a0, -⟩ := HAT1.out.ba 0 _ rfl
  obtain ⟨a1, -⟩ := HAT1.out.ba 1 _ rfl
  obtain ⟨a2, -⟩ := HAT1.out.ba 2 _ rfl
  obtain ⟨b0, -⟩ := HAT1.out.bb 0 _ rfl
  obtain ⟨b1, -⟩ := HAT1.out.bb 1 _ rfl
  obtain ⟨b2, -⟩ := HAT1.out.bb 2 _ rfl
  go_upto_region 3 with fail
  go_cut [51] (fun s wx => ∃ B : Bool, s = .bool B ∧ (B = true ∨ (niceV a ∧ niceV b ∧ B = false)) ∧ w1 = wx)
  case first =>
    by_cases h1 : a.k ≤ 1
    rotate_left
    · have e1 : decide ((1 : Int) < (a.k : Int)) = true := decide_eq_true (by omega)
      go_wp2_with fail
      go_meet
      exact ⟨true, rfl, .inl rfl, rfl⟩
    have e1 : decide ((1 : Int) < (a.k : Int)) = false := decide_eq_false (by omega)
    by_cases h2 : b.k ≤ 1
    rotate_left
    · have e2 : decide ((1 : Int) < (b.k : Int)) = true := decide_eq_true (by omega)
      go_wp2_with fail
      go_meet
      exact ⟨true, rfl, .inl rfl, rfl⟩
    have e2 : decide ((1 : Int) < (b.k : Int)) = false := decide_eq_false (by omega)
    by_cases h3 : a.s = ByteArray.empty
    rotate_left
    · have e3 : a.s.toList.isEmpty = false := by simpa using ne_empty h3
      go_wp2_with fail
      go_meet
      exact ⟨true, rfl, .inl rfl, rfl⟩
    have e3 : a.s.toList.isEmpty = true := by rw [h3, ByteArray.toList_eq]; rfl
    by_cases h4 : b.s = ByteArray.empty
    rotate_left
    · have e4 : b.s.toList.isEmpty = false := by simpa using ne_empty h4
      go_wp2_with fail
      go_meet
      exact ⟨true, rfl, .inl rfl, rfl⟩
    have e4 : b.s.toList.isEmpty = true := by rw [h4, ByteArray.toList_eq]; rfl
    by_cases h5 : a.k = 0
    · have e5 : ((a.k : Int) == 0) = true := by simp [h5]
      by_cases h6 : a.n = 0
      · have e6 : (a.n != 0) = false := by simp [h6]
        by_cases h7 : b.k = 0
        · have e7 : ((b.k : Int) == 0) = true := by simp [h7]
          by_cases h8 : b.n = 0
          · have e8 : (b.n != 0) = false := by simp [h8]
            go_wp2_with fail
            go_meet
            exact ⟨false, rfl, .inr ⟨⟨h1, h3, fun _ => h6⟩, ⟨h2, h4, fun _ => h8⟩, rfl⟩, rfl⟩
          · have e8 : (b.n != 0) = true := by simp [h8]
            go_wp2_with fail
            go_meet
            exact ⟨true, rfl, .inl rfl, rfl⟩
        · have e7 : ((b.k : Int) == 0) = false := by simp [h7]
          go_wp2_with fail
          go_meet
          exact ⟨false, rfl, .inr ⟨⟨h1, h3, fun _ => h6⟩, ⟨h2, h4, fun h => absurd h h7⟩, rfl⟩, rfl⟩
      · have e6 : (a.n != 0) = true := by simp [h6]
        go_wp2_with fail
        go_meet
        exact ⟨true, rfl, .inl rfl, rfl⟩
    · have e5 : ((a.k : Int) == 0) = false := by simp [h5]
      by_cases h7 : b.k = 0
      · have e7 : ((b.k : Int) == 0) = true := by simp [h7]
        by_cases h8 : b.n = 0
        · have e8 : (b.n != 0) = false := by simp [h8]
          go_wp2_with fail
          go_meet
          exact ⟨false, rfl, .inr ⟨⟨h1, h3, fun h => absurd h h5⟩, ⟨h2, h4, fun _ => h8⟩, rfl⟩, rfl⟩
        · have e8 : (b.n != 0) = true := by simp [h8]
          go_wp2_with fail
          go_meet
          exact ⟨true, rfl, .inl rfl, rfl⟩
      · have e7 : ((b.k : Int) == 0) = false := by simp [h7]
        go_wp2_with fail
        go_meet
        exact ⟨false, rfl, .inr ⟨⟨h1, h3, fun h => absurd h h5⟩, ⟨h2, h4, fun h => absurd h h7⟩, rfl⟩, rfl⟩
  case rest =>
  obtain ⟨B, rfl, hB, rfl⟩ := hcut
  rcases hB with rfl | ⟨hna, hnb, rfl⟩
  · go_wp2_with fail
    go_ret
    exact ⟨rfl, HAT1.out.bel⟩
  have HN := Lib.hid (And.intro hna hnb)
  clear hna hnb a0 a1 a2 b0 b1 b2
  go_wp2_with fail
  refine wp_region_mix (lgPr a b) lgAim (by kernel_rfl) (by kernel_rfl) (fun dn i j v s e w1 w2 r _ ha h he hg hr => lgPr_stab i r ha h he hg hr) ?_ ?_
  · intro i hi dn us ss es A wA hother hat hb hdi hcl hd
    match i, hi, hdi with
    | 0, _, _ =>
      have e2 : A.eval (.tmp 2) = .pointer (some ⟨w.heap.size, 0, none⟩) := hother 2 (by kernel_rfl)
      have h6 := tmps_of e2
      have z := (HAT1.out.later hb).ba
      obtain ⟨c0, -⟩ := z 0 _ rfl
      obtain ⟨c1, -⟩ := z 1 _ rfl
      obtain ⟨c2, -⟩ := z 2 _ rfl
      exact does_val rfl rfl rfl a.val wA (by simp only [execOp]; go_simp) (Below.refl _ _) rfl
    | 1, _, _ =>
      have hu : us 0 = a.val := (hd _ rfl ⟨0, .data⟩ (by simp) rfl).2.1
      have e52 : A.eval (.tmp 52) = a.val := (hat 0 52 (by simp) (by kernel_rfl) (by simp)).trans hu
      have h6 := tmps_of e52
      exact does_call rfl rfl rfl 7 #[a.val] (by simp only [execOp]; go_simp) ((withL a wA).mono fun e w' h => ⟨_, h.1, h.2, rfl⟩)
    | 2, _, _ =>
      have e3 : A.eval (.tmp 3) = .pointer (some ⟨w.heap.size + 1, 0, none⟩) := hother 3 (by kernel_rfl)
      have h6 := tmps_of e3
      have z := (HAT1.out.later hb).bb
      obtain ⟨c0, -⟩ := z 0 _ rfl
      obtain ⟨c1, -⟩ := z 1 _ rfl
      obtain ⟨c2, -⟩ := z 2 _ rfl
      exact does_val rfl rfl rfl b.val wA (by simp only [execOp]; go_simp) (Below.refl _ _) rfl
    | 3, _, _ =>
      have hu : us 2 = b.val := (hd _ rfl ⟨2, .data⟩ (by simp) rfl).2.1
      have e54 : A.eval (.tmp 54) = b.val := (hat 2 54 (by simp) (by kernel_rfl) (by simp)).trans hu
      have h6 := tmps_of e54
      exact does_call rfl rfl rfl 7 #[b.val] (by simp only [execOp]; go_simp) ((withL b wA).mono fun e w' h => ⟨_, h.1, h.2, rfl⟩)
    | 4, _, hdi =>
      have hz : dn 6 = false := by
        cases h : dn 6 with
        | false => rfl
        | true =>
          have := hcl 6 _ rfl h ⟨4, .data⟩ (by simp) rfl
          rw [hdi] at this
          cases this
      exact does_val rfl rfl rfl (.pointer (some ⟨wA.heap.size, 0, none⟩)) (wA.alloc (.cells #[.int .u8 0, .int .u8 0, .int .i64 0, .string ⟨#[]⟩, .string ⟨#[]⟩, .string ⟨#[]⟩, .int .i64 0, .slice none 0 0] 27)) (by simp only [execOp]; go_simp) ((Below.refl _ _).alloc (Nat.le_refl _) _) (lgPr_new 4 6 (.inl ⟨rfl, rfl⟩) wA (by unfold upd; simp [hz]))
    | 5, _, hdi =>
      have hz : dn 7 = false := by
        cases h : dn 7 with
        | false => rfl
        | true =>
          have := hcl 7 _ rfl h ⟨5, .data⟩ (by simp) rfl
          rw [hdi] at this
          cases this
      exact does_val rfl rfl rfl (.pointer (some ⟨wA.heap.size, 0, none⟩)) (wA.alloc (.cells #[.int .u8 0, .int .u8 0, .int .i64 0, .string ⟨#[]⟩, .string ⟨#[]⟩, .string ⟨#[]⟩, .int .i64 0, .slice none 0 0] 27)) (by simp only [execOp]; go_simp) ((Below.refl _ _).alloc (Nat.le_refl _) _) (lgPr_new 5 7 (.inr ⟨rfl, rfl⟩) wA (by unfold upd; simp [hz]))
    | 6, _, hdi =>
      obtain ⟨hdt, hpt, hst, het⟩ := hd _ rfl ⟨4, .data⟩ (by simp) rfl
      obtain ⟨hup, hue, hub⟩ : us 4 = .pointer (some ⟨ss 4, 0, none⟩) ∧ es 4 = ss 4 + 1 ∧ Box (ss 4) (if dn 6 = true then exCells a else zer8) wA := hpt
      have hu : us 1 = .agg #[.int .u8 1, .int .u8 (a.k : Int), .int .i64 a.n, .string a.s, .string ⟨#[]⟩, .string ⟨#[]⟩, .int .i64 0, .slice none 0 0] := (hd _ rfl ⟨1, .data⟩ (by simp) rfl).2.1
      rw [if_neg (by rw [hdi]; decide)] at hub
      have h6 := tmps_of ((hat 4 5 (by simp) (by kernel_rfl) (by simp)).trans hup)
      have h7 := tmps_of ((hat 1 53 (by simp) (by kernel_rfl) (by simp)).trans hu)
      obtain ⟨z0, f0⟩ := hub 0 _ rfl
      obtain ⟨z1, f1⟩ := hub 1 _ rfl
      obtain ⟨z2, f2⟩ := hub 2 _ rfl
      obtain ⟨z3, f3⟩ := hub 3 _ rfl
      obtain ⟨z4, f4⟩ := hub 4 _ rfl
      obtain ⟨z5, f5⟩ := hub 5 _ rfl
      obtain ⟨z6, f6⟩ := hub 6 _ rfl
      obtain ⟨z7, f7⟩ := hub 7 _ rfl
      have hlt2 : ss 4 < es 4 := by rw [hue]; exact Nat.lt_succ_self _
      exact does_store rfl rfl 4 (ss 4) rfl (by simp) (by decide) hdt (Nat.le_refl _) hlt2 (wA.setCells (ss 4) 0 [.int .u8 1, .int .u8 (a.k : Int), .int .i64 a.n, .string a.s, .string ⟨#[]⟩, .string ⟨#[]⟩, .int .i64 0, .slice none 0 0])
        (by simp only [execOp]; go_simp) (grown_sets _ _ _ (grown_self _ _)) (size_sets _ _ _ _) trivial (lgPr_fill (c := a) 4 6 (.inl ⟨rfl, rfl, rfl⟩) hup hue hub)
    | 7, _, hdi =>
      obtain ⟨hdt, hpt, hst, het⟩ := hd _ rfl ⟨5, .data⟩ (by simp) rfl
      obtain ⟨hup, hue, hub⟩ : us 5 = .pointer (some ⟨ss 5, 0, none⟩) ∧ es 5 = ss 5 + 1 ∧ Box (ss 5) (if dn 7 = true then exCells b else zer8) wA := hpt
      have hu : us 3 = .agg #[.int .u8 1, .int .u8 (b.k : Int), .int .i64 b.n, .string b.s, .string ⟨#[]⟩, .string ⟨#[]⟩, .int .i64 0, .slice none 0 0] := (hd _ rfl ⟨3, .data⟩ (by simp) rfl).2.1
      rw [if_neg (by rw [hdi]; decide)] at hub
      have h6 := tmps_of ((hat 5 6 (by simp) (by kernel_rfl) (by simp)).trans hup)
      have h7 := tmps_of ((hat 3 55 (by simp) (by kernel_rfl) (by simp)).trans hu)
      obtain ⟨z0, f0⟩ := hub 0 _ rfl
      obtain ⟨z1, f1⟩ := hub 1 _ rfl
      obtain ⟨z2, f2⟩ := hub 2 _ rfl
      obtain ⟨z3, f3⟩ := hub 3 _ rfl
      obtain ⟨z4, f4⟩ := hub 4 _ rfl
      obtain ⟨z5, f5⟩ := hub 5 _ rfl
      obtain ⟨z6, f6⟩ := hub 6 _ rfl
      obtain ⟨z7, f7⟩ := hub 7 _ rfl
      have hlt2 : ss 5 < es 5 := by rw [hue]; exact Nat.lt_succ_self _
      exact does_store rfl rfl 5 (ss 5) rfl (by simp) (by decide) hdt (Nat.le_refl _) hlt2 (wA.setCells (ss 5) 0 [.int .u8 1, .int .u8 (b.k : Int), .int .i64 b.n, .string b.s, .string ⟨#[]⟩, .string ⟨#[]⟩, .int .i64 0, .slice none 0 0])
        (by simp only [execOp]; go_simp) (grown_sets _ _ _ (grown_self _ _)) (size_sets _ _ _ _) trivial (lgPr_fill (c := b) 5 7 (.inr ⟨rfl, rfl, rfl⟩) hup hue hub)
    | n + 8, hi, _ => simp at hi; omega
  intro dn us ss es w2 hall hb2 hpr hdis
  obtain ⟨hu4, -, hx0⟩ : us 4 = .pointer (some ⟨ss 4, 0, none⟩) ∧ es 4 = ss 4 + 1 ∧ Box (ss 4) (if dn 6 = true then exCells a else zer8) w2 := (hpr 4 (by simp)).1
  obtain ⟨hu5, -, hy0⟩ : us 5 = .pointer (some ⟨ss 5, 0, none⟩) ∧ es 5 = ss 5 + 1 ∧ Box (ss 5) (if dn 7 = true then exCells b else zer8) w2 := (hpr 5 (by simp)).1
  rw [if_pos (hall 6 (by simp))] at hx0
  rw [if_pos (hall 7 (by simp))] at hy0
  have HB2 := Lib.hid (next HAT1.out.bel hb2)
  have hX : Box (ss 4) (exV a).cells w2 := hx0
  have hY : Box (ss 5) (exV b).cells w2 := hy0
  clear hall hpr hdis hx0 hy0 hb2
  simp only [List.length_cons, List.length_nil, Nat.zero_add, Nat.reduceAdd, putAll, dstOf, List.getElem?_toArray, List.getElem?_cons_zero, List.getElem?_cons_succ, Option.bind_some, Act.put, hu4, hu5]
  generalize ss 4 = bx at *
  generalize ss 5 = by_ at *
  clear hu4 hu5
  have HX := Lib.hid hX
  have HY := Lib.hid hY
  clear hX hY HAT0 HAT1
  go_wp2_with fail
  go_loopg [57] 2 (fun gk i wr => ∃ k : Nat, i = .int .i64 (k : Int) ∧ gk = 2 - k ∧ k ≤ 2 ∧ Hid (Below w2.heap.size w2 wr))
  case atStart => exact ⟨0, rfl, rfl, Nat.zero_le _, Lib.hid (Below.refl _ _)⟩
  case round =>
    obtain ⟨k, rfl, rfl, hk2, hbr⟩ := hrel
    by_cases hlt : k < 2
    · have hlt' : decide ((k : Int) < 2) = true := decide_eq_true (by omega)
      go_upto_region 8 with fail
      go_cut [8] (fun s wx => s = .int .u8 ((18 + k : Nat) : Int) ∧ wr = wx)
      case first =>
        rcases (show k = 0 ∨ k = 1 by omega) with rfl | rfl
        all_goals
          go_wp2_with fail
          go_meet
          exact ⟨rfl, rfl⟩
      case rest =>
      obtain ⟨rfl, rfl⟩ := hcut
      have HKK : Hid (wrap64 ((k : Int) + 1) = ((k + 1 : Nat) : Int)) := Lib.hid (by unfold wrap64; omega)
      have HLT := Lib.hid hlt
      obtain ⟨O, hO⟩ : ∃ O, O = 18 + k := ⟨_, rfl⟩
      rw [← hO]
      have HOP : Hid (O = 18 ∨ O = 19) := Lib.hid (by omega)
      have h37 : ((37 : Int) - (O : Int)) % 256 = ((37 - O : Nat) : Int) := by have := HOP.out; omega
      clear hO hlt hlt' hk2
      have HBX := Lib.hid (HX.out.later hbr.out)
      have HBY := Lib.hid (HY.out.later hbr.out)
      obtain ⟨x0, -⟩ := HBX.out 0 _ rfl
      obtain ⟨x1, -⟩ := HBX.out 1 _ rfl
      obtain ⟨x2, -⟩ := HBX.out 2 _ rfl
      obtain ⟨x3, -⟩ := HBX.out 3 _ rfl
      obtain ⟨x4, -⟩ := HBX.out 4 _ rfl
      obtain ⟨x5, -⟩ := HBX.out 5 _ rfl
      obtain ⟨x6, -⟩ := HBX.out 6 _ rfl
      obtain ⟨x7, -⟩ := HBX.out 7 _ rfl
      obtain ⟨y0, -⟩ := HBY.out 0 _ rfl
      obtain ⟨y1, -⟩ := HBY.out 1 _ rfl
      obtain ⟨y2, -⟩ := HBY.out 2 _ rfl
      obtain ⟨y3, -⟩ := HBY.out 3 _ rfl
      obtain ⟨y4, -⟩ := HBY.out 4 _ rfl
      obtain ⟨y5, -⟩ := HBY.out 5 _ rfl
      obtain ⟨y6, -⟩ := HBY.out 6 _ rfl
      obtain ⟨y7, -⟩ := HBY.out 7 _ rfl
      go_wp2_with fail
      refine (ofL O (some ⟨wr.heap.size, 0, none⟩) 2 2 [exV a, exV b] _).mono ?_
      rintro e w3 ⟨rfl, hb3⟩
      have B3 : Hid (Below wr.heap.size wr w3) := Lib.hid (next ((Below.refl _ wr).alloc (Nat.le_refl _) _) hb3)
      have HS3 := Lib.hid ((ex_pair wr (exV a) (exV b)).below hb3)
      clear hb3 x0 x1 x2 x3 x4 x5 x6 x7 y0 y1 y2 y3 y4 y5 y6 y7
      go_wp2_with fail
      refine (ofL 4 (some ⟨w3.heap.size, 0, none⟩) 1 1 [exOf O (.slice (some ⟨wr.heap.size, 0, none⟩) 2 2) [exV a, exV b]] _).mono ?_
      rintro e w4 ⟨rfl, hb4⟩
      have B4 : Hid (Below w3.heap.size w3 w4) := Lib.hid (next ((Below.refl _ w3).alloc (Nat.le_refl _) _) hb4)
      have HS4 := Lib.hid ((ex_one w3 (exOf O (.slice (some ⟨wr.heap.size, 0, none⟩) 2 2) [exV a, exV b])).below hb4)
      clear hb4
      go_wp2_with fail
      obtain ⟨R, hRR⟩ : ∃ R, R = turnV O a b := ⟨_, rfl⟩
      have HRR := Lib.hid hRR
      have hev := evalW (exOf 4 (.slice (some ⟨w3.heap.size, 0, none⟩) 1 1) [exOf O (.slice (some ⟨wr.heap.size, 0, none⟩) 2 2) [exV a, exV b]]) (.slice none 0 0) [] w4
        (exOf_in HS4.out (fun y hy => by simp at hy; subst hy; exact exOf_in (HS3.out.below B4.out) (fun y hy => by simp at hy; rcases hy with rfl | rfl <;> exact exV_in _ _)))
        (exOf_ok (by omega) (by simp) (fun y hy => by simp at hy; subst hy; exact exOf_ok (by have := HOP.out; omega) (by simp) (fun y hy => by
          simp at hy
          rcases hy with rfl | rfl
          · exact exV_ok HOK.out.1
          · exact exV_ok HOK.out.2))) (SlAt.nil _ _ _) (fun v hv => by cases hv) (by simp)
      rw [turn_1 HOP.out HN.out.1 HN.out.2, ← hRR] at hev
      have HEV := Lib.hid hev
      clear hev hRR
      refine HEV.out.mono ?_
      rintro e w5 ⟨rfl, hb5⟩
      have B5 := Lib.hid hb5
      clear hb5
      go_wp2_with fail
      have hbR : Box w5.heap.size R.cells (w5.alloc (.cells #[.int .u8 (R.k : Int), .int .i64 R.n, .string R.s] 23)) := fun i u hu => by
        rcases i with _ | _ | _ | i <;> simp [V.cells] at hu <;> subst hu <;> exact ⟨by go_simp, by go_simp⟩
      have hbW : Below wr.heap.size wr (w5.alloc (.cells #[.int .u8 (R.k : Int), .int .i64 R.n, .string R.s] 23)) := (next (next B3.out B4.out) B5.out).alloc ((next (next B3.out B4.out) B5.out).size) _
      have H37 := Lib.hid h37
      clear h37
      generalize hW9 : w5.alloc (.cells #[.int .u8 (R.k : Int), .int .i64 R.n, .string R.s] 23) = w9 at *
      have HBR := Lib.hid hbR
      have HBX9 := Lib.hid (HBX.out.later hbW)
      have HBY9 := Lib.hid (HBY.out.later hbW)
      have HW9 := Lib.hid (next hbr.out hbW)
      clear hbR hbW hW9 HBX HBY HS3 HS4 HEV B3 B4 B5
      have HBX := HBX9
      have HBY := HBY9
      clear HBX9 HBY9
      refine wp_region_kin (fun j => ([(.is (.int .i64 ((0 : Nat) : Int))), (.is (.bool false)), (.is (.bool false)), (.is (V.val R)), (.is (.int .i64 ((0 : Nat) : Int))), (.got R 0), (.is (.int .u8 ((37 - O : Nat) : Int))), (.is (Ex.val (exV a))), (.kids (fun ks => ks = [exV a])), (.ex (fun x => ∃ k0 : Value, x = exOf 4 k0 [exV a])), (.is (Ex.val (exV b))), (.kids (fun ks => ks = [exV b])), (.ex (fun x => ∃ k0 : Value, x = exOf 4 k0 [exV b])), (.kids (fun ks => ∃ k0 k1 : Value, ks = [exOf 4 k0 [exV a], exOf 4 k1 [exV b]])), (.ex (fun x => ∃ k0 k1 k2 : Value, x = exOf (37 - O) k0 [exOf 4 k1 [exV a], exOf 4 k2 [exV b]])), (.is (resV (R, 0))), (.is (V.val R)), (.is (.int .i64 ((0 : Nat) : Int))), (.is (.bool true)), (.is (.bool false)), (.is (.bool false)), (.is (.bool false)), (.is (V.val R)), (.is (.int .i64 ((0 : Nat) : Int))), (.got R 0), (.is (.int .u8 (O : Int))), (.is (Ex.val (exV b))), (.is (Ex.val (exV a))), (.kids (fun ks => ks = [exV b, exV a])), (.ex (fun x => ∃ k0 : Value, x = exOf O k0 [exV b, exV a])), (.kids (fun ks => ∃ k0 : Value, ks = [exOf O k0 [exV b, exV a]])), (.ex (fun x => ∃ k0 k1 : Value, x = exOf 4 k0 [exOf O k1 [exV b, exV a]])), (.is (resV (R, 0))), (.is (V.val R)), (.is (.int .i64 ((0 : Nat) : Int))), (.is (.bool true)), (.is (.bool false)), (.is (.bool false))] : List Kn).getD j (.is undef)) 112 (by simp) (by kernel_rfl) (by kernel_rfl) ?_ ?_
      · intro i hi A w1 hother hb hd
        match i, hi with
        | 0, _ =>
          have e10 : A.eval (.tmp 10) = .int .i64 ((0 : Nat) : Int) := hother 10 (by kernel_rfl)
          exact kin_move rfl (wanted_none rfl) rfl _ e10 rfl
        | 1, _ =>
          have e73 := (hd _ rfl ⟨0, .data⟩ (by simp) rfl).eq (.int .i64 ((0 : Nat) : Int)) rfl 73 (by kernel_rfl) (by decide)
          have h6 := tmps_of e73
          exact kin_same rfl (wanted_none rfl) (.bool false) (by simp only [execOp]; go_simp) rfl
        | 2, _ =>
          have e74 := (hd _ rfl ⟨1, .data⟩ (by simp) rfl).eq (.bool false) rfl 74 (by kernel_rfl) (by decide)
          exact kin_move rfl (wanted_none rfl) rfl _ e74 rfl
        | 3, _ =>
          have hg := (hd _ rfl ⟨2, .guard⟩ (by simp) rfl).eq (.bool false) rfl 75 (by kernel_rfl) (by decide)
          have e9 : A.eval (.tmp 9) = .pointer (some ⟨w5.heap.size, 0, none⟩) := hother 9 (by kernel_rfl)
          exact kin_loadV rfl (wanted_some rfl (by kernel_rfl) hg) rfl _ e9 R _ HBR.out hb rfl
        | 4, _ =>
          have hg := (hd _ rfl ⟨2, .guard⟩ (by simp) rfl).eq (.bool false) rfl 75 (by kernel_rfl) (by decide)
          have e10 : A.eval (.tmp 10) = .int .i64 ((0 : Nat) : Int) := hother 10 (by kernel_rfl)
          exact kin_move rfl (wanted_some rfl (by kernel_rfl) hg) rfl _ e10 rfl
        | 5, _ =>
          have hg := (hd _ rfl ⟨2, .guard⟩ (by simp) rfl).eq (.bool false) rfl 75 (by kernel_rfl) (by decide)
          have e76 := (hd _ rfl ⟨3, .data⟩ (by simp) rfl).eq (V.val R) rfl 76 (by kernel_rfl) (by decide)
          have e77 := (hd _ rfl ⟨4, .data⟩ (by simp) rfl).eq (.int .i64 ((0 : Nat) : Int)) rfl 77 (by kernel_rfl) (by decide)
          exact kin_is rfl (wanted_some rfl (by kernel_rfl) hg) rfl R 0 e76 e77 rfl
        | 6, _ =>
          have hg := (hd _ rfl ⟨2, .guard⟩ (by simp) rfl).eq (.bool false) rfl 75 (by kernel_rfl) (by decide)
          have e11 : A.eval (.tmp 11) = .int .u8 ((37 - O : Nat) : Int) := (hother 11 (by kernel_rfl)).trans (congrArg (Value.int .u8) H37.out)
          exact kin_move rfl (wanted_some rfl (by kernel_rfl) hg) rfl _ e11 rfl
        | 7, _ =>
          have hg := (hd _ rfl ⟨2, .guard⟩ (by simp) rfl).eq (.bool false) rfl 75 (by kernel_rfl) (by decide)
          have e5 : A.eval (.tmp 5) = .pointer (some ⟨bx, 0, none⟩) := hother 5 (by kernel_rfl)
          exact kin_loadE rfl (wanted_some rfl (by kernel_rfl) hg) rfl _ e5 a _ HBX.out hb rfl
        | 8, _ =>
          have hg := (hd _ rfl ⟨2, .guard⟩ (by simp) rfl).eq (.bool false) rfl 75 (by kernel_rfl) (by decide)
          have e80 := (hd _ rfl ⟨7, .data⟩ (by simp) rfl).eq (Ex.val (exV a)) rfl 80 (by kernel_rfl) (by decide)
          have o80 : (exV a).Ok := exV_ok HOK.out.1
          exact kin_kids1 rfl (wanted_some rfl (by kernel_rfl) hg) rfl (exV a) e80 (exV_in a w1) o80 (fun ks => ks = [exV a]) rfl (rfl)
        | 9, _ =>
          have hg := (hd _ rfl ⟨2, .guard⟩ (by simp) rfl).eq (.bool false) rfl 75 (by kernel_rfl) (by decide)
          obtain ⟨v81, k81, e81⟩ := (hd _ rfl ⟨8, .data⟩ (by simp) rfl).get (.kids (fun ks => ks = [exV a])) rfl 81 (by kernel_rfl) (by decide)
          exact kin_of rfl (wanted_some rfl (by kernel_rfl) hg) rfl 4 (by omega) rfl v81 e81 (fun ks => ks = [exV a]) k81 (fun x => ∃ k0 : Value, x = exOf 4 k0 [exV a]) rfl (fun kv ks h => ⟨kv, by rw [h]⟩)
        | 10, _ =>
          have hg := (hd _ rfl ⟨2, .guard⟩ (by simp) rfl).eq (.bool false) rfl 75 (by kernel_rfl) (by decide)
          have e6 : A.eval (.tmp 6) = .pointer (some ⟨by_, 0, none⟩) := hother 6 (by kernel_rfl)
          exact kin_loadE rfl (wanted_some rfl (by kernel_rfl) hg) rfl _ e6 b _ HBY.out hb rfl
        | 11, _ =>
          have hg := (hd _ rfl ⟨2, .guard⟩ (by simp) rfl).eq (.bool false) rfl 75 (by kernel_rfl) (by decide)
          have e83 := (hd _ rfl ⟨10, .data⟩ (by simp) rfl).eq (Ex.val (exV b)) rfl 83 (by kernel_rfl) (by decide)
          have o83 : (exV b).Ok := exV_ok HOK.out.2
          exact kin_kids1 rfl (wanted_some rfl (by kernel_rfl) hg) rfl (exV b) e83 (exV_in b w1) o83 (fun ks => ks = [exV b]) rfl (rfl)
        | 12, _ =>
          have hg := (hd _ rfl ⟨2, .guard⟩ (by simp) rfl).eq (.bool false) rfl 75 (by kernel_rfl) (by decide)
          obtain ⟨v84, k84, e84⟩ := (hd _ rfl ⟨11, .data⟩ (by simp) rfl).get (.kids (fun ks => ks = [exV b])) rfl 84 (by kernel_rfl) (by decide)
          exact kin_of rfl (wanted_some rfl (by kernel_rfl) hg) rfl 4 (by omega) rfl v84 e84 (fun ks => ks = [exV b]) k84 (fun x => ∃ k0 : Value, x = exOf 4 k0 [exV b]) rfl (fun kv ks h => ⟨kv, by rw [h]⟩)
        | 13, _ =>
          have hg := (hd _ rfl ⟨2, .guard⟩ (by simp) rfl).eq (.bool false) rfl 75 (by kernel_rfl) (by decide)
          obtain ⟨v82, k82, e82⟩ := (hd _ rfl ⟨9, .data⟩ (by simp) rfl).get (.ex (fun x => ∃ k0 : Value, x = exOf 4 k0 [exV a])) rfl 82 (by kernel_rfl) (by decide)
          obtain ⟨v85, k85, e85⟩ := (hd _ rfl ⟨12, .data⟩ (by simp) rfl).get (.ex (fun x => ∃ k0 : Value, x = exOf 4 k0 [exV b])) rfl 85 (by kernel_rfl) (by decide)
          obtain ⟨x82, rfl, i82, o82, p82⟩ := k82
          obtain ⟨a82_0, q82⟩ := p82
          obtain ⟨x85, rfl, i85, o85, p85⟩ := k85
          obtain ⟨a85_0, q85⟩ := p85
          exact kin_kids2 rfl (wanted_some rfl (by kernel_rfl) hg) rfl x82 x85 e82 e85 i82 o82 i85 o85 (fun ks => ∃ k0 k1 : Value, ks = [exOf 4 k0 [exV a], exOf 4 k1 [exV b]]) rfl (⟨a82_0, a85_0, by rw [q82, q85]⟩)
        | 14, _ =>
          have hg := (hd _ rfl ⟨2, .guard⟩ (by simp) rfl).eq (.bool false) rfl 75 (by kernel_rfl) (by decide)
          have e79 := (hd _ rfl ⟨6, .data⟩ (by simp) rfl).eq (.int .u8 ((37 - O : Nat) : Int)) rfl 79 (by kernel_rfl) (by decide)
          obtain ⟨v86, k86, e86⟩ := (hd _ rfl ⟨13, .data⟩ (by simp) rfl).get (.kids (fun ks => ∃ k0 k1 : Value, ks = [exOf 4 k0 [exV a], exOf 4 k1 [exV b]])) rfl 86 (by kernel_rfl) (by decide)
          exact kin_of rfl (wanted_some rfl (by kernel_rfl) hg) rfl (37 - O) (by omega) e79 v86 e86 (fun ks => ∃ k0 k1 : Value, ks = [exOf 4 k0 [exV a], exOf 4 k1 [exV b]]) k86 (fun x => ∃ k0 k1 k2 : Value, x = exOf (37 - O) k0 [exOf 4 k1 [exV a], exOf 4 k2 [exV b]]) rfl (fun kv ks ⟨b0, b1, h⟩ => ⟨kv, b0, b1, by rw [h]⟩)
        | 15, _ =>
          have hg := (hd _ rfl ⟨2, .guard⟩ (by simp) rfl).eq (.bool false) rfl 75 (by kernel_rfl) (by decide)
          obtain ⟨v87, k87, e87⟩ := (hd _ rfl ⟨14, .data⟩ (by simp) rfl).get (.ex (fun x => ∃ k0 k1 k2 : Value, x = exOf (37 - O) k0 [exOf 4 k1 [exV a], exOf 4 k2 [exV b]])) rfl 87 (by kernel_rfl) (by decide)
          exact kin_eval rfl (wanted_some rfl (by kernel_rfl) hg) rfl v87 e87 (fun x => ∃ k0 k1 k2 : Value, x = exOf (37 - O) k0 [exOf 4 k1 [exV a], exOf 4 k2 [exV b]]) k87 (R, 0) rfl (by rintro x ⟨b0, b1, b2, rfl⟩; exact (by rw [HRR.out]; exact turn_2 HOP.out HN.out.1 HN.out.2 _ _ _))
        | 16, _ =>
          have hg := (hd _ rfl ⟨2, .guard⟩ (by simp) rfl).eq (.bool false) rfl 75 (by kernel_rfl) (by decide)
          have e88 := (hd _ rfl ⟨15, .data⟩ (by simp) rfl).eq (resV (R, 0)) rfl 88 (by kernel_rfl) (by decide)
          exact kin_ext0 rfl (wanted_some rfl (by kernel_rfl) hg) rfl _ e88 rfl
        | 17, _ =>
          have hg := (hd _ rfl ⟨2, .guard⟩ (by simp) rfl).eq (.bool false) rfl 75 (by kernel_rfl) (by decide)
          have e88 := (hd _ rfl ⟨15, .data⟩ (by simp) rfl).eq (resV (R, 0)) rfl 88 (by kernel_rfl) (by decide)
          exact kin_ext1 rfl (wanted_some rfl (by kernel_rfl) hg) rfl _ e88 rfl
        | 18, _ =>
          have hg := (hd _ rfl ⟨2, .guard⟩ (by simp) rfl).eq (.bool false) rfl 75 (by kernel_rfl) (by decide)
          obtain ⟨v78, k78, e78⟩ := (hd _ rfl ⟨5, .data⟩ (by simp) rfl).get (.got R 0) rfl 78 (by kernel_rfl) (by decide)
          have e89 := (hd _ rfl ⟨16, .data⟩ (by simp) rfl).eq (V.val R) rfl 89 (by kernel_rfl) (by decide)
          have e90 := (hd _ rfl ⟨17, .data⟩ (by simp) rfl).eq (.int .i64 ((0 : Nat) : Int)) rfl 90 (by kernel_rfl) (by decide)
          exact kin_yes rfl (wanted_some rfl (by kernel_rfl) hg) rfl v78 e78 R 0 k78 e89 e90 rfl
        | 19, _ =>
          have hg := (hd _ rfl ⟨2, .guard⟩ (by simp) rfl).eq (.bool false) rfl 75 (by kernel_rfl) (by decide)
          have e91 := (hd _ rfl ⟨18, .data⟩ (by simp) rfl).eq (.bool true) rfl 91 (by kernel_rfl) (by decide)
          exact kin_not rfl (wanted_some rfl (by kernel_rfl) hg) rfl true e91 rfl
        | 20, _ =>
          have e75 := (hd _ rfl ⟨2, .data⟩ (by simp) rfl).eq (.bool false) rfl 75 (by kernel_rfl) (by decide)
          have e92 := (hd _ rfl ⟨19, .data⟩ (by simp) rfl).eq (.bool false) rfl 92 (by kernel_rfl) (by decide)
          exact kin_or rfl (wanted_none rfl) rfl false e75 e92 rfl
        | 21, _ =>
          have e93 := (hd _ rfl ⟨20, .data⟩ (by simp) rfl).eq (.bool false) rfl 93 (by kernel_rfl) (by decide)
          exact kin_move rfl (wanted_none rfl) rfl _ e93 rfl
        | 22, _ =>
          have hg := (hd _ rfl ⟨21, .guard⟩ (by simp) rfl).eq (.bool false) rfl 94 (by kernel_rfl) (by decide)
          have e9 : A.eval (.tmp 9) = .pointer (some ⟨w5.heap.size, 0, none⟩) := hother 9 (by kernel_rfl)
          exact kin_loadV rfl (wanted_some rfl (by kernel_rfl) hg) rfl _ e9 R _ HBR.out hb rfl
        | 23, _ =>
          have hg := (hd _ rfl ⟨21, .guard⟩ (by simp) rfl).eq (.bool false) rfl 94 (by kernel_rfl) (by decide)
          have e10 : A.eval (.tmp 10) = .int .i64 ((0 : Nat) : Int) := hother 10 (by kernel_rfl)
          exact kin_move rfl (wanted_some rfl (by kernel_rfl) hg) rfl _ e10 rfl
        | 24, _ =>
          have hg := (hd _ rfl ⟨21, .guard⟩ (by simp) rfl).eq (.bool false) rfl 94 (by kernel_rfl) (by decide)
          have e95 := (hd _ rfl ⟨22, .data⟩ (by simp) rfl).eq (V.val R) rfl 95 (by kernel_rfl) (by decide)
          have e96 := (hd _ rfl ⟨23, .data⟩ (by simp) rfl).eq (.int .i64 ((0 : Nat) : Int)) rfl 96 (by kernel_rfl) (by decide)
          exact kin_is rfl (wanted_some rfl (by kernel_rfl) hg) rfl R 0 e95 e96 rfl
        | 25, _ =>
          have hg := (hd _ rfl ⟨21, .guard⟩ (by simp) rfl).eq (.bool false) rfl 94 (by kernel_rfl) (by decide)
          have e8 : A.eval (.tmp 8) = .int .u8 (O : Int) := hother 8 (by kernel_rfl)
          exact kin_move rfl (wanted_some rfl (by kernel_rfl) hg) rfl _ e8 rfl
        | 26, _ =>
          have hg := (hd _ rfl ⟨21, .guard⟩ (by simp) rfl).eq (.bool false) rfl 94 (by kernel_rfl) (by decide)
          have e6 : A.eval (.tmp 6) = .pointer (some ⟨by_, 0, none⟩) := hother 6 (by kernel_rfl)
          exact kin_loadE rfl (wanted_some rfl (by kernel_rfl) hg) rfl _ e6 b _ HBY.out hb rfl
        | 27, _ =>
          have hg := (hd _ rfl ⟨21, .guard⟩ (by simp) rfl).eq (.bool false) rfl 94 (by kernel_rfl) (by decide)
          have e5 : A.eval (.tmp 5) = .pointer (some ⟨bx, 0, none⟩) := hother 5 (by kernel_rfl)
          exact kin_loadE rfl (wanted_some rfl (by kernel_rfl) hg) rfl _ e5 a _ HBX.out hb rfl
        | 28, _ =>
          have hg := (hd _ rfl ⟨21, .guard⟩ (by simp) rfl).eq (.bool false) rfl 94 (by kernel_rfl) (by decide)
          have e99 := (hd _ rfl ⟨26, .data⟩ (by simp) rfl).eq (Ex.val (exV b)) rfl 99 (by kernel_rfl) (by decide)
          have e100 := (hd _ rfl ⟨27, .data⟩ (by simp) rfl).eq (Ex.val (exV a)) rfl 100 (by kernel_rfl) (by decide)
          have o99 : (exV b).Ok := exV_ok HOK.out.2
          have o100 : (exV a).Ok := exV_ok HOK.out.1
          exact kin_kids2 rfl (wanted_some rfl (by kernel_rfl) hg) rfl (exV b) (exV a) e99 e100 (exV_in b w1) o99 (exV_in a w1) o100 (fun ks => ks = [exV b, exV a]) rfl (rfl)
        | 29, _ =>
          have hg := (hd _ rfl ⟨21, .guard⟩ (by simp) rfl).eq (.bool false) rfl 94 (by kernel_rfl) (by decide)
          have e98 := (hd _ rfl ⟨25, .data⟩ (by simp) rfl).eq (.int .u8 (O : Int)) rfl 98 (by kernel_rfl) (by decide)
          obtain ⟨v101, k101, e101⟩ := (hd _ rfl ⟨28, .data⟩ (by simp) rfl).get (.kids (fun ks => ks = [exV b, exV a])) rfl 101 (by kernel_rfl) (by decide)
          exact kin_of rfl (wanted_some rfl (by kernel_rfl) hg) rfl O (by have := HOP.out; omega) e98 v101 e101 (fun ks => ks = [exV b, exV a]) k101 (fun x => ∃ k0 : Value, x = exOf O k0 [exV b, exV a]) rfl (fun kv ks h => ⟨kv, by rw [h]⟩)
        | 30, _ =>
          have hg := (hd _ rfl ⟨21, .guard⟩ (by simp) rfl).eq (.bool false) rfl 94 (by kernel_rfl) (by decide)
          obtain ⟨v102, k102, e102⟩ := (hd _ rfl ⟨29, .data⟩ (by simp) rfl).get (.ex (fun x => ∃ k0 : Value, x = exOf O k0 [exV b, exV a])) rfl 102 (by kernel_rfl) (by decide)
          obtain ⟨x102, rfl, i102, o102, p102⟩ := k102
          obtain ⟨a102_0, q102⟩ := p102
          exact kin_kids1 rfl (wanted_some rfl (by kernel_rfl) hg) rfl x102 e102 i102 o102 (fun ks => ∃ k0 : Value, ks = [exOf O k0 [exV b, exV a]]) rfl (⟨a102_0, by rw [q102]⟩)
        | 31, _ =>
          have hg := (hd _ rfl ⟨21, .guard⟩ (by simp) rfl).eq (.bool false) rfl 94 (by kernel_rfl) (by decide)
          obtain ⟨v103, k103, e103⟩ := (hd _ rfl ⟨30, .data⟩ (by simp) rfl).get (.kids (fun ks => ∃ k0 : Value, ks = [exOf O k0 [exV b, exV a]])) rfl 103 (by kernel_rfl) (by decide)
          exact kin_of rfl (wanted_some rfl (by kernel_rfl) hg) rfl 4 (by omega) rfl v103 e103 (fun ks => ∃ k0 : Value, ks = [exOf O k0 [exV b, exV a]]) k103 (fun x => ∃ k0 k1 : Value, x = exOf 4 k0 [exOf O k1 [exV b, exV a]]) rfl (fun kv ks ⟨b0, h⟩ => ⟨kv, b0, by rw [h]⟩)
        | 32, _ =>
          have hg := (hd _ rfl ⟨21, .guard⟩ (by simp) rfl).eq (.bool false) rfl 94 (by kernel_rfl) (by decide)
          obtain ⟨v104, k104, e104⟩ := (hd _ rfl ⟨31, .data⟩ (by simp) rfl).get (.ex (fun x => ∃ k0 k1 : Value, x = exOf 4 k0 [exOf O k1 [exV b, exV a]])) rfl 104 (by kernel_rfl) (by decide)
          exact kin_eval rfl (wanted_some rfl (by kernel_rfl) hg) rfl v104 e104 (fun x => ∃ k0 k1 : Value, x = exOf 4 k0 [exOf O k1 [exV b, exV a]]) k104 (R, 0) rfl (by rintro x ⟨b0, b1, rfl⟩; exact (by rw [HRR.out]; exact turn_3 HOP.out HN.out.1 HN.out.2 _ _))
        | 33, _ =>
          have hg := (hd _ rfl ⟨21, .guard⟩ (by simp) rfl).eq (.bool false) rfl 94 (by kernel_rfl) (by decide)
          have e105 := (hd _ rfl ⟨32, .data⟩ (by simp) rfl).eq (resV (R, 0)) rfl 105 (by kernel_rfl) (by decide)
          exact kin_ext0 rfl (wanted_some rfl (by kernel_rfl) hg) rfl _ e105 rfl
        | 34, _ =>
          have hg := (hd _ rfl ⟨21, .guard⟩ (by simp) rfl).eq (.bool false) rfl 94 (by kernel_rfl) (by decide)
          have e105 := (hd _ rfl ⟨32, .data⟩ (by simp) rfl).eq (resV (R, 0)) rfl 105 (by kernel_rfl) (by decide)
          exact kin_ext1 rfl (wanted_some rfl (by kernel_rfl) hg) rfl _ e105 rfl
        | 35, _ =>
          have hg := (hd _ rfl ⟨21, .guard⟩ (by simp) rfl).eq (.bool false) rfl 94 (by kernel_rfl) (by decide)
          obtain ⟨v97, k97, e97⟩ := (hd _ rfl ⟨24, .data⟩ (by simp) rfl).get (.got R 0) rfl 97 (by kernel_rfl) (by decide)
          have e106 := (hd _ rfl ⟨33, .data⟩ (by simp) rfl).eq (V.val R) rfl 106 (by kernel_rfl) (by decide)
          have e107 := (hd _ rfl ⟨34, .data⟩ (by simp) rfl).eq (.int .i64 ((0 : Nat) : Int)) rfl 107 (by kernel_rfl) (by decide)
          exact kin_yes rfl (wanted_some rfl (by kernel_rfl) hg) rfl v97 e97 R 0 k97 e106 e107 rfl
        | 36, _ =>
          have hg := (hd _ rfl ⟨21, .guard⟩ (by simp) rfl).eq (.bool false) rfl 94 (by kernel_rfl) (by decide)
          have e108 := (hd _ rfl ⟨35, .data⟩ (by simp) rfl).eq (.bool true) rfl 108 (by kernel_rfl) (by decide)
          exact kin_not rfl (wanted_some rfl (by kernel_rfl) hg) rfl true e108 rfl
        | 37, _ =>
          have e94 := (hd _ rfl ⟨21, .data⟩ (by simp) rfl).eq (.bool false) rfl 94 (by kernel_rfl) (by decide)
          have e109 := (hd _ rfl ⟨36, .data⟩ (by simp) rfl).eq (.bool false) rfl 109 (by kernel_rfl) (by decide)
          exact kin_or rfl (wanted_none rfl) rfl false e94 e109 rfl
        | n + 38, hi => simp at hi; omega
      intro us w6 hb6 hh
      have h37' : us 37 = .bool false := hh 37 (by simp)
      have HB6 := Lib.hid (next HW9.out hb6)
      clear hh hb6 HBX HBY HBR HW9 H37 HRR HOP
      simp only [List.length_cons, List.length_nil, Nat.zero_add, Nat.reduceAdd, putAll, dstOf, List.getElem?_toArray, List.getElem?_cons_zero, List.getElem?_cons_succ, Option.bind_some, Act.put, h37']
      clear h37'
      simp only [List.setIfInBounds_toArray, List.set_cons_zero, List.set_cons_succ]
      go_upto_region 13 with fail
      have hkk := HKK.out
      go_wp2_with fail
      go_roundg (2 - (k + 1))
      case measure => exact Nat.sub_lt_sub_left HLT.out (Nat.lt_succ_self _)
      case rel => exact ⟨k + 1, by first | rfl | exact congrArg (Value.int .i64) hkk, rfl, HLT.out, HB6⟩
    · obtain rfl : k = 2 := by omega
      clear hlt hk2
      go_wp2_with fail
      go_ret
      exact ⟨rfl, next HB2.out hbr.out⟩

theorem opened {H : Type} (enc : TypeId × Value → H) (W : World) (args : Array Value) (ds : List (DataW H)) (p : List MemPlace) :
    Lift.Owes enc Try.prog 3 Try.f3.params.toList W args ds p := by
  intro hA hval hsz _
  rw [Try.params3] at hA hval hsz
  obtain ⟨v0, vs0, d0, ds0, p0, q0, hargs, rfl, rfl, h0, r0⟩ := trodAll_cons hA
  obtain ⟨v1, vs1, d1, ds1, p1, q1, rfl, rfl, rfl, h1, r1⟩ := trodAll_cons r0
  obtain ⟨rfl, rfl, rfl⟩ := trodAll_nil r1
  obtain rfl : args = #[v0, v1] := by cases args; simp_all
  obtain ⟨base0, hv0⟩ := hval 0 _ v0 rfl rfl
  obtain ⟨a, rfl, ha⟩ := arg_V vT hv0 h0 (lim_arg hsz (j := 0) rfl rfl)
  obtain ⟨base1, hv1⟩ := hval 1 _ v1 rfl rfl
  obtain ⟨b, rfl, hb⟩ := arg_V vT hv1 h1 (lim_arg hsz (j := 1) rfl rfl)
  exact walk a b W ha hb

theorem own : ownKnob Try.prog.godebug = none := by kernel_rfl
theorem laid : laidOutB Try.prog = true := by kernel_rfl

set_option maxRecDepth 100000 in
theorem lifted (os : Os) (started : os.Started) (H : Type) (enc : TypeId × Value → H) :
    ReturnsInHanded {} Try.checked os 3 .any (Rows.evalLogicSpec.pre6 enc Try.prog Try.f3 Rows.evalLogicRow.domain false)
      (Rows.evalLogicSpec.post enc Try.prog Try.f3 false true false false) := by
  refine Lift.lifted (C := Try.checked) own started (by kernel_rfl) Try.func3
    (ChangeSpec.witness6 (enc := enc) (C := Try.checked) false ⟨#[], #[.agg #[.int .u8 0, .int .i64 0, .string ByteArray.empty], .agg #[.int .u8 0, .int .i64 0, .string ByteArray.empty]], []⟩ 8 (by kernel_rfl) (by kernel_rfl) (by kernel_rfl) (by kernel_rfl))
    laid (by rw [Try.params3]; intro t ht; simp at ht; rcases ht with rfl | rfl <;> exact ⟨by kernel_rfl, of_decide_eq_true (by kernel_rfl)⟩) rfl 4 rfl Try.underlying4
    (fun ds hds => by match ds, hds with | [_, _], _ => rfl) (opened enc)

theorem said : Rows.EvalLogicSaid :=
  OpenClaim.holds_of_wide 3 Try.f3 rfl rfl rfl rfl rfl rfl rfl ⟨rfl, rfl, rfl, rfl, rfl⟩ rfl rfl rfl rfl rfl (by kernel_rfl) Try.func3 (by kernel_rfl)
    (of_decide_eq_true (by kernel_rfl)) (by unfold Func.isWrapper; first | (rw [if_pos (by decide +kernel)]; kernel_rfl) | (rw [if_neg (by decide +kernel)]; exact ⟨rfl, rfl⟩))
    (fun os started H enc _ => lifted os started H enc)
#print axioms said
end Go.Proofs.Ytclkpbokngamiaa.EvalLogic
