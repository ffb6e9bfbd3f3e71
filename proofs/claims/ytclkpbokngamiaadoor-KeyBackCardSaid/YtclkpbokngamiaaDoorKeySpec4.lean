/-
  A row's key tells the row back; what is taken of bytes is put as these bytes: plain laws, no program in sight.
-/
import Derived.Test.YtclkpbokngamiaaDoorKeySpec3
import Derived.Test.YtclkpbokngamiaaDoorKeyOne
namespace Go.Proofs.YtclkpbokngamiaaDoor.Dt
open Go.RowKit Go.Proofs.YtclkpbokngamiaaDoor.By

theorem val8_be8 (n : Nat) (h : n < 18446744073709551616) (x : List UInt8) : Num.val8 (Num.be8 n ++ x) = n := by
  unfold Num.val8 Num.be8 Num.be4
  simp [Num.val4, List.getD]
  omega
theorem be8_val8 (l : List UInt8) (h : 8 ≤ l.length) : Num.be8 (Num.val8 l) = l.take 8 := by
  match l, h with
  | a :: b :: c :: d :: e :: f :: g :: i :: r, _ =>
    simp only [Num.val8, Num.val4, Num.be8, Num.be4, List.getD, List.drop, List.take, List.cons_append, List.nil_append]
    have ha := a.toNat_lt
    have hb := b.toNat_lt
    have hc := c.toNat_lt
    have hd := d.toNat_lt
    have he := e.toNat_lt
    have hf := f.toNat_lt
    have hg := g.toNat_lt
    have hi := i.toNat_lt
    simp only [List.getElem?_cons_zero, List.getElem?_cons_succ, Option.getD_some, List.cons.injEq, and_true]
    refine ⟨?_, ?_, ?_, ?_, ?_, ?_, ?_, ?_⟩ <;> (apply UInt8.toNat_inj.1; rw [UInt8.toNat_ofNat']; omega)
theorem unesc_esc : ∀ (s x : List UInt8), unesc (esc s ++ ([0, 0] ++ x)) = some (s, (esc s).length + 2)
  | [], x => rfl
  | c :: s, x => by
    have ih := unesc_esc s x
    by_cases hc : c = 0
    · subst hc
      rw [esc_zero']
      show unesc (0 :: 255 :: (esc s ++ ([0, 0] ++ x))) = _
      rw [unesc_zero, ih]; rfl
    · rw [esc_other hc]
      show unesc (c :: (esc s ++ ([0, 0] ++ x))) = _
      rw [unesc_other hc, ih]
      simp
theorem esc_unesc : ∀ (m : Nat) (l : List UInt8), l.length ≤ m → ∀ t n, unesc l = some (t, n) → esc t ++ [0, 0] = l.take n
  | 0, l, h, t, n, e => by rw [unesc_short (by omega)] at e; cases e
  | m + 1, l, h, t, n, e => by
    match l, h, e with
    | [], _, e => cases e
    | [_], _, e => cases e
    | c :: d :: l, h, e =>
      by_cases hc : c = 0
      · subst hc
        by_cases h0 : d = 0
        · subst h0
          rw [unesc_end] at e
          cases e
          rfl
        · by_cases h1 : d = 255
          · subst h1
            rw [unesc_zero] at e
            cases hu : unesc l with
            | none => rw [hu] at e; cases e
            | some r =>
              rw [hu] at e
              cases e
              have := esc_unesc m l (by simp at h; omega) r.1 r.2 hu
              rw [esc_zero', List.cons_append, List.cons_append, this]
              rfl
          · rw [unesc_bad h0 h1] at e; cases e
      · rw [unesc_other hc] at e
        cases hu : unesc (d :: l) with
        | none => rw [hu] at e; cases e
        | some r =>
          rw [hu] at e
          cases e
          have := esc_unesc m (d :: l) (by simp at h ⊢; omega) r.1 r.2 hu
          rw [esc_other hc, List.cons_append, this]
          rfl
theorem check_zero {v : V} (h : ¬ badV v) (hs : v.s.size ≤ 1000) : checkV v = 0 := by
  unfold checkV
  rw [if_neg h, if_neg (by omega)]
theorem kind_nat {k : Nat} (h : k = 2 ∨ k = 3) : (UInt8.ofNat (k + 1) = 3 ∨ UInt8.ofNat (k + 1) = 4) ∧ UInt8.ofNat (k + 1) ≠ 1 ∧ UInt8.ofNat (k + 1) ≠ 2 ∧ (UInt8.ofNat (k + 1)).toNat - 1 = k := by
  rcases h with rfl | rfl <;> decide
/-- A key tells its value, whatever stands behind it. -/
theorem firstK_one {v : V} (hc : checkV v = 0) (ho : v.ok) (x : List UInt8) : firstK (oneK v ++ x) = some (v, (oneK v).length) := by
  rcases kind_of hc with ⟨h0, hn, hs⟩ | ⟨h1, hs⟩ | ⟨h2, hn, hs⟩
  · have e : oneK v = [1] := by unfold oneK; rw [if_neg (by omega), if_neg (by omega)]
    rw [e]
    show firstC 1 x = _
    unfold firstC
    rw [if_pos rfl]
    obtain ⟨k, n, s⟩ := v
    simp only at h0 hn hs
    subst h0; subst hn; subst hs
    rfl
  · have e : oneK v = 2 :: Num.be8 (turnK v.n) := by unfold oneK; rw [if_pos h1]
    have hb := ho.2.1
    rw [e]
    show firstC 2 (Num.be8 (turnK v.n) ++ x) = _
    unfold firstC
    rw [if_neg (by decide), if_pos rfl, if_pos (by simp [Num.be8_length]), val8_be8 _ (by unfold turnK; omega)]
    obtain ⟨k, n, s⟩ := v
    simp only at h1 hs hb
    subst h1; subst hs
    simp only [List.length_cons, Num.be8_length]
    congr 3
    unfold turnK
    omega
  · obtain ⟨c1, c2, c3, c4⟩ := kind_nat h2
    have e : oneK v = UInt8.ofNat (v.k + 1) :: (esc v.s.data.toList ++ [0, 0]) := by unfold oneK; rw [if_neg (by omega), if_pos h2]
    rw [e]
    show firstC (UInt8.ofNat (v.k + 1)) ((esc v.s.data.toList ++ [0, 0]) ++ x) = _
    unfold firstC
    rw [if_neg c2, if_neg c3, if_pos c1, List.append_assoc, unesc_esc]
    unfold textK
    have e2 : v.s.data.toList.length = v.s.size := by rw [Array.length_toList]; rfl
    rw [Option.bind_some, if_pos (by rw [e2]; exact hs), c4]
    obtain ⟨k, n, s⟩ := v
    simp only at hn
    subst hn
    simp only [List.length_cons, List.length_append, List.length_nil]
theorem byte_kind {c : UInt8} (h : c = 3 ∨ c = 4) : (c.toNat - 1 = 2 ∨ c.toNat - 1 = 3) ∧ UInt8.ofNat (c.toNat - 1 + 1) = c := by
  rcases h with rfl | rfl <;> decide
/-- What is read is put as it stood. -/
theorem firstK_back {l : List UInt8} {v : V} {n : Nat} (h : firstK l = some (v, n)) : oneK v = l.take n ∧ checkV v = 0 ∧ v.ok := by
  match l, h with
  | [], h => cases h
  | c :: r, h =>
    change firstC c r = _ at h
    unfold firstC at h
    split at h
    · rename_i h1
      subst h1
      cases h
      exact ⟨rfl, rfl, by decide⟩
    · split at h
      · rename_i h2
        subst h2
        split at h
        · rename_i h8
          cases h
          have hlt := Num.val8_lt r
          refine ⟨?_, ?_, ?_⟩
          · unfold oneK
            rw [if_pos rfl]
            have e : turnK ((Num.val8 r : Int) - 9223372036854775808) = Num.val8 r := by unfold turnK; omega
            rw [e, be8_val8 r h8]
            rfl
          · unfold checkV badV
            simp
          · refine ⟨(by omega : 1 < 256), ⟨?_, ?_⟩, (by decide : ByteArray.empty.size ≤ 140737488351232)⟩ <;> (simp only; omega)
        · cases h
      · split at h
        · rename_i h34
          unfold textK at h
          cases hu : unesc r with
          | none => rw [hu] at h; cases h
          | some p =>
            rw [hu] at h
            simp only [Option.bind_some] at h
            split at h
            · rename_i hl
              cases h
              obtain ⟨hk, hc⟩ := byte_kind h34
              have hes := esc_unesc r.length r (Nat.le_refl _) p.1 p.2 hu
              have hsz := str_size p.1
              refine ⟨?_, ?_, ?_⟩
              · unfold oneK
                simp only
                rw [if_neg (by omega), if_pos hk, hc]
                simp only [List.take_succ_cons]
                rw [hes]
              · exact check_zero (by unfold badV; simp only; omega) (by simp only; omega)
              · exact ⟨(by simp only; omega), ⟨(by omega : (-9223372036854775808 : Int) ≤ 0), (by omega : (0 : Int) ≤ 9223372036854775807)⟩, (by simp only; omega)⟩
            · cases h
        · cases h
/-- A row's key tells the row. -/
theorem takeK_all : ∀ {a : List V}, (∀ v ∈ a, checkV v = 0) → (∀ v ∈ a, v.ok) → takeK (allK a) = some a
  | [], _, _ => rfl
  | v :: a, hc, ho => by
    have h1 := oneK_one v
    have e : allK (v :: a) = oneK v ++ allK a := by unfold allK; rw [List.flatMap_cons]
    have hne : oneK v ++ allK a ≠ [] := fun h => by
      have := congrArg List.length h
      simp only [List.length_append, List.length_nil] at this
      omega
    rw [e, takeK_cons hne, firstK_one (hc v List.mem_cons_self) (ho v List.mem_cons_self), Option.bind_some]
    simp only
    rw [List.drop_left, takeK_all (fun x hx => hc x (List.mem_cons_of_mem _ hx)) (fun x hx => ho x (List.mem_cons_of_mem _ hx))]
    rfl
/-- What is taken of bytes is put as these bytes. -/
theorem takeK_back : ∀ (m : Nat) (l : List UInt8) (a : List V), l.length ≤ m → takeK l = some a → allK a = l ∧ (∀ v ∈ a, checkV v = 0) ∧ ∀ v ∈ a, v.ok
  | m, [], a, _, h => by
    rw [takeK_nil] at h
    cases h
    exact ⟨rfl, fun v hv => by simp at hv, fun v hv => by simp at hv⟩
  | 0, c :: l, a, hm, h => by simp at hm
  | m + 1, c :: l, a, hm, h => by
    rw [takeK_cons (by simp)] at h
    cases hf : firstK (c :: l) with
    | none => rw [hf] at h; cases h
    | some p =>
      rw [hf, Option.bind_some] at h
      obtain ⟨v, n⟩ := p
      simp only at h
      cases ht : takeK ((c :: l).drop n) with
      | none => rw [ht] at h; cases h
      | some b =>
        rw [ht] at h
        cases h
        have hl := firstK_len hf
        obtain ⟨g1, g2, g3⟩ := firstK_back hf
        obtain ⟨i1, i2, i3⟩ := takeK_back m ((c :: l).drop n) b (by rw [List.length_drop]; simp only [List.length_cons] at *; omega) ht
        refine ⟨?_, ?_, ?_⟩
        · have e : allK (v :: b) = oneK v ++ allK b := by unfold allK; rw [List.flatMap_cons]
          rw [e, g1, i1, List.take_append_drop]
        · intro u hu
          rcases List.mem_cons.1 hu with rfl | hu
          · exact g2
          · exact i2 u hu
        · intro u hu
          rcases List.mem_cons.1 hu with rfl | hu
          · exact g3
          · exact i3 u hu
/-- A key is the beginning of another just if the row is. -/
theorem allK_begins : ∀ {a b : List V}, (∀ v ∈ a, checkV v = 0) → (∀ v ∈ b, checkV v = 0) → (∀ v ∈ a, v.ok) → (∀ v ∈ b, v.ok) → (allK a <+: allK b ↔ a <+: b)
  | [], b, _, _, _, _ => by simp [allK]
  | v :: a, b, ha, hb, oa, ob => by
    constructor
    · rintro ⟨x, hx⟩
      have e : allK (v :: a) = oneK v ++ allK a := by unfold allK; rw [List.flatMap_cons]
      have f1 := firstK_one (ha v List.mem_cons_self) (oa v List.mem_cons_self) (allK a ++ x)
      rw [e, List.append_assoc] at hx
      match b, hb, ob, hx with
      | [], _, _, hx =>
        have := congrArg List.length hx
        have h1 := oneK_one v
        simp only [List.length_append, allK, List.flatMap_nil, List.length_nil] at this
        omega
      | u :: b, hb, ob, hx =>
        have f2 := firstK_one (hb u List.mem_cons_self) (ob u List.mem_cons_self) (allK b)
        have e2 : allK (u :: b) = oneK u ++ allK b := by unfold allK; rw [List.flatMap_cons]
        rw [hx, e2, f2] at f1
        cases f1
        rw [e2] at hx
        have hx2 := List.append_cancel_left hx
        have ih := (allK_begins (fun y hy => ha y (List.mem_cons_of_mem _ hy)) (fun y hy => hb y (List.mem_cons_of_mem _ hy)) (fun y hy => oa y (List.mem_cons_of_mem _ hy)) (fun y hy => ob y (List.mem_cons_of_mem _ hy))).1 ⟨x, hx2⟩
        exact List.cons_prefix_cons.2 ⟨rfl, ih⟩
    · rintro ⟨x, hx⟩
      exact ⟨allK x, by rw [← hx]; unfold allK; rw [List.flatMap_append]⟩
end Go.Proofs.YtclkpbokngamiaaDoor.Dt
