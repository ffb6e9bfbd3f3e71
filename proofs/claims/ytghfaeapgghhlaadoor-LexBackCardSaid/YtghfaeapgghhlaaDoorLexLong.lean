/-
  The laws' own 'long' at rows of tokens, and the reference's Same.
-/
import Derived.Test.YtghfaeapgghhlaaDoorTkArg
import Derived.Test.YtghfaeapgghhlaaDoorLexGap
import Derived.Test.YtghfaeapgghhlaaDoorLexQ
import Derived.Laws.Bits64
namespace Go.Proofs.YtghfaeapgghhlaaDoor.Dt
open Go.RowKit Go.Proofs.YtghfaeapgghhlaaDoor.By

/-- What is stored lies there already. -/
theorem setCell_id {w : World} {k i : Nat} {u : Value} (h : w.cell? ⟨k, i, none⟩ = some u) : w.setCell ⟨k, i, none⟩ u = w := by
  have hm : ∀ f : Obj → Obj, (∀ o, w.heap[k]? = some o → f o = o) → w.heap.modify k f = w.heap := by
    intro f hf
    apply Array.ext_getElem?
    intro j
    rw [Array.getElem?_modify]
    split
    · rename_i hj
      subst hj
      cases hb : w.heap[k]? with
      | none => rfl
      | some o => rw [Option.map_some, hf o hb]
    · rfl
  unfold World.setCell
  rw [hm]
  intro o hb
  unfold World.cell? at h
  rw [hb] at h
  cases o with
  | cells c e f =>
    have hc : c[i]? = some u := h
    have : c.setIfInBounds i u = c := by
      apply Array.ext_getElem?
      intro q
      rw [Array.getElem?_setIfInBounds]
      split
      · rename_i hq
        subst hq
        rw [hc]
        have := (Array.getElem?_eq_some_iff.1 hc).1
        rw [if_pos this]
      · rfl
    show Obj.cells (c.setIfInBounds i u) e f = _
    rw [this]
  | _ => rfl
theorem tks_cap2 {w : World} {a : Option Addr} {n c : Nat} {l : List Tk} (h : TksAt w (.slice a n c) l) : n = l.length ∧ l.length ≤ c := by
  obtain ⟨a', c', e, hc, _⟩ := h
  simp only [Value.slice.injEq] at e
  obtain ⟨_, h1, rfl⟩ := e
  exact ⟨h1, hc⟩
set_option maxRecDepth 100000 in
set_option maxHeartbeats 4000000 in
theorem longT (rv : Value) (l : List Tk) (w : World) (h : TksAt w rv l) (hl : l.length ≤ 140737488351232) :
    Calls Tryd.prog 27 #[rv] w fun e w' => (e = .returned (.bool true) ∨ (e = .returned (.bool false) ∧ l.length ≤ 400 ∧ ∀ t ∈ l, t.s.size ≤ 2048)) ∧ Below w.heap.size w w' := by
  obtain ⟨ar, cr, rfl⟩ := h.shape
  have HROW := Lib.hid h
  have HC := Lib.hid (tks_cap2 h).2
  have HL := Lib.hid hl
  clear h hl
  by_cases h60 : 400 < l.length
  · have e1 : (400 : Int) < (l.length : Int) := by omega
    clear h60
    go_enter Tryd.func27, Tryd.ntmps27
    go_wp2_with fail
    go_ret
    exact ⟨.inl rfl, Below.refl _ _⟩
  have e1 : ¬ (400 : Int) < (l.length : Int) := by omega
  have H60 : Hid (l.length ≤ 400) := Lib.hid (by omega)
  clear h60
  go_enter Tryd.func27, Tryd.ntmps27
  go_wp2_with fail
  clear e1
  go_loopg [10] l.length (fun gk i wr => ∃ k : Nat, i = .int .i64 (k : Int) ∧ gk = l.length - k ∧ k ≤ l.length ∧ Hid (Below w.heap.size w wr) ∧ Hid (∀ t ∈ l.take k, t.s.size ≤ 2048))
  case atStart => exact ⟨0, rfl, rfl, Nat.zero_le _, Lib.hid (Below.refl _ _), Lib.hid (by simp)⟩
  case round =>
    obtain ⟨k, rfl, rfl, hkl, HBEL, HALL⟩ := hrel
    by_cases hlt : k < l.length
    · obtain ⟨v, hy⟩ : ∃ v, l[k]? = some v := ⟨l[k], by simp⟩
      obtain ⟨b, o, rfl, hbz, d0, d1, d2, d3⟩ := at4 (HROW.out.below HBEL.out) hy
      have ilt : (k : Int) < (l.length : Int) := by omega
      have icp : (k : Int) < (cr : Int) := by have := HC.out; omega
      have HLT := Lib.hid hlt
      have HY := Lib.hid hy
      have HKK : Hid (wrap64 ((k : Int) + 1) = ((k + 1 : Nat) : Int)) := Lib.hid (by have := H60.out; unfold wrap64; omega)
      have HBN : Hid (Below w.heap.size w (wr.alloc (.cells #[.int .u8 (v.k : Int), .string v.s, .int .u64 (v.n : Int), .int .i64 v.a] 48))) := Lib.hid (HBEL.out.alloc HBEL.out.size _)
      obtain ⟨vk, vs, vn, va⟩ := v
      clear hy hlt hkl hbz
      go_upto_region 6 with fail
      have y1 : (wr.alloc (.cells #[.int .u8 (vk : Int), .string vs, .int .u64 (vn : Int), .int .i64 va] 48)).cell? ⟨wr.heap.size, 1, none⟩ = some (.string vs) := by go_simp
      clear d0 d1 d2 d3
      generalize wr.alloc (.cells #[.int .u8 (vk : Int), .string vs, .int .u64 (vn : Int), .int .i64 va] 48) = w4 at *
      generalize wr.heap.size = bt at *
      by_cases hs : 2048 < vs.size
      · have es : (2048 : Int) < (vs.size : Int) := by omega
        clear hs
        go_wp2_with fail
        go_ret
        exact ⟨.inl rfl, HBN.out⟩
      · have es : ¬ (2048 : Int) < (vs.size : Int) := by omega
        have HSM : Hid (∀ t ∈ l.take (k + 1), t.s.size ≤ 2048) := Lib.hid (by
          have hlt := HLT.out
          have e : l[k] = ⟨vk, vs, vn, va⟩ := by have := HY.out; rw [List.getElem?_eq_getElem hlt] at this; exact Option.some.inj this
          rw [List.take_succ_eq_append_getElem hlt, e]
          intro t ht
          rcases List.mem_append.1 ht with h | h
          · exact HALL.out t h
          · simp at h; subst h; show vs.size ≤ 2048; omega)
        clear hs
        go_wp2_with fail
        go_roundg (l.length - (k + 1))
        case measure => exact Nat.sub_lt_sub_left HLT.out (Nat.lt_succ_self _)
        case rel => exact ⟨k + 1, by first | exact congrArg (Value.int .i64) HKK.out | (simp; done) | (simp; exact HKK.out), rfl, HLT.out, HBN, HSM⟩
    · obtain rfl : k = l.length := by omega
      have i1 : ¬ (l.length : Int) < (l.length : Int) := by omega
      clear hlt hkl
      go_wp2_with fail
      go_ret
      exact ⟨.inr ⟨rfl, H60.out, by have := HALL.out; rwa [List.take_length] at this⟩, HBEL.out⟩
set_option maxRecDepth 100000 in
set_option maxHeartbeats 8000000 in
theorem sameW (v v' : Value) (m l : List Tk) (w : World) (hl : m.length ≤ 1000000) (h : TksAt w v m) (h' : TksAt w v' l) (hs : sameL m l) :
    Calls Tryd.prog 29 #[v, v'] w fun e w' => e = .returned (.bool true) ∧ Below w.heap.size w w' := by
  obtain ⟨a, c, rfl⟩ := h.shape
  obtain ⟨b, d, rfl⟩ := h'.shape
  have hll := sameL_len hs
  have hcd := (tks_cap2 h').2
  rw [← hll] at hcd h' ⊢
  have HC := Lib.hid (tks_cap2 h).2
  have HD := Lib.hid hcd
  have H := Lib.hid h
  have H' := Lib.hid h'
  have HL := Lib.hid hl
  have HS := Lib.hid hs
  have HLL := Lib.hid hll
  clear h h' hl hs hcd hll
  go_enter Tryd.func29, Tryd.ntmps29
  go_wp2_with fail
  go_loopg [5] m.length (fun gk iv wr => ∃ i : Nat, iv = .int .i64 (i : Int) ∧ gk = m.length - i ∧ i ≤ m.length ∧ Hid (Below w.heap.size w wr))
  case atStart => exact ⟨0, rfl, rfl, Nat.zero_le _, Lib.hid (Below.refl _ _)⟩
  case round =>
    obtain ⟨i, rfl, rfl, hi, HB⟩ := hrel
    by_cases hlt : i < m.length
    · have i0 : (0 : Int) ≤ (i : Int) := by omega
      have i1 : (i : Int) < (m.length : Int) := by omega
      have i2 : (i : Int) < (c : Int) := by have := HC.out; omega
      have i3 : (i : Int) < (d : Int) := by have := HD.out; omega
      obtain ⟨u, hu⟩ : ∃ u, m[i]? = some u := ⟨m[i], by simp⟩
      obtain ⟨x, hx⟩ : ∃ x, l[i]? = some x := ⟨l[i]'(by rw [← HLL.out]; exact hlt), by simp⟩
      obtain ⟨bm, om, rfl, -, e0, e1, e2, e3⟩ := at4 (SlAt.below H.out HB.out) hu
      obtain ⟨b2, o2, rfl, -, f0, f1, f2, f3⟩ := at4 (SlAt.below H'.out HB.out) hx
      have hsm := sameL_at HS.out hu hx
      obtain ⟨uk, ux, un, ua⟩ := u
      obtain ⟨xk, xx, xn, xa⟩ := x
      obtain ⟨r1, r2, r3⟩ := hsm
      simp only at r1 r2 r3
      subst r1 r2 r3
      have HLT := Lib.hid hlt
      have HKK : Hid (wrap64 ((i : Int) + 1) = ((i + 1 : Nat) : Int)) := Lib.hid (by have h2 := HL.out; unfold wrap64; omega)
      have iw := wrapK (i : Int) i0 (by have := HL.out; omega)
      clear hi hlt hu hx
      have l0 := lat_cell e0
      have l1 := lat_cell e1
      have l2 := lat_cell e2
      have r0 := lat_cell f0
      have r1 := lat_cell f1
      have r2 := lat_cell f2
      go_upto_region 6 with fail
      refine wp_region_later (by kernel_rfl) (by kernel_rfl) ?_
      repeat (go_big_quiet_step (fail))
      refine wpQuiet_nil ?_
      refine later_out (fun w9 hb9 => ?_)
      have HB9 := Lib.hid (next HB.out hb9)
      clear l0 l1 l2 r0 r1 r2 e0 e1 e2 e3 f0 f1 f2 f3 hb9 iw
      go_wp2_with fail
      go_roundg (m.length - (i + 1))
      case measure => exact Nat.sub_lt_sub_left HLT.out (Nat.lt_succ_self _)
      case rel => exact ⟨i + 1, by first | exact congrArg (Value.int .i64) HKK.out | (simp; done) | (simp; exact HKK.out), rfl, HLT.out, HB9⟩
    · have i1 : ¬ (i : Int) < (m.length : Int) := by omega
      clear hlt hi
      go_wp2_with fail
      go_ret
      exact ⟨rfl, HB.out⟩
end Go.Proofs.YtghfaeapgghhlaaDoor.Dt
