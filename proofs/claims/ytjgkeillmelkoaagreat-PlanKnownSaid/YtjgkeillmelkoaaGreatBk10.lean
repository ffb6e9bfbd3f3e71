import Derived.Handy
import Derived.Lib.Bytealg
import Derived.Test.YtjgkeillmelkoaaGreatProg
import Derived.Deep.DeepCutAuto
import Derived.Laws.Bits64
import Derived.Laws.Concat
import Derived.Test.YtjgkeillmelkoaaGreatBk01
import Derived.Test.YtjgkeillmelkoaaGreatBk04
import Derived.Test.YtjgkeillmelkoaaGreatBk03
import Derived.Test.YtjgkeillmelkoaaGreatBk05
import Derived.Test.YtjgkeillmelkoaaGreatBk06
namespace Go.Proofs.YtjgkeillmelkoaaGreat.Dt
open Go.RowKit Go.Proofs.YtjgkeillmelkoaaGreat.By

theorem equal_V (a b : Int) (c d : Int) (s t : ByteArray) (w : World) (n : Nat) : (Op.equalIn (n + 3) 42 (.agg #[.int .u8 a, .int .i64 c, .string s]) (.agg #[.int .u8 b, .int .i64 d, .string t])).run Tryz.prog w = .ok (a == b && (c == d && s.toList == t.toList)) w := by
  rw [show n + 3 = (n + 2) + 1 from rfl, run_equalIn_agg w (n + 2) 42 _ _ (by kernel_rfl) (by kernel_rfl)]
  go_simp
  by_cases h1 : a = b <;> by_cases h2 : c = d <;> by_cases h3 : (s.toList == t.toList) = true <;> simp_all
theorem eql_V (a b : Int) (c d : Int) (s t : ByteArray) (w : World) : (binOp .eql 42 (.agg #[.int .u8 a, .int .i64 c, .string s]) (.agg #[.int .u8 b, .int .i64 d, .string t])).run Tryz.prog w = .ok (.bool (a == b && (c == d && s.toList == t.toList))) w := by
  rw [run_eql_struct, equal_V a b c d s t w 9997]
  rfl
theorem same_V (a b : V) : ((a.k : Int) == (b.k : Int) && (a.n == b.n && a.s.toList == b.s.toList)) = decide (a = b) := by
  rw [str_eq, Bool.eq_iff_iff]
  simp only [Bool.and_eq_true, beq_iff_eq, decide_eq_true_eq]
  constructor
  · rintro ⟨h1, h2, h3⟩; exact V.ext' (by omega) h2 h3
  · rintro rfl; exact ⟨rfl, rfl, rfl⟩
theorem eq_told (a b : V) (t : Bool) (h : (a = b) = (t = true)) (w : World) : (binOp .eql 42 a.val b.val).run Tryz.prog w = .ok (.bool t) w := by
  rw [eql_V, same_V]; congr 2; rw [Bool.eq_iff_iff, ← h, decide_eq_true_eq]
theorem cells_V (w w1 : World) (v : V) (t : TypeId) (hb : Below (w.alloc (.cells #[.int .u8 (v.k : Int), .int .i64 v.n, .string v.s] t)).heap.size (w.alloc (.cells #[.int .u8 (v.k : Int), .int .i64 v.n, .string v.s] t)) w1) :
    w1.cell? ⟨w.heap.size, 0, none⟩ = some (.int .u8 (v.k : Int)) ∧ w1.cell? ⟨w.heap.size, 1, none⟩ = some (.int .i64 v.n) ∧ w1.cell? ⟨w.heap.size, 2, none⟩ = some (.string v.s) := by
  refine ⟨?_, ?_, ?_⟩ <;> (rw [hb.cell (by simp)]; go_simp)

theorem ne_empty {s : ByteArray} (h : s ≠ ByteArray.empty) : s.toList ≠ [] := by
  intro e
  apply h
  rw [ByteArray.toList_eq] at e
  exact ByteArray.ext (Array.toList_inj.1 (by rw [e]; rfl))
end Go.Proofs.YtjgkeillmelkoaaGreat.Dt
namespace Go.Proofs.YtjgkeillmelkoaaGreat.Dt
open Go.RowKit Go.Proofs.YtjgkeillmelkoaaGreat.By

theorem hexL_app : ∀ l m, hexL (l ++ m) = hexL l ++ hexL m
  | [], _ => rfl
  | c :: l, m => by simp only [List.cons_append, hexL, hexL_app l m]
theorem hexL_snoc (s : ByteArray) {k : Nat} (h : k < s.size) : hexL (s.data.toList.take (k + 1)) = hexL (s.data.toList.take k) ++ [hexC (s[k].toNat / 16), hexC (s[k].toNat % 16)] := by
  rw [List.take_succ_eq_append_getElem (by simpa using h), hexL_app]; rfl
theorem hex_digit : ∀ k : Fin 16, (⟨#[48, 49, 50, 51, 52, 53, 54, 55, 56, 57, 97, 98, 99, 100, 101, 102]⟩ : ByteArray)[k.val]'(k.isLt) = hexC k.val := by decide +kernel
theorem hex_at (x : Int) (n : Nat) (e : x = (n : Int)) (h : n < 16) (hx : x.toNat < 16) (W : World) :
    ((Result.ok (Value.int .u8 (((⟨#[48, 49, 50, 51, 52, 53, 54, 55, 56, 57, 97, 98, 99, 100, 101, 102]⟩ : ByteArray)[x.toNat]'hx).toNat : Int)) W).andThen fun a w' => Result.ok (Next.value a) w') = Result.ok (Next.value (byte (hexC n))) W := by
  subst e
  have := hex_digit ⟨n, h⟩
  simp only [Result.andThen, Int.toNat_natCast] at this ⊢
  rw [this]
end Go.Proofs.YtjgkeillmelkoaaGreat.Dt
namespace Go.Proofs.YtjgkeillmelkoaaGreat.Dt
open Go.RowKit Go.Proofs.YtjgkeillmelkoaaGreat.By
set_option maxHeartbeats 2000000 in
theorem refCheck (v : V) (w : World) : Calls Tryz.prog 103 #[v.val] w fun e w' => e = .returned (.int .i64 (checkV v : Int)) ∧ Below w.heap.size w w' := by
  obtain ⟨k, n, s⟩ := v
  by_cases h3 : 3 < k
  · have hr : checkV ⟨k, n, s⟩ = 2 := by unfold checkV; exact if_pos (.inl h3)
    rw [hr]; clear hr
    go_enter Tryz.func103, Tryz.ntmps103
    go_wp2_with fail
    go_ret
    exact ⟨rfl, by go_grown⟩
  · have hk : k = 0 ∨ k = 1 ∨ k = 2 ∨ k = 3 := by omega
    clear h3
    rcases hk with rfl | rfl | rfl | rfl
    all_goals
      by_cases hn : n = 0
      · subst hn
        by_cases he : s = ByteArray.empty
        · subst he
          go_enter Tryz.func103, Tryz.ntmps103
          go_wp2_with fail
          go_ret
          exact ⟨by simp [checkV, badV], by go_grown⟩
        · have l1 := ne_empty he
          have l2 : s.toList.isEmpty = false := by simpa using l1
          have l3 : (!s.toList.isEmpty) = true := by rw [l2]; rfl
          by_cases hl : 1000 < s.size
          all_goals
            go_enter Tryz.func103, Tryz.ntmps103
            go_wp2_with fail
            go_ret
            exact ⟨by simp [checkV, badV, he, hl], by go_grown⟩
      · have hne : (n == 0) = false := by simpa using hn
        have hne' : (n != 0) = true := by simpa using hn
        by_cases he : s = ByteArray.empty
        · subst he
          go_enter Tryz.func103, Tryz.ntmps103
          go_wp2_with fail
          go_ret
          exact ⟨by simp [checkV, badV, hn], by go_grown⟩
        · have l1 := ne_empty he
          have l2 : s.toList.isEmpty = false := by simpa using l1
          have l3 : (!s.toList.isEmpty) = true := by rw [l2]; rfl
          by_cases hl : 1000 < s.size
          all_goals
            go_enter Tryz.func103, Tryz.ntmps103
            go_wp2_with fail
            go_ret
            exact ⟨by first | (simp [checkV, badV, hn]; done) | (simp [checkV, badV, he]; done), by go_grown⟩

end Go.Proofs.YtjgkeillmelkoaaGreat.Dt
namespace Go.Proofs.YtjgkeillmelkoaaGreat.Dt
open Go.RowKit Go.Proofs.YtjgkeillmelkoaaGreat.By

theorem wrap_byte (d : UInt8) : IntKind.wrap .u8 (d.toNat : Int) = (d.toNat : Int) := by
  have := d.toNat_lt
  rw [IntKind.wrap_u8]; omega
theorem add_str (l m : List UInt8) (h : l.length + m.length ≤ 100000000) (W : World) : (Op.stringOp .add ⟨l.toArray⟩ ⟨m.toArray⟩).run Tryz.prog W = .ok (str (l ++ m)) W :=
  (run_string_add_sum W _ _ (by have h1 := str_size l; have h2 := str_size m; omega)).trans (by rw [ByteArray.mk_append_mk])
set_option maxRecDepth 100000 in
theorem positiveW : ∀ (m t o : Nat) (w : World), t ≤ m → t ≤ 1000000000000000000 → o < 10 →
    Calls Tryz.prog 109 #[.int .i64 (t : Int), .int .i64 (o : Int)] w fun e w' => e = .returned (str (Lib.decDigits (10 * t + o))) ∧ Below w.heap.size w w' := by
  intro m
  induction m with
  | zero =>
    intro t o w htm _ ho
    obtain rfl : t = 0 := by omega
    obtain ⟨d, hd⟩ : ∃ d : UInt8, d.toNat = 48 + o := ⟨UInt8.ofNat (48 + o), digit_nat o ho⟩
    have a1 : wrap64 (48 + (o : Int)) = (d.toNat : Int) := by unfold wrap64; omega
    have a2 := wrap_byte d
    have hcv : ∀ W : World, (convert 147 9 (.slice (some ⟨W.heap.size, 0, none⟩) 1 1)).run Tryz.prog (W.alloc (.cells #[.int .u8 (d.toNat : Int)] 5)) = .ok (str [d]) (W.alloc (.cells #[.int .u8 (d.toNat : Int)] 5)) := fun W => conv_new W 147 5 9 Tryz.underlying147 Tryz.underlying5 Tryz.underlying9 _ _ 0 1 1 [d] rfl (fun i hi => by
      obtain rfl : i = 0 := by simpa using hi
      rfl)
    have HR : Hid (Lib.decDigits (10 * 0 + o) = [d]) := Lib.hid (by rw [Nat.mul_zero, Nat.zero_add, dec_small ho]; congr 1; exact UInt8.toNat_inj.1 (by rw [hd]; exact digit_nat o ho))
    clear hd ho htm
    go_enter Tryz.func109, Tryz.ntmps109
    go_wp2_with fail
    refine bodyPost_ret (v := str [d]) (by simp [results, Tryz.results109, go_sem]) rfl ⟨by rw [HR.out], by go_grown⟩
  | succ m ih =>
    intro t o w htm ht ho
    by_cases h0 : t = 0
    · exact (ih t o w (by omega) ht ho)
    · obtain ⟨d, hd⟩ : ∃ d : UInt8, d.toNat = 48 + o := ⟨UInt8.ofNat (48 + o), digit_nat o ho⟩
      have a1 : wrap64 (48 + (o : Int)) = (d.toNat : Int) := by unfold wrap64; omega
      have a2 := wrap_byte d
      have hcv : ∀ W : World, (convert 147 9 (.slice (some ⟨W.heap.size, 0, none⟩) 1 1)).run Tryz.prog (W.alloc (.cells #[.int .u8 (d.toNat : Int)] 5)) = .ok (str [d]) (W.alloc (.cells #[.int .u8 (d.toNat : Int)] 5)) := fun W => conv_new W 147 5 9 Tryz.underlying147 Tryz.underlying5 Tryz.underlying9 _ _ 0 1 1 [d] rfl (fun i hi => by
        obtain rfl : i = 0 := by simpa using hi
        rfl)
      have h1 : ((t : Int) == 0) = false := by simp; omega
      have IH : Hid (∀ W, Calls Tryz.prog 109 #[.int .i64 ((t / 10 : Nat) : Int), .int .i64 ((t % 10 : Nat) : Int)] W fun e w' => e = .returned (str (Lib.decDigits t)) ∧ Below W.heap.size W w') := Lib.hid (fun W => by
        have := ih (t / 10) (t % 10) W (by omega) (by omega) (by omega)
        rwa [show 10 * (t / 10) + t % 10 = t by omega] at this)
      have HR : Hid (Lib.decDigits (10 * t + o) = Lib.decDigits t ++ [d]) := Lib.hid (by
        rw [dec_big (by omega), show (10 * t + o) / 10 = t by omega, show (10 * t + o) % 10 = o by omega]
        congr 2
        exact UInt8.toNat_inj.1 (by rw [hd]; exact digit_nat o ho))
      have hadd := add_str (Lib.decDigits t) [d] (by have := dec_len 19 t (by omega) (by decide); simp; omega)
      have q1 : Hid (wrap64 ((t : Int) / 10) = ((t / 10 : Nat) : Int)) := Lib.hid (by unfold wrap64; omega)
      clear hd h0 ht htm ho ih
      go_enter Tryz.func109, Tryz.ntmps109
      go_wp2_with fail
      rw [q1.out]
      refine (IH.out _).mono ?_
      rintro e w1 ⟨rfl, hb1⟩
      have HB1 := Lib.hid (next ((Below.refl _ w).alloc (Nat.le_refl _) _) hb1)
      clear hb1
      go_wp2_with fail
      refine bodyPost_ret (v := str (Lib.decDigits t ++ [d])) (by simp [results, Tryz.results109, go_sem]) rfl ⟨by rw [HR.out], HB1.out⟩
set_option maxRecDepth 100000 in
theorem digitsW (n : Int) (w : World) (h0 : -9223372036854775808 ≤ n) (h1 : n ≤ 9223372036854775807) :
    Calls Tryz.prog 106 #[.int .i64 n] w fun e w' => e = .returned (str (Lib.itoa n)) ∧ Below w.heap.size w w' := by
  by_cases h : n < 0
  · obtain ⟨k, hk⟩ : ∃ k : Nat, n = -(k : Int) := ⟨n.natAbs, by omega⟩
    have HR : Hid (Lib.itoa n = 45 :: Lib.decDigits k) := Lib.hid (by rw [hk]; exact Lib.itoa_neg k (by omega))
    have hadd := add_str [45] (Lib.decDigits k) (by have := dec_len 19 k (by omega) (by decide); simp; omega)
    have hd := decide_eq_true h
    have hq1 : Int.tdiv n 10 = -((k / 10 : Nat) : Int) := by rw [hk, Int.neg_tdiv]; rfl
    have hq2 : Int.tmod n 10 = -((k % 10 : Nat) : Int) := by rw [hk, Int.neg_tmod]; rfl
    have q1 : Hid (wrap64 (-wrap64 (-((k : Int) / 10))) = ((k / 10 : Nat) : Int)) := Lib.hid (by unfold wrap64; omega)
    have IH : Hid (∀ W, Calls Tryz.prog 109 #[.int .i64 ((k / 10 : Nat) : Int), .int .i64 ((k % 10 : Nat) : Int)] W fun e w' => e = .returned (str (Lib.decDigits k)) ∧ Below W.heap.size W w') := Lib.hid (fun W => by
      have := positiveW (k / 10) (k / 10) (k % 10) W (Nat.le_refl _) (by omega) (by omega)
      rwa [show 10 * (k / 10) + k % 10 = k by omega] at this)
    clear h hk h0 h1
    go_enter Tryz.func106, Tryz.ntmps106
    go_wp2_with fail
    rw [q1.out]
    refine (IH.out _).mono ?_
    rintro e w1 ⟨rfl, hb1⟩
    have HB1 := Lib.hid hb1
    clear hb1
    go_wp2_with fail
    refine bodyPost_ret (v := str (45 :: Lib.decDigits k)) (by simp [results, Tryz.results106, go_sem]) rfl ⟨by rw [HR.out], HB1.out⟩
  · obtain ⟨k, rfl⟩ : ∃ k : Nat, n = (k : Int) := ⟨n.toNat, by omega⟩
    have HR : Hid (Lib.itoa (k : Int) = Lib.decDigits k) := Lib.hid (Lib.itoa_nonneg k)
    have q1 : Hid (wrap64 ((k : Int) / 10) = ((k / 10 : Nat) : Int)) := Lib.hid (by unfold wrap64; omega)
    have IH : Hid (∀ W, Calls Tryz.prog 109 #[.int .i64 ((k / 10 : Nat) : Int), .int .i64 ((k % 10 : Nat) : Int)] W fun e w' => e = .returned (str (Lib.decDigits k)) ∧ Below W.heap.size W w') := Lib.hid (fun W => by
      have := positiveW (k / 10) (k / 10) (k % 10) W (Nat.le_refl _) (by omega) (by omega)
      rwa [show 10 * (k / 10) + k % 10 = k by omega] at this)
    clear h0 h1
    go_enter Tryz.func106, Tryz.ntmps106
    go_wp2_with fail
    rw [q1.out]
    refine (IH.out _).mono ?_
    rintro e w1 ⟨rfl, hb1⟩
    have HB1 := Lib.hid hb1
    clear hb1
    go_wp2_with fail
    refine bodyPost_ret (v := str (Lib.decDigits k)) (by simp [results, Tryz.results106, go_sem]) rfl ⟨by rw [HR.out], HB1.out⟩

theorem quoteL_app : ∀ l m, quoteL (l ++ m) = quoteL l ++ quoteL m
  | [], _ => rfl
  | c :: l, m => by
    simp only [List.cons_append, quoteL, quoteL_app l m]
    split <;> rfl
theorem quoteL_snoc (s : ByteArray) {k : Nat} (h : k < s.size) : quoteL (s.data.toList.take (k + 1)) = quoteL (s.data.toList.take k) ++ (if s[k] = 39 then [39, 39] else [s[k]]) := by
  rw [List.take_succ_eq_append_getElem (by simpa using h), quoteL_app]
  congr 1
def RefLitKn (ao : Option Addr) (L : List UInt8) (co : Nat) (c : UInt8) (s : ByteArray) (b : Nat) (k : Nat) : Nat → Value → World → Prop
  | 0, v, _ => v = .slice ao L.length co
  | 1, v, _ => v = .string (ByteArray.mk #[48, 49, 50, 51, 52, 53, 54, 55, 56, 57, 97, 98, 99, 100, 101, 102])
  | 2, v, _ => v = .pointer (some ⟨b, 2, none⟩)
  | 3, v, _ => v = .string s
  | 4, v, _ => v = .int .i64 (k : Int)
  | 5, v, _ => v = byte c
  | 6, v, _ => v = .int .u8 ((c.toNat / 16 : Nat) : Int)
  | 7, v, _ => v = byte (hexC (c.toNat / 16))
  | 8, v, _ => v = .string (ByteArray.mk #[48, 49, 50, 51, 52, 53, 54, 55, 56, 57, 97, 98, 99, 100, 101, 102])
  | 9, v, _ => v = .pointer (some ⟨b, 2, none⟩)
  | 10, v, _ => v = .string s
  | 11, v, _ => v = .int .i64 (k : Int)
  | 12, v, _ => v = byte c
  | 13, v, _ => v = .int .u8 ((c.toNat % 16 : Nat) : Int)
  | 14, v, _ => v = byte (hexC (c.toNat % 16))
  | 15, v, w => ∃ b, v = .slice (some ⟨b, 0, none⟩) 2 2 ∧ w.cell? ⟨b, 0, none⟩ = some (byte (hexC (c.toNat / 16))) ∧ w.cell? ⟨b, 1, none⟩ = some (byte (hexC (c.toNat % 16)))
  | _, _, _ => True
theorem RefLitKn.later {ao : Option Addr} {L : List UInt8} {co : Nat} {c : UInt8} {s : ByteArray} {b : Nat} {k : Nat} : ∀ (j : Nat) (v : Value) (w1 w2 : World), RefLitKn ao L co c s b k j v w1 → Below w1.heap.size w1 w2 → RefLitKn ao L co c s b k j v w2
  | 0, _, _, _, h, _ => h
  | 1, _, _, _, h, _ => h
  | 2, _, _, _, h, _ => h
  | 3, _, _, _, h, _ => h
  | 4, _, _, _, h, _ => h
  | 5, _, _, _, h, _ => h
  | 6, _, _, _, h, _ => h
  | 7, _, _, _, h, _ => h
  | 8, _, _, _, h, _ => h
  | 9, _, _, _, h, _ => h
  | 10, _, _, _, h, _ => h
  | 11, _, _, _, h, _ => h
  | 12, _, _, _, h, _ => h
  | 13, _, _, _, h, _ => h
  | 14, _, _, _, h, _ => h
  | 15, _, _, _, ⟨b, h0, c0, c1⟩, hb => ⟨b, h0, (hb.cell (cell_lt c0)).trans c0, (hb.cell (cell_lt c1)).trans c1⟩
  | _ + 16, _, _, _, h, _ => h
set_option maxRecDepth 100000 in
set_option maxHeartbeats 8000000 in
theorem refLiteralW (v : V) (w : World) (ho : v.ok) (hs : v.s.size ≤ 1000000) :
    Calls Tryz.prog 107 #[v.val] w fun e w' => e = .returned (str (litV v)) ∧ Below w.heap.size w w' := by
  have HCK : Hid (∀ W, Calls Tryz.prog 103 #[v.val] W fun e w' => e = .returned (.int .i64 (checkV v : Int)) ∧ Below W.heap.size W w') := Lib.hid (fun W => refCheck v W)
  have HO := Lib.hid ho
  have HS := Lib.hid hs
  have hbel : Below w.heap.size w (w.alloc (.cells #[.int .u8 (v.k : Int), .int .i64 v.n, .string v.s] 42)) := (Below.refl _ _).alloc (Nat.le_refl _) _
  have HB0 := Lib.hid hbel
  clear ho hs hbel
  by_cases hc : checkV v = 0
  · have hk := kind_of hc
    rcases hk with ⟨h0, hn, hse⟩ | ⟨h1, hse⟩ | ⟨h23, hn, hse⟩
    · have HR : Hid (litV v = [78, 85, 76, 76]) := Lib.hid (by unfold litV; rw [if_neg (by simp [hc]), if_neg (by omega), if_neg (by omega), if_neg (by omega)])
      have e1 : ((v.k : Int) == 1) = false := by simp; omega
      have e2 : ((v.k : Int) == 2) = false := by simp; omega
      have e3 : ((v.k : Int) == 3) = false := by simp; omega
      rw [hc] at HCK
      clear hc h0 hn hse
      go_enter Tryz.func107, Tryz.ntmps107
      go_wp2_with fail
      refine (HCK.out _).mono ?_
      rintro e w1 ⟨rfl, hb1⟩
      obtain ⟨c0, c1, c2⟩ := cells_V w w1 v _ hb1
      have HB1 := Lib.hid (next HB0.out hb1)
      clear hb1
      go_wp2_with fail
      refine bodyPost_ret (v := str [78, 85, 76, 76]) (by simp [results, Tryz.results107, go_sem]) rfl ⟨by rw [HR.out], HB1.out⟩
    · have HR : Hid (litV v = Lib.itoa v.n) := Lib.hid (by unfold litV; rw [if_neg (by simp [hc]), if_pos h1])
      have e1 : ((v.k : Int) == 1) = true := by simp; omega
      rw [hc] at HCK
      clear hc h1 hse
      go_enter Tryz.func107, Tryz.ntmps107
      go_wp2_with fail
      refine (HCK.out _).mono ?_
      rintro e w1 ⟨rfl, hb1⟩
      obtain ⟨c0, c1, c2⟩ := cells_V w w1 v _ hb1
      have HB1 := Lib.hid (next HB0.out hb1)
      clear hb1
      go_wp2_with fail
      refine (digitsW v.n w1 HO.out.2.1.1 HO.out.2.1.2).mono ?_
      rintro e w2 ⟨rfl, hb2⟩
      have HB2 := Lib.hid (next HB1.out hb2)
      clear hb2
      go_wp2_with fail
      refine bodyPost_ret (v := str (Lib.itoa v.n)) (by simp [results, Tryz.results107, go_sem]) rfl ⟨by rw [HR.out], HB2.out⟩
    · rcases h23 with h2 | h3
      · have HR : Hid (litV v = 39 :: (quoteL v.s.data.toList ++ [39])) := Lib.hid (by unfold litV; rw [if_neg (by simp [hc]), if_neg (by omega), if_pos h2])
        have e1 : ((v.k : Int) == 1) = false := by simp; omega
        have e2 : ((v.k : Int) == 2) = true := by simp; omega
        rw [hc] at HCK
        clear hc h2 hse hn
        go_enter Tryz.func107, Tryz.ntmps107
        go_wp2_with fail
        refine (HCK.out _).mono ?_
        rintro e w1 ⟨rfl, hb1⟩
        have hcl := cells_V w w1 v _ hb1
        have HB1 := Lib.hid (next HB0.out hb1)
        have HC2 := Lib.hid hcl.2.2
        obtain ⟨c0, c1, c2⟩ := hcl
        clear hb1
        go_wp2_with fail
        clear c0 c1 c2 HCK HB0
        go_loopg [4, 5] v.s.size (fun gk ov iv wr => ∃ (k : Nat) (L : List UInt8), iv = .int .i64 (k : Int) ∧ gk = v.s.size - k ∧ k ≤ v.s.size ∧ Hid (L = quoteL (v.s.data.toList.take k)) ∧ Hid (OwnB wr w1.heap.size 5 ov L) ∧ Hid (Below w.heap.size w wr) ∧ Hid (Below w1.heap.size w1 wr))
        case atStart => exact ⟨0, [], rfl, rfl, Nat.zero_le _, Lib.hid rfl, Lib.hid (OwnB.nil _ _ _), HB1, Lib.hid (Below.refl _ _)⟩
        case round =>
          obtain ⟨k, L, rfl, rfl, hk, HL, HOWN, HBW, HBQ⟩ := hrel
          obtain ⟨ao, co, rfl⟩ := HOWN.out.shape
          have HLEN : Hid (L.length ≤ 2 * k) := Lib.hid (by rw [HL.out]; have := quoteL_len (v.s.data.toList.take k); rw [List.length_take] at this; omega)
          have c2 : wr.cell? ⟨w.heap.size, 2, none⟩ = some (.string v.s) := (HBQ.out.cell (cell_lt HC2.out)).trans HC2.out
          by_cases hlt : k < v.s.size
          · have ilt : (k : Int) < (v.s.size : Int) := by omega
            have HKK : Hid (wrap64 ((k : Int) + 1) = ((k + 1 : Nat) : Int)) := Lib.hid (by have := HS.out; unfold wrap64; omega)
            obtain ⟨c, hc⟩ : ∃ c, v.s[k] = c := ⟨_, rfl⟩
            have hcn : (v.s[k]).toNat = c.toNat := by rw [hc]
            have hsn := quoteL_snoc v.s hlt
            rw [hc] at hsn
            have HLT := Lib.hid hlt
            by_cases h39 : c = 39
            · rw [if_pos h39] at hsn
              have HNX : Hid (L ++ [39] ++ [c] = quoteL (v.s.data.toList.take (k + 1))) := Lib.hid (by rw [HL.out, hsn, h39]; simp)
              have heq : ((c.toNat : Int) == 39) = true := by rw [h39]; rfl
              clear hc hsn hk HL h39
              go_wp2_with (first
                | (at_builtin; refine wpList_append_x rfl (.tmp 34) (.tmp 35) 147 rfl w1.heap.size 5 Num.elem_u8 _ L rfl (.inl (HOWN.out.alloc _)) _ [39] rfl (reads_cells wr.heap.size [39] (fun i hi => by rcases i with _ | i; (go_simp); (simp at hi))) (by simp) (by have := HLEN.out; have := HS.out; have := HLT.out; simp; omega) (by have := HBQ.out.size; simp; omega) ?_; intro v1 w4 hown1 hbel1; have HBX1 := Lib.hid ((HBQ.out.alloc HBQ.out.size (.cells #[.int .u8 39] 5)).trans hbel1); have HBW1 := Lib.hid ((HBW.out.alloc HBW.out.size (.cells #[.int .u8 39] 5)).trans (hbel1.mono HB1.out.size)); have c4 : w4.cell? ⟨w.heap.size, 2, none⟩ = some (.string v.s) := (HBX1.out.cell (cell_lt HC2.out)).trans HC2.out; have HO1 := Lib.hid hown1; clear hown1 hbel1)
                | (at_builtin; refine wpList_append_x rfl (.tmp 37) (.tmp 42) 147 rfl w1.heap.size 5 Num.elem_u8 _ (L ++ [39]) rfl (.inl (HO1.out.alloc _)) _ [c] rfl (reads_cells w4.heap.size [c] (fun i hi => by rcases i with _ | i; (go_simp); (simp at hi))) (by simp) (by have := HLEN.out; have := HS.out; have := HLT.out; simp; omega) (by have := HBX1.out.size; simp; omega) ?_; intro v2 w5 hown2 hbel2; have HBX2 := Lib.hid ((HBX1.out.alloc HBX1.out.size (.cells #[byte c] 5)).trans hbel2); have HBW2 := Lib.hid ((HBW1.out.alloc HBW1.out.size (.cells #[byte c] 5)).trans (hbel2.mono HB1.out.size)); have HO2 := Lib.hid hown2; clear hown2 hbel2))
              go_roundg (v.s.size - (k + 1))
              case measure => exact Nat.sub_lt_sub_left HLT.out (Nat.lt_succ_self _)
              case rel => exact ⟨k + 1, _, by first | exact congrArg (Value.int .i64) HKK.out | (simp; exact HKK.out), rfl, HLT.out, HNX, HO2, HBW2, HBX2⟩
            · rw [if_neg h39] at hsn
              have HNX : Hid (L ++ [c] = quoteL (v.s.data.toList.take (k + 1))) := Lib.hid (by rw [HL.out, hsn])
              have hne : ((c.toNat : Int) == 39) = false := by
                have : c.toNat ≠ 39 := fun e => h39 (UInt8.toNat_inj.1 e)
                simp; omega
              clear hc hsn hk HL h39
              go_wp2_with (at_builtin; refine wpList_append_x rfl (.tmp 37) (.tmp 42) 147 rfl w1.heap.size 5 Num.elem_u8 _ L rfl (.inl (HOWN.out.alloc _)) _ [c] rfl (reads_cells wr.heap.size [c] (fun i hi => by rcases i with _ | i; (go_simp); (simp at hi))) (by simp) (by have := HLEN.out; have := HS.out; have := HLT.out; simp; omega) (by have := HBQ.out.size; simp; omega) ?_; intro v1 w4 hown1 hbel1; have HBX1 := Lib.hid ((HBQ.out.alloc HBQ.out.size (.cells #[byte c] 5)).trans hbel1); have HBW1 := Lib.hid ((HBW.out.alloc HBW.out.size (.cells #[byte c] 5)).trans (hbel1.mono HB1.out.size)); have HO1 := Lib.hid hown1; clear hown1 hbel1)
              go_roundg (v.s.size - (k + 1))
              case measure => exact Nat.sub_lt_sub_left HLT.out (Nat.lt_succ_self _)
              case rel => exact ⟨k + 1, _, by first | exact congrArg (Value.int .i64) HKK.out | (simp; exact HKK.out), rfl, HLT.out, HNX, HO1, HBW1, HBX1⟩
          · have ilt : ¬ (k : Int) < (v.s.size : Int) := by omega
            have hfull : L = quoteL v.s.data.toList := by
              rw [HL.out, List.take_of_length_le (by rw [bytes_list]; omega)]
            have hl2 : L.length ≤ 2000000 := by have := HLEN.out; have := HS.out; omega
            have HRF : Hid (litV v = 39 :: (L ++ [39])) := Lib.hid (by rw [HR.out, hfull])
            have hcv2 := convX (P := Tryz.prog) 147 5 9 Tryz.underlying147 Tryz.underlying5 Tryz.underlying9 (.inl HOWN.out)
            have ha1 := add_str [39] L (by simp; omega)
            have ha2 := add_str (39 :: L) [39] (by simp; omega)
            clear hlt hk hfull hl2
            go_wp2_with fail
            refine bodyPost_ret (v := str (39 :: (L ++ [39]))) (by simp [results, Tryz.results107, go_sem]) rfl ⟨by rw [HRF.out], HBW.out⟩
      · have HR : Hid (litV v = 120 :: 39 :: (hexL v.s.data.toList ++ [39])) := Lib.hid (by unfold litV; rw [if_neg (by simp [hc]), if_neg (by omega), if_neg (by omega), if_pos h3])
        have e1 : ((v.k : Int) == 1) = false := by simp; omega
        have e2 : ((v.k : Int) == 2) = false := by simp; omega
        have e3 : ((v.k : Int) == 3) = true := by simp; omega
        rw [hc] at HCK
        clear hc h3 hse hn
        go_enter Tryz.func107, Tryz.ntmps107
        go_wp2_with fail
        refine (HCK.out _).mono ?_
        rintro e w1 ⟨rfl, hb1⟩
        have hcl := cells_V w w1 v _ hb1
        have HB1 := Lib.hid (next HB0.out hb1)
        have HC2 := Lib.hid hcl.2.2
        obtain ⟨c0, c1, c2⟩ := hcl
        clear hb1
        go_wp2_with fail
        clear c0 c1 c2 HCK HB0
        obtain ⟨s, hsv⟩ : ∃ s, v.s = s := ⟨_, rfl⟩
        rw [hsv] at HC2 HS HR ⊢
        clear hsv
        go_loopg [6, 8] s.size (fun gk ov iv wr => ∃ (k : Nat) (L : List UInt8), iv = .int .i64 (k : Int) ∧ gk = s.size - k ∧ k ≤ s.size ∧ Hid (L = hexL (s.data.toList.take k)) ∧ Hid (OwnB wr w1.heap.size 5 ov L) ∧ Hid (Below w.heap.size w wr) ∧ Hid (Below w1.heap.size w1 wr))
        case atStart => exact ⟨0, [], rfl, rfl, Nat.zero_le _, Lib.hid rfl, Lib.hid (OwnB.nil _ _ _), HB1, Lib.hid (Below.refl _ _)⟩
        case round =>
          obtain ⟨k, L, rfl, rfl, hk, HL, HOWN, HBW, HBQ⟩ := hrel
          obtain ⟨ao, co, rfl⟩ := HOWN.out.shape
          have HLEN : Hid (L.length = 2 * k) := Lib.hid (by rw [HL.out, hexL_length, List.length_take, bytes_list]; omega)
          have c2 : wr.cell? ⟨w.heap.size, 2, none⟩ = some (.string s) := (HBQ.out.cell (cell_lt HC2.out)).trans HC2.out
          by_cases hlt : k < s.size
          · have ilt : (k : Int) < (s.size : Int) := by omega
            have HKK : Hid (wrap64 ((k : Int) + 1) = ((k + 1 : Nat) : Int)) := Lib.hid (by have := HS.out; unfold wrap64; omega)
            obtain ⟨c, hc⟩ : ∃ c, s[k] = c := ⟨_, rfl⟩
            have hcn : (s[k]).toNat = c.toNat := by rw [hc]
            have hsn := hexL_snoc s hlt
            rw [hc] at hsn
            have HNX : Hid (L ++ [hexC (c.toNat / 16), hexC (c.toNat % 16)] = hexL (s.data.toList.take (k + 1))) := Lib.hid (by rw [HL.out, hsn])
            have HLT := Lib.hid hlt
            clear hc hsn hk HL
            go_upto_region 22 with fail
            have hc2 := c2
            clear c2
            generalize hbk : w.heap.size = b at *
            refine wp_region_kipt 16 (RefLitKn ao L co c s b k) 78 (by simp) (by kernel_rfl) (by kernel_rfl) RefLitKn.later ?_ ?_
            · intro i hi A W hother hbW hd
              match i, hi with
                | 0, hi =>
                  have h6 := tmps_at (show A.eval (.tmp 6) = .slice ao L.length co from hother 6 (by kernel_rfl))
                  clear hother hd hi
                  exact kip_same rfl (wanted_none rfl) (.slice ao L.length co) (by simp only [execOp]; go_simp) rfl
                | 1, hi =>
                  have h7 := tmps_at (show A.eval (.tmp 7) = .string (ByteArray.mk #[48, 49, 50, 51, 52, 53, 54, 55, 56, 57, 97, 98, 99, 100, 101, 102]) from hother 7 (by kernel_rfl))
                  clear hother hd hi
                  exact kip_same rfl (wanted_none rfl) (.string (ByteArray.mk #[48, 49, 50, 51, 52, 53, 54, 55, 56, 57, 97, 98, 99, 100, 101, 102])) (by simp only [execOp]; go_simp) rfl
                | 2, hi =>
                  have h1 := tmps_at (show A.eval (.tmp 1) = .pointer (some ⟨b, 0, none⟩) from hother 1 (by kernel_rfl))
                  clear hother hd hi
                  exact kip_same rfl (wanted_none rfl) (.pointer (some ⟨b, 2, none⟩)) (by simp only [execOp]; go_simp) rfl
                | 3, hi =>
                  have h59 := tmps_at ((hd _ rfl ⟨2, .data⟩ (by simp) rfl).eq (.pointer (some ⟨b, 2, none⟩)) (fun _ h => h) 59 (by kernel_rfl) (by decide))
                  have c2 := (hbW.cell (cell_lt hc2)).trans hc2
                  clear hother hd hi
                  exact kip_same rfl (wanted_none rfl) (.string s) (by simp only [execOp]; go_simp) rfl
                | 4, hi =>
                  have h8 := tmps_at (show A.eval (.tmp 8) = .int .i64 (k : Int) from hother 8 (by kernel_rfl))
                  clear hother hd hi
                  exact kip_same rfl (wanted_none rfl) (.int .i64 (k : Int)) (by simp only [execOp]; go_simp) rfl
                | 5, hi =>
                  have h60 := tmps_at ((hd _ rfl ⟨3, .data⟩ (by simp) rfl).eq (.string s) (fun _ h => h) 60 (by kernel_rfl) (by decide))
                  have h61 := tmps_at ((hd _ rfl ⟨4, .data⟩ (by simp) rfl).eq (.int .i64 (k : Int)) (fun _ h => h) 61 (by kernel_rfl) (by decide))
                  clear hother hd hi
                  exact kip_same rfl (wanted_none rfl) (byte c) (by simp only [execOp]; go_simp) rfl
                | 6, hi =>
                  have h62 := tmps_at ((hd _ rfl ⟨5, .data⟩ (by simp) rfl).eq (byte c) (fun _ h => h) 62 (by kernel_rfl) (by decide))
                  have hq : IntKind.wrap .u8 ((c.toNat : Int) / 16) = (c.toNat : Int) / 16 := by rw [IntKind.wrap_u8]; have := c.toNat_lt; omega
                  clear hother hd hi
                  exact kip_same rfl (wanted_none rfl) (.int .u8 ((c.toNat / 16 : Nat) : Int)) (by simp only [execOp]; go_simp) rfl
                | 7, hi =>
                  have h58 := tmps_at ((hd _ rfl ⟨1, .data⟩ (by simp) rfl).eq (.string (ByteArray.mk #[48, 49, 50, 51, 52, 53, 54, 55, 56, 57, 97, 98, 99, 100, 101, 102])) (fun _ h => h) 58 (by kernel_rfl) (by decide))
                  have h63 := tmps_at ((hd _ rfl ⟨6, .data⟩ (by simp) rfl).eq (.int .u8 ((c.toNat / 16 : Nat) : Int)) (fun _ h => h) 63 (by kernel_rfl) (by decide))
                  have hl := c.toNat_lt
                  clear hother hd hi
                  exact kip_same rfl (wanted_none rfl) (byte (hexC (c.toNat / 16))) (by simp only [execOp]; go_simp; rw [dif_pos (show 0 ≤ (c.toNat : Int) / 16 ∧ (c.toNat : Int) / 16 < 16 by omega)]; exact hex_at _ _ (by omega) (by omega) (by omega) _) rfl
                | 8, hi =>
                  have h7 := tmps_at (show A.eval (.tmp 7) = .string (ByteArray.mk #[48, 49, 50, 51, 52, 53, 54, 55, 56, 57, 97, 98, 99, 100, 101, 102]) from hother 7 (by kernel_rfl))
                  clear hother hd hi
                  exact kip_same rfl (wanted_none rfl) (.string (ByteArray.mk #[48, 49, 50, 51, 52, 53, 54, 55, 56, 57, 97, 98, 99, 100, 101, 102])) (by simp only [execOp]; go_simp) rfl
                | 9, hi =>
                  have h1 := tmps_at (show A.eval (.tmp 1) = .pointer (some ⟨b, 0, none⟩) from hother 1 (by kernel_rfl))
                  clear hother hd hi
                  exact kip_same rfl (wanted_none rfl) (.pointer (some ⟨b, 2, none⟩)) (by simp only [execOp]; go_simp) rfl
                | 10, hi =>
                  have h66 := tmps_at ((hd _ rfl ⟨9, .data⟩ (by simp) rfl).eq (.pointer (some ⟨b, 2, none⟩)) (fun _ h => h) 66 (by kernel_rfl) (by decide))
                  have c2 := (hbW.cell (cell_lt hc2)).trans hc2
                  clear hother hd hi
                  exact kip_same rfl (wanted_none rfl) (.string s) (by simp only [execOp]; go_simp) rfl
                | 11, hi =>
                  have h8 := tmps_at (show A.eval (.tmp 8) = .int .i64 (k : Int) from hother 8 (by kernel_rfl))
                  clear hother hd hi
                  exact kip_same rfl (wanted_none rfl) (.int .i64 (k : Int)) (by simp only [execOp]; go_simp) rfl
                | 12, hi =>
                  have h67 := tmps_at ((hd _ rfl ⟨10, .data⟩ (by simp) rfl).eq (.string s) (fun _ h => h) 67 (by kernel_rfl) (by decide))
                  have h68 := tmps_at ((hd _ rfl ⟨11, .data⟩ (by simp) rfl).eq (.int .i64 (k : Int)) (fun _ h => h) 68 (by kernel_rfl) (by decide))
                  clear hother hd hi
                  exact kip_same rfl (wanted_none rfl) (byte c) (by simp only [execOp]; go_simp) rfl
                | 13, hi =>
                  have h69 := tmps_at ((hd _ rfl ⟨12, .data⟩ (by simp) rfl).eq (byte c) (fun _ h => h) 69 (by kernel_rfl) (by decide))
                  have hq : Int.tmod (c.toNat : Int) 16 = (c.toNat : Int) % 16 := Int.tmod_eq_emod_of_nonneg (by omega)
                  clear hother hd hi
                  exact kip_same rfl (wanted_none rfl) (.int .u8 ((c.toNat % 16 : Nat) : Int)) (by simp only [execOp]; go_simp) rfl
                | 14, hi =>
                  have h65 := tmps_at ((hd _ rfl ⟨8, .data⟩ (by simp) rfl).eq (.string (ByteArray.mk #[48, 49, 50, 51, 52, 53, 54, 55, 56, 57, 97, 98, 99, 100, 101, 102])) (fun _ h => h) 65 (by kernel_rfl) (by decide))
                  have h70 := tmps_at ((hd _ rfl ⟨13, .data⟩ (by simp) rfl).eq (.int .u8 ((c.toNat % 16 : Nat) : Int)) (fun _ h => h) 70 (by kernel_rfl) (by decide))
                  clear hother hd hi
                  exact kip_same rfl (wanted_none rfl) (byte (hexC (c.toNat % 16))) (by simp only [execOp]; go_simp; rw [dif_pos (show 0 ≤ (c.toNat : Int) % 16 ∧ (c.toNat : Int) % 16 < 16 by omega)]; exact hex_at _ _ (by omega) (by omega) (by omega) _) rfl
                | 15, hi =>
                  have h64 := tmps_at ((hd _ rfl ⟨7, .data⟩ (by simp) rfl).eq (byte (hexC (c.toNat / 16))) (fun _ h => h) 64 (by kernel_rfl) (by decide))
                  have h71 := tmps_at ((hd _ rfl ⟨14, .data⟩ (by simp) rfl).eq (byte (hexC (c.toNat % 16))) (fun _ h => h) 71 (by kernel_rfl) (by decide))
                  clear hother hd hi
                  exact kip_val rfl (wanted_none rfl) (.slice (some ⟨W.heap.size, 0, none⟩) 2 2) (W.alloc (.cells #[byte (hexC (c.toNat / 16)), byte (hexC (c.toNat % 16))] 5)) (by simp only [execOp]; go_simp) ((Below.refl _ _).alloc (Nat.le_refl _) _) ⟨_, rfl, by go_simp, by go_simp⟩
                | n + 16, hi => omega
            · intro us W hbW hk
              have h0 : us 0 = .slice ao L.length co := hk 0 (by decide)
              obtain ⟨b2, h7, c0, c1⟩ : ∃ b, us 15 = .slice (some ⟨b, 0, none⟩) 2 2 ∧ W.cell? ⟨b, 0, none⟩ = some (byte (hexC (c.toNat / 16))) ∧ W.cell? ⟨b, 1, none⟩ = some (byte (hexC (c.toNat % 16))) := hk 15 (by decide)
              have HO2 := Lib.hid (HOWN.out.below hbW)
              have hbW2 := HBW.out.size
              have HBW2 := Lib.hid (HBW.out.trans (hbW.mono (by omega)))
              have HBQ2 := Lib.hid (next HBQ.out hbW)
              clear hk hbW HOWN HBW HBQ
              simp only [putAll, dstOf, List.getElem?_toArray, List.getElem?_cons_zero, List.getElem?_cons_succ, Option.bind_some, Act.put, h0, h7, List.drop_succ_cons, List.drop_zero]
              simp only [List.setIfInBounds_toArray, List.set_cons_zero, List.set_cons_succ]
              refine wpList_append_x rfl (.tmp 57) (.tmp 72) 147 rfl w1.heap.size 5 Num.elem_u8 _ L rfl (.inl HO2.out) _ [hexC (c.toNat / 16), hexC (c.toNat % 16)] rfl (reads_cells b2 [hexC (c.toNat / 16), hexC (c.toNat % 16)] (fun i hi => by
                rcases i with _ | _ | i
                · exact c0
                · exact c1
                · simp at hi; omega)) (by simp) (by have := HLEN.out; have := HS.out; have := HLT.out; simp; omega) HBQ2.out.size ?_
              intro v' w4 hown hbel
              have HO4 := Lib.hid hown
              have HBW4 := Lib.hid (HBW2.out.trans (hbel.mono (by have := HB1.out.size; omega)))
              have HBQ4 := Lib.hid (HBQ2.out.trans hbel)
              clear hown hbel c0 c1 h0 h7 HO2 HBW2 HBQ2 hc2 hcn
              go_wp2_with fail
              go_roundg (s.size - (k + 1))
              case measure => exact Nat.sub_lt_sub_left HLT.out (Nat.lt_succ_self _)
              case rel => exact ⟨k + 1, _, by first | exact congrArg (Value.int .i64) HKK.out | (simp; exact HKK.out), rfl, HLT.out, HNX, HO4, HBW4, HBQ4⟩
          · have ilt : ¬ (k : Int) < (s.size : Int) := by omega
            have hfull : L = hexL s.data.toList := by
              rw [HL.out, List.take_of_length_le (by rw [bytes_list]; omega)]
            have hl2 : L.length ≤ 2000000 := by have := HLEN.out; have := HS.out; omega
            have HRF : Hid (litV v = 120 :: 39 :: (L ++ [39])) := Lib.hid (by rw [HR.out, hfull])
            have hcv2 := convX (P := Tryz.prog) 147 5 9 Tryz.underlying147 Tryz.underlying5 Tryz.underlying9 (.inl HOWN.out)
            have ha1 := add_str [120, 39] L (by simp; omega)
            have ha2 := add_str (120 :: 39 :: L) [39] (by simp; omega)
            clear hlt hk hfull hl2
            go_wp2_with fail
            refine bodyPost_ret (v := str (120 :: 39 :: (L ++ [39]))) (by simp [results, Tryz.results107, go_sem]) rfl ⟨by rw [HRF.out], HBW.out⟩
  · have HR : Hid (litV v = []) := Lib.hid (by unfold litV; rw [if_pos hc])
    have hne : ((checkV v : Int) != 0) = true := by simp; omega
    clear hc
    generalize checkV v = C at *
    go_enter Tryz.func107, Tryz.ntmps107
    go_wp2_with fail
    refine (HCK.out _).mono ?_
    rintro e w1 ⟨rfl, hb1⟩
    have HB1 := Lib.hid (next HB0.out hb1)
    clear hb1
    go_wp2_with fail
    refine bodyPost_ret (v := str []) (by simp [results, Tryz.results107, go_sem]) rfl ⟨by rw [HR.out], HB1.out⟩
end Go.Proofs.YtjgkeillmelkoaaGreat.Dt
