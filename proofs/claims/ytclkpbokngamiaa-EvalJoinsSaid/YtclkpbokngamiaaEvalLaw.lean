/-
  The walks of the laws' own helpers: values, expressions, what is what.
-/
import Derived.Test.YtclkpbokngamiaaExSpec
import Derived.Test.YtclkpbokngamiaaEvalFold
namespace Go.Proofs.Ytclkpbokngamiaa.Dt
open Go.RowKit Go.Proofs.Ytclkpbokngamiaa.By

theorem numberL (n : Int) (w : World) : Calls Try.prog 17 #[.int .i64 n] w fun e w' => e = .returned (numV n).val ∧ Below w.heap.size w w' := by
  go_enter Try.func17, Try.ntmps17
  go_wp2_with fail
  refine bodyPost_ret (v := .agg #[.int .u8 1, .int .i64 n, .string ⟨#[]⟩]) (by simp [results, Try.results17, go_sem]) rfl ⟨rfl, ?_⟩
  go_grown
theorem textL (s : ByteArray) (w : World) : Calls Try.prog 18 #[.string s] w fun e w' => e = .returned (V.mk 2 0 s).val ∧ Below w.heap.size w w' := by
  go_enter Try.func18, Try.ntmps18
  go_wp2_with fail
  refine bodyPost_ret (v := .agg #[.int .u8 2, .int .i64 0, .string s]) (by simp [results, Try.results18, go_sem]) rfl ⟨rfl, ?_⟩
  go_grown
theorem withL (v : V) (w : World) : Calls Try.prog 7 #[v.val] w fun e w' => e = .returned (exV v).val ∧ Below w.heap.size w w' := by
  go_enter Try.func7, Try.ntmps7
  go_wp2_with fail
  refine bodyPost_ret (v := .agg #[.int .u8 1, .int .u8 (v.k : Int), .int .i64 v.n, .string v.s, .string ⟨#[]⟩, .string ⟨#[]⟩, .int .i64 0, .slice none 0 0]) (by simp [results, Try.results7, go_sem]) rfl ⟨rfl, ?_⟩
  go_grown
theorem columnL (n : Int) (w : World) : Calls Try.prog 13 #[.int .i64 n] w fun e w' => e = .returned (exC n).val ∧ Below w.heap.size w w' := by
  go_enter Try.func13, Try.ntmps13
  go_wp2_with fail
  refine bodyPost_ret (v := .agg #[.int .u8 2, .int .u8 0, .int .i64 0, .string ⟨#[]⟩, .string ⟨#[]⟩, .string ⟨#[]⟩, .int .i64 n, .slice none 0 0]) (by simp [results, Try.results13, go_sem]) rfl ⟨rfl, ?_⟩
  go_grown
theorem ofL (op : Nat) (a : Option Addr) (n c : Nat) (ks : List Ex) (w : World) : Calls Try.prog 9 #[.int .u8 (op : Int), .slice a n c] w fun e w' => e = .returned (exOf op (.slice a n c) ks).val ∧ Below w.heap.size w w' := by
  go_enter Try.func9, Try.ntmps9
  go_wp2_with fail
  refine bodyPost_ret (v := .agg #[.int .u8 (op : Int), .int .u8 0, .int .i64 0, .string ⟨#[]⟩, .string ⟨#[]⟩, .string ⟨#[]⟩, .int .i64 0, .slice a n c]) (by simp [results, Try.results9, go_sem]) rfl ⟨rfl, ?_⟩
  go_grown

/-- What 'is' has caught. -/
def Caught (p q : Addr) (v : V) (e : Nat) (w : World) : Prop := ∃ b c, p = ⟨b, 0, none⟩ ∧ q = ⟨c, 0, none⟩ ∧ b < w.heap.size ∧ c < w.heap.size ∧ w.cell? ⟨b, 0, none⟩ = some (.int .u8 (v.k : Int)) ∧ w.cell? ⟨b, 1, none⟩ = some (.int .i64 v.n) ∧ w.cell? ⟨b, 2, none⟩ = some (.string v.s) ∧ w.cell? ⟨c, 0, none⟩ = some (.int .i64 (e : Int))
theorem Caught.later {p q : Addr} {v : V} {e : Nat} {w w' : World} (h : Caught p q v e w) (hb : Below w.heap.size w w') : Caught p q v e w' := by
  obtain ⟨b, c, hp, hq, hbl, hcl, h0, h1, h2, h3⟩ := h
  exact ⟨b, c, hp, hq, Nat.lt_of_lt_of_le hbl hb.size, Nat.lt_of_lt_of_le hcl hb.size, (hb.cell (p := ⟨b, 0, none⟩) hbl).trans h0, (hb.cell (p := ⟨b, 1, none⟩) hbl).trans h1, (hb.cell (p := ⟨b, 2, none⟩) hbl).trans h2, (hb.cell (p := ⟨c, 0, none⟩) hcl).trans h3⟩

theorem isL (v : V) (e : Nat) (w : World) : Calls Try.prog 10 #[v.val, .int .i64 (e : Int)] w fun r w' =>
    (∃ p q, r = .returned (.func (.func 23) #[] #[.pointer (some p), .pointer (some q)]) ∧ Caught p q v e w') ∧ Below w.heap.size w w' := by
  go_enter Try.func10, Try.ntmps10
  go_wp2_with fail
  refine bodyPost_ret (v := .func (.func 23) #[] #[.pointer (some ⟨w.heap.size, 0, none⟩), .pointer (some ⟨w.heap.size + 1, 0, none⟩)]) (by simp [results, Try.results10, go_sem]) rfl ⟨⟨⟨w.heap.size, 0, none⟩, ⟨w.heap.size + 1, 0, none⟩, rfl, w.heap.size, w.heap.size + 1, rfl, rfl, by simp; omega, by simp, by go_simp, by go_simp, by go_simp, by go_simp⟩, ?_⟩
  go_grown

set_option maxRecDepth 100000 in
theorem isW (a v : V) (f e : Nat) (p q : Addr) (w : World) (hc : Caught p q v e w) :
    Calls Try.prog 23 #[a.val, .int .i64 (f : Int), .pointer (some p), .pointer (some q)] w fun r w' => r = .returned (.bool (decide (v = a) && decide (e = f))) ∧ Below w.heap.size w w' := by
  obtain ⟨b, c, rfl, rfl, hb, hcl, h0, h1, h2, h3⟩ := hc
  have heq := fun W => eq_told v a (decide (v = a)) (by simp) W
  simp only [V.val] at heq
  by_cases hva : v = a
  · rw [decide_eq_true hva] at heq ⊢
    have hef : ((e : Int) == (f : Int)) = decide (e = f) := by rw [Bool.eq_iff_iff]; simp; omega
    clear hva
    go_enter Try.func23, Try.ntmps23
    go_wp2_with fail
    go_ret
    exact ⟨by simp, by go_grown⟩
  · rw [decide_eq_false hva] at heq ⊢
    clear hva
    go_enter Try.func23, Try.ntmps23
    go_wp2_with fail
    go_ret
    exact ⟨by simp, by go_grown⟩

end Go.Proofs.Ytclkpbokngamiaa.Dt
