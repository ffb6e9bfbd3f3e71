/-
  The walk of package eval's Eval.
-/
import Derived.Test.YtclkpbokngamiaaEvalWalk
namespace Go.Proofs.Ytclkpbokngamiaa.Dt
open Go.RowKit Go.Proofs.Ytclkpbokngamiaa.By

/-- What an expression comes to for a row. -/
def evalS (row : List V) (x : Ex) : V × Nat :=
  if mayB (row.length : Int) false x = true then walkS (fun n => row.getD n.toNat nullV) (fun _ => (nullV, 0)) x else (nullV, 2)

theorem row_get {row : List V} {n : Int} (h0 : 0 ≤ n) (h1 : n < (row.length : Int)) : ∃ k : Nat, n = (k : Int) ∧ row[k]? = some (row.getD n.toNat nullV) := by
  obtain ⟨k, rfl⟩ := Int.eq_ofNat_of_zero_le h0
  refine ⟨k, rfl, ?_⟩
  rw [Int.toNat_natCast, List.getD_eq_getElem?_getD, List.getElem?_eq_getElem (by omega)]
  rfl

set_option maxRecDepth 100000 in
theorem evalCol (b : Nat) (rv : Value) (row : List V) (n : Int) (w : World) (hp : w.cell? ⟨b, 0, none⟩ = some rv) (hr : VsAt w rv row) (h0 : 0 ≤ n) (h1 : n < (row.length : Int)) :
    Calls Try.prog 22 #[.int .i64 n, .pointer (some ⟨b, 0, none⟩)] w fun e w' => e = .returned (row.getD n.toNat nullV).val ∧ Below w.heap.size w w' := by
  obtain ⟨k, rfl, hk⟩ := row_get h0 h1
  obtain ⟨y, hy⟩ : ∃ y, y = row.getD ((k : Int)).toNat nullV := ⟨_, rfl⟩
  rw [← hy] at hk ⊢
  clear hy
  obtain ⟨a, c, rfl⟩ := hr.shape
  obtain ⟨b', o', rfl, hbz, d0, d1, d2⟩ := at3 hr hk
  have hz := cell_lt hp
  clear hr hk
  go_enter Try.func22, Try.ntmps22
  go_wp2_with fail
  refine bodyPost_ret (v := y.val) (by simp [results, Try.results22, go_sem]) rfl ⟨rfl, ?_⟩
  go_grown

set_option maxRecDepth 100000 in
set_option maxHeartbeats 4000000 in
theorem evalW (x : Ex) (rv : Value) (row : List V) (w : World) (hin : x.In w) (hok : x.Ok) (hr : VsAt w rv row) (hrok : ∀ v ∈ row, v.ok) (hrl : row.length ≤ 140737488351232) :
    Calls Try.prog 8 #[x.val, rv] w fun e w' => e = .returned (resV (evalS row x)) ∧ Below w.heap.size w w' := by
  unfold evalS
  obtain ⟨ax, cx, ekx⟩ := Ex.kv_of hin
  have hmay := fun W (hb : Below w.heap.size w W) => may x (row.length : Int) false W (by omega) (by omega) (Ex.in_below (w := w) hb x hin) hok
  have hrow : ∀ W, Below w.heap.size w W → VsAt W rv row := fun W hb => hr.below hb
  obtain ⟨ar, cr, rfl⟩ := hr.shape
  obtain ⟨rl, hrl0⟩ : ∃ rl, rl = row.length := ⟨_, rfl⟩
  rw [← hrl0] at hrow hmay hrl ⊢
  have hbA : Below w.heap.size w (((w.alloc (.cells #[.int .u8 (x.op : Int), .int .u8 (x.v.k : Int), .int .i64 x.v.n, .string x.v.s, .string x.t, .string x.m, .int .i64 x.n, .slice ax x.kids.length cx] 27)).alloc (.cells #[.slice ar rl cr] 49)).alloc (.cells #[.int .u8 0, .int .i64 0, .string ⟨#[]⟩] 23)) := by go_grown
  have hx8 := box_cells w (((w.alloc (.cells #[.int .u8 (x.op : Int), .int .u8 (x.v.k : Int), .int .i64 x.v.n, .string x.v.s, .string x.t, .string x.m, .int .i64 x.n, .slice ax x.kids.length cx] 27)).alloc (.cells #[.slice ar rl cr] 49)).alloc (.cells #[.int .u8 0, .int .i64 0, .string ⟨#[]⟩] 23)) x 27 (by simp only [exBox, ekx]; go_grown)
  have hrc : (((w.alloc (.cells #[.int .u8 (x.op : Int), .int .u8 (x.v.k : Int), .int .i64 x.v.n, .string x.v.s, .string x.t, .string x.m, .int .i64 x.n, .slice ax x.kids.length cx] 27)).alloc (.cells #[.slice ar rl cr] 49)).alloc (.cells #[.int .u8 0, .int .i64 0, .string ⟨#[]⟩] 23)).cell? ⟨w.heap.size + 1, 0, none⟩ = some (.slice ar rl cr) := by go_simp
  have hrb := resBox_new ((w.alloc (.cells #[.int .u8 (x.op : Int), .int .u8 (x.v.k : Int), .int .i64 x.v.n, .string x.v.s, .string x.t, .string x.m, .int .i64 x.n, .slice ax x.kids.length cx] 27)).alloc (.cells #[.slice ar rl cr] 49)) 23
  rw [show ((w.alloc (.cells #[.int .u8 (x.op : Int), .int .u8 (x.v.k : Int), .int .i64 x.v.n, .string x.v.s, .string x.t, .string x.m, .int .i64 x.n, .slice ax x.kids.length cx] 27)).alloc (.cells #[.slice ar rl cr] 49)).heap.size = w.heap.size + 2 by simp] at hrb
  have hwalk : mayB (rl : Int) false x = true → ∀ W, Below (((w.alloc (.cells #[.int .u8 (x.op : Int), .int .u8 (x.v.k : Int), .int .i64 x.v.n, .string x.v.s, .string x.t, .string x.m, .int .i64 x.n, .slice ax x.kids.length cx] 27)).alloc (.cells #[.slice ar rl cr] 49)).alloc (.cells #[.int .u8 0, .int .i64 0, .string ⟨#[]⟩] 23)).heap.size (((w.alloc (.cells #[.int .u8 (x.op : Int), .int .u8 (x.v.k : Int), .int .i64 x.v.n, .string x.v.s, .string x.t, .string x.m, .int .i64 x.n, .slice ax x.kids.length cx] 27)).alloc (.cells #[.slice ar rl cr] 49)).alloc (.cells #[.int .u8 0, .int .i64 0, .string ⟨#[]⟩] 23)) W →
      Calls Try.prog 21 #[x.val, .func (.func 22) #[] #[.pointer (some ⟨w.heap.size + 1, 0, none⟩)], .nilFunc] W fun e w' => e = .returned (resV (walkS (fun n => row.getD n.toNat nullV) (fun _ => (nullV, 0)) x)) ∧ Below W.heap.size W w' := by
    intro hm W hb
    refine walk (cols := (rl : Int)) (g := false) (w0 := ((w.alloc (.cells #[.int .u8 (x.op : Int), .int .u8 (x.v.k : Int), .int .i64 x.v.n, .string x.v.s, .string x.t, .string x.m, .int .i64 x.n, .slice ax x.kids.length cx] 27)).alloc (.cells #[.slice ar rl cr] 49)).alloc (.cells #[.int .u8 0, .int .i64 0, .string ⟨#[]⟩] 23)) (f := 22) (p := ⟨w.heap.size + 1, 0, none⟩) (tf := .nilFunc) ⟨?_, ?_, ?_, ?_, ?_⟩ x W hb (Ex.in_below (w := w) (next hbA hb) x hin) hok hm
    · intro args W; go_simp
    · intro n W h0 h1 hb
      exact evalCol _ _ row n W ((hb.cell (by simp)).trans hrc) (hrow W (next hbA hb)) h0 (by rw [← hrl0]; exact h1)
    · exact fun n _ _ => getD_ok hrok _
    · intro h; cases h
    · intro h; cases h
  simp only [Ex.val] at hmay hwalk ⊢
  rw [ekx] at hx8 hmay hwalk ⊢
  have HM := Lib.hid hmay
  have HBA := Lib.hid hbA
  have HRB := Lib.hid hrb
  clear hmay hbA hrb hrow hr hin hok hrok
  obtain ⟨M, hM⟩ : ∃ M, M = mayB (rl : Int) false x := ⟨_, rfl⟩
  rw [← hM] at hwalk ⊢
  simp only [← hM] at HM
  obtain ⟨R, hR⟩ : ∃ R, R = walkS (fun n => row.getD n.toNat nullV) (fun _ => (nullV, 0)) x := ⟨_, rfl⟩
  rw [← hR] at hwalk ⊢
  obtain ⟨S, hS⟩ : ∃ S, S = if M = true then R else (nullV, 2) := ⟨_, rfl⟩
  rw [← hS]
  have HS := Lib.hid hS
  clear hS
  have HWK := Lib.hid hwalk
  clear hwalk hM hR hrl0
  go_enter Try.func8, Try.ntmps8
  go_wp2_with fail
  generalize hW0 : (((w.alloc (.cells #[.int .u8 (x.op : Int), .int .u8 (x.v.k : Int), .int .i64 x.v.n, .string x.v.s, .string x.t, .string x.m, .int .i64 x.n, .slice ax x.kids.length cx] 27)).alloc (.cells #[.slice ar rl cr] 49)).alloc (.cells #[.int .u8 0, .int .i64 0, .string ⟨#[]⟩] 23)) = W0 at *
  refine (HM.out _ HBA.out).mono ?_
  rintro e w1 ⟨rfl, hb1⟩
  obtain ⟨x0, x1, x2, x3, x4, x5, x6, x7⟩ := hx8
  have y0 := (hb1.cell (cell_lt x0)).trans x0
  have y1 := (hb1.cell (cell_lt x1)).trans x1
  have y2 := (hb1.cell (cell_lt x2)).trans x2
  have y3 := (hb1.cell (cell_lt x3)).trans x3
  have y4 := (hb1.cell (cell_lt x4)).trans x4
  have y5 := (hb1.cell (cell_lt x5)).trans x5
  have y6 := (hb1.cell (cell_lt x6)).trans x6
  have y7 := (hb1.cell (cell_lt x7)).trans x7
  clear x0 x1 x2 x3 x4 x5 x6 x7 hrc hW0
  have hrb1 := HRB.out.later hb1
  have hbel1 := next HBA.out hb1
  have HB1 := Lib.hid hb1; clear hb1
  cases M
  · have HSS : S = (nullV, 2) := HS.out
    subst HSS
    obtain ⟨c0, c1, c2, f0, f1, f2⟩ := hrb1
    go_wp2_with fail
    obtain ⟨q0, q1, q2⟩ := filled3 _ (w.heap.size + 2) _ _ _ (.int .u8 0) (.int .i64 0) (.string ⟨#[]⟩) c0 c1 c2
    refine bodyPost_ret (v := .tuple #[.agg #[.int .u8 0, .int .i64 0, .string ⟨#[]⟩], .int .i64 2]) (by simp [results, Try.results8, go_sem, q0, q1, q2]) rfl ⟨rfl, ?_⟩
    go_grown
  · have HSS : S = R := HS.out
    subst HSS
    have HBEL := Lib.hid hbel1
    have HRB1 := Lib.hid hrb1
    clear hbel1 hrb1
    go_wp2_with fail
    refine (HWK.out trivial _ HB1.out).mono ?_
    rintro e w2 ⟨rfl, hb2⟩
    obtain ⟨c0, c1, c2, f0, f1, f2⟩ := HRB1.out.later hb2
    have hb3 := next HBEL.out hb2
    have hz3 := cell_lt c0
    clear hb2
    go_wp2_with fail
    obtain ⟨q0, q1, q2⟩ := filled3 w2 (w.heap.size + 2) _ _ _ (.int .u8 (S.1.k : Int)) (.int .i64 S.1.n) (.string S.1.s) c0 c1 c2
    refine bodyPost_ret (v := resV S) (by simp [results, Try.results8, go_sem, q0, q1, q2]) rfl ⟨rfl, ?_⟩
    go_grown
end Go.Proofs.Ytclkpbokngamiaa.Dt
