/-
  The walks of package eval's Fold and its closures: what an expression comes to for a group.
-/
import Derived.Test.YtclkpbokngamiaaEvalTold
import Derived.Test.YtclkpbokngamiaaWalkRow
namespace Go.Proofs.Ytclkpbokngamiaa.Dt
open Go.RowKit Go.Proofs.Ytclkpbokngamiaa.By

set_option maxRecDepth 100000 in
set_option maxHeartbeats 4000000 in
theorem foldCol (b : Nat) (rv : Value) (rows : List Rw) (cols n : Int) (w : World) (hp : w.cell? ⟨b, 0, none⟩ = some rv) (hr : RowsAt w rv rows) (hl : ∀ r ∈ rows, (r.l.length : Int) = cols) (h0 : 0 ≤ n) (h1 : n < cols) :
    Calls Try.prog 24 #[.int .i64 n, .pointer (some ⟨b, 0, none⟩)] w fun e w' => e = .returned (firstCol (rows.map Rw.l) n).val ∧ Below w.heap.size w w' := by
  rcases rows with _ | ⟨r, rs⟩
  · obtain ⟨a, c, rfl⟩ := hr.at_.shape
    have hz := cell_lt hp
    simp only [List.length_nil] at hp
    clear hr hl
    go_enter Try.func24, Try.ntmps24
    go_wp2_with fail
    refine bodyPost_ret (v := nullV.val) (by simp [results, Try.results24, go_sem, nullV]; rfl) rfl ⟨rfl, ?_⟩
    go_grown
  · obtain ⟨a, c, rfl⟩ := hr.at_.shape
    have hz := cell_lt hp
    obtain ⟨b1, o1, rfl, hbz1, dr⟩ := atR hr.at_ (k := 0) (y := r) rfl
    have hrow := hr.rows r List.mem_cons_self
    have hlr := hl r List.mem_cons_self
    obtain ⟨k, rfl, hk⟩ := row_get (row := r.l) h0 (by rw [hlr]; exact h1)
    obtain ⟨X, hX⟩ : ∃ X, X = r.l.getD ((k : Int)).toNat nullV := ⟨_, rfl⟩
    have hF : firstCol ((r :: rs).map Rw.l) (k : Int) = X := by rw [hX]; rfl
    rw [hF]
    rw [← hX] at hk
    obtain ⟨a2, c2, e2⟩ := hrow.shape
    rw [e2] at hrow dr
    obtain ⟨b2, o2, rfl, hbz, d0, d1, d2⟩ := at3 hrow hk
    have hkl : (k : Int) < (r.l.length : Int) := by rw [hlr]; exact h1
    have hlen : ((r :: rs).length : Int) = ((rs.length : Nat) : Int) + 1 := by simp
    have hne : (((r :: rs).length : Int) == 0) = false := by simp; omega
    have hpos : (0 : Int) < ((r :: rs).length : Int) := by simp
    generalize (r :: rs).length = L at *
    rw [Nat.add_zero] at dr
    clear hrow hr hX hF hk e2 hl hlen hlr h1
    go_enter Try.func24, Try.ntmps24
    go_wp2_with fail
    refine bodyPost_ret (v := X.val) (by simp [results, Try.results24, go_sem]) rfl ⟨rfl, ?_⟩
    go_grown

set_option maxRecDepth 100000 in
set_option maxHeartbeats 4000000 in
theorem foldTold (x : Ex) (b : Nat) (rv : Value) (rows : List Rw) (cols : Int) (w : World) (hp : w.cell? ⟨b, 0, none⟩ = some rv) (hin : x.In w) (hok : x.Ok) (hg : groupB x.op = true) (hm : mayB cols true x = true) (hrows : RowsAt w rv rows)
    (hrok : ∀ r ∈ rows, (r.l.length : Int) = cols ∧ ∀ v ∈ r.l, v.ok) (hrl : rows.length ≤ 140737488351232) :
    Calls Try.prog 25 #[x.val, .pointer (some ⟨b, 0, none⟩)] w fun e w' => e = .returned (resV (toldS x (rows.map Rw.l))) ∧ Below w.heap.size w w' := by
  obtain ⟨ax, cx, ekx⟩ := Ex.kv_of hin
  have hcall := fun W (hb : Below w.heap.size w W) => told x rv rows cols W (Ex.in_below (w := w) hb x hin) hok hg hm (hrows.below hb) hrok hrl
  obtain ⟨ar, cr, rfl⟩ := hrows.at_.shape
  have hbA : Below w.heap.size w ((w.alloc (.cells #[.int .u8 (x.op : Int), .int .u8 (x.v.k : Int), .int .i64 x.v.n, .string x.v.s, .string x.t, .string x.m, .int .i64 x.n, .slice ax x.kids.length cx] 27)).alloc (.cells #[.int .u8 0, .int .i64 0, .string ⟨#[]⟩] 23)) := by go_grown
  have hrb := resBox_new (w.alloc (.cells #[.int .u8 (x.op : Int), .int .u8 (x.v.k : Int), .int .i64 x.v.n, .string x.v.s, .string x.t, .string x.m, .int .i64 x.n, .slice ax x.kids.length cx] 27)) 23
  rw [show (w.alloc (.cells #[.int .u8 (x.op : Int), .int .u8 (x.v.k : Int), .int .i64 x.v.n, .string x.v.s, .string x.t, .string x.m, .int .i64 x.n, .slice ax x.kids.length cx] 27)).heap.size = w.heap.size + 1 by simp] at hrb
  have hz := cell_lt hp
  have hp' : ((w.alloc (.cells #[.int .u8 (x.op : Int), .int .u8 (x.v.k : Int), .int .i64 x.v.n, .string x.v.s, .string x.t, .string x.m, .int .i64 x.n, .slice ax x.kids.length cx] 27)).alloc (.cells #[.int .u8 0, .int .i64 0, .string ⟨#[]⟩] 23)).cell? ⟨b, 0, none⟩ = some (.slice ar rows.length cr) := (hbA.cell (p := ⟨b, 0, none⟩) hz).trans hp
  obtain ⟨T, hT⟩ : ∃ T, T = toldS x (rows.map Rw.l) := ⟨_, rfl⟩
  rw [← hT] at hcall ⊢
  simp only [Ex.val] at hcall ⊢
  rw [ekx] at hcall ⊢
  have HC := Lib.hid hcall
  have HRB := Lib.hid hrb
  have HBA := Lib.hid hbA
  clear hcall hrb hbA hT hin hok hm hrows hrok
  go_enter Try.func25, Try.ntmps25
  go_wp2_with fail
  refine (HC.out _ HBA.out).mono ?_
  rintro e w2 ⟨rfl, hb2⟩
  obtain ⟨c0, c1, c2, f0, f1, f2⟩ := HRB.out.later hb2
  have hb3 := next HBA.out hb2
  have hz3 := cell_lt c0
  clear hb2 hp hp'
  go_wp2_with fail
  obtain ⟨q0, q1, q2⟩ := filled3 w2 (w.heap.size + 1) _ _ _ (.int .u8 (T.1.k : Int)) (.int .i64 T.1.n) (.string T.1.s) c0 c1 c2
  refine bodyPost_ret (v := resV T) (by simp [results, Try.results25, go_sem, q0, q1, q2]) rfl ⟨rfl, ?_⟩
  go_grown

theorem rowsAll_next {rows : List Rw} {k : Nat} {r : Rw} {cols : Int} (hy : rows[k]? = some r) (B ok : Bool) (h : ok = (B && (rows.take k).all fun r => decide ((r.l.length : Int) = cols))) :
    (ok && ((r.l.length : Int) == cols)) = (B && (rows.take (k + 1)).all fun r => decide ((r.l.length : Int) = cols)) := by
  obtain ⟨hk, rfl⟩ := List.getElem?_eq_some_iff.1 hy
  have e : ((rows[k].l.length : Int) == cols) = decide ((rows[k].l.length : Int) = cols) := by rw [Bool.eq_iff_iff]; simp
  rw [List.take_succ_eq_append_getElem hk, List.all_append, h, e]
  simp [Bool.and_assoc]

set_option maxRecDepth 100000 in
set_option maxHeartbeats 8000000 in
theorem fold (x : Ex) (rv : Value) (rows : List Rw) (cols : Int) (w : World) (hin : x.In w) (hok : x.Ok) (hrows : RowsAt w rv rows) (hvok : ∀ r ∈ rows, ∀ v ∈ r.l, v.ok) (hrl : rows.length ≤ 140737488351232) (hc0 : 0 ≤ cols) (hc1 : cols ≤ 9223372036854775807) :
    Calls Try.prog 14 #[x.val, rv, .int .i64 cols] w fun e w' => e = .returned (resV (foldS (rows.map Rw.l) cols x)) ∧ Below w.heap.size w w' := by
  unfold foldS
  obtain ⟨ax, cx, ekx⟩ := Ex.kv_of hin
  have hmay := fun W (hb : Below w.heap.size w W) => may x cols true W hc0 hc1 (Ex.in_below (w := w) hb x hin) hok
  have hR : ∀ W, Below w.heap.size w W → RowsAt W rv rows := fun W hb => hrows.below hb
  obtain ⟨ar, cr, rfl⟩ := hrows.at_.shape
  have hbA : Below w.heap.size w (((w.alloc (.cells #[.int .u8 (x.op : Int), .int .u8 (x.v.k : Int), .int .i64 x.v.n, .string x.v.s, .string x.t, .string x.m, .int .i64 x.n, .slice ax x.kids.length cx] 27)).alloc (.cells #[.slice ar rows.length cr] 37)).alloc (.cells #[.int .u8 0, .int .i64 0, .string ⟨#[]⟩] 23)) := by go_grown
  have hx8 := box_cells w (((w.alloc (.cells #[.int .u8 (x.op : Int), .int .u8 (x.v.k : Int), .int .i64 x.v.n, .string x.v.s, .string x.t, .string x.m, .int .i64 x.n, .slice ax x.kids.length cx] 27)).alloc (.cells #[.slice ar rows.length cr] 37)).alloc (.cells #[.int .u8 0, .int .i64 0, .string ⟨#[]⟩] 23)) x 27 (by simp only [exBox, ekx]; go_grown)
  have hrc : (((w.alloc (.cells #[.int .u8 (x.op : Int), .int .u8 (x.v.k : Int), .int .i64 x.v.n, .string x.v.s, .string x.t, .string x.m, .int .i64 x.n, .slice ax x.kids.length cx] 27)).alloc (.cells #[.slice ar rows.length cr] 37)).alloc (.cells #[.int .u8 0, .int .i64 0, .string ⟨#[]⟩] 23)).cell? ⟨w.heap.size + 1, 0, none⟩ = some (.slice ar rows.length cr) := by go_simp
  have hrb := resBox_new ((w.alloc (.cells #[.int .u8 (x.op : Int), .int .u8 (x.v.k : Int), .int .i64 x.v.n, .string x.v.s, .string x.t, .string x.m, .int .i64 x.n, .slice ax x.kids.length cx] 27)).alloc (.cells #[.slice ar rows.length cr] 37)) 23
  rw [show ((w.alloc (.cells #[.int .u8 (x.op : Int), .int .u8 (x.v.k : Int), .int .i64 x.v.n, .string x.v.s, .string x.t, .string x.m, .int .i64 x.n, .slice ax x.kids.length cx] 27)).alloc (.cells #[.slice ar rows.length cr] 37)).heap.size = w.heap.size + 2 by simp] at hrb
  have hall : ∀ (l : List Rw), (l.map Rw.l).all (fun r => decide ((r.length : Int) = cols)) = l.all fun r => decide ((r.l.length : Int) = cols) := fun l => by rw [List.all_map]; rfl
  rw [hall]
  have hwalk : mayB cols true x = true → (∀ r ∈ rows, (r.l.length : Int) = cols) → ∀ W, Below (((w.alloc (.cells #[.int .u8 (x.op : Int), .int .u8 (x.v.k : Int), .int .i64 x.v.n, .string x.v.s, .string x.t, .string x.m, .int .i64 x.n, .slice ax x.kids.length cx] 27)).alloc (.cells #[.slice ar rows.length cr] 37)).alloc (.cells #[.int .u8 0, .int .i64 0, .string ⟨#[]⟩] 23)).heap.size (((w.alloc (.cells #[.int .u8 (x.op : Int), .int .u8 (x.v.k : Int), .int .i64 x.v.n, .string x.v.s, .string x.t, .string x.m, .int .i64 x.n, .slice ax x.kids.length cx] 27)).alloc (.cells #[.slice ar rows.length cr] 37)).alloc (.cells #[.int .u8 0, .int .i64 0, .string ⟨#[]⟩] 23)) W →
      Calls Try.prog 21 #[x.val, .func (.func 24) #[] #[.pointer (some ⟨w.heap.size + 1, 0, none⟩)], .func (.func 25) #[] #[.pointer (some ⟨w.heap.size + 1, 0, none⟩)]] W fun e w' => e = .returned (resV (walkS (firstCol (rows.map Rw.l)) (fun y => toldS y (rows.map Rw.l)) x)) ∧ Below W.heap.size W w' := by
    intro hm hl W hb
    refine walk (cols := cols) (g := true) (w0 := (((w.alloc (.cells #[.int .u8 (x.op : Int), .int .u8 (x.v.k : Int), .int .i64 x.v.n, .string x.v.s, .string x.t, .string x.m, .int .i64 x.n, .slice ax x.kids.length cx] 27)).alloc (.cells #[.slice ar rows.length cr] 37)).alloc (.cells #[.int .u8 0, .int .i64 0, .string ⟨#[]⟩] 23))) (f := 24) (p := ⟨w.heap.size + 1, 0, none⟩) ⟨?_, ?_, ?_, ?_, ?_⟩ x W hb (Ex.in_below (w := w) (next hbA hb) x hin) hok hm
    · intro args W; go_simp
    · intro n W h0 h1 hb
      exact foldCol _ _ rows cols n W ((hb.cell (by simp)).trans hrc) (hR W (next hbA hb)) hl h0 h1
    · intro n h0 h1
      unfold firstCol
      rcases rows with _ | ⟨r, rs⟩
      · exact nullV_ok
      · exact getD_ok (hvok r List.mem_cons_self) _
    · intro _
      refine ⟨25, ⟨w.heap.size + 1, 0, none⟩, rfl, fun args w => by go_simp, ?_⟩
      intro y W hyin hyok hyg hym hb
      exact foldTold y _ _ rows cols W ((hb.cell (by simp)).trans hrc) hyin hyok hyg hym (hR W (next hbA hb)) (fun r hr => ⟨hl r hr, hvok r hr⟩) hrl
    · intro _ y hyok hyg hym
      obtain ⟨_, _, hkids⟩ := may_parts hym
      refine toldS_ok (cols := cols) hyok (fun z hz => ?_) _ (fun r hr => ?_) (by simpa using hrl)
      · have := hkids z hz
        rwa [hyg, Bool.not_true, Bool.and_false] at this
      · obtain ⟨q, hq, rfl⟩ := List.mem_map.1 hr
        exact ⟨hl q hq, hvok q hq⟩
  simp only [Ex.val] at hmay hwalk ⊢
  rw [ekx] at hx8 hmay hwalk ⊢
  have HM := Lib.hid hmay
  have HBA := Lib.hid hbA
  have HRB := Lib.hid hrb
  have HR := Lib.hid hR
  have HC01 := Lib.hid (And.intro hc0 hc1)
  clear hmay hbA hrb hrows hin hok hR hall hvok hc0 hc1
  obtain ⟨M, hM⟩ : ∃ M, M = mayB cols true x := ⟨_, rfl⟩
  rw [← hM] at hwalk ⊢
  simp only [← hM] at HM
  obtain ⟨R, hRR⟩ : ∃ R, R = walkS (firstCol (rows.map Rw.l)) (fun y => toldS y (rows.map Rw.l)) x := ⟨_, rfl⟩
  rw [← hRR] at hwalk ⊢
  obtain ⟨S, hS⟩ : ∃ S, S = if (M && rows.all fun r => decide ((r.l.length : Int) = cols)) = true then R else (nullV, 2) := ⟨_, rfl⟩
  rw [← hS]
  have HS := Lib.hid hS
  have HWK := Lib.hid hwalk
  clear hwalk hM hRR hS
  go_enter Try.func14, Try.ntmps14
  go_wp2_with fail
  generalize hW0 : (((w.alloc (.cells #[.int .u8 (x.op : Int), .int .u8 (x.v.k : Int), .int .i64 x.v.n, .string x.v.s, .string x.t, .string x.m, .int .i64 x.n, .slice ax x.kids.length cx] 27)).alloc (.cells #[.slice ar rows.length cr] 37)).alloc (.cells #[.int .u8 0, .int .i64 0, .string ⟨#[]⟩] 23)) = W0 at *
  refine (HM.out _ HBA.out).mono ?_
  rintro e w1 ⟨rfl, hb1⟩
  obtain ⟨x0, x1, x2, x3, x4, x5, x6, x7⟩ := hx8
  have y0 := (hb1.cell (cell_lt x0)).trans x0
  have y1 := (hb1.cell (cell_lt x1)).trans x1
  have y2 := (hb1.cell (cell_lt x2)).trans x2
  have y3 := (hb1.cell (cell_lt x3)).trans x3
  have y4 := (hb1.cell (cell_lt x4)).trans x4
  have y5 := (hb1.cell (cell_lt x5)).trans x5
  have y6 := (hb1.cell (cell_lt x6)).trans x6
  have y7 := (hb1.cell (cell_lt x7)).trans x7
  have hrc1 := (hb1.cell (cell_lt hrc)).trans hrc
  clear x0 x1 x2 x3 x4 x5 x6 x7 hW0 hrc
  have hrb1 := HRB.out.later hb1
  have hbel1 := next HBA.out hb1
  have HB1 := Lib.hid hb1; clear hb1
  have HRB1 := Lib.hid hrb1
  have HBEL := Lib.hid hbel1
  clear hrb1 hbel1
  go_wp2_with fail
  go_loopg [8, 16] rows.length (fun gk ov i wr => w1 = wr ∧ ∃ (k : Nat) (ok : Bool), i = .int .i64 (k : Int) ∧ ov = .bool ok ∧ gk = rows.length - k ∧ k ≤ rows.length ∧ Hid (ok = (M && (rows.take k).all fun r => decide ((r.l.length : Int) = cols))))
  case atStart => exact ⟨rfl, 0, M, rfl, rfl, rfl, Nat.zero_le _, by simp [Hid]⟩
  case round =>
    obtain ⟨rfl, k, ok, rfl, rfl, rfl, hkl, hokk⟩ := hrel
    by_cases hlt : k < rows.length
    · obtain ⟨r, hy⟩ : ∃ r, rows[k]? = some r := ⟨rows[k], by simp⟩
      have hrm : r ∈ rows := List.mem_of_getElem? hy
      have hra := HR.out w1 HBEL.out
      obtain ⟨b, o, rfl, hbz, dr⟩ := atR hra.at_ hy
      have hrat := hra.rows r hrm
      obtain ⟨a3, c3, e3⟩ := hrat.shape
      rw [e3] at dr
      have HN := Lib.hid (rowsAll_next hy M ok hokk.out)
      have ilt : (k : Int) < (rows.length : Int) := by omega
      clear hrat e3 hra hy hrm
      cases ok
      · go_wp2_with fail
        go_roundg (rows.length - (k + 1))
        case measure => omega
        case rel => exact ⟨rfl, k + 1, false, by go_num, rfl, rfl, by omega, HN⟩
      · go_wp2_with fail
        go_roundg (rows.length - (k + 1))
        case measure => omega
        case rel => exact ⟨rfl, k + 1, _, by go_num, rfl, rfl, by omega, by simpa using HN⟩
    · obtain rfl : k = rows.length := by omega
      have hfin : ok = (M && rows.all fun r => decide ((r.l.length : Int) = cols)) := by have := hokk.out; rwa [List.take_length] at this
      have HS' : S = if ok = true then R else (nullV, 2) := by rw [hfin]; exact HS.out
      have HFIN := Lib.hid hfin
      clear hfin hokk hlt hkl
      cases ok
      · have HSS : S = (nullV, 2) := by simpa using HS'
        subst HSS
        obtain ⟨c0, c1, c2, f0, f1, f2⟩ := HRB1.out
        have hb3 := HBEL.out
        clear HS'
        go_wp2_with fail
        obtain ⟨q0, q1, q2⟩ := filled3 w1 (w.heap.size + 2) _ _ _ (.int .u8 0) (.int .i64 0) (.string ⟨#[]⟩) c0 c1 c2
        refine bodyPost_ret (v := .tuple #[.agg #[.int .u8 0, .int .i64 0, .string ⟨#[]⟩], .int .i64 2]) (by simp [results, Try.results14, go_sem, q0, q1, q2]) rfl ⟨rfl, ?_⟩
        go_grown
      · have HSS : S = R := by simpa using HS'
        subst HSS
        have hpre : M = true ∧ ∀ r ∈ rows, (r.l.length : Int) = cols := by
          have := HFIN.out.symm
          rw [Bool.and_eq_true, List.all_eq_true] at this
          exact ⟨this.1, fun r hr => of_decide_eq_true (this.2 r hr)⟩
        have HPRE := Lib.hid hpre
        clear hpre HS'
        go_wp2_with fail
        refine (HWK.out HPRE.out.1 HPRE.out.2 _ HB1.out).mono ?_
        rintro e w2 ⟨rfl, hb2⟩
        obtain ⟨c0, c1, c2, f0, f1, f2⟩ := HRB1.out.later hb2
        have hb3 := next HBEL.out hb2
        have hz3 := cell_lt c0
        clear hb2
        go_wp2_with fail
        obtain ⟨q0, q1, q2⟩ := filled3 w2 (w.heap.size + 2) _ _ _ (.int .u8 (S.1.k : Int)) (.int .i64 S.1.n) (.string S.1.s) c0 c1 c2
        refine bodyPost_ret (v := resV S) (by simp [results, Try.results14, go_sem, q0, q1, q2]) rfl ⟨rfl, ?_⟩
        go_grown
end Go.Proofs.Ytclkpbokngamiaa.Dt
