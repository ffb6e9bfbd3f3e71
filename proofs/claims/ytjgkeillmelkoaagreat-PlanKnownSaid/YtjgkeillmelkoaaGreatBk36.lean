import Derived.Laws.CopyRow
import Derived.Test.YtjgkeillmelkoaaGreatBk09
import Derived.Test.YtjgkeillmelkoaaGreatBk18
import Derived.Test.YtjgkeillmelkoaaGreatBk35
namespace Go.Proofs.YtjgkeillmelkoaaGreat.Dt
open Go.RowKit Go.Proofs.YtjgkeillmelkoaaGreat.By

def delB (x : PE) : Bool := !simpleB x
attribute [local go_sem ↓] veilSt_ex veilLd_ex
attribute [local go_sem] run_exSt run_exNew run_exLd okRow8 Value.oneCell'
set_option maxRecDepth 100000 in
set_option maxHeartbeats 16000000 in
theorem indexFuncW (l : List PE) (va : Option Addr) (vc : Nat) (w : World) (h : ExsR w (.slice va l.length vc) l) (hl : l.length ≤ 1000000) :
    Calls Tryz.prog 43 #[.slice va l.length vc, .func (.func 25) #[] #[]] w fun e w' => e = .returned (.int .i64 (idxL delB l 0)) ∧ Below w.heap.size w w' := by
  have H0 := Lib.hid h
  have HL := Lib.hid hl
  obtain ⟨R, hR⟩ : ∃ R, R = idxL delB l 0 := ⟨_, rfl⟩
  rw [← hR]
  clear h hl
  go_enter Tryz.func43, Tryz.ntmps43
  go_wp2_with fail
  go_loopg [8] l.length (fun gk iv wr => ∃ (i : Nat), iv = .int .i64 (i : Int) ∧ gk = l.length - i ∧ i ≤ l.length ∧ Hid (R = idxL delB (l.drop i) i) ∧ Hid (Below w.heap.size w wr))
  case atStart => exact ⟨0, rfl, rfl, Nat.zero_le _, Lib.hid (by rw [hR, List.drop_zero]), Lib.hid (Below.refl _ _)⟩
  case round =>
    obtain ⟨i, rfl, rfl, hi, HR, HBL⟩ := hrel
    clear hR
    by_cases hlt : i < l.length
    · obtain ⟨x, hx⟩ : ∃ z, l[i]? = some z := ⟨l[i], by simp⟩
      obtain ⟨b1, o1, na, nc, rfl, hk, hld⟩ := kid_ld H0.out hx HBL.out
      have hc := simple1W x (.slice na x.kids.length nc) wr (exsR_below hk HBL.out)
      unfold PE.val at hc
      have HC := Lib.hid hc
      have HYES := Lib.hid (fun hp : delB x = true => HR.out.trans (idx_yes hx hp))
      have HNO := Lib.hid (fun hp : delB x = false => HR.out.trans (idx_no hx hp))
      have ilt : (i : Int) < (l.length : Int) := by omega
      have ige : (0 : Int) ≤ (i : Int) := by omega
      have HLT := Lib.hid hlt
      have HDX : Hid ((!simpleB x) = delB x) := Lib.hid rfl
      clear hx hk hc hlt hi HR
      go_wp2_with fail
      refine HC.out.mono ?_
      rintro e2 w2 ⟨rfl, hb2⟩
      have HB2 := Lib.hid (next HBL.out hb2)
      clear hb2 hld HC
      rw [HDX.out]
      cases hd : delB x with
      | true =>
        have HE := Lib.hid (HYES.out hd)
        go_wp2_with fail
        go_ret
        exact ⟨by rw [HE.out]; rfl, HB2.out⟩
      | false =>
        have HE := Lib.hid (HNO.out hd)
        go_wp2_with fail
        go_roundg (l.length - (i + 1))
        case measure => exact Nat.sub_lt_sub_left HLT.out (Nat.lt_succ_self _)
        case rel => exact ⟨i + 1, congrArg (Value.int .i64) (by have h1 := HL.out; have h2 := HLT.out; unfold wrap64; omega), rfl, HLT.out, HE, HB2⟩
    · obtain rfl : i = l.length := by omega
      have HE : Hid (R = -1) := Lib.hid (by have h := HR.out; rw [List.drop_length] at h; exact h)
      clear hlt hi
      go_wp2_with fail
      go_ret
      exact ⟨by rw [HE.out]; rfl, HBL.out⟩
def zc (Z : List (List Value × PE)) : List Value := (Z.map (·.1)).flatten
def ZOk (w0 : World) (Z : List (List Value × PE)) : Prop := ∀ z ∈ Z, z.1.length = 8 ∧ ExR w0 z.1 z.2
theorem zc_app (A B : List (List Value × PE)) : zc (A ++ B) = zc A ++ zc B := by unfold zc; rw [List.map_append, List.flatten_append]
theorem zc_cons (z : List Value × PE) (B : List (List Value × PE)) : zc (z :: B) = z.1 ++ zc B := rfl
theorem zc_len {w0 : World} : ∀ {Z : List (List Value × PE)}, ZOk w0 Z → (zc Z).length = Z.length * 8
  | [], _ => rfl
  | z :: Z, h => by
    rw [zc_cons, List.length_append, (h z (by simp)).1, zc_len (fun y hy => h y (by simp [hy])), List.length_cons]
    omega
theorem ZOk.sub {w0 : World} {Z A : List (List Value × PE)} (h : ZOk w0 Z) (hs : ∀ z ∈ A, z ∈ Z) : ZOk w0 A := fun z hz => h z (hs z hz)
def kB (z : List Value × PE) : Bool := simpleB z.2
def keepZ (Z : List (List Value × PE)) (j : Nat) : List (List Value × PE) := (Z.take j).filter kB
theorem keep_sub {Z : List (List Value × PE)} {j : Nat} : ∀ z ∈ keepZ Z j, z ∈ Z := fun _ hz => List.mem_of_mem_take (List.mem_filter.1 hz).1
theorem keep_yes {Z : List (List Value × PE)} {j : Nat} {z : List Value × PE} (h : Z[j]? = some z) (hs : simpleB z.2 = true) : keepZ Z (j + 1) = keepZ Z j ++ [z] := by
  unfold keepZ
  rw [List.take_add_one, h, Option.toList_some, List.filter_append, List.filter_cons_of_pos (p := kB) hs, List.filter_nil]
theorem keep_no {Z : List (List Value × PE)} {j : Nat} {z : List Value × PE} (h : Z[j]? = some z) (hs : simpleB z.2 = false) : keepZ Z (j + 1) = keepZ Z j := by
  unfold keepZ
  rw [List.take_add_one, h, Option.toList_some, List.filter_append, List.filter_cons_of_neg (p := kB) (by unfold kB; rw [hs]; decide), List.filter_nil, List.append_nil]
/-- The first that goes. -/
theorem idx_none : ∀ (Z : List (List Value × PE)) (i : Nat), idxL delB (Z.map (·.2)) i = -1 → Z.filter kB = Z
  | [], _, _ => rfl
  | z :: Z, i, h => by
    rw [List.map_cons, idxL] at h
    split at h
    · omega
    · rename_i hd
      have hs : simpleB z.2 = true := by
        unfold delB at hd
        cases hz : simpleB z.2 with
        | true => rfl
        | false => rw [hz] at hd; exact absurd rfl hd
      rw [List.filter_cons_of_pos (p := kB) hs, idx_none Z (i + 1) h]
theorem idx_some : ∀ (Z : List (List Value × PE)) (a : Nat) (k : Int), idxL delB (Z.map (·.2)) a = k → k ≠ -1 → ∃ i : Nat, k = ((a + i : Nat) : Int) ∧ i < Z.length ∧ keepZ Z (i + 1) = Z.take i
  | [], a, k, h, hk => absurd h.symm hk
  | z :: Z, a, k, h, hk => by
    rw [List.map_cons, idxL] at h
    split at h
    · rename_i hd
      refine ⟨0, by rw [← h]; rfl, by simp, ?_⟩
      have hs : simpleB z.2 = false := by unfold delB at hd; simpa using hd
      have := keep_no (Z := z :: Z) (j := 0) (z := z) rfl hs
      rw [this]; rfl
    · rename_i hd
      have hs : simpleB z.2 = true := by
        unfold delB at hd
        cases hz : simpleB z.2 with
        | true => rfl
        | false => rw [hz] at hd; exact absurd rfl hd
      obtain ⟨i, h1, h2, h3⟩ := idx_some Z (a + 1) k h hk
      refine ⟨i + 1, by rw [h1]; congr 1; omega, by simpa using h2, ?_⟩
      show ((z :: Z.take (i + 1)).filter kB) = z :: Z.take i
      rw [List.filter_cons_of_pos (p := kB) hs]
      exact congrArg _ h3
theorem cur_keep (A mid B c : List Value) (i : Nat) (hA : A.length = i * 8) (hm : 8 ≤ mid.length) : (A ++ mid ++ B).take (i * 8) ++ c ++ (A ++ mid ++ B).drop (i * 8 + 8) = A ++ c ++ (mid.drop 8 ++ B) := by
  rw [List.append_assoc A mid B, List.take_left' hA, List.drop_append, List.drop_of_length_le (by omega), hA, List.nil_append, show i * 8 + 8 - i * 8 = 8 by omega, List.drop_append_of_le_length hm]
theorem cur_clear (A mid B z : List Value) (i m : Nat) (hA : A.length = i * 8) (hm : mid.length = m * 8) : (A ++ mid ++ B).take (i * 8) ++ z ++ (A ++ mid ++ B).drop (i * 8 + m * 8) = A ++ z ++ B := by
  rw [List.append_assoc A mid B, List.take_left' hA, List.drop_append, List.drop_of_length_le (by omega), hA, List.nil_append, show i * 8 + m * 8 - i * 8 = mid.length by omega, List.drop_left]
theorem cur_at (A c B : List Value) (k : Nat) (hA : A.length = k) : ∀ (j : Nat) (u : Value), c[j]? = some u → (A ++ (c ++ B))[k + j]? = some u := fun j u hj => by
  have hl := (List.getElem?_eq_some_iff.1 hj).1
  rw [List.getElem?_append_right (by omega), show k + j - A.length = j by omega, List.getElem?_append_left hl, hj]
theorem PRow.zip {w0 w : World} {lo : Nat} {v : Value} {E : List PE} (h : PRow w0 lo w v E) : ∃ Z : List (List Value × PE), Z.map (·.2) = E ∧ w.ownsRow lo 44 8 v E.length (zc Z) ∧ ZOk w0 Z := by
  obtain ⟨cs, h1, h2, h3⟩ := h
  refine ⟨cs.zip E, List.map_snd_zip (by omega), by unfold zc; rw [List.map_fst_zip (by omega)]; exact h1, fun z hz => ?_⟩
  obtain ⟨i, hi⟩ := List.getElem?_of_mem hz
  obtain ⟨ha, hb⟩ := List.getElem?_zip_eq_some.1 hi
  exact h3 i z.1 z.2 ha hb
theorem prow_of {w0 w : World} {lo : Nat} {v : Value} {Z : List (List Value × PE)} (h : w.ownsRow lo 44 8 v Z.length (zc Z)) (hz : ZOk w0 Z) : PRow w0 lo w v (Z.map (·.2)) := by
  refine ⟨Z.map (·.1), by rw [List.length_map]; exact h, by simp, fun i c x hc hx => ?_⟩
  rw [List.getElem?_map] at hc hx
  cases hi : Z[i]? with
  | none => rw [hi] at hc; cases hc
  | some z =>
    rw [hi] at hc hx
    cases hc; cases hx
    exact hz z (List.mem_of_getElem? hi)
theorem run_exStAt (W : World) (g o : Nat) (cur c : Array Value) (hr : Row g 44 cur W) (h8 : c.size = 8) (h1 : c.all (·.oneCell') = true) (hfit : o + 8 ≤ cur.size) :
    (veilSt 44 ⟨g, o, none⟩ (.agg c)).run Tryz.prog W = .ok () (W.setRow g (cur.toList.take o ++ c.toList ++ cur.toList.drop (o + 8)).toArray) := by
  have hl : c.toList.length = 8 := by simpa using h8
  have h := run_storeCells_at Tryz.prog g o _ c.toList 0 cur W hr (by omega) (fun v hv => (Array.all_eq_true_iff_forall_mem.1 h1) v (by simpa using hv))
  rw [hl] at h
  have hi := ex_size
  cases hq : Tryz.prog.info? 44 with
  | none => rw [hq] at hi; cases hi
  | some i =>
    have hs : i.size = 8 := by simpa [hq] using hi
    unfold veilSt
    simp only [Nat.add_zero] at h
    simp [storeVar, sizeOf, typeInfo, hq, Value.cells, h8, hs, h]
theorem run_exClear (W : World) (g o m c : Nat) (ty : TypeId) (cur : Array Value) (hr : Row g 44 cur W) (hm : 0 < m) (hfit : o + m * 8 ≤ cur.size) :
    ∃ zs : List Value, zs.length = m * 8 ∧ (Builtin.clear_ #[32] ty #[.slice (some ⟨g, o, none⟩) m c]).run Tryz.prog W = .ok (.tuple #[]) (W.setRow g (cur.toList.take o ++ zs ++ cur.toList.drop (o + m * 8)).toArray) := by
  have hzl : (Builtin.zeroCells exZ m).toList.length = m * 8 := by simp [Builtin.zeroCells, exZ]
  refine ⟨(Builtin.zeroCells exZ m).toList, hzl, ?_⟩
  have h := run_storeCells_at Tryz.prog g o _ (Builtin.zeroCells exZ m).toList 0 cur W hr (by omega) (fun v hv => by
    have hv' : v ∈ Builtin.zeroCells exZ m := by simpa using hv
    unfold Builtin.zeroCells at hv'
    obtain ⟨i, _, rfl⟩ := Array.mem_map.1 hv'
    have hlt : i % 8 < 8 := Nat.mod_lt _ (by decide)
    show (exZ[i % 8]!).oneCell' = true
    generalize i % 8 = k at hlt
    match k, hlt with
    | 0, _ => rfl
    | 1, _ => rfl
    | 2, _ => rfl
    | 3, _ => rfl
    | 4, _ => rfl
    | 5, _ => rfl
    | 6, _ => rfl
    | 7, _ => rfl)
  rw [hzl] at h
  simp only [Nat.add_zero] at h
  obtain ⟨k, rfl⟩ : ∃ k, m = k + 1 := ⟨m - 1, by omega⟩
  have hz := exZero W
  simp [Builtin.clear_, run_underlying exsl_under, hz, Value.cells, Sem.run_bind, h]
theorem pl_list_clear {P : Program} {ops : Array Oper} {rest : List Oper} {o : Oper} {a : Act} {w : World} {Q : Exit → Act → World → Prop} (hgd : o.guard = none) (s : Operand) (t : TypeId)
    (ho : o.op = .call { callee := .builtin .clear, args := #[s], argTypes := #[t] }) {v : Value} (hs : a.eval s = v) {v' : Value} {w' : World} (hr : (Builtin.clear_ #[t] o.type #[v]).run P w = .ok v' w')
    (h : wpList P ops Q rest (a.put o.dst v') w') : wpList P ops Q (o :: rest) a w := by
  refine wpList_plain hgd fun K hK => ?_
  unfold Oper.wp execOp
  simp only [ho, resolve, invoke, builtin, Sem.run_bind, Sem.run_pure, Result.andThen_ok, List.map_toArray, List.map_cons, List.map_nil, hs, hr]
  exact hK _ _ h
/-- Of a row of the call's own. -/
theorem own_row {w : World} {lo : Nat} {v : Value} {n : Nat} {xs : List Value} (h : w.ownsRow lo 44 8 v n xs) (hn : 0 < n) :
    ∃ g cap cur, v = .slice (some ⟨g, 0, none⟩) n cap ∧ lo ≤ g ∧ Row g 44 cur w ∧ n ≤ cap ∧ cap ≤ maxLen ∧ cur.size = cap * 8 ∧ ∃ rest, cur.toList = xs ++ rest := by
  rcases h.2 with ⟨_, h0⟩ | ⟨g, cap, cur, rfl, h1, h2, h3, h4, h5, h6⟩
  · omega
  · exact ⟨g, cap, cur, rfl, h1, h2, h3, h4, h5, cur.toList.drop (n * 8), by rw [← h6, List.take_append_drop]⟩
/-- What lies there while DeleteFunc goes through a row. -/
structure DF (w0 w : World) (lo g cap : Nat) (Z : List (List Value × PE)) (i j : Nat) (W : World) : Prop where
  ij : i < j
  jn : j ≤ Z.length
  il : i = (keepZ Z j).length
  hb : Below lo w W
  row : ∃ (cur : Array Value) (mid rest : List Value), Row g 44 cur W ∧ cur.size = cap * 8 ∧ mid.length = (j - i) * 8 ∧ cur.toList = zc (keepZ Z j) ++ mid ++ (zc (Z.drop j) ++ rest)
section
variable {w0 w W W' : World} {lo g cap i j : Nat} {Z : List (List Value × PE)}
theorem DF.later (h : DF w0 w lo g cap Z i j W) (hb : Below W.heap.size W W') (hl : lo ≤ W.heap.size) : DF w0 w lo g cap Z i j W' := by
  obtain ⟨cur, mid, rest, h1, h2, h3, h4⟩ := h.row
  exact ⟨h.ij, h.jn, h.il, h.hb.trans (hb.mono hl), cur, mid, rest, h1.later hb, h2, h3, h4⟩
theorem drop_at {α : Type} {l : List α} {k : Nat} {x : α} (h : l[k]? = some x) : l.drop k = x :: l.drop (k + 1) := dropC h
/-- The element that comes. -/
theorem DF.cells (h : DF w0 w lo g cap Z i j W) (hz : ZOk w0 Z) {z : List Value × PE} (hj : Z[j]? = some z) : ∀ (k : Nat) (u : Value), z.1[k]? = some u → W.cell? ⟨g, j * 8 + k, none⟩ = some u := fun k u hu => by
  obtain ⟨cur, mid, rest, h1, h2, h3, h4⟩ := h.row
  refine h1.cell ?_
  have hA : (zc (keepZ Z j) ++ mid).length = j * 8 := by
    rw [List.length_append, zc_len (hz.sub keep_sub), ← h.il, h3]
    have := h.ij
    omega
  have hc := cur_at (zc (keepZ Z j) ++ mid) z.1 (zc (Z.drop (j + 1)) ++ rest) (j * 8) hA k u hu
  rw [drop_at hj, zc_cons, List.append_assoc z.1] at h4
  rw [← Array.getElem?_toList, h4]
  exact hc
/-- It goes. -/
theorem DF.no (h : DF w0 w lo g cap Z i j W) (hz : ZOk w0 Z) {z : List Value × PE} (hj : Z[j]? = some z) (hs : simpleB z.2 = false) : DF w0 w lo g cap Z i (j + 1) W := by
  obtain ⟨cur, mid, rest, h1, h2, h3, h4⟩ := h.row
  have hlt := (List.getElem?_eq_some_iff.1 hj).1
  have hij := h.ij
  refine ⟨by omega, hlt, by rw [keep_no hj hs]; exact h.il, h.hb, cur, mid ++ z.1, rest, h1, h2, ?_, ?_⟩
  · rw [List.length_append, h3, (hz z (List.mem_of_getElem? hj)).1]; omega
  · rw [h4, keep_no hj hs, drop_at hj, zc_cons]; simp only [List.append_assoc]
/-- It stays. -/
theorem DF.yes (h : DF w0 w lo g cap Z i j W) (hz : ZOk w0 Z) (hlg : lo ≤ g) {z : List Value × PE} (hj : Z[j]? = some z) (hs : simpleB z.2 = true) :
    ∃ W', (veilSt 44 ⟨g, i * 8, none⟩ (.agg z.1.toArray)).run Tryz.prog W = .ok () W' ∧ DF w0 w lo g cap Z (i + 1) (j + 1) W' ∧ W'.heap.size = W.heap.size := by
  obtain ⟨cur, mid, rest, h1, h2, h3, h4⟩ := h.row
  have hlt := (List.getElem?_eq_some_iff.1 hj).1
  have hij := h.ij
  obtain ⟨hz8, hzx⟩ := hz z (List.mem_of_getElem? hj)
  have hA : (zc (keepZ Z j)).length = i * 8 := by rw [zc_len (hz.sub keep_sub), ← h.il]
  have hcl : cur.size = (zc (keepZ Z j)).length + mid.length + (zc (Z.drop j) ++ rest).length := by rw [← Array.length_toList, h4]; simp only [List.length_append]
  have hsz : cur.size ≥ i * 8 + (j - i) * 8 := by rw [hcl, hA, h3]; omega
  have hrun := run_exStAt W g (i * 8) cur z.1.toArray h1 (by simpa using hz8) (Array.all_eq_true_iff_forall_mem.2 fun v hv => (ex_cells hzx).2 v (by simpa using hv)) (by omega)
  have hck := cur_keep (zc (keepZ Z j)) mid (zc (Z.drop j) ++ rest) z.1 i hA (by omega)
  rw [h4] at hrun
  rw [show z.1.toArray.toList = z.1 from rfl, hck] at hrun
  refine ⟨_, hrun, ⟨by omega, hlt, ?_, below_setRow' h.hb hlg _, _, mid.drop 8 ++ z.1, rest, h1.set _, ?_, ?_, ?_⟩, by simp⟩
  · rw [keep_yes hj hs, List.length_append, ← h.il]; rfl
  · rw [List.size_toArray]
    simp only [List.length_append, List.length_drop]
    rw [← h2, hcl]
    simp only [List.length_append]
    omega
  · rw [List.length_append, List.length_drop, h3, hz8]; omega
  · have hz1 : zc [z] = z.1 := by simp [zc]
    rw [keep_yes hj hs, zc_app, drop_at hj, zc_cons, hz1]
    simp only [List.append_assoc]
/-- Behind the last one: what is cleared, and the row that is left. -/
theorem DF.end (h : DF w0 w lo g cap Z i Z.length W) (hz : ZOk w0 Z) (hlg : lo ≤ g) (hcap : cap ≤ maxLen) (hic : i ≤ cap) (ty : TypeId) (c : Nat) :
    ∃ W', (Builtin.clear_ #[32] ty #[.slice (some ⟨g, i * 8, none⟩) (Z.length - i) c]).run Tryz.prog W = .ok (.tuple #[]) W' ∧ PRow w0 lo W' (.slice (some ⟨g, 0, none⟩) i cap) ((Z.map (·.2)).filter simpleB) ∧ Below lo w W' := by
  obtain ⟨cur, mid, rest, h1, h2, h3, h4⟩ := h.row
  have hij := h.ij
  have hA : (zc (keepZ Z Z.length)).length = i * 8 := by rw [zc_len (hz.sub keep_sub), ← h.il]
  have hcl : cur.size = (zc (keepZ Z Z.length)).length + mid.length + (zc (Z.drop Z.length) ++ rest).length := by rw [← Array.length_toList, h4]; simp only [List.length_append]
  obtain ⟨zs, hzs, hrun⟩ := run_exClear W g (i * 8) (Z.length - i) c ty cur h1 (by omega) (by rw [hcl, hA, h3]; omega)
  rw [h4, cur_clear _ mid _ zs i (Z.length - i) hA h3] at hrun
  have hE : (Z.map (·.2)).filter simpleB = (keepZ Z Z.length).map (·.2) := by unfold keepZ; rw [List.take_length, List.filter_map]; rfl
  refine ⟨_, hrun, ?_, below_setRow' h.hb hlg _⟩
  rw [hE]
  refine prow_of ?_ (hz.sub keep_sub)
  rw [← h.il]
  refine ⟨hA, .inr ⟨g, cap, _, rfl, hlg, h1.set _, hic, hcap, ?_, ?_⟩⟩
  · rw [List.size_toArray]
    simp only [List.length_append]
    rw [← h2, hcl]
    simp only [List.length_append]
    omega
  · rw [show ((zc (keepZ Z Z.length) ++ zs ++ (zc (Z.drop Z.length) ++ rest)).toArray).toList = zc (keepZ Z Z.length) ++ zs ++ (zc (Z.drop Z.length) ++ rest) from rfl, List.append_assoc, List.take_left' hA]
end
attribute [local go_sem ↓] veilSt_ex veilLd_ex
attribute [local go_sem] run_exNew run_exLd okRow8 Value.oneCell'
set_option maxRecDepth 100000 in
set_option maxHeartbeats 16000000 in
theorem deleteFuncW {E : List PE} {v : Value} {w0 w : World} {lo : Nat} (hb0 : Below w0.heap.size w0 w) (hlo : w0.heap.size ≤ lo) (hlw : lo ≤ w.heap.size) (h : PRow w0 lo w v E) (hl : E.length ≤ 1000000) :
    Calls Tryz.prog 24 #[v, .func (.func 25) #[] #[]] w fun e w' => ∃ v', e = .returned v' ∧ PRow w0 lo w' v' (E.filter simpleB) ∧ Below lo w w' := by
  obtain ⟨va, vc, rfl⟩ := h.shape
  have HC := Lib.hid (indexFuncW E va vc w (h.exs hb0) hl)
  obtain ⟨Z, rfl, hown, hz⟩ := h.zip
  rw [List.length_map] at *
  obtain ⟨R, hR⟩ : ∃ R, idxL delB (Z.map (·.2)) 0 = R := ⟨_, rfl⟩
  rw [hR] at HC
  have HP := Lib.hid h
  have HZ := Lib.hid hz
  have HL := Lib.hid hl
  have HLO := Lib.hid hlo
  have HLW := Lib.hid hlw
  have HB0 := Lib.hid hb0
  by_cases hR1 : R = -1
  · subst hR1
    have HE : Hid ((Z.map (·.2)).filter simpleB = Z.map (·.2)) := Lib.hid (by
      rw [List.filter_map]
      exact congrArg _ (idx_none Z 0 hR))
    clear h hl hlo hlw hb0 hown hz hR
    go_enter Tryz.func24, Tryz.ntmps24
    go_wp2_with fail
    refine HC.out.mono ?_
    rintro e2 w2 ⟨rfl, hb2⟩
    have HP2 : Hid (PRow w0 lo w2 (.slice va Z.length vc) ((Z.map (·.2)).filter simpleB)) := Lib.hid (by rw [HE.out]; exact HP.out.later hb2)
    have HB2 : Hid (Below lo w w2) := Lib.hid (hb2.mono HLW.out)
    clear hb2 HC
    go_wp2_with fail
    go_ret
    exact ⟨_, rfl, HP2.out, HB2.out⟩
  · obtain ⟨i0, e0, hi0, hk0⟩ := idx_some Z 0 R hR hR1
    rw [Nat.zero_add] at e0
    subst e0
    have hpos : 0 < Z.length := by omega
    obtain ⟨g, cap', cur, e1, hlg, hrow, hnc, hcm, hcs, rest, hcur⟩ := own_row hown (by simpa using hpos)
    cases e1
    have hlz := zc_len hz
    have HD0 : Hid (DF w0 w lo g vc Z i0 (i0 + 1) w) := Lib.hid (by
      have hzi : Z[i0]? = some Z[i0] := List.getElem?_eq_getElem hi0
      refine ⟨Nat.lt_succ_self _, hi0, by rw [hk0, List.length_take]; omega, (Below.refl _ _).mono (Nat.le_refl _) |>.mono hlw, cur, (Z[i0]).1, rest, hrow, hcs, by rw [(hz _ (List.getElem_mem hi0)).1]; omega, ?_⟩
      rw [hcur, hk0]
      have : zc Z = zc (Z.take i0) ++ ((Z[i0]).1 ++ zc (Z.drop (i0 + 1))) := by
        rw [← zc_cons, ← drop_at hzi, ← zc_app, List.take_append_drop]
      rw [this]
      simp only [List.append_assoc])
    have HG : Hid (lo ≤ g ∧ vc ≤ maxLen ∧ Z.length ≤ vc) := Lib.hid ⟨hlg, hcm, hnc⟩
    have ine : ¬ (i0 : Int) = -1 := by omega
    have iw : wrap64 ((i0 : Int) + 1) = ((i0 + 1 : Nat) : Int) := by have := hl; unfold wrap64; omega
    clear h hl hlo hlw hb0 hown hz hR hR1 hlz hrow hcur hcs hpos hlg hnc hcm
    go_enter Tryz.func24, Tryz.ntmps24
    go_wp2_with fail
    refine HC.out.mono ?_
    rintro e2 w2 ⟨rfl, hb2⟩
    have HD2 := Lib.hid (HD0.out.later hb2 HLW.out)
    have HB2 := Lib.hid (HB0.out.trans (hb2.mono HB0.out.size))
    have HLW2 : Hid (lo ≤ w2.heap.size) := Lib.hid (Nat.le_trans HLW.out hb2.size)
    clear hb2 HC HD0
    go_wp2_with fail
    go_loopg [5, 6] (Z.length - (i0 + 1)) (fun gk iv jv wr => ∃ (i j : Nat), iv = .int .i64 (i : Int) ∧ jv = .int .i64 (j : Int) ∧ gk = Z.length - j ∧ Hid (DF w0 w lo g vc Z i j wr))
    case atStart => exact ⟨i0, i0 + 1, rfl, by rw [iw], rfl, HD2⟩
    case round =>
      obtain ⟨i, j, rfl, rfl, rfl, HD⟩ := hrel
      clear iw ine hi0 hk0 HD2 HB2 HLW2
      by_cases hlt : j < Z.length
      · obtain ⟨z, hzj⟩ : ∃ z, Z[j]? = some z := ⟨Z[j], List.getElem?_eq_getElem hlt⟩
        obtain ⟨hz8, hzx⟩ := HZ.out z (List.mem_of_getElem? hzj)
        have hlg : lo ≤ wr.heap.size := by
          obtain ⟨cur, mid, rest, h1, _⟩ := HD.out.row
          have := h1.lt; have := HG.out.1; omega
        have hb0 : Below w0.heap.size w0 wr := HB0.out.trans (HD.out.hb.mono HLO.out)
        obtain ⟨kv, hcv, hk⟩ := exR_iff.1 hzx
        have hld := pl_exLd wr g (j * 8) z.1 hz8 (HD.out.cells HZ.out hzj)
        have hbx : Below wr.heap.size wr (wr.alloc (.cells z.1.toArray 44)) := (Below.refl _ _).alloc (Nat.le_refl _) _
        have HRX := Lib.hid (row_alloc wr 44 z.1.toArray)
        have HDX := Lib.hid (HD.out.later hbx hlg)
        have HLX : Hid (lo ≤ (wr.alloc (.cells z.1.toArray 44)).heap.size) := Lib.hid (Nat.le_trans hlg hbx.size)
        have hc := simple1W z.2 kv _ (exsR_below hk (hb0.trans (hbx.mono hb0.size)))
        have HC1 : Hid (Calls Tryz.prog 25 #[.agg z.1.toArray] (wr.alloc (.cells z.1.toArray 44)) fun e w' => e = .returned (.bool (!simpleB z.2)) ∧ Below (wr.alloc (.cells z.1.toArray 44)).heap.size (wr.alloc (.cells z.1.toArray 44)) w') := Lib.hid (by rw [hcv] at hc ⊢; exact hc)
        have hsz : z.1.toArray.size = 8 := by simpa using hz8
        have hok : okRow 8 z.1.toArray = true := okRow_iff.2 ⟨hsz, Array.all_eq_true_iff_forall_mem.2 fun v hv => (ex_cells hzx).2 v (by simpa using hv)⟩
        have ilt : (j : Int) < (Z.length : Int) := by omega
        have ige : (0 : Int) ≤ (j : Int) := by omega
        have HLT := Lib.hid hlt
        have HZJ := Lib.hid hzj
        clear hzj hzx hcv hk hbx hc hlt hb0 hlg hz8
        go_upto_region 8 with fail
        clear hld
        generalize wr.alloc (.cells z.1.toArray 44) = wx at *
        generalize wr.heap.size = gb at *
        have hrb := HRX.out.b (n := 8) hsz
        have hro := HRX.out.of
        go_wp2_with fail
        refine HC1.out.mono ?_
        rintro e3 w3 ⟨rfl, hb3⟩
        have HD3 := Lib.hid (HDX.out.later hb3 HLX.out)
        have HR3 := Lib.hid (HRX.out.later hb3)
        clear hb3 HC1 hrb hro HDX HRX HD
        cases hs : simpleB z.2 with
        | false =>
          have HN := Lib.hid (HD3.out.no HZ.out HZJ.out hs)
          go_wp2_with fail
          go_roundg (Z.length - (j + 1))
          case measure => exact Nat.sub_lt_sub_left HLT.out (Nat.lt_succ_self _)
          case rel => exact ⟨i, j + 1, rfl, congrArg (Value.int .i64) (by have h1 := HL.out; have h2 := HLT.out; unfold wrap64; omega), rfl, HN⟩
        | true =>
          obtain ⟨w4, hst, hd4, hsz4⟩ := HD3.out.yes HZ.out HG.out.1 HZJ.out hs
          have HN := Lib.hid hd4
          have HIJ := Lib.hid HD3.out.ij
          have iige : (0 : Int) ≤ (i : Int) := by omega
          have iilt : (i : Int) < (Z.length : Int) := by have := HD3.out.ij; have := HLT.out; omega
          have hrb := HR3.out.b (n := 8) hsz
          have hro := HR3.out.of
          clear hd4 hsz4
          go_wp2_with fail
          clear hst hrb hro
          go_roundg (Z.length - (j + 1))
          case measure => exact Nat.sub_lt_sub_left HLT.out (Nat.lt_succ_self _)
          case rel => exact ⟨i + 1, j + 1, congrArg (Value.int .i64) (by have h1 := HL.out; have h2 := HLT.out; have h3 := HIJ.out; unfold wrap64; omega), congrArg (Value.int .i64) (by have h1 := HL.out; have h2 := HLT.out; unfold wrap64; omega), rfl, HN⟩
      · obtain rfl : j = Z.length := by have := HD.out.jn; omega
        have hij := HD.out.ij
        have hle : i ≤ vc := by have := HG.out.2.2; omega
        have iige : (0 : Int) ≤ (i : Int) := by omega
        have iilt : (i : Int) ≤ (Z.length : Int) := by omega
        have iilc : (i : Int) ≤ (vc : Int) := by omega
        clear hlt
        obtain ⟨w4, hrun, hp4, hb4⟩ := HD.out.end HZ.out HG.out.1 HG.out.2.1 hle 0 (vc - i)
        have HP4 := Lib.hid hp4
        have HB4 := Lib.hid hb4
        clear hp4 hb4
        have hne : ¬ vc = i := by have := HG.out.2.2; omega
        clear hij
        go_wp2_with (at_builtin; refine pl_list_clear rfl (.tmp 38) 32 rfl rfl hrun ?_)
        clear hrun
        go_wp2_with fail
        go_ret
        exact ⟨_, rfl, HP4.out, HB4.out⟩
end Go.Proofs.YtjgkeillmelkoaaGreat.Dt
namespace Go.Proofs.YtjgkeillmelkoaaGreat.Dt
open Go.RowKit Go.Proofs.YtjgkeillmelkoaaGreat.By

set_option maxRecDepth 100000 in
set_option maxHeartbeats 16000000 in
theorem plSimpleW {l : List PE} {v : Value} {w0 w : World} (hc : cntL l ≤ 1000000) (hb : Below w0.heap.size w0 w) (h : ExsR w0 v l) :
    Calls Tryz.prog 13 #[v] w fun e w' => ∃ v', e = .returned v' ∧ PRow w0 w.heap.size w' v' ((partsL l).filter simpleB) ∧ Below w.heap.size w w' := by
  have HC := Lib.hid (partsW hc hb h)
  have HB := Lib.hid hb
  have HL : Hid ((partsL l).length ≤ 1000000) := Lib.hid (Nat.le_trans (parts_cntL l) hc)
  clear hc hb h
  go_enter Tryz.func13, Tryz.ntmps13
  go_wp2_with fail
  refine HC.out.mono ?_
  rintro e2 w2 ⟨v2, rfl, hp2, hb2⟩
  have HD := Lib.hid (deleteFuncW (HB.out.trans (hb2.mono HB.out.size)) HB.out.size hb2.size hp2 HL.out)
  have HB2 := Lib.hid hb2
  clear hp2 hb2 HC
  go_wp2_with fail
  refine HD.out.mono ?_
  rintro e3 w3 ⟨v3, rfl, hp3, hb3⟩
  have HP3 := Lib.hid hp3
  have HB3 := Lib.hid (HB2.out.trans hb3)
  clear hp3 hb3 HD
  go_wp2_with fail
  go_ret
  exact ⟨_, rfl, HP3.out, HB3.out⟩
end Go.Proofs.YtjgkeillmelkoaaGreat.Dt
namespace Go.Proofs.YtjgkeillmelkoaaGreat.Dt
open Go.RowKit Go.Proofs.YtjgkeillmelkoaaGreat.By

/-- An element of a row of the call's own, loaded whole. -/
theorem prow_at {w0 W : World} {lo : Nat} {a : Option Addr} {n c k : Nat} {E : List PE} {x : PE} (h : PRow w0 lo W (.slice a n c) E) (hk : E[k]? = some x) :
    ∃ g na nc, a = some ⟨g, 0, none⟩ ∧ lo ≤ g ∧ ExsR w0 (.slice na x.kids.length nc) x.kids ∧ (veilLd 44 ⟨g, k * 8, none⟩).run Tryz.prog W = .ok (.agg #[.int .u8 (x.op : Int), .int .u8 (x.v.k : Int), .int .i64 x.v.n, .string x.v.s, .string x.t, .string x.m, .int .i64 x.n, .slice na x.kids.length nc]) W := by
  obtain ⟨cs, hown, hlen, hel⟩ := h
  have hlt := (List.getElem?_eq_some_iff.1 hk).1
  have hcs : cs[k]? = some cs[k] := List.getElem?_eq_getElem (by omega)
  obtain ⟨h8, hx⟩ := hel k _ x hcs hk
  obtain ⟨kv, hc, hkids⟩ := exR_iff.1 hx
  obtain ⟨na, nc, rfl, _⟩ := hkids.shape
  have hs : ∀ d ∈ cs, d.length = 8 := fun d hd => by
    obtain ⟨i, hi⟩ := List.getElem?_of_mem hd
    have hil : i < E.length := by rw [← hlen]; exact (List.getElem?_eq_some_iff.1 hi).1
    exact (hel i d E[i] hi (by simp [hil])).1
  rcases hown.2 with ⟨_, h0⟩ | ⟨g, cap, cur, e, hg, hh, hn, hcap, hsz, ht⟩
  · omega
  · cases e
    refine ⟨g, na, nc, rfl, hg, hkids, ?_⟩
    have := pl_exLd W g (k * 8) cs[k] h8 fun j u hj => by
      have h1 := World.ownsRow.cells hown rfl (k * 8 + j) u (flatten_get cs k cs[k] j u hs hcs hj)
      rw [Addr.add_lit, Nat.zero_add] at h1
      exact h1
    rw [hc] at this
    exact this
/-- Whether a column's place is one. -/
def okStep (all : Int) (s : Bool) (n : Int) : Bool := s && decide (0 ≤ n) && decide (n < all)
set_option maxRecDepth 100000 in
set_option maxHeartbeats 16000000 in
theorem plan1W {wb W : World} {gok gl : Nat} {tv fv : Value} {all : Int} (hne : gl ≠ gok) (hgl : Row gl 51 #[tv, fv, .int .i64 all] wb) (s : Bool) (n : Int) (h : Row gok 4 #[.bool s] W) (hg : wb.grownBy W (some gok)) :
    Calls Tryz.prog 17 #[.int .i64 n, .pointer (some ⟨gok, 0, none⟩), .pointer (some ⟨gl, 0, none⟩)] W fun e w' => e = .returned (.tuple #[]) ∧ Row gok 4 #[.bool (okStep all s n)] w' ∧ W.grownBy w' (some gok) ∧ w'.heap.size = W.heap.size := by
  have hL := hgl.grown hg hne
  have l2 := hL.cell (i := 2) (v := .int .i64 all) rfl
  have c0 := h.cell (i := 0) (v := .bool s) rfl
  have f0 := h.free 0
  have HR := Lib.hid h
  obtain ⟨B, hB⟩ : ∃ B, B = okStep all s n := ⟨_, rfl⟩
  rw [← hB]
  have HB := Lib.hid hB
  have HW : Hid (∀ B' : Bool, W.setCell ⟨gok, 0, none⟩ (.bool B') = W.setRow gok #[.bool B']) := Lib.hid fun B' => by
    have := setCell_eq_setRow W gok 0 _ _ _ (.bool B') h
    simpa using this
  have HEND : Hid (∀ B' : Bool, B' = B → (Row gok 4 #[.bool B] (W.setCell ⟨gok, 0, none⟩ (.bool B')) ∧ W.grownBy (W.setCell ⟨gok, 0, none⟩ (.bool B')) (some gok) ∧ (W.setCell ⟨gok, 0, none⟩ (.bool B')).heap.size = W.heap.size)) := Lib.hid fun B' hB' => by
    rw [HW.out, hB']
    exact ⟨HR.out.set _, grown_setRow _ _ _, by simp⟩
  clear h hg hgl hL hB
  cases s with
  | false =>
    have HX : Hid (false = B) := Lib.hid (by rw [HB.out]; rfl)
    clear HB
    go_enter Tryz.func17, Tryz.ntmps17
    go_wp2_with fail
    go_end0
    exact ⟨rfl, HEND.out _ HX.out⟩
  | true =>
    by_cases h1 : 0 ≤ n
    · have i1 : decide (0 ≤ n) = true := decide_eq_true h1
      by_cases h2 : n < all
      · have HX : Hid (true = B) := Lib.hid (by rw [HB.out]; unfold okStep; rw [decide_eq_true h1, decide_eq_true h2]; rfl)
        have i2 : decide (n < all) = true := decide_eq_true h2
        clear HB h1 h2
        go_enter Tryz.func17, Tryz.ntmps17
        go_wp2_with fail
        go_end0
        exact ⟨rfl, HEND.out _ HX.out⟩
      · have HX : Hid (false = B) := Lib.hid (by rw [HB.out]; unfold okStep; rw [decide_eq_true h1, decide_eq_false h2]; rfl)
        have i2 : decide (n < all) = false := decide_eq_false h2
        clear HB h1 h2
        go_enter Tryz.func17, Tryz.ntmps17
        go_wp2_with fail
        go_end0
        exact ⟨rfl, HEND.out _ HX.out⟩
    · have HX : Hid (false = B) := Lib.hid (by rw [HB.out]; unfold okStep; rw [decide_eq_false h1]; rfl)
      have i1 : decide (0 ≤ n) = false := decide_eq_false h1
      clear HB h1
      go_enter Tryz.func17, Tryz.ntmps17
      go_wp2_with fail
      go_end0
      exact ⟨rfl, HEND.out _ HX.out⟩
/-- What lies there while Plan's columns are looked at. -/
theorem okF {w wb : World} {gok gl : Nat} {tv fv : Value} {all : Int} (hne : gl ≠ gok) (hgl : Row gl 51 #[tv, fv, .int .i64 all] wb) (hwb : Below w.heap.size w wb) (hok : w.heap.size ≤ gok) (hlt : gok < wb.heap.size) :
    ColF w (gok + 1) Bool (okStep all) (fun s W => Row gok 4 #[.bool s] W ∧ wb.grownBy W (some gok)) 17 (.pointer (some ⟨gok, 0, none⟩)) (.pointer (some ⟨gl, 0, none⟩)) :=
  { hf := fun _ _ => by kernel_rfl
    later := fun s W W' h hb => ⟨h.1.later hb, ⟨hb.os.trans h.2.os, hb.tape.trans h.2.tape, hb.output.trans h.2.output, Nat.le_trans h.2.size hb.size, fun k hk hne => (hb.block k (Nat.lt_of_lt_of_le hk h.2.size)).trans (h.2.block k hk hne)⟩⟩
    below := fun s W h => ⟨h.2.os.trans hwb.os, h.2.tape.trans hwb.tape, h.2.output.trans hwb.output, Nat.le_trans hwb.size h.2.size, fun k hk => (h.2.block k (Nat.lt_of_lt_of_le hk hwb.size) (fun e => by cases e; omega)).trans (hwb.block k hk)⟩
    up := fun s W h => by have := h.2.size; omega
    call := fun s n W h => (plan1W hne hgl s n h.1 h.2).mono fun e w' hh => ⟨hh.1, ⟨hh.2.1, grown_trans h.2 hh.2.2.1⟩, fun k hk hk2 => hh.2.2.1.block k hk2 (fun e => by cases e; omega)⟩ }
end Go.Proofs.YtjgkeillmelkoaaGreat.Dt
