/- ValueKnown: the law returns true at every input. -/
import Derived.Test.YtghfaeapgghhlaaDoorLiftD
import Derived.Test.YtghfaeapgghhlaaDoorTie
import Derived.Test.YtghfaeapgghhlaaDoorCards
import Derived.SevenTiedAt
import Derived.Stop.Joined
import Derived.Test.YtghfaeapgghhlaaDoorValGreat
import Derived.Test.YtghfaeapgghhlaaDoorValLaid
import Derived.Test.YtghfaeapgghhlaaDoorKipE
import Derived.Test.YtghfaeapgghhlaaDoorOpen
namespace Go.Proofs.YtghfaeapgghhlaaDoor.ValueKnown
open Go.ChangeShapes Go.WideShapes Go.ChangeAt Go.RowKit Go.Proofs.YtghfaeapgghhlaaDoor.By
set_option linter.unusedVariables false
-- laid
/- ValueKnown: the document's examples. No conditions beyond what the row lists. -/
open Go.Proofs.YtghfaeapgghhlaaDoor.Dt
def badsL : List ByteArray := [⟨#[45, 48]⟩, ⟨#[48, 49]⟩, ⟨#[39, 97]⟩, ⟨#[120, 39, 48]⟩, ⟨#[120, 39, 48, 70, 39]⟩, ⟨#[110, 117, 108, 108]⟩, ⟨#[57, 50, 50, 51, 51, 55, 50, 48, 51, 54, 56, 53, 52, 55, 55, 53, 56, 48, 56]⟩, ⟨#[]⟩, ⟨#[45]⟩, ⟨#[120, 39]⟩, ⟨#[39]⟩, ⟨#[39, 39, 39]⟩, ⟨#[43, 49]⟩]
theorem quote_rep : ∀ n, quoteL (Lib.repeatL [97] n) = Lib.repeatL [97] n
  | 0 => rfl
  | n + 1 => by
    show quoteL (97 :: Lib.repeatL [97] n) = 97 :: Lib.repeatL [97] n
    rw [quoteL, if_neg (by decide), quote_rep n]
theorem rep_len (n : Nat) : (Lib.repeatL [97] n).length = n := by rw [Lib.repeatL_length]; simp
theorem read_rep {n : Nat} (h : 1000 < n) : readS (39 :: (Lib.repeatL [97] n ++ [39])) = (V0, 3) := by
  have hl := rep_len n
  have h1 : (39 :: (Lib.repeatL [97] n ++ [39])).getLast? = some 39 := by
    rw [← List.cons_append, List.getLast?_append]; rfl
  have h2 : textS (39 :: (Lib.repeatL [97] n ++ [39])) = some (Lib.repeatL [97] n) := by
    unfold textS
    rw [if_neg (by rw [h1]; simp), List.drop_succ_cons, List.drop_zero, List.dropLast_concat]
    have := unq_quoteL (Lib.repeatL [97] n)
    rwa [quote_rep] at this
  unfold readS rawS
  rw [if_neg (by simp), if_neg (by unfold blobF; rintro ⟨_, h, _⟩; simp at h), if_pos (show (39 :: (Lib.repeatL [97] n ++ [39])).head? = some 39 from rfl), h2]
  show (if 1000 < (ByteArray.mk (Lib.repeatL [97] n).toArray).size then (V0, 3) else _) = _
  rw [if_pos]
  rw [bytes_size, hl]; exact h
theorem lawBlob (s : ByteArray) (w : World) : Calls Tryd.prog 22 #[.string s] w fun e w' => e = .returned (V.val ⟨3, 0, s⟩) ∧ Below w.heap.size w w' := by
  go_enter Tryd.func22, Tryd.ntmps22
  go_wp2_with fail
  refine bodyPost_ret (v := V.val ⟨3, 0, s⟩) (by simp [results, Tryd.results22, go_sem]; try rfl) rfl ⟨rfl, ?_⟩
  go_grown
theorem cmpAt (a b : V) (r : Int) (h : cmpV a b = r) (w : World) : Calls Tryd.prog 20 #[a.val, b.val] w fun e w' => e = .returned (.int .i64 r) ∧ Below w.heap.size w w' := by
  have := compare a b w
  rwa [h] at this
theorem litAt (v : V) (l : List UInt8) (h : litV v = l) (ho : v.ok) (hs : v.s.size ≤ 1000000) (w : World) (hw : LW w) : Calls Tryd.prog 17 #[v.val] w fun e w' => e = .returned (str l) ∧ Below w.heap.size w w' := by
  have := literalW v w hw ho hs
  rwa [h] at this
def B1 (b : Nat) (x : V) (w : World) : Prop := w.cell? ⟨b, 0, none⟩ = some (.int .u8 (x.k : Int)) ∧ w.cell? ⟨b, 1, none⟩ = some (.int .i64 x.n) ∧ w.cell? ⟨b, 2, none⟩ = some (.string x.s)
theorem vsAt1 {b : Nat} {x : V} {w : World} (h : B1 b x w) : VsAt w (.slice (some ⟨b, 0, none⟩) 1 1) [x] := by
  refine ⟨_, _, rfl, Nat.le_refl _, fun i y hx => ⟨b, 0, rfl, fun j u hu => ?_⟩⟩
  rcases i with _ | i
  · obtain rfl := Option.some.inj hx
    rcases j with _ | _ | _ | j
    · obtain rfl := Option.some.inj hu; exact h.1
    · obtain rfl := Option.some.inj hu; exact h.2.1
    · obtain rfl := Option.some.inj hu; exact h.2.2
    · simp [V.cells] at hu
  · simp at hx
theorem vsAt2 {b : Nat} {x y : V} {w : World} (h : B1 b x w) (h3 : w.cell? ⟨b, 3, none⟩ = some (.int .u8 (y.k : Int))) (h4 : w.cell? ⟨b, 4, none⟩ = some (.int .i64 y.n)) (h5 : w.cell? ⟨b, 5, none⟩ = some (.string y.s)) : VsAt w (.slice (some ⟨b, 0, none⟩) 2 2) [x, y] := by
  refine ⟨_, _, rfl, Nat.le_refl _, fun i z hx => ⟨b, 0, rfl, fun j u hu => ?_⟩⟩
  rcases i with _ | _ | i
  · obtain rfl := Option.some.inj hx
    rcases j with _ | _ | _ | j
    · obtain rfl := Option.some.inj hu; exact h.1
    · obtain rfl := Option.some.inj hu; exact h.2.1
    · obtain rfl := Option.some.inj hu; exact h.2.2
    · simp [V.cells] at hu
  · obtain rfl := Option.some.inj hx
    rcases j with _ | _ | _ | j
    · obtain rfl := Option.some.inj hu; exact h3
    · obtain rfl := Option.some.inj hu; exact h4
    · obtain rfl := Option.some.inj hu; exact h5
    · simp [V.cells] at hu
  · simp at hx
theorem rowsAt {rv tv : Value} {a b : List V} {w : World} (ha : VsAt w rv a) (hb : VsAt w tv b) (la : a.length ≤ 1000000) (lb : b.length ≤ 1000000) (r : Int) (h : cmpRow a b = r) : Calls Tryd.prog 13 #[rv, tv] w fun e w' => e = .returned (.int .i64 r) ∧ Below w.heap.size w w' := by
  have := rowsW rv tv a b w ha hb la lb
  rwa [h] at this
theorem itoa_min : Lib.itoa (-9223372036854775808) = [45, 57, 50, 50, 51, 51, 55, 50, 48, 51, 54, 56, 53, 52, 55, 55, 53, 56, 48, 56] := by
  rw [show (-9223372036854775808 : Int) = -((9223372036854775808 : Nat) : Int) from rfl, Lib.itoa_neg 9223372036854775808 (by decide), dec_decV _ [57, 50, 50, 51, 51, 55, 50, 48, 51, 54, 56, 53, 52, 55, 55, 53, 56, 48, 56] rfl 9223372036854775808 (by decide) (by decide) (by decide +kernel)]
theorem ok23 (k : Nat) (s : ByteArray) (hk : k < 256) (hs : s.size ≤ 1000) : V.ok ⟨k, 0, s⟩ := ⟨hk, ⟨by show (-9223372036854775808 : Int) ≤ 0; decide, by show (0 : Int) ≤ 9223372036854775807; decide⟩, by show s.size ≤ 140737488351232; omega⟩
def KnownKn : Nat → Value → World → Prop
  | 0, v, _ => v = V.val ⟨0, 0, ⟨#[]⟩⟩
  | 1, v, _ => v = V.val ⟨0, 0, ⟨#[]⟩⟩
  | 2, v, _ => v = .bool true
  | 3, v, _ => v = .bool true
  | 4, v, _ => v = .int .i64 0
  | 5, v, _ => v = .bool true
  | 6, v, _ => v = .bool true
  | 7, v, _ => v = .bool true
  | 8, v, _ => v = V.val ⟨2, 0, ⟨#[]⟩⟩
  | 9, v, _ => v = V.val ⟨2, 0, ⟨#[]⟩⟩
  | 10, v, _ => v = .bool true
  | 11, v, _ => v = .bool true
  | 12, v, _ => v = .bool true
  | 13, v, _ => v = .int .i64 0
  | 14, v, _ => v = .bool true
  | 15, v, _ => v = .bool true
  | 16, v, _ => v = .bool true
  | 17, v, _ => v = .int .i64 3
  | 18, v, _ => v = .bool true
  | 19, v, _ => v = .bool true
  | 20, v, _ => v = .bool true
  | 21, v, _ => v = V.val ⟨0, 0, ⟨#[]⟩⟩
  | 22, v, _ => v = V.val ⟨1, 0, ⟨#[]⟩⟩
  | 23, v, _ => v = .int .i64 (-1)
  | 24, v, _ => v = .bool true
  | 25, v, _ => v = .bool true
  | 26, v, _ => v = .bool true
  | 27, v, _ => v = V.val ⟨1, 9, ⟨#[]⟩⟩
  | 28, v, _ => v = V.val ⟨2, 0, ⟨#[]⟩⟩
  | 29, v, _ => v = .int .i64 (-1)
  | 30, v, _ => v = .bool true
  | 31, v, _ => v = .bool true
  | 32, v, _ => v = .bool true
  | 33, v, _ => v = V.val ⟨2, 0, ⟨#[98]⟩⟩
  | 34, v, _ => v = V.val ⟨2, 0, ⟨#[97]⟩⟩
  | 35, v, _ => v = .int .i64 (1)
  | 36, v, _ => v = .bool true
  | 37, v, _ => v = .bool true
  | 38, v, _ => v = .bool true
  | 39, v, _ => v = V.val ⟨1, 1, ⟨#[]⟩⟩
  | 40, v, _ => v = V.val ⟨1, 2, ⟨#[]⟩⟩
  | 41, v, w => ∃ b, v = .slice (some ⟨b, 0, none⟩) 2 2 ∧ w.cell? ⟨b, 0, none⟩ = some (.int .u8 1) ∧ w.cell? ⟨b, 1, none⟩ = some (.int .i64 1) ∧ w.cell? ⟨b, 2, none⟩ = some (.string ⟨#[]⟩) ∧ w.cell? ⟨b, 3, none⟩ = some (.int .u8 1) ∧ w.cell? ⟨b, 4, none⟩ = some (.int .i64 2) ∧ w.cell? ⟨b, 5, none⟩ = some (.string ⟨#[]⟩)
  | 42, v, _ => v = V.val ⟨1, 1, ⟨#[]⟩⟩
  | 43, v, w => ∃ b, v = .slice (some ⟨b, 0, none⟩) 1 1 ∧ w.cell? ⟨b, 0, none⟩ = some (.int .u8 1) ∧ w.cell? ⟨b, 1, none⟩ = some (.int .i64 1) ∧ w.cell? ⟨b, 2, none⟩ = some (.string ⟨#[]⟩)
  | 44, v, _ => v = .int .i64 1
  | 45, v, _ => v = .bool true
  | 46, v, _ => v = .bool true
  | 47, v, _ => v = .bool true
  | 48, v, _ => v = V.val ⟨0, 0, ⟨#[]⟩⟩
  | 49, v, w => ∃ b, v = .slice (some ⟨b, 0, none⟩) 1 1 ∧ w.cell? ⟨b, 0, none⟩ = some (.int .u8 0) ∧ w.cell? ⟨b, 1, none⟩ = some (.int .i64 0) ∧ w.cell? ⟨b, 2, none⟩ = some (.string ⟨#[]⟩)
  | 50, v, _ => v = V.val ⟨0, 0, ⟨#[]⟩⟩
  | 51, v, w => ∃ b, v = .slice (some ⟨b, 0, none⟩) 1 1 ∧ w.cell? ⟨b, 0, none⟩ = some (.int .u8 0) ∧ w.cell? ⟨b, 1, none⟩ = some (.int .i64 0) ∧ w.cell? ⟨b, 2, none⟩ = some (.string ⟨#[]⟩)
  | 52, v, _ => v = .int .i64 0
  | 53, v, _ => v = .bool true
  | 54, v, _ => v = .bool true
  | 55, v, _ => v = .bool true
  | 56, v, _ => v = V.val ⟨1, -9223372036854775808, ⟨#[]⟩⟩
  | 57, v, _ => v = str [45, 57, 50, 50, 51, 51, 55, 50, 48, 51, 54, 56, 53, 52, 55, 55, 53, 56, 48, 56]
  | 58, v, _ => v = .bool true
  | 59, v, _ => v = .bool true
  | 60, v, _ => v = .bool true
  | 61, v, _ => v = V.val ⟨2, 0, ⟨#[105, 116, 39, 115]⟩⟩
  | 62, v, _ => v = str [39, 105, 116, 39, 39, 115, 39]
  | 63, v, _ => v = .bool true
  | 64, v, _ => v = .bool true
  | 65, v, _ => v = .bool true
  | 66, v, _ => v = V.val ⟨3, 0, ⟨#[0, 255]⟩⟩
  | 67, v, _ => v = str [120, 39, 48, 48, 102, 102, 39]
  | 68, v, _ => v = .bool true
  | 69, v, _ => v = .bool true
  | 70, v, _ => v = .bool true
  | 71, v, _ => v = V.val ⟨0, 0, ⟨#[]⟩⟩
  | 72, v, _ => v = str [78, 85, 76, 76]
  | 73, v, _ => v = .bool true
  | 74, v, _ => v = .bool true
  | 75, v, _ => v = .bool true
  | _, _, _ => True
theorem KnownKn.later : ∀ (j : Nat) (v : Value) (w1 w2 : World), KnownKn  j v w1 → Below w1.heap.size w1 w2 → KnownKn  j v w2
  | 0, _, _, _, h, _ => h
  | 1, _, _, _, h, _ => h
  | 2, _, _, _, h, _ => h
  | 3, _, _, _, h, _ => h
  | 4, _, _, _, h, _ => h
  | 5, _, _, _, h, _ => h
  | 6, _, _, _, h, _ => h
  | 7, _, _, _, h, _ => h
  | 8, _, _, _, h, _ => h
  | 9, _, _, _, h, _ => h
  | 10, _, _, _, h, _ => h
  | 11, _, _, _, h, _ => h
  | 12, _, _, _, h, _ => h
  | 13, _, _, _, h, _ => h
  | 14, _, _, _, h, _ => h
  | 15, _, _, _, h, _ => h
  | 16, _, _, _, h, _ => h
  | 17, _, _, _, h, _ => h
  | 18, _, _, _, h, _ => h
  | 19, _, _, _, h, _ => h
  | 20, _, _, _, h, _ => h
  | 21, _, _, _, h, _ => h
  | 22, _, _, _, h, _ => h
  | 23, _, _, _, h, _ => h
  | 24, _, _, _, h, _ => h
  | 25, _, _, _, h, _ => h
  | 26, _, _, _, h, _ => h
  | 27, _, _, _, h, _ => h
  | 28, _, _, _, h, _ => h
  | 29, _, _, _, h, _ => h
  | 30, _, _, _, h, _ => h
  | 31, _, _, _, h, _ => h
  | 32, _, _, _, h, _ => h
  | 33, _, _, _, h, _ => h
  | 34, _, _, _, h, _ => h
  | 35, _, _, _, h, _ => h
  | 36, _, _, _, h, _ => h
  | 37, _, _, _, h, _ => h
  | 38, _, _, _, h, _ => h
  | 39, _, _, _, h, _ => h
  | 40, _, _, _, h, _ => h
  | 41, _, _, _, ⟨b, h0, c0, c1, c2, c3, c4, c5⟩, hb => ⟨b, h0, (hb.cell (cell_lt c0)).trans c0, (hb.cell (cell_lt c1)).trans c1, (hb.cell (cell_lt c2)).trans c2, (hb.cell (cell_lt c3)).trans c3, (hb.cell (cell_lt c4)).trans c4, (hb.cell (cell_lt c5)).trans c5⟩
  | 42, _, _, _, h, _ => h
  | 43, _, _, _, ⟨b, h0, c0, c1, c2⟩, hb => ⟨b, h0, (hb.cell (cell_lt c0)).trans c0, (hb.cell (cell_lt c1)).trans c1, (hb.cell (cell_lt c2)).trans c2⟩
  | 44, _, _, _, h, _ => h
  | 45, _, _, _, h, _ => h
  | 46, _, _, _, h, _ => h
  | 47, _, _, _, h, _ => h
  | 48, _, _, _, h, _ => h
  | 49, _, _, _, ⟨b, h0, c0, c1, c2⟩, hb => ⟨b, h0, (hb.cell (cell_lt c0)).trans c0, (hb.cell (cell_lt c1)).trans c1, (hb.cell (cell_lt c2)).trans c2⟩
  | 50, _, _, _, h, _ => h
  | 51, _, _, _, ⟨b, h0, c0, c1, c2⟩, hb => ⟨b, h0, (hb.cell (cell_lt c0)).trans c0, (hb.cell (cell_lt c1)).trans c1, (hb.cell (cell_lt c2)).trans c2⟩
  | 52, _, _, _, h, _ => h
  | 53, _, _, _, h, _ => h
  | 54, _, _, _, h, _ => h
  | 55, _, _, _, h, _ => h
  | 56, _, _, _, h, _ => h
  | 57, _, _, _, h, _ => h
  | 58, _, _, _, h, _ => h
  | 59, _, _, _, h, _ => h
  | 60, _, _, _, h, _ => h
  | 61, _, _, _, h, _ => h
  | 62, _, _, _, h, _ => h
  | 63, _, _, _, h, _ => h
  | 64, _, _, _, h, _ => h
  | 65, _, _, _, h, _ => h
  | 66, _, _, _, h, _ => h
  | 67, _, _, _, h, _ => h
  | 68, _, _, _, h, _ => h
  | 69, _, _, _, h, _ => h
  | 70, _, _, _, h, _ => h
  | 71, _, _, _, h, _ => h
  | 72, _, _, _, h, _ => h
  | 73, _, _, _, h, _ => h
  | 74, _, _, _, h, _ => h
  | 75, _, _, _, h, _ => h
  | _ + 76, _, _, _, h, _ => h

set_option maxRecDepth 100000 in
set_option maxHeartbeats 16000000 in
theorem walk (w : World) (hw : LW w) :
    Calls Tryd.prog 5 #[] w fun e w' => e = .returned (.bool true) ∧ Below w.heap.size w w' := by
  have HW := Lib.hid hw
  clear hw
  go_enter Tryd.func5, Tryd.ntmps5
  go_wp2_with fail
  obtain ⟨lst, hlst⟩ : ∃ lst : List ByteArray, lst = badsL := ⟨_, rfl⟩
  have hcells : ∀ (k : Nat) (t : ByteArray), lst[k]? = some t → (w.alloc (.cells #[.string ⟨#[45, 48]⟩, .string ⟨#[48, 49]⟩, .string ⟨#[39, 97]⟩, .string ⟨#[120, 39, 48]⟩, .string ⟨#[120, 39, 48, 70, 39]⟩, .string ⟨#[110, 117, 108, 108]⟩, .string ⟨#[57, 50, 50, 51, 51, 55, 50, 48, 51, 54, 56, 53, 52, 55, 55, 53, 56, 48, 56]⟩, .string ⟨#[]⟩, .string ⟨#[45]⟩, .string ⟨#[120, 39]⟩, .string ⟨#[39]⟩, .string ⟨#[39, 39, 39]⟩, .string ⟨#[43, 49]⟩] 9)).cell? ⟨w.heap.size, k, none⟩ = some (.string t) := fun k t hk => by
    rw [hlst] at hk
    unfold badsL at hk
    rcases k with _ | _ | _ | _ | _ | _ | _ | _ | _ | _ | _ | _ | _ | k <;> simp at hk <;> subst hk <;> go_simp
  have HNONE : Hid (∀ t ∈ lst, readS t.data.toList = (V0, 6) ∧ t.size ≤ 1000000) := Lib.hid (fun t ht => by
    rw [hlst] at ht
    unfold badsL at ht
    simp only [List.mem_cons, List.not_mem_nil, or_false] at ht
    rcases ht with rfl | rfl | rfl | rfl | rfl | rfl | rfl | rfl | rfl | rfl | rfl | rfl | rfl <;> exact ⟨by kernel_rfl, by decide⟩)
  have HLEN : Hid (lst.length = 13) := Lib.hid (by rw [hlst]; rfl)
  have HB8 : Hid (Below w.heap.size w (w.alloc (.cells #[.string ⟨#[45, 48]⟩, .string ⟨#[48, 49]⟩, .string ⟨#[39, 97]⟩, .string ⟨#[120, 39, 48]⟩, .string ⟨#[120, 39, 48, 70, 39]⟩, .string ⟨#[110, 117, 108, 108]⟩, .string ⟨#[57, 50, 50, 51, 51, 55, 50, 48, 51, 54, 56, 53, 52, 55, 55, 53, 56, 48, 56]⟩, .string ⟨#[]⟩, .string ⟨#[45]⟩, .string ⟨#[120, 39]⟩, .string ⟨#[39]⟩, .string ⟨#[39, 39, 39]⟩, .string ⟨#[43, 49]⟩] 9))) := Lib.hid ((Below.refl _ _).alloc (Nat.le_refl _) _)
  have HLT : Hid (w.heap.size < (w.alloc (.cells #[.string ⟨#[45, 48]⟩, .string ⟨#[48, 49]⟩, .string ⟨#[39, 97]⟩, .string ⟨#[120, 39, 48]⟩, .string ⟨#[120, 39, 48, 70, 39]⟩, .string ⟨#[110, 117, 108, 108]⟩, .string ⟨#[57, 50, 50, 51, 51, 55, 50, 48, 51, 54, 56, 53, 52, 55, 55, 53, 56, 48, 56]⟩, .string ⟨#[]⟩, .string ⟨#[45]⟩, .string ⟨#[120, 39]⟩, .string ⟨#[39]⟩, .string ⟨#[39, 39, 39]⟩, .string ⟨#[43, 49]⟩] 9)).heap.size) := Lib.hid (by simp)
  generalize hW8 : w.alloc (.cells #[.string ⟨#[45, 48]⟩, .string ⟨#[48, 49]⟩, .string ⟨#[39, 97]⟩, .string ⟨#[120, 39, 48]⟩, .string ⟨#[120, 39, 48, 70, 39]⟩, .string ⟨#[110, 117, 108, 108]⟩, .string ⟨#[57, 50, 50, 51, 51, 55, 50, 48, 51, 54, 56, 53, 52, 55, 55, 53, 56, 48, 56]⟩, .string ⟨#[]⟩, .string ⟨#[45]⟩, .string ⟨#[120, 39]⟩, .string ⟨#[39]⟩, .string ⟨#[39, 39, 39]⟩, .string ⟨#[43, 49]⟩] 9) = w8 at *
  have HCE := Lib.hid hcells
  clear hW8 hlst hcells
  obtain ⟨q, hq⟩ : ∃ q, q = w.heap.size := ⟨_, rfl⟩
  rw [← hq]
  rw [← hq] at HLT HCE
  have HQ := Lib.hid hq
  clear hq
  go_loopg [13] 13 (fun gk iv wr => ∃ k : Nat, iv = .int .i64 (k : Int) ∧ gk = 13 - k ∧ k ≤ 13 ∧ Hid (Below w8.heap.size w8 wr))
  case atStart => exact ⟨0, rfl, rfl, by omega, Lib.hid (Below.refl _ _)⟩
  case round =>
    obtain ⟨k, rfl, rfl, hk3, HBEL⟩ := hrel
    by_cases hlt : k < 13
    · have ilt : (k : Int) < 13 := by omega
      obtain ⟨t, ht⟩ : ∃ t, lst[k]? = some t := ⟨lst[k]'(by have := HLEN.out; omega), by simp⟩
      have hc := (HBEL.out.cell (p := ⟨q, k, none⟩) HLT.out).trans (HCE.out k t ht)
      obtain ⟨n1, n2⟩ := HNONE.out t (List.mem_of_getElem? ht)
      have hrd := readW t wr (HW.out.later (next HB8.out HBEL.out)) n2
      rw [n1] at hrd
      have HRD := Lib.hid hrd
      have HKK : Hid (wrap64 ((k : Int) + 1) = ((k + 1 : Nat) : Int)) := Lib.hid (by unfold wrap64; omega)
      have HKL := Lib.hid hlt
      clear n1 n2 ht hlt hk3 hrd
      have hneq : ∀ W, (binOp .neq 27 (.agg #[.int .u8 0, .int .i64 0, .string ⟨#[]⟩]) (.agg #[.int .u8 0, .int .i64 0, .string ⟨#[]⟩])).run Tryd.prog W = .ok (.bool false) W := neq_told ⟨0, 0, ⟨#[]⟩⟩ ⟨0, 0, ⟨#[]⟩⟩ false (by simp)
      go_wp2_with fail
      refine HRD.out.mono ?_
      rintro e w9 ⟨rfl, hb9⟩
      have HB9 := Lib.hid (next HBEL.out hb9)
      have HB10 : Hid (Below w8.heap.size w8 (w9.alloc (.cells #[.int .u8 0, .int .i64 0, .string ⟨#[]⟩] 27))) := Lib.hid (HB9.out.alloc HB9.out.size _)
      clear hb9 hc
      unfold V0
      go_wp2_with fail
      go_roundg (13 - (k + 1))
      case measure => exact Nat.sub_lt_sub_left HKL.out (Nat.lt_succ_self _)
      case rel => exact ⟨k + 1, by first | exact congrArg (Value.int .i64) HKK.out | (simp; done) | (simp; exact HKK.out), rfl, HKL.out, HB10⟩
    · have ilt : ¬ (k : Int) < 13 := by omega
      have HBW := Lib.hid (next HB8.out HBEL.out)
      clear hlt hk3 HBEL HCE HNONE
      have hr1 : readS (⟨#[78, 85, 76, 76]⟩ : ByteArray).data.toList = (⟨0, 0, ⟨#[]⟩⟩, 0) := by kernel_rfl
      have hr2 : readS (⟨#[39, 39]⟩ : ByteArray).data.toList = (⟨2, 0, ⟨#[]⟩⟩, 0) := by kernel_rfl
      have HR1 : Hid (∀ W, LW W → Calls Tryd.prog 16 #[.string ⟨#[78, 85, 76, 76]⟩] W fun e w' => e = .returned (.tuple #[V.val ⟨0, 0, ⟨#[]⟩⟩, .int .i64 0]) ∧ Below W.heap.size W w') := Lib.hid (fun W hw => by
        have := readW ⟨#[78, 85, 76, 76]⟩ W hw (by decide)
        rwa [hr1] at this)
      have HR2 : Hid (∀ W, LW W → Calls Tryd.prog 16 #[.string ⟨#[39, 39]⟩] W fun e w' => e = .returned (.tuple #[V.val ⟨2, 0, ⟨#[]⟩⟩, .int .i64 0]) ∧ Below W.heap.size W w') := Lib.hid (fun W hw => by
        have := readW ⟨#[39, 39]⟩ W hw (by decide)
        rwa [hr2] at this)
      obtain ⟨L, hL⟩ : ∃ L, L = Lib.repeatL [97] 1001 := ⟨_, rfl⟩
      have hLl : L.length = 1001 := by rw [hL]; exact rep_len 1001
      have HR3 : Hid (∀ W, LW W → Calls Tryd.prog 16 #[.string ⟨(39 :: (L ++ [39])).toArray⟩] W fun e w' => e = .returned (.tuple #[V.val ⟨0, 0, ⟨#[]⟩⟩, .int .i64 3]) ∧ Below W.heap.size W w') := Lib.hid (fun W hw => by
        have := readW ⟨(39 :: (L ++ [39])).toArray⟩ W hw (by show (39 :: (L ++ [39])).length ≤ 1000000; simp only [List.length_cons, List.length_append, hLl, List.length_nil]; omega)
        rw [show readS (⟨(39 :: (L ++ [39])).toArray⟩ : ByteArray).data.toList = (V0, 3) by rw [hL]; exact read_rep (by decide)] at this
        exact this)
      have HRP : Hid (∀ W, Calls Tryd.prog 18 #[.string ⟨#[97]⟩, .int .i64 1001] W fun e w' => e = .returned (.string ⟨L.toArray⟩) ∧ Below W.heap.size W w') := Lib.hid (fun W => by
        have := Tryd.strings_Repeat ⟨#[97]⟩ 1001 W (by decide) (by decide)
        rw [hL]; exact this)
      have hc1 : ∀ W : World, (Op.stringOp .add ⟨#[39]⟩ ⟨L.toArray⟩).run Tryd.prog W = .ok (str (39 :: L)) W := fun W => (run_string_add_sum W _ _ (by have h1 : (ByteArray.mk #[39]).size = 1 := rfl; have h2 := str_size L; omega)).trans (by rw [show (ByteArray.mk #[39]) = ByteArray.mk [39].toArray from rfl, ByteArray.mk_append_mk]; rfl)
      have hc2 : ∀ W : World, (Op.stringOp .add ⟨(39 :: L).toArray⟩ ⟨#[39]⟩).run Tryd.prog W = .ok (str (39 :: (L ++ [39]))) W := fun W => (run_string_add_sum W _ _ (by have h1 : (ByteArray.mk #[39]).size = 1 := rfl; have h2 := str_size (39 :: L); rw [List.length_cons] at h2; omega)).trans (by rw [show (ByteArray.mk #[39]) = ByteArray.mk [39].toArray from rfl, ByteArray.mk_append_mk]; rfl)
      clear hL hLl hr1 hr2
      go_wp2_with fail
      refine (HR1.out _ (HW.out.later HBW.out)).mono ?_
      rintro e w9 ⟨rfl, hb9⟩
      have HB9 := Lib.hid (next HBW.out hb9)
      have HBA : Hid (Below w.heap.size w (w9.alloc (.cells #[.int .u8 0, .int .i64 0, .string ⟨#[]⟩] 27))) := Lib.hid (HB9.out.alloc HB9.out.size _)
      clear hb9
      go_wp2_with fail
      refine (HR2.out _ (HW.out.later HBA.out)).mono ?_
      rintro e w10 ⟨rfl, hb10⟩
      obtain ⟨x0, x1, x2⟩ := cells_V w9 w10 ⟨0, 0, ⟨#[]⟩⟩ _ hb10
      have HB10 := Lib.hid (next HBA.out hb10)
      have HBC : Hid (Below w.heap.size w (w10.alloc (.cells #[.int .u8 2, .int .i64 0, .string ⟨#[]⟩] 27))) := Lib.hid (HB10.out.alloc HB10.out.size _)
      clear hb10
      go_wp2_with fail
      refine (HRP.out _).mono ?_
      rintro e w11 ⟨rfl, hb11⟩
      obtain ⟨y0, y1, y2⟩ := cells_V w10 w11 ⟨2, 0, ⟨#[]⟩⟩ _ hb11
      replace x0 := (hb11.cell (cell_lt (cell_alloc_lt (cell_lt x0) ▸ x0))).trans ((cell_alloc_lt (cell_lt x0)).trans x0)
      replace x1 := (hb11.cell (cell_lt (cell_alloc_lt (cell_lt x1) ▸ x1))).trans ((cell_alloc_lt (cell_lt x1)).trans x1)
      replace x2 := (hb11.cell (cell_lt (cell_alloc_lt (cell_lt x2) ▸ x2))).trans ((cell_alloc_lt (cell_lt x2)).trans x2)
      have HB11 := Lib.hid (next HBC.out hb11)
      clear hb11
      go_wp2_with fail
      refine (HR3.out _ (HW.out.later HB11.out)).mono ?_
      rintro e w12 ⟨rfl, hb12⟩
      have HB12 := Lib.hid (next HB11.out hb12)
      replace x0 := (hb12.cell (cell_lt x0)).trans x0
      replace x1 := (hb12.cell (cell_lt x1)).trans x1
      replace x2 := (hb12.cell (cell_lt x2)).trans x2
      replace y0 := (hb12.cell (cell_lt y0)).trans y0
      replace y1 := (hb12.cell (cell_lt y1)).trans y1
      replace y2 := (hb12.cell (cell_lt y2)).trans y2
      have HBD : Hid (Below w.heap.size w (w12.alloc (.cells #[.int .u8 0, .int .i64 0, .string ⟨#[]⟩] 27))) := Lib.hid (HB12.out.alloc HB12.out.size _)
      clear hb12 hc1 hc2
      go_upto_region 11 with fail
      replace x0 := (cell_alloc_lt (o := .cells #[.int .u8 0, .int .i64 0, .string ⟨#[]⟩] 27) (cell_lt x0)).trans x0
      replace x1 := (cell_alloc_lt (o := .cells #[.int .u8 0, .int .i64 0, .string ⟨#[]⟩] 27) (cell_lt x1)).trans x1
      replace x2 := (cell_alloc_lt (o := .cells #[.int .u8 0, .int .i64 0, .string ⟨#[]⟩] 27) (cell_lt x2)).trans x2
      replace y0 := (cell_alloc_lt (o := .cells #[.int .u8 0, .int .i64 0, .string ⟨#[]⟩] 27) (cell_lt y0)).trans y0
      replace y1 := (cell_alloc_lt (o := .cells #[.int .u8 0, .int .i64 0, .string ⟨#[]⟩] 27) (cell_lt y1)).trans y1
      replace y2 := (cell_alloc_lt (o := .cells #[.int .u8 0, .int .i64 0, .string ⟨#[]⟩] 27) (cell_lt y2)).trans y2
      generalize w12.alloc (.cells #[.int .u8 0, .int .i64 0, .string ⟨#[]⟩] 27) = w13 at *
      generalize w9.heap.size = b5 at *
      generalize w10.heap.size = b7 at *
      have HWD := Lib.hid (HW.out.later HBD.out)
      refine wp_region_kip' KnownKn 120 (by simp) (by kernel_rfl) (by kernel_rfl) KnownKn.later ?_ ?_
      · intro i hi A W hother hbW hd
        match i, hi with
        | 0, hi =>
          have h5 := tmps_at (show A.eval (.tmp 5) = .pointer (some ⟨b5, 0, none⟩) from hother 5 (by kernel_rfl))
          have d0 := (hbW.cell (cell_lt x0)).trans x0
          have d1 := (hbW.cell (cell_lt x1)).trans x1
          have d2 := (hbW.cell (cell_lt x2)).trans x2
          clear hother hd hi
          exact kip_same rfl (wanted_none rfl) (V.val ⟨0, 0, ⟨#[]⟩⟩) (by simp only [execOp]; go_simp) rfl
        | 1, hi =>
          clear hother hd hi
          exact kip_same rfl (wanted_none rfl) (V.val ⟨0, 0, ⟨#[]⟩⟩) (by simp only [execOp]; go_simp) rfl
        | 2, hi =>
          have h45 := tmps_at ((hd _ rfl ⟨0, .data⟩ (by simp) rfl).eq (V.val ⟨0, 0, ⟨#[]⟩⟩) (fun _ h => h) 45 (by kernel_rfl) (by decide))
          have h46 := tmps_at ((hd _ rfl ⟨1, .data⟩ (by simp) rfl).eq (V.val ⟨0, 0, ⟨#[]⟩⟩) (fun _ h => h) 46 (by kernel_rfl) (by decide))
          have hq := eq_told ⟨0, 0, ⟨#[]⟩⟩ ⟨0, 0, ⟨#[]⟩⟩ true (by simp) W
          clear hother hd hi
          exact kip_same rfl (wanted_none rfl) (.bool true) (by simp only [execOp]; go_simp) rfl
        | 3, hi =>
          have h47 := tmps_at ((hd _ rfl ⟨2, .data⟩ (by simp) rfl).eq (.bool true) (fun _ h => h) 47 (by kernel_rfl) (by decide))
          clear hother hd hi
          exact kip_same rfl (wanted_none rfl) (.bool true) (by simp only [execOp]; go_simp) rfl
        | 4, hi =>
          have h6 := tmps_at (show A.eval (.tmp 6) = .int .i64 0 from hother 6 (by kernel_rfl))
          have hgd := (hd _ rfl ⟨3, .guard⟩ (by simp) rfl).eq (.bool true) (fun _ h => h) 48 (by kernel_rfl) (by decide)
          clear hother hd hi
          exact kip_same rfl (wanted_some rfl (by kernel_rfl) hgd) (.int .i64 0) (by simp only [execOp]; go_simp) rfl
        | 5, hi =>
          have h49 := tmps_at ((hd _ rfl ⟨4, .data⟩ (by simp) rfl).eq (.int .i64 0) (fun _ h => h) 49 (by kernel_rfl) (by decide))
          have hgd := (hd _ rfl ⟨3, .guard⟩ (by simp) rfl).eq (.bool true) (fun _ h => h) 48 (by kernel_rfl) (by decide)
          clear hother hd hi
          exact kip_same rfl (wanted_some rfl (by kernel_rfl) hgd) (.bool true) (by simp only [execOp]; go_simp) rfl
        | 6, hi =>
          have h48 := tmps_at ((hd _ rfl ⟨3, .data⟩ (by simp) rfl).eq (.bool true) (fun _ h => h) 48 (by kernel_rfl) (by decide))
          have h50 := tmps_at ((hd _ rfl ⟨5, .data⟩ (by simp) rfl).eq (.bool true) (fun _ h => h) 50 (by kernel_rfl) (by decide))
          clear hother hd hi
          exact kip_same rfl (wanted_none rfl) (.bool true) (by simp only [execOp]; go_simp) rfl
        | 7, hi =>
          have h51 := tmps_at ((hd _ rfl ⟨6, .data⟩ (by simp) rfl).eq (.bool true) (fun _ h => h) 51 (by kernel_rfl) (by decide))
          clear hother hd hi
          exact kip_same rfl (wanted_none rfl) (.bool true) (by simp only [execOp]; go_simp) rfl
        | 8, hi =>
          have h7 := tmps_at (show A.eval (.tmp 7) = .pointer (some ⟨b7, 0, none⟩) from hother 7 (by kernel_rfl))
          have hgd := (hd _ rfl ⟨7, .guard⟩ (by simp) rfl).eq (.bool true) (fun _ h => h) 52 (by kernel_rfl) (by decide)
          have d0 := (hbW.cell (cell_lt y0)).trans y0
          have d1 := (hbW.cell (cell_lt y1)).trans y1
          have d2 := (hbW.cell (cell_lt y2)).trans y2
          clear hother hd hi
          exact kip_same rfl (wanted_some rfl (by kernel_rfl) hgd) (V.val ⟨2, 0, ⟨#[]⟩⟩) (by simp only [execOp]; go_simp) rfl
        | 9, hi =>
          have hgd := (hd _ rfl ⟨7, .guard⟩ (by simp) rfl).eq (.bool true) (fun _ h => h) 52 (by kernel_rfl) (by decide)
          clear hother hd hi
          exact kip_call rfl (wanted_some rfl (by kernel_rfl) hgd) 19 #[.string ⟨#[]⟩] (by simp only [execOp]; go_simp) ((lawText ⟨#[]⟩ W).mono fun e w2 hh => ⟨⟨_, hh.1, rfl⟩, hh.2⟩)
        | 10, hi =>
          have h53 := tmps_at ((hd _ rfl ⟨8, .data⟩ (by simp) rfl).eq (V.val ⟨2, 0, ⟨#[]⟩⟩) (fun _ h => h) 53 (by kernel_rfl) (by decide))
          have h54 := tmps_at ((hd _ rfl ⟨9, .data⟩ (by simp) rfl).eq (V.val ⟨2, 0, ⟨#[]⟩⟩) (fun _ h => h) 54 (by kernel_rfl) (by decide))
          have hgd := (hd _ rfl ⟨7, .guard⟩ (by simp) rfl).eq (.bool true) (fun _ h => h) 52 (by kernel_rfl) (by decide)
          have hq := eq_told ⟨2, 0, ⟨#[]⟩⟩ ⟨2, 0, ⟨#[]⟩⟩ true (by simp) W
          clear hother hd hi
          exact kip_same rfl (wanted_some rfl (by kernel_rfl) hgd) (.bool true) (by simp only [execOp]; go_simp) rfl
        | 11, hi =>
          have h52 := tmps_at ((hd _ rfl ⟨7, .data⟩ (by simp) rfl).eq (.bool true) (fun _ h => h) 52 (by kernel_rfl) (by decide))
          have h55 := tmps_at ((hd _ rfl ⟨10, .data⟩ (by simp) rfl).eq (.bool true) (fun _ h => h) 55 (by kernel_rfl) (by decide))
          clear hother hd hi
          exact kip_same rfl (wanted_none rfl) (.bool true) (by simp only [execOp]; go_simp) rfl
        | 12, hi =>
          have h56 := tmps_at ((hd _ rfl ⟨11, .data⟩ (by simp) rfl).eq (.bool true) (fun _ h => h) 56 (by kernel_rfl) (by decide))
          clear hother hd hi
          exact kip_same rfl (wanted_none rfl) (.bool true) (by simp only [execOp]; go_simp) rfl
        | 13, hi =>
          have h8 := tmps_at (show A.eval (.tmp 8) = .int .i64 0 from hother 8 (by kernel_rfl))
          have hgd := (hd _ rfl ⟨12, .guard⟩ (by simp) rfl).eq (.bool true) (fun _ h => h) 57 (by kernel_rfl) (by decide)
          clear hother hd hi
          exact kip_same rfl (wanted_some rfl (by kernel_rfl) hgd) (.int .i64 0) (by simp only [execOp]; go_simp) rfl
        | 14, hi =>
          have h58 := tmps_at ((hd _ rfl ⟨13, .data⟩ (by simp) rfl).eq (.int .i64 0) (fun _ h => h) 58 (by kernel_rfl) (by decide))
          have hgd := (hd _ rfl ⟨12, .guard⟩ (by simp) rfl).eq (.bool true) (fun _ h => h) 57 (by kernel_rfl) (by decide)
          clear hother hd hi
          exact kip_same rfl (wanted_some rfl (by kernel_rfl) hgd) (.bool true) (by simp only [execOp]; go_simp) rfl
        | 15, hi =>
          have h57 := tmps_at ((hd _ rfl ⟨12, .data⟩ (by simp) rfl).eq (.bool true) (fun _ h => h) 57 (by kernel_rfl) (by decide))
          have h59 := tmps_at ((hd _ rfl ⟨14, .data⟩ (by simp) rfl).eq (.bool true) (fun _ h => h) 59 (by kernel_rfl) (by decide))
          clear hother hd hi
          exact kip_same rfl (wanted_none rfl) (.bool true) (by simp only [execOp]; go_simp) rfl
        | 16, hi =>
          have h60 := tmps_at ((hd _ rfl ⟨15, .data⟩ (by simp) rfl).eq (.bool true) (fun _ h => h) 60 (by kernel_rfl) (by decide))
          clear hother hd hi
          exact kip_same rfl (wanted_none rfl) (.bool true) (by simp only [execOp]; go_simp) rfl
        | 17, hi =>
          have h10 := tmps_at (show A.eval (.tmp 10) = .int .i64 3 from hother 10 (by kernel_rfl))
          have hgd := (hd _ rfl ⟨16, .guard⟩ (by simp) rfl).eq (.bool true) (fun _ h => h) 61 (by kernel_rfl) (by decide)
          clear hother hd hi
          exact kip_same rfl (wanted_some rfl (by kernel_rfl) hgd) (.int .i64 3) (by simp only [execOp]; go_simp) rfl
        | 18, hi =>
          have h62 := tmps_at ((hd _ rfl ⟨17, .data⟩ (by simp) rfl).eq (.int .i64 3) (fun _ h => h) 62 (by kernel_rfl) (by decide))
          have hgd := (hd _ rfl ⟨16, .guard⟩ (by simp) rfl).eq (.bool true) (fun _ h => h) 61 (by kernel_rfl) (by decide)
          clear hother hd hi
          exact kip_same rfl (wanted_some rfl (by kernel_rfl) hgd) (.bool true) (by simp only [execOp]; go_simp) rfl
        | 19, hi =>
          have h61 := tmps_at ((hd _ rfl ⟨16, .data⟩ (by simp) rfl).eq (.bool true) (fun _ h => h) 61 (by kernel_rfl) (by decide))
          have h63 := tmps_at ((hd _ rfl ⟨18, .data⟩ (by simp) rfl).eq (.bool true) (fun _ h => h) 63 (by kernel_rfl) (by decide))
          clear hother hd hi
          exact kip_same rfl (wanted_none rfl) (.bool true) (by simp only [execOp]; go_simp) rfl
        | 20, hi =>
          have h64 := tmps_at ((hd _ rfl ⟨19, .data⟩ (by simp) rfl).eq (.bool true) (fun _ h => h) 64 (by kernel_rfl) (by decide))
          clear hother hd hi
          exact kip_same rfl (wanted_none rfl) (.bool true) (by simp only [execOp]; go_simp) rfl
        | 21, hi =>
          have hgd := (hd _ rfl ⟨20, .guard⟩ (by simp) rfl).eq (.bool true) (fun _ h => h) 65 (by kernel_rfl) (by decide)
          clear hother hd hi
          exact kip_same rfl (wanted_some rfl (by kernel_rfl) hgd) (V.val ⟨0, 0, ⟨#[]⟩⟩) (by simp only [execOp]; go_simp) rfl
        | 22, hi =>
          have hgd := (hd _ rfl ⟨20, .guard⟩ (by simp) rfl).eq (.bool true) (fun _ h => h) 65 (by kernel_rfl) (by decide)
          clear hother hd hi
          exact kip_call rfl (wanted_some rfl (by kernel_rfl) hgd) 21 #[.int .i64 (0)] (by simp only [execOp]; go_simp) ((lawNumber (0) W).mono fun e w2 hh => ⟨⟨_, hh.1, rfl⟩, hh.2⟩)
        | 23, hi =>
          have h66 := tmps_at ((hd _ rfl ⟨21, .data⟩ (by simp) rfl).eq (V.val ⟨0, 0, ⟨#[]⟩⟩) (fun _ h => h) 66 (by kernel_rfl) (by decide))
          have h67 := tmps_at ((hd _ rfl ⟨22, .data⟩ (by simp) rfl).eq (V.val ⟨1, 0, ⟨#[]⟩⟩) (fun _ h => h) 67 (by kernel_rfl) (by decide))
          have hgd := (hd _ rfl ⟨20, .guard⟩ (by simp) rfl).eq (.bool true) (fun _ h => h) 65 (by kernel_rfl) (by decide)
          clear hother hd hi
          exact kip_call rfl (wanted_some rfl (by kernel_rfl) hgd) 20 #[V.val ⟨0, 0, ⟨#[]⟩⟩, V.val ⟨1, 0, ⟨#[]⟩⟩] (by simp only [execOp]; go_simp) ((cmpAt ⟨0, 0, ⟨#[]⟩⟩ ⟨1, 0, ⟨#[]⟩⟩ (-1) (by decide +kernel) W).mono fun e w2 hh => ⟨⟨_, hh.1, rfl⟩, hh.2⟩)
        | 24, hi =>
          have h68 := tmps_at ((hd _ rfl ⟨23, .data⟩ (by simp) rfl).eq (.int .i64 (-1)) (fun _ h => h) 68 (by kernel_rfl) (by decide))
          have hgd := (hd _ rfl ⟨20, .guard⟩ (by simp) rfl).eq (.bool true) (fun _ h => h) 65 (by kernel_rfl) (by decide)
          clear hother hd hi
          exact kip_same rfl (wanted_some rfl (by kernel_rfl) hgd) (.bool true) (by simp only [execOp]; go_simp) rfl
        | 25, hi =>
          have h65 := tmps_at ((hd _ rfl ⟨20, .data⟩ (by simp) rfl).eq (.bool true) (fun _ h => h) 65 (by kernel_rfl) (by decide))
          have h69 := tmps_at ((hd _ rfl ⟨24, .data⟩ (by simp) rfl).eq (.bool true) (fun _ h => h) 69 (by kernel_rfl) (by decide))
          clear hother hd hi
          exact kip_same rfl (wanted_none rfl) (.bool true) (by simp only [execOp]; go_simp) rfl
        | 26, hi =>
          have h70 := tmps_at ((hd _ rfl ⟨25, .data⟩ (by simp) rfl).eq (.bool true) (fun _ h => h) 70 (by kernel_rfl) (by decide))
          clear hother hd hi
          exact kip_same rfl (wanted_none rfl) (.bool true) (by simp only [execOp]; go_simp) rfl
        | 27, hi =>
          have hgd := (hd _ rfl ⟨26, .guard⟩ (by simp) rfl).eq (.bool true) (fun _ h => h) 71 (by kernel_rfl) (by decide)
          clear hother hd hi
          exact kip_call rfl (wanted_some rfl (by kernel_rfl) hgd) 21 #[.int .i64 (9)] (by simp only [execOp]; go_simp) ((lawNumber (9) W).mono fun e w2 hh => ⟨⟨_, hh.1, rfl⟩, hh.2⟩)
        | 28, hi =>
          have hgd := (hd _ rfl ⟨26, .guard⟩ (by simp) rfl).eq (.bool true) (fun _ h => h) 71 (by kernel_rfl) (by decide)
          clear hother hd hi
          exact kip_call rfl (wanted_some rfl (by kernel_rfl) hgd) 19 #[.string ⟨#[]⟩] (by simp only [execOp]; go_simp) ((lawText ⟨#[]⟩ W).mono fun e w2 hh => ⟨⟨_, hh.1, rfl⟩, hh.2⟩)
        | 29, hi =>
          have h72 := tmps_at ((hd _ rfl ⟨27, .data⟩ (by simp) rfl).eq (V.val ⟨1, 9, ⟨#[]⟩⟩) (fun _ h => h) 72 (by kernel_rfl) (by decide))
          have h73 := tmps_at ((hd _ rfl ⟨28, .data⟩ (by simp) rfl).eq (V.val ⟨2, 0, ⟨#[]⟩⟩) (fun _ h => h) 73 (by kernel_rfl) (by decide))
          have hgd := (hd _ rfl ⟨26, .guard⟩ (by simp) rfl).eq (.bool true) (fun _ h => h) 71 (by kernel_rfl) (by decide)
          clear hother hd hi
          exact kip_call rfl (wanted_some rfl (by kernel_rfl) hgd) 20 #[V.val ⟨1, 9, ⟨#[]⟩⟩, V.val ⟨2, 0, ⟨#[]⟩⟩] (by simp only [execOp]; go_simp) ((cmpAt ⟨1, 9, ⟨#[]⟩⟩ ⟨2, 0, ⟨#[]⟩⟩ (-1) (by decide +kernel) W).mono fun e w2 hh => ⟨⟨_, hh.1, rfl⟩, hh.2⟩)
        | 30, hi =>
          have h74 := tmps_at ((hd _ rfl ⟨29, .data⟩ (by simp) rfl).eq (.int .i64 (-1)) (fun _ h => h) 74 (by kernel_rfl) (by decide))
          have hgd := (hd _ rfl ⟨26, .guard⟩ (by simp) rfl).eq (.bool true) (fun _ h => h) 71 (by kernel_rfl) (by decide)
          clear hother hd hi
          exact kip_same rfl (wanted_some rfl (by kernel_rfl) hgd) (.bool true) (by simp only [execOp]; go_simp) rfl
        | 31, hi =>
          have h71 := tmps_at ((hd _ rfl ⟨26, .data⟩ (by simp) rfl).eq (.bool true) (fun _ h => h) 71 (by kernel_rfl) (by decide))
          have h75 := tmps_at ((hd _ rfl ⟨30, .data⟩ (by simp) rfl).eq (.bool true) (fun _ h => h) 75 (by kernel_rfl) (by decide))
          clear hother hd hi
          exact kip_same rfl (wanted_none rfl) (.bool true) (by simp only [execOp]; go_simp) rfl
        | 32, hi =>
          have h76 := tmps_at ((hd _ rfl ⟨31, .data⟩ (by simp) rfl).eq (.bool true) (fun _ h => h) 76 (by kernel_rfl) (by decide))
          clear hother hd hi
          exact kip_same rfl (wanted_none rfl) (.bool true) (by simp only [execOp]; go_simp) rfl
        | 33, hi =>
          have hgd := (hd _ rfl ⟨32, .guard⟩ (by simp) rfl).eq (.bool true) (fun _ h => h) 77 (by kernel_rfl) (by decide)
          clear hother hd hi
          exact kip_call rfl (wanted_some rfl (by kernel_rfl) hgd) 19 #[.string ⟨#[98]⟩] (by simp only [execOp]; go_simp) ((lawText ⟨#[98]⟩ W).mono fun e w2 hh => ⟨⟨_, hh.1, rfl⟩, hh.2⟩)
        | 34, hi =>
          have hgd := (hd _ rfl ⟨32, .guard⟩ (by simp) rfl).eq (.bool true) (fun _ h => h) 77 (by kernel_rfl) (by decide)
          clear hother hd hi
          exact kip_call rfl (wanted_some rfl (by kernel_rfl) hgd) 19 #[.string ⟨#[97]⟩] (by simp only [execOp]; go_simp) ((lawText ⟨#[97]⟩ W).mono fun e w2 hh => ⟨⟨_, hh.1, rfl⟩, hh.2⟩)
        | 35, hi =>
          have h78 := tmps_at ((hd _ rfl ⟨33, .data⟩ (by simp) rfl).eq (V.val ⟨2, 0, ⟨#[98]⟩⟩) (fun _ h => h) 78 (by kernel_rfl) (by decide))
          have h79 := tmps_at ((hd _ rfl ⟨34, .data⟩ (by simp) rfl).eq (V.val ⟨2, 0, ⟨#[97]⟩⟩) (fun _ h => h) 79 (by kernel_rfl) (by decide))
          have hgd := (hd _ rfl ⟨32, .guard⟩ (by simp) rfl).eq (.bool true) (fun _ h => h) 77 (by kernel_rfl) (by decide)
          clear hother hd hi
          exact kip_call rfl (wanted_some rfl (by kernel_rfl) hgd) 20 #[V.val ⟨2, 0, ⟨#[98]⟩⟩, V.val ⟨2, 0, ⟨#[97]⟩⟩] (by simp only [execOp]; go_simp) ((cmpAt ⟨2, 0, ⟨#[98]⟩⟩ ⟨2, 0, ⟨#[97]⟩⟩ (1) (by decide +kernel) W).mono fun e w2 hh => ⟨⟨_, hh.1, rfl⟩, hh.2⟩)
        | 36, hi =>
          have h80 := tmps_at ((hd _ rfl ⟨35, .data⟩ (by simp) rfl).eq (.int .i64 (1)) (fun _ h => h) 80 (by kernel_rfl) (by decide))
          have hgd := (hd _ rfl ⟨32, .guard⟩ (by simp) rfl).eq (.bool true) (fun _ h => h) 77 (by kernel_rfl) (by decide)
          clear hother hd hi
          exact kip_same rfl (wanted_some rfl (by kernel_rfl) hgd) (.bool true) (by simp only [execOp]; go_simp) rfl
        | 37, hi =>
          have h77 := tmps_at ((hd _ rfl ⟨32, .data⟩ (by simp) rfl).eq (.bool true) (fun _ h => h) 77 (by kernel_rfl) (by decide))
          have h81 := tmps_at ((hd _ rfl ⟨36, .data⟩ (by simp) rfl).eq (.bool true) (fun _ h => h) 81 (by kernel_rfl) (by decide))
          clear hother hd hi
          exact kip_same rfl (wanted_none rfl) (.bool true) (by simp only [execOp]; go_simp) rfl
        | 38, hi =>
          have h82 := tmps_at ((hd _ rfl ⟨37, .data⟩ (by simp) rfl).eq (.bool true) (fun _ h => h) 82 (by kernel_rfl) (by decide))
          clear hother hd hi
          exact kip_same rfl (wanted_none rfl) (.bool true) (by simp only [execOp]; go_simp) rfl
        | 39, hi =>
          have hgd := (hd _ rfl ⟨38, .guard⟩ (by simp) rfl).eq (.bool true) (fun _ h => h) 83 (by kernel_rfl) (by decide)
          clear hother hd hi
          exact kip_call rfl (wanted_some rfl (by kernel_rfl) hgd) 21 #[.int .i64 (1)] (by simp only [execOp]; go_simp) ((lawNumber (1) W).mono fun e w2 hh => ⟨⟨_, hh.1, rfl⟩, hh.2⟩)
        | 40, hi =>
          have hgd := (hd _ rfl ⟨38, .guard⟩ (by simp) rfl).eq (.bool true) (fun _ h => h) 83 (by kernel_rfl) (by decide)
          clear hother hd hi
          exact kip_call rfl (wanted_some rfl (by kernel_rfl) hgd) 21 #[.int .i64 (2)] (by simp only [execOp]; go_simp) ((lawNumber (2) W).mono fun e w2 hh => ⟨⟨_, hh.1, rfl⟩, hh.2⟩)
        | 41, hi =>
          have h84 := tmps_at ((hd _ rfl ⟨39, .data⟩ (by simp) rfl).eq (V.val ⟨1, 1, ⟨#[]⟩⟩) (fun _ h => h) 84 (by kernel_rfl) (by decide))
          have h85 := tmps_at ((hd _ rfl ⟨40, .data⟩ (by simp) rfl).eq (V.val ⟨1, 2, ⟨#[]⟩⟩) (fun _ h => h) 85 (by kernel_rfl) (by decide))
          have hgd := (hd _ rfl ⟨38, .guard⟩ (by simp) rfl).eq (.bool true) (fun _ h => h) 83 (by kernel_rfl) (by decide)
          clear hother hd hi
          exact kip_val rfl (wanted_some rfl (by kernel_rfl) hgd) (.slice (some ⟨W.heap.size, 0, none⟩) 2 2) (W.alloc (.cells #[.int .u8 1, .int .i64 1, .string ⟨#[]⟩, .int .u8 1, .int .i64 2, .string ⟨#[]⟩] 27)) (by simp only [execOp]; go_simp) ((Below.refl _ _).alloc (Nat.le_refl _) _) ⟨_, rfl, by go_simp, by go_simp, by go_simp, by go_simp, by go_simp, by go_simp⟩
        | 42, hi =>
          have hgd := (hd _ rfl ⟨38, .guard⟩ (by simp) rfl).eq (.bool true) (fun _ h => h) 83 (by kernel_rfl) (by decide)
          clear hother hd hi
          exact kip_call rfl (wanted_some rfl (by kernel_rfl) hgd) 21 #[.int .i64 (1)] (by simp only [execOp]; go_simp) ((lawNumber (1) W).mono fun e w2 hh => ⟨⟨_, hh.1, rfl⟩, hh.2⟩)
        | 43, hi =>
          have h87 := tmps_at ((hd _ rfl ⟨42, .data⟩ (by simp) rfl).eq (V.val ⟨1, 1, ⟨#[]⟩⟩) (fun _ h => h) 87 (by kernel_rfl) (by decide))
          have hgd := (hd _ rfl ⟨38, .guard⟩ (by simp) rfl).eq (.bool true) (fun _ h => h) 83 (by kernel_rfl) (by decide)
          clear hother hd hi
          exact kip_val rfl (wanted_some rfl (by kernel_rfl) hgd) (.slice (some ⟨W.heap.size, 0, none⟩) 1 1) (W.alloc (.cells #[.int .u8 1, .int .i64 1, .string ⟨#[]⟩] 27)) (by simp only [execOp]; go_simp) ((Below.refl _ _).alloc (Nat.le_refl _) _) ⟨_, rfl, by go_simp, by go_simp, by go_simp⟩
        | 44, hi =>
          obtain ⟨bv41, ⟨bx41, be41, bc41_0, bc41_1, bc41_2, bc41_3, bc41_4, bc41_5⟩, hx41⟩ := (hd _ rfl ⟨41, .data⟩ (by simp) rfl).get 86 (by kernel_rfl) (by decide)
          rw [be41] at hx41
          have hy41 := tmps_at hx41
          obtain ⟨bv43, ⟨bx43, be43, bc43_0, bc43_1, bc43_2⟩, hx43⟩ := (hd _ rfl ⟨43, .data⟩ (by simp) rfl).get 88 (by kernel_rfl) (by decide)
          rw [be43] at hx43
          have hy43 := tmps_at hx43
          have hgd := (hd _ rfl ⟨38, .guard⟩ (by simp) rfl).eq (.bool true) (fun _ h => h) 83 (by kernel_rfl) (by decide)
          clear hother hd hi
          exact kip_call rfl (wanted_some rfl (by kernel_rfl) hgd) 13 #[.slice (some ⟨bx41, 0, none⟩) 2 2, .slice (some ⟨bx43, 0, none⟩) 1 1] (by simp only [execOp]; go_simp) ((rowsAt (vsAt2 (x := ⟨1, 1, ⟨#[]⟩⟩) (y := ⟨1, 2, ⟨#[]⟩⟩) ⟨bc41_0, bc41_1, bc41_2⟩ bc41_3 bc41_4 bc41_5) (vsAt1 (x := ⟨1, 1, ⟨#[]⟩⟩) ⟨bc43_0, bc43_1, bc43_2⟩) (by decide) (by decide) 1 (by decide +kernel)).mono fun e w2 hh => ⟨⟨_, hh.1, rfl⟩, hh.2⟩)
        | 45, hi =>
          have h89 := tmps_at ((hd _ rfl ⟨44, .data⟩ (by simp) rfl).eq (.int .i64 1) (fun _ h => h) 89 (by kernel_rfl) (by decide))
          have hgd := (hd _ rfl ⟨38, .guard⟩ (by simp) rfl).eq (.bool true) (fun _ h => h) 83 (by kernel_rfl) (by decide)
          clear hother hd hi
          exact kip_same rfl (wanted_some rfl (by kernel_rfl) hgd) (.bool true) (by simp only [execOp]; go_simp) rfl
        | 46, hi =>
          have h83 := tmps_at ((hd _ rfl ⟨38, .data⟩ (by simp) rfl).eq (.bool true) (fun _ h => h) 83 (by kernel_rfl) (by decide))
          have h90 := tmps_at ((hd _ rfl ⟨45, .data⟩ (by simp) rfl).eq (.bool true) (fun _ h => h) 90 (by kernel_rfl) (by decide))
          clear hother hd hi
          exact kip_same rfl (wanted_none rfl) (.bool true) (by simp only [execOp]; go_simp) rfl
        | 47, hi =>
          have h91 := tmps_at ((hd _ rfl ⟨46, .data⟩ (by simp) rfl).eq (.bool true) (fun _ h => h) 91 (by kernel_rfl) (by decide))
          clear hother hd hi
          exact kip_same rfl (wanted_none rfl) (.bool true) (by simp only [execOp]; go_simp) rfl
        | 48, hi =>
          have hgd := (hd _ rfl ⟨47, .guard⟩ (by simp) rfl).eq (.bool true) (fun _ h => h) 92 (by kernel_rfl) (by decide)
          clear hother hd hi
          exact kip_same rfl (wanted_some rfl (by kernel_rfl) hgd) (V.val ⟨0, 0, ⟨#[]⟩⟩) (by simp only [execOp]; go_simp) rfl
        | 49, hi =>
          have h93 := tmps_at ((hd _ rfl ⟨48, .data⟩ (by simp) rfl).eq (V.val ⟨0, 0, ⟨#[]⟩⟩) (fun _ h => h) 93 (by kernel_rfl) (by decide))
          have hgd := (hd _ rfl ⟨47, .guard⟩ (by simp) rfl).eq (.bool true) (fun _ h => h) 92 (by kernel_rfl) (by decide)
          clear hother hd hi
          exact kip_val rfl (wanted_some rfl (by kernel_rfl) hgd) (.slice (some ⟨W.heap.size, 0, none⟩) 1 1) (W.alloc (.cells #[.int .u8 0, .int .i64 0, .string ⟨#[]⟩] 27)) (by simp only [execOp]; go_simp) ((Below.refl _ _).alloc (Nat.le_refl _) _) ⟨_, rfl, by go_simp, by go_simp, by go_simp⟩
        | 50, hi =>
          have hgd := (hd _ rfl ⟨47, .guard⟩ (by simp) rfl).eq (.bool true) (fun _ h => h) 92 (by kernel_rfl) (by decide)
          clear hother hd hi
          exact kip_same rfl (wanted_some rfl (by kernel_rfl) hgd) (V.val ⟨0, 0, ⟨#[]⟩⟩) (by simp only [execOp]; go_simp) rfl
        | 51, hi =>
          have h95 := tmps_at ((hd _ rfl ⟨50, .data⟩ (by simp) rfl).eq (V.val ⟨0, 0, ⟨#[]⟩⟩) (fun _ h => h) 95 (by kernel_rfl) (by decide))
          have hgd := (hd _ rfl ⟨47, .guard⟩ (by simp) rfl).eq (.bool true) (fun _ h => h) 92 (by kernel_rfl) (by decide)
          clear hother hd hi
          exact kip_val rfl (wanted_some rfl (by kernel_rfl) hgd) (.slice (some ⟨W.heap.size, 0, none⟩) 1 1) (W.alloc (.cells #[.int .u8 0, .int .i64 0, .string ⟨#[]⟩] 27)) (by simp only [execOp]; go_simp) ((Below.refl _ _).alloc (Nat.le_refl _) _) ⟨_, rfl, by go_simp, by go_simp, by go_simp⟩
        | 52, hi =>
          obtain ⟨bv49, ⟨bx49, be49, bc49_0, bc49_1, bc49_2⟩, hx49⟩ := (hd _ rfl ⟨49, .data⟩ (by simp) rfl).get 94 (by kernel_rfl) (by decide)
          rw [be49] at hx49
          have hy49 := tmps_at hx49
          obtain ⟨bv51, ⟨bx51, be51, bc51_0, bc51_1, bc51_2⟩, hx51⟩ := (hd _ rfl ⟨51, .data⟩ (by simp) rfl).get 96 (by kernel_rfl) (by decide)
          rw [be51] at hx51
          have hy51 := tmps_at hx51
          have hgd := (hd _ rfl ⟨47, .guard⟩ (by simp) rfl).eq (.bool true) (fun _ h => h) 92 (by kernel_rfl) (by decide)
          clear hother hd hi
          exact kip_call rfl (wanted_some rfl (by kernel_rfl) hgd) 13 #[.slice (some ⟨bx49, 0, none⟩) 1 1, .slice (some ⟨bx51, 0, none⟩) 1 1] (by simp only [execOp]; go_simp) ((rowsAt (vsAt1 (x := ⟨0, 0, ⟨#[]⟩⟩) ⟨bc49_0, bc49_1, bc49_2⟩) (vsAt1 (x := ⟨0, 0, ⟨#[]⟩⟩) ⟨bc51_0, bc51_1, bc51_2⟩) (by decide) (by decide) 0 (by decide +kernel)).mono fun e w2 hh => ⟨⟨_, hh.1, rfl⟩, hh.2⟩)
        | 53, hi =>
          have h97 := tmps_at ((hd _ rfl ⟨52, .data⟩ (by simp) rfl).eq (.int .i64 0) (fun _ h => h) 97 (by kernel_rfl) (by decide))
          have hgd := (hd _ rfl ⟨47, .guard⟩ (by simp) rfl).eq (.bool true) (fun _ h => h) 92 (by kernel_rfl) (by decide)
          clear hother hd hi
          exact kip_same rfl (wanted_some rfl (by kernel_rfl) hgd) (.bool true) (by simp only [execOp]; go_simp) rfl
        | 54, hi =>
          have h92 := tmps_at ((hd _ rfl ⟨47, .data⟩ (by simp) rfl).eq (.bool true) (fun _ h => h) 92 (by kernel_rfl) (by decide))
          have h98 := tmps_at ((hd _ rfl ⟨53, .data⟩ (by simp) rfl).eq (.bool true) (fun _ h => h) 98 (by kernel_rfl) (by decide))
          clear hother hd hi
          exact kip_same rfl (wanted_none rfl) (.bool true) (by simp only [execOp]; go_simp) rfl
        | 55, hi =>
          have h99 := tmps_at ((hd _ rfl ⟨54, .data⟩ (by simp) rfl).eq (.bool true) (fun _ h => h) 99 (by kernel_rfl) (by decide))
          clear hother hd hi
          exact kip_same rfl (wanted_none rfl) (.bool true) (by simp only [execOp]; go_simp) rfl
        | 56, hi =>
          have hgd := (hd _ rfl ⟨55, .guard⟩ (by simp) rfl).eq (.bool true) (fun _ h => h) 100 (by kernel_rfl) (by decide)
          clear hother hd hi
          exact kip_call rfl (wanted_some rfl (by kernel_rfl) hgd) 21 #[.int .i64 (-9223372036854775808)] (by simp only [execOp]; go_simp) ((lawNumber (-9223372036854775808) W).mono fun e w2 hh => ⟨⟨_, hh.1, rfl⟩, hh.2⟩)
        | 57, hi =>
          have h101 := tmps_at ((hd _ rfl ⟨56, .data⟩ (by simp) rfl).eq (V.val ⟨1, -9223372036854775808, ⟨#[]⟩⟩) (fun _ h => h) 101 (by kernel_rfl) (by decide))
          have hgd := (hd _ rfl ⟨55, .guard⟩ (by simp) rfl).eq (.bool true) (fun _ h => h) 100 (by kernel_rfl) (by decide)
          clear hother hd hi
          exact kip_call rfl (wanted_some rfl (by kernel_rfl) hgd) 17 #[V.val ⟨1, -9223372036854775808, ⟨#[]⟩⟩] (by simp only [execOp]; go_simp) ((litAt ⟨1, -9223372036854775808, ⟨#[]⟩⟩ [45, 57, 50, 50, 51, 51, 55, 50, 48, 51, 54, 56, 53, 52, 55, 55, 53, 56, 48, 56] ((litV_num _).trans itoa_min) ⟨by show 1 < 256; decide, ⟨by decide, by decide⟩, Nat.zero_le _⟩ (by decide) W (HWD.out.later hbW)).mono fun e w2 hh => ⟨⟨_, hh.1, rfl⟩, hh.2⟩)
        | 58, hi =>
          have h102 := tmps_at ((hd _ rfl ⟨57, .data⟩ (by simp) rfl).eq (str [45, 57, 50, 50, 51, 51, 55, 50, 48, 51, 54, 56, 53, 52, 55, 55, 53, 56, 48, 56]) (fun _ h => h) 102 (by kernel_rfl) (by decide))
          have hgd := (hd _ rfl ⟨55, .guard⟩ (by simp) rfl).eq (.bool true) (fun _ h => h) 100 (by kernel_rfl) (by decide)
          clear hother hd hi
          exact kip_same rfl (wanted_some rfl (by kernel_rfl) hgd) (.bool true) (by simp only [execOp]; go_simp) rfl
        | 59, hi =>
          have h100 := tmps_at ((hd _ rfl ⟨55, .data⟩ (by simp) rfl).eq (.bool true) (fun _ h => h) 100 (by kernel_rfl) (by decide))
          have h103 := tmps_at ((hd _ rfl ⟨58, .data⟩ (by simp) rfl).eq (.bool true) (fun _ h => h) 103 (by kernel_rfl) (by decide))
          clear hother hd hi
          exact kip_same rfl (wanted_none rfl) (.bool true) (by simp only [execOp]; go_simp) rfl
        | 60, hi =>
          have h104 := tmps_at ((hd _ rfl ⟨59, .data⟩ (by simp) rfl).eq (.bool true) (fun _ h => h) 104 (by kernel_rfl) (by decide))
          clear hother hd hi
          exact kip_same rfl (wanted_none rfl) (.bool true) (by simp only [execOp]; go_simp) rfl
        | 61, hi =>
          have hgd := (hd _ rfl ⟨60, .guard⟩ (by simp) rfl).eq (.bool true) (fun _ h => h) 105 (by kernel_rfl) (by decide)
          clear hother hd hi
          exact kip_call rfl (wanted_some rfl (by kernel_rfl) hgd) 19 #[.string ⟨#[105, 116, 39, 115]⟩] (by simp only [execOp]; go_simp) ((lawText ⟨#[105, 116, 39, 115]⟩ W).mono fun e w2 hh => ⟨⟨_, hh.1, rfl⟩, hh.2⟩)
        | 62, hi =>
          have h106 := tmps_at ((hd _ rfl ⟨61, .data⟩ (by simp) rfl).eq (V.val ⟨2, 0, ⟨#[105, 116, 39, 115]⟩⟩) (fun _ h => h) 106 (by kernel_rfl) (by decide))
          have hgd := (hd _ rfl ⟨60, .guard⟩ (by simp) rfl).eq (.bool true) (fun _ h => h) 105 (by kernel_rfl) (by decide)
          clear hother hd hi
          exact kip_call rfl (wanted_some rfl (by kernel_rfl) hgd) 17 #[V.val ⟨2, 0, ⟨#[105, 116, 39, 115]⟩⟩] (by simp only [execOp]; go_simp) ((litAt ⟨2, 0, ⟨#[105, 116, 39, 115]⟩⟩ [39, 105, 116, 39, 39, 115, 39] (by decide +kernel) (ok23 2 _ (by decide) (by decide)) (by decide) W (HWD.out.later hbW)).mono fun e w2 hh => ⟨⟨_, hh.1, rfl⟩, hh.2⟩)
        | 63, hi =>
          have h107 := tmps_at ((hd _ rfl ⟨62, .data⟩ (by simp) rfl).eq (str [39, 105, 116, 39, 39, 115, 39]) (fun _ h => h) 107 (by kernel_rfl) (by decide))
          have hgd := (hd _ rfl ⟨60, .guard⟩ (by simp) rfl).eq (.bool true) (fun _ h => h) 105 (by kernel_rfl) (by decide)
          clear hother hd hi
          exact kip_same rfl (wanted_some rfl (by kernel_rfl) hgd) (.bool true) (by simp only [execOp]; go_simp) rfl
        | 64, hi =>
          have h105 := tmps_at ((hd _ rfl ⟨60, .data⟩ (by simp) rfl).eq (.bool true) (fun _ h => h) 105 (by kernel_rfl) (by decide))
          have h108 := tmps_at ((hd _ rfl ⟨63, .data⟩ (by simp) rfl).eq (.bool true) (fun _ h => h) 108 (by kernel_rfl) (by decide))
          clear hother hd hi
          exact kip_same rfl (wanted_none rfl) (.bool true) (by simp only [execOp]; go_simp) rfl
        | 65, hi =>
          have h109 := tmps_at ((hd _ rfl ⟨64, .data⟩ (by simp) rfl).eq (.bool true) (fun _ h => h) 109 (by kernel_rfl) (by decide))
          clear hother hd hi
          exact kip_same rfl (wanted_none rfl) (.bool true) (by simp only [execOp]; go_simp) rfl
        | 66, hi =>
          have hgd := (hd _ rfl ⟨65, .guard⟩ (by simp) rfl).eq (.bool true) (fun _ h => h) 110 (by kernel_rfl) (by decide)
          clear hother hd hi
          exact kip_call rfl (wanted_some rfl (by kernel_rfl) hgd) 22 #[.string ⟨#[0, 255]⟩] (by simp only [execOp]; go_simp) ((lawBlob ⟨#[0, 255]⟩ W).mono fun e w2 hh => ⟨⟨_, hh.1, rfl⟩, hh.2⟩)
        | 67, hi =>
          have h111 := tmps_at ((hd _ rfl ⟨66, .data⟩ (by simp) rfl).eq (V.val ⟨3, 0, ⟨#[0, 255]⟩⟩) (fun _ h => h) 111 (by kernel_rfl) (by decide))
          have hgd := (hd _ rfl ⟨65, .guard⟩ (by simp) rfl).eq (.bool true) (fun _ h => h) 110 (by kernel_rfl) (by decide)
          clear hother hd hi
          exact kip_call rfl (wanted_some rfl (by kernel_rfl) hgd) 17 #[V.val ⟨3, 0, ⟨#[0, 255]⟩⟩] (by simp only [execOp]; go_simp) ((litAt ⟨3, 0, ⟨#[0, 255]⟩⟩ [120, 39, 48, 48, 102, 102, 39] (by decide +kernel) (ok23 3 _ (by decide) (by decide)) (by decide) W (HWD.out.later hbW)).mono fun e w2 hh => ⟨⟨_, hh.1, rfl⟩, hh.2⟩)
        | 68, hi =>
          have h112 := tmps_at ((hd _ rfl ⟨67, .data⟩ (by simp) rfl).eq (str [120, 39, 48, 48, 102, 102, 39]) (fun _ h => h) 112 (by kernel_rfl) (by decide))
          have hgd := (hd _ rfl ⟨65, .guard⟩ (by simp) rfl).eq (.bool true) (fun _ h => h) 110 (by kernel_rfl) (by decide)
          clear hother hd hi
          exact kip_same rfl (wanted_some rfl (by kernel_rfl) hgd) (.bool true) (by simp only [execOp]; go_simp) rfl
        | 69, hi =>
          have h110 := tmps_at ((hd _ rfl ⟨65, .data⟩ (by simp) rfl).eq (.bool true) (fun _ h => h) 110 (by kernel_rfl) (by decide))
          have h113 := tmps_at ((hd _ rfl ⟨68, .data⟩ (by simp) rfl).eq (.bool true) (fun _ h => h) 113 (by kernel_rfl) (by decide))
          clear hother hd hi
          exact kip_same rfl (wanted_none rfl) (.bool true) (by simp only [execOp]; go_simp) rfl
        | 70, hi =>
          have h114 := tmps_at ((hd _ rfl ⟨69, .data⟩ (by simp) rfl).eq (.bool true) (fun _ h => h) 114 (by kernel_rfl) (by decide))
          clear hother hd hi
          exact kip_same rfl (wanted_none rfl) (.bool true) (by simp only [execOp]; go_simp) rfl
        | 71, hi =>
          have hgd := (hd _ rfl ⟨70, .guard⟩ (by simp) rfl).eq (.bool true) (fun _ h => h) 115 (by kernel_rfl) (by decide)
          clear hother hd hi
          exact kip_same rfl (wanted_some rfl (by kernel_rfl) hgd) (V.val ⟨0, 0, ⟨#[]⟩⟩) (by simp only [execOp]; go_simp) rfl
        | 72, hi =>
          have h116 := tmps_at ((hd _ rfl ⟨71, .data⟩ (by simp) rfl).eq (V.val ⟨0, 0, ⟨#[]⟩⟩) (fun _ h => h) 116 (by kernel_rfl) (by decide))
          have hgd := (hd _ rfl ⟨70, .guard⟩ (by simp) rfl).eq (.bool true) (fun _ h => h) 115 (by kernel_rfl) (by decide)
          clear hother hd hi
          exact kip_call rfl (wanted_some rfl (by kernel_rfl) hgd) 17 #[V.val ⟨0, 0, ⟨#[]⟩⟩] (by simp only [execOp]; go_simp) ((litAt ⟨0, 0, ⟨#[]⟩⟩ [78, 85, 76, 76] (by decide +kernel) (ok23 0 _ (by decide) (by decide)) (by decide) W (HWD.out.later hbW)).mono fun e w2 hh => ⟨⟨_, hh.1, rfl⟩, hh.2⟩)
        | 73, hi =>
          have h117 := tmps_at ((hd _ rfl ⟨72, .data⟩ (by simp) rfl).eq (str [78, 85, 76, 76]) (fun _ h => h) 117 (by kernel_rfl) (by decide))
          have hgd := (hd _ rfl ⟨70, .guard⟩ (by simp) rfl).eq (.bool true) (fun _ h => h) 115 (by kernel_rfl) (by decide)
          clear hother hd hi
          exact kip_same rfl (wanted_some rfl (by kernel_rfl) hgd) (.bool true) (by simp only [execOp]; go_simp) rfl
        | 74, hi =>
          have h115 := tmps_at ((hd _ rfl ⟨70, .data⟩ (by simp) rfl).eq (.bool true) (fun _ h => h) 115 (by kernel_rfl) (by decide))
          have h118 := tmps_at ((hd _ rfl ⟨73, .data⟩ (by simp) rfl).eq (.bool true) (fun _ h => h) 118 (by kernel_rfl) (by decide))
          clear hother hd hi
          exact kip_same rfl (wanted_none rfl) (.bool true) (by simp only [execOp]; go_simp) rfl
        | 75, hi =>
          have h119 := tmps_at ((hd _ rfl ⟨74, .data⟩ (by simp) rfl).eq (.bool true) (fun _ h => h) 119 (by kernel_rfl) (by decide))
          clear hother hd hi
          exact kip_same rfl (wanted_none rfl) (.bool true) (by simp only [execOp]; go_simp) rfl
        | n + 76, hi => simp at hi; omega
      intro F w14 hb14 hh hdf hsz
      have h0 : F.eval (.tmp 0) = .bool true := hh 75 0 (by simp) (by kernel_rfl) (show 0 < 120 by decide)
      have HBE := Lib.hid (next HBD.out hb14)
      clear hh hb14 x0 x1 x2 y0 y1 y2
      go_wp2_with fail
      refine bodyPost_ret (results_tmp rfl F.tmps Tryd.prog w14) hdf ⟨?_, HBE.out⟩
      exact congrArg Ending.returned h0

theorem own : ownKnob Tryd.prog.godebug = none := by kernel_rfl
theorem laid : laidOutB Tryd.prog = true := by kernel_rfl
def laidD : List (String × DataW Unit) := [("math/bits.deBruijn32tab", Rows.laid_math_bits_deBruijn32tab), ("math/bits.deBruijn64tab", Rows.laid_math_bits_deBruijn64tab), ("internal/strconv.uint64pow10", Rows.laid_internal_strconv_uint64pow10), ("unicode/utf8.acceptRanges", Rows.laid_unicode_utf8_acceptRanges), ("strconv.ErrRange", Rows.laid_strconv_ErrRange), ("strconv.ErrSyntax", Rows.laid_strconv_ErrSyntax), ("unicode/utf8.first", Rows.laid_unicode_utf8_first)]

set_option maxRecDepth 100000 in
theorem opened {H : Type} (enc : TypeId × Value → H) (W : World) (args : Array Value) (ds : List (DataW H)) (p : List MemPlace) (hsh : W.ShapedOpen Tryd.prog) (hL : laidMetH Tryd.prog laidD W) :
    Lift.Owes enc Tryd.prog 5 Tryd.f5.params.toList W args ds p := by
  have HL := Lib.hid hL
  clear hL
  intro hA hval hsz _
  rw [Tryd.params5] at hA hval hsz
  obtain ⟨rfl, rfl, rfl⟩ := trodAll_none hA
  exact walk  W (lw hsh HL.out) 

set_option maxRecDepth 100000 in
theorem lifted (os : Os) (started : os.Started) (H : Type) (enc : TypeId × Value → H) :
    ReturnsInHanded {} Tryd.checked os 5 .any (fun w args => (Rows.valueKnownSpec.pre enc Tryd.prog Tryd.f5 [] false w args ∧ laidMetH Tryd.prog laidD w) ∧ sizedMet enc Tryd.prog Tryd.f5 (OpenSpec.ofChange Rows.valueKnownSpec) false w args)
      (Rows.valueKnownSpec.post enc Tryd.prog Tryd.f5 false true false false) := by
  refine Lift.liftedD (C := Tryd.checked) (X := fun w _ => laidMetH Tryd.prog laidD w) (fun _ _ _ hh h => h.of_heap hh) own started (by kernel_rfl) Tryd.func5
    (ChangeSpec.witness_shaped (enc := enc) (C := Tryd.checked) (os := os) (X := fun w _ => laidMetH Tryd.prog laidD w) false (World.laidAll Tryd.prog os laidD) #[] 8 (World.laidAll_os _ _ _)
      (World.shaped_of_ZipB (by kernel_rfl) (by kernel_rfl)) (by kernel_rfl) (by kernel_rfl) (by kernel_rfl)
      (by rw [MakeChecks.laidMetH_plain _ _ _ (by kernel_rfl)]; exact laidMet_laidAll _ (by kernel_rfl) (by kernel_rfl)))
    laid (by rw [Tryd.params5]; intro t ht; simp at ht; skip) rfl 4 rfl Tryd.underlying4
    (fun ds hds => by match ds, hds with | [], _ => rfl) (fun W args ds p hsh hL => opened enc W args ds p hsh hL)

theorem row_said : Rows.ValueKnownSaid :=
  OpenClaim.holds_of_wide 5 Tryd.f5 rfl rfl rfl rfl rfl rfl rfl ⟨rfl, rfl, rfl, rfl, rfl⟩ rfl rfl rfl rfl rfl (by kernel_rfl) Tryd.func5 (by kernel_rfl)
    (of_decide_eq_true (by kernel_rfl)) (by unfold Func.isWrapper; first | (rw [if_pos (by decide +kernel)]; kernel_rfl) | (rw [if_neg (by decide +kernel)]; exact ⟨rfl, rfl⟩))
    (fun os started H enc _ => lifted os started H enc)

theorem said : Rows.ValueKnownCardSaid :=
  Claim7.holds_tied_plain_at .later [] [.data, .data, .data, .data, .sentinel, .sentinel, .pinned] true (true, "beeeb87dc6d8e7c394a9af8ed07e7d2b6f4d2f56e63b48bb337aad32e36f280c") true
    row_said (fun _ h => by cases h) (by kernel_rfl) (fun _ h => by cases h) valueKnown_row_tie rfl ⟨rfl, rfl⟩ (by kernel_rfl) rfl
    (fun f fn hf hfn => by
      obtain rfl : f = 5 := Option.some.inj ((show Tryd.prog.funcNamed "counterfoil/counterfoillaw07.ValueKnown" = some 5 by kernel_rfl).symm.trans hf) |>.symm
      obtain rfl : fn = Tryd.f5 := (Option.some.inj (Tryd.func5.symm.trans hfn)).symm
      exact ⟨by kernel_rfl, fun j t ht => by
        rw [Tryd.params5] at ht
        simp at ht⟩)
    (by kernel_rfl)
#print axioms said
end Go.Proofs.YtghfaeapgghhlaaDoor.ValueKnown
