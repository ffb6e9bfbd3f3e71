/-
  The law's own works: values are ordered, written and read.
-/
import Derived.Test.YtghfaeapgghhlaaDoorValTop
import Derived.Test.YtghfaeapgghhlaaDoorValRows
namespace Go.Proofs.YtghfaeapgghhlaaDoor.Dt
open Go.RowKit Go.Proofs.YtghfaeapgghhlaaDoor.By

theorem lawText (s : ByteArray) (w : World) : Calls Tryd.prog 19 #[.string s] w fun e w' => e = .returned (V.val ⟨2, 0, s⟩) ∧ Below w.heap.size w w' := by
  go_enter Tryd.func19, Tryd.ntmps19
  go_wp2_with fail
  refine bodyPost_ret (v := V.val ⟨2, 0, s⟩) (by simp [results, Tryd.results19, go_sem]; try rfl) rfl ⟨rfl, ?_⟩
  go_grown
theorem lawNumber (n : Int) (w : World) : Calls Tryd.prog 21 #[.int .i64 n] w fun e w' => e = .returned (V.val ⟨1, n, ⟨#[]⟩⟩) ∧ Below w.heap.size w w' := by
  go_enter Tryd.func21, Tryd.ntmps21
  go_wp2_with fail
  refine bodyPost_ret (v := V.val ⟨1, n, ⟨#[]⟩⟩) (by simp [results, Tryd.results21, go_sem]; try rfl) rfl ⟨rfl, ?_⟩
  go_grown
theorem lawCmp (w : World) : Calls Tryd.prog 20 #[V.val ⟨1, 2, ⟨#[]⟩⟩, V.val ⟨1, 10, ⟨#[]⟩⟩] w fun e w' => e = .returned (.int .i64 (-1)) ∧ Below w.heap.size w w' := compare ⟨1, 2, ⟨#[]⟩⟩ ⟨1, 10, ⟨#[]⟩⟩ w
theorem litV_num (n : Int) : litV ⟨1, n, ⟨#[]⟩⟩ = Lib.itoa n := by
  have hc : checkV ⟨1, n, ⟨#[]⟩⟩ = 0 := check_ok (not_bad1 n) (Nat.zero_le _)
  unfold litV
  rw [if_neg (by simp [hc]), if_pos rfl]
theorem itoa_m3 : Lib.itoa (-3) = [45, 51] := by
  rw [show (-3 : Int) = -((3 : Nat) : Int) from rfl, Lib.itoa_neg 3 (by decide), dec_small (by decide)]; rfl
theorem lawLit (w : World) (hw : LW w) : Calls Tryd.prog 17 #[V.val ⟨1, -3, ⟨#[]⟩⟩] w fun e w' => e = .returned (str [45, 51]) ∧ Below w.heap.size w w' := by
  have h := literalW ⟨1, -3, ⟨#[]⟩⟩ w hw ⟨by show 1 < 256; decide, ⟨by decide, by decide⟩, Nat.zero_le _⟩ (Nat.zero_le _)
  rwa [litV_num, itoa_m3] at h
theorem lawCheck (w : World) : Calls Tryd.prog 14 #[V.val ⟨0, 1, ⟨#[]⟩⟩] w fun e w' => e = .returned (.int .i64 2) ∧ Below w.heap.size w w' := by
  have h := check ⟨0, 1, ⟨#[]⟩⟩ w (by show 0 < 256; decide) (Nat.zero_le _)
  rwa [show checkV ⟨0, 1, ⟨#[]⟩⟩ = 2 by unfold checkV; rw [if_pos (.inr (.inl ⟨by decide, by decide⟩))]] at h
theorem lawRows (b : Nat) (w : World) (h0 : w.cell? ⟨b, 0, none⟩ = some (.int .u8 0)) (h1 : w.cell? ⟨b, 1, none⟩ = some (.int .i64 0)) (h2 : w.cell? ⟨b, 2, none⟩ = some (.string ⟨#[]⟩)) :
    Calls Tryd.prog 13 #[.slice (some ⟨b, 0, none⟩) 1 1, .slice none 0 0] w fun e w' => e = .returned (.int .i64 1) ∧ Below w.heap.size w w' := by
  have hat : VsAt w (.slice (some ⟨b, 0, none⟩) 1 1) [V0] := by
    refine ⟨_, _, rfl, Nat.le_refl _, fun i x hx => ⟨b, 0, rfl, fun j u hu => ?_⟩⟩
    rcases i with _ | i
    · obtain rfl := Option.some.inj hx
      rcases j with _ | _ | _ | j
      · obtain rfl := Option.some.inj hu; exact h0
      · obtain rfl := Option.some.inj hu; exact h1
      · obtain rfl := Option.some.inj hu; exact h2
      · simp [V.cells] at hu
    · simp at hx
  exact rowsW _ _ [V0] [] w hat (SlAt.nil _ _ _) (by decide) (by decide)
def WorksKn : Nat → Value → World → Prop
  | 0, v, _ => v = V.val ⟨2, 0, ⟨#[97, 39]⟩⟩
  | 1, v, _ => v = V.val ⟨2, 0, ⟨#[97, 39]⟩⟩
  | 2, v, _ => v = .bool true
  | 3, v, _ => v = .bool true
  | 4, v, _ => v = .int .i64 0
  | 5, v, _ => v = .bool true
  | 6, v, _ => v = .bool true
  | 7, v, _ => v = .bool true
  | 8, v, _ => v = V.val ⟨1, 2, ⟨#[]⟩⟩
  | 9, v, _ => v = V.val ⟨1, 10, ⟨#[]⟩⟩
  | 10, v, _ => v = .int .i64 (-1)
  | 11, v, _ => v = .bool true
  | 12, v, _ => v = .bool true
  | 13, v, _ => v = .bool true
  | 14, v, _ => v = V.val ⟨1, -3, ⟨#[]⟩⟩
  | 15, v, _ => v = str [45, 51]
  | 16, v, _ => v = .bool true
  | 17, v, _ => v = .bool true
  | 18, v, _ => v = .bool true
  | 19, v, _ => v = V.val ⟨0, 1, ⟨#[]⟩⟩
  | 20, v, _ => v = .int .i64 2
  | 21, v, _ => v = .bool true
  | 22, v, _ => v = .bool true
  | 23, v, _ => v = .bool true
  | 24, v, _ => v = V.val ⟨0, 0, ⟨#[]⟩⟩
  | 25, v, w => ∃ b, v = .slice (some ⟨b, 0, none⟩) 1 1 ∧ w.cell? ⟨b, 0, none⟩ = some (.int .u8 0) ∧ w.cell? ⟨b, 1, none⟩ = some (.int .i64 0) ∧ w.cell? ⟨b, 2, none⟩ = some (.string ⟨#[]⟩)
  | 26, v, _ => v = .int .i64 1
  | 27, v, _ => v = .bool true
  | 28, v, _ => v = .bool true
  | 29, v, _ => v = .bool true
  | _, _, _ => True
theorem WorksKn.later : ∀ (j : Nat) (v : Value) (w1 w2 : World), WorksKn  j v w1 → Below w1.heap.size w1 w2 → WorksKn  j v w2
  | 0, _, _, _, h, _ => h
  | 1, _, _, _, h, _ => h
  | 2, _, _, _, h, _ => h
  | 3, _, _, _, h, _ => h
  | 4, _, _, _, h, _ => h
  | 5, _, _, _, h, _ => h
  | 6, _, _, _, h, _ => h
  | 7, _, _, _, h, _ => h
  | 8, _, _, _, h, _ => h
  | 9, _, _, _, h, _ => h
  | 10, _, _, _, h, _ => h
  | 11, _, _, _, h, _ => h
  | 12, _, _, _, h, _ => h
  | 13, _, _, _, h, _ => h
  | 14, _, _, _, h, _ => h
  | 15, _, _, _, h, _ => h
  | 16, _, _, _, h, _ => h
  | 17, _, _, _, h, _ => h
  | 18, _, _, _, h, _ => h
  | 19, _, _, _, h, _ => h
  | 20, _, _, _, h, _ => h
  | 21, _, _, _, h, _ => h
  | 22, _, _, _, h, _ => h
  | 23, _, _, _, h, _ => h
  | 24, _, _, _, h, _ => h
  | 25, _, _, _, ⟨b, h0, c0, c1, c2⟩, hb => ⟨b, h0, (hb.cell (cell_lt c0)).trans c0, (hb.cell (cell_lt c1)).trans c1, (hb.cell (cell_lt c2)).trans c2⟩
  | 26, _, _, _, h, _ => h
  | 27, _, _, _, h, _ => h
  | 28, _, _, _, h, _ => h
  | 29, _, _, _, h, _ => h
  | _ + 30, _, _, _, h, _ => h

set_option maxRecDepth 100000 in
set_option maxHeartbeats 8000000 in
theorem works (w : World) (hw : LW w) : Calls Tryd.prog 11 #[] w fun e w' => e = .returned (.bool true) ∧ Below w.heap.size w w' := by
  have hr : readS (⟨#[39, 97, 39, 39, 39]⟩ : ByteArray).data.toList = (⟨2, 0, ⟨#[97, 39]⟩⟩, 0) := by kernel_rfl
  have hrd := readW ⟨#[39, 97, 39, 39, 39]⟩ w hw (by decide)
  rw [hr] at hrd
  have HRD := Lib.hid hrd
  have HW0 := Lib.hid hw
  clear hr hrd hw
  go_enter Tryd.func11, Tryd.ntmps11
  go_wp2_with fail
  refine HRD.out.mono ?_
  rintro e w1 ⟨rfl, hb1⟩
  have HB1 := Lib.hid hb1
  clear hb1 HRD
  go_upto_region 2 with fail
  have c0 : (w1.alloc (.cells #[.int .u8 2, .int .i64 0, .string ⟨#[97, 39]⟩] 27)).cell? ⟨w1.heap.size, 0, none⟩ = some (.int .u8 2) := by go_simp
  have c1 : (w1.alloc (.cells #[.int .u8 2, .int .i64 0, .string ⟨#[97, 39]⟩] 27)).cell? ⟨w1.heap.size, 1, none⟩ = some (.int .i64 0) := by go_simp
  have c2 : (w1.alloc (.cells #[.int .u8 2, .int .i64 0, .string ⟨#[97, 39]⟩] 27)).cell? ⟨w1.heap.size, 2, none⟩ = some (.string ⟨#[97, 39]⟩) := by go_simp
  have HB2 : Hid (Below w.heap.size w (w1.alloc (.cells #[.int .u8 2, .int .i64 0, .string ⟨#[97, 39]⟩] 27))) := Lib.hid (HB1.out.alloc HB1.out.size _)
  generalize w1.alloc (.cells #[.int .u8 2, .int .i64 0, .string ⟨#[97, 39]⟩] 27) = w2 at *
  generalize w1.heap.size = b at *
  have HW := Lib.hid (HW0.out.later HB2.out)
  refine wp_region_kip WorksKn 36 (by simp) (by kernel_rfl) (by kernel_rfl) WorksKn.later ?_ ?_
  · intro i hi A W hother hbW hd
    match i, hi with
    | 0, hi =>
      have h1 := tmps_at (show A.eval (.tmp 1) = .pointer (some ⟨b, 0, none⟩) from hother 1 (by kernel_rfl))
      have d0 := (hbW.cell (cell_lt c0)).trans c0
      have d1 := (hbW.cell (cell_lt c1)).trans c1
      have d2 := (hbW.cell (cell_lt c2)).trans c2
      clear hother hd hi
      exact kip_same rfl (wanted_none rfl) (V.val ⟨2, 0, ⟨#[97, 39]⟩⟩) (by simp only [execOp]; go_simp) rfl
    | 1, hi =>
      clear hother hd hi
      exact kip_call rfl (wanted_none rfl) 19 #[.string ⟨#[97, 39]⟩] (by simp only [execOp]; go_simp) ((lawText ⟨#[97, 39]⟩ W).mono fun e w2 hh => ⟨⟨_, hh.1, rfl⟩, hh.2⟩)
    | 2, hi =>
      have h7 := tmps_at ((hd _ rfl ⟨0, .data⟩ (by simp) rfl).eq (V.val ⟨2, 0, ⟨#[97, 39]⟩⟩) (fun _ h => h) 7 (by kernel_rfl) (by decide))
      have h8 := tmps_at ((hd _ rfl ⟨1, .data⟩ (by simp) rfl).eq (V.val ⟨2, 0, ⟨#[97, 39]⟩⟩) (fun _ h => h) 8 (by kernel_rfl) (by decide))
      have hq := eq_told ⟨2, 0, ⟨#[97, 39]⟩⟩ ⟨2, 0, ⟨#[97, 39]⟩⟩ true (by simp) W
      clear hother hd hi
      exact kip_same rfl (wanted_none rfl) (.bool true) (by simp only [execOp]; go_simp) rfl
    | 3, hi =>
      have h9 := tmps_at ((hd _ rfl ⟨2, .data⟩ (by simp) rfl).eq (.bool true) (fun _ h => h) 9 (by kernel_rfl) (by decide))
      clear hother hd hi
      exact kip_same rfl (wanted_none rfl) (.bool true) (by simp only [execOp]; go_simp) rfl
    | 4, hi =>
      have h2 := tmps_at (show A.eval (.tmp 2) = .int .i64 0 from hother 2 (by kernel_rfl))
      have hgd := (hd _ rfl ⟨3, .guard⟩ (by simp) rfl).eq (.bool true) (fun _ h => h) 10 (by kernel_rfl) (by decide)
      clear hother hd hi
      exact kip_same rfl (wanted_some rfl (by kernel_rfl) hgd) (.int .i64 0) (by simp only [execOp]; go_simp) rfl
    | 5, hi =>
      have h11 := tmps_at ((hd _ rfl ⟨4, .data⟩ (by simp) rfl).eq (.int .i64 0) (fun _ h => h) 11 (by kernel_rfl) (by decide))
      have hgd := (hd _ rfl ⟨3, .guard⟩ (by simp) rfl).eq (.bool true) (fun _ h => h) 10 (by kernel_rfl) (by decide)
      clear hother hd hi
      exact kip_same rfl (wanted_some rfl (by kernel_rfl) hgd) (.bool true) (by simp only [execOp]; go_simp) rfl
    | 6, hi =>
      have h10 := tmps_at ((hd _ rfl ⟨3, .data⟩ (by simp) rfl).eq (.bool true) (fun _ h => h) 10 (by kernel_rfl) (by decide))
      have h12 := tmps_at ((hd _ rfl ⟨5, .data⟩ (by simp) rfl).eq (.bool true) (fun _ h => h) 12 (by kernel_rfl) (by decide))
      clear hother hd hi
      exact kip_same rfl (wanted_none rfl) (.bool true) (by simp only [execOp]; go_simp) rfl
    | 7, hi =>
      have h13 := tmps_at ((hd _ rfl ⟨6, .data⟩ (by simp) rfl).eq (.bool true) (fun _ h => h) 13 (by kernel_rfl) (by decide))
      clear hother hd hi
      exact kip_same rfl (wanted_none rfl) (.bool true) (by simp only [execOp]; go_simp) rfl
    | 8, hi =>
      have hgd := (hd _ rfl ⟨7, .guard⟩ (by simp) rfl).eq (.bool true) (fun _ h => h) 14 (by kernel_rfl) (by decide)
      clear hother hd hi
      exact kip_call rfl (wanted_some rfl (by kernel_rfl) hgd) 21 #[.int .i64 (2)] (by simp only [execOp]; go_simp) ((lawNumber (2) W).mono fun e w2 hh => ⟨⟨_, hh.1, rfl⟩, hh.2⟩)
    | 9, hi =>
      have hgd := (hd _ rfl ⟨7, .guard⟩ (by simp) rfl).eq (.bool true) (fun _ h => h) 14 (by kernel_rfl) (by decide)
      clear hother hd hi
      exact kip_call rfl (wanted_some rfl (by kernel_rfl) hgd) 21 #[.int .i64 (10)] (by simp only [execOp]; go_simp) ((lawNumber (10) W).mono fun e w2 hh => ⟨⟨_, hh.1, rfl⟩, hh.2⟩)
    | 10, hi =>
      have h15 := tmps_at ((hd _ rfl ⟨8, .data⟩ (by simp) rfl).eq (V.val ⟨1, 2, ⟨#[]⟩⟩) (fun _ h => h) 15 (by kernel_rfl) (by decide))
      have h16 := tmps_at ((hd _ rfl ⟨9, .data⟩ (by simp) rfl).eq (V.val ⟨1, 10, ⟨#[]⟩⟩) (fun _ h => h) 16 (by kernel_rfl) (by decide))
      have hgd := (hd _ rfl ⟨7, .guard⟩ (by simp) rfl).eq (.bool true) (fun _ h => h) 14 (by kernel_rfl) (by decide)
      clear hother hd hi
      exact kip_call rfl (wanted_some rfl (by kernel_rfl) hgd) 20 #[V.val ⟨1, 2, ⟨#[]⟩⟩, V.val ⟨1, 10, ⟨#[]⟩⟩] (by simp only [execOp]; go_simp) ((lawCmp W).mono fun e w2 hh => ⟨⟨_, hh.1, rfl⟩, hh.2⟩)
    | 11, hi =>
      have h17 := tmps_at ((hd _ rfl ⟨10, .data⟩ (by simp) rfl).eq (.int .i64 (-1)) (fun _ h => h) 17 (by kernel_rfl) (by decide))
      have hgd := (hd _ rfl ⟨7, .guard⟩ (by simp) rfl).eq (.bool true) (fun _ h => h) 14 (by kernel_rfl) (by decide)
      clear hother hd hi
      exact kip_same rfl (wanted_some rfl (by kernel_rfl) hgd) (.bool true) (by simp only [execOp]; go_simp) rfl
    | 12, hi =>
      have h14 := tmps_at ((hd _ rfl ⟨7, .data⟩ (by simp) rfl).eq (.bool true) (fun _ h => h) 14 (by kernel_rfl) (by decide))
      have h18 := tmps_at ((hd _ rfl ⟨11, .data⟩ (by simp) rfl).eq (.bool true) (fun _ h => h) 18 (by kernel_rfl) (by decide))
      clear hother hd hi
      exact kip_same rfl (wanted_none rfl) (.bool true) (by simp only [execOp]; go_simp) rfl
    | 13, hi =>
      have h19 := tmps_at ((hd _ rfl ⟨12, .data⟩ (by simp) rfl).eq (.bool true) (fun _ h => h) 19 (by kernel_rfl) (by decide))
      clear hother hd hi
      exact kip_same rfl (wanted_none rfl) (.bool true) (by simp only [execOp]; go_simp) rfl
    | 14, hi =>
      have hgd := (hd _ rfl ⟨13, .guard⟩ (by simp) rfl).eq (.bool true) (fun _ h => h) 20 (by kernel_rfl) (by decide)
      clear hother hd hi
      exact kip_call rfl (wanted_some rfl (by kernel_rfl) hgd) 21 #[.int .i64 (-3)] (by simp only [execOp]; go_simp) ((lawNumber (-3) W).mono fun e w2 hh => ⟨⟨_, hh.1, rfl⟩, hh.2⟩)
    | 15, hi =>
      have h21 := tmps_at ((hd _ rfl ⟨14, .data⟩ (by simp) rfl).eq (V.val ⟨1, -3, ⟨#[]⟩⟩) (fun _ h => h) 21 (by kernel_rfl) (by decide))
      have hgd := (hd _ rfl ⟨13, .guard⟩ (by simp) rfl).eq (.bool true) (fun _ h => h) 20 (by kernel_rfl) (by decide)
      clear hother hd hi
      exact kip_call rfl (wanted_some rfl (by kernel_rfl) hgd) 17 #[V.val ⟨1, -3, ⟨#[]⟩⟩] (by simp only [execOp]; go_simp) ((lawLit W (HW.out.later hbW)).mono fun e w2 hh => ⟨⟨_, hh.1, rfl⟩, hh.2⟩)
    | 16, hi =>
      have h22 := tmps_at ((hd _ rfl ⟨15, .data⟩ (by simp) rfl).eq (str [45, 51]) (fun _ h => h) 22 (by kernel_rfl) (by decide))
      have hgd := (hd _ rfl ⟨13, .guard⟩ (by simp) rfl).eq (.bool true) (fun _ h => h) 20 (by kernel_rfl) (by decide)
      clear hother hd hi
      exact kip_same rfl (wanted_some rfl (by kernel_rfl) hgd) (.bool true) (by simp only [execOp]; go_simp) rfl
    | 17, hi =>
      have h20 := tmps_at ((hd _ rfl ⟨13, .data⟩ (by simp) rfl).eq (.bool true) (fun _ h => h) 20 (by kernel_rfl) (by decide))
      have h23 := tmps_at ((hd _ rfl ⟨16, .data⟩ (by simp) rfl).eq (.bool true) (fun _ h => h) 23 (by kernel_rfl) (by decide))
      clear hother hd hi
      exact kip_same rfl (wanted_none rfl) (.bool true) (by simp only [execOp]; go_simp) rfl
    | 18, hi =>
      have h24 := tmps_at ((hd _ rfl ⟨17, .data⟩ (by simp) rfl).eq (.bool true) (fun _ h => h) 24 (by kernel_rfl) (by decide))
      clear hother hd hi
      exact kip_same rfl (wanted_none rfl) (.bool true) (by simp only [execOp]; go_simp) rfl
    | 19, hi =>
      have hgd := (hd _ rfl ⟨18, .guard⟩ (by simp) rfl).eq (.bool true) (fun _ h => h) 25 (by kernel_rfl) (by decide)
      clear hother hd hi
      exact kip_same rfl (wanted_some rfl (by kernel_rfl) hgd) (V.val ⟨0, 1, ⟨#[]⟩⟩) (by simp only [execOp]; go_simp) rfl
    | 20, hi =>
      have h26 := tmps_at ((hd _ rfl ⟨19, .data⟩ (by simp) rfl).eq (V.val ⟨0, 1, ⟨#[]⟩⟩) (fun _ h => h) 26 (by kernel_rfl) (by decide))
      have hgd := (hd _ rfl ⟨18, .guard⟩ (by simp) rfl).eq (.bool true) (fun _ h => h) 25 (by kernel_rfl) (by decide)
      clear hother hd hi
      exact kip_call rfl (wanted_some rfl (by kernel_rfl) hgd) 14 #[V.val ⟨0, 1, ⟨#[]⟩⟩] (by simp only [execOp]; go_simp) ((lawCheck W).mono fun e w2 hh => ⟨⟨_, hh.1, rfl⟩, hh.2⟩)
    | 21, hi =>
      have h27 := tmps_at ((hd _ rfl ⟨20, .data⟩ (by simp) rfl).eq (.int .i64 2) (fun _ h => h) 27 (by kernel_rfl) (by decide))
      have hgd := (hd _ rfl ⟨18, .guard⟩ (by simp) rfl).eq (.bool true) (fun _ h => h) 25 (by kernel_rfl) (by decide)
      clear hother hd hi
      exact kip_same rfl (wanted_some rfl (by kernel_rfl) hgd) (.bool true) (by simp only [execOp]; go_simp) rfl
    | 22, hi =>
      have h25 := tmps_at ((hd _ rfl ⟨18, .data⟩ (by simp) rfl).eq (.bool true) (fun _ h => h) 25 (by kernel_rfl) (by decide))
      have h28 := tmps_at ((hd _ rfl ⟨21, .data⟩ (by simp) rfl).eq (.bool true) (fun _ h => h) 28 (by kernel_rfl) (by decide))
      clear hother hd hi
      exact kip_same rfl (wanted_none rfl) (.bool true) (by simp only [execOp]; go_simp) rfl
    | 23, hi =>
      have h29 := tmps_at ((hd _ rfl ⟨22, .data⟩ (by simp) rfl).eq (.bool true) (fun _ h => h) 29 (by kernel_rfl) (by decide))
      clear hother hd hi
      exact kip_same rfl (wanted_none rfl) (.bool true) (by simp only [execOp]; go_simp) rfl
    | 24, hi =>
      have hgd := (hd _ rfl ⟨23, .guard⟩ (by simp) rfl).eq (.bool true) (fun _ h => h) 30 (by kernel_rfl) (by decide)
      clear hother hd hi
      exact kip_same rfl (wanted_some rfl (by kernel_rfl) hgd) (V.val ⟨0, 0, ⟨#[]⟩⟩) (by simp only [execOp]; go_simp) rfl
    | 25, hi =>
      have h31 := tmps_at ((hd _ rfl ⟨24, .data⟩ (by simp) rfl).eq (V.val ⟨0, 0, ⟨#[]⟩⟩) (fun _ h => h) 31 (by kernel_rfl) (by decide))
      have hgd := (hd _ rfl ⟨23, .guard⟩ (by simp) rfl).eq (.bool true) (fun _ h => h) 30 (by kernel_rfl) (by decide)
      clear hother hd hi
      exact kip_val rfl (wanted_some rfl (by kernel_rfl) hgd) (.slice (some ⟨W.heap.size, 0, none⟩) 1 1) (W.alloc (.cells #[.int .u8 0, .int .i64 0, .string ⟨#[]⟩] 27)) (by simp only [execOp]; go_simp) ((Below.refl _ _).alloc (Nat.le_refl _) _) ⟨_, rfl, by go_simp, by go_simp, by go_simp⟩
    | 26, hi =>
      obtain ⟨bv25, ⟨bx25, be25, bc25_0, bc25_1, bc25_2⟩, hx25⟩ := (hd _ rfl ⟨25, .data⟩ (by simp) rfl).get 32 (by kernel_rfl) (by decide)
      rw [be25] at hx25
      have hy25 := tmps_at hx25
      have hgd := (hd _ rfl ⟨23, .guard⟩ (by simp) rfl).eq (.bool true) (fun _ h => h) 30 (by kernel_rfl) (by decide)
      clear hother hd hi
      exact kip_call rfl (wanted_some rfl (by kernel_rfl) hgd) 13 #[.slice (some ⟨bx25, 0, none⟩) 1 1, .slice none 0 0] (by simp only [execOp]; go_simp) ((lawRows bx25 W bc25_0 bc25_1 bc25_2).mono fun e w2 hh => ⟨⟨_, hh.1, rfl⟩, hh.2⟩)
    | 27, hi =>
      have h33 := tmps_at ((hd _ rfl ⟨26, .data⟩ (by simp) rfl).eq (.int .i64 1) (fun _ h => h) 33 (by kernel_rfl) (by decide))
      have hgd := (hd _ rfl ⟨23, .guard⟩ (by simp) rfl).eq (.bool true) (fun _ h => h) 30 (by kernel_rfl) (by decide)
      clear hother hd hi
      exact kip_same rfl (wanted_some rfl (by kernel_rfl) hgd) (.bool true) (by simp only [execOp]; go_simp) rfl
    | 28, hi =>
      have h30 := tmps_at ((hd _ rfl ⟨23, .data⟩ (by simp) rfl).eq (.bool true) (fun _ h => h) 30 (by kernel_rfl) (by decide))
      have h34 := tmps_at ((hd _ rfl ⟨27, .data⟩ (by simp) rfl).eq (.bool true) (fun _ h => h) 34 (by kernel_rfl) (by decide))
      clear hother hd hi
      exact kip_same rfl (wanted_none rfl) (.bool true) (by simp only [execOp]; go_simp) rfl
    | 29, hi =>
      have h35 := tmps_at ((hd _ rfl ⟨28, .data⟩ (by simp) rfl).eq (.bool true) (fun _ h => h) 35 (by kernel_rfl) (by decide))
      clear hother hd hi
      exact kip_same rfl (wanted_none rfl) (.bool true) (by simp only [execOp]; go_simp) rfl
    | n + 30, hi => simp at hi; omega
  · intro us W hbW hk
    have h29 : us 29 = .bool true := hk 29 (by decide)
    have HB3 := Lib.hid (next HB2.out hbW)
    clear hk hbW c0 c1 c2
    simp only [List.length_cons, List.length_nil, Nat.zero_add, Nat.reduceAdd, putAll, dstOf, List.getElem?_toArray, List.getElem?_cons_zero, List.getElem?_cons_succ, Option.bind_some, Act.put, h29]
    simp only [List.setIfInBounds_toArray, List.set_cons_zero, List.set_cons_succ]
    go_wp2_with fail
    refine bodyPost_ret (v := .bool true) (by simp [results, Tryd.results11, go_sem]) rfl ⟨rfl, HB3.out⟩
end Go.Proofs.YtghfaeapgghhlaaDoor.Dt
