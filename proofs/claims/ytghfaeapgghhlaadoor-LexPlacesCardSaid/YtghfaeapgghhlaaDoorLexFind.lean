/-
  The words of the language, and whether a text is one of them: strings.Fields, slices.BinarySearch at texts.
-/
import Derived.Test.YtghfaeapgghhlaaDoorLexW
import Derived.Shelf.Spec.SearchS
namespace Go.Proofs.YtghfaeapgghhlaaDoor.Dt
open Go.RowKit Go.Proofs.YtghfaeapgghhlaaDoor.By

def renB : Go.Shelf.Ren := ⟨fun | 26 => 107 | 33 => 128 | 34 => 129 | 38 => 142 | n => n, fun | 0 => 0 | 3 => 3 | 4 => 4 | 9 => 9 | 24 => 36 | 40 => 77 | n => n, fun n => n⟩
set_option maxRecDepth 100000 in
theorem laysB : Go.Proofs.Lays2.n26 Tryd.prog renB := {
  mixed := by kernel_rfl
  f26 := Tryd.func107.trans (congrArg some (by kernel_rfl))
  f33 := Tryd.func128.trans (congrArg some (by kernel_rfl))
  f34 := Tryd.func129.trans (congrArg some (by kernel_rfl))
  f38 := Tryd.func142.trans (congrArg some (by kernel_rfl))
  t0 := Tryd.underlying0
  a0 := Tryd.isAgg0
  z0 := Tryd.sizeOf0
  v0 := Tryd.zeroValue0
  t3 := Tryd.underlying3
  a3 := Tryd.isAgg3
  z3 := Tryd.sizeOf3
  v3 := Tryd.zeroValue3
  t4 := Tryd.underlying4
  a4 := Tryd.isAgg4
  z4 := Tryd.sizeOf4
  v4 := Tryd.zeroValue4
  t9 := Tryd.underlying9
  a9 := Tryd.isAgg9
  z9 := Tryd.sizeOf9
  v9 := Tryd.zeroValue9
  t24 := Tryd.underlying36
  a24 := Tryd.isAgg36
  z24 := Tryd.sizeOf36
  v24 := Tryd.zeroValue36
  t40 := Tryd.underlying77
  a40 := Tryd.isAgg77
  z40 := Tryd.sizeOf77
  v40 := Tryd.zeroValue77 }

/-- What the library's variables read as: besides, the blanks. -/
structure LX (w : World) : Prop extends LW w where
  asc : Lib.TabIs Tryd.prog w "strings.asciiSpace" .u8 Lib.asciiSpaceTab
theorem LX.later {w w' : World} (h : LX w) (hb : Below w.heap.size w w') : LX w' := ⟨h.toLW.later hb, var_later h.asc hb⟩

/-- Texts in a block. -/
def StrsAt (A : Nat) (l : List (List UInt8)) (w : World) : Prop := ∀ (j : Nat) x, l[j]? = some x → w.cell? ⟨A, j, none⟩ = some (str x)
theorem StrsAt.later {A : Nat} {l : List (List UInt8)} {w w' : World} (h : StrsAt A l w) (hb : Below w.heap.size w w') : StrsAt A l w' := fun j x hx => (hb.cell (cell_lt (h j x hx))).trans (h j x hx)
theorem cell_new (w : World) (l : List Value) (T : TypeId) (j : Nat) (v : Value) (h : l[j]? = some v) : (w.alloc (.cells l.toArray T)).cell? ⟨w.heap.size, j, none⟩ = some v := by
  unfold World.cell?
  rw [heap_alloc_new]
  simp [h]
abbrev wordsS : ByteArray := ⟨#[65, 78, 68, 32, 65, 83, 32, 66, 69, 71, 73, 78, 32, 66, 76, 79, 66, 32, 66, 89, 32, 67, 79, 77, 77, 73, 84, 32, 67, 79, 85, 78, 84, 32, 67, 82, 69, 65, 84, 69, 32, 68, 69, 76, 69, 84, 69, 32, 68, 69, 83, 67, 32, 68, 82, 79, 80, 32, 70, 82, 79, 77, 32, 71, 82, 79, 85, 80, 32, 72, 65, 86, 73, 78, 71, 32, 73, 78, 68, 69, 88, 32, 73, 78, 83, 69, 82, 84, 32, 73, 78, 84, 69, 71, 69, 82, 32, 73, 78, 84, 79, 32, 73, 83, 32, 74, 79, 73, 78, 32, 75, 69, 89, 32, 76, 73, 77, 73, 84, 32, 77, 65, 88, 32, 77, 73, 78, 32, 78, 79, 84, 32, 78, 85, 76, 76, 32, 79, 78, 32, 79, 82, 32, 79, 82, 68, 69, 82, 32, 80, 82, 73, 77, 65, 82, 89, 32, 82, 69, 76, 69, 65, 83, 69, 32, 82, 79, 76, 76, 66, 65, 67, 75, 32, 83, 65, 86, 69, 80, 79, 73, 78, 84, 32, 83, 69, 76, 69, 67, 84, 32, 83, 69, 84, 32, 83, 85, 77, 32, 84, 65, 66, 76, 69, 32, 84, 69, 88, 84, 32, 84, 79, 32, 85, 78, 73, 81, 85, 69, 32, 85, 80, 68, 65, 84, 69, 32, 86, 65, 76, 85, 69, 83, 32, 87, 72, 69, 82, 69]⟩
set_option maxRecDepth 100000 in
theorem words_fields : Lib.fields wordsS.data.toList = wordsL := by kernel_rfl
set_option maxRecDepth 100000 in
theorem words_ascii : ∀ b ∈ wordsS.data.toList, b.toNat < 128 := by decide +kernel
set_option maxRecDepth 100000 in
theorem fieldsAt (w : World) (hw : LX w) : Calls Tryd.prog 58 #[.string wordsS] w fun e w' => e = .returned (.slice (some ⟨w.heap.size, 0, none⟩) 43 43) ∧ StrsAt w.heap.size wordsL w' ∧ Below w.heap.size w w' := by
  refine (Tryd.strings_Fields_laid wordsS w (by decide) (fun j b h => words_ascii b (List.mem_of_getElem? h)) hw.asc).mono fun e w' h => ?_
  obtain ⟨rfl, rfl⟩ := h
  rw [words_fields]
  refine ⟨rfl, fun j x hx => ?_, (Below.refl _ _).alloc (Nat.le_refl _) _⟩
  exact cell_new w _ _ j _ (by rw [List.getElem?_map, hx]; rfl)
set_option maxRecDepth 100000 in
theorem wordsW (w : World) (hw : LX w) : Calls Tryd.prog 35 #[] w fun e w' => ∃ A, e = .returned (.slice (some ⟨A, 0, none⟩) 43 43) ∧ StrsAt A wordsL w' ∧ Below w.heap.size w w' := by
  have HF := Lib.hid (fieldsAt w hw)
  clear hw
  go_enter Tryd.func35, Tryd.ntmps35
  go_wp2_with fail
  refine HF.out.mono ?_
  rintro e w1 ⟨rfl, h1, h2⟩
  have H1 := Lib.hid h1
  have H2 := Lib.hid h2
  clear h1 h2
  go_wp2_with fail
  go_ret
  exact ⟨_, rfl, H1.out, H2.out⟩
set_option maxRecDepth 100000 in
theorem words_sorted : ∀ k : Fin 43, Lib.bsGo (fun t => Op.bytesLess (wordsL.getD t []) (wordsL.getD k.val [])) 43 0 43 = k.val := by decide +kernel
theorem words_len : wordsL.length = 43 := by decide +kernel
theorem findW (A : Nat) (x : ByteArray) (w : World) (h : StrsAt A wordsL w) :
    Calls Tryd.prog 107 #[.slice (some ⟨A, 0, none⟩) 43 43, .string x] w fun e w' => ∃ I : Int, e = .returned (.tuple #[.int .i64 I, .bool (decide (x.data.toList ∈ wordsL))]) ∧ Below w.heap.size w w' := by
  have hc : ∀ j, j < 43 → w.cell? ⟨A, 0 + j, none⟩ = some (.string (⟨(wordsL.getD j []).toArray⟩ : ByteArray)) := fun j hj => by
    have hl : wordsL[j]? = some (wordsL.getD j []) := by rw [List.getD_eq_getElem?_getD, List.getElem?_eq_getElem (by rw [words_len]; exact hj)]; rfl
    have := h j _ hl
    rwa [Nat.zero_add]
  refine (Any2.slices_BinarySearch_string laysB A 0 43 43 (fun j => ⟨(wordsL.getD j []).toArray⟩) x w (by decide) hc).mono fun e w' h' => ?_
  obtain ⟨rfl, q, rfl⟩ := h'
  have hfun : (fun t => Op.bytesLess (ByteArray.mk (wordsL.getD t []).toArray).toList x.toList) = fun t => Op.bytesLess (wordsL.getD t []) x.data.toList := by
    funext t
    rw [ByteArray.toList_eq, ByteArray.toList_eq]
  rw [hfun]
  obtain ⟨I, hI⟩ : ∃ I, I = Lib.bsGo (fun t => Op.bytesLess (wordsL.getD t []) x.data.toList) 43 0 43 := ⟨_, rfl⟩
  rw [← hI]
  have hd : decide (I < 43 ∧ (ByteArray.mk (wordsL.getD I []).toArray) = x) = decide (x.data.toList ∈ wordsL) := by
    refine decide_eq_decide.2 ⟨fun ⟨h1, h2⟩ => ?_, fun hx => ?_⟩
    · have e := congrArg (fun b : ByteArray => b.data.toList) h2
      simp only at e
      rw [← e, List.getD_eq_getElem?_getD, List.getElem?_eq_getElem (by rw [words_len]; exact h1)]
      exact List.getElem_mem _
    · obtain ⟨k, hk, he⟩ := List.getElem_of_mem hx
      rw [words_len] at hk
      have hg : wordsL.getD k [] = x.data.toList := by rw [List.getD_eq_getElem?_getD, List.getElem?_eq_getElem (by rw [words_len]; exact hk), ← he]; rfl
      have hs := words_sorted ⟨k, hk⟩
      rw [hg, ← hI] at hs
      simp only at hs
      rw [hs]
      exact ⟨hk, by rw [hg]⟩
  exact ⟨(I : Int), by rw [hd], drewN_below (Below.refl _ _) _⟩
end Go.Proofs.YtghfaeapgghhlaaDoor.Dt
