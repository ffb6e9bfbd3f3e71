/-
  What the walks of package value take of the library: numbers' texts and back, beginnings, ends, a byte's place; and what the listed variables read as.
-/
import Derived.Test.YtghfaeapgghhlaaDoorMaxLen
import Derived.Test.YtghfaeapgghhlaaDoorLitSpec
import Derived.Test.YtghfaeapgghhlaaDoorRepl
import Derived.Test.YtghfaeapgghhlaaDoorKBase
import Derived.Lib.AppendIntMem
import Derived.Lib.AtoiErrMem
import Derived.Lib.LaidTab
import Derived.Stop.LaidErr
import Derived.LaidMore
namespace Go.Proofs.YtghfaeapgghhlaaDoor.Dt
open Go.RowKit Go.Proofs.YtghfaeapgghhlaaDoor.By

theorem var_later {w w' : World} {name : String} {cs : Array Value} (h : w.var? Tryd.prog name = some cs) (hb : Below w.heap.size w w') : w'.var? Tryd.prog name = some cs := by
  unfold World.var? at h ⊢
  cases hg : Tryd.prog.globalNamed name with
  | none => rw [hg] at h; cases h
  | some g =>
    rw [hg] at h
    simp only [Option.bind_some] at h ⊢
    have hlt : g < w.heap.size := by
      rcases Nat.lt_or_ge g w.heap.size with h' | h'
      · exact h'
      · rw [Array.getElem?_eq_none h'] at h; cases h
    rw [hb.block g hlt]
    exact h
/-- What the library's variables read as. -/
structure LW (w : World) : Prop where
  mx : MaxAt w
  tab : Lib.TabIs Tryd.prog w "internal/strconv.uint64pow10" .u64 Lib.pow10Tab
  syn : ∃ tp p, w.var? Tryd.prog "strconv.ErrSyntax" = some #[.iface tp p]
  rng : ∃ tp p, w.var? Tryd.prog "strconv.ErrRange" = some #[.iface tp p]
theorem LW.later {w w' : World} (h : LW w) (hb : Below w.heap.size w w') : LW w' := by
  obtain ⟨h1, h2, ⟨t, p, h3⟩, ⟨u, q, h4⟩⟩ := h
  exact ⟨h1.later hb, var_later h2 hb, ⟨t, p, var_later h3 hb⟩, ⟨u, q, var_later h4 hb⟩⟩

theorem formatW (n : Int) (w : World) (hw : LW w) (h0 : -9223372036854775808 ≤ n) (h1 : n ≤ 9223372036854775807) :
    Calls Tryd.prog 43 #[.int .i64 n, .int .i64 10] w fun e w' => e = .returned (str (Lib.itoa n)) ∧ Below w.heap.size w w' := by
  refine (Tryd.strconv_FormatInt_10 n h0 h1 w hw.tab).mono fun e w' h => ?_
  obtain ⟨rfl, k, os, rfl⟩ := h
  exact ⟨rfl, Lib.below_grow _ _ (Nat.le_refl _) _ _⟩
theorem parseW (s : ByteArray) (w : World) (hw : LW w) (hs : s.size ≤ 1000000) :
    Calls Tryd.prog 63 #[.string s, .int .i64 10, .int .i64 64] w fun e w' =>
      (∃ (n : Int) (ev : Value) (ok : Bool), e = .returned (.tuple #[.int .i64 n, ev]) ∧ (-9223372036854775808 ≤ n ∧ n ≤ 9223372036854775807) ∧
        (ok = true → Lib.parseIntB 64 s.data.toList = .ok n ∧ ev = .nilIface) ∧ (ok = false → (∀ v, Lib.parseIntB 64 s.data.toList ≠ .ok v) ∧ ∃ t p, ev = .iface t (.pointer (some p)))) ∧ Below w.heap.size w w' := by
  obtain ⟨_, _, ⟨t, p, h3⟩, ⟨u, q, h4⟩⟩ := hw
  rcases hp : Lib.parseIntB 64 s.data.toList with v | _ | _
  · skip
    refine (Tryd.strconv_ParseInt_10_at64_ok s (by omega) v hp w).mono fun e w' h => ?_
    obtain ⟨rfl, h⟩ := h
    refine ⟨⟨v, .nilIface, true, rfl, ?_, fun _ => ⟨rfl, rfl⟩, fun h => by cases h⟩, ?_⟩
    · rw [parseB] at hp
      rcases hp with ⟨_, _, k, _, h, rfl⟩ | ⟨_, _, k, _, h, rfl⟩ | ⟨_, _, _, k, _, h, rfl⟩ <;> omega
    · rcases h with rfl | ⟨t', rfl⟩
      · exact Below.refl _ _
      · exact Lib.bytesWorld_below _ _ _
  · skip
    refine (Tryd.strconv_ParseInt_10_at64_syntax_var s (by omega) hp t p w h3).mono fun e w' h => ?_
    obtain ⟨N, rfl, _, _, hb⟩ := h
    exact ⟨⟨0, _, false, rfl, ⟨by decide, by decide⟩, fun h => (by cases h), fun _ => ⟨fun v h => (by cases h), _, _, rfl⟩⟩, hb⟩
  · skip
    refine (Tryd.strconv_ParseInt_10_at64_range_var s (by omega) hp u q w h4).mono fun e w' h => ?_
    obtain ⟨N, rfl, _, _, hb⟩ := h
    refine ⟨⟨_, _, false, rfl, ?_, fun h => (by cases h), fun _ => ⟨fun v h => (by cases h), _, _, rfl⟩⟩, hb⟩
    unfold Lib.intSat
    split <;> exact ⟨by decide, by decide⟩
theorem quoteL_sub : ∀ l, subL 39 [39, 39] l = quoteL l
  | [] => rfl
  | c :: l => by rw [subL, quoteL, quoteL_sub l]; rfl
theorem quoteW (s : ByteArray) (w : World) (hm : MaxAt w) (hs : s.size ≤ 1000000) :
    Calls Tryd.prog 44 #[.string s, .string ⟨#[39]⟩, .string ⟨#[39, 39]⟩] w fun e w' => e = .returned (str (quoteL s.data.toList)) ∧ Below w.heap.size w w' := by
  obtain ⟨m, hm⟩ := hm
  have hc : Lib.countB s ⟨#[39]⟩ ≤ s.size := by
    have := cnt_le 39 s.data.toList
    rw [Array.length_toList] at this
    exact this
  have := Tryd.strings_ReplaceAll s ⟨#[39]⟩ ⟨#[39, 39]⟩ m w (by omega) hm (by decide) (by
    have e : (ByteArray.mk #[39, 39]).size = 2 := rfl
    rw [e]
    omega)
  refine this.mono fun e w' h => ⟨?_, h.2⟩
  rw [h.1]
  show Ending.returned (.string ⟨(Lib.replaceAll s.data.toList [39] [39, 39]).toArray⟩) = _
  rw [replaceAll_sub _ _ _ (by decide), quoteL_sub]
/-- A digit's place among the sixteen. -/
theorem digit_at : ∀ c : UInt8, Lib.indexByte [48, 49, 50, 51, 52, 53, 54, 55, 56, 57, 97, 98, 99, 100, 101, 102] c = match hexV c with | some n => (n : Int) | none => -1 := by
  intro c
  have h : ∀ k : Fin 256, Lib.indexByte [48, 49, 50, 51, 52, 53, 54, 55, 56, 57, 97, 98, 99, 100, 101, 102] (UInt8.ofNat k.val) = match hexV (UInt8.ofNat k.val) with | some n => (n : Int) | none => -1 := by decide +kernel
  have := h ⟨c.toNat, c.toNat_lt⟩
  rwa [UInt8.ofNat_toNat] at this
end Go.Proofs.YtghfaeapgghhlaaDoor.Dt
