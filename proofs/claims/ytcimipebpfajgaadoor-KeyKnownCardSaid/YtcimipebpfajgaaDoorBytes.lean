/-
  Small laws on bytes that lie in a block of the call's own, and on worlds; over whatever program.
-/
import Derived.WalkKit
import Derived.ProofKit
import Derived.WalkLawsBesides
import Derived.Laws.BytesArg
import Derived.Laws.IdiomStrings
import Derived.Laws.Bits64
namespace Go.Proofs.YtcimipebpfajgaaDoor.By
open Go.RowKit

/-- A list of bytes as a string. -/
abbrev str (l : List UInt8) : Value := .string ⟨l.toArray⟩

/-- A byte as a cell. -/
abbrev byte (b : UInt8) : Value := .int .u8 (b.toNat : Int)

theorem strOfNums_bytes (l : List UInt8) : strOfNums (l.map fun b => (b.toNat : Int)) = ⟨l.toArray⟩ := by
  have h : ((fun n : Int => UInt8.ofNat n.toNat) ∘ fun b : UInt8 => (b.toNat : Int)) = id := by
    funext b; simp
  simp [strOfNums, h]

/-- Bytes in cells, converted to a string. -/
theorem conv_at {P : Program} (w : World) (src e dst : TypeId) (hs : P.underlying src = some (.slice e)) (he : P.underlying e = some (.int .u8)) (hd : P.underlying dst = some .string)
    (b off len cap : Nat) (l : List UInt8) (hlen : l.length = len) (hcell : ∀ i (h : i < l.length), w.cell? ⟨b, off + i, none⟩ = some (byte l[i])) :
    (convert src dst (.slice (some ⟨b, off, none⟩) len cap)).run P w = .ok (str l) w := by
  rw [run_convert_bytes_arg w src e hs he b off len cap (l.map fun b => (b.toNat : Int)) (by simp [hlen]) (fun i hi => by
    have hi' : i < l.length := by omega
    rw [hcell i hi']
    simp [hi']) dst hd, strOfNums_bytes]

/-- The same at a block that has just been laid. -/
theorem conv_new {P : Program} (w : World) (src e dst : TypeId) (hs : P.underlying src = some (.slice e)) (he : P.underlying e = some (.int .u8)) (hd : P.underlying dst = some .string)
    (cs : Array Value) (t : TypeId) (off len cap : Nat) (l : List UInt8) (hlen : l.length = len) (hcell : ∀ i (h : i < l.length), cs[off + i]? = some (byte l[i])) :
    (convert src dst (.slice (some ⟨w.heap.size, off, none⟩) len cap)).run P (w.alloc (.cells cs t)) = .ok (str l) (w.alloc (.cells cs t)) :=
  conv_at _ src e dst hs he hd _ off len cap l hlen (fun i h => by rw [World.cell?_alloc_at _ _ _ _ rfl]; exact hcell i h)

/-- A string's byte, by its list. -/
theorem get_bytes (s : ByteArray) (l : List UInt8) (hl : l = s.data.toList) (i : Nat) (c : UInt8) (hc : l[i]? = some c) : ∃ h : i < s.size, s[i] = c := by
  subst hl
  obtain ⟨h, h2⟩ := List.getElem?_eq_some_iff.1 hc
  have h' : i < s.data.size := by simpa using h
  exact ⟨h', h2⟩
/-- A string's byte, by its list. -/
theorem getD_bytes (s : ByteArray) (i : Nat) (h : i < s.size) : s.data.toList.getD i 0 = s[i] := by
  have h' : i < s.data.size := h
  rw [List.getD, Array.getElem?_toList, Array.getElem?_eq_getElem h']
  rfl

/-- Bytes as cells of a block. -/
def cellsOf (l : List UInt8) : Array Value := (l.map byte).toArray
theorem cellsOf_size (l : List UInt8) : (cellsOf l).size = l.length := by simp [cellsOf]
theorem cellsOf_get (l : List UInt8) (i : Nat) (h : i < l.length) : (cellsOf l)[i]? = some (byte l[i]) := by simp [cellsOf, h]
theorem cellsOf_set (l : List UInt8) (i : Nat) (b : UInt8) : (cellsOf l).setIfInBounds i (byte b) = cellsOf (l.set i b) := by
  simp [cellsOf, List.map_set]

theorem conv_cells {P : Program} (w : World) (src e dst : TypeId) (hs : P.underlying src = some (.slice e)) (he : P.underlying e = some (.int .u8)) (hd : P.underlying dst = some .string)
    (t : TypeId) (off len cap : Nat) (l m : List UInt8) (hlen : m.length = len) (hm : m = (l.drop off).take len) :
    (convert src dst (.slice (some ⟨w.heap.size, off, none⟩) len cap)).run P (w.alloc (.cells (cellsOf l) t)) = .ok (str m) (w.alloc (.cells (cellsOf l) t)) :=
  conv_new w src e dst hs he hd _ t off len cap m hlen (fun i h => by
    subst hm
    simp only [List.length_take, List.length_drop] at h
    rw [cellsOf_get l (off + i) (by omega)]
    simp)

/-- 'b[k:]' of an array in a block. -/
theorem sliceAt_l {P : Program} (w : World) (t : TypeId) (ht : P.underlying t = some (.array (P.arrayLen t) (P.elem t))) (N : Nat) (hN : P.arrayLen t = N) (hsz : (sizeOf (P.elem t)).run P w = .ok 1 w) (b k : Nat) (hk : k < N) :
    (Instr.sliceAt t (.pointer (some ⟨b, 0, none⟩)) (some (.int .i64 (k : Int))) none none).run P w = .ok (.slice (some ⟨b, k, none⟩) (N - k) (N - k)) w := by
  rw [run_sliceAt_array_l w t _ ht .i64 (k : Int) (by omega) (by omega), hsz]
  simp only [Result.andThen, slicedAt, hN, Int.toNat_natCast]
  rw [if_neg (by omega), Addr.add_lit]
  simp

/-- '[]byte(s)': a new block with the string's bytes. -/
theorem bytes_of {P : Program} (w : World) (src dst e : TypeId) (s : ByteArray) (hs : P.underlying src = some .string) (hd : P.underlying dst = some (.slice e)) (he : P.underlying e = some (.int .u8)) :
    ∃ (cap : Nat) (w1 : World), (convert src dst (.string s)).run P w = .ok (.slice (some ⟨w.heap.size, 0, none⟩) s.size cap) w1 ∧ Below w.heap.size w w1 ∧ w1.heap.size = w.heap.size + 1 ∧
      ∀ i (h : i < s.size), w1.cell? ⟨w.heap.size, i, none⟩ = some (byte s[i]) := by
  refine ⟨_, _, run_bytes_of_string w src dst e s hs hd he, ((Below.refl _ _).drew).alloc (Nat.le_refl _) _, by simp, fun i h => ?_⟩
  have h1 := World.cell?_alloc_mark w.drew (bytesRow s (grownCap w s.size 0 e)) e ((bytesRow s (grownCap w s.size 0 e)).size, (bytesRow s (grownCap w s.size 0 e)).size + 1) i
  rw [show w.drew.heap.size = w.heap.size from rfl] at h1
  rw [h1, bytesRow_at s _ i h]
  rfl

theorem u64_in (x : Nat) (h : x < 18446744073709551616) : IntKind.u64.wrap (x : Int) = (x : Int) := by
  rw [IntKind.wrap_u64]; omega

theorem toNat_ofNat (n : Nat) : (UInt8.ofNat n).toNat = n % 256 := by simp

end Go.Proofs.YtcimipebpfajgaaDoor.By
