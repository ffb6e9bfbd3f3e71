import Derived.Test.YtjgkeillmelkoaaGreatBk31
import Derived.Test.YtjgkeillmelkoaaGreatBk39
namespace Go.Proofs.YtjgkeillmelkoaaGreat.Dt
open Go.RowKit Go.Proofs.YtjgkeillmelkoaaGreat.By

def rx3 : PE := .node 12 [nameE ⟨#[98]⟩, intE 1]
def px3 : PE := .node 12 [colE ⟨#[98]⟩ 1, intE 1]
def st3 : PSt := { kind := 7, table := ⟨#[116]⟩, wh := [px3] }
theorem px3_type (w : World) (c : Array Value) (cv : Value) (h : ExR w c.toList px3) (hu : U8sAt w cv [1, 1, 1]) :
    Calls Tryz.prog 74 #[.agg c, cv, .bool false] w fun e w' => e = .returned (.tuple #[.int .u8 1, .int .i64 0]) ∧ Below w.heap.size w w' := by
  obtain ⟨e, hp, hin, hc⟩ := px_of h
  have hv : (.agg c : Value) = e.val := by
    have : c = e.cells.toArray := by rw [hc]
    rw [this]; rfl
  rw [hv]
  obtain ⟨kv1, ea1, eb1, rfl, ha1, hb1⟩ := hp.two
  obtain ⟨kv2, rfl⟩ := ha1.leaf
  obtain ⟨kv3, rfl⟩ := PX.leaf (hb1 : PX (.mk 1 ⟨1, 1, ⟨#[]⟩⟩ ⟨#[]⟩ ⟨#[]⟩ 0 []) eb1)
  have ht := Et.refType _ cv [1, 1, 1] false w (by decide) (by decide) hin (ok_two (by decide) (ok_leaf (by decide) ⟨by decide, ⟨by decide, by decide⟩, by decide⟩ (by decide) (by decide) (by decide) (by decide)) (ok_leaf (by decide) ⟨by decide, ⟨by decide, by decide⟩, by decide⟩ (by decide) (by decide) (by decide) (by decide))) hu
  exact ht
theorem resolve3 (v : Value) (cs : List Value) (w : World) (hcat : CatR w v [smallT]) (h : StR w cs tx3S) : Calls Tryz.prog 22 #[v, .agg cs.toArray] w fun e w' => ∃ cs, e = .returned (.tuple #[.agg cs, .int .i64 0]) ∧ New w.heap.size w' (fun u => StR u cs.toList st3) ∧ Below w.heap.size w w' := by
  rw [show tx3S = { kind := 7, table := ⟨#[116]⟩, wh := [rx3] } from rfl] at h
  obtain ⟨a4, a5, a6, a7, a8, a9, a10, a11, a12, a13, a14, n4, n5, n6, n7, n8, n9, n10, n11, n12, n13, n14, rfl, hx⟩ := del_cells h
  exact resolveDel v rx3 px3 a4 a5 a6 a7 a8 a9 a10 a11 a12 a13 a14 n4 n5 n6 n7 n8 n9 n10 n11 n12 n13 n14 w hcat hx (putNodeW 12 _ _ (by decide) (by decide) (putNameW _ (isNameW _ (by decide))) (putIntW 1 (by decide)) (by decide +kernel)) (by decide +kernel) (by decide +kernel) (putTwoW smallS 12 _ _ _ _ (by decide) (putColW smallS ⟨#[]⟩ ⟨#[98]⟩ 0 1 (by decide) smallS_cols (by decide +kernel)) (putValW smallS _)) fun w c cv h hu => px3_type w c cv h hu
theorem resolved3 (w : World) : Calls Tryz.prog 6 #[.string tx3T] w fun e w' => ∃ c, e = .returned (.agg c) ∧ New w.heap.size w' (fun u => StR u c.toList st3) ∧ Below w.heap.size w w' :=
  resolvedW tx3T tx3S st3 w tx3_read resolve3 fun _ _ _ h hb => stR_below h hb
def rx4 : PE := .node 18 [.node 12 [nameE ⟨#[99]⟩, intE 3], .node 12 [nameE ⟨#[98]⟩, intE 1]]
def px4 : PE := .node 18 [.node 12 [colE ⟨#[99]⟩ 2, intE 3], .node 12 [colE ⟨#[98]⟩ 1, intE 1]]
def st4 : PSt := { kind := 7, table := ⟨#[116]⟩, wh := [px4] }
theorem px4_type (w : World) (c : Array Value) (cv : Value) (h : ExR w c.toList px4) (hu : U8sAt w cv [1, 1, 1]) :
    Calls Tryz.prog 74 #[.agg c, cv, .bool false] w fun e w' => e = .returned (.tuple #[.int .u8 1, .int .i64 0]) ∧ Below w.heap.size w w' := by
  obtain ⟨e, hp, hin, hc⟩ := px_of h
  have hv : (.agg c : Value) = e.val := by
    have : c = e.cells.toArray := by rw [hc]
    rw [this]; rfl
  rw [hv]
  obtain ⟨kv1, ea1, eb1, rfl, ha1, hb1⟩ := hp.two
  obtain ⟨kv2, ea2, eb2, rfl, ha2, hb2⟩ := ha1.two
  obtain ⟨kv3, rfl⟩ := ha2.leaf
  obtain ⟨kv4, rfl⟩ := PX.leaf (hb2 : PX (.mk 1 ⟨1, 3, ⟨#[]⟩⟩ ⟨#[]⟩ ⟨#[]⟩ 0 []) eb2)
  obtain ⟨kv5, ea5, eb5, rfl, ha5, hb5⟩ := hb1.two
  obtain ⟨kv6, rfl⟩ := ha5.leaf
  obtain ⟨kv7, rfl⟩ := PX.leaf (hb5 : PX (.mk 1 ⟨1, 1, ⟨#[]⟩⟩ ⟨#[]⟩ ⟨#[]⟩ 0 []) eb5)
  have ht := Et.refType _ cv [1, 1, 1] false w (by decide) (by decide) hin (ok_two (by decide) (ok_two (by decide) (ok_leaf (by decide) ⟨by decide, ⟨by decide, by decide⟩, by decide⟩ (by decide) (by decide) (by decide) (by decide)) (ok_leaf (by decide) ⟨by decide, ⟨by decide, by decide⟩, by decide⟩ (by decide) (by decide) (by decide) (by decide))) (ok_two (by decide) (ok_leaf (by decide) ⟨by decide, ⟨by decide, by decide⟩, by decide⟩ (by decide) (by decide) (by decide) (by decide)) (ok_leaf (by decide) ⟨by decide, ⟨by decide, by decide⟩, by decide⟩ (by decide) (by decide) (by decide) (by decide)))) hu
  exact ht
theorem resolve4 (v : Value) (cs : List Value) (w : World) (hcat : CatR w v [smallT]) (h : StR w cs tx4S) : Calls Tryz.prog 22 #[v, .agg cs.toArray] w fun e w' => ∃ cs, e = .returned (.tuple #[.agg cs, .int .i64 0]) ∧ New w.heap.size w' (fun u => StR u cs.toList st4) ∧ Below w.heap.size w w' := by
  rw [show tx4S = { kind := 7, table := ⟨#[116]⟩, wh := [rx4] } from rfl] at h
  obtain ⟨a4, a5, a6, a7, a8, a9, a10, a11, a12, a13, a14, n4, n5, n6, n7, n8, n9, n10, n11, n12, n13, n14, rfl, hx⟩ := del_cells h
  exact resolveDel v rx4 px4 a4 a5 a6 a7 a8 a9 a10 a11 a12 a13 a14 n4 n5 n6 n7 n8 n9 n10 n11 n12 n13 n14 w hcat hx (putNodeW 18 _ _ (by decide) (by decide) (putNodeW 12 _ _ (by decide) (by decide) (putNameW _ (isNameW _ (by decide))) (putIntW 3 (by decide)) (by decide +kernel)) (putNodeW 12 _ _ (by decide) (by decide) (putNameW _ (isNameW _ (by decide))) (putIntW 1 (by decide)) (by decide +kernel)) (by decide +kernel)) (by decide +kernel) (by decide +kernel) (putTwoW smallS 18 _ _ _ _ (by decide) (putTwoW smallS 12 _ _ _ _ (by decide) (putColW smallS ⟨#[]⟩ ⟨#[99]⟩ 0 2 (by decide) smallS_cols (by decide +kernel)) (putValW smallS _)) (putTwoW smallS 12 _ _ _ _ (by decide) (putColW smallS ⟨#[]⟩ ⟨#[98]⟩ 0 1 (by decide) smallS_cols (by decide +kernel)) (putValW smallS _))) fun w c cv h hu => px4_type w c cv h hu
theorem resolved4 (w : World) : Calls Tryz.prog 6 #[.string tx4T] w fun e w' => ∃ c, e = .returned (.agg c) ∧ New w.heap.size w' (fun u => StR u c.toList st4) ∧ Below w.heap.size w w' :=
  resolvedW tx4T tx4S st4 w tx4_read resolve4 fun _ _ _ h hb => stR_below h hb
def rx5 : PE := .node 18 [.node 18 [.node 12 [nameE ⟨#[99]⟩, intE 3], .node 12 [nameE ⟨#[98]⟩, intE 1]], .node 12 [nameE ⟨#[97]⟩, intE 4]]
def px5 : PE := .node 18 [.node 18 [.node 12 [colE ⟨#[99]⟩ 2, intE 3], .node 12 [colE ⟨#[98]⟩ 1, intE 1]], .node 12 [colE ⟨#[97]⟩ 0, intE 4]]
def st5 : PSt := { kind := 7, table := ⟨#[116]⟩, wh := [px5] }
theorem px5_type (w : World) (c : Array Value) (cv : Value) (h : ExR w c.toList px5) (hu : U8sAt w cv [1, 1, 1]) :
    Calls Tryz.prog 74 #[.agg c, cv, .bool false] w fun e w' => e = .returned (.tuple #[.int .u8 1, .int .i64 0]) ∧ Below w.heap.size w w' := by
  obtain ⟨e, hp, hin, hc⟩ := px_of h
  have hv : (.agg c : Value) = e.val := by
    have : c = e.cells.toArray := by rw [hc]
    rw [this]; rfl
  rw [hv]
  obtain ⟨kv1, ea1, eb1, rfl, ha1, hb1⟩ := hp.two
  obtain ⟨kv2, ea2, eb2, rfl, ha2, hb2⟩ := ha1.two
  obtain ⟨kv3, ea3, eb3, rfl, ha3, hb3⟩ := ha2.two
  obtain ⟨kv4, rfl⟩ := ha3.leaf
  obtain ⟨kv5, rfl⟩ := PX.leaf (hb3 : PX (.mk 1 ⟨1, 3, ⟨#[]⟩⟩ ⟨#[]⟩ ⟨#[]⟩ 0 []) eb3)
  obtain ⟨kv6, ea6, eb6, rfl, ha6, hb6⟩ := hb2.two
  obtain ⟨kv7, rfl⟩ := ha6.leaf
  obtain ⟨kv8, rfl⟩ := PX.leaf (hb6 : PX (.mk 1 ⟨1, 1, ⟨#[]⟩⟩ ⟨#[]⟩ ⟨#[]⟩ 0 []) eb6)
  obtain ⟨kv9, ea9, eb9, rfl, ha9, hb9⟩ := hb1.two
  obtain ⟨kv10, rfl⟩ := ha9.leaf
  obtain ⟨kv11, rfl⟩ := PX.leaf (hb9 : PX (.mk 1 ⟨1, 4, ⟨#[]⟩⟩ ⟨#[]⟩ ⟨#[]⟩ 0 []) eb9)
  have ht := Et.refType _ cv [1, 1, 1] false w (by decide) (by decide) hin (ok_two (by decide) (ok_two (by decide) (ok_two (by decide) (ok_leaf (by decide) ⟨by decide, ⟨by decide, by decide⟩, by decide⟩ (by decide) (by decide) (by decide) (by decide)) (ok_leaf (by decide) ⟨by decide, ⟨by decide, by decide⟩, by decide⟩ (by decide) (by decide) (by decide) (by decide))) (ok_two (by decide) (ok_leaf (by decide) ⟨by decide, ⟨by decide, by decide⟩, by decide⟩ (by decide) (by decide) (by decide) (by decide)) (ok_leaf (by decide) ⟨by decide, ⟨by decide, by decide⟩, by decide⟩ (by decide) (by decide) (by decide) (by decide)))) (ok_two (by decide) (ok_leaf (by decide) ⟨by decide, ⟨by decide, by decide⟩, by decide⟩ (by decide) (by decide) (by decide) (by decide)) (ok_leaf (by decide) ⟨by decide, ⟨by decide, by decide⟩, by decide⟩ (by decide) (by decide) (by decide) (by decide)))) hu
  exact ht
theorem resolve5 (v : Value) (cs : List Value) (w : World) (hcat : CatR w v [smallT]) (h : StR w cs tx5S) : Calls Tryz.prog 22 #[v, .agg cs.toArray] w fun e w' => ∃ cs, e = .returned (.tuple #[.agg cs, .int .i64 0]) ∧ New w.heap.size w' (fun u => StR u cs.toList st5) ∧ Below w.heap.size w w' := by
  rw [show tx5S = { kind := 7, table := ⟨#[116]⟩, wh := [rx5] } from rfl] at h
  obtain ⟨a4, a5, a6, a7, a8, a9, a10, a11, a12, a13, a14, n4, n5, n6, n7, n8, n9, n10, n11, n12, n13, n14, rfl, hx⟩ := del_cells h
  exact resolveDel v rx5 px5 a4 a5 a6 a7 a8 a9 a10 a11 a12 a13 a14 n4 n5 n6 n7 n8 n9 n10 n11 n12 n13 n14 w hcat hx (putNodeW 18 _ _ (by decide) (by decide) (putNodeW 18 _ _ (by decide) (by decide) (putNodeW 12 _ _ (by decide) (by decide) (putNameW _ (isNameW _ (by decide))) (putIntW 3 (by decide)) (by decide +kernel)) (putNodeW 12 _ _ (by decide) (by decide) (putNameW _ (isNameW _ (by decide))) (putIntW 1 (by decide)) (by decide +kernel)) (by decide +kernel)) (putNodeW 12 _ _ (by decide) (by decide) (putNameW _ (isNameW _ (by decide))) (putIntW 4 (by decide)) (by decide +kernel)) (by decide +kernel)) (by decide +kernel) (by decide +kernel) (putTwoW smallS 18 _ _ _ _ (by decide) (putTwoW smallS 18 _ _ _ _ (by decide) (putTwoW smallS 12 _ _ _ _ (by decide) (putColW smallS ⟨#[]⟩ ⟨#[99]⟩ 0 2 (by decide) smallS_cols (by decide +kernel)) (putValW smallS _)) (putTwoW smallS 12 _ _ _ _ (by decide) (putColW smallS ⟨#[]⟩ ⟨#[98]⟩ 0 1 (by decide) smallS_cols (by decide +kernel)) (putValW smallS _))) (putTwoW smallS 12 _ _ _ _ (by decide) (putColW smallS ⟨#[]⟩ ⟨#[97]⟩ 0 0 (by decide) smallS_cols (by decide +kernel)) (putValW smallS _))) fun w c cv h hu => px5_type w c cv h hu
theorem resolved5 (w : World) : Calls Tryz.prog 6 #[.string tx5T] w fun e w' => ∃ c, e = .returned (.agg c) ∧ New w.heap.size w' (fun u => StR u c.toList st5) ∧ Below w.heap.size w w' :=
  resolvedW tx5T tx5S st5 w tx5_read resolve5 fun _ _ _ h hb => stR_below h hb
end Go.Proofs.YtjgkeillmelkoaaGreat.Dt
namespace Go.Proofs.YtjgkeillmelkoaaGreat.Dt
open Go.RowKit Go.Proofs.YtjgkeillmelkoaaGreat.By

set_option maxRecDepth 100000 in
set_option maxHeartbeats 16000000 in
theorem cond0W (sv : Value) (va : Option Addr) (vc : Nat) (W : World) :
    Calls Tryz.prog 41 #[sv, .slice va 0 vc] W fun e w' => ∃ v, e = .returned (.tuple #[v, .int .i64 0]) ∧ New W.heap.size w' (fun u => ExsR u v []) ∧ Below W.heap.size W w' := by
  go_enter Tryz.func41, Tryz.ntmps41
  go_wp2_with fail
  go_loopg [6, 7] 0 (fun gk ov iv wr => ov = .slice none 0 0 ∧ iv = .int .i64 0 ∧ W = wr)
  case atStart => exact ⟨rfl, rfl, rfl⟩
  case round =>
    obtain ⟨rfl, rfl, rfl⟩ := hrel
    go_wp2_with fail
    go_ret2
    exact ⟨_, rfl, fun _ _ => slR_zero, Below.refl _ _⟩
attribute [local go_sem ↓] veilSt_sm veilLd_sm
attribute [local go_sem] run_smSt run_smNew run_smLd okRow16 Value.oneCell'
set_option maxRecDepth 100000 in
set_option maxHeartbeats 16000000 in
theorem resolveDel0 (v : Value) (a4 a5 a6 a7 a8 a9 a10 a11 a12 a13 a14 : Option Addr) (n4 n5 n6 n7 n8 n9 n10 n11 n12 n13 n14 : Nat) (w : World) (hcat : CatR w v [smallT])
    :
    Calls Tryz.prog 22 #[v, .agg #[.int .u8 7, .string ⟨#[116]⟩, .string ⟨#[]⟩, .bool false, .slice a4 0 n4, .slice a5 0 n5, .slice a6 0 n6, .slice a7 0 n7, .slice a8 0 n8, .slice a9 0 n9, .slice a10 0 n10, .slice a11 0 n11, .slice a12 0 n12, .slice a13 0 n13, .slice a14 0 n14, .int .i64 0]] w fun e w' => ∃ cs, e = .returned (.tuple #[.agg cs, .int .i64 0]) ∧ New w.heap.size w' (fun u => StR u cs.toList { kind := 7, table := ⟨#[116]⟩, wh := [] }) ∧ Below w.heap.size w w' := by
  obtain ⟨va, vc, rfl, _⟩ := hcat.shape
  have HCAT := Lib.hid hcat
  obtain ⟨b, o, cv, kv, iv, rfl, hcols, hkey, hix, t0, t1, t2, t3⟩ := tb_at (k := 0) hcat rfl
  simp only [Nat.zero_mul, Nat.add_zero] at t0 t1 t2 t3
  obtain ⟨ca, cc, rfl, _⟩ := hcols.shape
  obtain ⟨ka, kc, rfl, _⟩ := hkey.shape
  obtain ⟨ia, ic, rfl, _⟩ := hix.shape
  have T0 : Hid (w.cell? ⟨b, o, none⟩ = some (.string ⟨#[116]⟩)) := Lib.hid t0
  have T1 : Hid (w.cell? ⟨b, o + 1, none⟩ = some (.slice ca 3 cc)) := Lib.hid t1
  have T2 : Hid (w.cell? ⟨b, o + 2, none⟩ = some (.slice ka 2 kc)) := Lib.hid t2
  have T3 : Hid (w.cell? ⟨b, o + 3, none⟩ = some (.slice ia 1 ic)) := Lib.hid t3
  have HSO : Hid (∀ (W : World) (g : Nat), Below w.heap.size w W → Row g 98 #[.string ⟨#[116]⟩, .string ⟨#[116]⟩, .slice ca 3 cc, .slice ka 2 kc, .slice ia 1 ic] W → SosR W (.slice (some ⟨g, 0, none⟩) 1 1) smallS) := Lib.hid fun W g hb hr => sos_small hr (colsR_below hcols hb) (intsR_below hkey hb) (ixsR_below hix hb)
  clear t0 t1 t2 t3 hcols hkey hix
  have hb1 : Below w.heap.size w (w.alloc (.cells #[.int .u8 7, .string ⟨#[116]⟩, .string ⟨#[]⟩, .bool false, .slice a4 0 n4, .slice a5 0 n5, .slice a6 0 n6, .slice a7 0 n7, .slice a8 0 n8, .slice a9 0 n9, .slice a10 0 n10, .slice a11 0 n11, .slice a12 0 n12, .slice a13 0 n13, .slice a14 0 n14, .int .i64 0] 35)) := (Below.refl _ _).alloc (Nat.le_refl _) _
  have h1 := row_alloc w 35 #[.int .u8 7, .string ⟨#[116]⟩, .string ⟨#[]⟩, .bool false, .slice a4 0 n4, .slice a5 0 n5, .slice a6 0 n6, .slice a7 0 n7, .slice a8 0 n8, .slice a9 0 n9, .slice a10 0 n10, .slice a11 0 n11, .slice a12 0 n12, .slice a13 0 n13, .slice a14 0 n14, .int .i64 0]
  have ha2 := (Below.refl _ (w.alloc (.cells #[.int .u8 7, .string ⟨#[116]⟩, .string ⟨#[]⟩, .bool false, .slice a4 0 n4, .slice a5 0 n5, .slice a6 0 n6, .slice a7 0 n7, .slice a8 0 n8, .slice a9 0 n9, .slice a10 0 n10, .slice a11 0 n11, .slice a12 0 n12, .slice a13 0 n13, .slice a14 0 n14, .int .i64 0] 35))).alloc (Nat.le_refl _) (.cells stZ 35)
  have h2 := row_alloc (w.alloc (.cells #[.int .u8 7, .string ⟨#[116]⟩, .string ⟨#[]⟩, .bool false, .slice a4 0 n4, .slice a5 0 n5, .slice a6 0 n6, .slice a7 0 n7, .slice a8 0 n8, .slice a9 0 n9, .slice a10 0 n10, .slice a11 0 n11, .slice a12 0 n12, .slice a13 0 n13, .slice a14 0 n14, .int .i64 0] 35)) 35 stZ
  rw [show (w.alloc (.cells #[.int .u8 7, .string ⟨#[116]⟩, .string ⟨#[]⟩, .bool false, .slice a4 0 n4, .slice a5 0 n5, .slice a6 0 n6, .slice a7 0 n7, .slice a8 0 n8, .slice a9 0 n9, .slice a10 0 n10, .slice a11 0 n11, .slice a12 0 n12, .slice a13 0 n13, .slice a14 0 n14, .int .i64 0] 35)).heap.size = w.heap.size + 1 by simp] at h2
  have HX := Lib.hid (h1.later ha2)
  have HZ := Lib.hid h2
  have HB := Lib.hid (next hb1 ha2)
  clear hb1 h1 ha2 h2 hcat
  go_enter Tryz.func22, Tryz.ntmps22
  go_upto_region 1 with fail
  generalize (w.alloc (.cells #[.int .u8 7, .string ⟨#[116]⟩, .string ⟨#[]⟩, .bool false, .slice a4 0 n4, .slice a5 0 n5, .slice a6 0 n6, .slice a7 0 n7, .slice a8 0 n8, .slice a9 0 n9, .slice a10 0 n10, .slice a11 0 n11, .slice a12 0 n12, .slice a13 0 n13, .slice a14 0 n14, .int .i64 0] 35)).alloc (.cells stZ 35) = w2 at *
  have HPR := Lib.hid (printDelW ⟨#[116]⟩ [] a4 a5 a6 a7 a8 a9 a10 a11 a12 a13 a14 n4 n5 n6 n7 n8 n9 n10 n11 n12 n13 n14 w2 (isNameW ⟨#[116]⟩ (by decide)) (fun z hz => by cases hz) slR_zero (by decide +kernel) (by decide +kernel))
  have hb := HX.out.b (n := 16) rfl
  have ho := HX.out.of
  go_wp2_with fail
  refine HPR.out.mono ?_
  rintro e3 w3 ⟨rfl, hb3⟩
  have HX3 := Lib.hid (HX.out.later hb3)
  have HZ3 := Lib.hid (HZ.out.later hb3)
  have HB3 := Lib.hid (next HB.out hb3)
  clear hb3 hb ho HX HZ HB HPR
  have c0 := HX3.out.cell (i := 0) (v := .int .u8 7) rfl
  have HM := Lib.hid (mayW _ w3 (catR_below HCAT.out HB3.out))
  go_wp2_with fail
  refine HM.out.mono ?_
  rintro e4 w4 ⟨rfl, hb4⟩
  have HX4 := Lib.hid (HX3.out.later hb4)
  have HZ4 := Lib.hid (HZ3.out.later hb4)
  have HB4 := Lib.hid (next HB3.out hb4)
  clear hb4 c0 HX3 HZ3 HB3 HM
  have c0 := HX4.out.cell (i := 0) (v := .int .u8 7) rfl
  have c1 := HX4.out.cell (i := 1) (v := .string ⟨#[116]⟩) rfl
  have hf := findW [smallT] (some ⟨b, o, none⟩) vc ⟨#[116]⟩ w4 (by decide) (catR_below HCAT.out HB4.out)
  rw [show idxL (fun x : PTb => decide (x.name = ⟨#[116]⟩)) [smallT] 0 = 0 by decide +kernel] at hf
  have HF := Lib.hid hf
  clear hf
  go_wp2_with fail
  refine HF.out.mono ?_
  rintro e5 w5 ⟨rfl, rfl⟩
  clear HF
  have t0 := (HB4.out.cell (cell_lt T0.out)).trans T0.out
  have t1 := (HB4.out.cell (cell_lt T1.out)).trans T1.out
  have t2 := (HB4.out.cell (cell_lt T2.out)).trans T2.out
  have t3 := (HB4.out.cell (cell_lt T3.out)).trans T3.out
  go_upto_region 10 with fail
  clear c0 c1 t0 t1 t2 t3
  have hb6 := (Below.refl _ w4).alloc (Nat.le_refl _) (.cells #[.string ⟨#[116]⟩, .slice ca 3 cc, .slice ka 2 kc, .slice ia 1 ic] 59)
  have HX6 := Lib.hid (HX4.out.later hb6)
  have HZ6 := Lib.hid (HZ4.out.later hb6)
  have HB6 := Lib.hid (next HB4.out hb6)
  have HT6 := Lib.hid (row_alloc w4 59 #[.string ⟨#[116]⟩, .slice ca 3 cc, .slice ka 2 kc, .slice ia 1 ic])
  clear hb6 HX4 HZ4 HB4
  generalize w4.alloc (.cells #[.string ⟨#[116]⟩, .slice ca 3 cc, .slice ka 2 kc, .slice ia 1 ic] 59) = w6 at *
  generalize w4.heap.size = g at *
  have c1 := HX6.out.cell (i := 1) (v := .string ⟨#[116]⟩) rfl
  have t0 := HT6.out.cell (i := 0) (v := .string ⟨#[116]⟩) rfl
  have t1 := HT6.out.cell (i := 1) (v := .slice ca 3 cc) rfl
  have t2 := HT6.out.cell (i := 2) (v := .slice ka 2 kc) rfl
  have t3 := HT6.out.cell (i := 3) (v := .slice ia 1 ic) rfl
  go_upto_region 11 with fail
  clear c1 t0 t1 t2 t3
  have hb7 := (Below.refl _ w6).alloc (Nat.le_refl _) (.cells #[.string ⟨#[116]⟩, .string ⟨#[116]⟩, .slice ca 3 cc, .slice ka 2 kc, .slice ia 1 ic] 98)
  have HX7 := Lib.hid (HX6.out.later hb7)
  have HZ7 := Lib.hid (HZ6.out.later hb7)
  have HB7 := Lib.hid (next HB6.out hb7)
  have HSR7 := Lib.hid (row_alloc w6 98 #[.string ⟨#[116]⟩, .string ⟨#[116]⟩, .slice ca 3 cc, .slice ka 2 kc, .slice ia 1 ic])
  have HLT7 : Hid (w.heap.size < w6.heap.size) := Lib.hid HX6.out.lt
  clear hb7 HX6 HZ6 HB6 HT6
  generalize w6.alloc (.cells #[.string ⟨#[116]⟩, .string ⟨#[116]⟩, .slice ca 3 cc, .slice ka 2 kc, .slice ia 1 ic] 98) = w7 at *
  generalize w6.heap.size = gs at *
  have c0 := HX7.out.cell (i := 0) (v := .int .u8 7) rfl
  have c8 := HX7.out.cell (i := 8) (v := .slice a8 0 n8) rfl
  have f8 := HX7.out.free 8
  go_upto_region 33 with fail
  go_wp2_with fail
  go_loopg [19, 20] 0 (fun gk ov iv wr => ov = .slice none 0 0 ∧ iv = .int .i64 0 ∧ w7 = wr)
  case atStart => exact ⟨rfl, rfl, rfl⟩
  case round =>
    obtain ⟨rfl, rfl, rfl⟩ := hrel
    have hs8 := setCell_eq_setRow w7 w.heap.size 8 _ _ _ (.slice none 0 0) HX7.out
    have HX8 : Hid (Row w.heap.size 35 #[.int .u8 7, .string ⟨#[116]⟩, .string ⟨#[]⟩, .bool false, .slice a4 0 n4, .slice a5 0 n5, .slice a6 0 n6, .slice a7 0 n7, .slice none 0 0, .slice a9 0 n9, .slice a10 0 n10, .slice a11 0 n11, .slice a12 0 n12, .slice a13 0 n13, .slice a14 0 n14, .int .i64 0] (w7.setCell ⟨w.heap.size, 8, none⟩ (.slice none 0 0))) := Lib.hid (by rw [hs8]; exact HX7.out.set _)
    have HZ8 : Hid (Row (w.heap.size + 1) 35 stZ (w7.setCell ⟨w.heap.size, 8, none⟩ (.slice none 0 0))) := Lib.hid (by rw [hs8]; exact (setRow_other _ _ _ _ (by omega)).trans HZ7.out)
    have HB8 : Hid (Below w.heap.size w (w7.setCell ⟨w.heap.size, 8, none⟩ (.slice none 0 0))) := Lib.hid (below_set HB7.out (Nat.le_refl _))
    clear hs8
    have HSR8 : Hid (Row gs 98 #[.string ⟨#[116]⟩, .string ⟨#[116]⟩, .slice ca 3 cc, .slice ka 2 kc, .slice ia 1 ic] (w7.setCell ⟨w.heap.size, 8, none⟩ (.slice none 0 0))) := Lib.hid (by
      rw [setCell_eq_setRow w7 w.heap.size 8 _ _ _ (.slice none 0 0) HX7.out]
      exact (setRow_other _ _ _ _ (by have := HLT7.out; omega)).trans HSR7.out)
    go_upto_region 49 with fail
    clear c0 c8 f8
    generalize w7.setCell ⟨w.heap.size, 8, none⟩ (.slice none 0 0) = w8 at *
    have HC := Lib.hid (cond0W (.slice (some ⟨gs, 0, none⟩) 1 1) a11 n11 w8)
    have c11 := HX8.out.cell (i := 11) (v := .slice a11 0 n11) rfl
    go_wp2_with fail
    refine HC.out.mono ?_
    rintro e9 w9 ⟨v9, rfl, hv9, hb9⟩
    obtain ⟨q9, r9, rfl, _⟩ := hv9.here.shape
    clear c11 HC
    have HX9 := Lib.hid (HX8.out.later hb9)
    have HZ9 := Lib.hid (HZ8.out.later hb9)
    have HB9 := Lib.hid (next HB8.out hb9)
    have HLT8 : Hid (w.heap.size + 1 < w8.heap.size) := Lib.hid HZ8.out.lt
    have HV9 := Lib.hid hv9
    have c11 := HX9.out.cell (i := 11) (v := .slice a11 0 n11) rfl
    have f11 := HX9.out.free 11
    have hs11 := setCell_eq_setRow w9 w.heap.size 11 _ _ _ (.slice q9 0 r9) HX9.out
    have HXZ : Hid (Row w.heap.size 35 #[.int .u8 7, .string ⟨#[116]⟩, .string ⟨#[]⟩, .bool false, .slice a4 0 n4, .slice a5 0 n5, .slice a6 0 n6, .slice a7 0 n7, .slice none 0 0, .slice a9 0 n9, .slice a10 0 n10, .slice q9 0 r9, .slice a12 0 n12, .slice a13 0 n13, .slice a14 0 n14, .int .i64 0] (w9.setCell ⟨w.heap.size, 11, none⟩ (.slice q9 0 r9))) := Lib.hid (by rw [hs11]; exact HX9.out.set _)
    have HZZ : Hid (Row (w.heap.size + 1) 35 stZ (w9.setCell ⟨w.heap.size, 11, none⟩ (.slice q9 0 r9))) := Lib.hid (by rw [hs11]; exact (setRow_other _ _ _ _ (by omega)).trans HZ9.out)
    have HBZ : Hid (Below w.heap.size w (w9.setCell ⟨w.heap.size, 11, none⟩ (.slice q9 0 r9))) := Lib.hid (below_set HB9.out (Nat.le_refl _))
    have HVZ : Hid (Dep (fun b => w8.heap.size ≤ b) (w9.setCell ⟨w.heap.size, 11, none⟩ (.slice q9 0 r9)) fun u => ExsR u (.slice q9 0 r9) []) := Lib.hid (by
      rw [hs11]
      exact HV9.out.step (by simp) fun b hb _ => ⟨hb, setRow_other _ _ _ _ (by have := HLT8.out; omega)⟩)
    clear hs11 hv9 hb9
    go_upto_region 50 with fail
    clear c11 f11
    generalize w9.setCell ⟨w.heap.size, 11, none⟩ (.slice q9 0 r9) = w10 at *
    have hb := HXZ.out.b (n := 16) rfl
    have ho := HXZ.out.of
    have hz := HZZ.out.b (n := 16) rfl
    go_wp2_with fail
    refine bodyPost_ret (v := .tuple #[.agg #[.int .u8 7, .string ⟨#[116]⟩, .string ⟨#[]⟩, .bool false, .slice a4 0 n4, .slice a5 0 n5, .slice a6 0 n6, .slice a7 0 n7, .slice none 0 0, .slice a9 0 n9, .slice a10 0 n10, .slice q9 0 r9, .slice a12 0 n12, .slice a13 0 n13, .slice a14 0 n14, .int .i64 0], .int .i64 0]) (res_cs rfl _ _ (w.heap.size + 1) _ _ _ rfl rfl (HZZ.out.set _) rfl) rfl ⟨_, rfl, ?_, below_setRow' HBZ.out (by omega) _⟩
    intro u hu
    have hv := HVZ.out u fun b hb hlt => (hu b (by have := HLT8.out; omega) (by simpa using hlt)).trans (setRow_other _ _ _ _ (by have := HLT8.out; omega))
    exact ⟨_, _, _, _, _, _, _, _, _, _, _, rfl, slR_zero, slR_zero, slR_zero, slR_zero, slR_zero, slR_zero, slR_zero, hv, slR_zero, slR_zero, slR_zero⟩
theorem resolve2 (v : Value) (cs : List Value) (w : World) (hcat : CatR w v [smallT]) (h : StR w cs tx2S) : Calls Tryz.prog 22 #[v, .agg cs.toArray] w fun e w' => ∃ cs, e = .returned (.tuple #[.agg cs, .int .i64 0]) ∧ New w.heap.size w' (fun u => StR u cs.toList { kind := 7, table := ⟨#[116]⟩, wh := [] }) ∧ Below w.heap.size w w' := by
  obtain ⟨c4, c5, c6, c7, c8, c9, c10, c11, c12, c13, c14, rfl, h4, h5, h6, h7, h8, h9, h10, h11, h12, h13, h14⟩ := h
  obtain ⟨a4, n4, rfl⟩ := nil_shape h4
  obtain ⟨a5, n5, rfl⟩ := nil_shape h5
  obtain ⟨a6, n6, rfl⟩ := nil_shape h6
  obtain ⟨a7, n7, rfl⟩ := nil_shape h7
  obtain ⟨a8, n8, rfl⟩ := nil_shape h8
  obtain ⟨a9, n9, rfl⟩ := nil_shape h9
  obtain ⟨a10, n10, rfl⟩ := nil_shape h10
  obtain ⟨a11, n11, rfl⟩ := nil_shape h11
  obtain ⟨a12, n12, rfl⟩ := nil_shape h12
  obtain ⟨a13, n13, rfl⟩ := nil_shape h13
  obtain ⟨a14, n14, rfl⟩ := nil_shape h14
  exact resolveDel0 v a4 a5 a6 a7 a8 a9 a10 a11 a12 a13 a14 n4 n5 n6 n7 n8 n9 n10 n11 n12 n13 n14 w hcat
def st2 : PSt := { kind := 7, table := ⟨#[116]⟩, wh := [] }
theorem resolved2 (w : World) : Calls Tryz.prog 6 #[.string tx2T] w fun e w' => ∃ c, e = .returned (.agg c) ∧ New w.heap.size w' (fun u => StR u c.toList st2) ∧ Below w.heap.size w w' :=
  resolvedW tx2T tx2S st2 w tx2_read resolve2 fun _ _ _ h hb => stR_below h hb
end Go.Proofs.YtjgkeillmelkoaaGreat.Dt
namespace Go.Proofs.YtjgkeillmelkoaaGreat.Dt
open Go.RowKit Go.Proofs.YtjgkeillmelkoaaGreat.By

def selS : List PSo := [(⟨#[116]⟩, smallT), (⟨#[117]⟩, smallT)]
def px6 : PE := .node 18 [.node 12 [.mk 2 V00 ⟨#[117]⟩ ⟨#[99]⟩ 5 [], .mk 2 V00 ⟨#[116]⟩ ⟨#[97]⟩ 0 []], .node 16 [.mk 2 V00 ⟨#[117]⟩ ⟨#[97]⟩ 3 [], intE 1]]
theorem selS_cols : ∀ y ∈ selS, y.2.cols.length ≤ 1000 := fun z hz => by
  rcases List.mem_cons.1 hz with rfl | hz
  · decide
  · obtain rfl := List.mem_singleton.1 hz; decide
theorem rx6_pt : PtW selS rx6 px6 := putTwoW selS 18 _ _ _ _ (by decide)
  (putTwoW selS 12 _ _ _ _ (by decide) (putColW selS ⟨#[117]⟩ ⟨#[99]⟩ 0 5 (by decide) selS_cols (by decide +kernel)) (putColW selS ⟨#[116]⟩ ⟨#[97]⟩ 0 0 (by decide) selS_cols (by decide +kernel)))
  (putTwoW selS 16 _ _ _ _ (by decide) (putColW selS ⟨#[117]⟩ ⟨#[97]⟩ 0 3 (by decide) selS_cols (by decide +kernel)) (putValW selS _))
theorem px6_ty : TyW selS px6 := fun w c cv h hu => by
  replace hu : U8sAt w cv [1, 1, 1, 1, 1, 1] := hu
  obtain ⟨e, hp, hin, hc⟩ := px_of h
  have hv : (.agg c : Value) = e.val := by
    have : c = e.cells.toArray := by rw [hc]
    rw [this]; rfl
  rw [hv]
  obtain ⟨kv1, ea1, eb1, rfl, ha1, hb1⟩ := hp.two
  obtain ⟨kv2, ea2, eb2, rfl, ha2, hb2⟩ := ha1.two
  obtain ⟨kv3, rfl⟩ := ha2.leaf
  obtain ⟨kv4, rfl⟩ := hb2.leaf
  obtain ⟨kv5, ea5, eb5, rfl, ha5, hb5⟩ := hb1.two
  obtain ⟨kv6, rfl⟩ := ha5.leaf
  obtain ⟨kv7, rfl⟩ := PX.leaf (hb5 : PX (.mk 1 ⟨1, 1, ⟨#[]⟩⟩ ⟨#[]⟩ ⟨#[]⟩ 0 []) eb5)
  have ht := Et.refType _ cv [1, 1, 1, 1, 1, 1] false w (by decide) (by decide) hin (ok_two (by decide) (ok_two (by decide) (ok_leaf (by decide) ⟨by decide, ⟨by decide, by decide⟩, by decide⟩ (by decide) (by decide) (by decide) (by decide)) (ok_leaf (by decide) ⟨by decide, ⟨by decide, by decide⟩, by decide⟩ (by decide) (by decide) (by decide) (by decide))) (ok_two (by decide) (ok_leaf (by decide) ⟨by decide, ⟨by decide, by decide⟩, by decide⟩ (by decide) (by decide) (by decide) (by decide)) (ok_leaf (by decide) ⟨by decide, ⟨by decide, by decide⟩, by decide⟩ (by decide) (by decide) (by decide) (by decide)))) hu
  exact ht
/-- A column of a source, with its place. -/
def dotE (t s : ByteArray) (n : Int) : PE := .mk 2 V00 t s n []
theorem dot_ty (t s : ByteArray) (n : Int) (ht : t.size ≤ 140737488351232) (hs : s.size ≤ 140737488351232) (h0 : 0 ≤ n) (h6 : n < 6) (hk : ∀ kv, Et.resK (Et.typeS [1, 1, 1, 1, 1, 1] false (.mk 2 V00 t s n kv [])) = .tuple #[.int .u8 1, .int .i64 0]) : TyW selS (dotE t s n) := fun w c cv h hu => by
  replace hu : U8sAt w cv [1, 1, 1, 1, 1, 1] := hu
  obtain ⟨e, hp, hin, hc⟩ := px_of h
  have hv : (.agg c : Value) = e.val := by
    have : c = e.cells.toArray := by rw [hc]
    rw [this]; rfl
  rw [hv]
  obtain ⟨kv1, rfl⟩ := PX.leaf (hp : PX (.mk 2 V00 t s n []) e)
  have hr := Et.refType (.mk 2 V00 t s n kv1 []) cv [1, 1, 1, 1, 1, 1] false w (by decide) (by decide) hin (ok_leaf (by decide) ⟨by decide, ⟨by decide, by decide⟩, by decide⟩ ht hs (by omega) (by omega)) hu
  rw [hk kv1] at hr
  exact hr
/-- The columns that a star stands for: as they are told, with their places. -/
def raw6 : List PE := [dotE ⟨#[116]⟩ ⟨#[97]⟩ 0, dotE ⟨#[116]⟩ ⟨#[98]⟩ 0, dotE ⟨#[116]⟩ ⟨#[99]⟩ 0, dotE ⟨#[117]⟩ ⟨#[97]⟩ 0, dotE ⟨#[117]⟩ ⟨#[98]⟩ 0, dotE ⟨#[117]⟩ ⟨#[99]⟩ 0]
def itm6 : List PE := [dotE ⟨#[116]⟩ ⟨#[97]⟩ 0, dotE ⟨#[116]⟩ ⟨#[98]⟩ 1, dotE ⟨#[116]⟩ ⟨#[99]⟩ 2, dotE ⟨#[117]⟩ ⟨#[97]⟩ 3, dotE ⟨#[117]⟩ ⟨#[98]⟩ 4, dotE ⟨#[117]⟩ ⟨#[99]⟩ 5]
theorem itm6_ok : ∀ (i : Nat) (x y : PE), raw6[i]? = some x → itm6[i]? = some y → PtW selS x y ∧ TyW selS y ∧ x.kids = [] ∧ y.kids = []
  | 0, _, _, hx, hy => by cases hx; cases hy; exact ⟨putColW selS ⟨#[116]⟩ ⟨#[97]⟩ 0 0 (by decide) selS_cols (by decide +kernel), dot_ty ⟨#[116]⟩ ⟨#[97]⟩ 0 (by decide) (by decide) (by decide) (by decide) (fun _ => rfl), rfl, rfl⟩
  | 1, _, _, hx, hy => by cases hx; cases hy; exact ⟨putColW selS ⟨#[116]⟩ ⟨#[98]⟩ 0 1 (by decide) selS_cols (by decide +kernel), dot_ty ⟨#[116]⟩ ⟨#[98]⟩ 1 (by decide) (by decide) (by decide) (by decide) (fun _ => rfl), rfl, rfl⟩
  | 2, _, _, hx, hy => by cases hx; cases hy; exact ⟨putColW selS ⟨#[116]⟩ ⟨#[99]⟩ 0 2 (by decide) selS_cols (by decide +kernel), dot_ty ⟨#[116]⟩ ⟨#[99]⟩ 2 (by decide) (by decide) (by decide) (by decide) (fun _ => rfl), rfl, rfl⟩
  | 3, _, _, hx, hy => by cases hx; cases hy; exact ⟨putColW selS ⟨#[117]⟩ ⟨#[97]⟩ 0 3 (by decide) selS_cols (by decide +kernel), dot_ty ⟨#[117]⟩ ⟨#[97]⟩ 3 (by decide) (by decide) (by decide) (by decide) (fun _ => rfl), rfl, rfl⟩
  | 4, _, _, hx, hy => by cases hx; cases hy; exact ⟨putColW selS ⟨#[117]⟩ ⟨#[98]⟩ 0 4 (by decide) selS_cols (by decide +kernel), dot_ty ⟨#[117]⟩ ⟨#[98]⟩ 4 (by decide) (by decide) (by decide) (by decide) (fun _ => rfl), rfl, rfl⟩
  | 5, _, _, hx, hy => by cases hx; cases hy; exact ⟨putColW selS ⟨#[117]⟩ ⟨#[99]⟩ 0 5 (by decide) selS_cols (by decide +kernel), dot_ty ⟨#[117]⟩ ⟨#[99]⟩ 5 (by decide) (by decide) (by decide) (by decide) (fun _ => rfl), rfl, rfl⟩
  | n + 6, _, _, hx, _ => by cases hx
attribute [local go_sem ↓] veilSt_ex veilLd_ex
attribute [local go_sem] run_exSt run_exNew run_exLd okRow8 Value.oneCell'
set_option maxRecDepth 100000 in
set_option maxHeartbeats 16000000 in
theorem one0W (l : List PSo) (la : Option Addr) (lc : Nat) (x y : PE) (kv : Value) (W : World) (hl : l.length ≤ 1000) (hcl : ∀ y ∈ l, y.2.cols.length ≤ 1000) (hp : PtW l x y) (ht : TyW l y) (hs : SosR W (.slice la l.length lc) l) (hk : ExsR W kv x.kids) :
    Calls Tryz.prog 39 #[.slice la l.length lc, x.val kv, .int .u8 0, .bool false] W fun e w' => ∃ cs, e = .returned (.tuple #[.agg cs, .int .i64 0]) ∧ ExN W.heap.size w' cs y ∧ Below W.heap.size W w' := by
  obtain ⟨ka, kc, rfl, _⟩ := hk.shape
  have hb1 : Below W.heap.size W (W.alloc (.cells (exA x (.slice ka x.kids.length kc)) 44)) := (Below.refl _ _).alloc (Nat.le_refl _) _
  have h1 := row_alloc W 44 (exA x (.slice ka x.kids.length kc))
  have ha2 := (Below.refl _ (W.alloc (.cells (exA x (.slice ka x.kids.length kc)) 44))).alloc (Nat.le_refl _) (.cells exZ 44)
  have h2 := row_alloc (W.alloc (.cells (exA x (.slice ka x.kids.length kc)) 44)) 44 exZ
  rw [show (W.alloc (.cells (exA x (.slice ka x.kids.length kc)) 44)).heap.size = W.heap.size + 1 by simp] at h2
  have HX := Lib.hid (h1.later ha2)
  have HZ := Lib.hid h2
  have HB := Lib.hid (next hb1 ha2)
  have hc := hp la lc (.slice ka x.kids.length kc) _ (sosR_below hs (next hb1 ha2)) (exsR_below hk (next hb1 ha2))
  unfold PE.val at hc
  have HC := Lib.hid hc
  have HS := Lib.hid hs
  have HT := Lib.hid ht
  have HL := Lib.hid hl
  have HCL := Lib.hid hcl
  clear hb1 h1 ha2 h2 hs hk hp ht hc hl hcl
  unfold PE.val
  go_enter Tryz.func39, Tryz.ntmps39
  go_upto_region 1 with fail
  generalize (W.alloc (.cells #[.int .u8 (x.op : Int), .int .u8 (x.v.k : Int), .int .i64 x.v.n, .string x.v.s, .string x.t, .string x.m, .int .i64 x.n, .slice ka x.kids.length kc] 44)).alloc (.cells exZ 44) = w2 at *
  have hb := HX.out.b (n := 8) rfl
  have ho := HX.out.of
  go_wp2_with fail
  refine HC.out.mono ?_
  rintro e3 w3 ⟨c, rfl, hx3, hb3⟩
  have hok := hx3.ok
  have HX3 := HX.out.later hb3
  have hb := HX3.b (n := 8) rfl
  have HX4 : Hid (Row W.heap.size 44 c (w3.setRow W.heap.size c)) := Lib.hid (HX3.set c)
  have HZ4 : Hid (Row (W.heap.size + 1) 44 exZ (w3.setRow W.heap.size c)) := Lib.hid ((setRow_other _ _ _ _ (by omega)).trans (HZ.out.later hb3))
  have HB4 : Hid (Below W.heap.size W (w3.setRow W.heap.size c)) := Lib.hid (below_setRow' (next HB.out hb3) (Nat.le_refl _) c)
  have HXN : Hid (ExN w2.heap.size (w3.setRow W.heap.size c) c y) := Lib.hid (hx3.set (by have := HX.out.lt; omega))
  have HLT : Hid (W.heap.size + 1 < w2.heap.size) := Lib.hid HZ.out.lt
  clear hx3 hb3 HX3 HC HX HZ HB ho
  go_upto_region 4 with fail
  clear hb hok
  generalize w3.setRow W.heap.size c = w4 at *
  refine wp_region_kip (OnKn l la lc c) 47 rfl (by kernel_rfl) (by kernel_rfl) OnKn.later ?_ ?_
  · intro i hi A A2 hother hbW hd
    match i, hi with
    | 0, hi =>
      have h0 := tmps_at (show A.eval (.tmp 5) = .pointer (some ⟨W.heap.size, 0, none⟩) from hother 5 (by kernel_rfl))
      have hr := HX4.out.later hbW
      have hb := hr.b (n := 8) HXN.out.size
      have ho := hr.of
      clear hother hd hi hr
      exact kip_same rfl (wanted_none rfl) (.agg c) (by simp only [execOp]; go_simp) rfl
    | 1, hi =>
      have h0 := tmps_at (show A.eval (.tmp 0) = .slice la l.length lc from hother 0 (by kernel_rfl))
      clear hother hd hi
      exact kip_same rfl (wanted_none rfl) (.slice la l.length lc) (by simp only [execOp]; go_simp) rfl
    | 2, hi =>
      have h0 := tmps_at ((hd _ rfl ⟨1, .data⟩ (by simp) rfl).eq (.slice la l.length lc) (fun _ h => h) 24 (by kernel_rfl) (by decide))
      have hkk := kindsW l la lc A2 HL.out HCL.out (sosR_below HS.out (HB4.out.trans (hbW.mono HB4.out.size)))
      clear hother hd hi
      refine kip_call rfl (wanted_none rfl) 75 #[.slice la l.length lc] (by simp only [execOp]; go_simp) (hkk.mono ?_)
      rintro e w' ⟨v, rfl, hv, hb⟩
      exact ⟨⟨v, rfl, hv⟩, hb⟩
    | 3, hi =>
      have h0 := tmps_at (show A.eval (.tmp 3) = .bool false from hother 3 (by kernel_rfl))
      clear hother hd hi
      exact kip_same rfl (wanted_none rfl) (.bool false) (by simp only [execOp]; go_simp) rfl
    | 4, hi =>
      have h0 := tmps_at ((hd _ rfl ⟨0, .data⟩ (by simp) rfl).eq (.agg c) (fun _ h => h) 23 (by kernel_rfl) (by decide))
      have h1 := tmps_at ((hd _ rfl ⟨3, .data⟩ (by simp) rfl).eq (.bool false) (fun _ h => h) 26 (by kernel_rfl) (by decide))
      obtain ⟨kv2, hu, h2⟩ := (hd _ rfl ⟨2, .data⟩ (by simp) rfl).get 25 (by kernel_rfl) (by decide)
      have h2 := tmps_at h2
      have htt := HT.out A2 c kv2 ((HXN.out.later hbW).new.here) hu
      clear hother hd hi
      refine kip_call rfl (wanted_none rfl) 74 #[.agg c, kv2, .bool false] (by simp only [execOp]; go_simp) (htt.mono ?_)
      rintro e w' ⟨rfl, hb⟩
      exact ⟨⟨_, rfl, rfl⟩, hb⟩
    | 5, hi =>
      have h0 := tmps_at ((hd _ rfl ⟨4, .data⟩ (by simp) rfl).eq (.tuple #[.int .u8 1, .int .i64 0]) (fun _ h => h) 27 (by kernel_rfl) (by decide))
      clear hother hd hi
      exact kip_same rfl (wanted_none rfl) (.tuple #[.int .u8 1, .int .i64 0]) (by simp only [execOp]; go_simp) rfl
    | 6, hi =>
      have h0 := tmps_at ((hd _ rfl ⟨5, .data⟩ (by simp) rfl).eq (.tuple #[.int .u8 1, .int .i64 0]) (fun _ h => h) 22 (by kernel_rfl) (by decide))
      clear hother hd hi
      exact kip_same rfl (wanted_none rfl) (.int .u8 1) (by simp only [execOp]; go_simp) rfl
    | 7, hi =>
      have h0 := tmps_at ((hd _ rfl ⟨5, .data⟩ (by simp) rfl).eq (.tuple #[.int .u8 1, .int .i64 0]) (fun _ h => h) 22 (by kernel_rfl) (by decide))
      clear hother hd hi
      exact kip_same rfl (wanted_none rfl) (.int .i64 0) (by simp only [execOp]; go_simp) rfl
    | 8, hi =>
      have h0 := tmps_at ((hd _ rfl ⟨6, .data⟩ (by simp) rfl).eq (.int .u8 1) (fun _ h => h) 28 (by kernel_rfl) (by decide))
      clear hother hd hi
      exact kip_same rfl (wanted_none rfl) (.int .u8 1) (by simp only [execOp]; go_simp) rfl
    | 9, hi =>
      have h0 := tmps_at ((hd _ rfl ⟨7, .data⟩ (by simp) rfl).eq (.int .i64 0) (fun _ h => h) 29 (by kernel_rfl) (by decide))
      clear hother hd hi
      exact kip_same rfl (wanted_none rfl) (.int .i64 0) (by simp only [execOp]; go_simp) rfl
    | i + 10, hi => exact absurd hi (by simp)
  intro us W9 hbW hk
  have e6 : us 8 = .int .u8 1 := hk 8 (by decide)
  have e7 : us 9 = .int .i64 0 := hk 9 (by decide)
  have HX9 := Lib.hid (HX4.out.later hbW)
  have HZ9 := Lib.hid (HZ4.out.later hbW)
  have HB9 := Lib.hid (HB4.out.trans (hbW.mono HB4.out.size))
  have HXN9 := Lib.hid (HXN.out.later hbW)
  clear hk hbW HX4 HZ4 HB4 HXN
  simp only [putAll, dstOf, Act.put, List.getElem?_toArray, List.getElem?_cons_zero, List.getElem?_cons_succ, Option.bind_some, List.length_cons, List.length_nil]
  simp only [List.setIfInBounds_toArray, List.set_cons_zero, List.set_cons_succ]
  rw [e6, e7]
  have hb := HX9.out.b (n := 8) HXN9.out.size
  have ho := HX9.out.of
  have hz := HZ9.out.b (n := 8) rfl
  have hok := HXN9.out.ok
  go_wp2_with fail
  exact bodyPost_ret (v := .tuple #[.agg c, .int .i64 0]) (res_ct rfl _ _ (W.heap.size + 1) _ _ _ rfl rfl (HZ9.out.set _) HXN9.out.size) rfl
    ⟨c, rfl, (ExD.set HXN9.out (g := W.heap.size + 1) (by have := HLT.out; omega)).step (Nat.le_refl _) fun b hb _ => ⟨by have := HLT.out; omega, rfl⟩, below_setRow' HB9.out (by omega) _⟩
end Go.Proofs.YtjgkeillmelkoaaGreat.Dt
