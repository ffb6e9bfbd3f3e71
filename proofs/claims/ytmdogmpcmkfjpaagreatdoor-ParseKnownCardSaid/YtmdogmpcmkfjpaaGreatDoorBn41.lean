import Derived.Deep.DeepCutAuto
import Derived.Test.YtmdogmpcmkfjpaaGreatDoorBn34
import Derived.Test.YtmdogmpcmkfjpaaGreatDoorBn09
/- Part of the proof (merged). -/
namespace Go.Proofs.YtmdogmpcmkfjpaaGreatDoor.Dt
open Go.RowKit Go.Proofs.YtmdogmpcmkfjpaaGreatDoor.By
theorem exs_one (W:World) (x:PE) (kv:Value) (T:TypeId) (h:ExsR W kv x.kids):ExsR (W.alloc (.cells (x.cells kv).toArray T)) (.slice (some ⟨W.heap.size,0,none⟩) 1 1) [x]:=by
 have hr:=row_alloc W T (x.cells kv).toArray
 have hb:Below W.heap.size W (W.alloc (.cells (x.cells kv).toArray T)):=(Below.refl _ _).alloc (Nat.le_refl _) _
 refine ⟨[x.cells kv],⟨_,1,rfl,Nat.le_refl _,fun i c hc=>⟨_,0,rfl,fun j u hu=>?_⟩⟩,rfl,fun i c y hc hy=>?_⟩
 ·rcases i with _ | i
  ·simp at hc
   subst hc
   have e:(0:Nat) + 0 * 8 + j=j:=by omega
   rw [e]
   exact hr.cell (by simpa using hu)
  ·simp at hc
 ·rcases i with _ | i
  ·simp at hc hy
   subst hc hy
   exact ⟨rfl,exR_iff.2 ⟨kv,rfl,exsR_below h hb⟩⟩
  ·simp at hc
theorem exs_two (W:World) (x y:PE) (kx ky:Value) (T:TypeId) (h:ExsR W kx x.kids) (g:ExsR W ky y.kids):ExsR (W.alloc (.cells (x.cells kx ++ y.cells ky).toArray T)) (.slice (some ⟨W.heap.size,0,none⟩) 2 2) [x,y]:=by
 have hr:=row_alloc W T (x.cells kx ++ y.cells ky).toArray
 have hb:Below W.heap.size W (W.alloc (.cells (x.cells kx ++ y.cells ky).toArray T)):=(Below.refl _ _).alloc (Nat.le_refl _) _
 have l8:∀ (z:PE) (v:Value),(z.cells v).length=8:=fun _ _=>rfl
 refine ⟨[x.cells kx,y.cells ky],⟨_,2,rfl,Nat.le_refl _,fun i c hc=>⟨_,0,rfl,fun j u hu=>?_⟩⟩,rfl,fun i c z hc hz=>?_⟩
 ·rcases i with _ | i
  ·simp at hc
   subst hc
   have e:(0:Nat) + 0 * 8 + j=j:=by omega
   have hj:j < 8:=by have:=(List.getElem?_eq_some_iff.1 hu).1;rwa [l8] at this
   rw [e]
   exact hr.cell (by simp [List.getElem?_append_left (show j < (x.cells kx).length by rw [l8];exact hj),hu])
  ·rcases i with _ | i
   ·simp at hc
    subst hc
    have e:(0:Nat) + (0 + 1) * 8 + j=8 + j:=by omega
    rw [e]
    exact hr.cell (by simp [List.getElem?_append_right (show (x.cells kx).length ≤ 8 + j by rw [l8];omega),l8,hu])
   ·simp at hc
 ·rcases i with _ | i
  ·simp at hc hz
   subst hc hz
   exact ⟨rfl,exR_iff.2 ⟨kx,rfl,exsR_below h hb⟩⟩
  ·rcases i with _ | i
   ·simp at hc hz
    subst hc hz
    exact ⟨rfl,exR_iff.2 ⟨ky,rfl,exsR_below g hb⟩⟩
   ·simp at hc
set_option maxRecDepth 100000 in
set_option maxHeartbeats 4000000 in
theorem numberL (n:Int) (w:World):Calls Tryz.prog 17 #[.int .i64 n] w fun e w'=>e = .returned (.agg #[.int .u8 1,.int .u8 1,.int .i64 n,.string ⟨#[]⟩,.string ⟨#[]⟩,.string ⟨#[]⟩,.int .i64 0,.slice none 0 0])∧Below w.heap.size w w':=by
 have hb:Below w.heap.size w (w.alloc (.cells #[.int .u8 1,.int .u8 1,.int .i64 n,.string ⟨#[]⟩,.string ⟨#[]⟩,.string ⟨#[]⟩,.int .i64 0,.slice none 0 0] 48)):=(Below.refl _ _).alloc (Nat.le_refl _) _
 have HB:=Lib.hid hb
 clear hb
 go_enter Tryz.func17,Tryz.ntmps17
 go_wp2_with fail
 exact bodyPost_ret (v:=.agg #[.int .u8 1,.int .u8 1,.int .i64 n,.string ⟨#[]⟩,.string ⟨#[]⟩,.string ⟨#[]⟩,.int .i64 0,.slice none 0 0]) (by simp [results,Tryz.results17,go_sem]) rfl ⟨rfl,HB.out⟩
set_option maxRecDepth 100000 in
set_option maxHeartbeats 4000000 in
theorem ofL (op:Nat) (a:Option Addr) (c:Nat) (ks:List PE) (w:World) (h:ExsR w (.slice a ks.length c) ks):Calls Tryz.prog 16 #[.int .u8 (op:Int),.slice a ks.length c] w fun e w'=>
 (∃ v,e = .returned v∧ExV w' v (.node op ks))∧Below w.heap.size w w':=by
 have hb:Below w.heap.size w (w.alloc (.cells #[.int .u8 (op:Int),.int .u8 0,.int .i64 0,.string ⟨#[]⟩,.string ⟨#[]⟩,.string ⟨#[]⟩,.int .i64 0,.slice a ks.length c] 48)):=(Below.refl _ _).alloc (Nat.le_refl _) _
 have HB:=Lib.hid hb
 have HK:=Lib.hid (exsR_below h hb)
 clear hb h
 go_enter Tryz.func16,Tryz.ntmps16
 go_wp2_with fail
 exact bodyPost_ret (v:=.agg #[.int .u8 (op:Int),.int .u8 0,.int .i64 0,.string ⟨#[]⟩,.string ⟨#[]⟩,.string ⟨#[]⟩,.int .i64 0,.slice a ks.length c]) (by simp [results,Tryz.results16,go_sem]) rfl ⟨⟨_,rfl,exV_of (x:=.node op ks) HK.out⟩,HB.out⟩
end Go.Proofs.YtmdogmpcmkfjpaaGreatDoor.Dt
namespace Go.Proofs.YtmdogmpcmkfjpaaGreatDoor.By
open Go.RowKit
theorem wp_region_kip' {P:Program} {id:Nat} {Q:Exit→Act→World→Prop} {a0:Act} {w:World} {l:List Oper} (kn:Nat→Value→World→Prop) (N:Nat) (hN:a0.tmps.size=N) (hm:P.follows .mixedOrders=true) (hB:mixB .any l.toArray=true)
 (hlater:∀ j v w1 w2,kn j v w1→Below w1.heap.size w1 w2→kn j v w2)
 (hops:∀ i,i < l.length→∀ (A:Act) w1,(∀ t,((List.range l.length).all fun j=>dstOf l.toArray j != some t)=true→A.eval (.tmp t)=a0.eval (.tmp t))→Below w.heap.size w w1 →
  (∀ oi,l.toArray[i]? = some oi→∀ e ∈ oi.after,Region.binds .any e=true→Known l.toArray kn N A w1 e.on)→Kip P l.toArray Q kn i A w1)
 (hend:∀ (F:Act) w1,Below w.heap.size w w1→(∀ j t,j < l.length→dstOf l.toArray j=some t→t < N→kn j (F.eval (.tmp t)) w1)→F.defers=a0.defers→F.tmps.size=N→Q .normal F w1) :
 (Code.region id l.toArray true).wp P Q a0 w:=by
 have hap:apartB l.toArray l.toArray.size=true:=by simp only [mixB,Bool.and_eq_true] at hB;exact hB.1
 rw [List.size_toArray] at hap
 refine wp_region_kip kn N hN hm hB hlater hops fun us w1 hb hh=>hend _ w1 hb (fun j t hj hd ht=>?_) ?_ ?_
 ·rw [eval_at hap us a0 hd (by rw [hN];exact ht) l.length hj (Nat.le_refl _)]
  exact hh j hj
 ·have:∀ k,(putAll l.toArray us k a0).defers=a0.defers:=by
   intro k
   induction k with
   | zero=>rfl
   | succ k ih=>
    rw [putAll]
    cases dstOf l.toArray k with
    | none=>exact ih
    | some d=>exact ih
  exact this _
 ·rw [putAll_size];exact hN
end Go.Proofs.YtmdogmpcmkfjpaaGreatDoor.By
