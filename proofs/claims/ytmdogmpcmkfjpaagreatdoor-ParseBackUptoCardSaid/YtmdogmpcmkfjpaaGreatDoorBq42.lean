import Derived.Test.YtmdogmpcmkfjpaaGreatDoorBq40
import Derived.Test.YtmdogmpcmkfjpaaGreatDoorBq41
import Derived.Test.YtmdogmpcmkfjpaaGreatDoorBq28
import Derived.Test.YtmdogmpcmkfjpaaGreatDoorBq39
set_option maxRecDepth 100000
set_option maxHeartbeats 64000000
/- Part. -/
namespace Go.Proofs.YtmdogmpcmkfjpaaGreatDoor.Dt
open Go.Lib
theorem Zgc {α:Type} {m:α→Nat} : ∀ (l:List α),(∀ a ∈ l,1 ≤ m a)→l.length ≤ (l.map m).sum
 | [],_=>Nat.le_refl _
 | a :: l,h=>by
  have h1:=Zgc l fun b hb=>h b (by simp [hb])
  have h2:=h a kY
  rw [List.map_cons,List.sum_cons,List.length_cons]
  omega
theorem Zgn {α β:Type} {f:α→List β} {m:α→Nat} : ∀ (l:List α),(∀ a ∈ l,(f a).length ≤ m a)→(l.flatMap f).length ≤ (l.map m).sum
 | [],_=>Nat.le_refl _
 | a :: l,h=>by
  have h1:=Zgn l fun b hb=>h b (by simp [hb])
  have h2:=h a kY
  rw [List.map_cons,List.sum_cons,List.flatMap_cons,List.length_append]
  omega
theorem Zm8:Zce PE.zero:=⟨.mk _ kD kD kD kD (fun y hy=>by cases hy),.mk _ kD kD (fun y hy=>by cases hy)⟩
theorem Zdh {e:PE} (h:Zwt e):Za5 e:=by
 induction h with
 | mk x _ _ _ h4 _ ih=>exact .mk x h4 ih
theorem GoodS.exs {s:PSt} {B:Nat} (h:GoodS s B):∀ e ∈ fE s,Zce e:=by
 intro e he
 unfold fE at he
 simp only [List.mem_append,List.mem_flatMap,List.mem_map,List.mem_singleton] at he
 rcases he with ((((⟨r,h1,h2 | rfl⟩ | ⟨a,h1,rfl⟩) | ⟨a,h1,rfl⟩) | ⟨a,h1,h2 | rfl⟩) | ((h1 | h1) | h1)) | ⟨a,h1,rfl⟩
 ·exact (h.rows r h1).1 e h2
 ·exact Zm8
 ·exact (h.sets a h1).1
 ·exact (h.items a h1).1
 ·exact (h.src a h1).1 e h2
 ·exact Zm8
 ·exact h.wh e h1
 ·exact h.group e h1
 ·exact h.having e h1
 exact h.order a h1
theorem GoodS.lenE {s:PSt} {B:Nat} (h:GoodS s B):(fE s).length ≤ B:=by
 have hb:=h.bulk
 have r1:=Zgn (f:=fun l:List PE=>l ++ [PE.zero]) (m:=fun l=>l.length + 1) s.rows fun a _=>by simp
 have s1:=Zgc (m:=fun a:ByteArray × PE=>a.1.size + 2) s.sets fun a _=>by omega
 have i1:=Zgc (m:=fun a:PE × ByteArray=>a.2.size + 2) s.items fun a _=>by omega
 have f1:=Zgn (f:=fun a:Zec=>a.on ++ [PE.zero]) (m:=fun a=>a.on.length + a.table.size + a.as.size + 4) s.src fun a _=>by simp;omega
 have o1:=Zgc (m:=fun _:PE × Bool=>1) s.order fun a _=>Nat.le_refl _
 unfold fE
 simp only [List.length_append,List.length_map]
 omega
theorem colF_len (c:Zeu):(Zi0 c).length ≤ 3:=by unfold Zi0;split <;> simp
theorem Zmo {α:Type} {m:α→Nat} (k:Nat):∀ l:List α,(l.map fun a=>k * m a).sum=k * (l.map m).sum
 | []=>rfl
 | a :: l=>by rw [List.map_cons,List.map_cons,List.sum_cons,List.sum_cons,Zmo k l,Nat.mul_add]
theorem GoodS.lenS {s:PSt} {B:Nat} (h:GoodS s B):(fS s).length ≤ 3 * B + 2:=by
 have hb:=h.bulk
 have c1:=Zgn (f:=Zi0) (m:=fun a:Zeu=>3 * (a.name.size + 2)) s.cols fun a _=>Nat.le_trans (colF_len a) kW
 rw [Zmo 3] at c1
 have k1:=Zgc (m:=fun a:ByteArray=>a.size + 1) s.key fun a _=>by omega
 have n1:=Zgc (m:=fun a:ByteArray=>a.size + 1) s.names fun a _=>by omega
 have s1:=Zgc (m:=fun a:ByteArray × PE=>a.1.size + 2) s.sets fun a _=>by omega
 have i1:=Zgc (m:=fun a:PE × ByteArray=>a.2.size + 2) s.items fun a _=>by omega
 have f1:=Zgn (f:=fun a:Zec=>[a.table,a.as]) (m:=fun a=>a.on.length + a.table.size + a.as.size + 4) s.src fun a _=>by show 2 ≤ _;omega
 have o1:=Zgn (f:=fun o:PE × Bool=>if o.2 then [(⟨#[45]⟩:ByteArray)] else []) (m:=fun _=>1) s.order fun a _=>by split <;> simp
 unfold fS
 simp only [List.length_append,List.length_map,List.length_cons,List.length_nil]
 omega
theorem GoodS.short {s:PSt} {B:Nat} (h:GoodS s B):Zgk s:=by
 obtain ⟨l1,l2,l3,l4,l5,l6,l7,l8,l9,l10,l11⟩:=h.lens
 exact ⟨l1,l2,l3,⟨l4,fun r hr=>⟨fun e he=>Zdh ((h.rows r hr).1 e he).1,(h.rows r hr).2⟩⟩,⟨l5,fun a ha=>Zdh (h.sets a ha).1.1⟩,⟨l6,fun a ha=>Zdh (h.items a ha).1.1⟩,
  ⟨l7,fun a ha=>⟨fun e he=>Zdh ((h.src a ha).1 e he).1,(h.src a ha).2.1⟩⟩,⟨l8,fun e he=>Zdh (h.wh e he).1⟩,⟨l9,fun e he=>Zdh (h.group e he).1⟩,⟨l10,fun e he=>Zdh (h.having e he).1⟩,⟨l11,fun a ha=>Zdh (h.order a ha).1⟩⟩
theorem GoodS.fit {s:PSt} {B:Nat} (h:GoodS s B) (hg:Zlo s=false):SFit s∧Zaf nW (fE s) ≤ 3000:=by
 obtain ⟨h1,h2⟩:=Zvp (K:=301) hg fun e he=>(h.exs e he).2
 have m:∀ {e:PE},e ∈ fE s→Zg9 e:=fun he=>h2 _ he
 refine ⟨⟨fun r hr e he=>m ?_,fun a ha=>m ?_,fun a ha=>m ?_,fun a ha e he=>m ?_,fun e he=>m ?_,fun e he=>m ?_,fun e he=>m ?_,fun a ha=>m ?_,h.lim.1,h.lim.2⟩,h1⟩ <;> unfold fE <;> simp only [List.mem_append,List.mem_flatMap,List.mem_map]
 ·exact .inl (.inl (.inl (.inl (.inl ⟨r,hr,.inl he⟩))))
 ·exact .inl (.inl (.inl (.inl (.inr ⟨a,ha,rfl⟩))))
 ·exact .inl (.inl (.inl (.inr ⟨a,ha,rfl⟩)))
 ·exact .inl (.inl (.inr ⟨a,ha,.inl he⟩))
 ·exact .inl (.inr (.inl (.inl he)))
 ·exact .inl (.inr (.inl (.inr he)))
 ·exact .inl (.inr (.inr he))
 exact .inr ⟨a,ha,rfl⟩
theorem Zi3 {α β:Type} (f:β→Nat) (g:α→β):∀ l:List α,Zaf f (l.map g)=Zaf (fun a=>f (g a)) l
 | []=>rfl
 | a :: l=>by show f (g a) + Zaf f (l.map g)=_;rw [Zi3 f g l];rfl
theorem Zjn {α β:Type} (f:β→Nat) (g:α→List β):∀ l:List α,Zaf f (l.flatMap g)=Zaf (fun a=>Zaf f (g a)) l
 | []=>rfl
 | a :: l=>by rw [List.flatMap_cons,Zc5,Zjn f g l];rfl
theorem Zei {α:Type} {f g m:α→Nat} : ∀ l:List α,(∀ a ∈ l,f a ≤ g a + m a)→Zaf f l ≤ Zaf g l + (l.map m).sum
 | [],_=>Nat.le_refl _
 | a :: l,h=>by
  have h1:=Zei l fun b hb=>h b (by simp [hb])
  have h2:=h a kY
  rw [List.map_cons,List.sum_cons]
  show f a + Zaf f l ≤ g a + Zaf g l + _
  omega
theorem Znq {α:Type} : ∀ l:List α,Zaf (fun _=>0) l=0
 | []=>rfl
 | a :: l=>by show 0 + Zaf _ l=0;rw [Znq l]
theorem GoodS.nT {s:PSt} {B:Nat} (h:GoodS s B) (hw:Zaf nW (fE s) ≤ 3000):Dt.nT s ≤ 3000 + 4 * B:=by
 have hb:=h.bulk
 unfold fE at hw
 rw [Zc5,Zc5,Zc5,Zc5,Zc5,Zjn,Zi3,Zi3,Zjn,Zc5,Zc5,Zi3] at hw
 have c1:=Zei (f:=wCol) (g:=fun _=>0) (m:=fun a:Zeu=>4 * (a.name.size + 2)) s.cols fun a _=>by unfold wCol;omega
 have k1:=Zei (f:=wTx) (g:=fun _=>0) (m:=fun a:ByteArray=>4 * (a.size + 1)) s.key fun a _=>by unfold wTx;omega
 have n1:=Zei (f:=wTx) (g:=fun _=>0) (m:=fun a:ByteArray=>4 * (a.size + 1)) s.names fun a _=>by unfold wTx;omega
 have r1:=Zei (f:=wRow) (g:=fun a:List PE=>Zaf nW (a ++ [PE.zero])) (m:=fun a:List PE=>4 * (a.length + 1)) s.rows fun a _=>by unfold wRow;rw [Zc5];omega
 have s1:=Zei (f:=wSet) (g:=fun a:ByteArray × PE=>nW a.2) (m:=fun a:ByteArray × PE=>4 * (a.1.size + 2)) s.sets fun a _=>by unfold wSet;omega
 have i1:=Zei (f:=Zl0) (g:=fun a:PE × ByteArray=>nW a.1) (m:=fun a:PE × ByteArray=>4 * (a.2.size + 2)) s.items fun a _=>by unfold Zl0;omega
 have f1:=Zei (f:=wSrc) (g:=fun a:Zec=>Zaf nW (a.on ++ [PE.zero])) (m:=fun a:Zec=>4 * (a.on.length + a.table.size + a.as.size + 4)) s.src fun a _=>by unfold wSrc;rw [Zc5];omega
 have o1:=Zei (f:=Ztm) (g:=fun a:PE × Bool=>nW a.1) (m:=fun _:PE × Bool=>4 * 1) s.order fun a _=>by unfold Ztm;omega
 rw [Zmo 4,Znq] at c1 k1 n1
 rw [Zmo 4] at r1 s1 i1 f1 o1
 unfold Dt.nT
 omega
theorem GoodS.written {s:PSt} {B:Nat} (h:GoodS s B) (hB:B ≤ 1048576) (hg:Zlo s=false):(Zb3 s []).length ≤ 1000000000:=by
 obtain ⟨h1,h2⟩:=h.fit hg
 have h3:=Znb h1
 have h4:=h.nT h2
 omega
theorem GoodS.txts {s:PSt} {B:Nat} (h:GoodS s B):∀ t ∈ fS s,t.size ≤ 140737488351232:=by
 intro t ht
 unfold fS at ht
 simp only [List.mem_append,List.mem_flatMap,List.mem_map,List.mem_cons,List.not_mem_nil,or_false] at ht
 rcases ht with (((((h1 | ⟨a,h1,h2⟩) | h1 | h1) | ⟨a,h1,rfl⟩) | ⟨a,h1,rfl⟩) | ⟨a,h1,h2⟩) | ⟨a,h1,h2⟩
 ·rcases h1 with rfl | rfl
  ·exact h.table
  exact h.name
 ·unfold Zi0 at h2
  simp only [List.mem_append,List.mem_cons,List.not_mem_nil,or_false] at h2
  rcases h2 with (rfl | rfl) | h2
  ·exact (h.cols a h1).2
  ·show (1:Nat) ≤ _
   omega
  split at h2
  ·simp only [List.mem_cons,List.not_mem_nil,or_false] at h2
   subst h2
   show (1:Nat) ≤ _
   omega
  cases h2
 ·exact h.key t h1
 ·exact h.names t h1
 ·exact (h.sets a h1).2
 ·exact (h.items a h1).2
 ·rcases h2 with rfl | rfl
  ·exact (h.src a h1).2.2.1
  exact (h.src a h1).2.2.2
 split at h2
 ·simp only [List.mem_cons,List.not_mem_nil,or_false] at h2
  subst h2
  show (1:Nat) ≤ _
  omega
 cases h2
open Go.RowKit Go.Proofs.YtmdogmpcmkfjpaaGreatDoor.By
theorem Zgk.ok {x:PSt} (h:Zf7 x) (hn:nSt x ≤ 140737488351232):Zgk x:=by
 have lx:∀ {l:List PE},Zeg l→Zaf nE l ≤ 140737488351232→l.length ≤ 140737488351232∧∀ e,e ∈ l→Za5 e:=fun hl hs=>⟨Nat.le_trans (Zep _ fun e he=>Zj4 (hl e he)) hs,fun e he=>Za5.ok (hl e he)⟩
 have e0:∀ {α:Type},([]:List α).length ≤ 140737488351232:=by intro α;exact Nat.zero_le _
 have ex0:([]:List PE).length ≤ 140737488351232∧∀ e,e ∈ ([]:List PE)→Za5 e:=⟨Nat.zero_le _,fun e he=>by cases he⟩
 have r0:([]:List (List PE)).length ≤ 140737488351232∧∀ r ∈ ([]:List (List PE)),(∀ e,e ∈ r→Za5 e)∧r.length ≤ 140737488351232:=⟨Nat.zero_le _,fun e he=>by cases he⟩
 have s0:([]:List (ByteArray × PE)).length ≤ 140737488351232∧∀ s ∈ ([]:List (ByteArray × PE)),Za5 s.2:=⟨Nat.zero_le _,fun e he=>by cases he⟩
 have i0:([]:List (PE × ByteArray)).length ≤ 140737488351232∧∀ s ∈ ([]:List (PE × ByteArray)),Za5 s.1:=⟨Nat.zero_le _,fun e he=>by cases he⟩
 have f0:([]:List Zec).length ≤ 140737488351232∧∀ s ∈ ([]:List Zec),(∀ e,e ∈ s.on→Za5 e)∧s.on.length ≤ 140737488351232:=⟨Nat.zero_le _,fun e he=>by cases he⟩
 have o0:([]:List (PE × Bool)).length ≤ 140737488351232∧∀ s ∈ ([]:List (PE × Bool)),Za5 s.1:=⟨Nat.zero_le _,fun e he=>by cases he⟩
 unfold nSt at hn
 cases h with
 | create t cols key ht hc hk=>exact ⟨by simp only at hn ⊢;omega,by simp only at hn ⊢;omega,e0,r0,s0,i0,f0,ex0,ex0,ex0,o0⟩
 | index u n t key hn' ht hk=>exact ⟨e0,by simp only at hn ⊢;omega,e0,r0,s0,i0,f0,ex0,ex0,ex0,o0⟩
 | insert t names rows ht hn' hr=>
  simp only at hn
  refine ⟨e0,e0,by simp only;omega,⟨?_,fun r hr'=>?_⟩,s0,i0,f0,ex0,ex0,ex0,o0⟩
  ·have:=Zep (f:=nRow) rows (fun r _=>by unfold nRow;omega)
   simp only;omega
  ·have h1:1 + Zaf nE r ≤ Zaf nRow rows:=Zho nRow rows r hr'
   have h2:=lx (l:=r) (hr r hr') kW
   exact ⟨h2.2,h2.1⟩
 | update t sets wh ht hc hw=>
  simp only at hn
  refine ⟨e0,e0,e0,r0,⟨?_,fun s hs=>Za5.ok (hc s hs).2⟩,i0,f0,lx (l:=wh) hw kW,ex0,ex0,o0⟩
  have:=Zep (f:=nSet) sets (fun r _=>by unfold nSet;omega)
  simp only;omega
 | delete t wh ht hw=>simp only at hn;exact ⟨e0,e0,e0,r0,s0,i0,f0,lx (l:=wh) hw kW,ex0,ex0,o0⟩
 | select items src wh group having order limit hi hs hw hg hh ho h1 h2=>
  simp only at hn
  refine ⟨e0,e0,e0,r0,s0,⟨?_,fun s hs=>Za5.ok (hi s hs).1⟩,⟨?_,fun s hs'=>?_⟩,lx (l:=wh) hw kW,lx (l:=group) hg kW,lx (l:=having) hh kW,⟨?_,fun s hs=>Za5.ok (ho s hs)⟩⟩
  ·have:=Zep (f:=Zob) items (fun r hr=>Zj4 (hi r hr).1)
   simp only;omega
  ·have:=Zep (f:=Zk0) src (fun r _=>by unfold Zk0;omega)
   simp only;omega
  ·have h1:1 + Zaf nE s.on ≤ Zaf Zk0 src:=Zho Zk0 src s hs'
   have h2:=lx (l:=s.on) (hs s hs').2.2 kW
   exact ⟨h2.2,h2.1⟩
  ·have:=Zep (f:=nOrd) order (fun r hr=>Zj4 (ho r hr))
   simp only;omega
 | drop t ht=>exact ⟨e0,e0,e0,r0,s0,i0,f0,ex0,ex0,ex0,o0⟩
 | dropIndex n hn=>exact ⟨e0,e0,e0,r0,s0,i0,f0,ex0,ex0,ex0,o0⟩
 | begin=>exact ⟨e0,e0,e0,r0,s0,i0,f0,ex0,ex0,ex0,o0⟩
 | commit=>exact ⟨e0,e0,e0,r0,s0,i0,f0,ex0,ex0,ex0,o0⟩
 | rollback=>exact ⟨e0,e0,e0,r0,s0,i0,f0,ex0,ex0,ex0,o0⟩
 | save n hn=>exact ⟨e0,e0,e0,r0,s0,i0,f0,ex0,ex0,ex0,o0⟩
 | back n hn=>exact ⟨e0,e0,e0,r0,s0,i0,f0,ex0,ex0,ex0,o0⟩
 | release n hn=>exact ⟨e0,e0,e0,r0,s0,i0,f0,ex0,ex0,ex0,o0⟩
namespace nr696
theorem qR0 {p:Prop} (h:p:=by
 cases hR:Z4 t.data.toList with
 | inl z=>
  obtain ⟨en,ea⟩:=z
  rw [hR] at HSC
  clear hR
  go_wp2_with fail
  refine HSC.out.mono ?_
  rintro e5 w5 ⟨rfl,hb5⟩
  have HB5:=Lh (next HB4.out (hb5.alloc hb5.size (.cells #[.int .i64 (en:Int),.int .i64 ea] 39)))
  have HRS:=Lh (Zc w5 39 #[.int .i64 (en:Int),.int .i64 ea])
  clear hb5 HSC
  go_upto_region 5 with fail
  generalize w5.alloc (.cells #[.int .i64 (en:Int),.int .i64 ea] 39)=w6 at *
  generalize w5.heap.size=g at *
  have l0:=Zb (HRS.out.cell (i:=0) (v:=.int .i64 (en:Int)) rfl)
  refine Zj kR kR ?_
  repeat (go_big_quiet_step (fail))
  refine wpQuiet_nil ?_
  refine Zu (fun w7 hb7=>?_)
  have HB7:=Lh (next HB5.out hb7)
  clear hb7 l0
  go_wp2_with fail
  go_ret2
  exact ⟨⟨#[]⟩,rfl,rfl,HB7.out⟩
 | inr l=>
  rw [hR] at HSC
  clear hR
  go_wp2_with fail
  refine HSC.out.mono ?_
  rintro e5 w5 ⟨⟨v,rfl,hn⟩,hb5⟩
  have HB5:=Lh (next HB4.out (hb5.alloc hb5.size (.cells #[iZ,iZ] 39)))
  have HRS:=Lh (Zc w5 39 #[iZ,iZ])
  obtain ⟨va,vc,rfl,_⟩:=hn.here.shape
  clear hn hb5 HSC
  go_upto_region 5 with fail
  generalize w5.alloc (.cells #[iZ,iZ] 39)=w6 at *
  generalize w5.heap.size=g at *
  have l0:=Zb (HRS.out.cell (i:=0) (v:=iZ) rfl)
  refine Zj kR kR ?_
  repeat (go_big_quiet_step (fail))
  refine wpQuiet_nil ?_
  refine Zu (fun w7 hb7=>?_)
  have HB7:=Lh (next HB5.out hb7)
  clear hb7 l0
  go_wp2_with fail
  go_ret2
  exact ⟨⟨#[]⟩,rfl,rfl,HB7.out⟩):p:=h
end nr696
open nr696 in
theorem printC1 (x:PSt) (cs:List Value) (w:World) (hx:LX w) (hr:StR w cs x) (hS:∀ w1 b,Below w.heap.size w w1→STW w1 b x) (hlen:(Zb3 x []).length ≤ 1000000000) (PT:List UInt8) (hpp:Zdy (Zb3 x [])=(PT,false)) :
 Calls Tryz.prog 10 #[.agg cs.toArray] w (Ziv w ([],2)):=by exact kp2
namespace nr697
theorem qR0 {p:Prop} (h:p:=by
 have htt:t.data.toList=PT:=HT1.out trivial
 have hne:=Zjt hsc
 have e1:((en:Int) != 0)=true:=kQ
 rw [htt,hsc] at HSC
 clear hsc hne htt
 go_wp2_with fail
 refine HSC.out.mono ?_
 rintro e5 w5 ⟨rfl,hb5⟩
 have HB5:=Lh (next HB4.out (hb5.alloc hb5.size (.cells #[.int .i64 (en:Int),.int .i64 ea] 39)))
 have HRS:=Lh (Zc w5 39 #[.int .i64 (en:Int),.int .i64 ea])
 clear hb5 HSC
 go_upto_region 5 with fail
 generalize w5.alloc (.cells #[.int .i64 (en:Int),.int .i64 ea] 39)=w6 at *
 generalize w5.heap.size=g at *
 have l0:=Zb (HRS.out.cell (i:=0) (v:=.int .i64 (en:Int)) rfl)
 refine Zj kR kR ?_
 repeat (go_big_quiet_step (fail))
 refine wpQuiet_nil ?_
 refine Zu (fun w7 hb7=>?_)
 have HB7:=Lh (next HB5.out hb7)
 clear hb7 l0
 go_wp2_with fail
 go_ret2
 exact ⟨⟨#[]⟩,rfl,rfl,HB7.out⟩):p:=h
end nr697
open nr697 in
theorem printC2 (x:PSt) (cs:List Value) (w:World) (hx:LX w) (hr:StR w cs x) (hS:∀ w1 b,Below w.heap.size w w1→STW w1 b x) (hlen:(Zb3 x []).length ≤ 1000000000) (PT:List UInt8) (hpp:Zdy (Zb3 x [])=(PT,true)) (en:Nat) (ea:Int) (hsc:Z4 PT = .inl (en,ea)) :
 Calls Tryz.prog 10 #[.agg cs.toArray] w (Ziv w ([],2)):=by exact kp2
namespace nr698
theorem qR0 {p:Prop} (h:p:=by
 have htt:t.data.toList=PT:=HT1.out trivial
 rw [htt,hsc] at HSC
 have hk1:((l.length:Int) != 1)=true:=by
  simp only [bne_iff_ne,ne_eq]
  omega
 clear hsc htt hl
 go_wp2_with fail
 refine HSC.out.mono ?_
 rintro e5 w5 ⟨⟨v,rfl,hn⟩,hb5⟩
 have HB5:=Lh (next HB4.out (hb5.alloc hb5.size (.cells #[iZ,iZ] 39)))
 have HRS:=Lh (Zc w5 39 #[iZ,iZ])
 obtain ⟨va,vc,rfl,_⟩:=hn.here.shape
 clear hn hb5 HSC
 go_upto_region 5 with fail
 generalize w5.alloc (.cells #[iZ,iZ] 39)=w6 at *
 generalize w5.heap.size=g at *
 have l0:=Zb (HRS.out.cell (i:=0) (v:=iZ) rfl)
 refine Zj kR kR ?_
 repeat (go_big_quiet_step (fail))
 refine wpQuiet_nil ?_
 refine Zu (fun w7 hb7=>?_)
 have HB7:=Lh (next HB5.out hb7)
 clear hb7 l0
 go_wp2_with fail
 go_ret2
 exact ⟨⟨#[]⟩,rfl,rfl,HB7.out⟩):p:=h
end nr698
open nr698 in
theorem printC3 (x:PSt) (cs:List Value) (w:World) (hx:LX w) (hr:StR w cs x) (hS:∀ w1 b,Below w.heap.size w w1→STW w1 b x) (hlen:(Zb3 x []).length ≤ 1000000000) (PT:List UInt8) (hpp:Zdy (Zb3 x [])=(PT,true)) (l:List PSt) (hsc:Z4 PT = .inr l) (hl:l.length ≠ 1) :
 Calls Tryz.prog 10 #[.agg cs.toArray] w (Ziv w ([],2)):=by exact kp2
theorem Zuk (x:PSt) (cs:List Value) (w:World) (hx:LX w) (hr:StR w cs x) (hS:∀ w1 b,Below w.heap.size w w1→STW w1 b x) (hlen:(Zb3 x []).length ≤ 1000000000) :
 Calls Tryz.prog 10 #[.agg cs.toArray] w (Ziv w (Zc1 x)):=by
 obtain ⟨⟨PT,ok⟩,hPP⟩:∃ z,Zdy (Zb3 x [])=z:=⟨_,rfl⟩
 cases ok with
 | false=>
  rw [Zjb (x:=x) (by rw [hPP];simp)]
  exact printC1 x cs w hx hr hS hlen PT hPP
 | true=>
  cases hR:Z4 PT with
  | inl z=>
   obtain ⟨en,ea⟩:=z
   rw [Zjb (x:=x) (by rw [hPP];simp [hR])]
   exact printC2 x cs w hx hr hS hlen PT hPP en ea hR
  | inr l=>
   by_cases hl:l.length=1
   ·obtain ⟨y,rfl⟩:=List.length_eq_one_iff.1 hl
    by_cases he:y=x
    ·have h4:=Zpu x cs w hx hr hS hlen PT hPP y (Zgk.ok (Zd3 hR y kY) (Nat.le_trans (Zfc hR y kY) kD)) hR true (Za3.2 he) (PT,0) (Lh (fun h=>Bool.noConfusion h)) (Lh (fun _=>rfl))
     have h5:=Zuj (x:=x) (by rw [hPP]) (by rw [hPP,← he];exact hR)
     rw [h5,hPP]
     exact h4
    ·have h4:=Zpu x cs w hx hr hS hlen PT hPP y (Zgk.ok (Zd3 hR y kY) (Nat.le_trans (Zfc hR y kY) kD)) hR false (Zw he) ([],2) (Lh (fun _=>rfl)) (Lh (fun h=>Bool.noConfusion h))
     rw [Zjb (x:=x) (by rw [hPP];simp [hR,he])]
     exact h4
   ·rw [Zjb (x:=x) (by rw [hPP];simp only [hR];rintro ⟨_,h⟩;injection h with h;exact hl (by rw [h];rfl))]
    exact printC3 x cs w hx hr hS hlen PT hPP l hR hl
end Go.Proofs.YtmdogmpcmkfjpaaGreatDoor.Dt
