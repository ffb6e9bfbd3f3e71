import Derived.ChangeKeysEq
import Derived.Test.YtmdogmpcmkfjpaaGreatDoorBq35
import Derived.Test.YtmdogmpcmkfjpaaGreatDoorBq25
import Derived.Test.YtmdogmpcmkfjpaaGreatDoorBq04
import Derived.Test.YtmdogmpcmkfjpaaGreatDoorBq37
import Derived.Test.YtmdogmpcmkfjpaaGreatDoorBq34
import Derived.Test.YtmdogmpcmkfjpaaGreatDoorBq28
set_option maxRecDepth 100000
set_option maxHeartbeats 64000000
/- Part. -/
namespace Go.Proofs.YtmdogmpcmkfjpaaGreatDoor.Dt
open Go.Lib
theorem Zj4 {e:PE} (he:Zfm e):1 ≤ nE e:=by cases he <;> first | exact Nat.le_refl _ | (show 1 ≤ _ + 1;omega)
theorem Zep {α:Type} {f:α→Nat} : ∀ l:List α,(∀ x ∈ l,1 ≤ f x)→l.length ≤ Zaf f l
 | [],_=>Nat.le_refl _
 | x :: l,h=>by
  have h1:=Zep l (fun y hy=>h y Zrd)
  have h2:=h x kY
  show l.length + 1 ≤ f x + Zaf f l
  omega
theorem Za5.ok {x:PE} (h:Zfm x):Za5 x:=by
 induction h with
 | val v hv=>exact .mk _ kb45 (fun y hy=>by cases hy)
 | col m hm=>exact .mk _ kb45 (fun y hy=>by cases hy)
 | tcol t m ht hm=>exact .mk _ kb45 (fun y hy=>by cases hy)
 | one op x h1 h2 ih=>exact .mk _ (by show (1:Nat) ≤ _;omega) (fun y hy=>by obtain rfl:=List.mem_singleton.1 hy;exact ih)
 | two op x y h1 h2 h3 h4 ih1 ih2=>
  exact .mk _ (by show (2:Nat) ≤ _;omega) (fun z hz=>by
   exact ks77)
 | count=>exact .mk _ kb45 (fun y hy=>by cases hy)
theorem Zlp {α β:Type} {f:α→List β} {g:α→Nat} (c:Nat):∀ l:List α,(∀ x ∈ l,(f x).length ≤ c * g x)→(l.flatMap f).length ≤ c * Zaf g l
 | [],_=>Nat.zero_le _
 | x :: l,h=>by
  have h1:=Zlp c l (fun y hy=>h y Zrd)
  have h2:=h x kY
  rw [List.flatMap_cons,List.length_append]
  show _ ≤ c * (g x + Zaf g l)
  rw [Nat.mul_add]
  omega
theorem Zk4:Za5 PE.zero:=.mk _ (Nat.zero_le _) (fun y hy=>by cases hy)
theorem Zql {α:Type} : ∀ l:List α,Zaf (fun _=>1) l=l.length
 | []=>rfl
 | x :: l=>by show 1 + Zaf _ l=_;rw [Zql l,List.length_cons];omega
def FFit (x:PSt):Prop:=(fE x).length ≤ 16000000∧(fS x).length ≤ 16000000∧x.kind < 256∧(∀ c ∈ x.cols,c.ty < 256)∧∀ e ∈ fE x,Za5 e
theorem Zkf {x:PSt} (hn:nSt x ≤ 4096) (hk:x.kind < 256) (hc:∀ c ∈ x.cols,c.ty < 256) (hr:∀ r ∈ x.rows,Zeg r) (hs:∀ s ∈ x.sets,Zfm s.2) (hi:∀ i ∈ x.items,Zfm i.1) (hf:∀ s ∈ x.src,Zeg s.on)
 (hw:Zeg x.wh) (hg:Zeg x.group) (hh:Zeg x.having) (ho:∀ o ∈ x.order,Zfm o.1):FFit x:=by
 have lx:∀ {l:List PE},Zeg l→l.length ≤ Zaf nE l:=fun h=>Zep _ fun e he=>Zj4 (h e he)
 have r1:(x.rows.flatMap fun l=>l ++ [PE.zero]).length ≤ 1 * Zaf nRow x.rows:=Zlp 1 _ fun r h=>by
  have:=lx (hr r h);rw [List.length_append];show _ + 1 ≤ 1 * (1 + Zaf nE r);omega
 have s1:x.sets.length ≤ Zaf nSet x.sets:=Zep _ fun s _=>by unfold nSet;omega
 have i1:x.items.length ≤ Zaf Zob x.items:=Zep _ fun s h=>Zj4 (hi s h)
 have f1:(x.src.flatMap fun s=>s.on ++ [PE.zero]).length ≤ 1 * Zaf Zk0 x.src:=Zlp 1 _ fun s h=>by
  have:=lx (hf s h);rw [List.length_append];show _ + 1 ≤ 1 * (1 + Zaf nE s.on);omega
 have f2:(x.src.flatMap fun s=>[s.table,s.as]).length ≤ 2 * Zaf Zk0 x.src:=Zlp 2 _ fun s _=>by show 2 ≤ 2 * (1 + Zaf nE s.on);omega
 have o1:x.order.length ≤ Zaf nOrd x.order:=Zep _ fun s h=>Zj4 (ho s h)
 have o2:(x.order.flatMap fun o=>if o.2 then [(⟨#[45]⟩:ByteArray)] else []).length ≤ 1 * Zaf nOrd x.order:=Zlp 1 _ fun s h=>by
  have:=Zj4 (ho s h)
  show _ ≤ 1 * nE s.1
  split <;> simp only [List.length_cons,List.length_nil] <;> omega
 have c1:(x.cols.flatMap Zi0).length ≤ 3 * Zaf (fun _=>1) x.cols:=Zlp 3 _ fun c _=>by
  unfold Zi0
  split <;> simp
 rw [Zql] at c1
 have w1:=lx hw
 have g1:=lx hg
 have h1:=lx hh
 unfold nSt at hn
 refine ⟨?_,?_,hk,hc,?_⟩
 ·unfold fE
  simp only [List.length_append,List.length_map]
  omega
 ·unfold fS
  simp only [List.length_append,List.length_map,List.length_cons,List.length_nil]
  omega
 intro e he
 unfold fE at he
 simp only [List.mem_append,List.mem_flatMap,List.mem_map,List.mem_singleton] at he
 rcases he with ((((⟨r,h1,h2 | rfl⟩ | ⟨s,h1,rfl⟩) | ⟨s,h1,rfl⟩) | ⟨s,h1,h2 | rfl⟩) | ((h1 | h1) | h1)) | ⟨s,h1,rfl⟩
 ·exact Za5.ok (hr r h1 e h2)
 ·exact Zk4
 ·exact Za5.ok (hs s h1)
 ·exact Za5.ok (hi s h1)
 ·exact Za5.ok (hf s h1 e h2)
 ·exact Zk4
 ·exact Za5.ok (hw e h1)
 ·exact Za5.ok (hg e h1)
 ·exact Za5.ok (hh e h1)
 exact Za5.ok (ho s h1)
theorem Zt2 {x:PSt} (h:Zf7 x) (hn:nSt x ≤ 4096):FFit x:=by
 cases h with
 | create t cols key ht hc hk=>exact Zkf hn (by show 1 < 256;decide) (fun c h=>by have:=(hc c h).2.2;omega) (fun _ h=>by cases h) (fun _ h=>by cases h) (fun _ h=>by cases h) (fun _ h=>by cases h) (fun _ h=>by cases h) (fun _ h=>by cases h) (fun _ h=>by cases h) (fun _ h=>by cases h)
 | index u n t key hn' ht hk=>exact Zkf hn (by show 3 < 256;decide) (fun _ h=>by cases h) (fun _ h=>by cases h) (fun _ h=>by cases h) (fun _ h=>by cases h) (fun _ h=>by cases h) (fun _ h=>by cases h) (fun _ h=>by cases h) (fun _ h=>by cases h) (fun _ h=>by cases h)
 | insert t names rows ht hn' hr=>exact Zkf hn (by show 5 < 256;decide) (fun _ h=>by cases h) hr (fun _ h=>by cases h) (fun _ h=>by cases h) (fun _ h=>by cases h) (fun _ h=>by cases h) (fun _ h=>by cases h) (fun _ h=>by cases h) (fun _ h=>by cases h)
 | update t sets wh ht hc hw=>exact Zkf hn (by show 6 < 256;decide) (fun _ h=>by cases h) (fun _ h=>by cases h) (fun s h=>(hc s h).2) (fun _ h=>by cases h) (fun _ h=>by cases h) hw (fun _ h=>by cases h) (fun _ h=>by cases h) (fun _ h=>by cases h)
 | delete t wh ht hw=>exact Zkf hn (by show 7 < 256;decide) (fun _ h=>by cases h) (fun _ h=>by cases h) (fun _ h=>by cases h) (fun _ h=>by cases h) (fun _ h=>by cases h) hw (fun _ h=>by cases h) (fun _ h=>by cases h) (fun _ h=>by cases h)
 | select items src wh group having order limit hi hf hw hg hh ho h1 h2=>exact Zkf hn (by show 8 < 256;decide) (fun _ h=>by cases h) (fun _ h=>by cases h) (fun _ h=>by cases h) (fun i h=>(hi i h).1) (fun s h=>(hf s h).2.2) hw hg hh ho
 | drop | dropIndex | begin | commit | rollback | save | back | release=>
  exact Zkf hn kY (fun _ h=>by cases h) (fun _ h=>by cases h) (fun _ h=>by cases h) (fun _ h=>by cases h) (fun _ h=>by cases h) (fun _ h=>by cases h) (fun _ h=>by cases h) (fun _ h=>by cases h) (fun _ h=>by cases h)
theorem Zny {t:List UInt8} {A:List PSt} (h:Z4 t = .inr A):A.length ≤ 4096:=by
 obtain ⟨L,s1,h1,h2,h3⟩:=Zer h
 have hl:L.length ≤ 4096:=by
  have h4:=Zhl h1
  have h5:=h1
  rw [Zb4] at h5
  by_cases hl:4096 < t.length
  ·rw [if_pos hl] at h5;cases h5
  ·omega
 have h6:A.length + 0 ≤ L.length:=Znr FU _ s1 A (Nat.zero_le _) h2 h3
 omega
open Go.RowKit Go.Proofs.YtmdogmpcmkfjpaaGreatDoor.By
theorem Zcc {w w':World} {v:Value} {l:List ByteArray} (h:SlR 1 Zqc w v l) (hb:Below w.heap.size w w'):SlR 1 Zqc w' v l:=SlR.below h hb fun _ _ h=>h
abbrev fZ:Array Value:=#[iZ,iZ,iZ,iZ,iZ,iZ,iZ,iZ,iZ,iZ,iZ,iZ]
theorem Zvs (x:PSt):(fN x).all (·.oneCell')=true:=by simp [fN,Value.oneCell']
theorem Zni (a:Addr) (v:Value):storeVar ATy a v=Zbw ATy a v:=rfl
theorem Zqv (W:World) (g:Nat) (cells:Array Value) (hg:Row g ATy cells W) (hc:cells.size=12):(Zcg ATy ⟨g,0,none⟩).run Tryz.prog W = .ok (.agg cells) W:=Zn3 W g ATy cells hg hc
theorem Ztn (a:Addr):loadVar ATy a=Zcg ATy a:=rfl
theorem eq_ar (x:PSt) (W:World):(Op.equalIn 10000 ATy (.agg (fN x)) (.agg (fN x))).run Tryz.prog W = .ok true W:=by
 have hi:(Tryz.prog.info? 3).map (·.size)=some 1:=kR
 have hu:Tryz.prog.underlying ATy=some (.array 12 3):=kR
 have hc:Tryz.prog.cellsOf 3=1:=kR
 cases hq:Tryz.prog.info? 3 with
 | none=>rw [hq] at hi;cases hi
 | some i=>
  rw [show (10000:Nat)=9999 + 1 from rfl,run_equalIn_array W 9999 _ _ hu hq,hc]
  simp only [show List.range 12 = [0,1,2,3,4,5,6,7,8,9,10,11] from rfl,Op.eqItems,fN]
  go_simp
attribute [local go_sem ↓] Zni Ztn Ze5
theorem Zt7 (x:PSt) (cs ds:List Value) (w:World) (hr:StR w cs x) (hs:StR w ds x) (hf:FFit x) :
 Calls Tryz.prog 12 #[.agg cs.toArray,.agg ds.toArray] w fun e w'=>e = .returned (.bool true)∧Below w.heap.size w w':=by
 have hsa:cs.toArray.size=16:=by rw [List.size_toArray];exact (Zeq _ _ _ hr).1
 have hsd:ds.toArray.size=16:=by rw [List.size_toArray];exact (Zeq _ _ _ hs).1
 have HCA:=Lh (fun (W:World) (h:Below w.heap.size w W)=>flatL x cs W (Zah hr h) hf.2.2.1 hf.2.2.2.1 hf.1 hf.2.1)
 have HCD:=Lh (fun (W:World) (h:Below w.heap.size w W)=>flatL x ds W (Zah hs h) hf.2.2.1 hf.2.2.2.1 hf.1 hf.2.1)
 have HLE:=Lh hf.1
 have HLS:=Lh hf.2.1
 have HSH:=Lh hf.2.2.2.2
 clear hr hs hf
 generalize cs.toArray=SA at *
 generalize ds.toArray=SD at *
 have hb2:Below w.heap.size w ((w.alloc (.cells SA 31)).alloc (.cells SD 31)):=(bA).alloc kY _
 have hz:(w.alloc (.cells SA 31)).heap.size=w.heap.size + 1:=kY
 have hr0:=(Zc w 31 SA).later ((Below.refl _ _).alloc (Nat.le_refl _) (.cells SD 31))
 have hr1:=Zc (w.alloc (.cells SA 31)) 31 SD
 rw [hz] at hr1
 have HR1:=Lh hr1
 have HB:=Lh hb2
 have HZD:=Lh hsd
 go_enter Tryz.func12,Tryz.ntmps12
 go_upto_region 1 with fail
 generalize (w.alloc (.cells SA 31)).alloc (.cells SD 31)=w2 at *
 have HQ1:=Lh (HCA.out w2 hb2)
 have hl:=Zej w2 w.heap.size (hr0.b hsa)
 rw [hr0.of] at hl
 clear hsa hsd hb2 hz hr0 hr1 HCA
 go_wp2_with fail
 refine HQ1.out.mono ?_
 rintro e W1 ⟨v1,v2,rfl,he1,ht1,hb1⟩
 have ha1:Below W1.heap.size W1 (W1.alloc (.cells (fN x) ATy)):=bA
 have hst:=Zba Zmz W1 fZ (fN x) ATy rfl rfl (Zvs x)
 have HE1:=Lh (Zg he1 ha1)
 have HT1:=Lh (Zcc ht1 ha1)
 have HK1:=Lh (Zc W1 ATy (fN x))
 have HB1:=Lh (next HB.out (next hb1 ha1))
 have hr1:=(HR1.out.later hb1).later ha1
 clear he1 ht1 ha1 hb1 hl HB HR1 HQ1
 generalize hN:fN x=NX at *
 go_upto_region 2 with fail
 generalize W1.alloc (.cells NX ATy)=w3 at *
 generalize W1.heap.size=k1 at *
 have HQ2:=Lh (HCD.out w3 HB1.out)
 have hl:=Zej w3 (w.heap.size + 1) (hr1.b HZD.out)
 rw [hr1.of] at hl
 clear hst hr1 HCD
 go_wp2_with fail
 refine HQ2.out.mono ?_
 rintro e W2 ⟨u1,u2,rfl,he2,ht2,hb1⟩
 have ha1:Below W2.heap.size W2 (W2.alloc (.cells NX ATy)):=bA
 have hst:=Zba Zmz W2 fZ NX ATy rfl (by rw [← hN];rfl) (by rw [← hN];exact Zvs x)
 have HE2:=Lh (Zg he2 ha1)
 have HT2:=Lh (Zcc ht2 ha1)
 have HE3:=Lh (Zg (Zg HE1.out hb1) ha1)
 have HT3:=Lh (Zcc (Zcc HT1.out hb1) ha1)
 have hk2:=Zc W2 ATy NX
 have hk1:=(HK1.out.later hb1).later ha1
 have HB2:=Lh (next HB1.out (next hb1 ha1))
 clear he2 ht2 ha1 hb1 hl HB1 HE1 HT1 HK1 HQ2
 obtain ⟨ea1,ec1,rfl,_⟩:=HE3.out.shape
 obtain ⟨ea2,ec2,rfl,_⟩:=HE2.out.shape
 obtain ⟨ta1,tc1,rfl,_⟩:=HT3.out.shape
 obtain ⟨ta2,tc2,rfl,_⟩:=HT2.out.shape
 go_upto_region 3 with fail
 generalize W2.alloc (.cells NX ATy)=w4 at *
 generalize W2.heap.size=k2 at *
 have hl1:=Zqv w4 k1 NX hk1 (by rw [← hN];rfl)
 have hl2:=Zqv w4 k2 NX hk2 (by rw [← hN];rfl)
 have hq:=eq_ar x w4
 rw [hN] at hq
 clear hst hk1 hk2 hN
 go_wp2_with fail
 clear hl1 hl2 hq
 go_loopg [44] (fE x).length (fun gk iv wr=>∃ (i:Nat),iv = .int .i64 (i:Int)∧gk=(fE x).length - i∧i ≤ (fE x).length∧Hid (Below w4.heap.size w4 wr))
 case atStart=>exact ⟨0,rfl,rfl,Nat.zero_le _,Lh (Below.refl _ _)⟩
 case round=>
  obtain ⟨i,rfl,rfl,hi,HBL⟩:=hrel
  by_cases hlt:i < (fE x).length
  ·obtain ⟨xa,hx⟩:∃ z,(fE x)[i]? = some z:=⟨(fE x)[i],by simp⟩
   obtain ⟨b1,o1,n1,rfl,hk1,p0,p1,p2,p3,p4,p5,p6,p7⟩:=Zgu (Zg HE3.out HBL.out) hx
   obtain ⟨b2,o2,n2,rfl,hk2,q0,q1,q2,q3,q4,q5,q6,q7⟩:=Zgu (Zg HE2.out HBL.out) hx
   have HC:Hid (∀ W,Below wr.heap.size wr W→Calls Tryz.prog 14 #[xa.val n1,xa.val n2] W fun e w'=>e = .returned (.bool true)∧Below W.heap.size W w'):=
    Lh (fun W hW=>by have h:=sameExL (HSH.out xa (List.mem_of_getElem? hx)) xa n1 n2 W (Zg hk1 hW) (Zg hk2 hW);rw [Zch] at h;exact h)
   have ilt:(i:Int) < ((fE x).length:Int):=kW
   have ige:(0:Int) ≤ (i:Int):=kW
   have HLT:=Lh hlt
   unfold PE.val at HC
   obtain ⟨na,nc,rfl,_⟩:=hk1.shape
   obtain ⟨ja,jc,rfl,_⟩:=hk2.shape
   clear hx hk1 hk2 hlt
   have l0:=Zb p0
   have l1:=Zb p1
   have l2:=Zb p2
   have l3:=Zb p3
   have l4:=Zb p4
   have l5:=Zb p5
   have l6:=Zb p6
   have l7:=Zb p7
   have m0:=Zb q0
   have m1:=Zb q1
   have m2:=Zb q2
   have m3:=Zb q3
   have m4:=Zb q4
   have m5:=Zb q5
   have m6:=Zb q6
   have m7:=Zb q7
   clear p0 p1 p2 p3 p4 p5 p6 p7 q0 q1 q2 q3 q4 q5 q6 q7
   go_upto_region 8 with fail
   refine Zj kR kR ?_
   repeat (go_big_quiet_step (exact Zcn (HC.out _ (Zdr _ _))))
   refine wpQuiet_nil ?_
   refine Zu (fun w5 hb5=>?_)
   have HB5:=Lh (next HBL.out hb5)
   clear l0 l1 l2 l3 l4 l5 l6 l7 m0 m1 m2 m3 m4 m5 m6 m7 hb5
   go_wp2_with fail
   go_roundg ((fE x).length - (i + 1))
   case measure=>exact Nat.sub_lt_sub_left HLT.out (Nat.lt_succ_self _)
   case rel=>exact ⟨i + 1,Zca (by have h1:=HLE.out;have h2:=HLT.out;omega),rfl,HLT.out,HB5⟩
  obtain rfl:i=(fE x).length:=kW
  have HB6:=Lh (next HB2.out HBL.out)
  have HT4:=Lh (Zcc HT3.out HBL.out)
  have HT5:=Lh (Zcc HT2.out HBL.out)
  clear hlt hi HE3 HE2 HB2 HBL HT3 HT2
  go_wp2_with fail
  go_loopg [60] (fS x).length (fun gk iv ws=>∃ (i:Nat),iv = .int .i64 (i:Int)∧gk=(fS x).length - i∧i ≤ (fS x).length∧Hid (Below wr.heap.size wr ws))
  case atStart=>exact ⟨0,rfl,rfl,Nat.zero_le _,Lh (Below.refl _ _)⟩
  case round=>
   obtain ⟨i,rfl,rfl,hi,HBL⟩:=hrel
   by_cases hlt:i < (fS x).length
   ·obtain ⟨xa,hx⟩:∃ z,(fS x)[i]? = some z:=⟨(fS x)[i],by simp⟩
    obtain ⟨b1,o1,rfl,p0⟩:=Zk6 (Zcc HT4.out HBL.out) hx
    obtain ⟨b2,o2,rfl,q0⟩:=Zk6 (Zcc HT5.out HBL.out) hx
    have ilt:(i:Int) < ((fS x).length:Int):=kW
    have ige:(0:Int) ≤ (i:Int):=kW
    have HLT:=Lh hlt
    have l0:=Zb p0
    have m0:=Zb q0
    clear hx p0 q0 hlt
    go_upto_region 14 with fail
    refine Zj kR kR ?_
    repeat (go_big_quiet_step (fail))
    refine wpQuiet_nil ?_
    refine Zu (fun w5 hb5=>?_)
    have HB5:=Lh (next HBL.out hb5)
    clear l0 m0 hb5
    go_wp2_with fail
    go_roundg ((fS x).length - (i + 1))
    case measure=>exact Nat.sub_lt_sub_left HLT.out (Nat.lt_succ_self _)
    case rel=>exact ⟨i + 1,Zca (by have h1:=HLS.out;have h2:=HLT.out;omega),rfl,HLT.out,HB5⟩
   obtain rfl:i=(fS x).length:=kW
   have HB7:=Lh (next HB6.out HBL.out)
   clear hlt hi
   go_wp2_with fail
   go_ret
   exact ⟨rfl,HB7.out⟩
end Go.Proofs.YtmdogmpcmkfjpaaGreatDoor.Dt
namespace Go.Proofs.YtmdogmpcmkfjpaaGreatDoor.Dt
open Go.RowKit Go.Proofs.YtmdogmpcmkfjpaaGreatDoor.By
abbrev TSt:TypeId:=31
theorem Zim (W:World) (b o:Nat) (cs:List Value) (h16:cs.length=16) (hc:∀ (j:Nat) (u:Value),cs[j]? = some u→W.cell? ⟨b,o + j,none⟩=some u):(Zcg TSt ⟨b,o,none⟩).run Tryz.prog W = .ok (.agg cs.toArray) W:=by
 have hl:(loadCells ⟨b,o,none⟩ cs.length).run Tryz.prog W = .ok cs.toArray W:=run_loadCells_list (P:=Tryz.prog) W ⟨b,o,none⟩ cs (fun j v hv=>by rw [Addr.add_lit];exact hc j v hv)
 obtain ⟨fs,hu⟩:=Zar
 have hi:=Zbh
 cases hq:Tryz.prog.info? TSt with
 | none=>rw [hq] at hi;cases hi
 | some i=>
  have hs:i.size=16:=by simpa [hq] using hi
  have hagg:(isAgg TSt).run Tryz.prog W = .ok true W:=by
   unfold isAgg
   rw [Sem.run_bind,run_underlying hu W]
   rfl
  rw [h16] at hl
  unfold Zcg
  simp [loadVar,Sem.run_bind,hagg,sizeOf,typeInfo,hq,hs,hl]
theorem Zsa {w w':World} {t:List UInt8} {e:Ending} (h:Zt6 w (Z4 t) e w'):∃ (v:Value) (en ea:Int),e = .returned (.tuple #[v,.agg #[.int .i64 en,.int .i64 ea]]) ∧
 ((∃ z a,Z4 t = .inl (z,a)∧en=(z:Int)∧ea=a∧z ≠ 0) ∨ ∃ l,Z4 t = .inr l∧en=0∧ea=0∧New w.heap.size w' (fun u=>SlR 16 StR u v l)):=by
 cases hR:Z4 t with
 | inl z=>
  obtain ⟨z,a⟩:=z
  rw [hR] at h
  exact ⟨_,_,_,h,.inl ⟨z,a,rfl,rfl,rfl,Zjt hR⟩⟩
 | inr l=>
  rw [hR] at h
  obtain ⟨v,h1,h2⟩:=h
  exact ⟨v,0,0,h1,.inr ⟨l,rfl,rfl,rfl,h2⟩⟩
set_option linter.unusedVariables false
set_option linter.unusedSimpArgs false
inductive Zwt:PE→Prop
 | mk (x:PE):x.v.s.size ≤ 140737488351232→x.t.size ≤ 140737488351232→x.m.size ≤ 140737488351232→x.kids.length ≤ 140737488351232→(∀ y,y ∈ x.kids→Zwt y)→Zwt x
def sz0 (x:PE):Nat:=1 + min (x.v.s.size + x.m.size + x.t.size) 4096
def szE:Nat→PE→Nat
 | 0,_=>9000
 | k + 1,x=>x.kids.foldr (fun y f n=>if 9000 < n + szE k y then n + szE k y else f (n + szE k y)) id (sz0 x)
def szF (k:Nat):List PE→Nat→Nat
 | [],n=>n
 | y :: l,n=>if 9000 < n + szE k y then n + szE k y else szF k l (n + szE k y)
theorem Zl8 (k:Nat) (x:PE):szE (k + 1) x=szF k x.kids (sz0 x):=by
 have h:∀ (l:List PE) (n:Nat),l.foldr (fun y f n=>if 9000 < n + szE k y then n + szE k y else f (n + szE k y)) id n=szF k l n:=by
  intro l
  induction l with
  | nil=>intro n;rfl
  | cons y l ih=>intro n;simp only [List.foldr_cons,szF,ih]
 rw [szE,h]
theorem szF_le (k M:Nat) (hM:∀ y,szE k y ≤ M):∀ (l:List PE) (n:Nat),n ≤ 9000→szF k l n ≤ 9000 + M
 | [],n,h=>by show n ≤ _;omega
 | y :: l,n,h=>by
  have:=hM y
  show (if 9000 < n + szE k y then n + szE k y else szF k l (n + szE k y)) ≤ _
  split
  ·omega
  ·exact szF_le k M hM l _ kW
theorem Ztu:∀ (k:Nat) (x:PE),szE k x ≤ 9000 * (k + 1)
 | 0,x=>by show 9000 ≤ 9000;omega
 | k + 1,x=>by
  have h:=szF_le k (9000 * (k + 1)) (Ztu k) x.kids (sz0 x) (by unfold sz0;omega)
  rw [Zl8,Nat.mul_succ 9000 (k + 1),Nat.add_comm]
  exact h
theorem sizeL1 (k:Nat) (x:PE) (ka:Option Addr) (kc:Nat) (w:World) (hk:k ≤ 300) (ht:Zwt x) (hx:Zbq w (.slice ka x.kids.length kc) x.kids)
 (H:∀ (y:PE),y ∈ x.kids→∀ (kv:Value) (W:World),Zbq W kv y.kids→Calls Tryz.prog 19 #[y.val kv,.int .i64 ((301 - k:Nat):Int)] W fun e w'=>e = .returned (.int .i64 (szE k y:Int))∧Below W.heap.size W w') :
 Calls Tryz.prog 19 #[x.val (.slice ka x.kids.length kc),.int .i64 ((300 - k:Nat):Int)] w fun e w'=>e = .returned (.int .i64 (szE (k + 1) x:Int))∧Below w.heap.size w w':=by
 have HH:=Lh H
 have HX:=Lh hx
 have HKB:=Lh hk
 have HZE:=Lh (Zl8 k x)
 obtain ⟨hs,h2,h3,hl,hkids⟩:x.v.s.size ≤ 140737488351232∧x.t.size ≤ 140737488351232∧x.m.size ≤ 140737488351232∧x.kids.length ≤ 140737488351232∧∀ y,y ∈ x.kids→Zwt y:=by cases ht with | mk _ a b c d e=>exact ⟨a,b,c,d,e⟩
 have HLA:=Lh hl
 have HBA:Hid (Below w.heap.size w (w.alloc (.cells (eA x ka kc) 48))):=Lh (bA)
 have HR:=Lh (Zc w 48 (eA x ka kc))
 obtain ⟨d,hd⟩:∃ d,d=300 - k:=⟨_,rfl⟩
 rw [← hd]
 have i1:¬ (300:Int) < (d:Int):=kW
 have HD:Hid ((301 - k:Nat)=d + 1):=Lh kW
 have hw1:wrap64 ((x.v.s.size:Int) + (x.m.size:Int))=(x.v.s.size:Int) + (x.m.size:Int):=by unfold wrap64;omega
 have hw2:wrap64 ((x.v.s.size:Int) + (x.m.size:Int) + (x.t.size:Int))=(x.v.s.size:Int) + (x.m.size:Int) + (x.t.size:Int):=by unfold wrap64;omega
 have HD2:Hid (d ≤ 300):=Lh kW
 unfold PE.val
 clear H hx hk ht hs h2 h3 hl hkids hd
 go_enter Tryz.func19,Tryz.ntmps19
 go_upto_region 1 with fail
 generalize w.alloc (.cells (eA x ka kc) 48)=w2 at *
 have l3:=HR.out.cell (i:=3) (v:=.string x.v.s) rfl
 have l4:=HR.out.cell (i:=4) (v:=.string x.t) rfl
 have l5:=HR.out.cell (i:=5) (v:=.string x.m) rfl
 have l7:=HR.out.cell (i:=7) (v:=.slice ka x.kids.length kc) rfl
 go_wp2_with fail
 have HZ0:Hid ((sz0 x:Int)=1 + min ((x.v.s.size:Int) + (x.m.size:Int) + (x.t.size:Int)) 4096∧sz0 x ≤ 9000):=Lh (by unfold sz0;omega)
 clear l3 l4 l5 l7 hw1 hw2 i1
 go_loopg [5,27] x.kids.length (fun gk nv iv wr=>∃ (i n:Nat),nv = .int .i64 (n:Int)∧iv = .int .i64 (i:Int)∧gk=x.kids.length - i∧i ≤ x.kids.length∧n ≤ 9000∧Hid (szF k (x.kids.drop i) n=szF k x.kids (sz0 x))∧Hid (Below w2.heap.size w2 wr))
 case atStart=>exact ⟨0,sz0 x,by rw [HZ0.out.1],rfl,rfl,Nat.zero_le _,HZ0.out.2,Lh rfl,Lh (Below.refl _ _)⟩
 case round=>
  obtain ⟨i,n,rfl,rfl,rfl,hi,hn,HF,HBL⟩:=hrel
  by_cases hlt:i < x.kids.length
  ·obtain ⟨y,hy⟩:∃ z,x.kids[i]? = some z:=⟨x.kids[i],by simp⟩
   obtain ⟨b1,o1,k1,rfl,hk1,p0,p1,p2,p3,p4,p5,p6,p7⟩:=Zgu (Zg HX.out (HBA.out.trans (HBL.out.mono HBA.out.size))) hy
   obtain ⟨na,nc,rfl,_⟩:=hk1.shape
   have hbx:Below wr.heap.size wr (wr.alloc (.cells (eA y na nc) 48)):=bA
   have HRX:=Lh (Zc wr 48 (eA y na nc))
   have hc:=HH.out y (List.mem_of_getElem? hy) (.slice na y.kids.length nc) _ (Zg hk1 hbx)
   rw [HD.out] at hc
   unfold PE.val at hc
   have HC:=Lh hc
   have HBX:=Lh (next HBL.out hbx)
   have hdr:x.kids.drop i=y :: x.kids.drop (i + 1):=by
    rw [List.drop_eq_getElem_cons hlt]
    have h:=hy
    rw [List.getElem?_eq_getElem hlt] at h
    cases h
    rfl
   have HDR:=Lh hdr
   have ilt:(i:Int) < (x.kids.length:Int):=kW
   have ige:(0:Int) ≤ (i:Int):=kW
   have HLT:=Lh hlt
   have hsz:=Ztu k y
   have HN:=Lh hn
   have HSZ:Hid (szE k y ≤ 9000 * 301):=Lh (Nat.le_trans hsz (Nat.mul_le_mul_left 9000 (by have:=HKB.out;omega)))
   clear hy hk1 hbx hc hdr hlt hsz
   go_upto_region 7 with fail
   clear p0 p1 p2 p3 p4 p5 p6 p7
   generalize wr.alloc (.cells (eA y na nc) 48)=wx at *
   obtain ⟨l0,l1,l2,l3,l4,l5,l6,l7⟩:=eC HRX.out
   have hd1:wrap64 ((d:Int) + 1)=((d + 1:Nat):Int):=by have:=HD2.out;unfold wrap64;omega
   go_wp2_with fail
   refine HC.out.mono ?_
   rintro e3 w3 ⟨rfl,hb3⟩
   have HB3:=Lh (next HBX.out hb3)
   have hws:wrap64 ((n:Int) + (szE k y:Int))=((n + szE k y:Nat):Int):=by have:=HSZ.out;have:=HN.out;unfold wrap64;omega
   clear l0 l1 l2 l3 l4 l5 l6 l7 hd1 hb3 HC
   by_cases hbig:9000 < n + szE k y
   ·have ib:(9000:Int) < ((n + szE k y:Nat):Int):=kW
    have HR1:Hid (szE (k + 1) x=n + szE k y):=Lh (by rw [HZE.out,← HF.out,HDR.out];show (if _ then _ else _)=_;rw [if_pos hbig])
    clear hbig
    go_wp2_with fail
    go_ret
    exact ⟨by rw [HR1.out];show Ending.returned (Value.int .i64 (wrap64 ((n:Int) + (szE k y:Int))))=_;rw [hws],HBA.out.trans (HB3.out.mono HBA.out.size)⟩
   have ib:¬ (9000:Int) < ((n + szE k y:Nat):Int):=kW
   have HF2:Hid (szF k (x.kids.drop (i + 1)) (n + szE k y)=szF k x.kids (sz0 x)):=Lh (by rw [← HF.out,HDR.out];show _=(if _ then _ else _);rw [if_neg hbig])
   have HNB:Hid (n + szE k y ≤ 9000):=Lh kW
   clear hbig
   go_wp2_with fail
   go_roundg (x.kids.length - (i + 1))
   case measure=>exact Nat.sub_lt_sub_left HLT.out (Nat.lt_succ_self _)
   case rel=>exact ⟨i + 1,n + szE k y,by first | rfl | (rw [Int.natCast_add]),congrArg (Value.int .i64) (by have h1:=HLA.out;have h2:=HLT.out;unfold wrap64;omega),rfl,HLT.out,HNB.out,HF2,HB3⟩
  obtain rfl:i=x.kids.length:=kW
  have HR1:Hid (szE (k + 1) x=n):=Lh (by rw [HZE.out,← HF.out,List.drop_length];rfl)
  clear hlt hi
  go_wp2_with fail
  go_ret
  exact ⟨by rw [HR1.out];rfl,HBA.out.trans (HBL.out.mono HBA.out.size)⟩
theorem size0 (x:PE) (kv:Value) (w:World):Calls Tryz.prog 19 #[x.val kv,.int .i64 301] w fun e w'=>e = .returned (.int .i64 9000)∧Below w.heap.size w w':=by
 have HBA:Hid (Below w.heap.size w (w.alloc (.cells #[.int .u8 (x.op:Int),.int .u8 (x.v.k:Int),.int .i64 x.v.n,.string x.v.s,.string x.t,.string x.m,.int .i64 x.n,kv] 48))):=Lh (bA)
 unfold PE.val
 go_enter Tryz.func19,Tryz.ntmps19
 go_wp2_with fail
 go_ret
 exact ⟨rfl,HBA.out⟩
theorem sizeL:∀ (k:Nat),k ≤ 301→∀ (x:PE) (kv:Value) (w:World),Zwt x→Zbq w kv x.kids →
 Calls Tryz.prog 19 #[x.val kv,.int .i64 ((301 - k:Nat):Int)] w fun e w'=>e = .returned (.int .i64 (szE k x:Int))∧Below w.heap.size w w'
 | 0,_,x,kv,w,_,_=>size0 x kv w
 | k + 1,hk,x,kv,w,ht,hx=>by
  obtain ⟨ka,kc,rfl,_⟩:=hx.shape
  have h:=sizeL1 k x ka kc w kW ht hx fun y hy kv W hW=>sizeL k kW y kv W (by cases ht with | mk _ _ _ _ _ e=>exact e y hy) hW
  rw [show 301 - (k + 1)=300 - k by omega]
  exact h
theorem sizeTop (x:PE) (kv:Value) (w:World) (ht:Zwt x) (hx:Zbq w kv x.kids):Calls Tryz.prog 19 #[x.val kv,iZ] w fun e w'=>e = .returned (.int .i64 (szE 301 x:Int))∧Below w.heap.size w w':=sizeL 301 (Nat.le_refl _) x kv w ht hx
def grE (K:Nat):List PE→Nat→Option Nat
 | [],n=>some n
 | e :: l,n=>if 3000 < n + szE K e then none else grE K l (n + szE K e)
def grT:List ByteArray→Nat→Bool
 | [],_=>false
 | t :: l,n=>if 9000 < n + (min t.size 4096 + 1) then true else grT l (n + (min t.size 4096 + 1))
theorem Zrh (t:ByteArray) (l:List ByteArray) (m s:Nat) (h:s=min t.size 4096 + 1):grT (t :: l) m=if 9000 < m + s then true else grT l (m + s):=by subst h;rfl
def Zgt (K:Nat) (x:PSt):Bool:=match grE K (fE x) 0 with
 | none=>true
 | some n=>grT (fS x) n
attribute [local go_sem ↓] Zni Ze5
theorem greatL1 (K:Nat) (hK:K ≤ 301) (HSI:∀ (y:PE) (kv:Value) (W:World),Zwt y→Zbq W kv y.kids→Calls Tryz.prog 19 #[y.val kv,iZ] W fun e w'=>e = .returned (.int .i64 (szE K y:Int))∧Below W.heap.size W w') (x:PSt) (cs:List Value) (w:World) (hr:StR w cs x) (hk:x.kind < 256) (hty:∀ c ∈ x.cols,c.ty < 256) (hE:(fE x).length ≤ 16000000) (hS:(fS x).length ≤ 16000000) (hT:∀ e ∈ fE x,Zwt e) (hZ:∀ t ∈ fS x,t.size ≤ 140737488351232) :
 Calls Tryz.prog 9 #[.agg cs.toArray] w fun e w'=>e = .returned (.bool (Zgt K x))∧Below w.heap.size w w':=by
 have hsa:cs.toArray.size=16:=by rw [List.size_toArray];exact (Zeq _ _ _ hr).1
 have HSH:=Lh HSI
 have HCA:=Lh (fun (W:World) (h:Below w.heap.size w W)=>flatL x cs W (Zah hr h) hk hty hE hS)
 have HLE:=Lh hE
 have HLS:=Lh hS
 have HTA:=Lh hT
 have HZZ:=Lh hZ
 clear hr hk hty hE hS hT hZ HSI
 generalize cs.toArray=SA at *
 have hb2:Below w.heap.size w (w.alloc (.cells SA 31)):=bA
 have hr0:=Zc w 31 SA
 have HB:=Lh hb2
 go_enter Tryz.func9,Tryz.ntmps9
 go_upto_region 1 with fail
 generalize w.alloc (.cells SA 31)=w2 at *
 have HQ1:=Lh (HCA.out w2 hb2)
 have hl:=Zej w2 w.heap.size (hr0.b hsa)
 rw [hr0.of] at hl
 clear hsa hb2 hr0 HCA
 go_wp2_with fail
 refine HQ1.out.mono ?_
 rintro e W1 ⟨v1,v2,rfl,he1,ht1,hb1⟩
 have ha1:Below W1.heap.size W1 (W1.alloc (.cells (fN x) ATy)):=bA
 have hst:=Zba Zmz W1 fZ (fN x) ATy rfl rfl (Zvs x)
 have HE1:=Lh (Zg he1 ha1)
 have HT1:=Lh (Zcc ht1 ha1)
 have HB1:=Lh (next HB.out (next hb1 ha1))
 clear he1 ht1 ha1 hb1 hl HB HQ1
 generalize hN:fN x=NX at *
 obtain ⟨ea1,ec1,rfl,_⟩:=HE1.out.shape
 obtain ⟨ta1,tc1,rfl,_⟩:=HT1.out.shape
 go_upto_region 2 with fail
 generalize W1.alloc (.cells NX ATy)=w3 at *
 generalize W1.heap.size=k1 at *
 clear hst hN
 go_wp2_with fail
 go_loopg [6,19] (fE x).length (fun gk nv iv wr=>∃ (i n:Nat),nv = .int .i64 (n:Int)∧iv = .int .i64 (i:Int)∧gk=(fE x).length - i∧i ≤ (fE x).length∧n ≤ 3000∧Hid (grE K ((fE x).drop i) n=grE K (fE x) 0)∧Hid (Below w3.heap.size w3 wr))
 case atStart=>exact ⟨0,0,rfl,rfl,rfl,Nat.zero_le _,by omega,Lh (by rw [List.drop_zero]),Lh (Below.refl _ _)⟩
 case round=>
  obtain ⟨i,n,rfl,rfl,rfl,hi,hn,HF,HBL⟩:=hrel
  by_cases hlt:i < (fE x).length
  ·obtain ⟨y,hy⟩:∃ z,(fE x)[i]? = some z:=⟨(fE x)[i],by simp⟩
   obtain ⟨b1,o1,kq,rfl,hk1,p0,p1,p2,p3,p4,p5,p6,p7⟩:=Zgu (Zg HE1.out HBL.out) hy
   obtain ⟨na,nc,rfl,_⟩:=hk1.shape
   have hbx:Below wr.heap.size wr (wr.alloc (.cells (eA y na nc) 48)):=bA
   have HRX:=Lh (Zc wr 48 (eA y na nc))
   have hc:=HSH.out y (.slice na y.kids.length nc) _ (HTA.out y (List.mem_of_getElem? hy)) (Zg hk1 hbx)
   unfold PE.val at hc
   have HC:=Lh hc
   have HBX:=Lh (next HBL.out hbx)
   have hdr:(fE x).drop i=y :: (fE x).drop (i + 1):=by
    rw [List.drop_eq_getElem_cons hlt]
    have h:=hy
    rw [List.getElem?_eq_getElem hlt] at h
    cases h
    rfl
   have HDR:=Lh hdr
   have ilt:(i:Int) < ((fE x).length:Int):=kW
   have ige:(0:Int) ≤ (i:Int):=kW
   have HLT:=Lh hlt
   have HN:=Lh hn
   have HSZ:=Lh (Nat.le_trans (Ztu K y) (Nat.mul_le_mul_left 9000 (Nat.succ_le_succ hK)))
   clear hy hk1 hbx hc hdr hlt
   go_upto_region 6 with fail
   clear p0 p1 p2 p3 p4 p5 p6 p7
   generalize wr.alloc (.cells (eA y na nc) 48)=wx at *
   obtain ⟨l0,l1,l2,l3,l4,l5,l6,l7⟩:=eC HRX.out
   go_wp2_with fail
   refine HC.out.mono ?_
   rintro e3 w4 ⟨rfl,hb3⟩
   have HB3:=Lh (next HBX.out hb3)
   have hws:wrap64 ((n:Int) + (szE K y:Int))=((n + szE K y:Nat):Int):=by have:=HSZ.out;have:=HN.out;unfold wrap64;omega
   clear l0 l1 l2 l3 l4 l5 l6 l7 hb3 HC
   by_cases hbig:3000 < n + szE K y
   ·have ib:(3000:Int) < ((n + szE K y:Nat):Int):=kW
    have HR1:Hid (Zgt K x=true):=Lh (by unfold Zgt;rw [← HF.out,HDR.out,show grE K (y :: (fE x).drop (i + 1)) n=none from if_pos hbig])
    clear hbig
    go_wp2_with fail
    go_ret
    exact ⟨by rw [HR1.out];rfl,next HB1.out HB3.out⟩
   have ib:¬ (3000:Int) < ((n + szE K y:Nat):Int):=kW
   have HF2:Hid (grE K ((fE x).drop (i + 1)) (n + szE K y)=grE K (fE x) 0):=Lh (by rw [← HF.out,HDR.out];exact (if_neg hbig).symm)
   have HNB:Hid (n + szE K y ≤ 3000):=Lh kW
   clear hbig
   go_wp2_with fail
   go_roundg ((fE x).length - (i + 1))
   case measure=>exact Nat.sub_lt_sub_left HLT.out (Nat.lt_succ_self _)
   case rel=>exact ⟨i + 1,n + szE K y,by first | rfl | (rw [Int.natCast_add]),Zca (by have h1:=HLE.out;have h2:=HLT.out;omega),rfl,HLT.out,HNB.out,HF2,HB3⟩
  obtain rfl:i=(fE x).length:=kW
  have HR1:Hid (Zgt K x=grT (fS x) n):=Lh (by unfold Zgt;rw [← HF.out,List.drop_length];rfl)
  have HB6:=Lh (next HB1.out HBL.out)
  have HT4:=Lh (Zcc HT1.out HBL.out)
  have hn9:n ≤ 9000:=kW
  clear hlt hi HE1 HB1 HBL HT1 HF hn
  go_wp2_with fail
  go_loopg [6,32] (fS x).length (fun gk nv iv ws=>∃ (i m:Nat),nv = .int .i64 (m:Int)∧iv = .int .i64 (i:Int)∧gk=(fS x).length - i∧i ≤ (fS x).length∧m ≤ 9000∧wr=ws∧Hid (grT ((fS x).drop i) m=grT (fS x) n))
  case atStart=>exact ⟨0,n,rfl,rfl,rfl,Nat.zero_le _,hn9,rfl,Lh (by rw [List.drop_zero])⟩
  case round=>
   obtain ⟨i,m,rfl,rfl,rfl,hi,hm,rfl,HF⟩:=hrel
   by_cases hlt:i < (fS x).length
   ·obtain ⟨t,ht⟩:∃ z,(fS x)[i]? = some z:=⟨(fS x)[i],by simp⟩
    obtain ⟨b1,o1,rfl,p0⟩:=Zk6 HT4.out ht
    have hzt:=HZZ.out t (List.mem_of_getElem? ht)
    have hdr:(fS x).drop i=t :: (fS x).drop (i + 1):=by
     rw [List.drop_eq_getElem_cons hlt]
     have h:=ht
     rw [List.getElem?_eq_getElem hlt] at h
     cases h
     rfl
    have HDR:=Lh hdr
    have ilt:(i:Int) < ((fS x).length:Int):=kW
    have ige:(0:Int) ≤ (i:Int):=kW
    have HLT:=Lh hlt
    obtain ⟨s,hs⟩:∃ s,s=min t.size 4096 + 1:=⟨_,rfl⟩
    have HS1:=Lh hs
    have HSI:Hid ((m:Int) + (min (t.size:Int) 4096 + 1)=((m + s:Nat):Int)):=Lh (by
     have h:((min t.size 4096:Nat):Int)=min (t.size:Int) 4096:=kW
     rw [hs,Int.natCast_add,Int.natCast_add,h];rfl)
    clear ht hdr hlt hs
    by_cases hbig:9000 < m + s
    ·have HR2:Hid (Zgt K x=true):=Lh (by rw [HR1.out,← HF.out,HDR.out,Zrh t _ m s HS1.out,if_pos hbig])
     have ib:(9000:Int) < (m:Int) + (min (t.size:Int) 4096 + 1):=by rw [HSI.out];omega
     clear hbig
     go_wp2_with fail
     go_ret
     exact ⟨by rw [HR2.out];rfl,HB6.out⟩
    have HF2:Hid (grT ((fS x).drop (i + 1)) (m + s)=grT (fS x) n):=Lh (by rw [← HF.out,HDR.out,Zrh t _ m s HS1.out,if_neg hbig])
    have HNB:Hid (m + s ≤ 9000):=Lh (Nat.not_lt.1 hbig)
    have ib:¬ (9000:Int) < (m:Int) + (min (t.size:Int) 4096 + 1):=by rw [HSI.out];omega
    clear hbig
    go_wp2_with fail
    go_roundg ((fS x).length - (i + 1))
    case measure=>exact Nat.sub_lt_sub_left HLT.out (Nat.lt_succ_self _)
    case rel=>exact ⟨i + 1,m + s,by rw [HSI.out],Zca (by have h1:=HLS.out;have h2:=HLT.out;omega),rfl,HLT.out,HNB.out,rfl,HF2⟩
   obtain rfl:i=(fS x).length:=kW
   have HR2:Hid (Zgt K x=false):=Lh (by rw [HR1.out,← HF.out,List.drop_length];rfl)
   clear hlt hi
   go_wp2_with fail
   go_ret
   exact ⟨by rw [HR2.out];rfl,HB6.out⟩
def Zlo (x:PSt):Bool:=Zgt 301 x
theorem greatL (x:PSt) (cs:List Value) (w:World) (hr:StR w cs x) (hk:x.kind < 256) (hty:∀ c ∈ x.cols,c.ty < 256) (hE:(fE x).length ≤ 16000000) (hS:(fS x).length ≤ 16000000) (hT:∀ e ∈ fE x,Zwt e) (hZ:∀ t ∈ fS x,t.size ≤ 140737488351232) :
 Calls Tryz.prog 9 #[.agg cs.toArray] w fun e w'=>e = .returned (.bool (Zlo x))∧Below w.heap.size w w':=
 greatL1 301 (Nat.le_refl _) (fun y kv W ht hx=>sizeTop y kv W ht hx) x cs w hr hk hty hE hS hT hZ
end Go.Proofs.YtmdogmpcmkfjpaaGreatDoor.Dt
