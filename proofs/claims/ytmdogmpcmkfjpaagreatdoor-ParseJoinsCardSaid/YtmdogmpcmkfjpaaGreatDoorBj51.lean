import Derived.Deep.DeepCutAuto
import Derived.ChangeKeysEq
import Derived.Test.YtmdogmpcmkfjpaaGreatDoorRows
import Derived.MakeChecks
import Derived.Test.YtmdogmpcmkfjpaaGreatDoorBj48
import Derived.Test.YtmdogmpcmkfjpaaGreatDoorBj39
import Derived.Test.YtmdogmpcmkfjpaaGreatDoorBj49
import Derived.Test.YtmdogmpcmkfjpaaGreatDoorBj05
import Derived.Test.YtmdogmpcmkfjpaaGreatDoorBj50
import Derived.Test.YtmdogmpcmkfjpaaGreatDoorBj45
import Derived.Test.YtmdogmpcmkfjpaaGreatDoorBj43
import Derived.Test.YtmdogmpcmkfjpaaGreatDoorBj38
import Derived.Test.YtmdogmpcmkfjpaaGreatDoorBj14
/- Part of the proof (merged). -/
namespace Go.Proofs.YtmdogmpcmkfjpaaGreatDoor.Dt
open Go.Lib
theorem ok_pos {e:PE} (he:ExOk e):1 ≤ nE e:=by cases he <;> first | exact Nat.le_refl _ | (show 1 ≤ _ + 1;omega)
theorem sum_pos {α:Type} {f:α→Nat} : ∀ l:List α,(∀ x ∈ l,1 ≤ f x)→l.length ≤ sumN f l
 | [],_=>Nat.le_refl _
 | x :: l,h=>by
  have h1:=sum_pos l (fun y hy=>h y (by simp [hy]))
  have h2:=h x (by simp)
  show l.length + 1 ≤ f x + sumN f l
  omega
theorem Short.ok {x:PE} (h:ExOk x):Short x:=by
 induction h with
 | val v hv=>exact .mk _ (by show (0:Nat) ≤ _;omega) (fun y hy=>by cases hy)
 | col m hm=>exact .mk _ (by show (0:Nat) ≤ _;omega) (fun y hy=>by cases hy)
 | tcol t m ht hm=>exact .mk _ (by show (0:Nat) ≤ _;omega) (fun y hy=>by cases hy)
 | one op x h1 h2 ih=>exact .mk _ (by show (1:Nat) ≤ _;omega) (fun y hy=>by obtain rfl:=List.mem_singleton.1 hy;exact ih)
 | two op x y h1 h2 h3 h4 ih1 ih2=>
  exact .mk _ (by show (2:Nat) ≤ _;omega) (fun z hz=>by
   have hz:z ∈ [x,y]:=hz
   simp only [List.mem_cons,List.not_mem_nil,or_false] at hz
   rcases hz with rfl | rfl
   ·exact ih1
   ·exact ih2)
 | count=>exact .mk _ (by show (0:Nat) ≤ _;omega) (fun y hy=>by cases hy)
theorem fm_len {α β:Type} {f:α→List β} {g:α→Nat} (c:Nat):∀ l:List α,(∀ x ∈ l,(f x).length ≤ c * g x)→(l.flatMap f).length ≤ c * sumN g l
 | [],_=>Nat.zero_le _
 | x :: l,h=>by
  have h1:=fm_len c l (fun y hy=>h y (by simp [hy]))
  have h2:=h x (by simp)
  rw [List.flatMap_cons,List.length_append]
  show _ ≤ c * (g x + sumN g l)
  rw [Nat.mul_add]
  omega
theorem zero_short:Short PE.zero:=.mk _ (Nat.zero_le _) (fun y hy=>by cases hy)
theorem sumN_one {α:Type} : ∀ l:List α,sumN (fun _=>1) l=l.length
 | []=>rfl
 | x :: l=>by show 1 + sumN _ l=_;rw [sumN_one l,List.length_cons];omega
def FFit (x:PSt):Prop:=(fE x).length ≤ 1000000∧(fS x).length ≤ 1000000∧x.kind < 256∧(∀ c ∈ x.cols,c.ty < 256)∧∀ e ∈ fE x,Short e
theorem fit_of {x:PSt} (hn:nSt x ≤ 4096) (hk:x.kind < 256) (hc:∀ c ∈ x.cols,c.ty < 256) (hr:∀ r ∈ x.rows,ExsOk r) (hs:∀ s ∈ x.sets,ExOk s.2) (hi:∀ i ∈ x.items,ExOk i.1) (hf:∀ s ∈ x.src,ExsOk s.on)
 (hw:ExsOk x.wh) (hg:ExsOk x.group) (hh:ExsOk x.having) (ho:∀ o ∈ x.order,ExOk o.1):FFit x:=by
 have lx:∀ {l:List PE},ExsOk l→l.length ≤ sumN nE l:=fun h=>sum_pos _ fun e he=>ok_pos (h e he)
 have r1:(x.rows.flatMap fun l=>l ++ [PE.zero]).length ≤ 1 * sumN nRow x.rows:=fm_len 1 _ fun r h=>by
  have:=lx (hr r h);rw [List.length_append];show _ + 1 ≤ 1 * (1 + sumN nE r);omega
 have s1:x.sets.length ≤ sumN nSet x.sets:=sum_pos _ fun s _=>by unfold nSet;omega
 have i1:x.items.length ≤ sumN nItem x.items:=sum_pos _ fun s h=>ok_pos (hi s h)
 have f1:(x.src.flatMap fun s=>s.on ++ [PE.zero]).length ≤ 1 * sumN nSrc x.src:=fm_len 1 _ fun s h=>by
  have:=lx (hf s h);rw [List.length_append];show _ + 1 ≤ 1 * (1 + sumN nE s.on);omega
 have f2:(x.src.flatMap fun s=>[s.table,s.as]).length ≤ 2 * sumN nSrc x.src:=fm_len 2 _ fun s _=>by show 2 ≤ 2 * (1 + sumN nE s.on);omega
 have o1:x.order.length ≤ sumN nOrd x.order:=sum_pos _ fun s h=>ok_pos (ho s h)
 have o2:(x.order.flatMap fun o=>if o.2 then [(⟨#[45]⟩:ByteArray)] else []).length ≤ 1 * sumN nOrd x.order:=fm_len 1 _ fun s h=>by
  have:=ok_pos (ho s h)
  show _ ≤ 1 * nE s.1
  split <;> simp only [List.length_cons,List.length_nil] <;> omega
 have c1:(x.cols.flatMap colF).length ≤ 3 * sumN (fun _=>1) x.cols:=fm_len 3 _ fun c _=>by
  unfold colF
  split <;> simp
 rw [sumN_one] at c1
 have w1:=lx hw
 have g1:=lx hg
 have h1:=lx hh
 unfold nSt at hn
 refine ⟨?_,?_,hk,hc,?_⟩
 ·unfold fE
  simp only [List.length_append,List.length_map]
  omega
 ·unfold fS
  simp only [List.length_append,List.length_map,List.length_cons,List.length_nil]
  omega
 ·intro e he
  unfold fE at he
  simp only [List.mem_append,List.mem_flatMap,List.mem_map,List.mem_singleton] at he
  rcases he with ((((⟨r,h1,h2 | rfl⟩ | ⟨s,h1,rfl⟩) | ⟨s,h1,rfl⟩) | ⟨s,h1,h2 | rfl⟩) | ((h1 | h1) | h1)) | ⟨s,h1,rfl⟩
  ·exact Short.ok (hr r h1 e h2)
  ·exact zero_short
  ·exact Short.ok (hs s h1)
  ·exact Short.ok (hi s h1)
  ·exact Short.ok (hf s h1 e h2)
  ·exact zero_short
  ·exact Short.ok (hw e h1)
  ·exact Short.ok (hg e h1)
  ·exact Short.ok (hh e h1)
  ·exact Short.ok (ho s h1)
theorem st_fit {x:PSt} (h:StOk x) (hn:nSt x ≤ 4096):FFit x:=by
 cases h with
 | create t cols key ht hc hk=>exact fit_of hn (by show 1 < 256;decide) (fun c h=>by have:=(hc c h).2.2;omega) (fun _ h=>by cases h) (fun _ h=>by cases h) (fun _ h=>by cases h) (fun _ h=>by cases h) (fun _ h=>by cases h) (fun _ h=>by cases h) (fun _ h=>by cases h) (fun _ h=>by cases h)
 | index u n t key hn' ht hk=>exact fit_of hn (by show 3 < 256;decide) (fun _ h=>by cases h) (fun _ h=>by cases h) (fun _ h=>by cases h) (fun _ h=>by cases h) (fun _ h=>by cases h) (fun _ h=>by cases h) (fun _ h=>by cases h) (fun _ h=>by cases h) (fun _ h=>by cases h)
 | insert t names rows ht hn' hr=>exact fit_of hn (by show 5 < 256;decide) (fun _ h=>by cases h) hr (fun _ h=>by cases h) (fun _ h=>by cases h) (fun _ h=>by cases h) (fun _ h=>by cases h) (fun _ h=>by cases h) (fun _ h=>by cases h) (fun _ h=>by cases h)
 | update t sets wh ht hc hw=>exact fit_of hn (by show 6 < 256;decide) (fun _ h=>by cases h) (fun _ h=>by cases h) (fun s h=>(hc s h).2) (fun _ h=>by cases h) (fun _ h=>by cases h) hw (fun _ h=>by cases h) (fun _ h=>by cases h) (fun _ h=>by cases h)
 | delete t wh ht hw=>exact fit_of hn (by show 7 < 256;decide) (fun _ h=>by cases h) (fun _ h=>by cases h) (fun _ h=>by cases h) (fun _ h=>by cases h) (fun _ h=>by cases h) hw (fun _ h=>by cases h) (fun _ h=>by cases h) (fun _ h=>by cases h)
 | select items src wh group having order limit hi hf hw hg hh ho h1 h2=>exact fit_of hn (by show 8 < 256;decide) (fun _ h=>by cases h) (fun _ h=>by cases h) (fun _ h=>by cases h) (fun i h=>(hi i h).1) (fun s h=>(hf s h).2.2) hw hg hh ho
 | drop | dropIndex | begin | commit | rollback | save | back | release=>
  exact fit_of hn (by simp) (fun _ h=>by cases h) (fun _ h=>by cases h) (fun _ h=>by cases h) (fun _ h=>by cases h) (fun _ h=>by cases h) (fun _ h=>by cases h) (fun _ h=>by cases h) (fun _ h=>by cases h) (fun _ h=>by cases h)
theorem script_short {t:List UInt8} {A:List PSt} (h:scriptL t = .inr A):A.length ≤ 4096:=by
 obtain ⟨L,s1,h1,h2,h3⟩:=scriptL_run h
 have hl:L.length ≤ 4096:=by
  have h4:=toksL_le h1
  have h5:=h1
  rw [toksL_eq] at h5
  by_cases hl:4096 < t.length
  ·rw [if_pos hl] at h5;cases h5
  ·omega
 have h6:A.length + 0 ≤ L.length:=stmts_len FU _ s1 A (Nat.zero_le _) h2 h3
 omega
open Go.RowKit Go.Proofs.YtmdogmpcmkfjpaaGreatDoor.By
theorem txts_below {w w':World} {v:Value} {l:List ByteArray} (h:SlR 1 TxtR w v l) (hb:Below w.heap.size w w'):SlR 1 TxtR w' v l:=SlR.below h hb fun _ _ h=>h
abbrev fZ:Array Value:=#[.int .i64 0,.int .i64 0,.int .i64 0,.int .i64 0,.int .i64 0,.int .i64 0,.int .i64 0,.int .i64 0,.int .i64 0,.int .i64 0,.int .i64 0,.int .i64 0]
theorem fN_one (x:PSt):(fN x).all (·.oneCell')=true:=by simp [fN,Value.oneCell']
theorem veilSt_ar (a:Addr) (v:Value):storeVar ATy a v=veilSt ATy a v:=rfl
theorem run_arLd (W:World) (g:Nat) (cells:Array Value) (hg:Row g ATy cells W) (hc:cells.size=12):(veilLd ATy ⟨g,0,none⟩).run Tryz.prog W = .ok (.agg cells) W:=run_arLd' W g ATy cells hg hc
theorem veilLd_ar (a:Addr):loadVar ATy a=veilLd ATy a:=rfl
theorem eq_ar (x:PSt) (W:World):(Op.equalIn 10000 ATy (.agg (fN x)) (.agg (fN x))).run Tryz.prog W = .ok true W:=by
 have hi:(Tryz.prog.info? 3).map (·.size)=some 1:=by kernel_rfl
 have hu:Tryz.prog.underlying ATy=some (.array 12 3):=by kernel_rfl
 have hc:Tryz.prog.cellsOf 3=1:=by kernel_rfl
 cases hq:Tryz.prog.info? 3 with
 | none=>rw [hq] at hi;cases hi
 | some i=>
  rw [show (10000:Nat)=9999 + 1 from rfl,run_equalIn_array W 9999 _ _ hu hq,hc]
  simp only [show List.range 12 = [0,1,2,3,4,5,6,7,8,9,10,11] from rfl,Op.eqItems,fN]
  go_simp
attribute [local go_sem ↓] veilSt_ar veilLd_ar veilLd_sm
set_option maxRecDepth 100000 in
set_option maxHeartbeats 32000000 in
theorem sameStL (x:PSt) (cs ds:List Value) (w:World) (hr:StR w cs x) (hs:StR w ds x) (hf:FFit x) :
 Calls Tryz.prog 12 #[.agg cs.toArray,.agg ds.toArray] w fun e w'=>e = .returned (.bool true)∧Below w.heap.size w w':=by
 have hsa:cs.toArray.size=16:=by rw [List.size_toArray];exact (stCells _ _ _ hr).1
 have hsd:ds.toArray.size=16:=by rw [List.size_toArray];exact (stCells _ _ _ hs).1
 have HCA:=Lib.hid (fun (W:World) (h:Below w.heap.size w W)=>flatL x cs W (stR_below hr h) hf.2.2.1 hf.2.2.2.1 hf.1 hf.2.1)
 have HCD:=Lib.hid (fun (W:World) (h:Below w.heap.size w W)=>flatL x ds W (stR_below hs h) hf.2.2.1 hf.2.2.2.1 hf.1 hf.2.1)
 have HLE:=Lib.hid hf.1
 have HLS:=Lib.hid hf.2.1
 have HSH:=Lib.hid hf.2.2.2.2
 clear hr hs hf
 generalize cs.toArray=SA at *
 generalize ds.toArray=SD at *
 have hb2:Below w.heap.size w ((w.alloc (.cells SA 31)).alloc (.cells SD 31)):=((Below.refl _ _).alloc (Nat.le_refl _) _).alloc (by simp) _
 have hz:(w.alloc (.cells SA 31)).heap.size=w.heap.size + 1:=by simp
 have hr0:=(row_alloc w 31 SA).later ((Below.refl _ _).alloc (Nat.le_refl _) (.cells SD 31))
 have hr1:=row_alloc (w.alloc (.cells SA 31)) 31 SD
 rw [hz] at hr1
 have HR1:=Lib.hid hr1
 have HB:=Lib.hid hb2
 have HZD:=Lib.hid hsd
 go_enter Tryz.func12,Tryz.ntmps12
 go_upto_region 1 with fail
 generalize (w.alloc (.cells SA 31)).alloc (.cells SD 31)=w2 at *
 have HQ1:=Lib.hid (HCA.out w2 hb2)
 have hl:=run_smLd w2 w.heap.size (hr0.b hsa)
 rw [hr0.of] at hl
 clear hsa hsd hb2 hz hr0 hr1 HCA
 go_wp2_with fail
 refine HQ1.out.mono ?_
 rintro e W1 ⟨v1,v2,rfl,he1,ht1,hb1⟩
 have ha1:Below W1.heap.size W1 (W1.alloc (.cells (fN x) ATy)):=(Below.refl _ _).alloc (Nat.le_refl _) _
 have hst:=run_veilNew ar_size W1 fZ (fN x) ATy rfl rfl (fN_one x)
 have HE1:=Lib.hid (exsR_below he1 ha1)
 have HT1:=Lib.hid (txts_below ht1 ha1)
 have HK1:=Lib.hid (row_alloc W1 ATy (fN x))
 have HB1:=Lib.hid (next HB.out (next hb1 ha1))
 have hr1:=(HR1.out.later hb1).later ha1
 clear he1 ht1 ha1 hb1 hl HB HR1 HQ1
 generalize hN:fN x=NX at *
 go_upto_region 2 with fail
 generalize W1.alloc (.cells NX ATy)=w3 at *
 generalize W1.heap.size=k1 at *
 have HQ2:=Lib.hid (HCD.out w3 HB1.out)
 have hl:=run_smLd w3 (w.heap.size + 1) (hr1.b HZD.out)
 rw [hr1.of] at hl
 clear hst hr1 HCD
 go_wp2_with fail
 refine HQ2.out.mono ?_
 rintro e W2 ⟨u1,u2,rfl,he2,ht2,hb1⟩
 have ha1:Below W2.heap.size W2 (W2.alloc (.cells NX ATy)):=(Below.refl _ _).alloc (Nat.le_refl _) _
 have hst:=run_veilNew ar_size W2 fZ NX ATy rfl (by rw [← hN];rfl) (by rw [← hN];exact fN_one x)
 have HE2:=Lib.hid (exsR_below he2 ha1)
 have HT2:=Lib.hid (txts_below ht2 ha1)
 have HE3:=Lib.hid (exsR_below (exsR_below HE1.out hb1) ha1)
 have HT3:=Lib.hid (txts_below (txts_below HT1.out hb1) ha1)
 have hk2:=row_alloc W2 ATy NX
 have hk1:=(HK1.out.later hb1).later ha1
 have HB2:=Lib.hid (next HB1.out (next hb1 ha1))
 clear he2 ht2 ha1 hb1 hl HB1 HE1 HT1 HK1 HQ2
 obtain ⟨ea1,ec1,rfl,_⟩:=HE3.out.shape
 obtain ⟨ea2,ec2,rfl,_⟩:=HE2.out.shape
 obtain ⟨ta1,tc1,rfl,_⟩:=HT3.out.shape
 obtain ⟨ta2,tc2,rfl,_⟩:=HT2.out.shape
 go_upto_region 3 with fail
 generalize W2.alloc (.cells NX ATy)=w4 at *
 generalize W2.heap.size=k2 at *
 have hl1:=run_arLd w4 k1 NX hk1 (by rw [← hN];rfl)
 have hl2:=run_arLd w4 k2 NX hk2 (by rw [← hN];rfl)
 have hq:=eq_ar x w4
 rw [hN] at hq
 clear hst hk1 hk2 hN
 go_wp2_with fail
 clear hl1 hl2 hq
 go_loopg [44] (fE x).length (fun gk iv wr=>∃ (i:Nat),iv = .int .i64 (i:Int)∧gk=(fE x).length - i∧i ≤ (fE x).length∧Hid (Below w4.heap.size w4 wr))
 case atStart=>exact ⟨0,rfl,rfl,Nat.zero_le _,Lib.hid (Below.refl _ _)⟩
 case round=>
  obtain ⟨i,rfl,rfl,hi,HBL⟩:=hrel
  by_cases hlt:i < (fE x).length
  ·obtain ⟨xa,hx⟩:∃ z,(fE x)[i]? = some z:=⟨(fE x)[i],by simp⟩
   obtain ⟨b1,o1,n1,rfl,hk1,p0,p1,p2,p3,p4,p5,p6,p7⟩:=exs_at (exsR_below HE3.out HBL.out) hx
   obtain ⟨b2,o2,n2,rfl,hk2,q0,q1,q2,q3,q4,q5,q6,q7⟩:=exs_at (exsR_below HE2.out HBL.out) hx
   have HC:Hid (∀ W,Below wr.heap.size wr W→Calls Tryz.prog 14 #[xa.val n1,xa.val n2] W fun e w'=>e = .returned (.bool true)∧Below W.heap.size W w'):=
    Lib.hid (fun W hW=>by have h:=sameExL (HSH.out xa (List.mem_of_getElem? hx)) xa n1 n2 W (exsR_below hk1 hW) (exsR_below hk2 hW);rw [eqB_self] at h;exact h)
   have ilt:(i:Int) < ((fE x).length:Int):=by omega
   have ige:(0:Int) ≤ (i:Int):=by omega
   have HLT:=Lib.hid hlt
   unfold PE.val at HC
   obtain ⟨na,nc,rfl,_⟩:=hk1.shape
   obtain ⟨ja,jc,rfl,_⟩:=hk2.shape
   clear hx hk1 hk2 hlt
   have l0:=lat_cell p0
   have l1:=lat_cell p1
   have l2:=lat_cell p2
   have l3:=lat_cell p3
   have l4:=lat_cell p4
   have l5:=lat_cell p5
   have l6:=lat_cell p6
   have l7:=lat_cell p7
   have m0:=lat_cell q0
   have m1:=lat_cell q1
   have m2:=lat_cell q2
   have m3:=lat_cell q3
   have m4:=lat_cell q4
   have m5:=lat_cell q5
   have m6:=lat_cell q6
   have m7:=lat_cell q7
   clear p0 p1 p2 p3 p4 p5 p6 p7 q0 q1 q2 q3 q4 q5 q6 q7
   go_upto_region 8 with fail
   refine wp_region_later (by kernel_rfl) (by kernel_rfl) ?_
   repeat (go_big_quiet_step (exact lat_calls (HC.out _ (lat_below _ _))))
   refine wpQuiet_nil ?_
   refine later_out (fun w5 hb5=>?_)
   have HB5:=Lib.hid (next HBL.out hb5)
   clear l0 l1 l2 l3 l4 l5 l6 l7 m0 m1 m2 m3 m4 m5 m6 m7 hb5
   go_wp2_with fail
   go_roundg ((fE x).length - (i + 1))
   case measure=>exact Nat.sub_lt_sub_left HLT.out (Nat.lt_succ_self _)
   case rel=>exact ⟨i + 1,wrap_next (by have h1:=HLE.out;have h2:=HLT.out;omega),rfl,HLT.out,HB5⟩
  ·obtain rfl:i=(fE x).length:=by omega
   have HB6:=Lib.hid (next HB2.out HBL.out)
   have HT4:=Lib.hid (txts_below HT3.out HBL.out)
   have HT5:=Lib.hid (txts_below HT2.out HBL.out)
   clear hlt hi HE3 HE2 HB2 HBL HT3 HT2
   go_wp2_with fail
   go_loopg [60] (fS x).length (fun gk iv ws=>∃ (i:Nat),iv = .int .i64 (i:Int)∧gk=(fS x).length - i∧i ≤ (fS x).length∧Hid (Below wr.heap.size wr ws))
   case atStart=>exact ⟨0,rfl,rfl,Nat.zero_le _,Lib.hid (Below.refl _ _)⟩
   case round=>
    obtain ⟨i,rfl,rfl,hi,HBL⟩:=hrel
    by_cases hlt:i < (fS x).length
    ·obtain ⟨xa,hx⟩:∃ z,(fS x)[i]? = some z:=⟨(fS x)[i],by simp⟩
     obtain ⟨b1,o1,rfl,p0⟩:=txt_at (txts_below HT4.out HBL.out) hx
     obtain ⟨b2,o2,rfl,q0⟩:=txt_at (txts_below HT5.out HBL.out) hx
     have ilt:(i:Int) < ((fS x).length:Int):=by omega
     have ige:(0:Int) ≤ (i:Int):=by omega
     have HLT:=Lib.hid hlt
     have l0:=lat_cell p0
     have m0:=lat_cell q0
     clear hx p0 q0 hlt
     go_upto_region 14 with fail
     refine wp_region_later (by kernel_rfl) (by kernel_rfl) ?_
     repeat (go_big_quiet_step (fail))
     refine wpQuiet_nil ?_
     refine later_out (fun w5 hb5=>?_)
     have HB5:=Lib.hid (next HBL.out hb5)
     clear l0 m0 hb5
     go_wp2_with fail
     go_roundg ((fS x).length - (i + 1))
     case measure=>exact Nat.sub_lt_sub_left HLT.out (Nat.lt_succ_self _)
     case rel=>exact ⟨i + 1,wrap_next (by have h1:=HLS.out;have h2:=HLT.out;omega),rfl,HLT.out,HB5⟩
    ·obtain rfl:i=(fS x).length:=by omega
     have HB7:=Lib.hid (next HB6.out HBL.out)
     clear hlt hi
     go_wp2_with fail
     go_ret
     exact ⟨rfl,HB7.out⟩
end Go.Proofs.YtmdogmpcmkfjpaaGreatDoor.Dt
namespace Go.Proofs.YtmdogmpcmkfjpaaGreatDoor.Dt
open Go.RowKit Go.Proofs.YtmdogmpcmkfjpaaGreatDoor.By
abbrev TSt:TypeId:=31
abbrev LSt:TypeId:=37
theorem run_smLdAt (W:World) (b o:Nat) (cs:List Value) (h16:cs.length=16) (hc:∀ (j:Nat) (u:Value),cs[j]? = some u→W.cell? ⟨b,o + j,none⟩=some u):(veilLd TSt ⟨b,o,none⟩).run Tryz.prog W = .ok (.agg cs.toArray) W:=by
 have hl:(loadCells ⟨b,o,none⟩ cs.length).run Tryz.prog W = .ok cs.toArray W:=run_loadCells_list (P:=Tryz.prog) W ⟨b,o,none⟩ cs (fun j v hv=>by rw [Addr.add_lit];exact hc j v hv)
 obtain ⟨fs,hu⟩:=sm_struct
 have hi:=sm_size
 cases hq:Tryz.prog.info? TSt with
 | none=>rw [hq] at hi;cases hi
 | some i=>
  have hs:i.size=16:=by simpa [hq] using hi
  have hagg:(isAgg TSt).run Tryz.prog W = .ok true W:=by
   unfold isAgg
   rw [Sem.run_bind,run_underlying hu W]
   rfl
  rw [h16] at hl
  unfold veilLd
  simp [loadVar,Sem.run_bind,hagg,sizeOf,typeInfo,hq,hs,hl]
theorem app_st {w0 w:World} {v:Value} {n:Nat} {xs:List Value} (hown:w.ownsRow w0.heap.size TSt 16 v n xs) {sv:Value} {l:List PSt} (h:SlR 16 StR w0 sv l) (hb:Below w0.heap.size w0 w) (hsz:n + l.length ≤ 1000000) (ty:TypeId) :
 ∃ (v':Value) (w':World) (cs:List (List Value)),(Builtin.append_ #[LSt,LSt] ty #[v,sv]).run Tryz.prog w = .ok v' w'∧w'.ownsRow w0.heap.size TSt 16 v' (n + l.length) (xs ++ cs.flatten)∧Below w0.heap.size w0 w'∧cs.length=l.length ∧
   ∀ (i:Nat) (c:List Value) (x:PSt),cs[i]? = some c→l[i]? = some x→c.length=16∧StR w0 c x:=by
 obtain ⟨cs,hr,hl,hR⟩:=rdz_of h
 have h1:∀ u ∈ cs.flatten,u.oneCell'=true:=fun u hu=>by
  obtain ⟨c,hc,hu⟩:=List.mem_flatten.1 hu
  obtain ⟨i,hi⟩:=List.getElem?_of_mem hc
  have hil:i < l.length:=by rw [← hl];exact (List.getElem?_eq_some_iff.1 hi).1
  exact (stCells _ _ _ (hR i c l[i] hi (by simp [hil])).2).2 u hu
 obtain ⟨v',w',r1,r2,r3,r4⟩:=run_append_w (P:=Tryz.prog) LSt ty TSt 16 320 elSt w0.heap.size v n xs hown sv l.length cs.flatten (hr.below hb) h1 (by unfold maxLen;omega) (by omega) hb.size
 exact ⟨v',w',cs,r1,r2,hb.grown r3 hb.size (fun k hk=>(World.ownsRow.lt hown k hk).1),hl,hR⟩
theorem rows_two {w:World} {va vb:Value} {A B:List PSt} (hA:SlR 16 StR w va A) (hB:SlR 16 StR w vb B) (hz:A.length + B.length ≤ 1000000) (t1 t2:TypeId) :
 ∃ v1 w1 v2 w2,(Builtin.append_ #[LSt,LSt] t1 #[.slice (some ⟨w.heap.size,0,none⟩) 0 0,va]).run Tryz.prog (w.alloc (.cells #[] TSt)) = .ok v1 w1∧(Builtin.append_ #[LSt,LSt] t2 #[v1,vb]).run Tryz.prog w1 = .ok v2 w2∧SlR 16 StR w2 v2 (A ++ B)∧Below w.heap.size w w2:=by
 have hb0:Below w.heap.size w (w.alloc (.cells #[] TSt)):=(Below.refl _ _).alloc (Nat.le_refl _) _
 have hown:(w.alloc (.cells #[] TSt)).ownsRow w.heap.size TSt 16 (.slice (some ⟨w.heap.size,0,none⟩) 0 0) 0 []:=World.ownsRow_lit w #[] 0 (Nat.le_refl _) (by unfold maxLen;omega) rfl
 obtain ⟨v1,w1,ca,r1,o1,b1,l1,R1⟩:=app_st hown hA hb0 (by omega) t1
 obtain ⟨v2,w2,cb,r2,o2,b2,l2,R2⟩:=app_st o1 hB b1 (by omega) t2
 refine ⟨v1,w1,v2,w2,r1,r2,own_slR (cs:=ca ++ cb) (e:=TSt) (lo:=w.heap.size) ?_ (by simp [l1,l2]) fun i c x hc hx=>?_,b2⟩
 ·simpa [List.flatten_append] using o2
 ·rcases Nat.lt_or_ge i ca.length with hi | hi
  ·rw [List.getElem?_append_left hi] at hc
   rw [List.getElem?_append_left (by rw [← l1];exact hi)] at hx
   exact ⟨(R1 i c x hc hx).1,stR_below (R1 i c x hc hx).2 b2⟩
  ·rw [List.getElem?_append_right hi] at hc
   rw [List.getElem?_append_right (by rw [← l1];exact hi),← l1] at hx
   exact ⟨(R2 _ c x hc hx).1,stR_below (R2 _ c x hc hx).2 b2⟩
theorem scPost_any {w w':World} {t:List UInt8} {e:Ending} (h:scPost w (scriptL t) e w'):∃ (v:Value) (en ea:Int),e = .returned (.tuple #[v,.agg #[.int .i64 en,.int .i64 ea]]) ∧
 ((∃ z a,scriptL t = .inl (z,a)∧en=(z:Int)∧ea=a∧z ≠ 0) ∨ ∃ l,scriptL t = .inr l∧en=0∧ea=0∧New w.heap.size w' (fun u=>SlR 16 StR u v l)):=by
 cases hR:scriptL t with
 | inl z=>
  obtain ⟨z,a⟩:=z
  rw [hR] at h
  exact ⟨_,_,_,h,.inl ⟨z,a,rfl,rfl,rfl,script_ne hR⟩⟩
 | inr l=>
  rw [hR] at h
  obtain ⟨v,h1,h2⟩:=h
  exact ⟨v,0,0,h1,.inr ⟨l,rfl,rfl,rfl,h2⟩⟩
theorem gESX:Tryz.prog.globalNamed "strconv.ErrSyntax" = some 4:=by kernel_rfl
theorem gESTypeX:(Tryz.prog.globals[4]?).map (·.type)=some 151:=by kernel_rfl
theorem gERX:Tryz.prog.globalNamed "strconv.ErrRange" = some 5:=by kernel_rfl
theorem gERTypeX:(Tryz.prog.globals[5]?).map (·.type)=some 151:=by kernel_rfl
theorem gTX:Tryz.prog.globalNamed "internal/strconv.uint64pow10" = some 1:=by kernel_rfl
theorem gTTypeX:(Tryz.prog.globals[1]?).map (·.type)=some 218:=by kernel_rfl
theorem gAX:Tryz.prog.globalNamed "strings.asciiSpace" = some 0:=by kernel_rfl
theorem gATypeX:(Tryz.prog.globals[0]?).map (·.type)=some 207:=by kernel_rfl
theorem starErrX: "*" ++ "errors.errorString" = "*errors.errorString" :=by decide
theorem rowErrX (u:TypeId) (h:Tryz.prog.typeName? 3 u=some "*errors.errorString"):u=250:=
 typeName_ptr_named (nm:= "errors.errorString") (by rw [starErrX];kernel_rfl) (by kernel_rfl) (by decide) u (by rw [starErrX];exact h)
theorem pow10_isX:(Rows.laid_internal_strconv_uint64pow10:DataW Unit)=Lib.tabData .u64 Lib.pow10Tab:=by kernel_rfl
theorem ascii_is:(Rows.laid_strings_asciiSpace:DataW Unit)=Lib.tabData .u8 Lib.asciiSpaceTab:=by kernel_rfl
def laid9:List (String × DataW Unit):=[("math/bits.deBruijn32tab",Rows.laid_math_bits_deBruijn32tab),("math/bits.deBruijn64tab",Rows.laid_math_bits_deBruijn64tab),("internal/strconv.uint64pow10",Rows.laid_internal_strconv_uint64pow10),("unicode/utf8.acceptRanges",Rows.laid_unicode_utf8_acceptRanges),("strconv.ErrRange",Rows.laid_strconv_ErrRange),("strconv.ErrSyntax",Rows.laid_strconv_ErrSyntax),("unicode.White_Space",Rows.laid_unicode_White_Space),("strings.asciiSpace",Rows.laid_strings_asciiSpace),("unicode/utf8.first",Rows.laid_unicode_utf8_first)]
theorem lx9 {W:World} (hsh:W.ShapedOpen Tryz.prog) (hL:laidMetH Tryz.prog laid9 W):LX W:=by
 rw [MakeChecks.laidMetH_plain _ _ _ (by kernel_rfl)] at hL
 have h2:laidMet Tryz.prog (("internal/strconv.uint64pow10",Lib.tabData .u64 Lib.pow10Tab) :: [("unicode/utf8.acceptRanges",Rows.laid_unicode_utf8_acceptRanges),("strconv.ErrRange",Rows.laid_strconv_ErrRange),("strconv.ErrSyntax",Rows.laid_strconv_ErrSyntax),("unicode.White_Space",Rows.laid_unicode_White_Space),("strings.asciiSpace",Rows.laid_strings_asciiSpace),("unicode/utf8.first",Rows.laid_unicode_utf8_first)]) W:=by
  rw [← pow10_isX];exact hL.tail.tail
 have h3:laidMet Tryz.prog (("strings.asciiSpace",Lib.tabData .u8 Lib.asciiSpaceTab) :: [("unicode/utf8.first",Rows.laid_unicode_utf8_first)]) W:=by
  rw [← ascii_is];exact hL.tail.tail.tail.tail.tail.tail.tail
 obtain ⟨a1,s1,hv1,-,-,-⟩:=laid_sentinel (n:= "strconv.ErrRange") hL.tail.tail.tail.tail gERX gERTypeX Tryz.underlying151 rowErrX Tryz.underlying250 Tryz.underlying252 rfl rfl Tryz.underlying9 (by kernel_rfl) (by kernel_rfl)
 obtain ⟨a0,s0,hv0,-,-,-⟩:=laid_sentinel (n:= "strconv.ErrSyntax") hL.tail.tail.tail.tail.tail gESX gESTypeX Tryz.underlying151 rowErrX Tryz.underlying250 Tryz.underlying252 rfl rfl Tryz.underlying9 (by kernel_rfl) (by kernel_rfl)
 exact ⟨⟨maxAt hsh,Lib.tabIs_of_head gTX gTTypeX Tryz.underlying218 Tryz.underlying126 (by kernel_rfl) (by kernel_rfl) h2,⟨_,_,hv0⟩,⟨_,_,hv1⟩⟩,Lib.tabIs_of_head gAX gATypeX Tryz.underlying207 Tryz.underlying5 (by kernel_rfl) (by kernel_rfl) h3⟩
end Go.Proofs.YtmdogmpcmkfjpaaGreatDoor.Dt
