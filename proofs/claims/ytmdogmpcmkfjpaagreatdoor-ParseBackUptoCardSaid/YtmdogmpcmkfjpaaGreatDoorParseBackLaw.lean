import Derived.Test.YtmdogmpcmkfjpaaGreatDoorTie
import Derived.Test.YtmdogmpcmkfjpaaGreatDoorCards
import Derived.SevenTiedAt
import Derived.Stop.Joined
import Derived.Test.YtmdogmpcmkfjpaaGreatDoorBq07
import Derived.Test.YtmdogmpcmkfjpaaGreatDoorBq34
import Derived.Test.YtmdogmpcmkfjpaaGreatDoorBq38
import Derived.Test.YtmdogmpcmkfjpaaGreatDoorBq44
import Derived.Test.YtmdogmpcmkfjpaaGreatDoorBq06
set_option maxRecDepth 100000
set_option maxHeartbeats 64000000
/- ParseBack: the law returns true at every input. -/
namespace Go.Proofs.YtmdogmpcmkfjpaaGreatDoor.ParseBack
open Go.ChangeShapes Go.WideShapes Go.ChangeAt Go.RowKit Go.Proofs.YtmdogmpcmkfjpaaGreatDoor.By
set_option linter.unusedVariables false
open Go.Proofs.YtmdogmpcmkfjpaaGreatDoor.Dt Go.Proofs.YtmdogmpcmkfjpaaGreatDoor.By
set_option linter.unusedSimpArgs false
theorem Zgp {ops:Array Oper} {a:Act} {o:Oper} {g t:Nat} {b:Bool} (h:o.guard=some (g,b)) (hd:Z7 ops g=some t) (he:a.eval (.tmp t)=undef):Region.wanted o (yielded ops a.tmps)=false:=by
 unfold Region.wanted
 rw [h]
 show (yielded ops a.tmps g == some b)=false
 unfold yielded
 unfold Z7 at hd
 rw [hd]
 show ((match a.tmps[t]? with | some (.bool b)=>some b | _=>none) == some b)=false
 rw [Zfv,Array.getD_eq_getD_getElem?] at he
 cases h3:a.tmps[t]? with
 | none=>rfl
 | some v=>
  rw [h3] at he
  obtain rfl:v=undef:=he
  rfl
theorem Zlh {x:PSt} {t:List UInt8} (h:Zc1 x=(t,0)):Z4 t = .inr [x]:=by
 unfold Zc1 at h
 cases hR:Zea (Ze6 (Zb3 x [])) with
 | inl e=>rw [hR] at h;cases h
 | inr L=>
  rw [hR] at h
  simp only at h
  split at h
  ·rename_i hh
   cases h
   exact hh.2
  ·cases h
theorem Zn6 (x:PSt):(Zc1 x).2=0 ∨ (Zc1 x).2=2:=by
 unfold Zc1
 cases hR:Zea (Ze6 (Zb3 x [])) with
 | inl e=>exact .inr rfl
 | inr L=>
  simp only
  split
  ·exact .inl rfl
  ·exact .inr rfl
def Zo8 (yb yo vc:Nat) (YA SA:Array Value):Nat→Value→World→Prop
 | 0,v,_=>v = .agg #[iZ,iZ]
 | 1,v,_=>v = .agg #[iZ,iZ]
 | 2,v,_=>v = .bool false
 | 3,v,_=>v = .bool false
 | 4,v,_=>v = .slice (some ⟨yb,yo,none⟩) 1 vc
 | 5,v,_=>v = .int .i64 1
 | 6,v,_=>v = .bool false
 | 7,v,_=>v = .bool false
 | 8,v,_=>v = .bool false
 | 9,v,_=>v = .slice (some ⟨yb,yo,none⟩) 1 vc
 | 10,v,_=>v = .pointer (some ⟨yb,yo,none⟩)
 | 11,v,_=>v = .agg YA
 | 12,v,_=>v = .agg SA
 | 13,v,_=>v = .bool true
 | 14,v,_=>v = .bool false
 | 15,v,_=>v = .bool false
 | _,_,_=>True
theorem Zo8.later {yb yo vc:Nat} {YA SA:Array Value} : ∀ (j:Nat) (v:Value) (w1 w2:World),Zo8 yb yo vc YA SA j v w1→Below w1.heap.size w1 w2→Zo8 yb yo vc YA SA j v w2
 | 0,_,_,_,h,_=>h
 | 1,_,_,_,h,_=>h
 | 2,_,_,_,h,_=>h
 | 3,_,_,_,h,_=>h
 | 4,_,_,_,h,_=>h
 | 5,_,_,_,h,_=>h
 | 6,_,_,_,h,_=>h
 | 7,_,_,_,h,_=>h
 | 8,_,_,_,h,_=>h
 | 9,_,_,_,h,_=>h
 | 10,_,_,_,h,_=>h
 | 11,_,_,_,h,_=>h
 | 12,_,_,_,h,_=>h
 | 13,_,_,_,h,_=>h
 | 14,_,_,_,h,_=>h
 | 15,_,_,_,h,_=>h
 | _ + 16,_,_,_,h,_=>h
def Zw0 (T2:ByteArray) (mb mo mc:Nat) (YA XA:Array Value):Nat→Value→World→Prop
 | 0,v,_=>v = .string T2
 | 1,v,_=>v = .int .i64 (T2.size:Int)
 | 2,v,_=>v = .bool true
 | 3,v,_=>v = .bool true
 | 4,v,_=>v = .agg #[iZ,iZ]
 | 5,v,_=>v = .agg #[iZ,iZ]
 | 6,v,_=>v = .bool false
 | 7,v,_=>v = .bool false
 | 8,v,_=>v = .slice (some ⟨mb,mo,none⟩) 1 mc
 | 9,v,_=>v = .int .i64 1
 | 10,v,_=>v = .bool false
 | 11,v,_=>v = .bool false
 | 12,v,_=>v = .bool false
 | 13,v,_=>v = .slice (some ⟨mb,mo,none⟩) 1 mc
 | 14,v,_=>v = .pointer (some ⟨mb,mo,none⟩)
 | 15,v,_=>v = .agg YA
 | 16,v,_=>v = .agg XA
 | 17,v,_=>v = .bool true
 | 18,v,_=>v = .bool false
 | 19,v,_=>v = .bool false
 | 20,v,_=>v = .bool false
 | _,_,_=>True
theorem Zw0.later {T2:ByteArray} {mb mo mc:Nat} {YA XA:Array Value} : ∀ (j:Nat) (v:Value) (w1 w2:World),Zw0 T2 mb mo mc YA XA j v w1→Below w1.heap.size w1 w2→Zw0 T2 mb mo mc YA XA j v w2
 | 0,_,_,_,h,_=>h
 | 1,_,_,_,h,_=>h
 | 2,_,_,_,h,_=>h
 | 3,_,_,_,h,_=>h
 | 4,_,_,_,h,_=>h
 | 5,_,_,_,h,_=>h
 | 6,_,_,_,h,_=>h
 | 7,_,_,_,h,_=>h
 | 8,_,_,_,h,_=>h
 | 9,_,_,_,h,_=>h
 | 10,_,_,_,h,_=>h
 | 11,_,_,_,h,_=>h
 | 12,_,_,_,h,_=>h
 | 13,_,_,_,h,_=>h
 | 14,_,_,_,h,_=>h
 | 15,_,_,_,h,_=>h
 | 16,_,_,_,h,_=>h
 | 17,_,_,_,h,_=>h
 | 18,_,_,_,h,_=>h
 | 19,_,_,_,h,_=>h
 | 20,_,_,_,h,_=>h
 | _ + 21,_,_,_,h,_=>h
def Zww (T2:ByteArray):Nat→Value→World→Prop
 | 0,v,_=>v = .string T2
 | 1,v,_=>v = .int .i64 (T2.size:Int)
 | 2,v,_=>v = .bool false
 | 3,v,_=>v = .bool false
 | 4,v,_=>v=undef
 | 5,v,_=>v=undef
 | 6,v,_=>v=undef
 | 7,v,_=>v=undef
 | 8,v,_=>v=undef
 | 9,v,_=>v=undef
 | 10,v,_=>v=undef
 | 11,v,_=>v=undef
 | 12,v,_=>v=undef
 | 13,v,_=>v=undef
 | 14,v,_=>v=undef
 | 15,v,_=>v=undef
 | 16,v,_=>v=undef
 | 17,v,_=>v=undef
 | 18,v,_=>v=undef
 | 19,v,_=>v=undef
 | 20,v,_=>v = .bool false
 | _,_,_=>True
theorem Zww.later {T2:ByteArray} : ∀ (j:Nat) (v:Value) (w1 w2:World),Zww T2 j v w1→Below w1.heap.size w1 w2→Zww T2 j v w2
 | 0,_,_,_,h,_=>h
 | 1,_,_,_,h,_=>h
 | 2,_,_,_,h,_=>h
 | 3,_,_,_,h,_=>h
 | 4,_,_,_,h,_=>h
 | 5,_,_,_,h,_=>h
 | 6,_,_,_,h,_=>h
 | 7,_,_,_,h,_=>h
 | 8,_,_,_,h,_=>h
 | 9,_,_,_,h,_=>h
 | 10,_,_,_,h,_=>h
 | 11,_,_,_,h,_=>h
 | 12,_,_,_,h,_=>h
 | 13,_,_,_,h,_=>h
 | 14,_,_,_,h,_=>h
 | 15,_,_,_,h,_=>h
 | 16,_,_,_,h,_=>h
 | 17,_,_,_,h,_=>h
 | 18,_,_,_,h,_=>h
 | 19,_,_,_,h,_=>h
 | 20,_,_,_,h,_=>h
 | _ + 21,_,_,_,h,_=>h
theorem Zld {t:List UInt8} {A:List PSt} (h:Z4 t = .inr A):t.length ≤ 4096:=by
 obtain ⟨L,s1,h1,h2,h3⟩:=Zer h
 rw [Zb4] at h1
 by_cases hl:4096 < t.length
 ·rw [if_pos hl] at h1;cases h1
 omega
attribute [local go_sem ↓] Zhe Ze5
theorem walk (s:PSt) (B:Nat) (cs:List Value) (t:ByteArray) (w:World) (hw:LX w) (hr:StR w cs s) (hg:GoodS s B) (hB:B ≤ 1048576) (hz:∀ x ∈ fS s,x.size ≤ 140737488351232) (ht:t.size ≤ 140737488351232) :
 Calls Tryz.prog 3 #[.agg cs.toArray,.string t] w fun e w'=>e = .returned (.bool true)∧Below w.heap.size w w':=by
 have hsa:cs.toArray.size=16:=by rw [List.size_toArray];exact (Zeq _ _ _ hr).1
 have HSA:=Lh (fun (W:World) (h:Below w.heap.size w W)=>greatL s cs W (Zah hr h) hg.kind (fun c hc=>(hg.cols c hc).1) (Nat.le_trans hg.lenE kW) (Nat.le_trans hg.lenS kW) (fun e he=>(hg.exs e he).1) hz)
 have HSP:=Lh (fun (hgr:Zlo s=false) (W:World) (h:Below w.heap.size w W)=>Zum hg hB hgr cs W (hw.later h) (Zah hr h))
 have HW:=Lh hw
 have HT:=Lh ht
 have HSR:=Lh hr
 generalize hSA:cs.toArray=SA at *
 have HEA:=Lh hSA
 have hb1:Below w.heap.size w (w.alloc (.cells SA 31)):=bA
 have HB1:=Lh hb1
 have HR0:=Lh (Zc w 31 SA)
 have HZ:=Lh hsa
 clear hw hr hg hz ht hb1 hsa hSA
 go_enter Tryz.func3,Tryz.ntmps3
 go_upto_region 1 with fail
 generalize w.alloc (.cells SA 31)=w1 at *
 have HWK:=Lh (worksL w1 (HW.out.later HB1.out))
 go_wp2_with fail
 refine HWK.out.mono ?_
 rintro e w2 ⟨rfl,hb2⟩
 have HB2:=Lh (next HB1.out hb2)
 have HR2:=Lh (HR0.out.later hb2)
 have hl:=Zej w2 w.heap.size (HR2.out.b HZ.out)
 rw [HR2.out.of] at hl
 have HG:=Lh (HSA.out w2 HB2.out)
 clear hb2 HWK HB1 HR0
 go_wp2_with fail
 refine HG.out.mono ?_
 rintro e w3 ⟨rfl,hb3⟩
 have HB3:=Lh (next HB2.out hb3)
 have HR3:=Lh (HR2.out.later hb3)
 clear hb3 HG hl HB2 HR2 HSA
 cases hgr:Zlo s with
 | true=>
  go_wp2_with fail
  go_ret
  exact ⟨rfl,HB3.out⟩
 | false=>
  by_cases hl1:8192 < t.size
  ·have i1:(8192:Int) < (t.size:Int):=kW
   clear hl1
   go_wp2_with fail
   go_ret
   exact ⟨rfl,HB3.out⟩
  have i1:¬ (8192:Int) < (t.size:Int):=kW
  have HL1:=Lh hl1
  have hl:=Zej w3 w.heap.size (HR3.out.b HZ.out)
  rw [HR3.out.of] at hl
  have HP:=Lh (HSP.out hgr w3 HB3.out)
  clear hl1 hgr HSP
  go_wp2_with fail
  refine HP.out.mono ?_
  rintro e w4 ⟨t1,rfl,ht1,hb4⟩
  have HB4:=Lh (next HB3.out hb4)
  have HR4:=Lh (HR3.out.later hb4)
  have HPT:=Lh ht1
  clear ht1 hb4 HP hl HB3 HR3
  go_upto_if 32 with fail
  go_cut [] (fun wx=>Hid (Below w.heap.size w wx))
  case first=>
   rcases Zn6 s with he | he
   ·have HSC:Hid (Z4 t1.data.toList = .inr [s]):=Lh (Zlh (by rw [HPT.out,← he]))
    have hsc:=Zme t1 w4 (HW.out.later HB4.out) (by
     have h:=Zld HSC.out
     rw [Zid] at h
     omega)
    rw [HSC.out] at hsc
    have HS4:=Lh hsc
    have hez:(((Zc1 s).2:Int) == 0)=true:=by rw [he];rfl
    clear hsc he
    go_wp2_with fail
    refine HS4.out.mono ?_
    rintro e w5 ⟨⟨v,rfl,hn⟩,hb5⟩
    obtain ⟨va,vc,hv,_⟩:=hn.here.shape
    replace hv:v = .slice va 1 vc:=hv
    subst hv
    have hba:Below w5.heap.size w5 (w5.alloc (.cells #[iZ,iZ] 39)):=bA
    have HRS:=Lh (Zc w5 39 #[iZ,iZ])
    have HB6:=Lh (next HB4.out (next hb5 hba))
    have HR6:=Lh (HR4.out.later (next hb5 hba))
    obtain ⟨yb,yo,ycs,rfl,h16,hst,hyc⟩:=hn.here.get (k:=0) rfl
    have HLY:Hid (∀ W,Below (w5.alloc (.cells #[iZ,iZ] 39)).heap.size (w5.alloc (.cells #[iZ,iZ] 39)) W→(Zcg 31 ⟨yb,yo,none⟩).run Tryz.prog W = .ok (.agg ycs.toArray) W):=Lh (fun W hW=>Zim W yb yo ycs h16 fun j u hu=>by
     have h:=hyc j u hu
     rw [Nat.zero_mul,Nat.add_zero] at h
     exact ((next hba hW).cell (Zd h)).trans h)
    have HLS:Hid (∀ W,Below (w5.alloc (.cells #[iZ,iZ] 39)).heap.size (w5.alloc (.cells #[iZ,iZ] 39)) W→(Zcg 31 ⟨w.heap.size,0,none⟩).run Tryz.prog W = .ok (.agg SA) W):=Lh (fun W hW=>by
     have h:=Zej W w.heap.size ((HR6.out.later hW).b HZ.out)
     rw [(HR6.out.later hW).of] at h
     exact h)
    have HSM:Hid (∀ W,Below (w5.alloc (.cells #[iZ,iZ] 39)).heap.size (w5.alloc (.cells #[iZ,iZ] 39)) W→Calls Tryz.prog 12 #[.agg ycs.toArray,.agg SA] W fun e w'=>e = .returned (.bool true)∧Below W.heap.size W w'):=Lh (fun W hW=>by
     have h:=Zt7 s ycs cs W (Zah hst (next hba hW)) (Zah HSR.out (next HB6.out hW)) (Zt2 (Zd3 HSC.out s kY) (Zfc HSC.out s kY))
     rw [HEA.out] at h
     exact h)
    generalize ycs.toArray=YA at *
    clear hn hb5 hba hyc hst h16 HS4 hez
    go_upto_region 8 with fail
    generalize w5.alloc (.cells #[iZ,iZ] 39)=w6 at *
    generalize w5.heap.size=q8 at *
    refine Zdn (Zo8 yb yo vc YA SA) 106 kY kR kR Zo8.later ?_ ?_
    ·intro i hi A W hother hbW hd
     match i,hi with
     | 0,hi=>
      have h8:=Zt (show A.eval (.tmp 8) = pV q8 from hother 8 kR)
      have z0:=(HRS.out.later hbW).cell (i:=0) (v:=iZ) rfl
      have z1:=(HRS.out.later hbW).cell (i:=1) (v:=iZ) rfl
      clear hother hd hi
      exact Zh rfl (Zf rfl) (.agg #[iZ,iZ]) kb0 rfl
     | 1,hi=>
      clear hother hd hi
      exact Zh rfl (Zf rfl) (.agg #[iZ,iZ]) kb0 rfl
     | 2,hi=>
      have h38:=(hd _ rfl ⟨0,.data⟩ kY rfl).t (.agg #[iZ,iZ]) 38
      have h39:=(hd _ rfl ⟨1,.data⟩ kY rfl).t (.agg #[iZ,iZ]) 39
      have hq:∀ W,(binOp .neq 39 (.agg #[iZ,iZ]) (.agg #[iZ,iZ])).run Tryz.prog W = .ok (.bool false) W:=fun W=>Zgb 0 0 0 0 false kY W
      clear hother hd hi
      exact Zh rfl (Zf rfl) (.bool false) kb0 rfl
     | 3,hi=>
      have h40:=(hd _ rfl ⟨2,.data⟩ kY rfl).t (.bool false) 40
      clear hother hd hi
      exact Zh rfl (Zf rfl) (.bool false) kb0 rfl
     | 4,hi=>
      have h7:=Zt (show A.eval (.tmp 7) = .slice (some ⟨yb,yo,none⟩) 1 vc from hother 7 kR)
      have hgd:=(hd _ rfl ⟨3,.guard⟩ kY rfl).e (.bool false) 41
      exact ks40
     | 5,hi=>
      have h42:=(hd _ rfl ⟨4,.data⟩ kY rfl).t (.slice (some ⟨yb,yo,none⟩) 1 vc) 42
      have hgd:=(hd _ rfl ⟨3,.guard⟩ kY rfl).e (.bool false) 41
      clear hother hd hi
      exact Zh rfl (Zl rfl kR hgd) (.int .i64 1) kb0 rfl
     | 6,hi=>
      have h43:=(hd _ rfl ⟨5,.data⟩ kY rfl).t (.int .i64 1) 43
      have hgd:=(hd _ rfl ⟨3,.guard⟩ kY rfl).e (.bool false) 41
      clear hother hd hi
      exact Zh rfl (Zl rfl kR hgd) (.bool false) kb0 rfl
     | 7,hi=>
      have h41:=(hd _ rfl ⟨3,.data⟩ kY rfl).t (.bool false) 41
      have h44:=(hd _ rfl ⟨6,.data⟩ kY rfl).t (.bool false) 44
      clear hother hd hi
      exact Zh rfl (Zf rfl) (.bool false) kb0 rfl
     | 8,hi=>
      have h45:=(hd _ rfl ⟨7,.data⟩ kY rfl).t (.bool false) 45
      clear hother hd hi
      exact Zh rfl (Zf rfl) (.bool false) kb0 rfl
     | 9,hi=>
      have h7:=Zt (show A.eval (.tmp 7) = .slice (some ⟨yb,yo,none⟩) 1 vc from hother 7 kR)
      have hgd:=(hd _ rfl ⟨8,.guard⟩ kY rfl).e (.bool false) 46
      exact ks40
     | 10,hi=>
      have h47:=(hd _ rfl ⟨9,.data⟩ kY rfl).t (.slice (some ⟨yb,yo,none⟩) 1 vc) 47
      have hgd:=(hd _ rfl ⟨8,.guard⟩ kY rfl).e (.bool false) 46
      exact ks56
     | 11,hi=>
      have h48:=(hd _ rfl ⟨10,.data⟩ kY rfl).t (.pointer (some ⟨yb,yo,none⟩)) 48
      have hgd:=(hd _ rfl ⟨8,.guard⟩ kY rfl).e (.bool false) 46
      have hl:=HLY.out W hbW
      clear hother hd hi
      exact Zh rfl (Zl rfl kR hgd) (.agg YA) kb0 rfl
     | 12,hi=>
      have h2:=Zt (show A.eval (.tmp 2) = .pointer (some ⟨w.heap.size,0,none⟩) from hother 2 kR)
      have hgd:=(hd _ rfl ⟨8,.guard⟩ kY rfl).e (.bool false) 46
      have hl:=HLS.out W hbW
      clear hother hd hi
      exact Zh rfl (Zl rfl kR hgd) (.agg SA) kb0 rfl
     | 13,hi=>
      have h49:=(hd _ rfl ⟨11,.data⟩ kY rfl).t (.agg YA) 49
      have h50:=(hd _ rfl ⟨12,.data⟩ kY rfl).t (.agg SA) 50
      have hgd:=(hd _ rfl ⟨8,.guard⟩ kY rfl).e (.bool false) 46
      clear hother hd hi
      exact Zct rfl (Zl rfl kR hgd) 12 #[.agg YA,.agg SA] kb0 ((HSM.out W hbW).mono fun e w2 hh=>⟨⟨_,hh.1,rfl⟩,hh.2⟩)
     | 14,hi=>
      have h51:=(hd _ rfl ⟨13,.data⟩ kY rfl).t (.bool true) 51
      have hgd:=(hd _ rfl ⟨8,.guard⟩ kY rfl).e (.bool false) 46
      clear hother hd hi
      exact Zh rfl (Zl rfl kR hgd) (.bool false) kb0 rfl
     | 15,hi=>
      have h46:=(hd _ rfl ⟨8,.data⟩ kY rfl).t (.bool false) 46
      have h52:=(hd _ rfl ⟨14,.data⟩ kY rfl).t (.bool false) 52
      clear hother hd hi
      exact Zh rfl (Zf rfl) (.bool false) kb0 rfl
     | n + 16,hi=>simp at hi;omega
    intro us w7 hb7 hh
    have h15:us 15 = .bool false:=hh 15 kY
    have HB7:=Lh (next HB6.out hb7)
    clear hh hb7
    simp only [List.length_cons,List.length_nil,Nat.zero_add,Nat.reduceAdd,Z1,Z7,List.getElem?_toArray,List.getElem?_cons_zero,List.getElem?_cons_succ,Option.bind_some,Act.put,h15]
    clear h15
    simp only [List.setIfInBounds_toArray,List.set_cons_zero,List.set_cons_succ]
    go_wp2_with fail
    go_meet
    exact HB7
   ·have hez:(((Zc1 s).2:Int) == 0)=false:=by rw [he];rfl
    clear he
    go_wp2_with fail
    go_meet
    exact HB4
  case rest=>
   have HB9:=hcut
   clear hcut HR4 HPT HB4 HSR HEA HZ
   generalize wc=w9 at *
   have HE9:=Lh (Zme t w9 (HW.out.later HB9.out) HT.out)
   cases hR:Z4 t.data.toList with
   | inl z=>
    obtain ⟨en,ea⟩:=z
    rw [hR] at HE9
    have hne:=Zjt hR
    have qs:∀ W,(binOp .neq 39 (.agg #[.int .i64 (en:Int),.int .i64 ea]) (.agg #[iZ,iZ])).run Tryz.prog W = .ok (.bool true) W:=fun W=>Zgb (en:Int) 0 ea 0 true kb58 W
    clear hR hne
    go_wp2_with fail
    refine HE9.out.mono ?_
    rintro e w10 ⟨he,hb10⟩
    have he:e = .returned (.tuple #[nS,.agg #[.int .i64 (en:Int),.int .i64 ea]]):=he
    subst he
    have HB10:=Lh (next (next HB9.out hb10) ((Below.refl _ _).alloc (Nat.le_refl _) (.cells #[.int .i64 (en:Int),.int .i64 ea] 39)))
    clear hb10 HE9
    go_wp2_with fail
    go_ret
    exact ⟨rfl,HB10.out⟩
   | inr A=>
    rw [hR] at HE9
    have HRA:=Lh hR
    have qs:∀ W,(binOp .neq 39 (.agg #[iZ,iZ]) (.agg #[iZ,iZ])).run Tryz.prog W = .ok (.bool false) W:=fun W=>Zgb 0 0 0 0 false kY W
    clear hR
    go_wp2_with fail
    refine HE9.out.mono ?_
    rintro e w10 ⟨⟨v,rfl,hn⟩,hb10⟩
    have hba:Below w10.heap.size w10 (w10.alloc (.cells #[iZ,iZ] 39)):=bA
    have HD:=Lh (SlR.below hn.here hba fun _ _ h=>Zah h hba)
    have HB10:=Lh (next (next HB9.out hb10) hba)
    have HRS:=Lh (Zc w10 39 #[iZ,iZ])
    have HLN:Hid (A.length ≤ 4096):=Lh (Zny HRA.out)
    obtain ⟨va,vc,rfl,_⟩:=hn.here.shape
    clear hn hb10 hba HE9 HB9
    go_upto_region 11 with fail
    generalize w10.alloc (.cells #[iZ,iZ] 39)=w11 at *
    generalize w10.heap.size=q10 at *
    have s0:=HRS.out.cell (i:=0) (v:=iZ) rfl
    have s1:=HRS.out.cell (i:=1) (v:=iZ) rfl
    go_wp2_with fail
    clear s0 s1 HRS
    go_loopg [67] A.length (fun gk iv wr=>∃ (i:Nat),iv = .int .i64 (i:Int)∧gk=A.length - i∧i ≤ A.length∧Hid (Below w11.heap.size w11 wr))
    case atStart=>exact ⟨0,rfl,rfl,Nat.zero_le _,Lh (Below.refl _ _)⟩
    case round=>
     obtain ⟨i,rfl,rfl,hi,HBL⟩:=hrel
     by_cases hlt:i < A.length
     ·obtain ⟨x,hx⟩:∃ z,A[i]? = some z:=⟨A[i],by simp⟩
      have hxA:x ∈ A:=List.mem_of_getElem? hx
      obtain ⟨b1,o1,c1,rfl,l1,st1,hc1⟩:=(SlR.below HD.out HBL.out fun _ _ h=>Zah h HBL.out).get hx
      have hl:=Zim wr b1 (o1 + i * 16) c1 l1 hc1
      have hst:=Zhw wr stZ c1.toArray 31 rfl (Zo.2 ⟨by rw [List.size_toArray];exact l1,Array.all_eq_true_iff_forall_mem.2 fun u hu=>(Zeq _ _ _ st1).2 u kb34⟩)
      have hbx:Below wr.heap.size wr (wr.alloc (.cells c1.toArray 31)):=bA
      have hrx:=Zc wr 31 c1.toArray
      have HLX:Hid (∀ W,Below (wr.alloc (.cells c1.toArray 31)).heap.size (wr.alloc (.cells c1.toArray 31)) W→(Zcg 31 ⟨wr.heap.size,0,none⟩).run Tryz.prog W = .ok (.agg c1.toArray) W):=Lh (by
       obtain ⟨fs,hu⟩:=Zar
       exact fun W hW=>Zdj hu Zbh W wr.heap.size c1.toArray _ (hrx.later hW) (by rw [List.size_toArray];exact l1))
      have HBX:=Lh (next HB10.out (next HBL.out hbx))
      have HSX:=Lh (Zah st1 hbx)
      have HPX:=Lh (Zul HRA.out hxA c1 (wr.alloc (.cells c1.toArray 31)) (HW.out.later HBX.out) HSX.out)
      have HOK:=Lh (Zd3 HRA.out x hxA)
      have HFT:=Lh (Zt2 (Zd3 HRA.out x hxA) (Zfc HRA.out x hxA))
      have HBG:=Lh (next HBL.out hbx)
      have ilt:(i:Int) < (A.length:Int):=kW
      have ige:(0:Int) ≤ (i:Int):=kW
      have HLT:=Lh hlt
      generalize hXA:c1.toArray=XA at *
      have HEX:=Lh hXA
      clear hx hxA l1 st1 hc1 hbx hrx hlt hXA
      go_upto_region 16 with fail
      clear hl hst
      have hl:=HLX.out _ (Below.refl _ _)
      generalize wr.alloc (.cells XA 31)=wx at *
      generalize wr.heap.size=p12 at *
      go_wp2_with fail
      refine HPX.out.mono ?_
      rintro e w12 ⟨t2,rfl,ht2,hb12⟩
      have HPT:=Lh ht2
      have HB12:=Lh hb12
      clear ht2 hb12 HPX hl
      rcases Zn6 x with he | he
      ·have HP0:Hid (Zc1 x=(t2.data.toList,0)):=Lh (by rw [HPT.out,← he])
       have HSC:Hid (Z4 t2.data.toList = .inr [x]):=Lh (Zlh HP0.out)
       have HTL:Hid (t2.size ≤ 4096):=Lh (by
        have h:=Zld HSC.out
        rwa [Zid] at h)
       have hne:(((Zc1 x).2:Int) == 0)=true:=by rw [he];rfl
       have ha:∀ W,(Op.stringOp .add t2 ⟨#[32,59]⟩).run Tryz.prog W = .ok (.string (t2 ++ ⟨#[32,59]⟩)) W:=fun W=>run_string_add_sum (P:=Tryz.prog) W _ _ (by have:=HTL.out;show t2.size + 2 ≤ _;omega)
       obtain ⟨T,hT⟩:∃ z:ByteArray,z=t2 ++ ⟨#[32,59]⟩:=⟨_,rfl⟩
       rw [← hT] at ha
       have hz2:T.size=t2.size + 2:=by rw [hT];simp [ByteArray.size_append];rfl
       have HTD:Hid (T.data.toList=t2.data.toList ++ [32,59]):=Lh (by rw [hT];simp [ByteArray.data_append])
       have HE:=Lh (Zme T w12 (HW.out.later (next HBX.out HB12.out)) (by have:=HTL.out;omega))
       clear he hT
       by_cases i4:(t2.size:Int) ≤ 4094
       ·have hs:=HE.out
        rw [HTD.out,back HOK.out HP0.out (by rw [Zid];omega)] at hs
        have HE:=Lh hs
        clear hs hz2
        go_wp2_with fail
        refine HE.out.mono ?_
        rintro e w13 ⟨⟨v,rfl,hn⟩,hb13⟩
        obtain ⟨va,vc2,hv,_⟩:=hn.here.shape
        replace hv:v = .slice va 1 vc2:=hv
        subst hv
        have hba:Below w13.heap.size w13 (w13.alloc (.cells #[iZ,iZ] 39)):=bA
        have HRM:=Lh (Zc w13 39 #[iZ,iZ])
        have HB14:=Lh (next HB12.out (next hb13 hba))
        obtain ⟨mb,mo,ycs,rfl,h16,hsy,hyc⟩:=hn.here.get (k:=0) rfl
        have HLY:Hid (∀ W,Below (w13.alloc (.cells #[iZ,iZ] 39)).heap.size (w13.alloc (.cells #[iZ,iZ] 39)) W→(Zcg 31 ⟨mb,mo,none⟩).run Tryz.prog W = .ok (.agg ycs.toArray) W):=Lh (fun W hW=>Zim W mb mo ycs h16 fun j u hu=>by
         have h:=hyc j u hu
         rw [Nat.zero_mul,Nat.add_zero] at h
         exact ((next hba hW).cell (Zd h)).trans h)
        have HLX:Hid (∀ W,Below (w13.alloc (.cells #[iZ,iZ] 39)).heap.size (w13.alloc (.cells #[iZ,iZ] 39)) W→(Zcg 31 ⟨p12,0,none⟩).run Tryz.prog W = .ok (.agg XA) W):=Lh (fun W hW=>HLX.out W (next HB14.out hW))
        have HSM:Hid (∀ W,Below (w13.alloc (.cells #[iZ,iZ] 39)).heap.size (w13.alloc (.cells #[iZ,iZ] 39)) W→Calls Tryz.prog 12 #[.agg ycs.toArray,.agg XA] W fun e w'=>e = .returned (.bool true)∧Below W.heap.size W w'):=Lh (fun W hW=>by
         have h:=Zt7 x ycs c1 W (Zah hsy (next hba hW)) (Zah HSX.out (next HB14.out hW)) HFT.out
         rw [HEX.out] at h
         exact h)
        generalize ycs.toArray=YA at *
        clear hn hb13 hba hyc hsy h16 HE hne ha
        go_upto_region 19 with fail
        generalize w13.alloc (.cells #[iZ,iZ] 39)=w14 at *
        generalize w13.heap.size=q14 at *
        refine Zdn (Zw0 t2 mb mo vc2 YA XA) 106 kY kR kR Zw0.later ?_ ?_
        ·intro k hk A0 W hother hbW hd
         match k,hk with
         | 0,hi=>
          exact ks72
         | 1,hi=>
          exact ks63
         | 2,hi=>
          have h85:=(hd _ rfl ⟨1,.data⟩ kY rfl).t (.int .i64 (t2.size:Int)) 85
          have i5:=i4
          clear hother hd hi
          exact Zh rfl (Zf rfl) (.bool true) kb0 rfl
         | 3,hi=>
          have h86:=(hd _ rfl ⟨2,.data⟩ kY rfl).t (.bool true) 86
          clear hother hd hi
          exact Zh rfl (Zf rfl) (.bool true) kb0 rfl
         | 4,hi=>
          have h16:=Zt (show A0.eval (.tmp 16) = pV q14 from hother 16 kR)
          have hgd:=(hd _ rfl ⟨3,.guard⟩ kY rfl).e (.bool true) 87
          have z0:=(HRM.out.later hbW).cell (i:=0) (v:=iZ) rfl
          have z1:=(HRM.out.later hbW).cell (i:=1) (v:=iZ) rfl
          clear hother hd hi
          exact Zh rfl (Zl rfl kR hgd) (.agg #[iZ,iZ]) kb0 rfl
         | 5,hi=>
          have hgd:=(hd _ rfl ⟨3,.guard⟩ kY rfl).e (.bool true) 87
          clear hother hd hi
          exact Zh rfl (Zl rfl kR hgd) (.agg #[iZ,iZ]) kb0 rfl
         | 6,hi=>
          have h88:=(hd _ rfl ⟨4,.data⟩ kY rfl).t (.agg #[iZ,iZ]) 88
          have h89:=(hd _ rfl ⟨5,.data⟩ kY rfl).t (.agg #[iZ,iZ]) 89
          have hgd:=(hd _ rfl ⟨3,.guard⟩ kY rfl).e (.bool true) 87
          have hq:∀ W,(binOp .neq 39 (.agg #[iZ,iZ]) (.agg #[iZ,iZ])).run Tryz.prog W = .ok (.bool false) W:=fun W=>Zgb 0 0 0 0 false kY W
          clear hother hd hi
          exact Zh rfl (Zl rfl kR hgd) (.bool false) kb0 rfl
         | 7,hi=>
          have h90:=(hd _ rfl ⟨6,.data⟩ kY rfl).t (.bool false) 90
          exact ks30
         | 8,hi=>
          have h15:=Zt (show A0.eval (.tmp 15) = .slice (some ⟨mb,mo,none⟩) 1 vc2 from hother 15 kR)
          have hgd:=(hd _ rfl ⟨7,.guard⟩ kY rfl).e (.bool false) 91
          clear hother hd hi
          exact Zh rfl (Zl rfl kR hgd) (.slice (some ⟨mb,mo,none⟩) 1 vc2) kb0 rfl
         | 9,hi=>
          have h92:=(hd _ rfl ⟨8,.data⟩ kY rfl).t (.slice (some ⟨mb,mo,none⟩) 1 vc2) 92
          have hgd:=(hd _ rfl ⟨7,.guard⟩ kY rfl).e (.bool false) 91
          clear hother hd hi
          exact Zh rfl (Zl rfl kR hgd) (.int .i64 1) kb0 rfl
         | 10,hi=>
          have h93:=(hd _ rfl ⟨9,.data⟩ kY rfl).t (.int .i64 1) 93
          have hgd:=(hd _ rfl ⟨7,.guard⟩ kY rfl).e (.bool false) 91
          clear hother hd hi
          exact Zh rfl (Zl rfl kR hgd) (.bool false) kb0 rfl
         | 11,hi=>
          have h91:=(hd _ rfl ⟨7,.data⟩ kY rfl).t (.bool false) 91
          have h94:=(hd _ rfl ⟨10,.data⟩ kY rfl).t (.bool false) 94
          exact ks30
         | 12,hi=>
          have h95:=(hd _ rfl ⟨11,.data⟩ kY rfl).t (.bool false) 95
          exact ks30
         | 13,hi=>
          have h15:=Zt (show A0.eval (.tmp 15) = .slice (some ⟨mb,mo,none⟩) 1 vc2 from hother 15 kR)
          have hgd:=(hd _ rfl ⟨12,.guard⟩ kY rfl).e (.bool false) 96
          clear hother hd hi
          exact Zh rfl (Zl rfl kR hgd) (.slice (some ⟨mb,mo,none⟩) 1 vc2) kb0 rfl
         | 14,hi=>
          have h97:=(hd _ rfl ⟨13,.data⟩ kY rfl).t (.slice (some ⟨mb,mo,none⟩) 1 vc2) 97
          have hgd:=(hd _ rfl ⟨12,.guard⟩ kY rfl).e (.bool false) 96
          clear hother hd hi
          exact Zh rfl (Zl rfl kR hgd) (.pointer (some ⟨mb,mo,none⟩)) kb0 rfl
         | 15,hi=>
          have h98:=(hd _ rfl ⟨14,.data⟩ kY rfl).t (.pointer (some ⟨mb,mo,none⟩)) 98
          have hgd:=(hd _ rfl ⟨12,.guard⟩ kY rfl).e (.bool false) 96
          have hl:=HLY.out W hbW
          clear hother hd hi
          exact Zh rfl (Zl rfl kR hgd) (.agg YA) kb0 rfl
         | 16,hi=>
          have h12:=Zt (show A0.eval (.tmp 12) = pV p12 from hother 12 kR)
          have hgd:=(hd _ rfl ⟨12,.guard⟩ kY rfl).e (.bool false) 96
          have hl:=HLX.out W hbW
          clear hother hd hi
          exact Zh rfl (Zl rfl kR hgd) (.agg XA) kb0 rfl
         | 17,hi=>
          have h99:=(hd _ rfl ⟨15,.data⟩ kY rfl).t (.agg YA) 99
          have h100:=(hd _ rfl ⟨16,.data⟩ kY rfl).t (.agg XA) 100
          have hgd:=(hd _ rfl ⟨12,.guard⟩ kY rfl).e (.bool false) 96
          clear hother hd hi
          exact Zct rfl (Zl rfl kR hgd) 12 #[.agg YA,.agg XA] kb0 ((HSM.out W hbW).mono fun e w2 hh=>⟨⟨_,hh.1,rfl⟩,hh.2⟩)
         | 18,hi=>
          have h101:=(hd _ rfl ⟨17,.data⟩ kY rfl).t (.bool true) 101
          have hgd:=(hd _ rfl ⟨12,.guard⟩ kY rfl).e (.bool false) 96
          clear hother hd hi
          exact Zh rfl (Zl rfl kR hgd) (.bool false) kb0 rfl
         | 19,hi=>
          have h96:=(hd _ rfl ⟨12,.data⟩ kY rfl).t (.bool false) 96
          have h102:=(hd _ rfl ⟨18,.data⟩ kY rfl).t (.bool false) 102
          exact ks30
         | 20,hi=>
          have h87:=(hd _ rfl ⟨3,.data⟩ kY rfl).t (.bool true) 87
          have h103:=(hd _ rfl ⟨19,.data⟩ kY rfl).t (.bool false) 103
          clear hother hd hi
          exact Zh rfl (Zf rfl) (.bool false) kb0 rfl
         | n + 21,hi=>simp at hi;omega
        exact ks23
       ·clear hz2
        go_wp2_with fail
        refine HE.out.mono ?_
        rintro e w13 ⟨hp3,hb13⟩
        obtain ⟨vq,en3,ea3,rfl,_⟩:=Zsa hp3
        have hba:Below w13.heap.size w13 (w13.alloc (.cells #[.int .i64 en3,.int .i64 ea3] 39)):=bA
        have HB14:=Lh (next HB12.out (next hb13 hba))
        clear hp3 hb13 hba HE hne ha
        go_upto_region 19 with fail
        generalize w13.alloc (.cells #[.int .i64 en3,.int .i64 ea3] 39)=w14 at *
        refine Zdn (Zww t2) 106 kY kR kR Zww.later ?_ ?_
        ·intro k hk A0 W hother hbW hd
         match k,hk with
         | 0,hi=>
          exact ks72
         | 1,hi=>
          exact ks63
         | 2,hi=>
          have h85:=(hd _ rfl ⟨1,.data⟩ kY rfl).t (.int .i64 (t2.size:Int)) 85
          have i5:=i4
          clear hother hd hi
          exact Zh rfl (Zf rfl) (.bool false) kb0 rfl
         | 3,hi=>
          have h86:=(hd _ rfl ⟨2,.data⟩ kY rfl).t (.bool false) 86
          clear hother hd hi
          exact Zh rfl (Zf rfl) (.bool false) kb0 rfl
         | 4,hi=>
          exact ks13
         | 5,hi=>
          exact ks13
         | 6,hi=>
          exact ks13
         | 7,hi=>
          exact ks13
         | 8,hi=>
          exact ks44
         | 9,hi=>
          exact ks44
         | 10,hi=>
          exact ks44
         | 11,hi=>
          exact ks13
         | 12,hi=>
          exact ks13
         | 13,hi=>
          exact ks18
         | 14,hi=>
          exact ks18
         | 15,hi=>
          exact ks18
         | 16,hi=>
          exact ks18
         | 17,hi=>
          exact ks18
         | 18,hi=>
          exact ks18
         | 19,hi=>
          exact ks13
         | 20,hi=>
          have h87:=(hd _ rfl ⟨3,.data⟩ kY rfl).t (.bool false) 87
          have h103:=(hd _ rfl ⟨19,.data⟩ kY rfl).t (undef) 103
          clear hother hd hi
          exact Zh rfl (Zf rfl) (.bool false) kb0 rfl
         | n + 21,hi=>simp at hi;omega
        exact ks23
      ·have hne:(((Zc1 x).2:Int) == 0)=false:=by rw [he];rfl
       have HB15:=Lh (next HBG.out HB12.out)
       clear he
       go_wp2_with fail
       go_roundg (A.length - (i + 1))
       case measure=>exact Nat.sub_lt_sub_left HLT.out (Nat.lt_succ_self _)
       case rel=>exact ⟨i + 1,Zca kb62,rfl,HLT.out,HB15⟩
     ·obtain rfl:i=A.length:=kW
      have HBE:=Lh (next HB10.out HBL.out)
      clear hlt hi
      go_wp2_with fail
      go_ret
      exact ⟨rfl,HBE.out⟩
theorem own:ownKnob Tryz.prog.godebug=none:=kR
theorem laid:laidOutB Tryz.prog=true:=kR
def laidD:List (String × DataW Unit):=[("math/bits.deBruijn32tab",Rows.laid_math_bits_deBruijn32tab),("math/bits.deBruijn64tab",Rows.laid_math_bits_deBruijn64tab),("internal/strconv.uint64pow10",Rows.laid_internal_strconv_uint64pow10),("unicode/utf8.acceptRanges",Rows.laid_unicode_utf8_acceptRanges),("strconv.ErrRange",Rows.laid_strconv_ErrRange),("strconv.ErrSyntax",Rows.laid_strconv_ErrSyntax),("unicode.White_Space",Rows.laid_unicode_White_Space),("strings.asciiSpace",Rows.laid_strings_asciiSpace),("unicode/utf8.first",Rows.laid_unicode_utf8_first)]
theorem tied {ps qs:Array TypeId} {j:Nat} {t:TypeId} (_:ps=qs) (hall:(ps.all fun u=>!Tryz.prog.wantsStandIn u)=true) (ht:ps[j]? = some t):Tryz.prog.wantsStandIn t=false:=by
 obtain ⟨hj,rfl⟩:=Array.getElem?_eq_some_iff.1 ht
 have:=Array.all_eq_true.1 hall j hj
 simpa using this
theorem opened {H:Type} (enc:TypeId × Value→H) (W:World) (args:Array Value) (ds:List (DataW H)) (p:List MemPlace) (hsh:W.ShapedOpen Tryz.prog) (hL:laidMetH Tryz.prog laidD W) (hk:Rows.uptoSmall H ds=true) :
 Lift.Owes enc Tryz.prog 3 Tryz.f3.params.toList W args ds p:=by
 have HL:=Lh hL
 clear hL
 have hk:Rows.uptoBulkAll ds ≤ 1048576:=of_decide_eq_true hk
 intro hA hval hsz _
 rw [Tryz.params3] at hA hval hsz
 obtain ⟨v0,vs0,d0,ds0,p0,q0,hargs,rfl,rfl,h0,r0⟩:=trodAll_cons hA
 obtain ⟨v1,vs1,d1,ds1,p1,q1,rfl,rfl,rfl,h1,r1⟩:=trodAll_cons r0
 obtain ⟨rfl,rfl,rfl⟩:=trodAll_nil r1
 obtain rfl:args = #[v0,v1]:=by cases args;simp_all
 obtain ⟨base0,hv0⟩:=hval 0 _ v0 rfl rfl
 obtain ⟨cs0,s0,rfl,hr0,hg0⟩:=arg_St hv0 h0 (lim_arg hsz (j:=0) rfl rfl)
 have hB0:Rows.uptoBulk d0 ≤ 1048576:=Nat.le_trans (by simp only [Rows.uptoBulkAll];omega) hk
 obtain ⟨base1,hv1⟩:=hval 1 _ v1 rfl rfl
 obtain ⟨s1,rfl,rfl,rfl,ws1⟩:=ChangeMaps.open_string Tryz.underlying9 hv1 h1
 have z1:=sized_string hsz (j:=1) rfl rfl
 simp only [reachBytes,Array.length_toList] at z1
 exact walk s0 (bk d0) cs0 s1 W (lx9 hsh HL.out) hr0 hg0 hB0 hg0.txts z1
theorem reads (os:Os) {H:Type} (enc:TypeId × Value→H):∃ x,DataW.whole enc Tryz.prog ((World.laidAll Tryz.prog os laidD).forCall (fun _ _=>0) ⟨#[],#[.agg #[.int .u8 0,.string ByteArray.empty,.string ByteArray.empty,.bool false,nS,nS,nS,nS,nS,nS,nS,nS,nS,nS,nS,iZ],.string ByteArray.empty],[]⟩).memory Tryz.f3.params.toList (Rows.OpenSpec.upto Rows.parseBackSpec).vars false #[.agg #[.int .u8 0,.string ByteArray.empty,.string ByteArray.empty,.bool false,nS,nS,nS,nS,nS,nS,nS,nS,nS,nS,nS,iZ],.string ByteArray.empty].toList 8=some x∧Rows.uptoSmall H (x.1 ++ x.2.1)=true:=by
 have h:(DataW.whole enc Tryz.prog ((World.laidAll Tryz.prog os laidD).forCall (fun _ _=>0) ⟨#[],#[.agg #[.int .u8 0,.string ByteArray.empty,.string ByteArray.empty,.bool false,nS,nS,nS,nS,nS,nS,nS,nS,nS,nS,nS,iZ],.string ByteArray.empty],[]⟩).memory Tryz.f3.params.toList (Rows.OpenSpec.upto Rows.parseBackSpec).vars false #[.agg #[.int .u8 0,.string ByteArray.empty,.string ByteArray.empty,.bool false,nS,nS,nS,nS,nS,nS,nS,nS,nS,nS,nS,iZ],.string ByteArray.empty].toList 8).any (fun x=>Rows.uptoSmall H (x.1 ++ x.2.1))=true:=kR
 revert h
 generalize DataW.whole enc Tryz.prog ((World.laidAll Tryz.prog os laidD).forCall (fun _ _=>0) ⟨#[],#[.agg #[.int .u8 0,.string ByteArray.empty,.string ByteArray.empty,.bool false,nS,nS,nS,nS,nS,nS,nS,nS,nS,nS,nS,iZ],.string ByteArray.empty],[]⟩).memory Tryz.f3.params.toList (Rows.OpenSpec.upto Rows.parseBackSpec).vars false #[.agg #[.int .u8 0,.string ByteArray.empty,.string ByteArray.empty,.bool false,nS,nS,nS,nS,nS,nS,nS,nS,nS,nS,nS,iZ],.string ByteArray.empty].toList 8=z
 cases z with
 | none=>exact fun h=>by cases h
 | some x=>exact fun h=>⟨x,rfl,h⟩
theorem lifted (os:Os) (started:os.Started) (H:Type) (enc:TypeId × Value→H) (F:Stop.Interp) :
 ReturnsInHanded {} Tryz.checked os 3 .any ((Rows.OpenSpec.upto Rows.parseBackSpec).preRow enc Tryz.prog Tryz.f3 Rows.parseBackUptoRow.domain false Rows.parseBackUptoRow.laid) (((Rows.OpenSpec.upto Rows.parseBackSpec).at F).post enc Tryz.prog Tryz.f3 false true false false):=by
 obtain ⟨x,hx,hxk⟩:=reads os enc
 refine Lift.liftedU (C:=Tryz.checked) (s:=Rows.parseBackSpec) (S:=Rows.OpenSpec.upto Rows.parseBackSpec) (k:=Rows.uptoSmall) (laid:=laidD) rfl rfl rfl (fun _ _ _ _ h=>h) own started kR Tryz.func3
  (Lift.witness_rowZ (enc:=enc) (C:=Tryz.checked) false (World.laidAll Tryz.prog os laidD) #[.agg #[.int .u8 0,.string ByteArray.empty,.string ByteArray.empty,.bool false,nS,nS,nS,nS,nS,nS,nS,nS,nS,nS,nS,iZ],.string ByteArray.empty] (World.laidAll_os _ _ _) (World.shaped_of_ZipB kR kR) kR
   (OpenSpec.preRow_of_cond 8 hx kR (fun k hk=>by cases hk;exact hxk) kR (by rw [MakeChecks.laidMetH_plain _ _ _ kR];exact laidMet_laidAll _ kR kR)))
  laid (by rw [Tryz.params3];intro t ht;simp at ht;rcases ht with rfl | rfl <;> exact ⟨by kernel_rfl,of_decide_eq_true kR⟩) rfl 4 rfl Tryz.underlying4
  (fun ds hds=>by match ds,hds with | [_,_],_=>rfl) (fun W args ds p hsh hL hk=>opened enc W args ds p hsh hL hk)
theorem row_said:Rows.ParseBackUptoSaid:=
 OpenClaim.holds_of_cond 3 Tryz.f3 rfl rfl rfl rfl rfl rfl rfl ⟨rfl,rfl,rfl,rfl,rfl⟩ rfl rfl rfl rfl rfl kR Tryz.func3 kR
  (of_decide_eq_true kR) (by unfold Func.isWrapper;first | (rw [if_pos (by decide +kernel)];kernel_rfl) | (rw [if_neg (by decide +kernel)];exact ⟨rfl,rfl⟩))
  (fun os started H enc _ F=>by rw [OpenClaim.pre_eq_preRow];exact lifted os started H enc F)
theorem said:Rows.ParseBackUptoCardSaid:=
 Claim7.holds_tied_plain_at .later [] [.data,.data,.data,.data,.sentinel,.sentinel,.listed,.data,.pinned] true (true,"e206e580c90a220dfe92bca72650be5753380b0d5437542a0264290c58ef9a3d") true
  row_said (fun _ h=>by cases h) kR (fun _ h=>by cases h) parseBackUpto_row_tie rfl ⟨rfl,rfl⟩ kR rfl
  (fun f fn hf hfn=>by
   obtain rfl:f=3:=Option.some.inj ((show Tryz.prog.funcNamed "counterfoil/counterfoillaw14.ParseBack" = some 3 by kernel_rfl).symm.trans hf) |>.symm
   obtain rfl:fn=Tryz.f3:=(Option.some.inj (Tryz.func3.symm.trans hfn)).symm
   exact ⟨by kernel_rfl,fun j t ht=>by
    rw [Tryz.params3] at ht
    exact tied Tryz.params3.symm kR ht⟩)
  kR
#print axioms said
end Go.Proofs.YtmdogmpcmkfjpaaGreatDoor.ParseBack
