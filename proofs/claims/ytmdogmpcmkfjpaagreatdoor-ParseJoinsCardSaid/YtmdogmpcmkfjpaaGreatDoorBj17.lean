import Derived.Test.YtmdogmpcmkfjpaaGreatDoorBj14
import Derived.Test.YtmdogmpcmkfjpaaGreatDoorBj16
/- Part of the proof (merged). -/
namespace Go.Proofs.YtmdogmpcmkfjpaaGreatDoor.Dt
open Go.RowKit Go.Proofs.YtmdogmpcmkfjpaaGreatDoor.By
theorem parse_le:∀ (M:Nat) (l:List UInt8) (acc v:Nat),acc ≤ M→Lib.parseUintM M acc l = .ok v→v ≤ M
 | M,[],acc,v,h,e=>by cases e;exact h
 | M,c :: l,acc,v,h,e=>by
  unfold Lib.parseUintM at e
  split at e
  ·split at e
   ·cases e
   ·split at e
    ·cases e
    ·exact parse_le M l _ v (by omega) e
  ·cases e
theorem parseUW (s:ByteArray) (w:World) (hw:LW w) (hs:s.size ≤ 1000000) :
 Calls Tryz.prog 143 #[.string s,.int .i64 10,.int .i64 64] w fun e w'=>
  (∃ (n:Nat) (ev:Value) (ok:Bool),e = .returned (.tuple #[.int .u64 (n:Int),ev])∧n ≤ 18446744073709551615 ∧
   (ok=true→Lib.parseUintB 64 s.data.toList = .ok n∧ev = .nilIface)∧(ok=false→(∀ v,Lib.parseUintB 64 s.data.toList ≠ .ok v)∧∃ t p,ev = .iface t (.pointer (some p))))∧Below w.heap.size w w':=by
 obtain ⟨_,_,⟨t,p,h3⟩,⟨u,q,h4⟩⟩:=hw
 rcases hp:Lib.parseUintB 64 s.data.toList with v | _ | _
 ·skip
  refine (Tryz.strconv_ParseUint_10_at64_ok s (by omega) v hp w).mono fun e w' h=>?_
  obtain ⟨rfl,h⟩:=h
  refine ⟨⟨v,.nilIface,true,rfl,?_,fun _=>⟨rfl,rfl⟩,fun h=>by cases h⟩,?_⟩
  ·unfold Lib.parseUintB at hp
   split at hp
   ·cases hp
   ·exact parse_le 18446744073709551615 _ 0 _ (by decide) hp
  ·rcases h with rfl | rfl
   ·exact Below.refl _ _
   ·exact Lib.bytesWorld_below _ _ _
 ·skip
  refine (Tryz.strconv_ParseUint_10_at64_syntax_var s (by omega) hp t p w h3).mono fun e w' h=>?_
  obtain ⟨N,rfl,_,_,hb⟩:=h
  exact ⟨⟨0,_,false,rfl,by decide,fun h=>(by cases h),fun _=>⟨fun v h=>(by cases h),_,_,rfl⟩⟩,hb⟩
 ·skip
  refine (Tryz.strconv_ParseUint_10_at64_range_var s (by omega) hp u q w h4).mono fun e w' h=>?_
  obtain ⟨N,rfl,_,_,hb⟩:=h
  exact ⟨⟨18446744073709551615,_,false,rfl,by decide,fun h=>(by cases h),fun _=>⟨fun v h=>(by cases h),_,_,rfl⟩⟩,hb⟩
theorem num_ok {l t:List UInt8} {n:Nat} (h0:¬ (topB l=48∧digB (topB (l.drop 1))=true)) (ht:t=l.take (runL digB l)) (hp:Lib.parseUintB 64 t = .ok n):numOne l=if 9223372036854775808 < n then .bad 5 0 else .tok 3 [] n (runL digB l):=by
 unfold Lib.parseUintB at hp
 split at hp
 ·cases hp
 ·have:=parse_ok _ _ _ _ hp
  unfold numOne
  rw [if_neg h0,← ht,this]
theorem num_no {l t:List UInt8} (h0:¬ (topB l=48∧digB (topB (l.drop 1))=true)) (ht:t=l.take (runL digB l)) (hne:t ≠ []) (hp:∀ v,Lib.parseUintB 64 t ≠ .ok v):numOne l = .bad 5 0:=by
 unfold numOne
 rw [if_neg h0,← ht]
 cases hd:decV 0 t with
 | none=>rfl
 | some n=>
  simp only
  rw [if_pos]
  rcases Nat.lt_or_ge 9223372036854775808 n with h | h
  ·exact h
  ·exfalso
   refine hp n ?_
   unfold Lib.parseUintB
   rw [if_neg hne]
   exact parse_of t 0 n hd (by omega)
set_option maxRecDepth 100000 in
set_option maxHeartbeats 8000000 in
theorem numberW (w0:World) (r:Nat) (s:ByteArray) (k:Nat) (w:World) (hx:Env w0 r w) (h:RD r s k w) (hs:s.size ≤ 1000000) (hk:k ≤ s.size) (hdg:digB (topB (s.data.toList.drop k))=true) :
 Calls Tryz.prog 119 #[.pointer (some ⟨r,0,none⟩)] w fun e w'=>e = .returned (outV (numOne (s.data.toList.drop k)))∧RD r s (k + lenO (numOne (s.data.toList.drop k))) w'∧w.grownBy w' (some r):=by
 obtain ⟨l,hl⟩:∃ l,l=s.data.toList.drop k:=⟨_,rfl⟩
 have hll:l.length=s.size - k:=by rw [hl,List.length_drop,bytes_list]
 have hne:w.heap.size ≠ r:=by have:=h.lt;omega
 have HP0:Hid (∀ W,RD r s k W→Calls Tryz.prog 111 #[.pointer (some ⟨r,0,none⟩),.int .i64 0] W fun e w'=>e = .returned (byte (topB l))∧Below W.heap.size W w'):=Lib.hid (fun W h=>by rw [hl];exact peek0 r s k W h hs hk)
 have HP1:Hid (∀ W,RD r s k W→Calls Tryz.prog 111 #[.pointer (some ⟨r,0,none⟩),.int .i64 1] W fun e w'=>e = .returned (byte (topB (l.drop 1)))∧Below W.heap.size W w'):=Lib.hid (fun W h=>by rw [hl,List.drop_drop];exact peek1 r s k W h hs hk)
 have HWW:Hid (∀ W,RD r s k W→Calls Tryz.prog 109 #[.pointer (some ⟨r,0,none⟩),.func (.func 118) #[] #[]] W fun e w'=>e = .returned (str (l.take (runL digB l)))∧RD r s (k + runL digB l) w'∧W.grownBy w' (some r)):=Lib.hid (fun W h=>by rw [hl];exact whileW digB 118 (fun _ _=>by kernel_rfl) digW r s k W h hs hk)
 rw [← hl] at hdg ⊢
 have HDG:=Lib.hid hdg
 have HL:=Lib.hid hll
 have HNE:=Lib.hid hne
 have HX:=Lib.hid hx
 have HS:=Lib.hid hs
 have HK:=Lib.hid hk
 have HG0:Hid (w.grownBy (w.alloc (.cells #[.int .u8 0,.string ⟨#[]⟩,.int .u64 0,.int .i64 0] 128)) (some r)):=Lib.hid (below_grown ((Below.refl _ _).alloc (Nat.le_refl _) _))
 have HR0:Hid (RD r s k (w.alloc (.cells #[.int .u8 0,.string ⟨#[]⟩,.int .u64 0,.int .i64 0] 128))):=Lib.hid (h.later ((Below.refl _ _).alloc (Nat.le_refl _) _))
 have HB0:Hid (TBox w.heap.size (w.alloc (.cells #[.int .u8 0,.string ⟨#[]⟩,.int .u64 0,.int .i64 0] 128))):=Lib.hid (tBox_new _ _)
 clear hl hll hne hx h hs hk hdg
 go_enter Tryz.func119,Tryz.ntmps119
 go_upto_region 1 with fail
 generalize w.alloc (.cells #[.int .u8 0,.string ⟨#[]⟩,.int .u64 0,.int .i64 0] 128)=w1 at *
 obtain ⟨b,hb⟩:∃ b,b=w.heap.size:=⟨_,rfl⟩
 rw [← hb] at HB0 HNE ⊢
 have HBE:=Lib.hid (Nat.le_of_eq hb.symm)
 clear hb
 obtain ⟨c,hc⟩:∃ c,c=topB l:=⟨_,rfl⟩
 obtain ⟨d,hd⟩:∃ d,d=topB (l.drop 1):=⟨_,rfl⟩
 have HC:=Lib.hid hc
 have HD:=Lib.hid hd
 rw [← hc] at HP0
 rw [← hd] at HP1
 clear hc hd
 obtain ⟨B,hB⟩:∃ B,B=decide (c=48∧digB d=true):=⟨_,rfl⟩
 have HBB:=Lib.hid hB
 clear hB
 go_cut [14] (fun c14 wx=>c14 = .bool B∧Hid (RD r s k wx)∧Hid (TBox b wx)∧Hid (w.grownBy wx (some r)))
 case first=>
  by_cases h48:c=48
  ·subst h48
   have HDW:=Lib.hid (digW d)
   cases hdd:digB d with
   | true=>
    rw [hdd] at HDW
    obtain rfl:B=true:=by rw [HBB.out,hdd];rfl
    clear hdd
    go_wp2_with fail
    refine (HP0.out _ HR0.out).mono ?_
    rintro e w2 ⟨rfl,hb2⟩
    have HR2:=Lib.hid (HR0.out.later hb2)
    have HB2:=Lib.hid (HB0.out.later hb2)
    have HG2:=Lib.hid (grown_trans HG0.out (below_grown hb2))
    clear hb2
    go_wp2_with fail
    refine (HP1.out _ HR2.out).mono ?_
    rintro e w3 ⟨rfl,hb3⟩
    have HR3:=Lib.hid (HR2.out.later hb3)
    have HB3:=Lib.hid (HB2.out.later hb3)
    have HG3:=Lib.hid (grown_trans HG2.out (below_grown hb3))
    clear hb3
    go_wp2_with fail
    refine (HDW.out _).mono ?_
    rintro e w4 ⟨rfl,rfl⟩
    go_wp2_with fail
    go_meet
    exact ⟨rfl,HR3,HB3,HG3⟩
   | false=>
    rw [hdd] at HDW
    obtain rfl:B=false:=by rw [HBB.out,hdd];rfl
    clear hdd
    go_wp2_with fail
    refine (HP0.out _ HR0.out).mono ?_
    rintro e w2 ⟨rfl,hb2⟩
    have HR2:=Lib.hid (HR0.out.later hb2)
    have HB2:=Lib.hid (HB0.out.later hb2)
    have HG2:=Lib.hid (grown_trans HG0.out (below_grown hb2))
    clear hb2
    go_wp2_with fail
    refine (HP1.out _ HR2.out).mono ?_
    rintro e w3 ⟨rfl,hb3⟩
    have HR3:=Lib.hid (HR2.out.later hb3)
    have HB3:=Lib.hid (HB2.out.later hb3)
    have HG3:=Lib.hid (grown_trans HG2.out (below_grown hb3))
    clear hb3
    go_wp2_with fail
    refine (HDW.out _).mono ?_
    rintro e w4 ⟨rfl,rfl⟩
    go_wp2_with fail
    go_meet
    exact ⟨rfl,HR3,HB3,HG3⟩
  ·have e1:((c.toNat:Int) == 48)=false:=by
    have:c.toNat ≠ 48:=fun e=>h48 (UInt8.toNat_inj.1 e)
    first | (simp;done) | (simp;omega)
   obtain rfl:B=false:=by rw [HBB.out];exact decide_eq_false (fun e=>h48 e.1)
   clear h48
   go_wp2_with fail
   refine (HP0.out _ HR0.out).mono ?_
   rintro e w2 ⟨rfl,hb2⟩
   have HR2:=Lib.hid (HR0.out.later hb2)
   have HB2:=Lib.hid (HB0.out.later hb2)
   have HG2:=Lib.hid (grown_trans HG0.out (below_grown hb2))
   clear hb2
   go_wp2_with fail
   go_meet
   exact ⟨rfl,HR2,HB2,HG2⟩
 case rest=>
  rename World=>w5
  obtain ⟨rfl,HR5,HB5,HG5⟩:=hcut
  clear HR0 HB0 HG0
  by_cases hbad:c=48∧digB d=true
  ·have HONE:Hid (numOne l = .bad 6 1):=Lib.hid (by unfold numOne;rw [if_pos (by rw [← HC.out,← HD.out];exact hbad)])
   obtain rfl:B=true:=by rw [HBB.out];exact decide_eq_true hbad
   obtain ⟨d0,d1,g1⟩:=HR5.out
   have hw1:wrap64 ((k:Int) + 1)=(k:Int) + 1:=by have h1:=HS.out;have h2:=HK.out;unfold wrap64;omega
   clear hbad
   go_upto_region 3 with fail
   have e1:((k + 1:Nat):Int)=(k:Int) + 1:=by omega
   have HR6:=Lib.hid (HR5.out.set (k + 1))
   have HB6:=Lib.hid (HB5.out.else (r:=r) (i:=1) (u:=.int .i64 ((k + 1:Nat):Int)) HNE.out)
   have HG6:=Lib.hid (grown_trans HG5.out (grown_set w5 r 1 (.int .i64 ((k + 1:Nat):Int))))
   rw [e1] at HR6 HB6 HG6
   clear d0 d1 g1 hw1 e1
   generalize w5.setCell ⟨r,1,none⟩ (.int .i64 ((k:Int) + 1))=w6 at *
   obtain ⟨c0,c1,c2,c3,f0,f1,f2,f3⟩:=HB6.out
   go_wp2_with fail
   obtain ⟨q0,q1,q2,q3⟩:=filled4 w6 b (.int .u8 0) (.string ⟨#[]⟩) (.int .u64 0) (.int .i64 0) HB6.out _ rfl
   rw [HONE.out]
   refine bodyPost_ret (v:=.tuple #[T0.val,.int .i64 6]) (by simp [results,Tryz.results119,go_sem,q0,q1,q2,q3,Tk.val,T0];try rfl) rfl ⟨rfl,HR6.out.box _ _ _ _ HNE.out,grown_box HG6.out _ _ _ _ HBE.out⟩
  ·obtain rfl:B=false:=by rw [HBB.out];exact decide_eq_false hbad
   have HNB:Hid (¬ (topB l=48∧digB (topB (l.drop 1))=true)):=Lib.hid (by rw [← HC.out,← HD.out];exact hbad)
   obtain ⟨m,hm⟩:∃ m,m=runL digB l:=⟨_,rfl⟩
   obtain ⟨t,ht⟩:∃ t,t=l.take m:=⟨_,rfl⟩
   have HNO:Hid ((∀ v,Lib.parseUintB 64 t ≠ .ok v)→numOne l = .bad 5 0):=Lib.hid (fun h=>by
    refine num_no HNB.out (t:=t) (by rw [ht,hm]) ?_ h
    rintro rfl
    have h1:=congrArg List.length ht
    rw [take_len_le (by rw [hm];exact runL_le digB l)] at h1
    have h2:0 < m:=by
     rw [hm]
     cases hl:l with
     | nil=>rw [hl] at HDG;exact absurd HDG.out (by decide)
     | cons x y=>rw [hl] at HDG;rw [runL_pos (show digB x=true from HDG.out)];omega
    simp at h1;omega)
   have HOK:Hid (∀ n,Lib.parseUintB 64 t = .ok n→numOne l=if 9223372036854775808 < n then .bad 5 0 else .tok 3 [] n m):=Lib.hid (fun n h=>by
    rw [hm];exact num_ok HNB.out (by rw [ht,hm]) h)
   have htl:t.length=m:=by rw [ht,hm];exact take_len_le (runL_le digB l)
   have hmb:k + m ≤ 1000000:=by
    have h1:=runL_le digB l
    have h2:=HL.out
    have h3:=HS.out
    have h4:=HK.out
    rw [hm];omega
   rw [← hm,← ht] at HWW
   have HTL:=Lib.hid htl
   have HMB:=Lib.hid hmb
   clear hm ht htl hmb hbad
   go_wp2_with fail
   refine (HWW.out _ HR5.out).mono ?_
   rintro e w7 ⟨rfl,hr7,hg7⟩
   have HR7:=Lib.hid hr7
   have HB7:=Lib.hid (HB5.out.grown hg7 HNE.out)
   have HG7:=Lib.hid (grown_trans HG5.out hg7)
   clear hr7 hg7
   go_wp2_with fail
   refine (parseUW ⟨t.toArray⟩ w7 (HX.out.grown HG7.out).lx.toLW (by have h1:=HTL.out;have h2:=HMB.out;show t.length ≤ 1000000;omega)).mono ?_
   rintro e w9 ⟨⟨n,ev,ok,rfl,hnb,hy,hn⟩,hb9⟩
   have HR9:=Lib.hid (HR7.out.later hb9)
   have HB9:=Lib.hid (HB7.out.later hb9)
   have HG9:=Lib.hid (grown_trans HG7.out (below_grown hb9))
   have HY:=Lib.hid hy
   have HN:=Lib.hid hn
   have HNBD:=Lib.hid hnb
   clear hb9 hy hn hnb
   cases ok with
   | true=>
    obtain ⟨hp,rfl⟩:=HY.out rfl
    have HONE:=Lib.hid (HOK.out n hp)
    clear hp
    by_cases hbig:9223372036854775808 < n
    ·have HONE:Hid (numOne l = .bad 5 0):=Lib.hid (by rw [HONE.out,if_pos hbig])
     have i1:(9223372036854775808:Int) < (n:Int):=by omega
     clear hbig
     obtain ⟨d0,d1,g1⟩:=HR9.out
     have hz:(⟨t.toArray⟩:ByteArray).size=m:=HTL.out
     have hbk:wrap64 (k:Int)=(k:Int):=by have h1:=HS.out;have h2:=HK.out;unfold wrap64;omega
     go_upto_region 8 with fail
     have HR6:=Lib.hid (HR9.out.set k)
     have HB6:=Lib.hid (HB9.out.else (r:=r) (i:=1) (u:=.int .i64 (k:Int)) HNE.out)
     have HG6:=Lib.hid (grown_trans HG9.out (grown_set w9 r 1 (.int .i64 (k:Int))))
     clear d0 d1 g1 hz hbk
     generalize w9.setCell ⟨r,1,none⟩ (.int .i64 (k:Int))=w6 at *
     obtain ⟨c0,c1,c2,c3,f0,f1,f2,f3⟩:=HB6.out
     go_wp2_with fail
     obtain ⟨q0,q1,q2,q3⟩:=filled4 w6 b (.int .u8 0) (.string ⟨#[]⟩) (.int .u64 0) (.int .i64 0) HB6.out _ rfl
     rw [HONE.out]
     refine bodyPost_ret (v:=.tuple #[T0.val,.int .i64 5]) (by simp [results,Tryz.results119,go_sem,q0,q1,q2,q3,Tk.val,T0];try rfl) rfl ⟨rfl,HR6.out.box _ _ _ _ HNE.out,grown_box HG6.out _ _ _ _ HBE.out⟩
    ·have HONE:Hid (numOne l = .tok 3 [] n m):=Lib.hid (by rw [HONE.out,if_neg hbig])
     have i1:¬ (9223372036854775808:Int) < (n:Int):=by omega
     clear hbig
     obtain ⟨c0,c1,c2,c3,f0,f1,f2,f3⟩:=HB9.out
     go_wp2_with fail
     obtain ⟨q0,q1,q2,q3⟩:=filled4 w9 b (.int .u8 3) (.string ⟨#[]⟩) (.int .u64 (n:Int)) (.int .i64 0) HB9.out _ rfl
     rw [HONE.out]
     refine bodyPost_ret (v:=.tuple #[Tk.val ⟨3,⟨([]:List UInt8).toArray⟩,n,0⟩,.int .i64 0]) (by simp [results,Tryz.results119,go_sem,q0,q1,q2,q3,Tk.val]) rfl ⟨rfl,HR9.out.box _ _ _ _ HNE.out,grown_box HG9.out _ _ _ _ HBE.out⟩
   | false=>
    obtain ⟨hp,tt,pp,rfl⟩:=HN.out rfl
    have HONE:=Lib.hid (HNO.out hp)
    clear hp
    obtain ⟨d0,d1,g1⟩:=HR9.out
    have hz:(⟨t.toArray⟩:ByteArray).size=m:=HTL.out
    have hbk:wrap64 (k:Int)=(k:Int):=by have h1:=HS.out;have h2:=HK.out;unfold wrap64;omega
    go_upto_region 8 with fail
    have HR6:=Lib.hid (HR9.out.set k)
    have HB6:=Lib.hid (HB9.out.else (r:=r) (i:=1) (u:=.int .i64 (k:Int)) HNE.out)
    have HG6:=Lib.hid (grown_trans HG9.out (grown_set w9 r 1 (.int .i64 (k:Int))))
    clear d0 d1 g1 hz hbk
    generalize w9.setCell ⟨r,1,none⟩ (.int .i64 (k:Int))=w6 at *
    obtain ⟨c0,c1,c2,c3,f0,f1,f2,f3⟩:=HB6.out
    go_wp2_with fail
    obtain ⟨q0,q1,q2,q3⟩:=filled4 w6 b (.int .u8 0) (.string ⟨#[]⟩) (.int .u64 0) (.int .i64 0) HB6.out _ rfl
    rw [HONE.out]
    refine bodyPost_ret (v:=.tuple #[T0.val,.int .i64 5]) (by simp [results,Tryz.results119,go_sem,q0,q1,q2,q3,Tk.val,T0];try rfl) rfl ⟨rfl,HR6.out.box _ _ _ _ HNE.out,grown_box HG6.out _ _ _ _ HBE.out⟩
theorem signs_at:∀ k:Fin 256,(Lib.indexByte [40,41,44,46,42,43,45,47,37,61,60,62,59] (UInt8.ofNat k.val) < 0 ↔ UInt8.ofNat k.val ∉ signsL):=by decide +kernel
def signI (c:UInt8):Int:=Lib.indexByte [40,41,44,46,42,43,45,47,37,61,60,62,59] c
theorem signI_neg (c:UInt8):signI c < 0 ↔ c ∉ signsL:=by
 have h2:=signs_at ⟨c.toNat,c.toNat_lt⟩
 simp only [UInt8.ofNat_toNat] at h2
 exact h2
theorem signByte (c:UInt8) (w:World):Calls Tryz.prog 138 #[.string ⟨#[40,41,44,46,42,43,45,47,37,61,60,62,59]⟩,byte c] w fun e w'=>e = .returned (.int .i64 (signI c))∧w=w':=by
 refine (Tryz.strings_IndexByte _ _ w).mono fun e w' h=>?_
 obtain ⟨rfl,rfl⟩:=h
 have e:((c.toNat:Int)).toNat.toUInt8=c:=by simp
 rw [e]
 exact ⟨rfl,rfl⟩
set_option maxRecDepth 100000 in
set_option maxHeartbeats 8000000 in
theorem signW (r:Nat) (s:ByteArray) (k:Nat) (w:World) (h:RD r s k w) (hs:s.size ≤ 1000000) (hk:k < s.size) :
 Calls Tryz.prog 113 #[.pointer (some ⟨r,0,none⟩)] w fun e w'=>e = .returned (outV (signOne (s.data.toList.drop k)))∧RD r s (k + lenO (signOne (s.data.toList.drop k))) w'∧w.grownBy w' (some r):=by
 obtain ⟨l,hl⟩:∃ l,l=s.data.toList.drop k:=⟨_,rfl⟩
 have hll:l.length=s.size - k:=by rw [hl,List.length_drop,bytes_list]
 have hne:w.heap.size ≠ r:=by have:=h.lt;omega
 obtain ⟨t,ht⟩:∃ t,t=l.take 2:=⟨_,rfl⟩
 obtain ⟨m,hm⟩:∃ m,m=t.length:=⟨_,rfl⟩
 have hm2:m=min 2 (s.size - k):=by rw [hm,ht,List.length_take,hll]
 have hcut:(.string (s.extract k (k + m)):Value)=str t:=by
  have h1:l.take m=l.take 2:=by rw [List.take_eq_take_iff,hm2];omega
  rw [cut_list,← hl,h1,ht]
 have hone:(.string (s.extract k (k + 1)):Value)=str (l.take 1):=by rw [cut_list,← hl]
 have htop:topB l=s[k]:=by rw [hl];exact bytes_get s k hk
 have HONE:Hid (signOne l=if t ∈ twosL then .tok 6 t 0 2 else if s[k] ∈ signsL then .tok 6 (l.take 1) 0 1 else .bad 6 0):=Lib.hid (by unfold signOne;rw [← ht,htop])
 rw [← hl]
 have hw2:=wrapI ((k:Int) + 2) (by omega) (by omega)
 have hw1:=wrapI ((k:Int) + 1) (by omega) (by omega)
 have hw0:=wrapI (k:Int) (by omega) (by omega)
 have hw3:=wrapK ((k:Int) + 2) (by omega) (by omega)
 have hw4:=wrapK (k:Int) (by omega) (by omega)
 have HW4:=Lib.hid hw4
 have HW2:=Lib.hid hw2
 have HW1:=Lib.hid hw1
 have HW0:=Lib.hid hw0
 have HW3:=Lib.hid hw3
 clear hw2 hw1 hw0 hw3 hw4
 have hmi:min ((k:Int) + 2) (s.size:Int)=(k:Int) + (m:Int):=by omega
 have j0:(0:Int) ≤ (k:Int):=by omega
 have j1:(k:Int) ≤ (k:Int) + (m:Int):=by omega
 have j2:(k:Int) + (m:Int) ≤ (s.size:Int):=by omega
 have j3:(k:Int) < (s.size:Int):=by omega
 have j4:(k:Int) + 1 ≤ (s.size:Int):=by omega
 have HM2:Hid (t ∈ twosL→m=2):=Lib.hid (fun hx=>by
  rw [hm]
  simp only [twosL,List.mem_cons,List.not_mem_nil,or_false] at hx
  rcases hx with rfl | rfl | rfl | rfl <;> rfl)
 have HNE:=Lib.hid hne
 have HC:=Lib.hid hcut
 have HO:=Lib.hid hone
 have HMI:=Lib.hid hmi
 have HG0:Hid (w.grownBy (w.alloc (.cells #[.int .u8 0,.string ⟨#[]⟩,.int .u64 0,.int .i64 0] 128)) (some r)):=Lib.hid (below_grown ((Below.refl _ _).alloc (Nat.le_refl _) _))
 have HR0:Hid (RD r s k (w.alloc (.cells #[.int .u8 0,.string ⟨#[]⟩,.int .u64 0,.int .i64 0] 128))):=Lib.hid (h.later ((Below.refl _ _).alloc (Nat.le_refl _) _))
 have HB0:Hid (TBox w.heap.size (w.alloc (.cells #[.int .u8 0,.string ⟨#[]⟩,.int .u64 0,.int .i64 0] 128))):=Lib.hid (tBox_new _ _)
 clear hl hll hne h hs hm hm2 ht hcut hone htop hmi
 go_enter Tryz.func113,Tryz.ntmps113
 go_upto_region 1 with fail
 generalize w.alloc (.cells #[.int .u8 0,.string ⟨#[]⟩,.int .u64 0,.int .i64 0] 128)=w1 at *
 obtain ⟨b,hb⟩:∃ b,b=w.heap.size:=⟨_,rfl⟩
 rw [← hb] at HB0 HNE ⊢
 have HBE:=Lib.hid (Nat.le_of_eq hb.symm)
 clear hb
 go_cut [4] (fun v wx=>v=str t∧Hid (Below w1.heap.size w1 wx))
 case first=>
  have hmi:=HMI.out
  have hw3:=HW3.out
  obtain ⟨d0,d1,g1⟩:=HR0.out
  go_quiet (fail)
  go_wp2_with fail
  go_meet
  exact ⟨HC.out,Lib.hid (drewN_below (Below.refl _ _) _)⟩
 case rest=>
  rename World=>w2
  obtain ⟨rfl,HBW⟩:=hcut
  have HR2:=Lib.hid (HR0.out.later HBW.out)
  have HB2:=Lib.hid (HB0.out.later HBW.out)
  have HG2:=Lib.hid (grown_trans HG0.out (below_grown HBW.out))
  clear HR0 HB0 HG0 HBW
  by_cases hx:t ∈ twosL
  ·have hy:=hx
   simp only [twosL,List.mem_cons,List.not_mem_nil,or_false] at hy
   rcases hy with rfl | rfl | rfl | rfl
   ·have HONE:Hid (signOne l = .tok 6 [60,62] 0 2):=Lib.hid (by rw [HONE.out,if_pos (by decide)])
    have hw2:=HW2.out
    obtain ⟨d0,d1,g1⟩:=HR2.out
    clear hx HM2
    go_upto_region 8 with fail
    have e1:((k + 2:Nat):Int)=(k:Int) + 2:=by omega
    have HR6:=Lib.hid (HR2.out.set (k + 2))
    have HB6:=Lib.hid (HB2.out.else (r:=r) (i:=1) (u:=.int .i64 ((k + 2:Nat):Int)) HNE.out)
    have HG6:=Lib.hid (grown_trans HG2.out (grown_set w2 r 1 (.int .i64 ((k + 2:Nat):Int))))
    rw [e1] at HR6 HB6 HG6
    clear d0 d1 g1 hw2 e1
    generalize w2.setCell ⟨r,1,none⟩ (.int .i64 ((k:Int) + 2))=w6 at *
    obtain ⟨c0,c1,c2,c3,f0,f1,f2,f3⟩:=HB6.out
    go_wp2_with fail
    obtain ⟨q0,q1,q2,q3⟩:=filled4 w6 b (.int .u8 6) (.string ⟨#[60,62]⟩) (.int .u64 0) (.int .i64 0) HB6.out _ rfl
    rw [HONE.out]
    refine bodyPost_ret (v:=.tuple #[Tk.val ⟨6,⟨([60,62]:List UInt8).toArray⟩,0,0⟩,.int .i64 0]) (by simp [results,Tryz.results113,go_sem,q0,q1,q2,q3,Tk.val]) rfl ⟨rfl,HR6.out.box _ _ _ _ HNE.out,grown_box HG6.out _ _ _ _ HBE.out⟩
   ·have HONE:Hid (signOne l = .tok 6 [60,61] 0 2):=Lib.hid (by rw [HONE.out,if_pos (by decide)])
    have hw2:=HW2.out
    obtain ⟨d0,d1,g1⟩:=HR2.out
    clear hx HM2
    go_upto_region 8 with fail
    have e1:((k + 2:Nat):Int)=(k:Int) + 2:=by omega
    have HR6:=Lib.hid (HR2.out.set (k + 2))
    have HB6:=Lib.hid (HB2.out.else (r:=r) (i:=1) (u:=.int .i64 ((k + 2:Nat):Int)) HNE.out)
    have HG6:=Lib.hid (grown_trans HG2.out (grown_set w2 r 1 (.int .i64 ((k + 2:Nat):Int))))
    rw [e1] at HR6 HB6 HG6
    clear d0 d1 g1 hw2 e1
    generalize w2.setCell ⟨r,1,none⟩ (.int .i64 ((k:Int) + 2))=w6 at *
    obtain ⟨c0,c1,c2,c3,f0,f1,f2,f3⟩:=HB6.out
    go_wp2_with fail
    obtain ⟨q0,q1,q2,q3⟩:=filled4 w6 b (.int .u8 6) (.string ⟨#[60,61]⟩) (.int .u64 0) (.int .i64 0) HB6.out _ rfl
    rw [HONE.out]
    refine bodyPost_ret (v:=.tuple #[Tk.val ⟨6,⟨([60,61]:List UInt8).toArray⟩,0,0⟩,.int .i64 0]) (by simp [results,Tryz.results113,go_sem,q0,q1,q2,q3,Tk.val]) rfl ⟨rfl,HR6.out.box _ _ _ _ HNE.out,grown_box HG6.out _ _ _ _ HBE.out⟩
   ·have HONE:Hid (signOne l = .tok 6 [62,61] 0 2):=Lib.hid (by rw [HONE.out,if_pos (by decide)])
    have hw2:=HW2.out
    obtain ⟨d0,d1,g1⟩:=HR2.out
    clear hx HM2
    go_upto_region 8 with fail
    have e1:((k + 2:Nat):Int)=(k:Int) + 2:=by omega
    have HR6:=Lib.hid (HR2.out.set (k + 2))
    have HB6:=Lib.hid (HB2.out.else (r:=r) (i:=1) (u:=.int .i64 ((k + 2:Nat):Int)) HNE.out)
    have HG6:=Lib.hid (grown_trans HG2.out (grown_set w2 r 1 (.int .i64 ((k + 2:Nat):Int))))
    rw [e1] at HR6 HB6 HG6
    clear d0 d1 g1 hw2 e1
    generalize w2.setCell ⟨r,1,none⟩ (.int .i64 ((k:Int) + 2))=w6 at *
    obtain ⟨c0,c1,c2,c3,f0,f1,f2,f3⟩:=HB6.out
    go_wp2_with fail
    obtain ⟨q0,q1,q2,q3⟩:=filled4 w6 b (.int .u8 6) (.string ⟨#[62,61]⟩) (.int .u64 0) (.int .i64 0) HB6.out _ rfl
    rw [HONE.out]
    refine bodyPost_ret (v:=.tuple #[Tk.val ⟨6,⟨([62,61]:List UInt8).toArray⟩,0,0⟩,.int .i64 0]) (by simp [results,Tryz.results113,go_sem,q0,q1,q2,q3,Tk.val]) rfl ⟨rfl,HR6.out.box _ _ _ _ HNE.out,grown_box HG6.out _ _ _ _ HBE.out⟩
   ·have HONE:Hid (signOne l = .tok 6 [124,124] 0 2):=Lib.hid (by rw [HONE.out,if_pos (by decide)])
    have hw2:=HW2.out
    obtain ⟨d0,d1,g1⟩:=HR2.out
    clear hx HM2
    go_upto_region 8 with fail
    have e1:((k + 2:Nat):Int)=(k:Int) + 2:=by omega
    have HR6:=Lib.hid (HR2.out.set (k + 2))
    have HB6:=Lib.hid (HB2.out.else (r:=r) (i:=1) (u:=.int .i64 ((k + 2:Nat):Int)) HNE.out)
    have HG6:=Lib.hid (grown_trans HG2.out (grown_set w2 r 1 (.int .i64 ((k + 2:Nat):Int))))
    rw [e1] at HR6 HB6 HG6
    clear d0 d1 g1 hw2 e1
    generalize w2.setCell ⟨r,1,none⟩ (.int .i64 ((k:Int) + 2))=w6 at *
    obtain ⟨c0,c1,c2,c3,f0,f1,f2,f3⟩:=HB6.out
    go_wp2_with fail
    obtain ⟨q0,q1,q2,q3⟩:=filled4 w6 b (.int .u8 6) (.string ⟨#[124,124]⟩) (.int .u64 0) (.int .i64 0) HB6.out _ rfl
    rw [HONE.out]
    refine bodyPost_ret (v:=.tuple #[Tk.val ⟨6,⟨([124,124]:List UInt8).toArray⟩,0,0⟩,.int .i64 0]) (by simp [results,Tryz.results113,go_sem,q0,q1,q2,q3,Tk.val]) rfl ⟨rfl,HR6.out.box _ _ _ _ HNE.out,grown_box HG6.out _ _ _ _ HBE.out⟩
  ·have n1:(t == [60,62])=false:=by rw [beq_eq_false_iff_ne];rintro rfl;exact hx (by decide)
   have n2:(t == [60,61])=false:=by rw [beq_eq_false_iff_ne];rintro rfl;exact hx (by decide)
   have n3:(t == [62,61])=false:=by rw [beq_eq_false_iff_ne];rintro rfl;exact hx (by decide)
   have n4:(t == [124,124])=false:=by rw [beq_eq_false_iff_ne];rintro rfl;exact hx (by decide)
   have HONE:Hid (signOne l=if s[k] ∈ signsL then .tok 6 (l.take 1) 0 1 else .bad 6 0):=Lib.hid (by rw [HONE.out,if_neg hx])
   have HSB:=Lib.hid (signByte s[k])
   clear hx HM2 HC HMI
   go_upto_region 9 with fail
   clear n1 n2 n3 n4
   obtain ⟨I,hI⟩:∃ I,I=signI s[k]:=⟨_,rfl⟩
   have HI:Hid (I < 0 ↔ s[k] ∉ signsL):=Lib.hid (by rw [hI];exact signI_neg _)
   rw [← hI] at HSB
   clear hI
   go_cut [50] (fun v wx=>v = .bool (decide (I < 0))∧Hid (Below w2.heap.size w2 wx))
   case first=>
    obtain ⟨d0,d1,g1⟩:=HR2.out
    have l0:=lat_cell d0
    have l1:=lat_cell d1
    refine wp_region_later (by kernel_rfl) (by kernel_rfl) ?_
    repeat (go_big_quiet_step ((go_at_call 138;exact lat_calls_same (HSB.out _))))
    refine wpQuiet_nil ?_
    refine later_out (fun w3 hb3=>?_)
    have HB3:=Lib.hid hb3
    clear l0 l1 d0 d1 g1 hb3
    go_wp2_with fail
    go_meet
    exact ⟨rfl,HB3⟩
   case rest=>
    rename World=>w3
    obtain ⟨rfl,HBW⟩:=hcut
    have HR3:=Lib.hid (HR2.out.later HBW.out)
    have HB3:=Lib.hid (HB2.out.later HBW.out)
    have HG3:=Lib.hid (grown_trans HG2.out (below_grown HBW.out))
    clear HR2 HB2 HG2 HBW HSB
    by_cases hm:s[k] ∈ signsL
    ·have HONE:Hid (signOne l = .tok 6 (l.take 1) 0 1):=Lib.hid (by rw [HONE.out,if_pos hm])
     have hi:decide (I < 0)=false:=decide_eq_false (fun h=>HI.out.1 h hm)
     rw [hi]
     obtain ⟨d0,d1,g1⟩:=HR3.out
     have hw1:=HW1.out
     clear hm hi
     go_upto_region 12 with fail
     have e1:((k + 1:Nat):Int)=(k:Int) + 1:=by omega
     have HR6:=Lib.hid (HR3.out.set (k + 1))
     have HB6:=Lib.hid (HB3.out.else (r:=r) (i:=1) (u:=.int .i64 ((k + 1:Nat):Int)) HNE.out)
     have HG6:=Lib.hid (grown_trans HG3.out (grown_set w3 r 1 (.int .i64 ((k + 1:Nat):Int))))
     rw [e1] at HR6 HB6 HG6
     clear d0 d1 g1 hw1
     generalize w3.setCell ⟨r,1,none⟩ (.int .i64 ((k:Int) + 1))=w6 at *
     obtain ⟨d0,d1,g1⟩:=HR6.out
     rw [e1] at d1
     have l0:=lat_cell d0
     have l1:=lat_cell d1
     have hw0:=HW0.out
     have hw4:=HW4.out
     have hsl:∀ W,(Instr.slice 9 (.string s) (some (.int .i64 (k:Int))) (some (.int .i64 ((k:Int) + 1))) none).run Tryz.prog W = .ok (.string (s.extract k (k + 1))) W:=fun W=>by
      rw [run_slice_string (w:=W) 9 s .i64 .i64 (k:Int) ((k:Int) + 1) Tryz.underlying9 j0 (Int.le_add_one (Int.le_refl _)) j4]
      rfl
     refine wp_region_later_tail 15 (by kernel_rfl) (by kernel_rfl) ?_
     simp only [List.take_succ_cons,List.take_zero,List.drop_succ_cons,List.drop_zero]
     repeat (go_big_quiet_step (fail))
     refine wpQuiet_nil ?_
     refine later_out (fun w7 hb7=>?_)
     have HR7:=Lib.hid (HR6.out.later hb7)
     have HB7:=Lib.hid (HB6.out.later hb7)
     have HG7:=Lib.hid (grown_trans HG6.out (below_grown hb7))
     clear l0 l1 d0 d1 g1 hb7 hw0 hw4 e1
     obtain ⟨c0,c1,c2,c3,f0,f1,f2,f3⟩:=HB7.out
     go_wp2_with fail
     obtain ⟨q0,q1,q2,q3⟩:=filled4 w7 b (.int .u8 6) (.string (s.extract k (k + 1))) (.int .u64 0) (.int .i64 0) HB7.out _ rfl
     rw [HONE.out]
     refine bodyPost_ret (v:=.tuple #[Tk.val ⟨6,s.extract k (k + 1),0,0⟩,.int .i64 0]) (by simp [results,Tryz.results113,go_sem,q0,q1,q2,q3,Tk.val]) rfl ⟨?_,HR7.out.box _ _ _ _ HNE.out,grown_box HG7.out _ _ _ _ HBE.out⟩
     show Ending.returned (.tuple #[.agg #[.int .u8 6,.string (s.extract k (k + 1)),.int .u64 0,.int .i64 0],.int .i64 0]) = .returned (.tuple #[.agg #[.int .u8 6,str (l.take 1),.int .u64 0,.int .i64 0],.int .i64 0])
     rw [HO.out]
    ·have HONE:Hid (signOne l = .bad 6 0):=Lib.hid (by rw [HONE.out,if_neg hm])
     have hi:decide (I < 0)=true:=decide_eq_true (HI.out.2 hm)
     rw [hi]
     obtain ⟨c0,c1,c2,c3,f0,f1,f2,f3⟩:=HB3.out
     clear hm hi
     go_wp2_with fail
     obtain ⟨q0,q1,q2,q3⟩:=filled4 w3 b (.int .u8 0) (.string ⟨#[]⟩) (.int .u64 0) (.int .i64 0) HB3.out _ rfl
     rw [HONE.out]
     refine bodyPost_ret (v:=.tuple #[T0.val,.int .i64 6]) (by simp [results,Tryz.results113,go_sem,q0,q1,q2,q3,Tk.val,T0];try rfl) rfl ⟨rfl,HR3.out.box _ _ _ _ HNE.out,grown_box HG3.out _ _ _ _ HBE.out⟩
end Go.Proofs.YtmdogmpcmkfjpaaGreatDoor.Dt
