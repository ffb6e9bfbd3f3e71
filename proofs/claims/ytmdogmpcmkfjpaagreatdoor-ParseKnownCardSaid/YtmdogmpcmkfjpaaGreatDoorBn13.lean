import Derived.Test.YtmdogmpcmkfjpaaGreatDoorBn11
/- Part of the proof (merged). -/
namespace Go.Proofs.YtmdogmpcmkfjpaaGreatDoor.Dt
open Go.RowKit Go.Proofs.YtmdogmpcmkfjpaaGreatDoor.By
theorem wrap_k (k:Nat) (h:k ≤ 1000000):wrap64 (k:Int)=(k:Int):=by unfold wrap64;omega
set_option maxRecDepth 100000 in
set_option maxHeartbeats 8000000 in
theorem wordW (w0:World) (r:Nat) (s:ByteArray) (k:Nat) (w:World) (hx:Env w0 r w) (h:RD r s k w) (hs:s.size ≤ 1000000) (hk:k ≤ s.size) :
 Calls Tryz.prog 117 #[.pointer (some ⟨r,0,none⟩)] w fun e w'=>e = .returned (outV (wordOne (s.data.toList.drop k)))∧RD r s (k + lenO (wordOne (s.data.toList.drop k))) w'∧w.grownBy w' (some r):=by
 obtain ⟨l,hl⟩:∃ l,l=s.data.toList.drop k:=⟨_,rfl⟩
 have hll:l.length=s.size - k:=by rw [hl,List.length_drop,bytes_list]
 have hne:w.heap.size ≠ r:=by have:=h.lt;omega
 have HP0:Hid (∀ W,RD r s k W→Calls Tryz.prog 111 #[.pointer (some ⟨r,0,none⟩),.int .i64 0] W fun e w'=>e = .returned (byte (topB l))∧Below W.heap.size W w'):=Lib.hid (fun W h=>by rw [hl];exact peek0 r s k W h hs hk)
 have HWW:Hid (∀ W,RD r s k W→Calls Tryz.prog 109 #[.pointer (some ⟨r,0,none⟩),.func (.func 73) #[] #[]] W fun e w'=>e = .returned (str (l.take (runL wordB l)))∧RD r s (k + runL wordB l) w'∧W.grownBy w' (some r)):=Lib.hid (fun W h=>by rw [hl];exact whileW wordB 73 (fun _ _=>by kernel_rfl) inWordW r s k W h hs hk)
 have HWN:Hid (∀ W,RD r s k W→Calls Tryz.prog 109 #[.pointer (some ⟨r,0,none⟩),.func (.func 142) #[] #[]] W fun e w'=>e = .returned (str (l.take (runL nameB l)))∧RD r s (k + runL nameB l) w'∧W.grownBy w' (some r)):=Lib.hid (fun W h=>by rw [hl];exact whileW nameB 142 (fun _ _=>by kernel_rfl) nameW r s k W h hs hk)
 have HPN:Hid (∀ W,RD r s (k + runL nameB l) W→Calls Tryz.prog 111 #[.pointer (some ⟨r,0,none⟩),.int .i64 0] W fun e w'=>e = .returned (byte (topB (l.drop (runL nameB l))))∧Below W.heap.size W w'):=Lib.hid (fun W h=>by
  have h1:=runL_le nameB l
  have h2:=peek0 r s (k + runL nameB l) W h hs (by omega)
  rw [← List.drop_drop,← hl] at h2
  exact h2)
 rw [← hl]
 have HL:=Lib.hid hll
 have HNE:=Lib.hid hne
 have HX:=Lib.hid hx
 have HS:=Lib.hid hs
 have HK:=Lib.hid hk
 have HG0:Hid (w.grownBy (w.alloc (.cells #[.int .u8 0,.string ⟨#[]⟩,.int .u64 0,.int .i64 0] 128)) (some r)):=Lib.hid (below_grown ((Below.refl _ _).alloc (Nat.le_refl _) _))
 have HR0:Hid (RD r s k (w.alloc (.cells #[.int .u8 0,.string ⟨#[]⟩,.int .u64 0,.int .i64 0] 128))):=Lib.hid (h.later ((Below.refl _ _).alloc (Nat.le_refl _) _))
 have HB0:Hid (TBox w.heap.size (w.alloc (.cells #[.int .u8 0,.string ⟨#[]⟩,.int .u64 0,.int .i64 0] 128))):=Lib.hid (tBox_new _ _)
 clear hl hll hne hx h hs hk
 go_enter Tryz.func117,Tryz.ntmps117
 go_wp2_with fail
 generalize w.alloc (.cells #[.int .u8 0,.string ⟨#[]⟩,.int .u64 0,.int .i64 0] 128)=w1 at *
 refine (HP0.out _ HR0.out).mono ?_
 rintro e w2 ⟨rfl,hb2⟩
 have HR2:=Lib.hid (HR0.out.later hb2)
 have HB2:=Lib.hid (HB0.out.later hb2)
 have HG2:=Lib.hid (grown_trans HG0.out (below_grown hb2))
 clear hb2
 obtain ⟨b,hb⟩:∃ b,b=w.heap.size:=⟨_,rfl⟩
 rw [← hb] at HB2 HNE ⊢
 have HBE:=Lib.hid (Nat.le_of_eq hb.symm)
 clear hb HB0 HR0 HG0
 by_cases hc:capB (topB l)=true
 ·have HC1:Hid (∀ W,Calls Tryz.prog 116 #[byte (topB l)] W fun e w'=>e = .returned (.bool true)∧W=w'):=Lib.hid (fun W=>by have:=capW (topB l) W;rwa [hc] at this)
  obtain ⟨m,hm⟩:∃ m,m=runL wordB l:=⟨_,rfl⟩
  obtain ⟨t,ht⟩:∃ t,t=l.take m:=⟨_,rfl⟩
  rw [← hm,← ht] at HWW
  have HONE:Hid (wordOne l=if t ∈ wordsL then .tok 1 t 0 m else .bad 6 0):=Lib.hid (by unfold wordOne;rw [if_pos hc,← hm,← ht])
  have htl:t.length=m:=by rw [ht,hm];exact take_len_le (runL_le wordB l)
  have hmb:k + m ≤ 1000000:=by
   have h1:=runL_le wordB l
   have h2:=HL.out
   have h3:=HS.out
   have h4:=HK.out
   rw [hm];omega
  have HTL:=Lib.hid htl
  have HMB:=Lib.hid hmb
  clear hm ht htl hmb hc
  go_wp2_with fail
  refine (HC1.out _).mono ?_
  rintro e w3 ⟨rfl,rfl⟩
  go_wp2_with fail
  refine (HWW.out _ HR2.out).mono ?_
  rintro e w3 ⟨rfl,hr3,hg3⟩
  have HR3:=Lib.hid hr3
  have HB3:=Lib.hid (HB2.out.grown hg3 HNE.out)
  have HG3:=Lib.hid (grown_trans HG2.out hg3)
  clear hr3 hg3
  go_wp2_with fail
  refine (wordsW w3 (HX.out.grown HG3.out).lx).mono ?_
  rintro e w4 ⟨A,rfl,ha,hb4⟩
  have HA:=Lib.hid ha
  have HR4:=Lib.hid (HR3.out.later hb4)
  have HB4:=Lib.hid (HB3.out.later hb4)
  have HG4:=Lib.hid (grown_trans HG3.out (below_grown hb4))
  clear ha hb4
  by_cases hmem:t ∈ wordsL
  ·have HF:Hid (∀ W,StrsAt A wordsL W→Calls Tryz.prog 140 #[.slice (some ⟨A,0,none⟩) 43 43,.string ⟨t.toArray⟩] W fun e w'=>∃ I:Int,e = .returned (.tuple #[.int .i64 I,.bool true])∧Below W.heap.size W w'):=Lib.hid (fun W h=>by
    have:=findW A ⟨t.toArray⟩ W h
    rwa [show decide ((⟨t.toArray⟩:ByteArray).data.toList ∈ wordsL)=true from decide_eq_true hmem] at this)
   have HONE:Hid (wordOne l = .tok 1 t 0 m):=Lib.hid (by rw [HONE.out,if_pos hmem])
   clear hmem
   go_wp2_with fail
   refine (HF.out _ HA.out).mono ?_
   rintro e w5 ⟨I,rfl,hb5⟩
   have HR5:=Lib.hid (HR4.out.later hb5)
   have HB5:=Lib.hid (HB4.out.later hb5)
   have HG5:=Lib.hid (grown_trans HG4.out (below_grown hb5))
   clear hb5
   obtain ⟨c0,c1,c2,c3,f0,f1,f2,f3⟩:=HB5.out
   go_wp2_with fail
   obtain ⟨q0,q1,q2,q3⟩:=filled4 w5 b (.int .u8 1) (.string ⟨t.toArray⟩) (.int .u64 0) (.int .i64 0) HB5.out _ rfl
   rw [HONE.out]
   refine bodyPost_ret (v:=.tuple #[Tk.val ⟨1,⟨t.toArray⟩,0,0⟩,.int .i64 0]) (by simp [results,Tryz.results117,go_sem,q0,q1,q2,q3,Tk.val]) rfl ⟨rfl,HR5.out.box _ _ _ _ HNE.out,grown_box HG5.out _ _ _ _ HBE.out⟩
  ·have HF:Hid (∀ W,StrsAt A wordsL W→Calls Tryz.prog 140 #[.slice (some ⟨A,0,none⟩) 43 43,.string ⟨t.toArray⟩] W fun e w'=>∃ I:Int,e = .returned (.tuple #[.int .i64 I,.bool false])∧Below W.heap.size W w'):=Lib.hid (fun W h=>by
    have:=findW A ⟨t.toArray⟩ W h
    rwa [show decide ((⟨t.toArray⟩:ByteArray).data.toList ∈ wordsL)=false from decide_eq_false hmem] at this)
   have HONE:Hid (wordOne l = .bad 6 0):=Lib.hid (by rw [HONE.out,if_neg hmem])
   clear hmem
   go_wp2_with fail
   refine (HF.out _ HA.out).mono ?_
   rintro e w5 ⟨I,rfl,hb5⟩
   have HR5:=Lib.hid (HR4.out.later hb5)
   have HB5:=Lib.hid (HB4.out.later hb5)
   have HG5:=Lib.hid (grown_trans HG4.out (below_grown hb5))
   clear hb5
   obtain ⟨c0,c1,c2,c3,f0,f1,f2,f3⟩:=HB5.out
   obtain ⟨d0,d1,g1⟩:=HR5.out
   have hz:(⟨t.toArray⟩:ByteArray).size=m:=HTL.out
   have hbk:=wrap_k k (by have:=HMB.out;omega)
   go_upto_region 6 with fail
   have HR6:=Lib.hid (HR5.out.set k)
   have HB6:=Lib.hid (HB5.out.else (r:=r) (i:=1) (u:=.int .i64 (k:Int)) HNE.out)
   have HG6:=Lib.hid (grown_trans HG5.out (grown_set w5 r 1 (.int .i64 (k:Int))))
   clear c0 c1 c2 c3 f0 f1 f2 f3 d0 d1 g1 hz hbk
   generalize w5.setCell ⟨r,1,none⟩ (.int .i64 (k:Int))=w6 at *
   obtain ⟨c0,c1,c2,c3,f0,f1,f2,f3⟩:=HB6.out
   go_wp2_with fail
   obtain ⟨q0,q1,q2,q3⟩:=filled4 w6 b (.int .u8 0) (.string ⟨#[]⟩) (.int .u64 0) (.int .i64 0) HB6.out _ rfl
   rw [HONE.out]
   refine bodyPost_ret (v:=.tuple #[T0.val,.int .i64 6]) (by simp [results,Tryz.results117,go_sem,q0,q1,q2,q3,Tk.val,T0];try rfl) rfl ⟨rfl,HR6.out.box _ _ _ _ HNE.out,grown_box HG6.out _ _ _ _ HBE.out⟩
 ·have HC1:Hid (∀ W,Calls Tryz.prog 116 #[byte (topB l)] W fun e w'=>e = .returned (.bool false)∧W=w'):=Lib.hid (fun W=>by have:=capW (topB l) W;rwa [show capB (topB l)=false by simpa using hc] at this)
  obtain ⟨m,hm⟩:∃ m,m=runL nameB l:=⟨_,rfl⟩
  obtain ⟨t,ht⟩:∃ t,t=l.take m:=⟨_,rfl⟩
  obtain ⟨c,hcc⟩:∃ c,c=topB (l.drop m):=⟨_,rfl⟩
  rw [← hm,← ht] at HWN
  rw [← hm,← hcc] at HPN
  have HONE:Hid (wordOne l=if capB c then .bad 6 m else if 32 < m then .bad 3 0 else .tok 2 t 0 m):=Lib.hid (by unfold wordOne;rw [if_neg hc,← hm,← ht,← hcc])
  have htl:t.length=m:=by rw [ht,hm];exact take_len_le (runL_le nameB l)
  have hmb:k + m ≤ 1000000:=by
   have h1:=runL_le nameB l
   have h2:=HL.out
   have h3:=HS.out
   have h4:=HK.out
   rw [hm];omega
  have HTL:=Lib.hid htl
  have HMB:=Lib.hid hmb
  clear hm ht htl hmb hc hcc
  go_wp2_with fail
  refine (HC1.out _).mono ?_
  rintro e w3 ⟨rfl,rfl⟩
  go_wp2_with fail
  refine (HWN.out _ HR2.out).mono ?_
  rintro e w3 ⟨rfl,hr3,hg3⟩
  have HR3:=Lib.hid hr3
  have HB3:=Lib.hid (HB2.out.grown hg3 HNE.out)
  have HG3:=Lib.hid (grown_trans HG2.out hg3)
  clear hr3 hg3
  go_wp2_with fail
  refine (HPN.out _ HR3.out).mono ?_
  rintro e w4 ⟨rfl,hb4⟩
  have HR4:=Lib.hid (HR3.out.later hb4)
  have HB4:=Lib.hid (HB3.out.later hb4)
  have HG4:=Lib.hid (grown_trans HG3.out (below_grown hb4))
  clear hb4
  have HC2:=Lib.hid (capW c)
  obtain ⟨c0,c1,c2,c3,f0,f1,f2,f3⟩:=HB4.out
  cases hcp:capB c with
  | true=>
   rw [hcp] at HC2 HONE
   have HONE:Hid (wordOne l = .bad 6 m):=Lib.hid (by rw [HONE.out,if_pos rfl])
   clear hcp
   go_wp2_with fail
   refine (HC2.out _).mono ?_
   rintro e w5 ⟨rfl,rfl⟩
   go_wp2_with fail
   obtain ⟨q0,q1,q2,q3⟩:=filled4 w4 b (.int .u8 0) (.string ⟨#[]⟩) (.int .u64 0) (.int .i64 0) HB4.out _ rfl
   rw [HONE.out]
   refine bodyPost_ret (v:=.tuple #[T0.val,.int .i64 6]) (by simp [results,Tryz.results117,go_sem,q0,q1,q2,q3,Tk.val,T0];try rfl) rfl ⟨rfl,HR4.out.box _ _ _ _ HNE.out,grown_box HG4.out _ _ _ _ HBE.out⟩
  | false=>
   rw [hcp] at HC2 HONE
   have hz:(⟨t.toArray⟩:ByteArray).size=m:=HTL.out
   clear hcp
   by_cases h32:32 < m
   ·have HONE:Hid (wordOne l = .bad 3 0):=Lib.hid (by rw [HONE.out,if_neg (by decide),if_pos h32])
    have i1:(32:Int) < (m:Int):=by omega
    have HR5:=HR4
    have HB5:=HB4
    have HG5:=HG4
    clear c0 c1 c2 c3 f0 f1 f2 f3 h32
    go_wp2_with fail
    refine (HC2.out _).mono ?_
    rintro e w5 ⟨rfl,rfl⟩
    obtain ⟨d0,d1,g1⟩:=HR5.out
    have c0:True:=trivial
    have c1:True:=trivial
    have c2:True:=trivial
    have c3:True:=trivial
    have f0:True:=trivial
    have f1:True:=trivial
    have f2:True:=trivial
    have f3:True:=trivial
    have hbk:=wrap_k k (by have:=HMB.out;omega)
    go_upto_region 13 with fail
    have HR6:=Lib.hid (HR5.out.set k)
    have HB6:=Lib.hid (HB5.out.else (r:=r) (i:=1) (u:=.int .i64 (k:Int)) HNE.out)
    have HG6:=Lib.hid (grown_trans HG5.out (grown_set w4 r 1 (.int .i64 (k:Int))))
    clear c0 c1 c2 c3 f0 f1 f2 f3 d0 d1 g1 hz hbk
    generalize w4.setCell ⟨r,1,none⟩ (.int .i64 (k:Int))=w6 at *
    obtain ⟨c0,c1,c2,c3,f0,f1,f2,f3⟩:=HB6.out
    go_wp2_with fail
    obtain ⟨q0,q1,q2,q3⟩:=filled4 w6 b (.int .u8 0) (.string ⟨#[]⟩) (.int .u64 0) (.int .i64 0) HB6.out _ rfl
    rw [HONE.out]
    refine bodyPost_ret (v:=.tuple #[T0.val,.int .i64 3]) (by simp [results,Tryz.results117,go_sem,q0,q1,q2,q3,Tk.val,T0];try rfl) rfl ⟨rfl,HR6.out.box _ _ _ _ HNE.out,grown_box HG6.out _ _ _ _ HBE.out⟩
   ·have HONE:Hid (wordOne l = .tok 2 t 0 m):=Lib.hid (by rw [HONE.out,if_neg (by decide),if_neg h32])
    have i1:¬ (32:Int) < (m:Int):=by omega
    clear h32
    go_wp2_with fail
    refine (HC2.out _).mono ?_
    rintro e w5 ⟨rfl,rfl⟩
    go_wp2_with fail
    obtain ⟨q0,q1,q2,q3⟩:=filled4 w4 b (.int .u8 2) (.string ⟨t.toArray⟩) (.int .u64 0) (.int .i64 0) HB4.out _ rfl
    rw [HONE.out]
    refine bodyPost_ret (v:=.tuple #[Tk.val ⟨2,⟨t.toArray⟩,0,0⟩,.int .i64 0]) (by simp [results,Tryz.results117,go_sem,q0,q1,q2,q3,Tk.val]) rfl ⟨rfl,HR4.out.box _ _ _ _ HNE.out,grown_box HG4.out _ _ _ _ HBE.out⟩
theorem parse_le:∀ (M:Nat) (l:List UInt8) (acc v:Nat),acc ≤ M→Lib.parseUintM M acc l = .ok v→v ≤ M
 | M,[],acc,v,h,e=>by cases e;exact h
 | M,c :: l,acc,v,h,e=>by
  unfold Lib.parseUintM at e
  split at e
  ·split at e
   ·cases e
   ·split at e
    ·cases e
    ·exact parse_le M l _ v (by omega) e
  ·cases e
theorem parseUW (s:ByteArray) (w:World) (hw:LW w) (hs:s.size ≤ 1000000) :
 Calls Tryz.prog 143 #[.string s,.int .i64 10,.int .i64 64] w fun e w'=>
  (∃ (n:Nat) (ev:Value) (ok:Bool),e = .returned (.tuple #[.int .u64 (n:Int),ev])∧n ≤ 18446744073709551615 ∧
   (ok=true→Lib.parseUintB 64 s.data.toList = .ok n∧ev = .nilIface)∧(ok=false→(∀ v,Lib.parseUintB 64 s.data.toList ≠ .ok v)∧∃ t p,ev = .iface t (.pointer (some p))))∧Below w.heap.size w w':=by
 obtain ⟨_,_,⟨t,p,h3⟩,⟨u,q,h4⟩⟩:=hw
 rcases hp:Lib.parseUintB 64 s.data.toList with v | _ | _
 ·skip
  refine (Tryz.strconv_ParseUint_10_at64_ok s (by omega) v hp w).mono fun e w' h=>?_
  obtain ⟨rfl,h⟩:=h
  refine ⟨⟨v,.nilIface,true,rfl,?_,fun _=>⟨rfl,rfl⟩,fun h=>by cases h⟩,?_⟩
  ·unfold Lib.parseUintB at hp
   split at hp
   ·cases hp
   ·exact parse_le 18446744073709551615 _ 0 _ (by decide) hp
  ·rcases h with rfl | rfl
   ·exact Below.refl _ _
   ·exact Lib.bytesWorld_below _ _ _
 ·skip
  refine (Tryz.strconv_ParseUint_10_at64_syntax_var s (by omega) hp t p w h3).mono fun e w' h=>?_
  obtain ⟨N,rfl,_,_,hb⟩:=h
  exact ⟨⟨0,_,false,rfl,by decide,fun h=>(by cases h),fun _=>⟨fun v h=>(by cases h),_,_,rfl⟩⟩,hb⟩
 ·skip
  refine (Tryz.strconv_ParseUint_10_at64_range_var s (by omega) hp u q w h4).mono fun e w' h=>?_
  obtain ⟨N,rfl,_,_,hb⟩:=h
  exact ⟨⟨18446744073709551615,_,false,rfl,by decide,fun h=>(by cases h),fun _=>⟨fun v h=>(by cases h),_,_,rfl⟩⟩,hb⟩
theorem num_ok {l t:List UInt8} {n:Nat} (h0:¬ (topB l=48∧digB (topB (l.drop 1))=true)) (ht:t=l.take (runL digB l)) (hp:Lib.parseUintB 64 t = .ok n):numOne l=if 9223372036854775808 < n then .bad 5 0 else .tok 3 [] n (runL digB l):=by
 unfold Lib.parseUintB at hp
 split at hp
 ·cases hp
 ·have:=parse_ok _ _ _ _ hp
  unfold numOne
  rw [if_neg h0,← ht,this]
theorem num_no {l t:List UInt8} (h0:¬ (topB l=48∧digB (topB (l.drop 1))=true)) (ht:t=l.take (runL digB l)) (hne:t ≠ []) (hp:∀ v,Lib.parseUintB 64 t ≠ .ok v):numOne l = .bad 5 0:=by
 unfold numOne
 rw [if_neg h0,← ht]
 cases hd:decV 0 t with
 | none=>rfl
 | some n=>
  simp only
  rw [if_pos]
  rcases Nat.lt_or_ge 9223372036854775808 n with h | h
  ·exact h
  ·exfalso
   refine hp n ?_
   unfold Lib.parseUintB
   rw [if_neg hne]
   exact parse_of t 0 n hd (by omega)
set_option maxRecDepth 100000 in
set_option maxHeartbeats 8000000 in
theorem numberW (w0:World) (r:Nat) (s:ByteArray) (k:Nat) (w:World) (hx:Env w0 r w) (h:RD r s k w) (hs:s.size ≤ 1000000) (hk:k ≤ s.size) (hdg:digB (topB (s.data.toList.drop k))=true) :
 Calls Tryz.prog 119 #[.pointer (some ⟨r,0,none⟩)] w fun e w'=>e = .returned (outV (numOne (s.data.toList.drop k)))∧RD r s (k + lenO (numOne (s.data.toList.drop k))) w'∧w.grownBy w' (some r):=by
 obtain ⟨l,hl⟩:∃ l,l=s.data.toList.drop k:=⟨_,rfl⟩
 have hll:l.length=s.size - k:=by rw [hl,List.length_drop,bytes_list]
 have hne:w.heap.size ≠ r:=by have:=h.lt;omega
 have HP0:Hid (∀ W,RD r s k W→Calls Tryz.prog 111 #[.pointer (some ⟨r,0,none⟩),.int .i64 0] W fun e w'=>e = .returned (byte (topB l))∧Below W.heap.size W w'):=Lib.hid (fun W h=>by rw [hl];exact peek0 r s k W h hs hk)
 have HP1:Hid (∀ W,RD r s k W→Calls Tryz.prog 111 #[.pointer (some ⟨r,0,none⟩),.int .i64 1] W fun e w'=>e = .returned (byte (topB (l.drop 1)))∧Below W.heap.size W w'):=Lib.hid (fun W h=>by rw [hl,List.drop_drop];exact peek1 r s k W h hs hk)
 have HWW:Hid (∀ W,RD r s k W→Calls Tryz.prog 109 #[.pointer (some ⟨r,0,none⟩),.func (.func 118) #[] #[]] W fun e w'=>e = .returned (str (l.take (runL digB l)))∧RD r s (k + runL digB l) w'∧W.grownBy w' (some r)):=Lib.hid (fun W h=>by rw [hl];exact whileW digB 118 (fun _ _=>by kernel_rfl) digW r s k W h hs hk)
 rw [← hl] at hdg ⊢
 have HDG:=Lib.hid hdg
 have HL:=Lib.hid hll
 have HNE:=Lib.hid hne
 have HX:=Lib.hid hx
 have HS:=Lib.hid hs
 have HK:=Lib.hid hk
 have HG0:Hid (w.grownBy (w.alloc (.cells #[.int .u8 0,.string ⟨#[]⟩,.int .u64 0,.int .i64 0] 128)) (some r)):=Lib.hid (below_grown ((Below.refl _ _).alloc (Nat.le_refl _) _))
 have HR0:Hid (RD r s k (w.alloc (.cells #[.int .u8 0,.string ⟨#[]⟩,.int .u64 0,.int .i64 0] 128))):=Lib.hid (h.later ((Below.refl _ _).alloc (Nat.le_refl _) _))
 have HB0:Hid (TBox w.heap.size (w.alloc (.cells #[.int .u8 0,.string ⟨#[]⟩,.int .u64 0,.int .i64 0] 128))):=Lib.hid (tBox_new _ _)
 clear hl hll hne hx h hs hk hdg
 go_enter Tryz.func119,Tryz.ntmps119
 go_upto_region 1 with fail
 generalize w.alloc (.cells #[.int .u8 0,.string ⟨#[]⟩,.int .u64 0,.int .i64 0] 128)=w1 at *
 obtain ⟨b,hb⟩:∃ b,b=w.heap.size:=⟨_,rfl⟩
 rw [← hb] at HB0 HNE ⊢
 have HBE:=Lib.hid (Nat.le_of_eq hb.symm)
 clear hb
 obtain ⟨c,hc⟩:∃ c,c=topB l:=⟨_,rfl⟩
 obtain ⟨d,hd⟩:∃ d,d=topB (l.drop 1):=⟨_,rfl⟩
 have HC:=Lib.hid hc
 have HD:=Lib.hid hd
 rw [← hc] at HP0
 rw [← hd] at HP1
 clear hc hd
 obtain ⟨B,hB⟩:∃ B,B=decide (c=48∧digB d=true):=⟨_,rfl⟩
 have HBB:=Lib.hid hB
 clear hB
 go_cut [14] (fun c14 wx=>c14 = .bool B∧Hid (RD r s k wx)∧Hid (TBox b wx)∧Hid (w.grownBy wx (some r)))
 case first=>
  by_cases h48:c=48
  ·subst h48
   have HDW:=Lib.hid (digW d)
   cases hdd:digB d with
   | true=>
    rw [hdd] at HDW
    obtain rfl:B=true:=by rw [HBB.out,hdd];rfl
    clear hdd
    go_wp2_with fail
    refine (HP0.out _ HR0.out).mono ?_
    rintro e w2 ⟨rfl,hb2⟩
    have HR2:=Lib.hid (HR0.out.later hb2)
    have HB2:=Lib.hid (HB0.out.later hb2)
    have HG2:=Lib.hid (grown_trans HG0.out (below_grown hb2))
    clear hb2
    go_wp2_with fail
    refine (HP1.out _ HR2.out).mono ?_
    rintro e w3 ⟨rfl,hb3⟩
    have HR3:=Lib.hid (HR2.out.later hb3)
    have HB3:=Lib.hid (HB2.out.later hb3)
    have HG3:=Lib.hid (grown_trans HG2.out (below_grown hb3))
    clear hb3
    go_wp2_with fail
    refine (HDW.out _).mono ?_
    rintro e w4 ⟨rfl,rfl⟩
    go_wp2_with fail
    go_meet
    exact ⟨rfl,HR3,HB3,HG3⟩
   | false=>
    rw [hdd] at HDW
    obtain rfl:B=false:=by rw [HBB.out,hdd];rfl
    clear hdd
    go_wp2_with fail
    refine (HP0.out _ HR0.out).mono ?_
    rintro e w2 ⟨rfl,hb2⟩
    have HR2:=Lib.hid (HR0.out.later hb2)
    have HB2:=Lib.hid (HB0.out.later hb2)
    have HG2:=Lib.hid (grown_trans HG0.out (below_grown hb2))
    clear hb2
    go_wp2_with fail
    refine (HP1.out _ HR2.out).mono ?_
    rintro e w3 ⟨rfl,hb3⟩
    have HR3:=Lib.hid (HR2.out.later hb3)
    have HB3:=Lib.hid (HB2.out.later hb3)
    have HG3:=Lib.hid (grown_trans HG2.out (below_grown hb3))
    clear hb3
    go_wp2_with fail
    refine (HDW.out _).mono ?_
    rintro e w4 ⟨rfl,rfl⟩
    go_wp2_with fail
    go_meet
    exact ⟨rfl,HR3,HB3,HG3⟩
  ·have e1:((c.toNat:Int) == 48)=false:=by
    have:c.toNat ≠ 48:=fun e=>h48 (UInt8.toNat_inj.1 e)
    first | (simp;done) | (simp;omega)
   obtain rfl:B=false:=by rw [HBB.out];exact decide_eq_false (fun e=>h48 e.1)
   clear h48
   go_wp2_with fail
   refine (HP0.out _ HR0.out).mono ?_
   rintro e w2 ⟨rfl,hb2⟩
   have HR2:=Lib.hid (HR0.out.later hb2)
   have HB2:=Lib.hid (HB0.out.later hb2)
   have HG2:=Lib.hid (grown_trans HG0.out (below_grown hb2))
   clear hb2
   go_wp2_with fail
   go_meet
   exact ⟨rfl,HR2,HB2,HG2⟩
 case rest=>
  rename World=>w5
  obtain ⟨rfl,HR5,HB5,HG5⟩:=hcut
  clear HR0 HB0 HG0
  by_cases hbad:c=48∧digB d=true
  ·have HONE:Hid (numOne l = .bad 6 1):=Lib.hid (by unfold numOne;rw [if_pos (by rw [← HC.out,← HD.out];exact hbad)])
   obtain rfl:B=true:=by rw [HBB.out];exact decide_eq_true hbad
   obtain ⟨d0,d1,g1⟩:=HR5.out
   have hw1:wrap64 ((k:Int) + 1)=(k:Int) + 1:=by have h1:=HS.out;have h2:=HK.out;unfold wrap64;omega
   clear hbad
   go_upto_region 3 with fail
   have e1:((k + 1:Nat):Int)=(k:Int) + 1:=by omega
   have HR6:=Lib.hid (HR5.out.set (k + 1))
   have HB6:=Lib.hid (HB5.out.else (r:=r) (i:=1) (u:=.int .i64 ((k + 1:Nat):Int)) HNE.out)
   have HG6:=Lib.hid (grown_trans HG5.out (grown_set w5 r 1 (.int .i64 ((k + 1:Nat):Int))))
   rw [e1] at HR6 HB6 HG6
   clear d0 d1 g1 hw1 e1
   generalize w5.setCell ⟨r,1,none⟩ (.int .i64 ((k:Int) + 1))=w6 at *
   obtain ⟨c0,c1,c2,c3,f0,f1,f2,f3⟩:=HB6.out
   go_wp2_with fail
   obtain ⟨q0,q1,q2,q3⟩:=filled4 w6 b (.int .u8 0) (.string ⟨#[]⟩) (.int .u64 0) (.int .i64 0) HB6.out _ rfl
   rw [HONE.out]
   refine bodyPost_ret (v:=.tuple #[T0.val,.int .i64 6]) (by simp [results,Tryz.results119,go_sem,q0,q1,q2,q3,Tk.val,T0];try rfl) rfl ⟨rfl,HR6.out.box _ _ _ _ HNE.out,grown_box HG6.out _ _ _ _ HBE.out⟩
  ·obtain rfl:B=false:=by rw [HBB.out];exact decide_eq_false hbad
   have HNB:Hid (¬ (topB l=48∧digB (topB (l.drop 1))=true)):=Lib.hid (by rw [← HC.out,← HD.out];exact hbad)
   obtain ⟨m,hm⟩:∃ m,m=runL digB l:=⟨_,rfl⟩
   obtain ⟨t,ht⟩:∃ t,t=l.take m:=⟨_,rfl⟩
   have HNO:Hid ((∀ v,Lib.parseUintB 64 t ≠ .ok v)→numOne l = .bad 5 0):=Lib.hid (fun h=>by
    refine num_no HNB.out (t:=t) (by rw [ht,hm]) ?_ h
    rintro rfl
    have h1:=congrArg List.length ht
    rw [take_len_le (by rw [hm];exact runL_le digB l)] at h1
    have h2:0 < m:=by
     rw [hm]
     cases hl:l with
     | nil=>rw [hl] at HDG;exact absurd HDG.out (by decide)
     | cons x y=>rw [hl] at HDG;rw [runL_pos (show digB x=true from HDG.out)];omega
    simp at h1;omega)
   have HOK:Hid (∀ n,Lib.parseUintB 64 t = .ok n→numOne l=if 9223372036854775808 < n then .bad 5 0 else .tok 3 [] n m):=Lib.hid (fun n h=>by
    rw [hm];exact num_ok HNB.out (by rw [ht,hm]) h)
   have htl:t.length=m:=by rw [ht,hm];exact take_len_le (runL_le digB l)
   have hmb:k + m ≤ 1000000:=by
    have h1:=runL_le digB l
    have h2:=HL.out
    have h3:=HS.out
    have h4:=HK.out
    rw [hm];omega
   rw [← hm,← ht] at HWW
   have HTL:=Lib.hid htl
   have HMB:=Lib.hid hmb
   clear hm ht htl hmb hbad
   go_wp2_with fail
   refine (HWW.out _ HR5.out).mono ?_
   rintro e w7 ⟨rfl,hr7,hg7⟩
   have HR7:=Lib.hid hr7
   have HB7:=Lib.hid (HB5.out.grown hg7 HNE.out)
   have HG7:=Lib.hid (grown_trans HG5.out hg7)
   clear hr7 hg7
   go_wp2_with fail
   refine (parseUW ⟨t.toArray⟩ w7 (HX.out.grown HG7.out).lx.toLW (by have h1:=HTL.out;have h2:=HMB.out;show t.length ≤ 1000000;omega)).mono ?_
   rintro e w9 ⟨⟨n,ev,ok,rfl,hnb,hy,hn⟩,hb9⟩
   have HR9:=Lib.hid (HR7.out.later hb9)
   have HB9:=Lib.hid (HB7.out.later hb9)
   have HG9:=Lib.hid (grown_trans HG7.out (below_grown hb9))
   have HY:=Lib.hid hy
   have HN:=Lib.hid hn
   have HNBD:=Lib.hid hnb
   clear hb9 hy hn hnb
   cases ok with
   | true=>
    obtain ⟨hp,rfl⟩:=HY.out rfl
    have HONE:=Lib.hid (HOK.out n hp)
    clear hp
    by_cases hbig:9223372036854775808 < n
    ·have HONE:Hid (numOne l = .bad 5 0):=Lib.hid (by rw [HONE.out,if_pos hbig])
     have i1:(9223372036854775808:Int) < (n:Int):=by omega
     clear hbig
     obtain ⟨d0,d1,g1⟩:=HR9.out
     have hz:(⟨t.toArray⟩:ByteArray).size=m:=HTL.out
     have hbk:wrap64 (k:Int)=(k:Int):=by have h1:=HS.out;have h2:=HK.out;unfold wrap64;omega
     go_upto_region 8 with fail
     have HR6:=Lib.hid (HR9.out.set k)
     have HB6:=Lib.hid (HB9.out.else (r:=r) (i:=1) (u:=.int .i64 (k:Int)) HNE.out)
     have HG6:=Lib.hid (grown_trans HG9.out (grown_set w9 r 1 (.int .i64 (k:Int))))
     clear d0 d1 g1 hz hbk
     generalize w9.setCell ⟨r,1,none⟩ (.int .i64 (k:Int))=w6 at *
     obtain ⟨c0,c1,c2,c3,f0,f1,f2,f3⟩:=HB6.out
     go_wp2_with fail
     obtain ⟨q0,q1,q2,q3⟩:=filled4 w6 b (.int .u8 0) (.string ⟨#[]⟩) (.int .u64 0) (.int .i64 0) HB6.out _ rfl
     rw [HONE.out]
     refine bodyPost_ret (v:=.tuple #[T0.val,.int .i64 5]) (by simp [results,Tryz.results119,go_sem,q0,q1,q2,q3,Tk.val,T0];try rfl) rfl ⟨rfl,HR6.out.box _ _ _ _ HNE.out,grown_box HG6.out _ _ _ _ HBE.out⟩
    ·have HONE:Hid (numOne l = .tok 3 [] n m):=Lib.hid (by rw [HONE.out,if_neg hbig])
     have i1:¬ (9223372036854775808:Int) < (n:Int):=by omega
     clear hbig
     obtain ⟨c0,c1,c2,c3,f0,f1,f2,f3⟩:=HB9.out
     go_wp2_with fail
     obtain ⟨q0,q1,q2,q3⟩:=filled4 w9 b (.int .u8 3) (.string ⟨#[]⟩) (.int .u64 (n:Int)) (.int .i64 0) HB9.out _ rfl
     rw [HONE.out]
     refine bodyPost_ret (v:=.tuple #[Tk.val ⟨3,⟨([]:List UInt8).toArray⟩,n,0⟩,.int .i64 0]) (by simp [results,Tryz.results119,go_sem,q0,q1,q2,q3,Tk.val]) rfl ⟨rfl,HR9.out.box _ _ _ _ HNE.out,grown_box HG9.out _ _ _ _ HBE.out⟩
   | false=>
    obtain ⟨hp,tt,pp,rfl⟩:=HN.out rfl
    have HONE:=Lib.hid (HNO.out hp)
    clear hp
    obtain ⟨d0,d1,g1⟩:=HR9.out
    have hz:(⟨t.toArray⟩:ByteArray).size=m:=HTL.out
    have hbk:wrap64 (k:Int)=(k:Int):=by have h1:=HS.out;have h2:=HK.out;unfold wrap64;omega
    go_upto_region 8 with fail
    have HR6:=Lib.hid (HR9.out.set k)
    have HB6:=Lib.hid (HB9.out.else (r:=r) (i:=1) (u:=.int .i64 (k:Int)) HNE.out)
    have HG6:=Lib.hid (grown_trans HG9.out (grown_set w9 r 1 (.int .i64 (k:Int))))
    clear d0 d1 g1 hz hbk
    generalize w9.setCell ⟨r,1,none⟩ (.int .i64 (k:Int))=w6 at *
    obtain ⟨c0,c1,c2,c3,f0,f1,f2,f3⟩:=HB6.out
    go_wp2_with fail
    obtain ⟨q0,q1,q2,q3⟩:=filled4 w6 b (.int .u8 0) (.string ⟨#[]⟩) (.int .u64 0) (.int .i64 0) HB6.out _ rfl
    rw [HONE.out]
    refine bodyPost_ret (v:=.tuple #[T0.val,.int .i64 5]) (by simp [results,Tryz.results119,go_sem,q0,q1,q2,q3,Tk.val,T0];try rfl) rfl ⟨rfl,HR6.out.box _ _ _ _ HNE.out,grown_box HG6.out _ _ _ _ HBE.out⟩
end Go.Proofs.YtmdogmpcmkfjpaaGreatDoor.Dt
