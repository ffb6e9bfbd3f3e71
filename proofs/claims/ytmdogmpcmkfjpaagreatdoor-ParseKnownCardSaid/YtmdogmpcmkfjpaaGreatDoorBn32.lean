import Derived.ScopeJumps
import Derived.WalkMore
import Derived.Test.YtmdogmpcmkfjpaaGreatDoorBn10
import Derived.Test.YtmdogmpcmkfjpaaGreatDoorBn15
import Derived.Test.YtmdogmpcmkfjpaaGreatDoorBn11
/- Part of the proof (merged). -/
namespace Go.Proofs.YtmdogmpcmkfjpaaGreatDoor.Dt
open Go.RowKit Go.Proofs.YtmdogmpcmkfjpaaGreatDoor.By
def leftR (r:Nat) (s:ByteArray) (w:World):Nat:=match w.cell? ⟨r,1,none⟩ with | some (.int _ q)=>s.size - q.toNat | _=>0
theorem leftR_at {r:Nat} {s:ByteArray} {k:Nat} {w:World} (h:RD r s k w):leftR r s w=s.size - k:=by
 unfold leftR
 rw [h.c1]
 simp
set_option maxRecDepth 100000 in
set_option maxHeartbeats 8000000 in
theorem skipW (r:Nat) (s:ByteArray) (k:Nat) (w:World) (h:RD r s k w) (hs:s.size ≤ 1000000) (hk:k ≤ s.size) :
 Calls Tryz.prog 71 #[.pointer (some ⟨r,0,none⟩)] w fun e w'=>e = .returned (.tuple #[])∧RD r s (k + skipL (s.data.toList.drop k)) w'∧w.grownBy w' (some r):=by
 have HR0:=Lib.hid h
 have HS:=Lib.hid hs
 have HK0:=Lib.hid hk
 clear h hs hk
 go_enter Tryz.func71,Tryz.ntmps71
 go_wp2_with fail
 refine wp_scope_jumps 0 (fun a' w'=>∃ (u2 u3 u4 u5 u6 u7 u8 u9 u10 u11 u12 u13:Value) (k':Nat),a' = { tmps:=#[.pointer (some ⟨r,0,none⟩),undef,u2,u3,u4,u5,u6,u7,u8,u9,u10,u11,u12,u13],defers:=[] } ∧k' ≤ s.size∧Hid (RD r s k' w')∧Hid (w.grownBy w' (some r))∧Hid (k' + skipL (s.data.toList.drop k')=k + skipL (s.data.toList.drop k))) (fun _ w'=>leftR r s w') rfl ?_ ?_
 ·have HR:=HR0
  have HG:Hid (w.grownBy w (some r)):=Lib.hid (World.grownBy.refl _ _)
  have HK:=HK0
  have HSUM:Hid (k + skipL (s.data.toList.drop k)=k + skipL (s.data.toList.drop k)):=Lib.hid rfl
  go_wp2_with fail
  go_step3
  go_wp2_with fail
  refine (whileW blankB 110 (fun _ _=>by kernel_rfl) blankW r s k w HR.out HS.out HK.out).mono ?_
  rintro e w1 ⟨rfl,hr1,hg1⟩
  obtain ⟨k1,hk1⟩:∃ k1,k1=k + runL blankB (s.data.toList.drop k):=⟨_,rfl⟩
  rw [← hk1] at hr1
  have HK1:Hid (k ≤ k1∧k1 ≤ s.size):=Lib.hid (by
   have:=runL_le blankB (s.data.toList.drop k)
   rw [List.length_drop,bytes_list] at this
   have:=HK.out
   omega)
  have HSK:Hid (k + skipL (s.data.toList.drop k)=if dashes (s.data.toList.drop k1) then k1 + runL lineB (s.data.toList.drop k1) + skipL (s.data.toList.drop (k1 + runL lineB (s.data.toList.drop k1))) else k1):=Lib.hid (by
   rw [skip_eq,List.drop_drop,← hk1,List.drop_drop]
   split
   ·omega
   ·rw [hk1])
  have HR1:=Lib.hid hr1
  have HG1:=Lib.hid (grown_trans HG.out hg1)
  clear hr1 hg1 hk1
  obtain ⟨c,hc⟩:∃ c,c=topB (s.data.toList.drop k1):=⟨_,rfl⟩
  obtain ⟨d,hd⟩:∃ d,d=topB (s.data.toList.drop (k1 + 1)):=⟨_,rfl⟩
  have HDA:Hid (dashes (s.data.toList.drop k1) ↔ (c=45∧d=45)):=Lib.hid (by
   unfold dashes
   rw [List.drop_drop,← hc,← hd])
  have HP0:Hid (∀ W,RD r s k1 W→Calls Tryz.prog 111 #[.pointer (some ⟨r,0,none⟩),.int .i64 0] W fun e w'=>e = .returned (byte c)∧Below W.heap.size W w'):=Lib.hid (fun W h=>by rw [hc];exact peek0 r s k1 W h HS.out HK1.out.2)
  have HP1:Hid (∀ W,RD r s k1 W→Calls Tryz.prog 111 #[.pointer (some ⟨r,0,none⟩),.int .i64 1] W fun e w'=>e = .returned (byte d)∧Below W.heap.size W w'):=Lib.hid (fun W h=>by rw [hd];exact peek1 r s k1 W h HS.out HK1.out.2)
  clear hc hd
  by_cases h45:c=45
  ·subst h45
   by_cases h46:d=45
   ·subst h46
    have hda:=HDA.out.2 ⟨rfl,rfl⟩
    obtain ⟨q,hq⟩:∃ q,q=runL lineB (s.data.toList.drop k1):=⟨_,rfl⟩
    have HQ2:Hid (2 ≤ q):=Lib.hid (by rw [hq];exact dashes_line hda)
    have HQ:Hid (k1 + q ≤ s.size):=Lib.hid (by
     have:=runL_le lineB (s.data.toList.drop k1)
     rw [List.length_drop,bytes_list,← hq] at this
     have:=HK1.out
     omega)
    have HT:Hid (k1 + q + skipL (s.data.toList.drop (k1 + q))=k + skipL (s.data.toList.drop k)):=Lib.hid (by
     have h1:=HSK.out
     rw [if_pos hda,← hq] at h1
     have h2:=HSUM.out
     omega)
    have HW3:Hid (∀ W,RD r s k1 W→Calls Tryz.prog 109 #[.pointer (some ⟨r,0,none⟩),.func (.func 112) #[] #[]] W fun e w'=>e = .returned (str ((s.data.toList.drop k1).take q))∧RD r s (k1 + q) w'∧W.grownBy w' (some r)):=Lib.hid (fun W h=>by
     rw [hq];exact whileW lineB 112 (fun _ _=>by kernel_rfl) lineW r s k1 W h HS.out HK1.out.2)
    clear hq hda
    go_wp2_with fail
    refine (HP0.out _ HR1.out).mono ?_
    rintro e w2 ⟨rfl,hb2⟩
    have HR2:=Lib.hid (HR1.out.later hb2)
    have HG2:=Lib.hid (grown_trans HG1.out (below_grown hb2))
    clear hb2
    go_wp2_with fail
    refine (HP1.out _ HR2.out).mono ?_
    rintro e w3 ⟨rfl,hb3⟩
    have HR3:=Lib.hid (HR2.out.later hb3)
    have HG3:=Lib.hid (grown_trans HG2.out (below_grown hb3))
    clear hb3
    go_wp2_with fail
    refine (HW3.out _ HR3.out).mono ?_
    rintro e w4 ⟨rfl,hr4,hg4⟩
    have HR4:=Lib.hid hr4
    have HG4:=Lib.hid (grown_trans HG3.out hg4)
    clear hr4 hg4
    go_wp2_with fail
    go_step3
    refine ⟨rfl,_,_,_,_,_,_,_,_,_,_,_,_,k1 + q,rfl,HQ.out,HR4,HG4,HT⟩
   ·have e1:((d.toNat:Int) != 45)=true:=by
     have:d.toNat ≠ 45:=fun e=>h46 (UInt8.toNat_inj.1 e)
     first | (simp;done) | (simp;omega)
    have HT:Hid (k1=k + skipL (s.data.toList.drop k)):=Lib.hid (by
     have h1:=HSK.out
     rw [if_neg (fun e=>h46 (HDA.out.1 e).2)] at h1
     have h2:=HSUM.out;omega)
    clear h46
    go_wp2_with fail
    refine (HP0.out _ HR1.out).mono ?_
    rintro e w2 ⟨rfl,hb2⟩
    have HR2:=Lib.hid (HR1.out.later hb2)
    have HG2:=Lib.hid (grown_trans HG1.out (below_grown hb2))
    clear hb2
    go_wp2_with fail
    refine (HP1.out _ HR2.out).mono ?_
    rintro e w3 ⟨rfl,hb3⟩
    have HR3:=Lib.hid (HR2.out.later hb3)
    have HG3:=Lib.hid (grown_trans HG2.out (below_grown hb3))
    clear hb3
    go_wp2_with fail
    simp only [Exit.jump]
    refine bodyPost_ret (v:=.tuple #[]) (by simp [results,Tryz.results71,go_sem]) rfl ⟨rfl,by rw [← HT.out];exact HR3.out,HG3.out⟩
  ·have e1:((c.toNat:Int) != 45)=true:=by
    have:c.toNat ≠ 45:=fun e=>h45 (UInt8.toNat_inj.1 e)
    first | (simp;done) | (simp;omega)
   have HT:Hid (k1=k + skipL (s.data.toList.drop k)):=Lib.hid (by
    have h1:=HSK.out
    rw [if_neg (fun e=>h45 (HDA.out.1 e).1)] at h1
    have h2:=HSUM.out;omega)
   clear h45
   go_wp2_with fail
   refine (HP0.out _ HR1.out).mono ?_
   rintro e w2 ⟨rfl,hb2⟩
   have HR2:=Lib.hid (HR1.out.later hb2)
   have HG2:=Lib.hid (grown_trans HG1.out (below_grown hb2))
   clear hb2
   go_wp2_with fail
   simp only [Exit.jump]
   refine bodyPost_ret (v:=.tuple #[]) (by simp [results,Tryz.results71,go_sem]) rfl ⟨rfl,by rw [← HT.out];exact HR2.out,HG2.out⟩
 ·rintro a' w' ⟨u2,u3,u4,u5,u6,u7,u8,u9,u10,u11,u12,u13,k',rfl,hk',HR,HG,HSUM⟩
  have HK:=Lib.hid hk'
  clear hk'
  go_wp2_with fail
  refine (whileW blankB 110 (fun _ _=>by kernel_rfl) blankW r s k' w' HR.out HS.out HK.out).mono ?_
  rintro e w1 ⟨rfl,hr1,hg1⟩
  obtain ⟨k1,hk1⟩:∃ k1,k1=k' + runL blankB (s.data.toList.drop k'):=⟨_,rfl⟩
  rw [← hk1] at hr1
  have HK1:Hid (k' ≤ k1∧k1 ≤ s.size):=Lib.hid (by
   have:=runL_le blankB (s.data.toList.drop k')
   rw [List.length_drop,bytes_list] at this
   have:=HK.out
   omega)
  have HSK:Hid (k' + skipL (s.data.toList.drop k')=if dashes (s.data.toList.drop k1) then k1 + runL lineB (s.data.toList.drop k1) + skipL (s.data.toList.drop (k1 + runL lineB (s.data.toList.drop k1))) else k1):=Lib.hid (by
   rw [skip_eq,List.drop_drop,← hk1,List.drop_drop]
   split
   ·omega
   ·rw [hk1])
  have HR1:=Lib.hid hr1
  have HG1:=Lib.hid (grown_trans HG.out hg1)
  clear hr1 hg1 hk1
  obtain ⟨c,hc⟩:∃ c,c=topB (s.data.toList.drop k1):=⟨_,rfl⟩
  obtain ⟨d,hd⟩:∃ d,d=topB (s.data.toList.drop (k1 + 1)):=⟨_,rfl⟩
  have HDA:Hid (dashes (s.data.toList.drop k1) ↔ (c=45∧d=45)):=Lib.hid (by
   unfold dashes
   rw [List.drop_drop,← hc,← hd])
  have HP0:Hid (∀ W,RD r s k1 W→Calls Tryz.prog 111 #[.pointer (some ⟨r,0,none⟩),.int .i64 0] W fun e w'=>e = .returned (byte c)∧Below W.heap.size W w'):=Lib.hid (fun W h=>by rw [hc];exact peek0 r s k1 W h HS.out HK1.out.2)
  have HP1:Hid (∀ W,RD r s k1 W→Calls Tryz.prog 111 #[.pointer (some ⟨r,0,none⟩),.int .i64 1] W fun e w'=>e = .returned (byte d)∧Below W.heap.size W w'):=Lib.hid (fun W h=>by rw [hd];exact peek1 r s k1 W h HS.out HK1.out.2)
  clear hc hd
  by_cases h45:c=45
  ·subst h45
   by_cases h46:d=45
   ·subst h46
    have hda:=HDA.out.2 ⟨rfl,rfl⟩
    obtain ⟨q,hq⟩:∃ q,q=runL lineB (s.data.toList.drop k1):=⟨_,rfl⟩
    have HQ2:Hid (2 ≤ q):=Lib.hid (by rw [hq];exact dashes_line hda)
    have HQ:Hid (k1 + q ≤ s.size):=Lib.hid (by
     have:=runL_le lineB (s.data.toList.drop k1)
     rw [List.length_drop,bytes_list,← hq] at this
     have:=HK1.out
     omega)
    have HT:Hid (k1 + q + skipL (s.data.toList.drop (k1 + q))=k + skipL (s.data.toList.drop k)):=Lib.hid (by
     have h1:=HSK.out
     rw [if_pos hda,← hq] at h1
     have h2:=HSUM.out
     omega)
    have HW3:Hid (∀ W,RD r s k1 W→Calls Tryz.prog 109 #[.pointer (some ⟨r,0,none⟩),.func (.func 112) #[] #[]] W fun e w'=>e = .returned (str ((s.data.toList.drop k1).take q))∧RD r s (k1 + q) w'∧W.grownBy w' (some r)):=Lib.hid (fun W h=>by
     rw [hq];exact whileW lineB 112 (fun _ _=>by kernel_rfl) lineW r s k1 W h HS.out HK1.out.2)
    clear hq hda
    go_wp2_with fail
    refine (HP0.out _ HR1.out).mono ?_
    rintro e w2 ⟨rfl,hb2⟩
    have HR2:=Lib.hid (HR1.out.later hb2)
    have HG2:=Lib.hid (grown_trans HG1.out (below_grown hb2))
    clear hb2
    go_wp2_with fail
    refine (HP1.out _ HR2.out).mono ?_
    rintro e w3 ⟨rfl,hb3⟩
    have HR3:=Lib.hid (HR2.out.later hb3)
    have HG3:=Lib.hid (grown_trans HG2.out (below_grown hb3))
    clear hb3
    go_wp2_with fail
    refine (HW3.out _ HR3.out).mono ?_
    rintro e w4 ⟨rfl,hr4,hg4⟩
    have HR4:=Lib.hid hr4
    have HG4:=Lib.hid (grown_trans HG3.out hg4)
    clear hr4 hg4
    go_wp2_with fail
    go_step3
    refine ⟨rfl,⟨_,_,_,_,_,_,_,_,_,_,_,_,k1 + q,rfl,HQ.out,HR4,HG4,HT⟩,?_⟩
    have h2:=HQ.out
    have h3:=HQ2.out
    have h4:=HK1.out
    rw [leftR_at HR4.out,leftR_at HR.out]
    omega
   ·have e1:((d.toNat:Int) != 45)=true:=by
     have:d.toNat ≠ 45:=fun e=>h46 (UInt8.toNat_inj.1 e)
     first | (simp;done) | (simp;omega)
    have HT:Hid (k1=k + skipL (s.data.toList.drop k)):=Lib.hid (by
     have h1:=HSK.out
     rw [if_neg (fun e=>h46 (HDA.out.1 e).2)] at h1
     have h2:=HSUM.out;omega)
    clear h46
    go_wp2_with fail
    refine (HP0.out _ HR1.out).mono ?_
    rintro e w2 ⟨rfl,hb2⟩
    have HR2:=Lib.hid (HR1.out.later hb2)
    have HG2:=Lib.hid (grown_trans HG1.out (below_grown hb2))
    clear hb2
    go_wp2_with fail
    refine (HP1.out _ HR2.out).mono ?_
    rintro e w3 ⟨rfl,hb3⟩
    have HR3:=Lib.hid (HR2.out.later hb3)
    have HG3:=Lib.hid (grown_trans HG2.out (below_grown hb3))
    clear hb3
    go_wp2_with fail
    simp only [Exit.jump]
    refine bodyPost_ret (v:=.tuple #[]) (by simp [results,Tryz.results71,go_sem]) rfl ⟨rfl,by rw [← HT.out];exact HR3.out,HG3.out⟩
  ·have e1:((c.toNat:Int) != 45)=true:=by
    have:c.toNat ≠ 45:=fun e=>h45 (UInt8.toNat_inj.1 e)
    first | (simp;done) | (simp;omega)
   have HT:Hid (k1=k + skipL (s.data.toList.drop k)):=Lib.hid (by
    have h1:=HSK.out
    rw [if_neg (fun e=>h45 (HDA.out.1 e).1)] at h1
    have h2:=HSUM.out;omega)
   clear h45
   go_wp2_with fail
   refine (HP0.out _ HR1.out).mono ?_
   rintro e w2 ⟨rfl,hb2⟩
   have HR2:=Lib.hid (HR1.out.later hb2)
   have HG2:=Lib.hid (grown_trans HG1.out (below_grown hb2))
   clear hb2
   go_wp2_with fail
   simp only [Exit.jump]
   refine bodyPost_ret (v:=.tuple #[]) (by simp [results,Tryz.results71,go_sem]) rfl ⟨rfl,by rw [← HT.out];exact HR2.out,HG2.out⟩
def toksPost:TR→Ending→World→Prop
 | .inl x,e,_=>e = .returned (.tuple #[.slice none 0 0,.agg #[.int .i64 (x.1:Int),.int .i64 (x.2:Int)]])
 | .inr l,e,w=>∃ v,e = .returned (.tuple #[v,.agg #[.int .i64 0,.int .i64 0]])∧TksAt w v l
theorem filled2 (w:World) (b:Nat) (x y:Value) (h:Box b [.int .i64 0,.int .i64 0] w):∀ W,W=((w.setCell ⟨b,0,none⟩ x).setCell ⟨b,1,none⟩ y)→W.cell? ⟨b,0,none⟩=some x∧W.cell? ⟨b,1,none⟩=some y:=by
 rintro W rfl
 have s0:=set_same3 w ⟨b,0,none⟩ x _ (h 0 _ rfl).1
 have s1:=set_same3 (w.setCell ⟨b,0,none⟩ x) ⟨b,1,none⟩ y _ ((set_else3 w b 0 1 x (by decide)).trans (h 1 _ rfl).1)
 exact ⟨(set_else3 _ b 1 0 y (by decide)).trans s0,s1⟩
theorem Box.grown {k r:Nat} {cs:List Value} {w w':World} (h:Box k cs w) (g:w.grownBy w' (some r)) (hne:k ≠ r):Box k cs w':=fun i u hu=>by
 have hl:=cell_lt (h i u hu).1
 refine ⟨(cell_grown g hl (fun e=>hne (Option.some.inj e).symm) i).trans (h i u hu).1,?_⟩
 have:=(h i u hu).2
 unfold World.frozen? at this ⊢
 rw [g.block k hl (fun e=>hne (Option.some.inj e))]
 exact this
structure LS (w:World) (r:Nat) (s:ByteArray) (p:Nat) (v:Value) (O:List Tk) (W:World):Prop where
 rd:RD r s p W
 bx:Box w.heap.size [.int .i64 0,.int .i64 0] W
 own:OwnT W (r + 1) v O
 bl:Below w.heap.size w W
 sz:r + 1 ≤ W.heap.size
theorem LS.grown {w:World} {r:Nat} {s:ByteArray} {p q:Nat} {v:Value} {O:List Tk} {W W':World} (h:LS w r s p v O W) (hr:w.heap.size < r) (g:W.grownBy W' (some r)) (hd:RD r s q W'):LS w r s q v O W':=
 ⟨hd,h.bx.grown g (by omega),World.ownsRow.kept h.own g (.inr (fun e=>by have:=(World.ownsRow.lt h.own r e).1;omega)),grown_below h.bl (by omega) g h.bl.size,Nat.le_trans h.sz g.size⟩
theorem LS.later {w:World} {r:Nat} {s:ByteArray} {p:Nat} {v:Value} {O:List Tk} {W W':World} (h:LS w r s p v O W) (hb:Below W.heap.size W W'):LS w r s p v O W':=
 ⟨h.rd.later hb,h.bx.later hb,h.own.below hb,next h.bl hb,Nat.le_trans h.sz hb.size⟩
theorem LS.app {w:World} {r:Nat} {s:ByteArray} {p:Nat} {v v':Value} {O O':List Tk} {W W':World} (h:LS w r s p v O W) (hr:w.heap.size < r) (hb:Below (r + 1) W W') (hz:W.heap.size ≤ W'.heap.size) (ho:OwnT W' (r + 1) v' O'):LS w r s p v' O' W':=by
 have hc:∀ j i,j < r + 1→W'.cell? ⟨j,i,none⟩=W.cell? ⟨j,i,none⟩:=fun j i hj=>hb.cell (p:=⟨j,i,none⟩) hj
 have hf:∀ j i,j < r + 1→W'.frozen? ⟨j,i,none⟩=W.frozen? ⟨j,i,none⟩:=fun j i hj=>hb.frozen (p:=⟨j,i,none⟩) hj
 have hr1:r < r + 1:=by omega
 refine ⟨⟨(hc _ _ hr1).trans h.rd.c0,(hc _ _ hr1).trans h.rd.c1,(hf _ _ hr1).trans h.rd.f1⟩,fun i u hu=>⟨(hc _ _ (by omega)).trans (h.bx i u hu).1,(hf _ _ (by omega)).trans (h.bx i u hu).2⟩,ho,?_,Nat.le_trans h.sz hz⟩
 exact ⟨hb.os.trans h.bl.os,hb.tape.trans h.bl.tape,hb.output.trans h.bl.output,Nat.le_trans h.bl.size hz,fun k hk=>(hb.block k (by omega)).trans (h.bl.block k hk)⟩
def cT (O:List Tk):TR→TR
 | .inl e=>.inl e
 | .inr t=>.inr (O ++ t)
theorem cT_step (O:List Tk) {b k n m:Nat} {l s:List UInt8} (ho:oneL l = .tok k s n m) (hw:¬ (k ≠ 6∧wordB (topB (l.drop m))=true)):cT O (stepT b l tk)=cT (O ++ [⟨k,⟨s.toArray⟩,n,(b:Int)⟩]) (tk (b + m) (l.drop m)):=by
 unfold stepT
 rw [ho]
 simp only
 rw [if_neg hw]
 cases tk (b + m) (l.drop m) with
 | inl e=>rfl
 | inr t=>simp [cT]
theorem cT_word (O:List Tk) {b k n m:Nat} {l s:List UInt8} (ho:oneL l = .tok k s n m) (hw:k ≠ 6∧wordB (topB (l.drop m))=true):cT O (stepT b l tk) = .inl (6,b + m):=by
 unfold stepT
 rw [ho]
 simp only
 rw [if_pos hw]
 rfl
theorem cT_bad (O:List Tk) {b e m:Nat} {l:List UInt8} (ho:oneL l = .bad e m):cT O (stepT b l tk) = .inl (e,b + m):=by
 unfold stepT
 rw [ho]
 rfl
set_option maxRecDepth 100000 in
set_option maxHeartbeats 32000000 in
theorem tokensLexB (s:ByteArray) (w:World) (hw:LX w) (hs:s.size ≤ 140737488351232) :
 Calls Tryz.prog 27 #[.string s] w fun e w'=>toksPost (toksL s.data.toList) e w'∧Below w.heap.size w w':=by
 have HX:=Lib.hid hw
 have HS:=Lib.hid hs
 have hb1:Box w.heap.size [.int .i64 0,.int .i64 0] (w.alloc (.cells #[.int .i64 0,.int .i64 0] 39)):=by
  intro i u hu
  rcases i with _ | _ | i <;> simp at hu <;> subst hu <;> exact ⟨by go_simp,by go_simp⟩
 have hl1:Below w.heap.size w (w.alloc (.cells #[.int .i64 0,.int .i64 0] 39)):=(Below.refl _ _).alloc (Nat.le_refl _) _
 by_cases hlong:4096 < s.size
 ·have HT:Hid (toksL s.data.toList = .inl (3,4096)):=Lib.hid (by rw [toksL_eq,if_pos (by rw [bytes_list];exact hlong)])
  have i1:(4096:Int) < (s.size:Int):=by omega
  have HB:=Lib.hid hb1
  have HL:=Lib.hid hl1
  clear hw hs hb1 hl1 hlong
  go_enter Tryz.func27,Tryz.ntmps27
  go_upto_region 1 with fail
  generalize (w.alloc (.cells #[.int .i64 0,.int .i64 0] 39))=w1 at *
  have c0:=(HB.out 0 _ rfl).1
  have c1:=(HB.out 1 _ rfl).1
  have f0:=(HB.out 0 _ rfl).2
  have f1:=(HB.out 1 _ rfl).2
  go_wp2_with fail
  obtain ⟨q0,q1⟩:=filled2 w1 w.heap.size (.int .i64 3) (.int .i64 4096) HB.out _ rfl
  refine bodyPost_ret (v:=.tuple #[.slice none 0 0,.agg #[.int .i64 3,.int .i64 4096]]) (by simp [results,Tryz.results27,go_sem,q0,q1]) rfl ⟨?_,?_⟩
  ·rw [HT.out];rfl
  ·exact below_set (below_set HL.out (Nat.le_refl _)) (Nat.le_refl _)
 ·replace HS:Hid (s.size ≤ 1000000):=Lib.hid (by omega)
  have HT:Hid (toksL s.data.toList=tk 0 s.data.toList):=Lib.hid (by rw [toksL_eq,if_neg (by rw [bytes_list];exact hlong)])
  have i1:¬ (4096:Int) < (s.size:Int):=by omega
  have hr0:RD (w.heap.size + 1) s 0 ((w.alloc (.cells #[.int .i64 0,.int .i64 0] 39)).alloc (.cells #[.string s,.int .i64 0] 125)):=by constructor <;> (simp;try go_simp)
  have HL0:Hid (LS w (w.heap.size + 1) s 0 (.slice none 0 0) [] ((w.alloc (.cells #[.int .i64 0,.int .i64 0] 39)).alloc (.cells #[.string s,.int .i64 0] 125))):=Lib.hid ⟨hr0,hb1.later ((Below.refl _ _).alloc (Nat.le_refl _) _),OwnT.nil _ _,next hl1 ((Below.refl _ _).alloc (Nat.le_refl _) _),by simp⟩
  clear hw hs hb1 hl1 hlong hr0
  rw [HT.out]
  clear HT
  obtain ⟨R,hR⟩:∃ R,R=tk 0 s.data.toList:=⟨_,rfl⟩
  have HR:=Lib.hid hR
  rw [← hR]
  clear hR
  go_enter Tryz.func27,Tryz.ntmps27
  go_upto_region 4 with fail
  generalize ((w.alloc (.cells #[.int .i64 0,.int .i64 0] 39)).alloc (.cells #[.string s,.int .i64 0] 125))=w2 at *
  obtain ⟨r,hr⟩:∃ r,r=w.heap.size + 1:=⟨_,rfl⟩
  rw [← hr] at HL0 ⊢
  have HRW:Hid (w.heap.size < r):=Lib.hid (by omega)
  clear hr
  have HE:Hid (∀ W,Below w.heap.size w W→Env w r W):=Lib.hid (fun W h=>⟨HX.out,h,Nat.le_of_lt HRW.out⟩)
  go_wp2_with fail
  refine (skipW r s 0 w2 HL0.out.rd HS.out (Nat.zero_le _)).mono ?_
  rintro e w3 ⟨rfl,hr3,hg3⟩
  have HL3:=Lib.hid (HL0.out.grown HRW.out hg3 hr3)
  clear hr3 hg3
  go_wp2_with fail
  go_loopg [5] (s.size + 1 - (0 + skipL (s.data.toList.drop 0))) (fun gk ov wr=>∃ (p:Nat) (O:List Tk),gk=s.size + 1 - p∧p ≤ s.size∧Hid (LS w r s p ov O wr)∧Hid (R=cT O (tk p (s.data.toList.drop p)))∧Hid (skipL (s.data.toList.drop p)=0)∧Hid (O.length ≤ p))
  case atStart=>
   refine ⟨0 + skipL (s.data.toList.drop 0),[],rfl,?_,HL3,Lib.hid ?_,Lib.hid ?_,Lib.hid (Nat.zero_le _)⟩
   ·have:=skip_le _ (s.data.toList.drop 0) (Nat.le_refl _)
    rw [List.length_drop,bytes_list] at this
    omega
   ·rw [HR.out,tk_skip,List.drop_zero,Nat.zero_add]
    cases tk (skipL s.data.toList) (s.data.toList.drop (skipL s.data.toList)) <;> rfl
   ·rw [List.drop_zero,Nat.zero_add];exact skip_idem _
  case round=>
   obtain ⟨p,O,rfl,hp,HL,HT,HSK,HOL⟩:=hrel
   have HP:=Lib.hid hp
   obtain ⟨ao,co,rfl⟩:=HL.out.own.shape
   obtain ⟨d0,d1,g1⟩:=HL.out.rd
   by_cases hlt:p < s.size
   ·have j1:(p:Int) < (s.size:Int):=by omega
    have hne:s.data.toList.drop p ≠ []:=by
     intro e
     have:=congrArg List.length e
     rw [List.length_drop,bytes_list] at this
     simp at this;omega
    have HNE:=Lib.hid hne
    have HST:Hid (R=cT O (stepT p (s.data.toList.drop p) tk)):=Lib.hid (by rw [HT.out,tk_step hne HSK.out])
    have HLT:=Lib.hid hlt
    clear hp hlt hne
    have HTK:=fun W (hW:LS w r s p (.slice ao O.length co) O W)=>tokenW w r s p W (HE.out _ hW.bl) hW.rd HS.out HLT.out
    cases ho:oneL (s.data.toList.drop p) with
    | bad er m=>
     rw [ho] at HTK
     have HTK:Hid (∀ W,LS w r s p (.slice ao O.length co) O W→Calls Tryz.prog 72 #[.pointer (some ⟨r,0,none⟩)] W fun e w'=>e = .returned (.tuple #[.agg #[.int .u8 0,.string ⟨#[]⟩,.int .u64 0,.int .i64 0],.int .i64 (er:Int)])∧RD r s (p + m) w'∧W.grownBy w' (some r)):=Lib.hid HTK
     have HRS:Hid (R = .inl (er,p + m)):=Lib.hid (by rw [HST.out,cT_bad O ho])
     have her:=(one_bad HNE.out ho).2
     have e1:((er:Int) == 0)=false:=by first | (simp;done) | (simp;omega)
     have e2:((er:Int) != 0)=true:=by first | (simp;done) | (simp;omega)
     clear ho her
     go_wp2_with fail
     refine (HTK.out _ HL.out).mono ?_
     rintro e w4 ⟨rfl,hr4,hg4⟩
     have HL4:=Lib.hid (HL.out.grown HRW.out hg4 hr4)
     have HL5:=Lib.hid (HL4.out.later ((Below.refl _ w4).alloc (Nat.le_refl _) (.cells #[.int .u8 0,.string ⟨#[]⟩,.int .u64 0,.int .i64 0] 128)))
     clear hr4 hg4 d0 d1 g1 HL
     go_upto_region 10 with fail
     generalize w4.alloc (.cells #[.int .u8 0,.string ⟨#[]⟩,.int .u64 0,.int .i64 0] 128)=w5 at *
     go_upto_region 13 with fail
     obtain ⟨d0,d1,g1⟩:=HL5.out.rd
     have l1:=lat_cell d1
     refine wp_region_later_tail 7 (by kernel_rfl) (by kernel_rfl) ?_
     simp only [List.take_succ_cons,List.take_zero,List.drop_succ_cons,List.drop_zero]
     repeat (go_big_quiet_step (fail))
     refine wpQuiet_nil ?_
     refine later_out (fun w7 hb7=>?_)
     have HL7:=Lib.hid (HL5.out.later hb7)
     clear l1 d0 d1 g1 hb7
     have c0:=(HL7.out.bx 0 _ rfl).1
     have c1:=(HL7.out.bx 1 _ rfl).1
     have f0:=(HL7.out.bx 0 _ rfl).2
     have f1:=(HL7.out.bx 1 _ rfl).2
     go_wp2_with fail
     obtain ⟨q0,q1⟩:=filled2 w7 w.heap.size (.int .i64 (er:Int)) (.int .i64 ((p:Int) + (m:Int))) HL7.out.bx _ rfl
     refine bodyPost_ret (v:=.tuple #[.slice none 0 0,.agg #[.int .i64 (er:Int),.int .i64 ((p:Int) + (m:Int))]]) (by simp [results,Tryz.results27,go_sem,q0,q1]) rfl ⟨?_,?_⟩
     ·rw [HRS.out];first | rfl | (show _=Ending.returned (.tuple #[.slice none 0 0,.agg #[.int .i64 _,.int .i64 ((p + m:Nat):Int)]]);push_cast;rfl)
     ·exact below_set (below_set HL7.out.bl (Nat.le_refl _)) (Nat.le_refl _)
    | tok k st n m=>
     rw [ho] at HTK
     have HTK:Hid (∀ W,LS w r s p (.slice ao O.length co) O W→Calls Tryz.prog 72 #[.pointer (some ⟨r,0,none⟩)] W fun e w'=>e = .returned (.tuple #[.agg #[.int .u8 (k:Int),.string ⟨st.toArray⟩,.int .u64 (n:Int),.int .i64 0],.int .i64 0])∧RD r s (p + m) w'∧W.grownBy w' (some r)):=Lib.hid HTK
     have hlen:=one_len HNE.out ho
     rw [List.length_drop,bytes_list] at hlen
     have HLEN:=Lib.hid hlen
     obtain ⟨B,hB⟩:∃ B,B=decide (k ≠ 6∧wordB (topB (s.data.toList.drop (p + m)))=true):=⟨_,rfl⟩
     have HBB:=Lib.hid hB
     have HRW1:Hid (B=true→R = .inl (6,p + m)):=Lib.hid (fun h=>by
      rw [hB] at h
      have h1:=of_decide_eq_true h
      rw [HST.out,cT_word O ho (by rw [List.drop_drop];exact h1)])
     have HRW2:Hid (B=false→R=cT (O ++ [⟨k,⟨st.toArray⟩,n,(p:Int)⟩]) (tk (p + m) (s.data.toList.drop (p + m)))):=Lib.hid (fun h=>by
      rw [hB] at h
      have h1:=of_decide_eq_false h
      rw [HST.out,cT_step O ho (by rw [List.drop_drop];exact h1),List.drop_drop])
     clear ho hlen hB
     go_wp2_with fail
     refine (HTK.out _ HL.out).mono ?_
     rintro e w4 ⟨rfl,hr4,hg4⟩
     have HL4:=Lib.hid (HL.out.grown HRW.out hg4 hr4)
     have HL5:=Lib.hid (HL4.out.later ((Below.refl _ w4).alloc (Nat.le_refl _) (.cells #[.int .u8 (k:Int),.string ⟨st.toArray⟩,.int .u64 (n:Int),.int .i64 0] 128)))
     have HL6:=Lib.hid (HL4.out.later (below_set (i:=3) (u:=.int .i64 (p:Int)) ((Below.refl _ w4).alloc (Nat.le_refl _) (.cells #[.int .u8 (k:Int),.string ⟨st.toArray⟩,.int .u64 (n:Int),.int .i64 0] 128)) (Nat.le_refl _)))
     clear hr4 hg4 d0 d1 g1 HL
     go_upto_region 10 with fail
     have b0:(w4.alloc (.cells #[.int .u8 (k:Int),.string ⟨st.toArray⟩,.int .u64 (n:Int),.int .i64 0] 128)).cell? ⟨w4.heap.size,0,none⟩=some (.int .u8 (k:Int)):=by go_simp
     have b1:(w4.alloc (.cells #[.int .u8 (k:Int),.string ⟨st.toArray⟩,.int .u64 (n:Int),.int .i64 0] 128)).cell? ⟨w4.heap.size,1,none⟩=some (.string ⟨st.toArray⟩):=by go_simp
     have b2:(w4.alloc (.cells #[.int .u8 (k:Int),.string ⟨st.toArray⟩,.int .u64 (n:Int),.int .i64 0] 128)).cell? ⟨w4.heap.size,2,none⟩=some (.int .u64 (n:Int)):=by go_simp
     have b3:(w4.alloc (.cells #[.int .u8 (k:Int),.string ⟨st.toArray⟩,.int .u64 (n:Int),.int .i64 0] 128)).cell? ⟨w4.heap.size,3,none⟩=some (.int .i64 0):=by go_simp
     have g3:(w4.alloc (.cells #[.int .u8 (k:Int),.string ⟨st.toArray⟩,.int .u64 (n:Int),.int .i64 0] 128)).frozen? ⟨w4.heap.size,3,none⟩=false:=by go_simp
     generalize w4.alloc (.cells #[.int .u8 (k:Int),.string ⟨st.toArray⟩,.int .u64 (n:Int),.int .i64 0] 128)=w5 at *
     generalize w4.heap.size=b at *
     have HB0:=Lib.hid b0
     have HB1:=Lib.hid b1
     have HB2:=Lib.hid b2
     have HB3:=Lib.hid b3
     have HG3:=Lib.hid g3
     clear b1 b2 b3 g3 HL4
     obtain ⟨d0,d1,g1⟩:=HL5.out.rd
     go_cut [60] (fun v wx=>v = .bool B∧w5=wx)
     case first=>
      by_cases hk6:k=6
      ·obtain rfl:B=false:=by rw [HBB.out];exact decide_eq_false (fun e=>e.1 hk6)
       have e1:((k:Int) != 6)=false:=by first | (simp;done) | (simp;omega)
       clear hk6
       go_wp2_with fail
       go_meet
       exact ⟨rfl,rfl⟩
      ·have e1:((k:Int) != 6)=true:=by first | (simp;done) | (simp;omega)
       by_cases hend:p + m < s.size
       ·have i2:(0:Int) ≤ (p:Int) + (m:Int):=by omega
        have i3:(p:Int) + (m:Int) < (s.size:Int):=by omega
        have hw:=inWordW s[p + m]
        have hbb:=HBB.out
        rw [bytes_get s (p + m) hend] at hbb
        have hwb:wordB s[p + m]=B:=by rw [hbb];simp [hk6]
        rw [hwb] at hw
        have HW:=Lib.hid hw
        clear hw hbb hwb hk6
        go_wp2_with fail
        refine (HW.out _).mono ?_
        rintro e w6 ⟨rfl,rfl⟩
        go_wp2_with fail
        go_meet
        exact ⟨rfl,rfl⟩
       ·obtain rfl:B=false:=by rw [HBB.out,bytes_end s (p + m) (by omega)];simp [show wordB 0=false by decide]
        have i3:¬ (p:Int) + (m:Int) < (s.size:Int):=by omega
        clear hk6 hend
        go_wp2_with fail
        go_meet
        exact ⟨rfl,rfl⟩
     case rest=>
      obtain ⟨rfl,rfl⟩:=hcut
      clear d0 d1 g1 b0
      cases B with
      | true=>
       have HRS:=Lib.hid (HRW1.out rfl)
       go_upto_region 13 with fail
       obtain ⟨d0,d1,g1⟩:=HL5.out.rd
       have l1:=lat_cell d1
       refine wp_region_later_tail 7 (by kernel_rfl) (by kernel_rfl) ?_
       simp only [List.take_succ_cons,List.take_zero,List.drop_succ_cons,List.drop_zero]
       repeat (go_big_quiet_step (fail))
       refine wpQuiet_nil ?_
       refine later_out (fun w7 hb7=>?_)
       have HL7:=Lib.hid (HL5.out.later hb7)
       clear l1 d0 d1 g1 hb7
       have c0:=(HL7.out.bx 0 _ rfl).1
       have c1:=(HL7.out.bx 1 _ rfl).1
       have f0:=(HL7.out.bx 0 _ rfl).2
       have f1:=(HL7.out.bx 1 _ rfl).2
       go_wp2_with fail
       obtain ⟨q0,q1⟩:=filled2 w7 w.heap.size (.int .i64 6) (.int .i64 ((p:Int) + (m:Int))) HL7.out.bx _ rfl
       refine bodyPost_ret (v:=.tuple #[.slice none 0 0,.agg #[.int .i64 6,.int .i64 ((p:Int) + (m:Int))]]) (by simp [results,Tryz.results27,go_sem,q0,q1]) rfl ⟨?_,?_⟩
       ·rw [HRS.out];first | rfl | (show _=Ending.returned (.tuple #[.slice none 0 0,.agg #[.int .i64 _,.int .i64 ((p + m:Nat):Int)]]);push_cast;rfl)
       ·exact below_set (below_set HL7.out.bl (Nat.le_refl _)) (Nat.le_refl _)
      | false=>
       have HRS:=Lib.hid (HRW2.out rfl)
       have g3:=HG3.out
       have b3:=HB3.out
       go_upto_region 15 with fail
       have y0:(w5.setCell ⟨b,3,none⟩ (.int .i64 (p:Int))).cell? ⟨b,0,none⟩=some (.int .u8 (k:Int)):=(set_else3 _ b 3 0 _ (by decide)).trans HB0.out
       have y1:(w5.setCell ⟨b,3,none⟩ (.int .i64 (p:Int))).cell? ⟨b,1,none⟩=some (.string ⟨st.toArray⟩):=(set_else3 _ b 3 1 _ (by decide)).trans HB1.out
       have y2:(w5.setCell ⟨b,3,none⟩ (.int .i64 (p:Int))).cell? ⟨b,2,none⟩=some (.int .u64 (n:Int)):=(set_else3 _ b 3 2 _ (by decide)).trans HB2.out
       have y3:(w5.setCell ⟨b,3,none⟩ (.int .i64 (p:Int))).cell? ⟨b,3,none⟩=some (.int .i64 (p:Int)):=set_same3 w5 ⟨b,3,none⟩ _ _ HB3.out
       clear g3 b3
       generalize w5.setCell ⟨b,3,none⟩ (.int .i64 (p:Int))=w6 at *
       have hsrc:=reads_T w6 (r + 1) ⟨k,⟨st.toArray⟩,n,(p:Int)⟩ HL6.out.sz _ rfl
       have HSRC:=Lib.hid hsrc
       clear hsrc
       go_wp2_with (at_builtin;refine wpList_append_reads rfl (.tmp 71) (.tmp 73) 72 rfl (r + 1) 128 4 40 elT _ O.length (tCells O) rfl (World.ownsRow.alloc HL6.out.own _) _ 1 _ rfl HSRC.out (by simp [Value.oneCell']) (by have:=HOL.out;have:=HP.out;have:=HS.out;unfold maxLen;omega) (by have:=HOL.out;have:=HP.out;have:=HS.out;omega) (by have:=HL6.out.sz;simp;omega) ?_;intro v' w7 hown7 hgrow7 hbel7;have HL7:=Lib.hid (HL6.out.app (W':=w7) HRW.out (((Below.refl _ w6).alloc HL6.out.sz (.cells #[.int .u8 (k:Int),.string ⟨st.toArray⟩,.int .u64 (n:Int),.int .i64 (p:Int)] 128)).trans hbel7) (by have:=hbel7.size;simp at this;omega) (OwnT.snoc (x:=⟨k,⟨st.toArray⟩,n,(p:Int)⟩) hown7));clear hown7 hgrow7 hbel7)
       refine (skipW r s (p + m) w7 HL7.out.rd HS.out (by have:=HLEN.out;omega)).mono ?_
       rintro e w8 ⟨rfl,hr8,hg8⟩
       have HL8:=Lib.hid (HL7.out.grown HRW.out hg8 hr8)
       clear hr8 hg8 y0 y1 y2 y3
       have HSL:Hid (skipL (s.data.toList.drop (p + m)) ≤ s.size - (p + m)):=Lib.hid (by
        have:=skip_le _ (s.data.toList.drop (p + m)) (Nat.le_refl _)
        rwa [List.length_drop,bytes_list] at this)
       go_wp2_with fail
       go_roundg (s.size + 1 - (p + m + skipL (s.data.toList.drop (p + m))))
       case measure=>have h1:=HLEN.out;have h2:=HLT.out;omega
       case rel=>
        refine ⟨p + m + skipL (s.data.toList.drop (p + m)),_,rfl,?_,HL8,Lib.hid ?_,Lib.hid ?_,Lib.hid ?_⟩
        ·have h1:=HSL.out;have h2:=HLEN.out;have h3:=HLT.out;omega
        ·rw [HRS.out,tk_skip,List.drop_drop]
        ·rw [← List.drop_drop];exact skip_idem _
        ·have h1:=HOL.out;have h2:=HLEN.out;simp;omega
   ·obtain rfl:p=s.size:=by omega
    have HRS:Hid (R = .inr O):=Lib.hid (by
     rw [HT.out,drop_end s (Nat.le_refl _),tk_nil]
     show Sum.inr (O ++ [])=_
     rw [List.append_nil])
    have c0:=(HL.out.bx 0 _ rfl).1
    have c1:=(HL.out.bx 1 _ rfl).1
    have f0:=(HL.out.bx 0 _ rfl).2
    have f1:=(HL.out.bx 1 _ rfl).2
    clear hlt hp
    go_wp2_with fail
    obtain ⟨q0,q1⟩:=filled2 wr w.heap.size (.int .i64 0) (.int .i64 0) HL.out.bx _ rfl
    refine bodyPost_ret (v:=.tuple #[.slice ao O.length co,.agg #[.int .i64 0,.int .i64 0]]) (by simp [results,Tryz.results27,go_sem,q0,q1]) rfl ⟨?_,?_⟩
    ·rw [HRS.out]
     exact ⟨_,rfl,OwnT.at_ (ownsRow_setCell_below (ownsRow_setCell_below HL.out.own (by show w.heap.size < r + 1;have:=HRW.out;omega) _) (by show w.heap.size < r + 1;have:=HRW.out;omega) _)⟩
    ·exact below_set (below_set HL.out.bl (Nat.le_refl _)) (Nat.le_refl _)
theorem tokensLexW (s:ByteArray) (w:World) (hw:LX w) (hs:s.size ≤ 1000000000) :
 Calls Tryz.prog 27 #[.string s] w fun e w'=>toksPost (toksL s.data.toList) e w'∧Below w.heap.size w w':=tokensLexB s w hw (Nat.le_trans hs (by decide))
end Go.Proofs.YtmdogmpcmkfjpaaGreatDoor.Dt
