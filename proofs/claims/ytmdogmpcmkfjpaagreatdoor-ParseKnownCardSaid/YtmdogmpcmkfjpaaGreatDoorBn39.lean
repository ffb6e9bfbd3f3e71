import Derived.Deep.DeepCutAuto
import Derived.Test.YtmdogmpcmkfjpaaGreatDoorBn17
import Derived.Test.YtmdogmpcmkfjpaaGreatDoorBn34
/- Part of the proof (merged). -/
namespace Go.Proofs.YtmdogmpcmkfjpaaGreatDoor.Dt
open Go.RowKit Go.Proofs.YtmdogmpcmkfjpaaGreatDoor.By
theorem wr_long {x:PE} {a:List UInt8} (h:32768 < a.length):wrE x a=a:=by cases x;unfold wrE;rw [if_pos h]
theorem wr_val {x:PE} {a:List UInt8} (h:¬ 32768 < a.length) (h1:x.op=1) (hk:x.kids = []):wrE x a=putsL [valT x.v] a:=by
 obtain ⟨op,v,t,m,n,kids⟩:=x
 simp only [PE.op,PE.kids,PE.v] at *
 subst h1 hk
 unfold wrE;rw [if_neg h];rfl
theorem wr_col {x:PE} {a:List UInt8} (h:¬ 32768 < a.length) (h1:x.op=2) (hk:x.kids = []):wrE x a=putsL [W1 x.m] (if x.t=⟨#[]⟩ then a else putsL [W1 x.t,W1 BDOT] a):=by
 obtain ⟨op,v,t,m,n,kids⟩:=x
 simp only [PE.op,PE.kids,PE.m,PE.t] at *
 subst h1 hk
 unfold wrE;rw [if_neg h];rfl
theorem wr_count {x:PE} {a:List UInt8} (h:¬ 32768 < a.length) (h1:x.op=20) (hk:x.kids = []):wrE x a=putsL [W1 WCOUNT,W1 BOPEN,W1 BSTAR,W1 BCLOSE] a:=by
 obtain ⟨op,v,t,m,n,kids⟩:=x
 simp only [PE.op,PE.kids] at *
 subst h1 hk
 unfold wrE;rw [if_neg h];rfl
theorem wr_neg {x y:PE} {a:List UInt8} (h:¬ 32768 < a.length) (h1:x.op=3) (hk:x.kids = [y]):wrE x a=kidT (wrE y) y.op (decide (y.op ≠ 1)) (putsL [W1 BMINUS] a):=by
 obtain ⟨op,v,t,m,n,kids⟩:=x
 simp only [PE.op,PE.kids] at h1 hk
 subst h1 hk
 rw [wrE,if_neg h];rfl
theorem wr_not {x y:PE} {a:List UInt8} (h:¬ 32768 < a.length) (h1:x.op=4) (hk:x.kids = [y]):wrE x a=kidT (wrE y) y.op true (putsL [W1 WNOT] a):=by
 obtain ⟨op,v,t,m,n,kids⟩:=x
 simp only [PE.op,PE.kids] at h1 hk
 subst h1 hk
 rw [wrE,if_neg h];rfl
theorem wr_null {x y:PE} {a:List UInt8} (h:¬ 32768 < a.length) (h1:x.op=5) (hk:x.kids = [y]):wrE x a=putsL [W1 WIS,W1 WNULL] (kidT (wrE y) y.op true a):=by
 obtain ⟨op,v,t,m,n,kids⟩:=x
 simp only [PE.op,PE.kids] at h1 hk
 subst h1 hk
 rw [wrE,if_neg h];rfl
theorem wr_two {x y z:PE} {a:List UInt8} (h:¬ 32768 < a.length) (h1:6 ≤ x.op∧x.op ≤ 19) (hk:x.kids = [y,z]):wrE x a=kidT (wrE z) z.op true (putsL [(sgnT[x.op - 6]?).getD []] (kidT (wrE y) y.op true a)):=by
 obtain ⟨op,v,t,m,n,kids⟩:=x
 simp only [PE.op,PE.kids] at h1 hk ⊢
 subst hk
 rw [wrE,if_neg h,if_pos h1];rfl
theorem wr_grp {x y:PE} {a:List UInt8} (h:¬ 32768 < a.length) (h1:20 ≤ x.op∧x.op ≤ 23) (hk:x.kids = [y]):wrE x a=kidT (wrE y) y.op false (putsL [(grpT[x.op - 20]?).getD []] a):=by
 obtain ⟨op,v,t,m,n,kids⟩:=x
 simp only [PE.op,PE.kids] at h1 hk ⊢
 subst hk
 rw [wrE,if_neg h]
 rw [if_neg (by omega),if_neg (by omega),if_neg (by omega),if_pos h1];rfl
theorem wr_none {x:PE} {a:List UInt8} (h:¬ 32768 < a.length) (h1:¬ (x.op=1∧x.kids.length=0)) (h2:¬ (x.op=2∧x.kids.length=0)) (h3:¬ (x.op=3∧x.kids.length=1)) (h4:¬ (x.op=4∧x.kids.length=1)) (h5:¬ (x.op=5∧x.kids.length=1))
 (h6:¬ ((6 ≤ x.op∧x.op ≤ 19)∧x.kids.length=2)) (h7:¬ (x.op=20∧x.kids.length=0)) (h8:¬ ((20 ≤ x.op∧x.op ≤ 23)∧x.kids.length=1)):wrE x a=putsL [[63]] a:=by
 obtain ⟨op,v,t,m,n,kids⟩:=x
 simp only [PE.op,PE.kids] at *
 match kids with
 | []=>
  simp only [List.length_nil,and_true] at *
  unfold wrE;rw [if_neg h];simp only
  rw [if_neg h1,if_neg h2,if_neg h7]
 | [y]=>
  simp only [List.length_singleton,and_true] at *
  rw [wrE,if_neg h]
  rw [if_neg h3,if_neg h4,if_neg h5,if_neg h8]
 | [y,z]=>
  simp only [List.length_cons,List.length_nil,and_true] at *
  rw [wrE,if_neg h,if_neg (by simpa using h6)]
 | _ :: _ :: _ :: _=>rw [wrE,if_neg h] <;> simp
theorem len_two {α:Type} {l:List α} (h:l.length=2):∃ a b,l = [a,b]:=by
 match l,h with
 | [a,b],_=>exact ⟨a,b,rfl⟩
theorem kidT_len {w:List UInt8→List UInt8} (hw:∀ a,a.length ≤ (w a).length) (op:Nat) (b:Bool) (a:List UInt8):a.length ≤ (kidT w op b a).length:=by
 unfold kidT
 split
 ·exact hw a
 ·exact Nat.le_trans (Nat.le_trans (putsL_len _ _) (hw _)) (putsL_len _ _)
theorem wrE_len:∀ (n:Nat) (x:PE),SizeOf.sizeOf x ≤ n→∀ a:List UInt8,a.length ≤ (wrE x a).length
 | 0,x,h,a=>by cases x;simp at h
 | n + 1,x,hn,a=>by
  by_cases h:32768 < a.length
  ·rw [wr_long h];exact Nat.le_refl _
  have kid:∀ y,y ∈ x.kids→∀ a:List UInt8,a.length ≤ (wrE y a).length:=fun y hy a=>wrE_len n y (by
   cases x
   have:=List.sizeOf_lt_of_mem hy
   simp only [PE.kids] at this
   simp only [PE.mk.sizeOf_spec] at hn
   omega) a
  by_cases h1:x.op=1∧x.kids.length=0
  ·rw [wr_val h h1.1 (List.eq_nil_of_length_eq_zero h1.2)];exact putsL_len _ _
  by_cases h2:x.op=2∧x.kids.length=0
  ·rw [wr_col h h2.1 (List.eq_nil_of_length_eq_zero h2.2)]
   refine Nat.le_trans ?_ (putsL_len _ _)
   split
   ·exact Nat.le_refl _
   ·exact putsL_len _ _
  by_cases h3:x.op=3∧x.kids.length=1
  ·obtain ⟨y,hy⟩:=List.length_eq_one_iff.1 h3.2
   rw [wr_neg h h3.1 hy]
   exact Nat.le_trans (putsL_len _ _) (kidT_len (kid y (by rw [hy];simp)) _ _ _)
  by_cases h4:x.op=4∧x.kids.length=1
  ·obtain ⟨y,hy⟩:=List.length_eq_one_iff.1 h4.2
   rw [wr_not h h4.1 hy]
   exact Nat.le_trans (putsL_len _ _) (kidT_len (kid y (by rw [hy];simp)) _ _ _)
  by_cases h5:x.op=5∧x.kids.length=1
  ·obtain ⟨y,hy⟩:=List.length_eq_one_iff.1 h5.2
   rw [wr_null h h5.1 hy]
   exact Nat.le_trans (kidT_len (kid y (by rw [hy];simp)) _ _ _) (putsL_len _ _)
  by_cases h6:(6 ≤ x.op∧x.op ≤ 19)∧x.kids.length=2
  ·obtain ⟨y,z,hy⟩:∃ y z,x.kids = [y,z]:=len_two h6.2
   rw [wr_two h h6.1 hy]
   exact Nat.le_trans (kidT_len (kid y (by rw [hy];simp)) _ _ _) (Nat.le_trans (putsL_len _ _) (kidT_len (kid z (by rw [hy];simp)) _ _ _))
  by_cases h7:x.op=20∧x.kids.length=0
  ·rw [wr_count h h7.1 (List.eq_nil_of_length_eq_zero h7.2)];exact putsL_len _ _
  by_cases h8:(20 ≤ x.op∧x.op ≤ 23)∧x.kids.length=1
  ·obtain ⟨y,hy⟩:=List.length_eq_one_iff.1 h8.2
   rw [wr_grp h h8.1 hy]
   exact Nat.le_trans (putsL_len _ _) (kidT_len (kid y (by rw [hy];simp)) _ _ _)
  rw [wr_none h h1 h2 h3 h4 h5 h6 h7 h8]
  exact putsL_len _ _
theorem wrE_le (x:PE) (a:List UInt8):a.length ≤ (wrE x a).length:=wrE_len _ x (Nat.le_refl _) a
def EXW (w1:World) (b:Nat) (x:PE):Prop:=∀ (l:List UInt8) (w:World) (kv:Value),WS w1 b l w→ExsR w1 kv x.kids→(wrE x l).length ≤ 140737488355328→Calls Tryz.prog 34 #[.pointer (some ⟨b,0,none⟩),x.val kv] w (WPost w1 b (wrE x l) w)
theorem ex_ok (x:PE) (ka:Option Addr) (n kc:Nat):okRow 8 #[.int .u8 (x.op:Int),.int .u8 (x.v.k:Int),.int .i64 x.v.n,.string x.v.s,.string x.t,.string x.m,.int .i64 x.n,.slice ka n kc]=true:=by rw [okRow8];rfl
section
attribute [local go_sem ↓] veilSt_ex veilLd_ex
attribute [local go_sem] run_exSt run_exNew run_exLd
set_option maxRecDepth 100000 in
set_option maxHeartbeats 8000000 in
theorem kidW (w1:World) (b:Nat) (x:PE) (hE:EXW w1 b x) (B:Bool) (l:List UInt8) (w:World) (kv:Value) (h:WS w1 b l w) (hk:ExsR w1 kv x.kids) (hlen:(kidT (wrE x) x.op B l).length ≤ 140737488355328) :
 Calls Tryz.prog 91 #[.pointer (some ⟨b,0,none⟩),x.val kv,.bool B] w (WPost w1 b (kidT (wrE x) x.op B l) w):=by
 obtain ⟨ka,kc,rfl,_⟩:=hk.shape
 have HE:=Lib.hid hE
 have HK:=Lib.hid hk
 have HLN:=Lib.hid hlen
 have HW0:=Lib.hid h
 unfold PE.val
 have hok:=ex_ok x ka x.kids.length kc
 have HX:=Lib.hid (h.box 48 #[.int .u8 (x.op:Int),.int .u8 (x.v.k:Int),.int .i64 x.v.n,.string x.v.s,.string x.t,.string x.m,.int .i64 x.n,.slice ka x.kids.length kc])
 have HW:=Lib.hid (h.alloc (.cells #[.int .u8 (x.op:Int),.int .u8 (x.v.k:Int),.int .i64 x.v.n,.string x.v.s,.string x.t,.string x.m,.int .i64 x.n,.slice ka x.kids.length kc] 48))
 have HK0:=Lib.hid (h.keepAlloc (.cells #[.int .u8 (x.op:Int),.int .u8 (x.v.k:Int),.int .i64 x.v.n,.string x.v.s,.string x.t,.string x.m,.int .i64 x.n,.slice ka x.kids.length kc] 48))
 clear h hk hE hlen
 go_enter Tryz.func91,Tryz.ntmps91
 go_upto_region 1 with fail
 clear hok
 generalize w.alloc (.cells #[.int .u8 (x.op:Int),.int .u8 (x.v.k:Int),.int .i64 x.v.n,.string x.v.s,.string x.t,.string x.m,.int .i64 x.n,.slice ka x.kids.length kc] 48)=wa at *
 generalize w.heap.size=q at *
 have c0:=HX.out.row.cell (i:=0) (v:=.int .u8 (x.op:Int)) rfl
 have hb:=HX.out.row.b (n:=8) rfl
 have ho:=HX.out.row.of
 cases B
 ·have HT:Hid (kidT (wrE x) x.op false l=putsL [W1 BCLOSE] (wrE x (putsL [W1 BOPEN] l))):=Lib.hid (by unfold kidT;rw [if_neg (by simp)])
  rw [HT.out] at HLN
  have HP:=Lib.hid (putsN [BOPEN] w1 b l wa HW.out (Nat.le_trans (Nat.le_trans (wrE_le _ _) (putsL_len _ _)) HLN.out) (by decide))
  go_wp2_with fail
  refine HP.out.mono ?_
  rintro e2 w2 ⟨rfl,hs2,hk2⟩
  have HX2:=Lib.hid (HX.out.keep hk2)
  have HK2:=Lib.hid (HK0.out.trans hk2)
  have HC:=Lib.hid (HE.out _ w2 _ hs2 HK.out (Nat.le_trans (putsL_len _ _) HLN.out))
  unfold PE.val at HC
  clear hs2 hk2 c0 hb ho HP
  have hb:=HX2.out.row.b (n:=8) rfl
  have ho:=HX2.out.row.of
  go_wp2_with fail
  refine HC.out.mono ?_
  rintro e3 w3 ⟨rfl,hs3,hk3⟩
  have HK3:=Lib.hid (HK2.out.trans hk3)
  have HP3:=Lib.hid (putsN [BCLOSE] w1 b _ w3 hs3 HLN.out (by decide))
  clear hs3 hk3 hb ho HC
  go_wp2_with fail
  refine HP3.out.mono ?_
  rintro e4 w4 ⟨rfl,hs4,hk4⟩
  have HS4:=Lib.hid hs4
  have HK4:=Lib.hid (HK3.out.trans hk4)
  clear hs4 hk4 HP3
  go_wp2_with fail
  go_end0
  exact ⟨rfl,by rw [HT.out];exact HS4.out,HK4.out⟩
 ·by_cases hop:x.op ≤ 2 ∨ 20 ≤ x.op
  ·have HT:Hid (kidT (wrE x) x.op true l=wrE x l):=Lib.hid (by unfold kidT;rw [if_pos (by simp [hop])])
   rw [HT.out] at HLN
   have HC:=Lib.hid (HE.out l wa _ HW.out HK.out HLN.out)
   unfold PE.val at HC
   by_cases h2:x.op ≤ 2
   ·have e1:((x.op:Int) ≤ 2):=by omega
    clear hop h2
    go_wp2_with fail
    refine HC.out.mono ?_
    rintro e2 w2 ⟨rfl,hs2,hk2⟩
    have HS2:=Lib.hid hs2
    have HK2:=Lib.hid (HK0.out.trans hk2)
    clear hs2 hk2 c0 hb ho
    go_wp2_with fail
    go_end0
    exact ⟨rfl,by rw [HT.out];exact HS2.out,HK2.out⟩
   ·have e1:¬ ((x.op:Int) ≤ 2):=by omega
    have e2:(20:Int) ≤ (x.op:Int):=by omega
    clear hop h2
    go_wp2_with fail
    refine HC.out.mono ?_
    rintro e2 w2 ⟨rfl,hs2,hk2⟩
    have HS2:=Lib.hid hs2
    have HK2:=Lib.hid (HK0.out.trans hk2)
    clear hs2 hk2 c0 hb ho
    go_wp2_with fail
    go_end0
    exact ⟨rfl,by rw [HT.out];exact HS2.out,HK2.out⟩
  ·have HT:Hid (kidT (wrE x) x.op true l=putsL [W1 BCLOSE] (wrE x (putsL [W1 BOPEN] l))):=Lib.hid (by unfold kidT;rw [if_neg (by simp [hop])])
   have e1:¬ ((x.op:Int) ≤ 2):=by omega
   have e2:¬ ((20:Int) ≤ (x.op:Int)):=by omega
   clear hop
   rw [HT.out] at HLN
   have HP:=Lib.hid (putsN [BOPEN] w1 b l wa HW.out (Nat.le_trans (Nat.le_trans (wrE_le _ _) (putsL_len _ _)) HLN.out) (by decide))
   go_wp2_with fail
   refine HP.out.mono ?_
   rintro e2 w2 ⟨rfl,hs2,hk2⟩
   have HX2:=Lib.hid (HX.out.keep hk2)
   have HK2:=Lib.hid (HK0.out.trans hk2)
   have HC:=Lib.hid (HE.out _ w2 _ hs2 HK.out (Nat.le_trans (putsL_len _ _) HLN.out))
   unfold PE.val at HC
   clear hs2 hk2 c0 hb ho HP
   have hb:=HX2.out.row.b (n:=8) rfl
   have ho:=HX2.out.row.of
   go_wp2_with fail
   refine HC.out.mono ?_
   rintro e3 w3 ⟨rfl,hs3,hk3⟩
   have HK3:=Lib.hid (HK2.out.trans hk3)
   have HP3:=Lib.hid (putsN [BCLOSE] w1 b _ w3 hs3 HLN.out (by decide))
   clear hs3 hk3 hb ho HC
   go_wp2_with fail
   refine HP3.out.mono ?_
   rintro e4 w4 ⟨rfl,hs4,hk4⟩
   have HS4:=Lib.hid hs4
   have HK4:=Lib.hid (HK3.out.trans hk4)
   clear hs4 hk4 HP3
   go_wp2_with fail
   go_end0
   exact ⟨rfl,by rw [HT.out];exact HS4.out,HK4.out⟩
end
theorem w1_str (l:List UInt8):W1 ⟨l.toArray⟩=l:=by simp [W1]
theorem kid_at {w1 w:World} {b:Nat} {l:List UInt8} {ka:Option Addr} {kc k:Nat} {xs:List PE} {y:PE} (h:WS w1 b l w) (hk:ExsR w1 (.slice ka xs.length kc) xs) (hy:xs[k]? = some y):∃ q o kv,ka=some ⟨q,o,none⟩∧ExsR w1 kv y.kids ∧
 w.cell? ⟨q,o + k * 8,none⟩=some (.int .u8 (y.op:Int))∧w.cell? ⟨q,o + k * 8 + 1,none⟩=some (.int .u8 (y.v.k:Int))∧w.cell? ⟨q,o + k * 8 + 2,none⟩=some (.int .i64 y.v.n)∧w.cell? ⟨q,o + k * 8 + 3,none⟩=some (.string y.v.s) ∧
 w.cell? ⟨q,o + k * 8 + 4,none⟩=some (.string y.t)∧w.cell? ⟨q,o + k * 8 + 5,none⟩=some (.string y.m)∧w.cell? ⟨q,o + k * 8 + 6,none⟩=some (.int .i64 y.n)∧w.cell? ⟨q,o + k * 8 + 7,none⟩=some kv:=by
 obtain ⟨q,o,kv,e,hkids,h0,h1,h2,h3,h4,h5,h6,h7⟩:=exs_at hk hy
 exact ⟨q,o,kv,e,hkids,(h.low.cell (cell_lt h0)).trans h0,(h.low.cell (cell_lt h1)).trans h1,(h.low.cell (cell_lt h2)).trans h2,(h.low.cell (cell_lt h3)).trans h3,(h.low.cell (cell_lt h4)).trans h4,(h.low.cell (cell_lt h5)).trans h5,(h.low.cell (cell_lt h6)).trans h6,(h.low.cell (cell_lt h7)).trans h7⟩
set_option maxRecDepth 100000 in
set_option maxHeartbeats 8000000 in
theorem signsW (w:World):Calls Tryz.prog 92 #[] w fun e w'=>e = .returned (.slice (some ⟨w.heap.size,0,none⟩) 14 14)∧w'=w.alloc (.cells #[.string BPLUS,.string BMINUS,.string BSTAR,.string BDIV,.string BMOD,.string BJOIN,.string BEQ,.string BNE,.string BLT,.string BLE,.string BGT,.string BGE,.string WAND,.string WOR] 9):=by
 go_enter Tryz.func92,Tryz.ntmps92
 go_wp2_with fail
 go_ret
 exact ⟨rfl,rfl⟩
set_option maxRecDepth 100000 in
set_option maxHeartbeats 64000000 in
theorem exprVal (w1:World) (b:Nat) (x:PE) (hv:VFit x.v) (hx:LX w1) (hkid:∀ y,y ∈ x.kids→EXW w1 b y) (H_hop:Hid (x.op=1)) (H_hn:Hid (x.kids.length=0)):EXW w1 b x:=by
 intro l w kv h hk hlen
 obtain ⟨ka,kc,rfl,hkc⟩:=hk.shape
 have HK:=Lib.hid hk
 have HLN:=Lib.hid hlen
 have HV:=Lib.hid hv
 have HLX:=Lib.hid hx
 have HKID:=Lib.hid hkid
 unfold PE.val
 have hok:=ex_ok x ka x.kids.length kc
 have HX:=Lib.hid (h.box 48 #[.int .u8 (x.op:Int),.int .u8 (x.v.k:Int),.int .i64 x.v.n,.string x.v.s,.string x.t,.string x.m,.int .i64 x.n,.slice ka x.kids.length kc])
 have HW:=Lib.hid (h.alloc (.cells #[.int .u8 (x.op:Int),.int .u8 (x.v.k:Int),.int .i64 x.v.n,.string x.v.s,.string x.t,.string x.m,.int .i64 x.n,.slice ka x.kids.length kc] 48))
 have HK0:=Lib.hid (h.keepAlloc (.cells #[.int .u8 (x.op:Int),.int .u8 (x.v.k:Int),.int .i64 x.v.n,.string x.v.s,.string x.t,.string x.m,.int .i64 x.n,.slice ka x.kids.length kc] 48))
 clear h hk hlen hv hx hkid hkc
 go_enter Tryz.func34,Tryz.ntmps34
 go_upto_region 1 with fail
 clear hok
 generalize w.alloc (.cells #[.int .u8 (x.op:Int),.int .u8 (x.v.k:Int),.int .i64 x.v.n,.string x.v.s,.string x.t,.string x.m,.int .i64 x.n,.slice ka x.kids.length kc] 48)=wa at *
 generalize w.heap.size=q at *
 have HL:=Lib.hid (writerLen w1.heap.size b l wa HW.out.bld)
 go_wp2_with fail
 refine HL.out.mono ?_
 rintro e2 w2 ⟨rfl,rfl⟩
 clear HL
 by_cases hlong:32768 < l.length
 ·have i1:(32768:Int) < (l.length:Int):=by omega
  have HT:Hid (wrE x l=l):=Lib.hid (wr_long hlong)
  clear hlong
  go_wp2_with fail
  go_end0
  exact ⟨rfl,by rw [HT.out];exact HW.out,HK0.out⟩
 have i1:¬ (32768:Int) < (l.length:Int):=by omega
 have HNL:=Lib.hid hlong
 have c0:=HX.out.row.cell (i:=0) (v:=.int .u8 (x.op:Int)) rfl
 have c1:=HX.out.row.cell (i:=1) (v:=.int .u8 (x.v.k:Int)) rfl
 have c2:=HX.out.row.cell (i:=2) (v:=.int .i64 x.v.n) rfl
 have c3:=HX.out.row.cell (i:=3) (v:=.string x.v.s) rfl
 have c4:=HX.out.row.cell (i:=4) (v:=.string x.t) rfl
 have c5:=HX.out.row.cell (i:=5) (v:=.string x.m) rfl
 have c7:=HX.out.row.cell (i:=7) (v:=.slice ka x.kids.length kc) rfl
 clear hlong
 go_upto_region 4 with fail
 have hop:=H_hop.out
 have hn:=H_hn.out
 have o1:((x.op:Int) == 1)=true:=by simp [hop]
 have o2:((x.op:Int) == 2)=false:=by simp;omega
 have o3:((x.op:Int) == 3)=false:=by simp;omega
 have o4:((x.op:Int) == 4)=false:=by simp;omega
 have o5:((x.op:Int) == 5)=false:=by simp;omega
 have o20:((x.op:Int) == 20)=false:=by simp;omega
 have g6:¬ (6:Int) ≤ (x.op:Int):=by omega
 have g20:¬ (20:Int) ≤ (x.op:Int):=by omega
 have l19:  (x.op:Int) ≤ 19:=by omega
 have l23:  (x.op:Int) ≤ 23:=by omega
 have n0:((x.kids.length:Int) == 0)=true:=by simp [hn]
 have n1:((x.kids.length:Int) == 1)=false:=by simp [hn]
 have n2:((x.kids.length:Int) == 2)=false:=by simp [hn]
 have HT:Hid (wrE x l=putsL [valT x.v] l):=Lib.hid (wr_val HNL.out hop (List.eq_nil_of_length_eq_zero hn))
 rw [HT.out] at HLN
 have HTX:=Lib.hid (textW x.v w2 (HLX.out.later HW.out.low) HV.out)
 go_wp2_with fail
 refine HTX.out.mono ?_
 rintro e3 w3 ⟨rfl,hb3⟩
 have HW3:=Lib.hid (HW.out.later hb3)
 have HK3:=Lib.hid (HK0.out.trans (KeepW.below hb3 HW.out.lt))
 clear c0 c1 c2 c3 c4 c5 c7 hb3 HTX
 have HP4:=Lib.hid (putsN [⟨(valT x.v).toArray⟩] w1 b l w3 HW3.out (by have:=HLN.out;rw [List.map_singleton,w1_str];exact this) (by simp))
 go_wp2_with fail
 refine HP4.out.mono ?_
 rintro e4 w4 ⟨rfl,hs4,hk4⟩
 have HW4:=Lib.hid hs4
 have HK4:=Lib.hid (HK3.out.trans hk4)
 clear hs4 hk4 HP4
 go_wp2_with fail
 go_end0
 exact ⟨rfl,by rw [HT.out];have:=HW4.out;rw [List.map_singleton,w1_str] at this;exact this,HK4.out⟩
set_option maxRecDepth 100000 in
set_option maxHeartbeats 64000000 in
theorem exprCol (w1:World) (b:Nat) (x:PE) (hv:VFit x.v) (hx:LX w1) (hkid:∀ y,y ∈ x.kids→EXW w1 b y) (H_hop:Hid (x.op=2)) (H_hn:Hid (x.kids.length=0)):EXW w1 b x:=by
 intro l w kv h hk hlen
 obtain ⟨ka,kc,rfl,hkc⟩:=hk.shape
 have HK:=Lib.hid hk
 have HLN:=Lib.hid hlen
 have HV:=Lib.hid hv
 have HLX:=Lib.hid hx
 have HKID:=Lib.hid hkid
 unfold PE.val
 have hok:=ex_ok x ka x.kids.length kc
 have HX:=Lib.hid (h.box 48 #[.int .u8 (x.op:Int),.int .u8 (x.v.k:Int),.int .i64 x.v.n,.string x.v.s,.string x.t,.string x.m,.int .i64 x.n,.slice ka x.kids.length kc])
 have HW:=Lib.hid (h.alloc (.cells #[.int .u8 (x.op:Int),.int .u8 (x.v.k:Int),.int .i64 x.v.n,.string x.v.s,.string x.t,.string x.m,.int .i64 x.n,.slice ka x.kids.length kc] 48))
 have HK0:=Lib.hid (h.keepAlloc (.cells #[.int .u8 (x.op:Int),.int .u8 (x.v.k:Int),.int .i64 x.v.n,.string x.v.s,.string x.t,.string x.m,.int .i64 x.n,.slice ka x.kids.length kc] 48))
 clear h hk hlen hv hx hkid hkc
 go_enter Tryz.func34,Tryz.ntmps34
 go_upto_region 1 with fail
 clear hok
 generalize w.alloc (.cells #[.int .u8 (x.op:Int),.int .u8 (x.v.k:Int),.int .i64 x.v.n,.string x.v.s,.string x.t,.string x.m,.int .i64 x.n,.slice ka x.kids.length kc] 48)=wa at *
 generalize w.heap.size=q at *
 have HL:=Lib.hid (writerLen w1.heap.size b l wa HW.out.bld)
 go_wp2_with fail
 refine HL.out.mono ?_
 rintro e2 w2 ⟨rfl,rfl⟩
 clear HL
 by_cases hlong:32768 < l.length
 ·have i1:(32768:Int) < (l.length:Int):=by omega
  have HT:Hid (wrE x l=l):=Lib.hid (wr_long hlong)
  clear hlong
  go_wp2_with fail
  go_end0
  exact ⟨rfl,by rw [HT.out];exact HW.out,HK0.out⟩
 have i1:¬ (32768:Int) < (l.length:Int):=by omega
 have HNL:=Lib.hid hlong
 have c0:=HX.out.row.cell (i:=0) (v:=.int .u8 (x.op:Int)) rfl
 have c1:=HX.out.row.cell (i:=1) (v:=.int .u8 (x.v.k:Int)) rfl
 have c2:=HX.out.row.cell (i:=2) (v:=.int .i64 x.v.n) rfl
 have c3:=HX.out.row.cell (i:=3) (v:=.string x.v.s) rfl
 have c4:=HX.out.row.cell (i:=4) (v:=.string x.t) rfl
 have c5:=HX.out.row.cell (i:=5) (v:=.string x.m) rfl
 have c7:=HX.out.row.cell (i:=7) (v:=.slice ka x.kids.length kc) rfl
 clear hlong
 go_upto_region 4 with fail
 have hop:=H_hop.out
 have hn:=H_hn.out
 have o1:((x.op:Int) == 1)=false:=by simp;omega
 have o2:((x.op:Int) == 2)=true:=by simp [hop]
 have o3:((x.op:Int) == 3)=false:=by simp;omega
 have o4:((x.op:Int) == 4)=false:=by simp;omega
 have o5:((x.op:Int) == 5)=false:=by simp;omega
 have o20:((x.op:Int) == 20)=false:=by simp;omega
 have g6:¬ (6:Int) ≤ (x.op:Int):=by omega
 have g20:¬ (20:Int) ≤ (x.op:Int):=by omega
 have l19:  (x.op:Int) ≤ 19:=by omega
 have l23:  (x.op:Int) ≤ 23:=by omega
 have n0:((x.kids.length:Int) == 0)=true:=by simp [hn]
 have n1:((x.kids.length:Int) == 1)=false:=by simp [hn]
 have n2:((x.kids.length:Int) == 2)=false:=by simp [hn]
 have HT:Hid (wrE x l=putsL [W1 x.m] (if x.t=⟨#[]⟩ then l else putsL [W1 x.t,W1 BDOT] l)):=Lib.hid (wr_col HNL.out hop (List.eq_nil_of_length_eq_zero hn))
 rw [HT.out] at HLN
 generalize x.t=tt at *
 by_cases ht:tt=⟨#[]⟩
 ·subst ht
  have HT:Hid (wrE x l=putsL [W1 x.m] l):=Lib.hid (by rw [HT.out,if_pos rfl])
  have HLN:Hid ((putsL [W1 x.m] l).length ≤ 140737488355328):=Lib.hid (by have:=HLN.out;rw [if_pos rfl] at this;exact this)
  have he1:(⟨#[]⟩:ByteArray).toList.isEmpty=true:=by rw [ByteArray.toList_eq];rfl
  have he2:(!(⟨#[]⟩:ByteArray).toList.isEmpty)=false:=by rw [he1];rfl
  have HP3:=Lib.hid (putsN [x.m] w1 b l w2 HW.out (HLN.out) (by simp))
  go_wp2_with fail
  refine HP3.out.mono ?_
  rintro e3 w3 ⟨rfl,hs3,hk3⟩
  have HW3:=Lib.hid hs3
  have HK3:=Lib.hid (HK0.out.trans hk3)
  clear hs3 hk3 HP3
  clear c0 c1 c2 c3 c4 c5 c7
  go_wp2_with fail
  go_end0
  exact ⟨rfl,by rw [HT.out];exact HW3.out,HK3.out⟩
 ·have HT:Hid (wrE x l=putsL [W1 x.m] (putsL [W1 tt,W1 BDOT] l)):=Lib.hid (by rw [HT.out,if_neg ht])
  have HLN:Hid ((putsL [W1 x.m] (putsL [W1 tt,W1 BDOT] l)).length ≤ 140737488355328):=Lib.hid (by have:=HLN.out;rw [if_neg ht] at this;exact this)
  have hne1:tt.toList.isEmpty=false:=by
   cases he:tt.toList.isEmpty with
   | false=>rfl
   | true=>exact absurd (bytes_eq (a:=tt) (b:=⟨#[]⟩) (by rw [List.isEmpty_iff.1 he];simp)) ht
  have hne2:(!tt.toList.isEmpty)=true:=by rw [hne1];rfl
  have HP3:=Lib.hid (putsN [tt,BDOT] w1 b l w2 HW.out (Nat.le_trans (putsL_len _ _) HLN.out) (by simp))
  go_wp2_with fail
  refine HP3.out.mono ?_
  rintro e3 w3 ⟨rfl,hs3,hk3⟩
  have HW3:=Lib.hid hs3
  have HX3:=Lib.hid (HX.out.keep hk3)
  have HK3:=Lib.hid (HK0.out.trans hk3)
  clear hs3 hk3 HP3
  clear c0 c1 c2 c3 c4 c5 c7
  have c5:=HX3.out.row.cell (i:=3 + 2) (v:=.string x.m) rfl
  have HP4:=Lib.hid (putsN [x.m] w1 b _ w3 HW3.out (HLN.out) (by simp))
  go_wp2_with fail
  refine HP4.out.mono ?_
  rintro e4 w4 ⟨rfl,hs4,hk4⟩
  have HW4:=Lib.hid hs4
  have HK4:=Lib.hid (HK3.out.trans hk4)
  clear hs4 hk4 HP4
  clear c5
  go_wp2_with fail
  go_end0
  exact ⟨rfl,by rw [HT.out];exact HW4.out,HK4.out⟩
set_option maxRecDepth 100000 in
set_option maxHeartbeats 64000000 in
theorem exprNeg (w1:World) (b:Nat) (x:PE) (hv:VFit x.v) (hx:LX w1) (hkid:∀ y,y ∈ x.kids→EXW w1 b y) (H_hop:Hid (x.op=3)) (H_hn:Hid (x.kids.length=1)):EXW w1 b x:=by
 intro l w kv h hk hlen
 obtain ⟨ka,kc,rfl,hkc⟩:=hk.shape
 have HK:=Lib.hid hk
 have HLN:=Lib.hid hlen
 have HV:=Lib.hid hv
 have HLX:=Lib.hid hx
 have HKID:=Lib.hid hkid
 unfold PE.val
 have hok:=ex_ok x ka x.kids.length kc
 have HX:=Lib.hid (h.box 48 #[.int .u8 (x.op:Int),.int .u8 (x.v.k:Int),.int .i64 x.v.n,.string x.v.s,.string x.t,.string x.m,.int .i64 x.n,.slice ka x.kids.length kc])
 have HW:=Lib.hid (h.alloc (.cells #[.int .u8 (x.op:Int),.int .u8 (x.v.k:Int),.int .i64 x.v.n,.string x.v.s,.string x.t,.string x.m,.int .i64 x.n,.slice ka x.kids.length kc] 48))
 have HK0:=Lib.hid (h.keepAlloc (.cells #[.int .u8 (x.op:Int),.int .u8 (x.v.k:Int),.int .i64 x.v.n,.string x.v.s,.string x.t,.string x.m,.int .i64 x.n,.slice ka x.kids.length kc] 48))
 clear h hk hlen hv hx hkid hkc
 go_enter Tryz.func34,Tryz.ntmps34
 go_upto_region 1 with fail
 clear hok
 generalize w.alloc (.cells #[.int .u8 (x.op:Int),.int .u8 (x.v.k:Int),.int .i64 x.v.n,.string x.v.s,.string x.t,.string x.m,.int .i64 x.n,.slice ka x.kids.length kc] 48)=wa at *
 generalize w.heap.size=q at *
 have HL:=Lib.hid (writerLen w1.heap.size b l wa HW.out.bld)
 go_wp2_with fail
 refine HL.out.mono ?_
 rintro e2 w2 ⟨rfl,rfl⟩
 clear HL
 by_cases hlong:32768 < l.length
 ·have i1:(32768:Int) < (l.length:Int):=by omega
  have HT:Hid (wrE x l=l):=Lib.hid (wr_long hlong)
  clear hlong
  go_wp2_with fail
  go_end0
  exact ⟨rfl,by rw [HT.out];exact HW.out,HK0.out⟩
 have i1:¬ (32768:Int) < (l.length:Int):=by omega
 have HNL:=Lib.hid hlong
 have c0:=HX.out.row.cell (i:=0) (v:=.int .u8 (x.op:Int)) rfl
 have c1:=HX.out.row.cell (i:=1) (v:=.int .u8 (x.v.k:Int)) rfl
 have c2:=HX.out.row.cell (i:=2) (v:=.int .i64 x.v.n) rfl
 have c3:=HX.out.row.cell (i:=3) (v:=.string x.v.s) rfl
 have c4:=HX.out.row.cell (i:=4) (v:=.string x.t) rfl
 have c5:=HX.out.row.cell (i:=5) (v:=.string x.m) rfl
 have c7:=HX.out.row.cell (i:=7) (v:=.slice ka x.kids.length kc) rfl
 clear hlong
 go_upto_region 4 with fail
 have hop:=H_hop.out
 have hn:=H_hn.out
 have o1:((x.op:Int) == 1)=false:=by simp;omega
 have o2:((x.op:Int) == 2)=false:=by simp;omega
 have o3:((x.op:Int) == 3)=true:=by simp [hop]
 have o4:((x.op:Int) == 4)=false:=by simp;omega
 have o5:((x.op:Int) == 5)=false:=by simp;omega
 have o20:((x.op:Int) == 20)=false:=by simp;omega
 have g6:¬ (6:Int) ≤ (x.op:Int):=by omega
 have g20:¬ (20:Int) ≤ (x.op:Int):=by omega
 have l19:  (x.op:Int) ≤ 19:=by omega
 have l23:  (x.op:Int) ≤ 23:=by omega
 have n0:((x.kids.length:Int) == 0)=false:=by simp [hn]
 have n1:((x.kids.length:Int) == 1)=true:=by simp [hn]
 have n2:((x.kids.length:Int) == 2)=false:=by simp [hn]
 obtain ⟨y,hkids⟩:=List.length_eq_one_iff.1 hn
 have HY:Hid (y ∈ x.kids):=Lib.hid (by rw [hkids];simp)
 have HT:Hid (wrE x l=kidT (wrE y) y.op (decide (y.op ≠ 1)) (putsL [W1 BMINUS] l)):=Lib.hid (wr_neg HNL.out hop hkids)
 rw [HT.out] at HLN
 obtain ⟨B,hB⟩:∃ B,decide (y.op ≠ 1)=B:=⟨_,rfl⟩
 have eB:((y.op:Int) != 1)=B:=by rw [← hB];by_cases h:y.op=1 <;> simp [h];omega
 rw [hB] at HLN HT
 have HP3:=Lib.hid (putsN [BMINUS] w1 b l w2 HW.out (Nat.le_trans (kidT_len (wrE_le y) _ _ _) HLN.out) (by simp))
 go_wp2_with fail
 refine HP3.out.mono ?_
 rintro e3 w3 ⟨rfl,hs3,hk3⟩
 have HW3:=Lib.hid hs3
 have HX3:=Lib.hid (HX.out.keep hk3)
 have HK3:=Lib.hid (HK0.out.trans hk3)
 clear hs3 hk3 HP3
 clear c0 c1 c2 c3 c4 c5 c7
 have c7:=HX3.out.row.cell (i:=7) (v:=.slice ka x.kids.length kc) rfl
 obtain ⟨kq,ko,kv,rfl,HKV,p0,p1,p2,p3,p4,p5,p6,p7⟩:=kid_at HW3.out HK.out (k:=0) (y:=y) (by rw [hkids];rfl)
 simp only [Nat.zero_mul,Nat.add_zero] at p0 p1 p2 p3 p4 p5 p6 p7
 obtain ⟨ja,jc,rfl,_⟩:=HKV.shape
 have HKV:=Lib.hid HKV
 go_upto_region 12 with fail
 have l0:=lat_cell c7;have m0:=lat_cell p0;have m1:=lat_cell p1;have m2:=lat_cell p2;have m3:=lat_cell p3;have m4:=lat_cell p4;have m5:=lat_cell p5;have m6:=lat_cell p6;have m7:=lat_cell p7
 refine wp_region_later_tail 11 (by kernel_rfl) (by kernel_rfl) ?_
 simp only [List.take_succ_cons,List.take_zero,List.drop_succ_cons,List.drop_zero]
 repeat (go_big_quiet_step (fail))
 refine wpQuiet_nil ?_
 refine later_out (fun w4 hb4=>?_)
 have HW4:=Lib.hid (HW3.out.later hb4)
 have HK4:=Lib.hid (HK3.out.trans (KeepW.below hb4 HW3.out.lt))
 clear l0 m0 m1 m2 m3 m4 m5 m6 m7 c7 hb4 p0 p1 p2 p3 p4 p5 p6 p7
 have hc5:=kidW w1 b y (HKID.out y HY.out) B (putsL [W1 BMINUS] l) w4 _ HW4.out HKV.out (HLN.out)
 unfold PE.val at hc5
 have HC5:=Lib.hid hc5
 clear hc5
 go_wp2_with fail
 refine HC5.out.mono ?_
 rintro e5 w5 ⟨rfl,hs5,hk5⟩
 have HW5:=Lib.hid hs5
 have HK5:=Lib.hid (HK4.out.trans hk5)
 clear hs5 hk5 HC5
 go_wp2_with fail
 go_end0
 exact ⟨rfl,by rw [HT.out];exact HW5.out,HK5.out⟩
end Go.Proofs.YtmdogmpcmkfjpaaGreatDoor.Dt
namespace Go.Proofs.YtmdogmpcmkfjpaaGreatDoor.Dt
open Go.RowKit Go.Proofs.YtmdogmpcmkfjpaaGreatDoor.By
theorem behindT_snoc (w:List UInt8) (xs:List PE) (x:PE) (a:List UInt8):behindT w (xs ++ [x]) a=wrE x (putsL [w] (behindT w xs a)):=by
 induction xs generalizing a with
 | nil=>rfl
 | cons y l ih=>exact ih _
theorem behindT_app (w:List UInt8) (xs ys:List PE) (a:List UInt8):behindT w (xs ++ ys) a=behindT w ys (behindT w xs a):=by
 induction xs generalizing a with
 | nil=>rfl
 | cons y l ih=>exact ih _
theorem behindT_len (w:List UInt8) (xs:List PE) (a:List UInt8):a.length ≤ (behindT w xs a).length:=by
 induction xs generalizing a with
 | nil=>exact Nat.le_refl _
 | cons y l ih=>exact Nat.le_trans (Nat.le_trans (putsL_len _ _) (wrE_le _ _)) (ih _)
set_option maxRecDepth 100000 in
set_option maxHeartbeats 16000000 in
theorem behindW (w1:World) (b:Nat) (word:ByteArray) (xs:List PE) (hE:∀ x,x ∈ xs→EXW w1 b x) (l:List UInt8) (w:World) (va:Value) (h:WS w1 b l w) (hs:ExsR w1 va xs) (hlen:(behindT (W1 word) xs l).length ≤ 140737488355328) (hn:xs.length ≤ 140737488351232) :
 Calls Tryz.prog 67 #[.pointer (some ⟨b,0,none⟩),.string word,va] w (WPost w1 b (behindT (W1 word) xs l) w):=by
 obtain ⟨ka,kc,rfl,_⟩:=hs.shape
 have HW:=Lib.hid h
 have HK:=Lib.hid hs
 have HLN:=Lib.hid hlen
 have HE:=Lib.hid hE
 clear h hs hlen hE
 go_enter Tryz.func67,Tryz.ntmps67
 go_wp2_with fail
 go_loopg [10] xs.length (fun gk iv wr=>∃ (i:Nat),iv = .int .i64 (i:Int)∧gk=xs.length - i∧i ≤ xs.length∧Hid (WS w1 b (behindT (W1 word) (xs.take i) l) wr)∧Hid (KeepW b w wr))
 case atStart=>exact ⟨0,rfl,rfl,Nat.zero_le _,HW,Lib.hid (KeepW.refl _ _)⟩
 case round=>
  obtain ⟨i,rfl,rfl,hi,HS,HKE⟩:=hrel
  by_cases hlt:i < xs.length
  ·obtain ⟨x,hx⟩:∃ x,xs[i]? = some x:=⟨xs[i],by simp⟩
   have hsn:behindT (W1 word) (xs.take (i + 1)) l=wrE x (putsL [W1 word] (behindT (W1 word) (xs.take i) l)):=by
    rw [List.take_add_one,hx]
    exact behindT_snoc _ _ _ _
   have HLE:Hid ((wrE x (putsL [W1 word] (behindT (W1 word) (xs.take i) l))).length ≤ 140737488355328):=Lib.hid (by
    have e:xs=xs.take (i + 1) ++ xs.drop (i + 1):=(List.take_append_drop _ _).symm
    have h1:=HLN.out
    rw [e,behindT_app] at h1
    rw [← hsn]
    exact Nat.le_trans (behindT_len _ _ _) h1)
   have HSN:=Lib.hid hsn
   obtain ⟨kq,ko,kv,rfl,HKV,p0,p1,p2,p3,p4,p5,p6,p7⟩:=kid_at HS.out HK.out hx
   obtain ⟨ja,jc,rfl,_⟩:=HKV.shape
   have HKV:=Lib.hid HKV
   have HEX:=Lib.hid (HE.out x (List.mem_of_getElem? hx))
   have ilt:(i:Int) < (xs.length:Int):=by omega
   have ige:(0:Int) ≤ (i:Int):=by omega
   have HLT:=Lib.hid hlt
   generalize behindT (W1 word) (xs.take i) l=L0 at *
   have HXB:=Lib.hid (HS.out.box 48 #[.int .u8 (x.op:Int),.int .u8 (x.v.k:Int),.int .i64 x.v.n,.string x.v.s,.string x.t,.string x.m,.int .i64 x.n,.slice ja x.kids.length jc])
   have HW1:=Lib.hid (HS.out.alloc (.cells #[.int .u8 (x.op:Int),.int .u8 (x.v.k:Int),.int .i64 x.v.n,.string x.v.s,.string x.t,.string x.m,.int .i64 x.n,.slice ja x.kids.length jc] 48))
   have HK1:=Lib.hid (HKE.out.trans (HS.out.keepAlloc (.cells #[.int .u8 (x.op:Int),.int .u8 (x.v.k:Int),.int .i64 x.v.n,.string x.v.s,.string x.t,.string x.m,.int .i64 x.n,.slice ja x.kids.length jc] 48)))
   clear hx hsn hlt
   go_upto_region 3 with fail
   clear p0 p1 p2 p3 p4 p5 p6 p7
   generalize wr.alloc (.cells #[.int .u8 (x.op:Int),.int .u8 (x.v.k:Int),.int .i64 x.v.n,.string x.v.s,.string x.t,.string x.m,.int .i64 x.n,.slice ja x.kids.length jc] 48)=wa at *
   generalize wr.heap.size=q at *
   have HP:=Lib.hid (putsN [word] w1 b L0 wa HW1.out (Nat.le_trans (wrE_le _ _) HLE.out) (by simp))
   go_wp2_with fail
   refine HP.out.mono ?_
   rintro e2 w2 ⟨rfl,hs2,hk2⟩
   have HX2:=Lib.hid (HXB.out.keep hk2)
   have HK2:=Lib.hid (HK1.out.trans hk2)
   have hc:=HEX.out _ w2 _ hs2 HKV.out HLE.out
   unfold PE.val at hc
   have HC:=Lib.hid hc
   clear hs2 hk2 hc HP
   have b0:=HX2.out.row.cell (i:=0) (v:=.int .u8 (x.op:Int)) rfl
   have b1:=HX2.out.row.cell (i:=1) (v:=.int .u8 (x.v.k:Int)) rfl
   have b2:=HX2.out.row.cell (i:=2) (v:=.int .i64 x.v.n) rfl
   have b3:=HX2.out.row.cell (i:=3) (v:=.string x.v.s) rfl
   have b4:=HX2.out.row.cell (i:=4) (v:=.string x.t) rfl
   have b5:=HX2.out.row.cell (i:=5) (v:=.string x.m) rfl
   have b6:=HX2.out.row.cell (i:=6) (v:=.int .i64 x.n) rfl
   have b7:=HX2.out.row.cell (i:=7) (v:=.slice ja x.kids.length jc) rfl
   go_wp2_with fail
   refine HC.out.mono ?_
   rintro e3 w3 ⟨rfl,hs3,hk3⟩
   have HS3:Hid (WS w1 b (behindT (W1 word) (xs.take (i + 1)) l) w3):=Lib.hid (by rw [HSN.out];exact hs3)
   have HK3:=Lib.hid (HK2.out.trans hk3)
   clear hs3 hk3 HC b0 b1 b2 b3 b4 b5 b6 b7
   go_wp2_with fail
   go_roundg (xs.length - (i + 1))
   case measure=>exact Nat.sub_lt_sub_left HLT.out (Nat.lt_succ_self _)
   case rel=>exact ⟨i + 1,by have h2:=HLT.out;go_num,rfl,HLT.out,HS3,HK3⟩
  ·obtain rfl:i=xs.length:=by omega
   have HSF:Hid (WS w1 b (behindT (W1 word) xs l) wr):=Lib.hid (by have h1:=HS.out;rw [List.take_length] at h1;exact h1)
   clear hlt hi
   go_wp2_with fail
   go_end0
   exact ⟨rfl,HSF.out,HKE.out⟩
end Go.Proofs.YtmdogmpcmkfjpaaGreatDoor.Dt
