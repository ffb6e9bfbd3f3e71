import Derived.Test.YtmdogmpcmkfjpaaGreatDoorBn23
/- Part of the proof (merged). -/
namespace Go.Proofs.YtmdogmpcmkfjpaaGreatDoor.Dt
open Go.RowKit Go.Proofs.YtmdogmpcmkfjpaaGreatDoor.By
attribute [local go_sem ↓] veilSt_ex veilLd_ex veilBs_ex veilSt_tk
attribute [local go_sem] run_exSt run_exNew run_exLd okRow8 Value.oneCell' run_bs1v run_tkSt run_tkNew okRow4
section
variable {w0:World} {r:Nat} {tv:Value} {L:List Tk} {en:Int} {s:PS}
structure PR (w0:World) (r:Nat) (tv:Value) (L:List Tk) (en:Int) (w:World) (s:PS) (W:World):Prop where
 pb:PB w0 r tv L en s W
 gr:w.grownBy W (some r)
 bx:Row w.heap.size 75 #[.pointer (some ⟨r,0,none⟩)] W
 rs:Row (w.heap.size + 1) 48 exZ W
 hr:r < w.heap.size
theorem PR.grown {w W W':World} {s s':PS} (h:PR w0 r tv L en w s W) (k:W.grownBy W' (some r)) (hp:PB w0 r tv L en s' W'):PR w0 r tv L en w s' W':=by
 have h3:=h.hr
 exact ⟨hp,grown_trans h.gr k,h.bx.grown k (by omega),h.rs.grown k (by omega),h3⟩
theorem PR.later {w W W':World} {s:PS} (h:PR w0 r tv L en w s W) (k:Below W.heap.size W W'):PR w0 r tv L en w s W':=h.grown (below_grown k) (h.pb.later k)
theorem PR.cell {w W:World} {s:PS} (h:PR w0 r tv L en w s W):W.cell? ⟨w.heap.size,0,none⟩=some (.pointer (some ⟨r,0,none⟩)):=h.bx.cell rfl
theorem PR.rb {w W:World} {s:PS} (h:PR w0 r tv L en w s W):rowB 8 W (w.heap.size + 1)=true:=h.rs.b rfl
theorem PR.fin {w W:World} {s:PS} (h:PR w0 r tv L en w s W) {S:Nat→Prop} {c:Array Value} {x:PE} (hx:ExD S W c x) (hS:∀ b,S b→w.heap.size ≤ b∧b ≠ w.heap.size + 1) :
 New w.heap.size (W.setRow (w.heap.size + 1) c) (fun u=>ExV u (.agg c) x)∧PB w0 r tv L en s (W.setRow (w.heap.size + 1) c)∧w.grownBy (W.setRow (w.heap.size + 1) c) (some r):=
 ⟨exD_fin hx (fun h=>(hS _ h).2 rfl) (fun b h=>(hS b h).1) c,h.pb.other (grown_setRow _ _ c) (by have:=h.hr;omega),grown_fill h.gr (by omega) c⟩
theorem lit_bad (h:s.e ≠ 0):litM L en s=(some PE.zero,s):=by unfold litM;rw [if_pos h]
theorem lit_int (h:s.e=0) (hk:(tokP L en s.k).k=3) (hn:(tokP L en s.k).n < 9223372036854775808):litM L en s=(some (PE.val1 ⟨1,((tokP L en s.k).n:Int),⟨#[]⟩⟩),s.next):=by
 unfold litM;rw [if_neg (by simp [h])];rw [if_pos hk,if_pos hn]
theorem lit_range (h:s.e=0) (hk:(tokP L en s.k).k=3) (hn:¬ (tokP L en s.k).n < 9223372036854775808):litM L en s=(some PE.zero,failP L en 5 s):=by
 unfold litM;rw [if_neg (by simp [h])];rw [if_pos hk,if_neg hn]
theorem lit_text (h:s.e=0) (hk:(tokP L en s.k).k=4):litM L en s=(some (PE.val1 ⟨2,0,(tokP L en s.k).s⟩),s.next):=by
 unfold litM;rw [if_neg (by simp [h])];rw [if_neg (by omega),if_pos hk]
theorem lit_blob (h:s.e=0) (hk:(tokP L en s.k).k=5):litM L en s=(some (PE.val1 ⟨3,0,(tokP L en s.k).s⟩),s.next):=by
 unfold litM;rw [if_neg (by simp [h])];rw [if_neg (by omega),if_neg (by omega),if_pos hk]
theorem lit_none (h:s.e=0) (h3:(tokP L en s.k).k ≠ 3) (h4:(tokP L en s.k).k ≠ 4) (h5:(tokP L en s.k).k ≠ 5):litM L en s=(none,s):=by
 unfold litM;rw [if_neg (by simp [h])];rw [if_neg h3,if_neg h4,if_neg h5]
theorem ex_of_lit {x:PE} {s1:PS} (hk:s.k ≤ L.length) (hl:L.length ≤ 4096) (h:litM L en s=(some x,s1)):exF L en FU .prim s=(x,s1):=by rw [fu_prim hk hl,bndE h];rfl
theorem nameQ_yes (h:s.e=0) (hk:(tokP L en s.k).k=2):nameQ L en s=(some (tokP L en s.k).s,s.next):=by unfold nameQ;rw [if_pos ⟨h,hk⟩]
theorem nameQ_no (hk:(tokP L en s.k).k ≠ 2):nameQ L en s=(none,s):=by unfold nameQ;rw [if_neg (fun e=>hk e.2)]
theorem nameM_yes (h:s.e=0) (hk:(tokP L en s.k).k=2):nameM L en s=((tokP L en s.k).s,s.next):=by unfold nameM;rw [if_pos ⟨h,hk⟩]
theorem Row.free {g:Nat} {t:TypeId} {cs:Array Value} {w:World} (h:Row g t cs w) (i:Nat):w.frozen? ⟨g,i,none⟩=false:=by
 unfold World.frozen?
 rw [h]
 simp
theorem PR.other {w W:World} {s:PS} {g:Nat} (h:PR w0 r tv L en w s W) (hg:w.heap.size ≤ g) (hg2:w.heap.size + 2 ≤ g) (d:Array Value):PR w0 r tv L en w s (W.setRow g d):=by
 have h3:=h.hr
 exact ⟨h.pb.other (grown_setRow W g d) (by omega),grown_fill h.gr hg d,(setRow_other W g _ d (by omega)).trans h.bx,(setRow_other W g _ d (by omega)).trans h.rs,h3⟩
theorem col_ex {S:Nat→Prop} {w:World} (t m:ByteArray):ExD S w #[.int .u8 2,.int .u8 0,.int .i64 0,.string ⟨#[]⟩,.string t,.string m,.int .i64 0,.slice none 0 0] (.mk 2 V00 t m 0 []):=
 ⟨rfl,by simp [Value.oneCell'],fun u _=>exR_iff.2 ⟨_,rfl,SlR.nil _ _ _⟩⟩
def ColKn (g r:Nat) (t m:ByteArray) (j:Nat) (v:Value) (_:World):Prop:=match j with
 | 0=>v = .pointer (some ⟨g,5,none⟩)
 | 1=>v = .string t
 | 2=>v = .pointer (some ⟨r,0,none⟩)
 | 3=>v = .string m
 | _=>v = .pointer (some ⟨g,4,none⟩)
theorem grp_ix0 (a b c:Value) (W:World):(Instr.index 184 (.agg #[a,b,c]) (.int .i64 0)).run Tryz.prog W = .ok a W:=by kernel_rfl
theorem grp_ix1 (a b c:Value) (W:World):(Instr.index 184 (.agg #[a,b,c]) (.int .i64 1)).run Tryz.prog W = .ok b W:=by kernel_rfl
theorem grp_ix2 (a b c:Value) (W:World):(Instr.index 184 (.agg #[a,b,c]) (.int .i64 2)).run Tryz.prog W = .ok c W:=by kernel_rfl
theorem grp_index (i:Nat) (x:ByteArray × Nat) (h:groups[i]? = some x) (W:World):(Instr.index 184 (.agg #[.string WSUM,.string WMIN,.string WMAX]) (.int .i64 (i:Int))).run Tryz.prog W = .ok (.string x.1) W:=by
 match i,h with
 | 0,h=>cases h;exact grp_ix0 _ _ _ W
 | 1,h=>cases h;exact grp_ix1 _ _ _ W
 | 2,h=>cases h;exact grp_ix2 _ _ _ W
 | _ + 3,h=>simp [groups] at h
theorem grp_op (i:Nat) (x:ByteArray × Nat) (h:groups[i]? = some x):x.2=21 + i∧i < 3:=by
 match i,h with
 | 0,h=>cases h;exact ⟨rfl,by decide⟩
 | 1,h=>cases h;exact ⟨rfl,by decide⟩
 | 2,h=>cases h;exact ⟨rfl,by decide⟩
 | _ + 3,h=>simp [groups] at h
theorem zero_ex {S:Nat→Prop} {w:World} : ExD S w exZ PE.zero:=⟨rfl,by simp [Value.oneCell'],fun u _=>exR_iff.2 ⟨_,rfl,SlR.nil _ _ _⟩⟩
theorem node0_ex {S:Nat→Prop} {w:World} (op:Nat):ExD S w #[.int .u8 (op:Int),.int .u8 0,.int .i64 0,.string ⟨#[]⟩,.string ⟨#[]⟩,.string ⟨#[]⟩,.int .i64 0,.slice none 0 0] (PE.node op []):=⟨rfl,by simp [Value.oneCell'],fun u _=>exR_iff.2 ⟨_,rfl,SlR.nil _ _ _⟩⟩
structure PX (w0:World) (r:Nat) (tv:Value) (L:List Tk) (en:Int) (w:World) (g:Nat) (s:PS) (x:PE) (c:Array Value) (W:World):Prop where
 pr:PR w0 r tv L en w s W
 row:Row g 48 c W
 ex:ExD (fun b=>w.heap.size ≤ b∧b ≠ w.heap.size + 1∧b ≠ g) W c x
 hg:w.heap.size + 2 ≤ g
theorem PX.grown {w W W':World} {g:Nat} {s s':PS} {x:PE} {c:Array Value} (h:PX w0 r tv L en w g s x c W) (k:W.grownBy W' (some r)) (hp:PB w0 r tv L en s' W'):PX w0 r tv L en w g s' x c W':=by
 have h1:=h.hg
 have h3:=h.pr.hr
 exact ⟨h.pr.grown k hp,h.row.grown k (by omega),h.ex.grown k (by omega),h1⟩
theorem PX.hsz {w W:World} {g:Nat} {s:PS} {x:PE} {c:Array Value} (h:PX w0 r tv L en w g s x c W):w.heap.size + 2 ≤ W.heap.size:=by have:=h.hg;have:=h.row.lt;omega
theorem PX.new {w W:World} {n:Nat} {s:PS} {x:PE} {c:Array Value} (h:PR w0 r tv L en w s W) (hx:ExN n W c x) (hn:w.heap.size + 2 ≤ n) (hW:n ≤ W.heap.size):PX w0 r tv L en w W.heap.size s x c (W.alloc (.cells c 48)):=by
 have hb:=(Below.refl _ W).alloc (Nat.le_refl _) (.cells c 48)
 exact ⟨h.later hb,row_alloc _ _ _,(hx.step (Nat.le_refl _) (fun b h1 h2=>⟨⟨by omega,by omega,by omega⟩,rfl⟩)).later hb,by omega⟩
set_option maxRecDepth 100000 in
set_option maxHeartbeats 64000000 in
theorem primW (H:∀ s',s.k < s'.k→EX w0 r tv L en .expr s'):EX w0 r tv L en .prim s:=by
 intro w h
 obtain ⟨Z,hZ⟩:∃ Z,Z=exF L en FU .prim s:=⟨_,rfl⟩
 rw [← hZ]
 have HKL:=Lib.hid (And.intro h.hk h.hl)
 have hb:Below w.heap.size w ((w.alloc (.cells #[.pointer (some ⟨r,0,none⟩)] 75)).alloc (.cells exZ 48)):=by go_grown
 have HP1:Hid (PR w0 r tv L en w s ((w.alloc (.cells #[.pointer (some ⟨r,0,none⟩)] 75)).alloc (.cells exZ 48))):=Lib.hid ⟨h.later hb,below_grown hb,(row_alloc _ _ _).later ((Below.refl _ _).alloc (Nat.le_refl _) _),by
  have:=row_alloc (w.alloc (.cells #[.pointer (some ⟨r,0,none⟩)] 75)) 48 exZ
  simpa using this,h.lt⟩
 have HZ:=Lib.hid hZ
 have HH:=Lib.hid H
 clear h H hb hZ
 show Calls _ 160 #[.pointer (some ⟨r,0,none⟩)] _ _
 go_enter Tryz.func160,Tryz.ntmps160
 go_upto_region 1 with fail
 generalize (w.alloc (.cells #[.pointer (some ⟨r,0,none⟩)] 75)).alloc (.cells exZ 48)=w1 at *
 have hq:=HP1.out.cell
 have HT:=Lib.hid (tokenP w1 HP1.out.pb)
 go_wp2_with fail
 refine HT.out.mono ?_
 rintro e3 w3 ⟨rfl,hb3⟩
 have hb4:=next hb3 ((Below.refl _ w3).alloc (Nat.le_refl _) (.cells (tkC (tokP L en s.k)) 128))
 have HP4:=Lib.hid (HP1.out.later hb4)
 have hR:=row_alloc w3 128 (tkC (tokP L en s.k))
 have q0:=hR.cell (i:=0) (v:=.int .u8 ((tokP L en s.k).k:Int)) rfl
 have q1:=hR.cell (i:=1) (v:=.string (tokP L en s.k).s) rfl
 have q2:=hR.cell (i:=2) (v:=.int .u64 ((tokP L en s.k).n:Int)) rfl
 have HRT:=Lib.hid hR
 have HNR:=Lib.hid (Nat.ne_of_gt (HP1.out.pb.later hb3).lt)
 have HZB:Hid (∀ x s1,litM L en s=(some x,s1)→Z=(x,s1)):=Lib.hid (fun x s1 hl=>by rw [HZ.out];exact ex_of_lit HKL.out.1 HKL.out.2 hl)
 have hLB:s.e ≠ 0→Z=(PE.zero,s):=fun h=>HZB.out _ _ (lit_bad h)
 have hLI:s.e=0→(tokP L en s.k).k=3→(tokP L en s.k).n < 9223372036854775808→Z=(PE.val1 ⟨1,((tokP L en s.k).n:Int),⟨#[]⟩⟩,s.next):=fun h h1 h2=>HZB.out _ _ (lit_int h h1 h2)
 have hLR:s.e=0→(tokP L en s.k).k=3→¬ (tokP L en s.k).n < 9223372036854775808→Z=(PE.zero,failP L en 5 s):=fun h h1 h2=>HZB.out _ _ (lit_range h h1 h2)
 have hLT:s.e=0→(tokP L en s.k).k=4→Z=(PE.val1 ⟨2,0,(tokP L en s.k).s⟩,s.next):=fun h h1=>HZB.out _ _ (lit_text h h1)
 have hLX:s.e=0→(tokP L en s.k).k=5→Z=(PE.val1 ⟨3,0,(tokP L en s.k).s⟩,s.next):=fun h h1=>HZB.out _ _ (lit_blob h h1)
 have HLB:=Lib.hid hLB
 have HLI:=Lib.hid hLI
 have HLR:=Lib.hid hLR
 have HLT:=Lib.hid hLT
 have HLX:=Lib.hid hLX
 have HTLT:Hid ((tokP L en s.k).k ≠ 0→s.k < L.length):=Lib.hid (fun h=>tokP_lt (L:=L) (en:=en) h)
 clear hLB hLI hLR hLT hLX hR hb3 hb4 HT hq
 generalize hT:tokP L en s.k=T at *
 have HTT:=Lib.hid hT
 clear hT
 go_upto_region 2 with fail
 generalize w3.alloc (.cells (tkC T) 128)=w4 at *
 generalize w3.heap.size=b at *
 have hq:=HP4.out.cell
 have hrb:=HP4.out.rb
 have HO:=Lib.hid (okP w4 HP4.out.pb)
 by_cases h0:s.e=0
 ·have d0:decide (s.e=0)=true:=decide_eq_true h0
  rw [d0] at HO
  by_cases h3:T.k=3
  ·by_cases hn:T.n < 9223372036854775808
   ·have HZ1:=Lib.hid (HLI.out h0 h3 hn)
    have HLTK:=Lib.hid (HTLT.out (by rw [h3];decide))
    have e3:((T.k:Int) == 3)=true:=by simp [h3]
    have hn':decide ((T.n:Int) < 9223372036854775808)=true:=decide_eq_true (by omega)
    have hw:wrap64 (T.n:Int)=(T.n:Int):=by unfold wrap64;omega
    clear h0 d0 h3 hn
    have HPR:=Lib.hid (prim1W w.heap.size ⟨1,(T.n:Int),⟨#[]⟩⟩ w4 HP4.out.cell HP4.out.pb HLTK.out)
    go_wp2_with fail
    refine HO.out.mono ?_
    rintro e4 w5 ⟨rfl,rfl⟩
    go_wp2_with fail
    refine HPR.out.mono ?_
    rintro e5 w5 ⟨rfl,hp5,hg5⟩
    have HP5:=Lib.hid (HP4.out.grown hg5 hp5)
    clear hp5 hg5 hq hrb q0 q1 q2
    have hrb:=HP5.out.rb
    go_wp2_with fail
    exact bodyPost_ret (v:=.agg #[.int .u8 1,.int .u8 1,.int .i64 (T.n:Int),.string ⟨#[]⟩,.string ⟨#[]⟩,.string ⟨#[]⟩,.int .i64 0,.slice none 0 0]) (res_row Tryz.results160 ex_struct ex_size _ _ (w.heap.size + 1) _ _ rfl (HP5.out.rs.set _) rfl) rfl ⟨_,rfl,by rw [HZ1.out];exact HP5.out.fin (val_ex (S:=fun _=>False) ⟨1,(T.n:Int),⟨#[]⟩⟩) (fun b h=>h.elim)⟩
   ·have HZ1:=Lib.hid (HLR.out h0 h3 hn)
    have e3:((T.k:Int) == 3)=true:=by simp [h3]
    have hn':decide ((T.n:Int) < 9223372036854775808)=false:=decide_eq_false (by omega)
    have HF:=Lib.hid (failW w4 5 HP4.out.pb)
    clear h0 d0 h3 hn
    go_wp2_with fail
    refine HO.out.mono ?_
    rintro e4 w5 ⟨rfl,rfl⟩
    go_wp2_with fail
    refine HF.out.mono ?_
    rintro e5 w5 ⟨rfl,hp5,hg5⟩
    have HP5:=Lib.hid (HP4.out.grown hg5 hp5)
    clear hp5 hg5 hq hrb q0 q1 q2
    have hrb:=HP5.out.rb
    go_wp2_with fail
    exact bodyPost_ret (v:=.agg exZ) (res_row Tryz.results160 ex_struct ex_size _ _ (w.heap.size + 1) _ _ rfl (HP5.out.rs.set _) rfl) rfl ⟨_,rfl,by rw [HZ1.out];exact HP5.out.fin (zero_ex (S:=fun _=>False)) (fun b h=>h.elim)⟩
  ·by_cases h4:T.k=4
   ·have HZ1:=Lib.hid (HLT.out h0 h4)
    have HLTK:=Lib.hid (HTLT.out (by rw [h4];decide))
    have e3:((T.k:Int) == 3)=false:=by simp [h4]
    have e4:((T.k:Int) == 4)=true:=by simp [h4]
    clear h0 d0 h3 h4
    have HPR:=Lib.hid (prim1W w.heap.size ⟨2,0,T.s⟩ w4 HP4.out.cell HP4.out.pb HLTK.out)
    go_wp2_with fail
    refine HO.out.mono ?_
    rintro e4 w5 ⟨rfl,rfl⟩
    go_wp2_with fail
    refine HPR.out.mono ?_
    rintro e5 w5 ⟨rfl,hp5,hg5⟩
    have HP5:=Lib.hid (HP4.out.grown hg5 hp5)
    clear hp5 hg5 hq hrb q0 q1 q2
    have hrb:=HP5.out.rb
    go_wp2_with fail
    exact bodyPost_ret (v:=.agg #[.int .u8 1,.int .u8 2,.int .i64 0,.string T.s,.string ⟨#[]⟩,.string ⟨#[]⟩,.int .i64 0,.slice none 0 0]) (res_row Tryz.results160 ex_struct ex_size _ _ (w.heap.size + 1) _ _ rfl (HP5.out.rs.set _) rfl) rfl ⟨_,rfl,by rw [HZ1.out];exact HP5.out.fin (val_ex (S:=fun _=>False) ⟨2,0,T.s⟩) (fun b h=>h.elim)⟩
   ·by_cases h5:T.k=5
    ·have HZ1:=Lib.hid (HLX.out h0 h5)
     have HLTK:=Lib.hid (HTLT.out (by rw [h5];decide))
     have e3:((T.k:Int) == 3)=false:=by simp [h5]
     have e4:((T.k:Int) == 4)=false:=by simp [h5]
     have e5:((T.k:Int) == 5)=true:=by simp [h5]
     clear h0 d0 h3 h4 h5
     have HPR:=Lib.hid (prim1W w.heap.size ⟨3,0,T.s⟩ w4 HP4.out.cell HP4.out.pb HLTK.out)
     go_wp2_with fail
     refine HO.out.mono ?_
     rintro e4 w5 ⟨rfl,rfl⟩
     go_wp2_with fail
     refine HPR.out.mono ?_
     rintro e5 w5 ⟨rfl,hp5,hg5⟩
     have HP5:=Lib.hid (HP4.out.grown hg5 hp5)
     clear hp5 hg5 hq hrb q0 q1 q2
     have hrb:=HP5.out.rb
     go_wp2_with fail
     exact bodyPost_ret (v:=.agg #[.int .u8 1,.int .u8 3,.int .i64 0,.string T.s,.string ⟨#[]⟩,.string ⟨#[]⟩,.int .i64 0,.slice none 0 0]) (res_row Tryz.results160 ex_struct ex_size _ _ (w.heap.size + 1) _ _ rfl (HP5.out.rs.set _) rfl) rfl ⟨_,rfl,by rw [HZ1.out];exact HP5.out.fin (val_ex (S:=fun _=>False) ⟨3,0,T.s⟩) (fun b h=>h.elim)⟩
    ·by_cases h2:T.k=2
     ·have hl:=lit_none h0 (by rw [HTT.out];exact h3) (by rw [HTT.out];exact h4) (by rw [HTT.out];exact h5)
      have hnq:=nameQ_yes h0 (by rw [HTT.out];exact h2)
      have hnm:=nameM_yes h0 (by rw [HTT.out];exact h2)
      rw [HTT.out] at hnq hnm
      have HZN:Hid (Z=(bnd (isM L en BDOT) fun b=>if b then bnd (nameM L en) fun m=>ret (.mk 2 V00 T.s m 0 []) else ret (.mk 2 V00 ⟨#[]⟩ T.s 0 [])) s.next):=Lib.hid (by
       rw [HZ.out,fu_prim HKL.out.1 HKL.out.2,bndE hl]
       show bnd (nameQ L en) _ s=_
       rw [bndE hnq])
      have HPN:=pnameW w4 HP4.out.pb
      rw [hnm] at HPN
      have HPN:=Lib.hid HPN
      have e3:((T.k:Int) == 3)=false:=by simp;omega
      have e4:((T.k:Int) == 4)=false:=by simp;omega
      have e5:((T.k:Int) == 5)=false:=by simp;omega
      have e2:((T.k:Int) == 2)=true:=by simp [h2]
      clear h0 d0 h2 h3 h4 h5 hl hnq hnm
      go_wp2_with fail
      refine HO.out.mono ?_
      rintro e4' w5 ⟨rfl,rfl⟩
      go_wp2_with fail
      refine HPN.out.mono ?_
      rintro e6 v6 ⟨rfl,hp6,hg6⟩
      have hr6:=HP4.out.grown hg6 hp6
      have HPX6:Hid (PX w0 r tv L en w v6.heap.size s.next (.mk 2 V00 ⟨#[]⟩ T.s 0 []) #[.int .u8 2,.int .u8 0,.int .i64 0,.string ⟨#[]⟩,.string ⟨#[]⟩,.string T.s,.int .i64 0,.slice none 0 0] (v6.alloc (.cells #[.int .u8 2,.int .u8 0,.int .i64 0,.string ⟨#[]⟩,.string ⟨#[]⟩,.string T.s,.int .i64 0,.slice none 0 0] 48))):=Lib.hid (PX.new hr6 (col_ex (S:=fun b=>v6.heap.size ≤ b) ⟨#[]⟩ T.s) (by have:=hr6.rs.lt;omega) (Nat.le_refl _))
      clear hp6 hg6 hr6 hq hrb q0 q1 q2 HPN
      go_upto_region 24 with fail
      generalize v6.alloc (.cells #[.int .u8 2,.int .u8 0,.int .i64 0,.string ⟨#[]⟩,.string ⟨#[]⟩,.string T.s,.int .i64 0,.slice none 0 0] 48)=w6 at *
      generalize v6.heap.size=g at *
      have hq:=HPX6.out.pr.cell
      have HI7:=Lib.hid (isW BDOT w6 HPX6.out.pr.pb)
      obtain ⟨B7,hB7⟩:∃ B,isB L en BDOT s.next=B:=⟨_,rfl⟩
      rw [isM_snd,hB7] at HI7
      have HB7:=Lib.hid hB7
      clear hB7
      cases B7
      ·go_wp2_with fail
       refine HI7.out.mono ?_
       rintro e7 w7 ⟨rfl,hp7,hg7⟩
       have HPX7:Hid (PX w0 r tv L en w g s.next (.mk 2 V00 ⟨#[]⟩ T.s 0 []) #[.int .u8 2,.int .u8 0,.int .i64 0,.string ⟨#[]⟩,.string ⟨#[]⟩,.string T.s,.int .i64 0,.slice none 0 0] w7):=Lib.hid (HPX6.out.grown hg7 hp7)
       have HP7:=Lib.hid HPX7.out.pr
       have HZ7:Hid (Z=(.mk 2 V00 ⟨#[]⟩ T.s 0 [],s.next)):=Lib.hid (by rw [HZN.out,isN HB7.out];rfl)
       clear hp7 hg7 HI7 hq
       have hb7:=HPX7.out.row.b (n:=8) rfl
       have ho7:=HPX7.out.row.of
       have hrb:=HP7.out.rb
       go_wp2_with fail
       exact bodyPost_ret (v:=.agg #[.int .u8 2,.int .u8 0,.int .i64 0,.string ⟨#[]⟩,.string ⟨#[]⟩,.string T.s,.int .i64 0,.slice none 0 0]) (res_row Tryz.results160 ex_struct ex_size _ _ (w.heap.size + 1) _ _ rfl (HP7.out.rs.set _) rfl) rfl ⟨_,rfl,by rw [HZ7.out];exact HP7.out.fin (HPX7.out.ex) (fun b h=>⟨h.1,h.2.1⟩)⟩
      ·go_wp2_with fail
       refine HI7.out.mono ?_
       rintro e7 w7 ⟨rfl,hp7,hg7⟩
       obtain ⟨s3,hs3⟩:∃ z,z=s.next.next:=⟨_,rfl⟩
       have HPX7:Hid (PX w0 r tv L en w g s3 (.mk 2 V00 ⟨#[]⟩ T.s 0 []) #[.int .u8 2,.int .u8 0,.int .i64 0,.string ⟨#[]⟩,.string ⟨#[]⟩,.string T.s,.int .i64 0,.slice none 0 0] w7):=Lib.hid (by rw [hs3];exact HPX6.out.grown hg7 hp7)
       obtain ⟨⟨m,s4⟩,hm⟩:∃ z,nameM L en s3=z:=⟨_,rfl⟩
       have HM:=Lib.hid hm
       have HZ7:Hid (Z=(.mk 2 V00 T.s m 0 [],s4)):=Lib.hid (by rw [HZN.out,isY HB7.out,if_pos rfl,← hs3,bndE hm];rfl)
       clear hp7 hg7 HI7 hq hm hs3
       go_upto_region 25 with fail
       have hgw:=HPX7.out.pr.gr
       refine wp_region_kig 5 r (ColKn g r T.s m) (fun dn W=>PB w0 r tv L en (if dn 3 then s4 else s3) W) 132 rfl (by kernel_rfl) (by kernel_rfl) (fun j v w1 w2 h _ _=>h) ?_ ?_ ?_ ?_
       ·intro dn dn' W hdd hst
        rw [← hdd 3 (by decide)]
        exact hst
       ·exact HPX7.out.pr.pb.later (Below.drew (Below.refl _ _))
       ·intro j hj dn A W hother hgW hst hdj hd
        have hrw:=HPX7.out.row.grown hgW (by have:=HPX7.out.hg;have:=HPX7.out.pr.hr;omega)
        match j,hj with
        | 0,hj=>
         have h0:=tmps_at (show A.eval (.tmp 5) = .pointer (some ⟨g,0,none⟩) from hother 5 (by kernel_rfl))
         clear hother hd hj hrw
         exact kig_same rfl rfl (.pointer (some ⟨g,5,none⟩)) (by simp only [execOp];go_simp) rfl hst
        | 1,hj=>
         have h0:=tmps_at ((hd _ rfl ⟨0,.data⟩ (by simp) rfl).2.eq (.pointer (some ⟨g,5,none⟩)) (fun _ h=>h) 91 (by kernel_rfl) (by decide))
         have hc:=hrw.cell (i:=5) (v:=.string T.s) rfl
         clear hother hd hj hrw
         exact kig_same rfl rfl (.string T.s) (by simp only [execOp];go_simp) rfl hst
        | 2,hj=>
         have h0:=tmps_at (show A.eval (.tmp 1) = .pointer (some ⟨w.heap.size,0,none⟩) from hother 1 (by kernel_rfl))
         have hc:=(HPX7.out.pr.bx.grown hgW (Nat.ne_of_gt HPX7.out.pr.hr)).cell (i:=0) (v:=.pointer (some ⟨r,0,none⟩)) rfl
         clear hother hd hj hrw
         exact kig_same rfl rfl (.pointer (some ⟨r,0,none⟩)) (by simp only [execOp];go_simp) rfl hst
        | 3,hj=>
         have h0:=tmps_at ((hd _ rfl ⟨2,.data⟩ (by simp) rfl).2.eq (.pointer (some ⟨r,0,none⟩)) (fun _ h=>h) 93 (by kernel_rfl) (by decide))
         have hst5:PB w0 r tv L en s3 W:=by have h:=hst;simp only [hdj] at h;exact h
         have hcall:=pnameW W hst5
         rw [HM.out] at hcall
         clear hother hd hj hrw
         refine kig_call rfl rfl 76 #[.pointer (some ⟨r,0,none⟩)] (by simp only [execOp];go_simp) (hcall.mono ?_)
         rintro e8 w8 ⟨rfl,hp8,hg8⟩
         exact ⟨_,rfl,hg8,rfl,hp8⟩
        | 4,hj=>
         have h0:=tmps_at (show A.eval (.tmp 5) = .pointer (some ⟨g,0,none⟩) from hother 5 (by kernel_rfl))
         clear hother hd hj hrw
         exact kig_same rfl rfl (.pointer (some ⟨g,4,none⟩)) (by simp only [execOp];go_simp) rfl hst
        | k + 5,hj=>omega
       ·intro us W hgW hst hk
        have u0:us 0 = .pointer (some ⟨g,5,none⟩):=hk 0 (by decide)
        have u1:us 1 = .string T.s:=hk 1 (by decide)
        have u2:us 2 = .pointer (some ⟨r,0,none⟩):=hk 2 (by decide)
        have u3:us 3 = .string m:=hk 3 (by decide)
        have u4:us 4 = .pointer (some ⟨g,4,none⟩):=hk 4 (by decide)
        have HPW:Hid (PX w0 r tv L en w g s4 (.mk 2 V00 ⟨#[]⟩ T.s 0 []) #[.int .u8 2,.int .u8 0,.int .i64 0,.string ⟨#[]⟩,.string ⟨#[]⟩,.string T.s,.int .i64 0,.slice none 0 0] W):=Lib.hid (HPX7.out.grown hgW hst)
        clear hk hst hgW hgw
        simp only [List.drop_succ_cons,List.drop_zero,putAll,dstOf,Act.put,List.getElem?_toArray,List.getElem?_cons_zero,List.getElem?_cons_succ,Option.bind_some]
        simp only [List.setIfInBounds_toArray,List.set_cons_zero,List.set_cons_succ]
        rw [u0,u1,u2,u3,u4]
        have hrw:=HPW.out.row
        have c4:=hrw.cell (i:=4) (v:=.string ⟨#[]⟩) rfl
        have c5:=hrw.cell (i:=5) (v:=.string T.s) rfl
        have f4:=hrw.free 4
        have f5:=hrw.free 5
        have HPX9:Hid (PX w0 r tv L en w g s4 (.mk 2 V00 T.s m 0 []) #[.int .u8 2,.int .u8 0,.int .i64 0,.string ⟨#[]⟩,.string T.s,.string m,.int .i64 0,.slice none 0 0] ((W.setCell ⟨g,4,none⟩ (.string T.s)).setCell ⟨g,5,none⟩ (.string m))):=Lib.hid (by
         have h1:=setCell_eq_setRow W g 4 _ _ _ (.string T.s) hrw
         have h2:=hrw.set (#[.int .u8 2,.int .u8 0,.int .i64 0,.string ⟨#[]⟩,.string ⟨#[]⟩,.string T.s,.int .i64 0,.slice none 0 0].setIfInBounds 4 (.string T.s))
         rw [h1,setCell_eq_setRow _ g 5 _ _ _ (.string m) h2]
         have h3:=h2.set ((#[.int .u8 2,.int .u8 0,.int .i64 0,.string ⟨#[]⟩,.string ⟨#[]⟩,.string T.s,.int .i64 0,.slice none 0 0].setIfInBounds 4 (.string T.s)).setIfInBounds 5 (.string m))
         have hg:=HPW.out.hg
         have hr:=HPW.out.pr.hr
         exact ⟨(HPW.out.pr.other (by omega) (by omega) _).other (by omega) (by omega) _,h3,col_ex T.s m,hg⟩)
        clear hrw u0 u1 u2 u3 u4
        go_upto_region 26 with fail
        clear c4 c5 f4 f5
        generalize (W.setCell ⟨g,4,none⟩ (.string T.s)).setCell ⟨g,5,none⟩ (.string m)=w9 at *
        have HP9:=Lib.hid HPX9.out.pr
        have hb9:=HPX9.out.row.b (n:=8) rfl
        have ho9:=HPX9.out.row.of
        have hrb:=HP9.out.rb
        go_wp2_with fail
        exact bodyPost_ret (v:=.agg #[.int .u8 2,.int .u8 0,.int .i64 0,.string ⟨#[]⟩,.string T.s,.string m,.int .i64 0,.slice none 0 0]) (res_row Tryz.results160 ex_struct ex_size _ _ (w.heap.size + 1) _ _ rfl (HP9.out.rs.set _) rfl) rfl ⟨_,rfl,by rw [HZ7.out];exact HP9.out.fin (HPX9.out.ex) (fun b h=>⟨h.1,h.2.1⟩)⟩
     ·have hl:=lit_none h0 (by rw [HTT.out];exact h3) (by rw [HTT.out];exact h4) (by rw [HTT.out];exact h5)
      have HZG:Hid (Z=(bnd (isM L en WNULL) fun b=>if b then ret (PE.val1 V00)
              else bnd (isM L en BOPEN) fun b=>if b then bnd (exF L en FU .expr) fun x=>bnd (mustM L en [BCLOSE]) fun _=>ret x
              else bnd (isM L en WCOUNT) fun b=>if b then
               (bnd (mustM L en [BOPEN]) fun _=>bnd (isM L en BSTAR) fun b=>if b then bnd (mustM L en [BCLOSE]) fun _=>ret (PE.node 20 [])
                else bnd (exF L en FU .expr) fun x=>bnd (mustM L en [BCLOSE]) fun _=>ret (PE.node 20 [x]))
              else bnd (oneOf L en groups) fun o=>match o with
               | some o=>bnd (mustM L en [BOPEN]) fun _=>bnd (exF L en FU .expr) fun x=>bnd (mustM L en [BCLOSE]) fun _=>ret (PE.node o [x])
               | none=>bnd (failM L en 6) fun _=>ret PE.zero) s):=Lib.hid (by
       rw [HZ.out,fu_prim HKL.out.1 HKL.out.2,bndE hl]
       show bnd (nameQ L en) _ s=_
       rw [bndE (nameQ_no (by rw [HTT.out];exact h2))]
       rfl)
      have e3:((T.k:Int) == 3)=false:=by simp;omega
      have e4:((T.k:Int) == 4)=false:=by simp;omega
      have e5:((T.k:Int) == 5)=false:=by simp;omega
      have e2:((T.k:Int) == 2)=false:=by simp;omega
      clear h0 d0 h2 h3 h4 h5 hl
      go_wp2_with fail
      refine HO.out.mono ?_
      rintro e4' w5 ⟨rfl,rfl⟩
      clear hrb
      have HI6:=Lib.hid (isW WNULL w4 HP4.out.pb)
      obtain ⟨B6,hB6⟩:∃ B,isB L en WNULL s=B:=⟨_,rfl⟩
      rw [isM_snd,hB6] at HI6
      have HB6:=Lib.hid hB6
      clear hB6
      cases B6
      ·go_wp2_with fail
       refine HI6.out.mono ?_
       rintro e6 w6 ⟨rfl,hp6,hg6⟩
       have HP6:Hid (PR w0 r tv L en w s w6):=Lib.hid (HP4.out.grown hg6 hp6)
       clear hp6 hg6 HI6 hq q0 q1 q2 e2 e3 e4 e5
       have hq:=HP6.out.cell
       have HI7:=Lib.hid (isW BOPEN w6 HP6.out.pb)
       obtain ⟨B7,hB7⟩:∃ B,isB L en BOPEN s=B:=⟨_,rfl⟩
       rw [isM_snd,hB7] at HI7
       have HB7:=Lib.hid hB7
       clear hB7
       cases B7
       ·go_wp2_with fail
        refine HI7.out.mono ?_
        rintro e7 w7 ⟨rfl,hp7,hg7⟩
        have HP7:Hid (PR w0 r tv L en w s w7):=Lib.hid (HP6.out.grown hg7 hp7)
        clear hp7 hg7 HI7 hq
        have hq:=HP7.out.cell
        have HI8:=Lib.hid (isW WCOUNT w7 HP7.out.pb)
        obtain ⟨B8,hB8⟩:∃ B,isB L en WCOUNT s=B:=⟨_,rfl⟩
        rw [isM_snd,hB8] at HI8
        have HB8:=Lib.hid hB8
        clear hB8
        cases B8
        ·go_wp2_with fail
         refine HI8.out.mono ?_
         rintro e8 w8 ⟨rfl,hp8,hg8⟩
         have HP8:Hid (PR w0 r tv L en w s w8):=Lib.hid (HP7.out.grown hg8 hp8)
         clear hp8 hg8 HI8 hq
         have hq:=HP8.out.cell
         have HZL:Hid (Z=(bnd (oneOf L en groups) fun o=>match o with
          | some o=>bnd (mustM L en [BOPEN]) fun _=>bnd (exF L en FU .expr) fun x=>bnd (mustM L en [BCLOSE]) fun _=>ret (PE.node o [x])
          | none=>bnd (failM L en 6) fun _=>ret PE.zero) s):=Lib.hid (by rw [HZG.out,isN HB6.out,if_neg Bool.false_ne_true,isN HB7.out,if_neg Bool.false_ne_true,isN HB8.out,if_neg Bool.false_ne_true])
         go_wp2_with fail
         clear hq
         go_loopg [15] 3 (fun gk iv wr=>∃ (i:Nat),iv = .int .i64 (i:Int)∧gk=3 - i∧i ≤ 3∧Hid (PR w0 r tv L en w s wr)∧Hid (oneOf L en groups s=oneOf L en (groups.drop i) s))
         case atStart=>exact ⟨0,rfl,rfl,by decide,HP8,Lib.hid rfl⟩
         case round=>
          obtain ⟨i,rfl,rfl,hi,HP,HOI⟩:=hrel
          have hq:=HP.out.cell
          by_cases hlt:i < 3
          ·obtain ⟨⟨t,o⟩,ht⟩:∃ q,groups[i]? = some q:=⟨groups[i]'(by show i < 3;exact hlt),by simp⟩
           have hd:groups.drop i=(t,o) :: groups.drop (i + 1):=by
            rw [List.drop_eq_getElem_cons (show i < groups.length from hlt),(List.getElem?_eq_some_iff.1 ht).2]
           obtain ⟨hop,_⟩:=grp_op i _ ht
           have HO2:Hid (oneOf L en groups s=oneOf L en ((t,o) :: groups.drop (i + 1)) s):=Lib.hid (by rw [← hd];exact HOI.out)
           have hix:∀ W,(Instr.index 184 (.agg #[.string WSUM,.string WMIN,.string WMAX]) (.int .i64 (i:Int))).run Tryz.prog W = .ok (.string t) W:=grp_index i (t,o) ht
           have ilt:(i:Int) < 3:=by omega
           have ige:(0:Int) ≤ (i:Int):=by omega
           have HLTI:=Lib.hid hlt
           have HOP:Hid (o=21 + i):=Lib.hid hop
           clear hd ht hlt hop
           have HI9:=Lib.hid (isW t wr HP.out.pb)
           obtain ⟨B9,hB9⟩:∃ B,isB L en t s=B:=⟨_,rfl⟩
           rw [isM_snd,hB9] at HI9
           have HB9:=Lib.hid hB9
           clear hB9
           cases B9
           ·go_wp2_with fail
            refine HI9.out.mono ?_
            rintro e9 w9 ⟨rfl,hp9,hg9⟩
            have HP9:Hid (PR w0 r tv L en w s w9):=Lib.hid (HP.out.grown hg9 hp9)
            clear hp9 hg9 HI9 hq hix
            have hq:=HP9.out.cell
            have HNO:Hid (oneOf L en groups s=oneOf L en (groups.drop (i + 1)) s):=Lib.hid (by rw [HO2.out,oneOf_no HB9.out])
            go_wp2_with fail
            go_roundg (3 - (i + 1))
            case measure=>exact Nat.sub_lt_sub_left HLTI.out (Nat.lt_succ_self _)
            case rel=>exact ⟨i + 1,by go_num,rfl,HLTI.out,HP9,HNO⟩
           ·go_wp2_with fail
            refine HI9.out.mono ?_
            rintro e9 w9 ⟨rfl,hp9,hg9⟩
            have HP9:Hid (PR w0 r tv L en w (s).next w9):=Lib.hid (HP.out.grown hg9 hp9)
            clear hp9 hg9 HI9 hq hix
            have hq:=HP9.out.cell
            obtain ⟨s1,hs1⟩:∃ z,(mustM L en [BOPEN] s.next).2=z:=⟨_,rfl⟩
            have HM10:=Lib.hid (mustLit BOPEN w9 HP9.out.pb)
            rw [hs1] at HM10
            have Hs1:Hid (mustM L en [BOPEN] s.next=((),s1)):=Lib.hid (by rw [← hs1])
            have HKs1:Hid ((s.next).k ≤ s1.k):=Lib.hid (by rw [← hs1];exact (must_mono [BOPEN] _).1)
            clear hs1
            go_wp2_with fail
            refine HM10.out.mono ?_
            rintro e10 w10 ⟨rfl,hp10,hg10⟩
            have HP10:Hid (PR w0 r tv L en w s1 w10):=Lib.hid (HP9.out.grown hg10 hp10)
            clear hp10 hg10 HM10 hq
            have hq:=HP10.out.cell
            obtain ⟨⟨x,s2⟩,hx11⟩:∃ z,exF L en FU .expr s1=z:=⟨_,rfl⟩
            have hc11:=HH.out (s1) (Nat.lt_of_lt_of_le (Nat.lt_succ_self _) HKs1.out) w10 HP10.out.pb
            rw [hx11] at hc11
            have HC11:Hid (Calls Tryz.prog 31 #[.pointer (some ⟨r,0,none⟩)] w10 _):=Lib.hid hc11
            have HX11:=Lib.hid hx11
            clear hc11 hx11
            go_wp2_with fail
            refine HC11.out.mono ?_
            rintro e11 v11 ⟨v,rfl,hn11,hp11,hg11⟩
            obtain ⟨c,rfl,hc11⟩:=ExN.of hn11
            have hok11:=hc11.ok
            have HPX11:=Lib.hid (PX.new (HP10.out.grown hg11 hp11) hc11 (by have:=HP10.out.rs.lt;omega) hg11.size)
            clear hn11 hp11 hg11 hc11 HC11 hq
            go_upto_region 9 with fail
            generalize v11.alloc (.cells c 48)=w11 at *
            generalize v11.heap.size=g11 at *
            clear hok11
            have HP11:=Lib.hid HPX11.out.pr
            have hq:=HP11.out.cell
            obtain ⟨s3,hs3⟩:∃ z,(mustM L en [BCLOSE] s2).2=z:=⟨_,rfl⟩
            have HM12:=Lib.hid (mustLit BCLOSE w11 HP11.out.pb)
            rw [hs3] at HM12
            have Hs3:Hid (mustM L en [BCLOSE] s2=((),s3)):=Lib.hid (by rw [← hs3])
            have HKs3:Hid ((s2).k ≤ s3.k):=Lib.hid (by rw [← hs3];exact (must_mono [BCLOSE] _).1)
            clear hs3
            go_wp2_with fail
            refine HM12.out.mono ?_
            rintro e12 w12 ⟨rfl,hp12,hg12⟩
            have HP12:Hid (PR w0 r tv L en w s3 w12):=Lib.hid (HP11.out.grown hg12 hp12)
            have hgx:=hg12
            have hpx:=hp12
            clear hp12 hg12 HM12 hq
            have hq:=HP12.out.cell
            have HZ12:Hid (Z=(PE.node o [x],s3)):=Lib.hid (by rw [HZL.out,bndE (x:=some o) (s1:=s.next) (by rw [HO2.out,oneOf_yes HB9.out])];show bnd _ _ s.next=_;rw [bndE Hs1.out,bndE HX11.out,bndE Hs3.out];rfl)
            have hoo:(o:Int)=21 + (i:Int):=by have:=HOP.out;omega
            have HPX12:=Lib.hid (HPX11.out.grown hgx hpx)
            clear hgx hpx
            have hrb:=HP12.out.rb
            have hb12:=HPX12.out.row.b (n:=8) HPX12.out.ex.size
            have ho12:=HPX12.out.row.of
            have hk12:=HPX12.out.ex.ok
            have HN12:=Lib.hid (node1W o HPX12.out.ex (by have:=HPX12.out.hsz;have:=HPX12.out.row.lt;omega))
            rw [hoo] at HN12
            clear hoo
            go_wp2_with fail
            refine HN12.out.mono ?_
            rintro ez wz ⟨d,rfl,hokd,hxz,hbz⟩
            have HPZ:=Lib.hid (HP12.out.later hbz)
            have HXZ:=Lib.hid hxz
            clear hxz hbz hq hrb hb12 ho12 hk12
            have hrb:=HPZ.out.rb
            go_wp2_with fail
            exact bodyPost_ret (v:=.agg d) (res_row Tryz.results160 ex_struct ex_size _ _ (w.heap.size + 1) _ _ rfl (HPZ.out.rs.set _) (okRow_iff.1 hokd).1) rfl ⟨_,rfl,by rw [HZ12.out];exact HPZ.out.fin (HXZ.out) (fun b h=>⟨h.1,h.2.1⟩)⟩
          ·obtain rfl:i=3:=by omega
           have HZ9:Hid (Z=(PE.zero,failP L en 6 s)):=Lib.hid (by rw [HZL.out,bndE (x:=none) (s1:=s) (by rw [HOI.out];rfl)];rfl)
           have HF:=Lib.hid (failW wr 6 HP.out.pb)
           clear hlt hi
           go_wp2_with fail
           refine HF.out.mono ?_
           rintro e5 w9 ⟨rfl,hp9,hg9⟩
           have HP9:=Lib.hid (HP.out.grown hg9 hp9)
           clear hp9 hg9 hq
           have hrb:=HP9.out.rb
           go_wp2_with fail
           exact bodyPost_ret (v:=.agg exZ) (res_row Tryz.results160 ex_struct ex_size _ _ (w.heap.size + 1) _ _ rfl (HP9.out.rs.set _) rfl) rfl ⟨_,rfl,by rw [HZ9.out];exact HP9.out.fin (zero_ex (S:=fun _=>False)) (fun b h=>h.elim)⟩
        ·go_wp2_with fail
         refine HI8.out.mono ?_
         rintro e8 w8 ⟨rfl,hp8,hg8⟩
         have HP8:Hid (PR w0 r tv L en w (s).next w8):=Lib.hid (HP7.out.grown hg8 hp8)
         clear hp8 hg8 HI8 hq
         have hq:=HP8.out.cell
         obtain ⟨s1,hs1⟩:∃ z,(mustM L en [BOPEN] s.next).2=z:=⟨_,rfl⟩
         have HM9:=Lib.hid (mustLit BOPEN w8 HP8.out.pb)
         rw [hs1] at HM9
         have Hs1:Hid (mustM L en [BOPEN] s.next=((),s1)):=Lib.hid (by rw [← hs1])
         have HKs1:Hid ((s.next).k ≤ s1.k):=Lib.hid (by rw [← hs1];exact (must_mono [BOPEN] _).1)
         clear hs1
         go_wp2_with fail
         refine HM9.out.mono ?_
         rintro e9 w9 ⟨rfl,hp9,hg9⟩
         have HP9:Hid (PR w0 r tv L en w s1 w9):=Lib.hid (HP8.out.grown hg9 hp9)
         clear hp9 hg9 HM9 hq
         have hq:=HP9.out.cell
         have HI10:=Lib.hid (isW BSTAR w9 HP9.out.pb)
         obtain ⟨B10,hB10⟩:∃ B,isB L en BSTAR s1=B:=⟨_,rfl⟩
         rw [isM_snd,hB10] at HI10
         have HB10:=Lib.hid hB10
         clear hB10
         cases B10
         ·go_wp2_with fail
          refine HI10.out.mono ?_
          rintro e10 w10 ⟨rfl,hp10,hg10⟩
          have HP10:Hid (PR w0 r tv L en w s1 w10):=Lib.hid (HP9.out.grown hg10 hp10)
          clear hp10 hg10 HI10 hq
          have hq:=HP10.out.cell
          obtain ⟨⟨x,s2⟩,hx11⟩:∃ z,exF L en FU .expr s1=z:=⟨_,rfl⟩
          have hc11:=HH.out (s1) (Nat.lt_of_lt_of_le (Nat.lt_succ_self _) HKs1.out) w10 HP10.out.pb
          rw [hx11] at hc11
          have HC11:Hid (Calls Tryz.prog 31 #[.pointer (some ⟨r,0,none⟩)] w10 _):=Lib.hid hc11
          have HX11:=Lib.hid hx11
          clear hc11 hx11
          go_wp2_with fail
          refine HC11.out.mono ?_
          rintro e11 v11 ⟨v,rfl,hn11,hp11,hg11⟩
          obtain ⟨c,rfl,hc11⟩:=ExN.of hn11
          have hok11:=hc11.ok
          have HPX11:=Lib.hid (PX.new (HP10.out.grown hg11 hp11) hc11 (by have:=HP10.out.rs.lt;omega) hg11.size)
          clear hn11 hp11 hg11 hc11 HC11 hq
          go_upto_region 39 with fail
          generalize v11.alloc (.cells c 48)=w11 at *
          generalize v11.heap.size=g11 at *
          clear hok11
          have HP11:=Lib.hid HPX11.out.pr
          have hq:=HP11.out.cell
          obtain ⟨s3,hs3⟩:∃ z,(mustM L en [BCLOSE] s2).2=z:=⟨_,rfl⟩
          have HM12:=Lib.hid (mustLit BCLOSE w11 HP11.out.pb)
          rw [hs3] at HM12
          have Hs3:Hid (mustM L en [BCLOSE] s2=((),s3)):=Lib.hid (by rw [← hs3])
          have HKs3:Hid ((s2).k ≤ s3.k):=Lib.hid (by rw [← hs3];exact (must_mono [BCLOSE] _).1)
          clear hs3
          go_wp2_with fail
          refine HM12.out.mono ?_
          rintro e12 w12 ⟨rfl,hp12,hg12⟩
          have HP12:Hid (PR w0 r tv L en w s3 w12):=Lib.hid (HP11.out.grown hg12 hp12)
          have hgx:=hg12
          have hpx:=hp12
          clear hp12 hg12 HM12 hq
          have hq:=HP12.out.cell
          have HZ12:Hid (Z=(PE.node 20 [x],s3)):=Lib.hid (by rw [HZG.out,isN HB6.out,if_neg Bool.false_ne_true,isN HB7.out,if_neg Bool.false_ne_true,isY HB8.out,if_pos rfl,bndE Hs1.out,isN HB10.out,if_neg Bool.false_ne_true,bndE HX11.out,bndE Hs3.out];rfl)
          have HPX12:=Lib.hid (HPX11.out.grown hgx hpx)
          clear hgx hpx
          have hrb:=HP12.out.rb
          have hb12:=HPX12.out.row.b (n:=8) HPX12.out.ex.size
          have ho12:=HPX12.out.row.of
          have hk12:=HPX12.out.ex.ok
          have HN12:=Lib.hid (node1W 20 HPX12.out.ex (by have:=HPX12.out.hsz;have:=HPX12.out.row.lt;omega))
          go_wp2_with fail
          refine HN12.out.mono ?_
          rintro ez wz ⟨d,rfl,hokd,hxz,hbz⟩
          have HPZ:=Lib.hid (HP12.out.later hbz)
          have HXZ:=Lib.hid hxz
          clear hxz hbz hq hrb hb12 ho12 hk12
          have hrb:=HPZ.out.rb
          go_wp2_with fail
          exact bodyPost_ret (v:=.agg d) (res_row Tryz.results160 ex_struct ex_size _ _ (w.heap.size + 1) _ _ rfl (HPZ.out.rs.set _) (okRow_iff.1 hokd).1) rfl ⟨_,rfl,by rw [HZ12.out];exact HPZ.out.fin (HXZ.out) (fun b h=>⟨h.1,h.2.1⟩)⟩
         ·go_wp2_with fail
          refine HI10.out.mono ?_
          rintro e10 w10 ⟨rfl,hp10,hg10⟩
          have HP10:Hid (PR w0 r tv L en w (s1).next w10):=Lib.hid (HP9.out.grown hg10 hp10)
          clear hp10 hg10 HI10 hq
          have hq:=HP10.out.cell
          obtain ⟨s3,hs3⟩:∃ z,(mustM L en [BCLOSE] s1.next).2=z:=⟨_,rfl⟩
          have HM11:=Lib.hid (mustLit BCLOSE w10 HP10.out.pb)
          rw [hs3] at HM11
          have Hs3:Hid (mustM L en [BCLOSE] s1.next=((),s3)):=Lib.hid (by rw [← hs3])
          have HKs3:Hid ((s1.next).k ≤ s3.k):=Lib.hid (by rw [← hs3];exact (must_mono [BCLOSE] _).1)
          clear hs3
          go_wp2_with fail
          refine HM11.out.mono ?_
          rintro e11 w11 ⟨rfl,hp11,hg11⟩
          have HP11:Hid (PR w0 r tv L en w s3 w11):=Lib.hid (HP10.out.grown hg11 hp11)
          clear hp11 hg11 HM11 hq
          have hq:=HP11.out.cell
          have HZ11:Hid (Z=(PE.node 20 [],s3)):=Lib.hid (by rw [HZG.out,isN HB6.out,if_neg Bool.false_ne_true,isN HB7.out,if_neg Bool.false_ne_true,isY HB8.out,if_pos rfl,bndE Hs1.out,isY HB10.out,if_pos rfl,bndE Hs3.out];rfl)
          have hrb:=HP11.out.rb
          go_wp2_with fail
          exact bodyPost_ret (v:=.agg #[.int .u8 20,.int .u8 0,.int .i64 0,.string ⟨#[]⟩,.string ⟨#[]⟩,.string ⟨#[]⟩,.int .i64 0,.slice none 0 0]) (res_row Tryz.results160 ex_struct ex_size _ _ (w.heap.size + 1) _ _ rfl (HP11.out.rs.set _) rfl) rfl ⟨_,rfl,by rw [HZ11.out];exact HP11.out.fin (node0_ex (S:=fun _=>False) 20) (fun b h=>h.elim)⟩
       ·go_wp2_with fail
        refine HI7.out.mono ?_
        rintro e7 w7 ⟨rfl,hp7,hg7⟩
        have HP7:Hid (PR w0 r tv L en w (s).next w7):=Lib.hid (HP6.out.grown hg7 hp7)
        clear hp7 hg7 HI7 hq
        have hq:=HP7.out.cell
        obtain ⟨⟨x,s1⟩,hx8⟩:∃ z,exF L en FU .expr s.next=z:=⟨_,rfl⟩
        have hc8:=HH.out (s.next) (Nat.lt_succ_self _) w7 HP7.out.pb
        rw [hx8] at hc8
        have HC8:Hid (Calls Tryz.prog 31 #[.pointer (some ⟨r,0,none⟩)] w7 _):=Lib.hid hc8
        have HX8:=Lib.hid hx8
        clear hc8 hx8
        go_wp2_with fail
        refine HC8.out.mono ?_
        rintro e8 v8 ⟨v,rfl,hn8,hp8,hg8⟩
        obtain ⟨c,rfl,hc8⟩:=ExN.of hn8
        have hok8:=hc8.ok
        have HPX8:=Lib.hid (PX.new (HP7.out.grown hg8 hp8) hc8 (by have:=HP7.out.rs.lt;omega) hg8.size)
        clear hn8 hp8 hg8 hc8 HC8 hq
        go_upto_region 31 with fail
        generalize v8.alloc (.cells c 48)=w8 at *
        generalize v8.heap.size=g8 at *
        clear hok8
        have HP8:=Lib.hid HPX8.out.pr
        have hq:=HP8.out.cell
        obtain ⟨s2,hs2⟩:∃ z,(mustM L en [BCLOSE] s1).2=z:=⟨_,rfl⟩
        have HM9:=Lib.hid (mustLit BCLOSE w8 HP8.out.pb)
        rw [hs2] at HM9
        have Hs2:Hid (mustM L en [BCLOSE] s1=((),s2)):=Lib.hid (by rw [← hs2])
        have HKs2:Hid ((s1).k ≤ s2.k):=Lib.hid (by rw [← hs2];exact (must_mono [BCLOSE] _).1)
        clear hs2
        go_wp2_with fail
        refine HM9.out.mono ?_
        rintro e9 w9 ⟨rfl,hp9,hg9⟩
        have HP9:Hid (PR w0 r tv L en w s2 w9):=Lib.hid (HP8.out.grown hg9 hp9)
        have hgx:=hg9
        have hpx:=hp9
        clear hp9 hg9 HM9 hq
        have hq:=HP9.out.cell
        have HPX9:=Lib.hid (HPX8.out.grown hgx hpx)
        clear hgx hpx
        have HZ9:Hid (Z=(x,s2)):=Lib.hid (by rw [HZG.out,isN HB6.out,if_neg Bool.false_ne_true,isY HB7.out,if_pos rfl,bndE HX8.out,bndE Hs2.out];rfl)
        have hb9:=HPX9.out.row.b (n:=8) HPX9.out.ex.size
        have ho9:=HPX9.out.row.of
        have hk9:=HPX9.out.ex.ok
        have hokd:=hk9
        have hrb:=HP9.out.rb
        go_wp2_with fail
        exact bodyPost_ret (v:=.agg c) (res_row Tryz.results160 ex_struct ex_size _ _ (w.heap.size + 1) _ _ rfl (HP9.out.rs.set _) (okRow_iff.1 hokd).1) rfl ⟨_,rfl,by rw [HZ9.out];exact HP9.out.fin (HPX9.out.ex) (fun b h=>⟨h.1,h.2.1⟩)⟩
      ·go_wp2_with fail
       refine HI6.out.mono ?_
       rintro e6 w6 ⟨rfl,hp6,hg6⟩
       have HP6:Hid (PR w0 r tv L en w (s).next w6):=Lib.hid (HP4.out.grown hg6 hp6)
       clear hp6 hg6 HI6 hq q0 q1 q2 e2 e3 e4 e5
       have hq:=HP6.out.cell
       have HZ6:Hid (Z=(PE.val1 V00,s.next)):=Lib.hid (by rw [HZG.out,isY HB6.out];rfl)
       have hrb:=HP6.out.rb
       go_wp2_with fail
       exact bodyPost_ret (v:=.agg #[.int .u8 1,.int .u8 0,.int .i64 0,.string ⟨#[]⟩,.string ⟨#[]⟩,.string ⟨#[]⟩,.int .i64 0,.slice none 0 0]) (res_row Tryz.results160 ex_struct ex_size _ _ (w.heap.size + 1) _ _ rfl (HP6.out.rs.set _) rfl) rfl ⟨_,rfl,by rw [HZ6.out];exact HP6.out.fin (val_ex (S:=fun _=>False) V00) (fun b h=>h.elim)⟩
 ·have d0:decide (s.e=0)=false:=decide_eq_false h0
  rw [d0] at HO
  have HZ1:=Lib.hid (HLB.out h0)
  clear h0 d0
  go_wp2_with fail
  refine HO.out.mono ?_
  rintro e4 w5 ⟨rfl,rfl⟩
  go_wp2_with fail
  exact bodyPost_ret (v:=.agg exZ) (res_row Tryz.results160 ex_struct ex_size _ _ (w.heap.size + 1) _ _ rfl (HP4.out.rs.set _) rfl) rfl ⟨_,rfl,by rw [HZ1.out];exact HP4.out.fin (x:=PE.zero) (S:=fun b=>False) ⟨rfl,by simp [Value.oneCell'],fun u _=>exR_iff.2 ⟨_,rfl,SlR.nil _ _ _⟩⟩ (fun b h=>h.elim)⟩
end
end Go.Proofs.YtmdogmpcmkfjpaaGreatDoor.Dt
