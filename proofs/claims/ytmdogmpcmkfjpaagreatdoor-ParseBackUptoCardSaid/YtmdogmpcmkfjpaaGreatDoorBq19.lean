import Derived.Test.YtmdogmpcmkfjpaaGreatDoorBq18
set_option maxRecDepth 100000
set_option maxHeartbeats 64000000
/- Part. -/
namespace Go.Proofs.YtmdogmpcmkfjpaaGreatDoor.Dt
open Go.RowKit Go.Proofs.YtmdogmpcmkfjpaaGreatDoor.By
attribute [local go_sem ↓] Zbv Zcb Zd9 Zhd
attribute [local go_sem] Zc6 Zbx Zc7 Zfg Value.oneCell' Zfq Zi6 Zhv Zq3
section
variable {w0:World} {r:Nat} {tv:Value} {L:List Tk} {en:Int} {s:PS}
structure PR (w0:World) (r:Nat) (tv:Value) (L:List Tk) (en:Int) (w:World) (s:PS) (W:World):Prop where
 pb:PB w0 r tv L en s W
 gr:w.grownBy W (some r)
 bx:Row w.heap.size 75 #[pV r] W
 rs:Row (w.heap.size + 1) 48 exZ W
 hr:r < w.heap.size
theorem PR.grown {w W W':World} {s s':PS} (h:PR w0 r tv L en w s W) (k:W.grownBy W' (some r)) (hp:PB w0 r tv L en s' W'):PR w0 r tv L en w s' W':=by
 have h3:=h.hr
 exact ⟨hp,Za h.gr k,h.bx.grown k kW,h.rs.grown k kW,h3⟩
theorem PR.later {w W W':World} {s:PS} (h:PR w0 r tv L en w s W) (k:Below W.heap.size W W'):PR w0 r tv L en w s W':=h.grown (below_grown k) (h.pb.later k)
theorem PR.cell {w W:World} {s:PS} (h:PR w0 r tv L en w s W):W.cell? ⟨w.heap.size,0,none⟩=some (pV r):=h.bx.cell rfl
theorem PR.rb {w W:World} {s:PS} (h:PR w0 r tv L en w s W):Zj1 8 W (w.heap.size + 1)=true:=h.rs.b rfl
theorem PR.fin {w W:World} {s:PS} (h:PR w0 r tv L en w s W) {S:Nat→Prop} {c:Array Value} {x:PE} (hx:ExD S W c x) (hS:∀ b,S b→w.heap.size ≤ b∧b ≠ w.heap.size + 1) :
 New w.heap.size (W.setRow (w.heap.size + 1) c) (fun u=>ExV u (.agg c) x)∧PB w0 r tv L en s (W.setRow (w.heap.size + 1) c)∧w.grownBy (W.setRow (w.heap.size + 1) c) (some r):=
 ⟨Zkg hx (fun h=>(hS _ h).2 rfl) (fun b h=>(hS b h).1) c,h.pb.other (Zi _ _ c) (by have:=h.hr;omega),Zn h.gr kW c⟩
theorem lit_bad (h:s.e ≠ 0):litM L en s=(some PE.zero,s):=by unfold litM;rw [if_pos h]
theorem lit_int (h:s.e=0) (hk:(Zag L en s.k).k=3) (hn:(Zag L en s.k).n < 9223372036854775808):litM L en s=(some (PE.val1 ⟨1,((Zag L en s.k).n:Int),⟨#[]⟩⟩),s.next):=by
 unfold litM;rw [if_neg (by simp [h])];rw [if_pos hk,if_pos hn]
theorem Zu7 (h:s.e=0) (hk:(Zag L en s.k).k=3) (hn:¬ (Zag L en s.k).n < 9223372036854775808):litM L en s=(some PE.zero,Zem L en 5 s):=by
 unfold litM;rw [if_neg (by simp [h])];rw [if_pos hk,if_neg hn]
theorem lit_text (h:s.e=0) (hk:(Zag L en s.k).k=4):litM L en s=(some (PE.val1 ⟨2,0,(Zag L en s.k).s⟩),s.next):=by
 unfold litM;rw [if_neg (by simp [h])];rw [if_neg kW,if_pos hk]
theorem lit_blob (h:s.e=0) (hk:(Zag L en s.k).k=5):litM L en s=(some (PE.val1 ⟨3,0,(Zag L en s.k).s⟩),s.next):=by
 unfold litM;rw [if_neg (by simp [h])];rw [if_neg kW,if_neg kW,if_pos hk]
theorem Zq8 (h:s.e=0) (h3:(Zag L en s.k).k ≠ 3) (h4:(Zag L en s.k).k ≠ 4) (h5:(Zag L en s.k).k ≠ 5):litM L en s=(none,s):=by
 unfold litM;rw [if_neg (by simp [h])];rw [if_neg h3,if_neg h4,if_neg h5]
theorem Zwd {x:PE} {s1:PS} (hk:s.k ≤ L.length) (hl:L.length ≤ 4096) (h:litM L en s=(some x,s1)):exF L en FU .prim s=(x,s1):=by rw [Zp4 hk hl,Za1 h];rfl
theorem Zuy (h:s.e=0) (hk:(Zag L en s.k).k=2):nameQ L en s=(some (Zag L en s.k).s,s.next):=by unfold nameQ;rw [if_pos ⟨h,hk⟩]
theorem nameQ_no (hk:(Zag L en s.k).k ≠ 2):nameQ L en s=(none,s):=by unfold nameQ;rw [if_neg (fun e=>hk e.2)]
theorem Zuz (h:s.e=0) (hk:(Zag L en s.k).k=2):nameM L en s=((Zag L en s.k).s,s.next):=by unfold nameM;rw [if_pos ⟨h,hk⟩]
theorem Row.free {g:Nat} {t:TypeId} {cs:Array Value} {w:World} (h:Row g t cs w) (i:Nat):w.frozen? ⟨g,i,none⟩=false:=by
 unfold World.frozen?
 rw [h]
 simp
theorem PR.other {w W:World} {s:PS} {g:Nat} (h:PR w0 r tv L en w s W) (hg:w.heap.size ≤ g) (hg2:w.heap.size + 2 ≤ g) (d:Array Value):PR w0 r tv L en w s (W.setRow g d):=by
 have h3:=h.hr
 exact ⟨h.pb.other (Zi W g d) kW,Zn h.gr hg d,(setRow_other W g _ d kW).trans h.bx,(setRow_other W g _ d kW).trans h.rs,h3⟩
theorem col_ex {S:Nat→Prop} {w:World} (t m:ByteArray):ExD S w #[.int .u8 2,.int .u8 0,iZ,eS,.string t,.string m,iZ,nS] (.mk 2 V00 t m 0 []):=
 ⟨rfl,by simp [Value.oneCell'],fun u _=>Zby.2 ⟨_,rfl,SlR.nil _ _ _⟩⟩
def ColKn (g r:Nat) (t m:ByteArray) (j:Nat) (v:Value) (_:World):Prop:=match j with
 | 0=>v = .pointer (some ⟨g,5,none⟩)
 | 1=>v = .string t
 | 2=>v = pV r
 | 3=>v = .string m
 | _=>v = .pointer (some ⟨g,4,none⟩)
theorem Zvn (a b c:Value) (W:World):(Instr.index 184 (.agg #[a,b,c]) (iZ)).run Tryz.prog W = .ok a W:=kR
theorem Zvm (a b c:Value) (W:World):(Instr.index 184 (.agg #[a,b,c]) (.int .i64 1)).run Tryz.prog W = .ok b W:=kR
theorem Zvl (a b c:Value) (W:World):(Instr.index 184 (.agg #[a,b,c]) (.int .i64 2)).run Tryz.prog W = .ok c W:=kR
theorem Zvo (i:Nat) (x:ByteArray × Nat) (h:groups[i]? = some x) (W:World):(Instr.index 184 (.agg #[.string Zm5,.string Zm6,.string Zm7]) (.int .i64 (i:Int))).run Tryz.prog W = .ok (.string x.1) W:=by
 match i,h with
 | 0,h=>cases h;exact Zvn _ _ _ W
 | 1,h=>cases h;exact Zvm _ _ _ W
 | 2,h=>cases h;exact Zvl _ _ _ W
 | _ + 3,h=>simp [groups] at h
theorem grp_op (i:Nat) (x:ByteArray × Nat) (h:groups[i]? = some x):x.2=21 + i∧i < 3:=by
 match i,h with
 | 0,h=>cases h;exact ⟨rfl,by decide⟩
 | 1,h=>cases h;exact ⟨rfl,by decide⟩
 | 2,h=>cases h;exact ⟨rfl,by decide⟩
 | _ + 3,h=>simp [groups] at h
theorem Zs8 {S:Nat→Prop} {w:World} : ExD S w exZ PE.zero:=⟨rfl,by simp [Value.oneCell'],fun u _=>Zby.2 ⟨_,rfl,SlR.nil _ _ _⟩⟩
theorem node0_ex {S:Nat→Prop} {w:World} (op:Nat):ExD S w #[.int .u8 (op:Int),.int .u8 0,iZ,eS,eS,eS,iZ,nS] (PE.node op []):=⟨rfl,by simp [Value.oneCell'],fun u _=>Zby.2 ⟨_,rfl,SlR.nil _ _ _⟩⟩
structure PX (w0:World) (r:Nat) (tv:Value) (L:List Tk) (en:Int) (w:World) (g:Nat) (s:PS) (x:PE) (c:Array Value) (W:World):Prop where
 pr:PR w0 r tv L en w s W
 row:Row g 48 c W
 ex:ExD (fun b=>w.heap.size ≤ b∧b ≠ w.heap.size + 1∧b ≠ g) W c x
 hg:w.heap.size + 2 ≤ g
theorem PX.grown {w W W':World} {g:Nat} {s s':PS} {x:PE} {c:Array Value} (h:PX w0 r tv L en w g s x c W) (k:W.grownBy W' (some r)) (hp:PB w0 r tv L en s' W'):PX w0 r tv L en w g s' x c W':=by
 have h1:=h.hg
 have h3:=h.pr.hr
 exact ⟨h.pr.grown k hp,h.row.grown k kW,h.ex.grown k kW,h1⟩
theorem PX.hsz {w W:World} {g:Nat} {s:PS} {x:PE} {c:Array Value} (h:PX w0 r tv L en w g s x c W):w.heap.size + 2 ≤ W.heap.size:=by have:=h.hg;have:=h.row.lt;omega
theorem PX.new {w W:World} {n:Nat} {s:PS} {x:PE} {c:Array Value} (h:PR w0 r tv L en w s W) (hx:ExN n W c x) (hn:w.heap.size + 2 ≤ n) (hW:n ≤ W.heap.size):PX w0 r tv L en w W.heap.size s x c (W.alloc (.cells c 48)):=by
 have hb:=(Below.refl _ W).alloc (Nat.le_refl _) (.cells c 48)
 exact ⟨h.later hb,Zc _ _ _,(hx.step (Nat.le_refl _) (fun b h1 h2=>⟨⟨by omega,by omega,by omega⟩,rfl⟩)).later hb,by omega⟩
theorem primW (H:∀ s',s.k < s'.k→EX w0 r tv L en .expr s'):EX w0 r tv L en .prim s:=by
 intro w h
 obtain ⟨Z,hZ⟩:∃ Z,Z=exF L en FU .prim s:=⟨_,rfl⟩
 rw [← hZ]
 have HKL:=Lh (And.intro h.hk h.hl)
 have hb:Below w.heap.size w ((w.alloc (.cells #[pV r] 75)).alloc (.cells exZ 48)):=by go_grown
 have HP1:Hid (PR w0 r tv L en w s ((w.alloc (.cells #[pV r] 75)).alloc (.cells exZ 48))):=Lh ⟨h.later hb,below_grown hb,(Zc _ _ _).later (bA),by
  have:=Zc (w.alloc (.cells #[pV r] 75)) 48 exZ
  simpa using this,h.lt⟩
 have HZ:=Lh hZ
 have HH:=Lh H
 clear h H hb hZ
 show Calls _ 160 #[pV r] _ _
 go_enter Tryz.func160,Tryz.ntmps160
 go_upto_region 1 with fail
 generalize (w.alloc (.cells #[pV r] 75)).alloc (.cells exZ 48)=w1 at *
 have hq:=HP1.out.cell
 have HT:=Lh (Zk9 w1 HP1.out.pb)
 go_wp2_with fail
 refine HT.out.mono ?_
 rintro e3 w3 ⟨rfl,hb3⟩
 have hb4:=next hb3 ((Below.refl _ w3).alloc (Nat.le_refl _) (.cells (tkC (Zag L en s.k)) 128))
 have HP4:=Lh (HP1.out.later hb4)
 have hR:=Zc w3 128 (tkC (Zag L en s.k))
 have q0:=hR.cell (i:=0) (v:=.int .u8 ((Zag L en s.k).k:Int)) rfl
 have q1:=hR.cell (i:=1) (v:=.string (Zag L en s.k).s) rfl
 have q2:=hR.cell (i:=2) (v:=.int .u64 ((Zag L en s.k).n:Int)) rfl
 have HRT:=Lh hR
 have HNR:=Lh (Nat.ne_of_gt (HP1.out.pb.later hb3).lt)
 have HZB:Hid (∀ x s1,litM L en s=(some x,s1)→Z=(x,s1)):=Lh (fun x s1 hl=>by rw [HZ.out];exact Zwd HKL.out.1 HKL.out.2 hl)
 have hLB:s.e ≠ 0→Z=(PE.zero,s):=fun h=>HZB.out _ _ (lit_bad h)
 have hLI:s.e=0→(Zag L en s.k).k=3→(Zag L en s.k).n < 9223372036854775808→Z=(PE.val1 ⟨1,((Zag L en s.k).n:Int),⟨#[]⟩⟩,s.next):=fun h h1 h2=>HZB.out _ _ (lit_int h h1 h2)
 have hLR:s.e=0→(Zag L en s.k).k=3→¬ (Zag L en s.k).n < 9223372036854775808→Z=(PE.zero,Zem L en 5 s):=fun h h1 h2=>HZB.out _ _ (Zu7 h h1 h2)
 have hLT:s.e=0→(Zag L en s.k).k=4→Z=(PE.val1 ⟨2,0,(Zag L en s.k).s⟩,s.next):=fun h h1=>HZB.out _ _ (lit_text h h1)
 have hLX:s.e=0→(Zag L en s.k).k=5→Z=(PE.val1 ⟨3,0,(Zag L en s.k).s⟩,s.next):=fun h h1=>HZB.out _ _ (lit_blob h h1)
 have HLB:=Lh hLB
 have HLI:=Lh hLI
 have HLR:=Lh hLR
 have HLT:=Lh hLT
 have HLX:=Lh hLX
 have HTLT:Hid ((Zag L en s.k).k ≠ 0→s.k < L.length):=Lh (fun h=>Zf8 (L:=L) (en:=en) h)
 clear hLB hLI hLR hLT hLX hR hb3 hb4 HT hq
 generalize hT:Zag L en s.k=T at *
 have HTT:=Lh hT
 clear hT
 go_upto_region 2 with fail
 generalize w3.alloc (.cells (tkC T) 128)=w4 at *
 generalize w3.heap.size=b at *
 have hq:=HP4.out.cell
 have hrb:=HP4.out.rb
 have HO:=Lh (okP w4 HP4.out.pb)
 by_cases h0:s.e=0
 ·have d0:decide (s.e=0)=true:=decide_eq_true h0
  rw [d0] at HO
  by_cases h3:T.k=3
  ·by_cases hn:T.n < 9223372036854775808
   ·have HZ1:=Lh (HLI.out h0 h3 hn)
    have HLTK:=Lh (HTLT.out (by rw [h3];decide))
    have e3:((T.k:Int) == 3)=true:=by simp [h3]
    have hn':decide ((T.n:Int) < 9223372036854775808)=true:=decide_eq_true kW
    have hw:wrap64 (T.n:Int)=(T.n:Int):=by unfold wrap64;omega
    clear h0 d0 h3 hn
    have HPR:=Lh (Zun w.heap.size ⟨1,(T.n:Int),⟨#[]⟩⟩ w4 HP4.out.cell HP4.out.pb HLTK.out)
    go_wp2_with fail
    refine HO.out.mono ?_
    rintro e4 w5 ⟨rfl,rfl⟩
    go_wp2_with fail
    refine HPR.out.mono ?_
    rintro e5 w5 ⟨rfl,hp5,hg5⟩
    have HP5:=Lh (HP4.out.grown hg5 hp5)
    clear hp5 hg5 hq hrb q0 q1 q2
    have hrb:=HP5.out.rb
    go_wp2_with fail
    exact bodyPost_ret (v:=.agg #[.int .u8 1,.int .u8 1,.int .i64 (T.n:Int),eS,eS,eS,iZ,nS]) (Zq Tryz.results160 Zz Zaq _ _ (w.heap.size + 1) _ _ rfl (HP5.out.rs.set _) rfl) rfl ⟨_,rfl,by rw [HZ1.out];exact HP5.out.fin (Znk (S:=fun _=>False) ⟨1,(T.n:Int),⟨#[]⟩⟩) (fun b h=>h.elim)⟩
   have HZ1:=Lh (HLR.out h0 h3 hn)
   have e3:((T.k:Int) == 3)=true:=by simp [h3]
   have hn':decide ((T.n:Int) < 9223372036854775808)=false:=decide_eq_false kW
   have HF:=Lh (Zol w4 5 HP4.out.pb)
   clear h0 d0 h3 hn
   go_wp2_with fail
   refine HO.out.mono ?_
   rintro e4 w5 ⟨rfl,rfl⟩
   go_wp2_with fail
   refine HF.out.mono ?_
   rintro e5 w5 ⟨rfl,hp5,hg5⟩
   have HP5:=Lh (HP4.out.grown hg5 hp5)
   clear hp5 hg5 hq hrb q0 q1 q2
   have hrb:=HP5.out.rb
   go_wp2_with fail
   exact bodyPost_ret (v:=.agg exZ) (Zq Tryz.results160 Zz Zaq _ _ (w.heap.size + 1) _ _ rfl (HP5.out.rs.set _) rfl) rfl ⟨_,rfl,by rw [HZ1.out];exact HP5.out.fin (Zs8 (S:=fun _=>False)) (fun b h=>h.elim)⟩
  by_cases h4:T.k=4
  ·have HZ1:=Lh (HLT.out h0 h4)
   have HLTK:=Lh (HTLT.out (by rw [h4];decide))
   have e3:((T.k:Int) == 3)=false:=by simp [h4]
   have e4:((T.k:Int) == 4)=true:=by simp [h4]
   clear h0 d0 h3 h4
   have HPR:=Lh (Zun w.heap.size ⟨2,0,T.s⟩ w4 HP4.out.cell HP4.out.pb HLTK.out)
   go_wp2_with fail
   refine HO.out.mono ?_
   rintro e4 w5 ⟨rfl,rfl⟩
   go_wp2_with fail
   refine HPR.out.mono ?_
   rintro e5 w5 ⟨rfl,hp5,hg5⟩
   have HP5:=Lh (HP4.out.grown hg5 hp5)
   clear hp5 hg5 hq hrb q0 q1 q2
   have hrb:=HP5.out.rb
   go_wp2_with fail
   exact bodyPost_ret (v:=.agg #[.int .u8 1,.int .u8 2,iZ,.string T.s,eS,eS,iZ,nS]) (Zq Tryz.results160 Zz Zaq _ _ (w.heap.size + 1) _ _ rfl (HP5.out.rs.set _) rfl) rfl ⟨_,rfl,by rw [HZ1.out];exact HP5.out.fin (Znk (S:=fun _=>False) ⟨2,0,T.s⟩) (fun b h=>h.elim)⟩
  by_cases h5:T.k=5
  ·have HZ1:=Lh (HLX.out h0 h5)
   have HLTK:=Lh (HTLT.out (by rw [h5];decide))
   have e3:((T.k:Int) == 3)=false:=by simp [h5]
   have e4:((T.k:Int) == 4)=false:=by simp [h5]
   have e5:((T.k:Int) == 5)=true:=by simp [h5]
   clear h0 d0 h3 h4 h5
   have HPR:=Lh (Zun w.heap.size ⟨3,0,T.s⟩ w4 HP4.out.cell HP4.out.pb HLTK.out)
   go_wp2_with fail
   refine HO.out.mono ?_
   rintro e4 w5 ⟨rfl,rfl⟩
   go_wp2_with fail
   refine HPR.out.mono ?_
   rintro e5 w5 ⟨rfl,hp5,hg5⟩
   have HP5:=Lh (HP4.out.grown hg5 hp5)
   clear hp5 hg5 hq hrb q0 q1 q2
   have hrb:=HP5.out.rb
   go_wp2_with fail
   exact bodyPost_ret (v:=.agg #[.int .u8 1,.int .u8 3,iZ,.string T.s,eS,eS,iZ,nS]) (Zq Tryz.results160 Zz Zaq _ _ (w.heap.size + 1) _ _ rfl (HP5.out.rs.set _) rfl) rfl ⟨_,rfl,by rw [HZ1.out];exact HP5.out.fin (Znk (S:=fun _=>False) ⟨3,0,T.s⟩) (fun b h=>h.elim)⟩
  by_cases h2:T.k=2
  ·have hl:=Zq8 h0 (by rw [HTT.out];exact h3) (by rw [HTT.out];exact h4) (by rw [HTT.out];exact h5)
   have hnq:=Zuy h0 (by rw [HTT.out];exact h2)
   have hnm:=Zuz h0 (by rw [HTT.out];exact h2)
   rw [HTT.out] at hnq hnm
   have HZN:Hid (Z=(bnd (isM L en Zpb) fun b=>if b then bnd (nameM L en) fun m=>ret (.mk 2 V00 T.s m 0 []) else ret (.mk 2 V00 ⟨#[]⟩ T.s 0 [])) s.next):=Lh (by
    rw [HZ.out,Zp4 HKL.out.1 HKL.out.2,Za1 hl]
    show bnd (nameQ L en) _ s=_
    rw [Za1 hnq])
   have HPN:=Zdp w4 HP4.out.pb
   rw [hnm] at HPN
   have HPN:=Lh HPN
   have e3:((T.k:Int) == 3)=false:=kQ
   have e4:((T.k:Int) == 4)=false:=kQ
   have e5:((T.k:Int) == 5)=false:=kQ
   have e2:((T.k:Int) == 2)=true:=by simp [h2]
   clear h0 d0 h2 h3 h4 h5 hl hnq hnm
   go_wp2_with fail
   refine HO.out.mono ?_
   rintro e4' w5 ⟨rfl,rfl⟩
   go_wp2_with fail
   refine HPN.out.mono ?_
   rintro e6 v6 ⟨rfl,hp6,hg6⟩
   have hr6:=HP4.out.grown hg6 hp6
   have HPX6:Hid (PX w0 r tv L en w v6.heap.size s.next (.mk 2 V00 ⟨#[]⟩ T.s 0 []) #[.int .u8 2,.int .u8 0,iZ,eS,eS,.string T.s,iZ,nS] (v6.alloc (.cells #[.int .u8 2,.int .u8 0,iZ,eS,eS,.string T.s,iZ,nS] 48))):=Lh (PX.new hr6 (col_ex (S:=fun b=>v6.heap.size ≤ b) ⟨#[]⟩ T.s) (by have:=hr6.rs.lt;omega) (Nat.le_refl _))
   clear hp6 hg6 hr6 hq hrb q0 q1 q2 HPN
   go_upto_region 24 with fail
   generalize v6.alloc (.cells #[.int .u8 2,.int .u8 0,iZ,eS,eS,.string T.s,iZ,nS] 48)=w6 at *
   generalize v6.heap.size=g at *
   have hq:=HPX6.out.pr.cell
   have HI7:=Lh (isW Zpb w6 HPX6.out.pr.pb)
   obtain ⟨B7,hB7⟩:∃ B,isB L en Zpb s.next=B:=⟨_,rfl⟩
   rw [Z2,hB7] at HI7
   have HB7:=Lh hB7
   clear hB7
   cases B7
   ·go_wp2_with fail
    refine HI7.out.mono ?_
    rintro e7 w7 ⟨rfl,hp7,hg7⟩
    have HPX7:Hid (PX w0 r tv L en w g s.next (.mk 2 V00 ⟨#[]⟩ T.s 0 []) #[.int .u8 2,.int .u8 0,iZ,eS,eS,.string T.s,iZ,nS] w7):=Lh (HPX6.out.grown hg7 hp7)
    have HP7:=Lh HPX7.out.pr
    have HZ7:Hid (Z=(.mk 2 V00 ⟨#[]⟩ T.s 0 [],s.next)):=Lh (by rw [HZN.out,isN HB7.out];rfl)
    clear hp7 hg7 HI7 hq
    have hb7:=HPX7.out.row.b (n:=8) rfl
    have ho7:=HPX7.out.row.of
    have hrb:=HP7.out.rb
    go_wp2_with fail
    exact bodyPost_ret (v:=.agg #[.int .u8 2,.int .u8 0,iZ,eS,eS,.string T.s,iZ,nS]) (Zq Tryz.results160 Zz Zaq _ _ (w.heap.size + 1) _ _ rfl (HP7.out.rs.set _) rfl) rfl ⟨_,rfl,by rw [HZ7.out];exact HP7.out.fin (HPX7.out.ex) (fun b h=>⟨h.1,h.2.1⟩)⟩
   go_wp2_with fail
   refine HI7.out.mono ?_
   rintro e7 w7 ⟨rfl,hp7,hg7⟩
   obtain ⟨s3,hs3⟩:∃ z,z=s.next.next:=⟨_,rfl⟩
   have HPX7:Hid (PX w0 r tv L en w g s3 (.mk 2 V00 ⟨#[]⟩ T.s 0 []) #[.int .u8 2,.int .u8 0,iZ,eS,eS,.string T.s,iZ,nS] w7):=Lh (by rw [hs3];exact HPX6.out.grown hg7 hp7)
   obtain ⟨⟨m,s4⟩,hm⟩:∃ z,nameM L en s3=z:=⟨_,rfl⟩
   have HM:=Lh hm
   have HZ7:Hid (Z=(.mk 2 V00 T.s m 0 [],s4)):=Lh (by rw [HZN.out,isY HB7.out,if_pos rfl,← hs3,Za1 hm];rfl)
   clear hp7 hg7 HI7 hq hm hs3
   go_upto_region 25 with fail
   have hgw:=HPX7.out.pr.gr
   refine Zcr 5 r (ColKn g r T.s m) (fun dn W=>PB w0 r tv L en (if dn 3 then s4 else s3) W) 132 rfl kR kR (fun j v w1 w2 h _ _=>h) ?_ ?_ ?_ ?_
   ·intro dn dn' W hdd hst
    rw [← hdd 3 kD]
    exact hst
   ·exact HPX7.out.pr.pb.later (Below.drew (Below.refl _ _))
   ·intro j hj dn A W hother hgW hst hdj hd
    have hrw:=HPX7.out.row.grown hgW (by have:=HPX7.out.hg;have:=HPX7.out.pr.hr;omega)
    match j,hj with
    | 0,hj=>
     have h0:=Zt (show A.eval (.tmp 5) = pV g from hother 5 kR)
     clear hother hd hj hrw
     exact Zam rfl rfl (.pointer (some ⟨g,5,none⟩)) kb0 rfl hst
    | 1,hj=>
     have h0:=(hd _ rfl ⟨0,.data⟩ kY rfl).2.t (.pointer (some ⟨g,5,none⟩)) 91
     have hc:=hrw.cell (i:=5) (v:=.string T.s) rfl
     clear hother hd hj hrw
     exact Zam rfl rfl (.string T.s) kb0 rfl hst
    | 2,hj=>
     have h0:=Zt (show A.eval (.tmp 1) = .pointer (some ⟨w.heap.size,0,none⟩) from hother 1 kR)
     have hc:=(HPX7.out.pr.bx.grown hgW (Nat.ne_of_gt HPX7.out.pr.hr)).cell (i:=0) (v:=pV r) rfl
     clear hother hd hj hrw
     exact Zam rfl rfl (pV r) kb0 rfl hst
    | 3,hj=>
     have h0:=(hd _ rfl ⟨2,.data⟩ kY rfl).2.t (pV r) 93
     have hst5:PB w0 r tv L en s3 W:=by have h:=hst;simp only [hdj] at h;exact h
     have hcall:=Zdp W hst5
     rw [HM.out] at hcall
     clear hother hd hj hrw
     refine Zew rfl rfl 76 #[pV r] kb0 (hcall.mono ?_)
     rintro e8 w8 ⟨rfl,hp8,hg8⟩
     exact ⟨_,rfl,hg8,rfl,hp8⟩
    | 4,hj=>
     have h0:=Zt (show A.eval (.tmp 5) = pV g from hother 5 kR)
     clear hother hd hj hrw
     exact Zam rfl rfl (.pointer (some ⟨g,4,none⟩)) kb0 rfl hst
    | k + 5,hj=>omega
   intro us W hgW hst hk
   have u0:us 0 = .pointer (some ⟨g,5,none⟩):=hk 0 kD
   have u1:us 1 = .string T.s:=hk 1 kD
   have u2:us 2 = pV r:=hk 2 kD
   have u3:us 3 = .string m:=hk 3 kD
   have u4:us 4 = .pointer (some ⟨g,4,none⟩):=hk 4 kD
   have HPW:Hid (PX w0 r tv L en w g s4 (.mk 2 V00 ⟨#[]⟩ T.s 0 []) #[.int .u8 2,.int .u8 0,iZ,eS,eS,.string T.s,iZ,nS] W):=Lh (HPX7.out.grown hgW hst)
   clear hk hst hgW hgw
   simp only [List.drop_succ_cons,List.drop_zero,Z1,Z7,Act.put,List.getElem?_toArray,List.getElem?_cons_zero,List.getElem?_cons_succ,Option.bind_some]
   simp only [List.setIfInBounds_toArray,List.set_cons_zero,List.set_cons_succ]
   rw [u0,u1,u2,u3,u4]
   have hrw:=HPW.out.row
   have c4:=hrw.cell (i:=4) (v:=eS) rfl
   have c5:=hrw.cell (i:=5) (v:=.string T.s) rfl
   have f4:=hrw.free 4
   have f5:=hrw.free 5
   have HPX9:Hid (PX w0 r tv L en w g s4 (.mk 2 V00 T.s m 0 []) #[.int .u8 2,.int .u8 0,iZ,eS,.string T.s,.string m,iZ,nS] ((W.setCell ⟨g,4,none⟩ (.string T.s)).setCell ⟨g,5,none⟩ (.string m))):=Lh (by
    have h1:=setCell_eq_setRow W g 4 _ _ _ (.string T.s) hrw
    have h2:=hrw.set (#[.int .u8 2,.int .u8 0,iZ,eS,eS,.string T.s,iZ,nS].setIfInBounds 4 (.string T.s))
    rw [h1,setCell_eq_setRow _ g 5 _ _ _ (.string m) h2]
    have h3:=h2.set ((#[.int .u8 2,.int .u8 0,iZ,eS,eS,.string T.s,iZ,nS].setIfInBounds 4 (.string T.s)).setIfInBounds 5 (.string m))
    have hg:=HPW.out.hg
    have hr:=HPW.out.pr.hr
    exact ⟨(HPW.out.pr.other kW kW _).other kW kW _,h3,col_ex T.s m,hg⟩)
   clear hrw u0 u1 u2 u3 u4
   go_upto_region 26 with fail
   clear c4 c5 f4 f5
   generalize (W.setCell ⟨g,4,none⟩ (.string T.s)).setCell ⟨g,5,none⟩ (.string m)=w9 at *
   have HP9:=Lh HPX9.out.pr
   have hb9:=HPX9.out.row.b (n:=8) rfl
   have ho9:=HPX9.out.row.of
   have hrb:=HP9.out.rb
   go_wp2_with fail
   exact bodyPost_ret (v:=.agg #[.int .u8 2,.int .u8 0,iZ,eS,.string T.s,.string m,iZ,nS]) (Zq Tryz.results160 Zz Zaq _ _ (w.heap.size + 1) _ _ rfl (HP9.out.rs.set _) rfl) rfl ⟨_,rfl,by rw [HZ7.out];exact HP9.out.fin (HPX9.out.ex) (fun b h=>⟨h.1,h.2.1⟩)⟩
  have hl:=Zq8 h0 (by rw [HTT.out];exact h3) (by rw [HTT.out];exact h4) (by rw [HTT.out];exact h5)
  have HZG:Hid (Z=(bnd (isM L en Zbr) fun b=>if b then ret (PE.val1 V00)
          else bnd (isM L en Z9) fun b=>if b then bnd (exF L en FU .expr) fun x=>bnd (mustM L en [Zp]) fun _=>ret x
          else bnd (isM L en Za7) fun b=>if b then
           (bnd (mustM L en [Z9]) fun _=>bnd (isM L en Zao) fun b=>if b then bnd (mustM L en [Zp]) fun _=>ret (PE.node 20 [])
            else bnd (exF L en FU .expr) fun x=>bnd (mustM L en [Zp]) fun _=>ret (PE.node 20 [x]))
          else bnd (oneOf L en groups) fun o=>match o with
           | some o=>bnd (mustM L en [Z9]) fun _=>bnd (exF L en FU .expr) fun x=>bnd (mustM L en [Zp]) fun _=>ret (PE.node o [x])
           | none=>bnd (failM L en 6) fun _=>ret PE.zero) s):=Lh (by
   rw [HZ.out,Zp4 HKL.out.1 HKL.out.2,Za1 hl]
   show bnd (nameQ L en) _ s=_
   rw [Za1 (nameQ_no (by rw [HTT.out];exact h2))]
   rfl)
  have e3:((T.k:Int) == 3)=false:=kQ
  have e4:((T.k:Int) == 4)=false:=kQ
  have e5:((T.k:Int) == 5)=false:=kQ
  have e2:((T.k:Int) == 2)=false:=kQ
  clear h0 d0 h2 h3 h4 h5 hl
  go_wp2_with fail
  refine HO.out.mono ?_
  rintro e4' w5 ⟨rfl,rfl⟩
  clear hrb
  have HI6:=Lh (isW Zbr w4 HP4.out.pb)
  obtain ⟨B6,hB6⟩:∃ B,isB L en Zbr s=B:=⟨_,rfl⟩
  rw [Z2,hB6] at HI6
  have HB6:=Lh hB6
  clear hB6
  cases B6
  ·go_wp2_with fail
   refine HI6.out.mono ?_
   rintro e6 w6 ⟨rfl,hp6,hg6⟩
   have HP6:Hid (PR w0 r tv L en w s w6):=Lh (HP4.out.grown hg6 hp6)
   clear hp6 hg6 HI6 hq q0 q1 q2 e2 e3 e4 e5
   have hq:=HP6.out.cell
   have HI7:=Lh (isW Z9 w6 HP6.out.pb)
   obtain ⟨B7,hB7⟩:∃ B,isB L en Z9 s=B:=⟨_,rfl⟩
   rw [Z2,hB7] at HI7
   have HB7:=Lh hB7
   clear hB7
   cases B7
   ·go_wp2_with fail
    refine HI7.out.mono ?_
    rintro e7 w7 ⟨rfl,hp7,hg7⟩
    have HP7:Hid (PR w0 r tv L en w s w7):=Lh (HP6.out.grown hg7 hp7)
    clear hp7 hg7 HI7 hq
    have hq:=HP7.out.cell
    have HI8:=Lh (isW Za7 w7 HP7.out.pb)
    obtain ⟨B8,hB8⟩:∃ B,isB L en Za7 s=B:=⟨_,rfl⟩
    rw [Z2,hB8] at HI8
    have HB8:=Lh hB8
    clear hB8
    cases B8
    ·go_wp2_with fail
     refine HI8.out.mono ?_
     rintro e8 w8 ⟨rfl,hp8,hg8⟩
     have HP8:Hid (PR w0 r tv L en w s w8):=Lh (HP7.out.grown hg8 hp8)
     clear hp8 hg8 HI8 hq
     have hq:=HP8.out.cell
     have HZL:Hid (Z=(bnd (oneOf L en groups) fun o=>match o with
      | some o=>bnd (mustM L en [Z9]) fun _=>bnd (exF L en FU .expr) fun x=>bnd (mustM L en [Zp]) fun _=>ret (PE.node o [x])
      | none=>bnd (failM L en 6) fun _=>ret PE.zero) s):=Lh (by rw [HZG.out,isN HB6.out,if_neg bF,isN HB7.out,if_neg bF,isN HB8.out,if_neg bF])
     go_wp2_with fail
     clear hq
     go_loopg [15] 3 (fun gk iv wr=>∃ (i:Nat),iv = .int .i64 (i:Int)∧gk=3 - i∧i ≤ 3∧Hid (PR w0 r tv L en w s wr)∧Hid (oneOf L en groups s=oneOf L en (groups.drop i) s))
     case atStart=>exact ⟨0,rfl,rfl,by decide,HP8,Lh rfl⟩
     case round=>
      obtain ⟨i,rfl,rfl,hi,HP,HOI⟩:=hrel
      have hq:=HP.out.cell
      by_cases hlt:i < 3
      ·obtain ⟨⟨t,o⟩,ht⟩:∃ q,groups[i]? = some q:=⟨groups[i]'(by show i < 3;exact hlt),by simp⟩
       have hd:groups.drop i=(t,o) :: groups.drop (i + 1):=by
        rw [List.drop_eq_getElem_cons (show i < groups.length from hlt),(List.getElem?_eq_some_iff.1 ht).2]
       obtain ⟨hop,_⟩:=grp_op i _ ht
       have HO2:Hid (oneOf L en groups s=oneOf L en ((t,o) :: groups.drop (i + 1)) s):=Lh (by rw [← hd];exact HOI.out)
       have hix:∀ W,(Instr.index 184 (.agg #[.string Zm5,.string Zm6,.string Zm7]) (.int .i64 (i:Int))).run Tryz.prog W = .ok (.string t) W:=Zvo i (t,o) ht
       have ilt:(i:Int) < 3:=kW
       have ige:(0:Int) ≤ (i:Int):=kW
       have HLTI:=Lh hlt
       have HOP:Hid (o=21 + i):=Lh hop
       clear hd ht hlt hop
       have HI9:=Lh (isW t wr HP.out.pb)
       obtain ⟨B9,hB9⟩:∃ B,isB L en t s=B:=⟨_,rfl⟩
       rw [Z2,hB9] at HI9
       have HB9:=Lh hB9
       clear hB9
       cases B9
       ·go_wp2_with fail
        refine HI9.out.mono ?_
        rintro e9 w9 ⟨rfl,hp9,hg9⟩
        have HP9:Hid (PR w0 r tv L en w s w9):=Lh (HP.out.grown hg9 hp9)
        clear hp9 hg9 HI9 hq hix
        have hq:=HP9.out.cell
        have HNO:Hid (oneOf L en groups s=oneOf L en (groups.drop (i + 1)) s):=Lh (by rw [HO2.out,Zh3 HB9.out])
        go_wp2_with fail
        go_roundg (3 - (i + 1))
        case measure=>exact Nat.sub_lt_sub_left HLTI.out (Nat.lt_succ_self _)
        case rel=>exact ⟨i + 1,by go_num,rfl,HLTI.out,HP9,HNO⟩
       go_wp2_with fail
       refine HI9.out.mono ?_
       rintro e9 w9 ⟨rfl,hp9,hg9⟩
       have HP9:Hid (PR w0 r tv L en w (s).next w9):=Lh (HP.out.grown hg9 hp9)
       clear hp9 hg9 HI9 hq hix
       have hq:=HP9.out.cell
       obtain ⟨s1,hs1⟩:∃ z,(mustM L en [Z9] s.next).2=z:=⟨_,rfl⟩
       have HM10:=Lh (Zaw Z9 w9 HP9.out.pb)
       rw [hs1] at HM10
       have Hs1:Hid (mustM L en [Z9] s.next=((),s1)):=Lh (by rw [← hs1])
       have HKs1:Hid ((s.next).k ≤ s1.k):=Lh (by rw [← hs1];exact (Zc3 [Z9] _).1)
       clear hs1
       go_wp2_with fail
       refine HM10.out.mono ?_
       rintro e10 w10 ⟨rfl,hp10,hg10⟩
       have HP10:Hid (PR w0 r tv L en w s1 w10):=Lh (HP9.out.grown hg10 hp10)
       clear hp10 hg10 HM10 hq
       have hq:=HP10.out.cell
       obtain ⟨⟨x,s2⟩,hx11⟩:∃ z,exF L en FU .expr s1=z:=⟨_,rfl⟩
       have hc11:=HH.out (s1) (Nat.lt_of_lt_of_le (Nat.lt_succ_self _) HKs1.out) w10 HP10.out.pb
       rw [hx11] at hc11
       have HC11:Hid (Calls Tryz.prog 31 #[pV r] w10 _):=Lh hc11
       have HX11:=Lh hx11
       clear hc11 hx11
       go_wp2_with fail
       refine HC11.out.mono ?_
       rintro e11 v11 ⟨v,rfl,hn11,hp11,hg11⟩
       obtain ⟨c,rfl,hc11⟩:=ExN.of hn11
       have hok11:=hc11.ok
       have HPX11:=Lh (PX.new (HP10.out.grown hg11 hp11) hc11 (by have:=HP10.out.rs.lt;omega) hg11.size)
       clear hn11 hp11 hg11 hc11 HC11 hq
       go_upto_region 9 with fail
       generalize v11.alloc (.cells c 48)=w11 at *
       generalize v11.heap.size=g11 at *
       clear hok11
       have HP11:=Lh HPX11.out.pr
       have hq:=HP11.out.cell
       obtain ⟨s3,hs3⟩:∃ z,(mustM L en [Zp] s2).2=z:=⟨_,rfl⟩
       have HM12:=Lh (Zaw Zp w11 HP11.out.pb)
       rw [hs3] at HM12
       have Hs3:Hid (mustM L en [Zp] s2=((),s3)):=Lh (by rw [← hs3])
       have HKs3:Hid ((s2).k ≤ s3.k):=Lh kb56
       clear hs3
       go_wp2_with fail
       refine HM12.out.mono ?_
       rintro e12 w12 ⟨rfl,hp12,hg12⟩
       have HP12:Hid (PR w0 r tv L en w s3 w12):=Lh (HP11.out.grown hg12 hp12)
       have hgx:=hg12
       have hpx:=hp12
       clear hp12 hg12 HM12 hq
       have hq:=HP12.out.cell
       have HZ12:Hid (Z=(PE.node o [x],s3)):=Lh (by rw [HZL.out,Za1 (x:=some o) (s1:=s.next) (by rw [HO2.out,Zh2 HB9.out])];show bnd _ _ s.next=_;rw [Za1 Hs1.out,Za1 HX11.out,Za1 Hs3.out];rfl)
       have hoo:(o:Int)=21 + (i:Int):=by have:=HOP.out;omega
       have HPX12:=Lh (HPX11.out.grown hgx hpx)
       clear hgx hpx
       have hrb:=HP12.out.rb
       have hb12:=HPX12.out.row.b (n:=8) HPX12.out.ex.size
       have ho12:=HPX12.out.row.of
       have hk12:=HPX12.out.ex.ok
       have HN12:=Lh (Zj7 o HPX12.out.ex (by have:=HPX12.out.hsz;have:=HPX12.out.row.lt;omega))
       rw [hoo] at HN12
       clear hoo
       exact ks34
      obtain rfl:i=3:=kW
      have HZ9:Hid (Z=(PE.zero,Zem L en 6 s)):=Lh (by rw [HZL.out,Za1 (x:=none) (s1:=s) (by rw [HOI.out];rfl)];rfl)
      have HF:=Lh (Zol wr 6 HP.out.pb)
      clear hlt hi
      go_wp2_with fail
      refine HF.out.mono ?_
      rintro e5 w9 ⟨rfl,hp9,hg9⟩
      have HP9:=Lh (HP.out.grown hg9 hp9)
      clear hp9 hg9 hq
      have hrb:=HP9.out.rb
      go_wp2_with fail
      exact bodyPost_ret (v:=.agg exZ) (Zq Tryz.results160 Zz Zaq _ _ (w.heap.size + 1) _ _ rfl (HP9.out.rs.set _) rfl) rfl ⟨_,rfl,by rw [HZ9.out];exact HP9.out.fin (Zs8 (S:=fun _=>False)) (fun b h=>h.elim)⟩
    go_wp2_with fail
    refine HI8.out.mono ?_
    rintro e8 w8 ⟨rfl,hp8,hg8⟩
    have HP8:Hid (PR w0 r tv L en w (s).next w8):=Lh (HP7.out.grown hg8 hp8)
    clear hp8 hg8 HI8 hq
    have hq:=HP8.out.cell
    obtain ⟨s1,hs1⟩:∃ z,(mustM L en [Z9] s.next).2=z:=⟨_,rfl⟩
    have HM9:=Lh (Zaw Z9 w8 HP8.out.pb)
    rw [hs1] at HM9
    have Hs1:Hid (mustM L en [Z9] s.next=((),s1)):=Lh (by rw [← hs1])
    have HKs1:Hid ((s.next).k ≤ s1.k):=Lh (by rw [← hs1];exact (Zc3 [Z9] _).1)
    clear hs1
    go_wp2_with fail
    refine HM9.out.mono ?_
    rintro e9 w9 ⟨rfl,hp9,hg9⟩
    have HP9:Hid (PR w0 r tv L en w s1 w9):=Lh (HP8.out.grown hg9 hp9)
    clear hp9 hg9 HM9 hq
    have hq:=HP9.out.cell
    have HI10:=Lh (isW Zao w9 HP9.out.pb)
    obtain ⟨B10,hB10⟩:∃ B,isB L en Zao s1=B:=⟨_,rfl⟩
    rw [Z2,hB10] at HI10
    have HB10:=Lh hB10
    clear hB10
    cases B10
    ·go_wp2_with fail
     refine HI10.out.mono ?_
     rintro e10 w10 ⟨rfl,hp10,hg10⟩
     have HP10:Hid (PR w0 r tv L en w s1 w10):=Lh (HP9.out.grown hg10 hp10)
     clear hp10 hg10 HI10 hq
     have hq:=HP10.out.cell
     obtain ⟨⟨x,s2⟩,hx11⟩:∃ z,exF L en FU .expr s1=z:=⟨_,rfl⟩
     have hc11:=HH.out (s1) (Nat.lt_of_lt_of_le (Nat.lt_succ_self _) HKs1.out) w10 HP10.out.pb
     rw [hx11] at hc11
     have HC11:Hid (Calls Tryz.prog 31 #[pV r] w10 _):=Lh hc11
     have HX11:=Lh hx11
     clear hc11 hx11
     go_wp2_with fail
     refine HC11.out.mono ?_
     rintro e11 v11 ⟨v,rfl,hn11,hp11,hg11⟩
     obtain ⟨c,rfl,hc11⟩:=ExN.of hn11
     have hok11:=hc11.ok
     have HPX11:=Lh (PX.new (HP10.out.grown hg11 hp11) hc11 (by have:=HP10.out.rs.lt;omega) hg11.size)
     clear hn11 hp11 hg11 hc11 HC11 hq
     go_upto_region 39 with fail
     generalize v11.alloc (.cells c 48)=w11 at *
     generalize v11.heap.size=g11 at *
     clear hok11
     have HP11:=Lh HPX11.out.pr
     have hq:=HP11.out.cell
     obtain ⟨s3,hs3⟩:∃ z,(mustM L en [Zp] s2).2=z:=⟨_,rfl⟩
     have HM12:=Lh (Zaw Zp w11 HP11.out.pb)
     rw [hs3] at HM12
     have Hs3:Hid (mustM L en [Zp] s2=((),s3)):=Lh (by rw [← hs3])
     have HKs3:Hid ((s2).k ≤ s3.k):=Lh kb56
     clear hs3
     go_wp2_with fail
     refine HM12.out.mono ?_
     rintro e12 w12 ⟨rfl,hp12,hg12⟩
     have HP12:Hid (PR w0 r tv L en w s3 w12):=Lh (HP11.out.grown hg12 hp12)
     have hgx:=hg12
     have hpx:=hp12
     clear hp12 hg12 HM12 hq
     have hq:=HP12.out.cell
     have HZ12:Hid (Z=(PE.node 20 [x],s3)):=Lh (by rw [HZG.out,isN HB6.out,if_neg bF,isN HB7.out,if_neg bF,isY HB8.out,if_pos rfl,Za1 Hs1.out,isN HB10.out,if_neg bF,Za1 HX11.out,Za1 Hs3.out];rfl)
     have HPX12:=Lh (HPX11.out.grown hgx hpx)
     clear hgx hpx
     have hrb:=HP12.out.rb
     have hb12:=HPX12.out.row.b (n:=8) HPX12.out.ex.size
     have ho12:=HPX12.out.row.of
     have hk12:=HPX12.out.ex.ok
     have HN12:=Lh (Zj7 20 HPX12.out.ex (by have:=HPX12.out.hsz;have:=HPX12.out.row.lt;omega))
     exact ks34
    go_wp2_with fail
    refine HI10.out.mono ?_
    rintro e10 w10 ⟨rfl,hp10,hg10⟩
    have HP10:Hid (PR w0 r tv L en w (s1).next w10):=Lh (HP9.out.grown hg10 hp10)
    clear hp10 hg10 HI10 hq
    have hq:=HP10.out.cell
    obtain ⟨s3,hs3⟩:∃ z,(mustM L en [Zp] s1.next).2=z:=⟨_,rfl⟩
    have HM11:=Lh (Zaw Zp w10 HP10.out.pb)
    rw [hs3] at HM11
    have Hs3:Hid (mustM L en [Zp] s1.next=((),s3)):=Lh (by rw [← hs3])
    have HKs3:Hid ((s1.next).k ≤ s3.k):=Lh kb56
    clear hs3
    go_wp2_with fail
    refine HM11.out.mono ?_
    rintro e11 w11 ⟨rfl,hp11,hg11⟩
    have HP11:Hid (PR w0 r tv L en w s3 w11):=Lh (HP10.out.grown hg11 hp11)
    clear hp11 hg11 HM11 hq
    have hq:=HP11.out.cell
    have HZ11:Hid (Z=(PE.node 20 [],s3)):=Lh (by rw [HZG.out,isN HB6.out,if_neg bF,isN HB7.out,if_neg bF,isY HB8.out,if_pos rfl,Za1 Hs1.out,isY HB10.out,if_pos rfl,Za1 Hs3.out];rfl)
    have hrb:=HP11.out.rb
    go_wp2_with fail
    exact bodyPost_ret (v:=.agg #[.int .u8 20,.int .u8 0,iZ,eS,eS,eS,iZ,nS]) (Zq Tryz.results160 Zz Zaq _ _ (w.heap.size + 1) _ _ rfl (HP11.out.rs.set _) rfl) rfl ⟨_,rfl,by rw [HZ11.out];exact HP11.out.fin (node0_ex (S:=fun _=>False) 20) (fun b h=>h.elim)⟩
   go_wp2_with fail
   refine HI7.out.mono ?_
   rintro e7 w7 ⟨rfl,hp7,hg7⟩
   have HP7:Hid (PR w0 r tv L en w (s).next w7):=Lh (HP6.out.grown hg7 hp7)
   clear hp7 hg7 HI7 hq
   have hq:=HP7.out.cell
   obtain ⟨⟨x,s1⟩,hx8⟩:∃ z,exF L en FU .expr s.next=z:=⟨_,rfl⟩
   have hc8:=HH.out (s.next) (Nat.lt_succ_self _) w7 HP7.out.pb
   rw [hx8] at hc8
   have HC8:Hid (Calls Tryz.prog 31 #[pV r] w7 _):=Lh hc8
   have HX8:=Lh hx8
   clear hc8 hx8
   go_wp2_with fail
   refine HC8.out.mono ?_
   rintro e8 v8 ⟨v,rfl,hn8,hp8,hg8⟩
   obtain ⟨c,rfl,hc8⟩:=ExN.of hn8
   have hok8:=hc8.ok
   have HPX8:=Lh (PX.new (HP7.out.grown hg8 hp8) hc8 (by have:=HP7.out.rs.lt;omega) hg8.size)
   clear hn8 hp8 hg8 hc8 HC8 hq
   go_upto_region 31 with fail
   generalize v8.alloc (.cells c 48)=w8 at *
   generalize v8.heap.size=g8 at *
   clear hok8
   have HP8:=Lh HPX8.out.pr
   have hq:=HP8.out.cell
   obtain ⟨s2,hs2⟩:∃ z,(mustM L en [Zp] s1).2=z:=⟨_,rfl⟩
   have HM9:=Lh (Zaw Zp w8 HP8.out.pb)
   rw [hs2] at HM9
   have Hs2:Hid (mustM L en [Zp] s1=((),s2)):=Lh (by rw [← hs2])
   have HKs2:Hid ((s1).k ≤ s2.k):=Lh (by rw [← hs2];exact (Zc3 [Zp] _).1)
   clear hs2
   go_wp2_with fail
   refine HM9.out.mono ?_
   rintro e9 w9 ⟨rfl,hp9,hg9⟩
   have HP9:Hid (PR w0 r tv L en w s2 w9):=Lh (HP8.out.grown hg9 hp9)
   have hgx:=hg9
   have hpx:=hp9
   clear hp9 hg9 HM9 hq
   have hq:=HP9.out.cell
   have HPX9:=Lh (HPX8.out.grown hgx hpx)
   clear hgx hpx
   have HZ9:Hid (Z=(x,s2)):=Lh (by rw [HZG.out,isN HB6.out,if_neg bF,isY HB7.out,if_pos rfl,Za1 HX8.out,Za1 Hs2.out];rfl)
   have hb9:=HPX9.out.row.b (n:=8) HPX9.out.ex.size
   have ho9:=HPX9.out.row.of
   have hk9:=HPX9.out.ex.ok
   have hokd:=hk9
   have hrb:=HP9.out.rb
   go_wp2_with fail
   exact bodyPost_ret (v:=.agg c) (Zq Tryz.results160 Zz Zaq _ _ (w.heap.size + 1) _ _ rfl (HP9.out.rs.set _) (Zo.1 hokd).1) rfl ⟨_,rfl,by rw [HZ9.out];exact HP9.out.fin (HPX9.out.ex) (fun b h=>⟨h.1,h.2.1⟩)⟩
  go_wp2_with fail
  refine HI6.out.mono ?_
  rintro e6 w6 ⟨rfl,hp6,hg6⟩
  have HP6:Hid (PR w0 r tv L en w (s).next w6):=Lh (HP4.out.grown hg6 hp6)
  clear hp6 hg6 HI6 hq q0 q1 q2 e2 e3 e4 e5
  have hq:=HP6.out.cell
  have HZ6:Hid (Z=(PE.val1 V00,s.next)):=Lh (by rw [HZG.out,isY HB6.out];rfl)
  have hrb:=HP6.out.rb
  go_wp2_with fail
  exact bodyPost_ret (v:=.agg #[.int .u8 1,.int .u8 0,iZ,eS,eS,eS,iZ,nS]) (Zq Tryz.results160 Zz Zaq _ _ (w.heap.size + 1) _ _ rfl (HP6.out.rs.set _) rfl) rfl ⟨_,rfl,by rw [HZ6.out];exact HP6.out.fin (Znk (S:=fun _=>False) V00) (fun b h=>h.elim)⟩
 have d0:decide (s.e=0)=false:=decide_eq_false h0
 rw [d0] at HO
 have HZ1:=Lh (HLB.out h0)
 clear h0 d0
 go_wp2_with fail
 refine HO.out.mono ?_
 rintro e4 w5 ⟨rfl,rfl⟩
 go_wp2_with fail
 exact bodyPost_ret (v:=.agg exZ) (Zq Tryz.results160 Zz Zaq _ _ (w.heap.size + 1) _ _ rfl (HP4.out.rs.set _) rfl) rfl ⟨_,rfl,by rw [HZ1.out];exact HP4.out.fin (x:=PE.zero) (S:=fun b=>False) ⟨rfl,by simp [Value.oneCell'],fun u _=>Zby.2 ⟨_,rfl,SlR.nil _ _ _⟩⟩ (fun b h=>h.elim)⟩
end
end Go.Proofs.YtmdogmpcmkfjpaaGreatDoor.Dt
namespace Go.Proofs.YtmdogmpcmkfjpaaGreatDoor.Dt
open Go.RowKit Go.Proofs.YtmdogmpcmkfjpaaGreatDoor.By
section
variable {w0:World} {r:Nat} {tv:Value} {L:List Tk} {en:Int}
theorem Zwc {m:Md} {s:PS} (h:¬ s.k ≤ L.length):EX w0 r tv L en m s:=fun _ hp=>absurd hp.hk h
theorem allEx (hall:Zbs L):∀ (n:Nat) (m:Md) (s:PS),s.k ≤ L.length→9 * (L.length - s.k) + lvl m ≤ n→(∀ k,m = .sum k→k ≤ 3)→EX w0 r tv L en m s
 | 0,m,s,_,h,_=>by
  have:1 ≤ lvl m:=by
   cases m with
   | sum k=>unfold lvl;by_cases h0:k=0 <;> by_cases h1:k=1 <;> by_cases h2:k=2 <;> simp [h0,h1,h2]
   | _=>simp [lvl]
  omega
 | n + 1,m,s,hk,h,hm=>by
  have ih:=fun (m':Md) (s':PS) (h2:9 * (L.length - s'.k) + lvl m' < 9 * (L.length - s.k) + lvl m) (h3:∀ k,m' = .sum k→k ≤ 3)=>
   (Classical.em (s'.k ≤ L.length)).elim (fun h1=>allEx hall n m' s' h1 kW h3) (fun h1=>Zwc (w0:=w0) (r:=r) (tv:=tv) (L:=L) (en:=en) (m:=m') h1)
  have up:=fun (m':Md) (s':PS) (hs:s.k < s'.k) (h3:∀ k,m' = .sum k→k ≤ 3)=>(Classical.em (s'.k ≤ L.length)).elim
   (fun h1=>ih m' s' (by have h8:=lvl_le m';have h9:1 ≤ lvl m:=by
                           cases m with
                           | sum k=>unfold lvl;by_cases h0:k=0 <;> by_cases h1:k=1 <;> by_cases h2:k=2 <;> simp [h0,h1,h2]
                           | _=>simp [lvl]
                         omega) h3) (fun h1=>Zwc (w0:=w0) (r:=r) (tv:=tv) (L:=L) (en:=en) (m:=m') h1)
  cases m with
  | expr=>exact exprW fun s' hs=>ih .not s' (by simp only [lvl];omega) (fun k h=>by cases h)
  | not=>exact notW (fun s' hs=>up .not s' hs (fun k h=>by cases h)) (fun s' hs=>ih (.sum 0) s' (by simp only [lvl,if_true];omega) (fun k h=>by cases h;omega))
  | sum k=>
   have hk3:=hm k rfl
   refine sumW k hk3 (fun s' hs hk'=>ih (.sum (k + 1)) s' ?_ (fun k' h=>by cases h;omega)) (fun hk'=>ih .unary s ?_ (fun k h=>by cases h))
   ·have hl:lvl (.sum (k + 1)) < lvl (.sum k):=by
     rcases (by omega:k=0 ∨ k=1 ∨ k=2) with h | h | h <;> subst h <;> simp [lvl]
    omega
   ·subst hk'
    simp [lvl]
  | unary=>exact unaryW hall (fun s' hs=>up .unary s' hs (fun k h=>by cases h)) (ih .prim s (by simp only [lvl];omega) (fun k h=>by cases h))
  | prim=>exact primW fun s' hs=>up .expr s' hs (fun k h=>by cases h)
theorem exprAll (hall:Zbs L) (s:PS):EX w0 r tv L en .expr s:=by
 by_cases hk:s.k ≤ L.length
 ·exact allEx hall _ .expr s hk (Nat.le_refl _) (fun k h=>by cases h)
 exact Zwc hk
theorem Zso (hall:Zbs L) (s:PS) (w:World) (h:PB w0 r tv L en s w):Calls Tryz.prog 31 #[pV r] w fun e w'=>
 ∃ v,e = .returned v∧New w.heap.size w' (fun u=>ExV u v (exprM L en s).1)∧PB w0 r tv L en (exprM L en s).2 w'∧w.grownBy w' (some r):=exprAll hall s w h
theorem Zv6 (hall:Zbs L) (w1:World) (k0:Nat):Zks w0 r tv L en w1 k0 31 #[pV r] (exprM L en) (AgV ExR):=fun s w _ _ h=>Zso hall s w h
end
end Go.Proofs.YtmdogmpcmkfjpaaGreatDoor.Dt
