import Derived.Test.YtmdogmpcmkfjpaaGreatDoorBq04
set_option maxRecDepth 100000
set_option maxHeartbeats 64000000
/- Part. -/
namespace Go.Proofs.YtmdogmpcmkfjpaaGreatDoor.Dt
open Go.Lib
set_option linter.unusedVariables false
def Zis (l:List ByteArray):Prop:=∀ n ∈ l,Zaz n
def Zeg (l:List PE):Prop:=∀ x ∈ l,Zfm x
def Zwy (c:Zeu):Prop:=Zaz c.name∧1 ≤ c.ty∧c.ty ≤ 3
def Zqd (x:Zec):Prop:=Zaz x.table∧(x.as=⟨#[]⟩ ∨ Zaz x.as)∧Zeg x.on
theorem kpS {p:Prop} (h:p:=by intros;repeat (first | with_reducible refine Za0.bnd ?_ (fun _=>?_) | with_reducible refine Za0.ite _ ?_ ?_ | with_reducible exact Za0.ret _ | with_reducible exact Sim.keep (Sim.mustM _) | with_reducible exact Sim.keep Sim.nameM | with_reducible exact Sim.keep Sim.okM | with_reducible exact Sim.keep (Sim.isM _ kD kD) | with_reducible exact Sim.keep (Sim.failM 6 kD) | with_reducible exact Sim.keep (Sim.oneOf _ kD) | with_reducible exact Sim.keep Sim.exprM | with_reducible exact Sim.keep (Sim.colsM _ _) | with_reducible exact Sim.keep Sim.colM | with_reducible exact Sim.keep Sim.namesM | with_reducible exact Sim.keep Sim.sourceM | with_reducible exact Sim.keep (Sim.joinsM _ _) | with_reducible exact Sim.keep (Sim.maybeM _ kD kD) | with_reducible exact Sim.keep (Sim.byM _ kD kD Sim.exprM) | with_reducible exact Sim.keep (Sim.byM _ kD kD Sim.orderM) | with_reducible exact Sim.keep Sim.limitM | with_reducible exact Sim.keep Sim.numM | with_reducible exact Sim.keep (Sim.listM Sim.setM _) | with_reducible exact Sim.keep (Sim.listM Sim.itemM _) | with_reducible exact Sim.keep (Sim.listM Sim.exprM _) | with_reducible exact Sim.keep (Sim.listM Sim.orderM _) | with_reducible exact Sim.keep (Sim.listM Sim.nameM _) | with_reducible exact Sim.keep (Sim.listM (Sim.insideM Sim.exprM _) _) | with_reducible exact Sim.keep Sim.createM | with_reducible exact Sim.keep Sim.dropM | with_reducible exact Sim.keep Sim.insertM | with_reducible exact Sim.keep Sim.updateM | with_reducible exact Sim.keep Sim.deleteM | with_reducible exact Sim.keep Sim.chooseM | with_reducible exact Sim.keep Sim.rollM | with_reducible exact Sim.keep (Sim.saveM _) | with_reducible exact Sim.keep Sim.restM | with_reducible exact Sim.keep Sim.stmtM | split)):p:=h
inductive Zf7:PSt→Prop where
 | create (t:ByteArray) (cols:List Zeu) (key:List ByteArray):Zaz t→(∀ c ∈ cols,Zwy c)→Zis key→Zf7 { kind:=1,table:=t,cols:=cols,key:=key }
 | index (u:Bool) (n t:ByteArray) (key:List ByteArray):Zaz n→Zaz t→Zis key→Zf7 { kind:=3,uniq:=u,name:=n,table:=t,key:=key }
 | drop (t:ByteArray):Zaz t→Zf7 { kind:=2,table:=t }
 | dropIndex (n:ByteArray):Zaz n→Zf7 { kind:=4,name:=n }
 | insert (t:ByteArray) (names:List ByteArray) (rows:List (List PE)):Zaz t→Zis names→(∀ r ∈ rows,Zeg r)→Zf7 { kind:=5,table:=t,names:=names,rows:=rows }
 | update (t:ByteArray) (sets:List (ByteArray × PE)) (wh:List PE):Zaz t→(∀ c ∈ sets,Zaz c.1∧Zfm c.2)→Zeg wh→Zf7 { kind:=6,table:=t,sets:=sets,wh:=wh }
 | delete (t:ByteArray) (wh:List PE):Zaz t→Zeg wh→Zf7 { kind:=7,table:=t,wh:=wh }
 | select (items:List (PE × ByteArray)) (src:List Zec) (wh group having:List PE) (order:List (PE × Bool)) (limit:Int):(∀ i ∈ items,Zfm i.1∧(i.2=⟨#[]⟩ ∨ Zaz i.2))→(∀ x ∈ src,Zqd x)→Zeg wh→Zeg group→Zeg having →
  (∀ x ∈ order,Zfm x.1)→-1 ≤ limit→limit ≤ 1073741824→Zf7 { kind:=8,items:=items,src:=src,wh:=wh,group:=group,having:=having,order:=order,limit:=limit }
 | begin:Zf7 { kind:=9 }
 | commit:Zf7 { kind:=10 }
 | rollback:Zf7 { kind:=11 }
 | save (n:ByteArray):Zaz n→Zf7 { kind:=12,name:=n }
 | back (n:ByteArray):Zaz n→Zf7 { kind:=13,name:=n }
 | release (n:ByteArray):Zaz n→Zf7 { kind:=14,name:=n }
section
variable {L:List Tk} {en:Int}
theorem Good.ite {α:Type} {Q:α→Prop} {t:ByteArray} {p q:Rd α} (hk:∀ b:Bool,Za0 (if b then p else q)) (hp:Good p Q) (hq:Good q Q):Good (Dt.bnd (Dt.isM L en t) fun b=>if b then p else q) Q:=Good.bnd (Good.any _) hk (fun b _=>by
 cases b
 ·exact hq
 ·exact hp)
theorem Good.listM {α:Type} {one:Rd α} {Q:α→Prop} (hs:Sim L en L en 0 one one) (hg:Good one Q):∀ f,Good (listM L en one f) (fun l=>∀ x ∈ l,Q x)
 | 0=>Good.fail (fun s=>by show (99:Nat) ≠ 0;decide) _
 | f + 1=>fun s h=>by
  obtain ⟨⟨x,s1⟩,h1⟩:∃ r,one s=r:=⟨_,rfl⟩
  have e:Dt.listM L en one (f + 1) s=(if decide (s1.e=0)=true then (Dt.bnd (Dt.isM L en Zy) fun b=>if b=true then Dt.bnd (Dt.listM L en one f) fun r=>Dt.bnd Dt.okM fun ok=>Dt.ret (if ok=true then x :: r else []) else Dt.ret [x]) else Dt.ret []) s1:=by
   show Dt.bnd one _ s=_
   rw [Z0 h1]
   rfl
  rw [e] at h ⊢
  by_cases he:s1.e=0
  ·rw [if_pos (decide_eq_true he)] at h ⊢
   have hx:Q x:=by
    have:=hg s (by rw [h1];exact he)
    rwa [h1] at this
   obtain ⟨⟨b,s2⟩,h2⟩:∃ r,Dt.isM L en Zy s1=r:=⟨_,rfl⟩
   rw [Z0 h2] at h ⊢
   cases b with
   | false=>intro y hy;simp [Dt.ret] at hy;rw [hy];exact hx
   | true=>
    simp only [if_true] at h ⊢
    obtain ⟨⟨r,s3⟩,h3⟩:∃ r,Dt.listM L en one f s2=r:=⟨_,rfl⟩
    rw [Z0 h3] at h ⊢
    have h4:Dt.okM s3=(decide (s3.e=0),s3):=rfl
    rw [Z0 h4] at h ⊢
    intro y hy
    by_cases he3:s3.e=0
    ·have hr:=Good.listM hs hg f s2 (by rw [h3];exact he3)
     rw [h3] at hr
     simp only [he3,decide_true,if_true,Dt.ret] at hy
     rcases List.mem_cons.1 hy with h5 | h5
     ·rw [h5];exact hx
     ·exact hr y h5
    ·simp [he3,Dt.ret] at hy
  ·rw [if_neg (by simp [he])]
   intro y hy
   simp [Dt.ret] at hy
theorem Good.insideM {α:Type} {one:Rd α} {Q:α→Prop} (hs:Sim L en L en 0 one one) (hg:Good one Q) (f:Nat):Good (insideM L en one f) (fun l=>∀ x ∈ l,Q x):=
 Good.bnd (Good.any _) (fun _=>Za0.bnd (Sim.keep (Sim.listM hs f)) (fun l=>Za0.bnd (Sim.keep (Sim.mustM _)) (fun _=>Za0.ret _))) (fun _ _=>Good.bnd (Good.listM hs hg f) (fun l=>Za0.bnd (Sim.keep (Sim.mustM _)) (fun _=>Za0.ret _)) (fun l hl=>Good.bnd (Good.any _) (fun _=>Za0.ret _) (fun _ _=>Good.ret hl)))
theorem Good.namesM (h:Zbs L):Good (namesM L en) Zis:=Good.insideM Sim.nameM (Good.nameM h) FU
theorem Good.maybeM (h:Zbs L) (w:ByteArray):Good (maybeM L en w) Zeg:=Good.ite kpS (Good.bnd (Good.exprM h) kpS (fun x hx=>Good.ret (fun y hy=>by simp at hy;subst hy;exact hx))) (Good.ret (fun y hy=>by cases hy))
theorem Good.colM (h:Zbs L):Good (colM L en) Zwy:=Good.bnd (Good.nameM h) kpS (fun n hn=>Good.bnd (Good.oneOf (fun o=>1 ≤ o∧o ≤ 3) types kD) kpS (fun o ho=>
 Good.bnd (Q:=fun ty=>1 ≤ ty∧ty ≤ 3) (by
  cases o with
  | some o=>exact Good.ret (ho o rfl)
  | none=>exact Good.fail (fun s=>(Zac 6 s kD).2) _) kpS (fun ty hty=>Good.ite kpS (Good.bnd (Good.any _) kpS (fun _ _=>Good.ret ⟨hn,hty⟩)) (Good.ret ⟨hn,hty⟩))))
theorem Good.colsM (h:Zbs L):∀ f cs,(∀ c ∈ cs,Zwy c)→Good (colsM L en f cs) (fun l=>∀ c ∈ l,Zwy c)
 | 0,cs,_=>Good.fail (fun s=>by show (99:Nat) ≠ 0;decide) _
 | f + 1,cs,hc=>Good.bnd (Good.any _) kpS (fun ok _=>by
     cases ok with
     | false=>exact Good.ret hc
     | true=>exact Good.bnd (p:=if cs.isEmpty then Dt.ret false else Dt.isM L en Zbl) (q:=fun b=>if b then Dt.ret cs else Dt.bnd (Dt.colM L en) fun c=>Dt.bnd (Dt.mustM L en [Zy]) fun _=>Dt.colsM L en f (cs ++ [c])) (Good.any _) kpS (fun b _=>by
      cases b with
      | true=>exact Good.ret hc
      | false=>exact Good.bnd (Good.colM h) kpS (fun c hcc=>Good.bnd (Good.any _) kpS (fun _ _=>Good.colsM h f _ (fun x hx=>by
       rcases List.mem_append.1 hx with h1 | h1
       ·exact hc x h1
       ·simp at h1;subst h1;exact hcc)))))
theorem Good.createM (h:Zbs L):Good (createM L en) Zf7:=Good.ite kpS (Good.bnd (Good.nameM h) kpS (fun n hn=>Good.bnd (Good.any _) kpS (fun _ _=>Good.bnd (Good.colsM h FU [] (fun c hc=>by cases hc)) kpS (fun c hc=>Good.bnd (Good.any _) kpS (fun _ _=>Good.bnd (Good.namesM h) kpS (fun k hk=>Good.bnd (Good.any _) kpS (fun _ _=>Good.ret (.create n c k hn hc hk)))))))) (Good.bnd (Good.any _) kpS (fun u _=>Good.bnd (Good.any _) kpS (fun _ _=>Good.bnd (Good.nameM h) kpS (fun n hn=>Good.bnd (Good.any _) kpS (fun _ _=>Good.bnd (Good.nameM h) kpS (fun t ht=>Good.bnd (Good.namesM h) kpS (fun k hk=>Good.ret (.index u n t k hn ht hk))))))))
theorem Good.sourceM (h:Zbs L):Good (sourceM L en) (fun x=>Zqd x∧x.on = []):=Good.bnd (Good.nameM h) kpS (fun n hn=>Good.ite kpS (Good.bnd (Good.nameM h) kpS (fun m hm=>Good.ret ⟨⟨hn,.inr hm,fun y hy=>by cases hy⟩,rfl⟩)) (Good.ret ⟨⟨hn,.inl rfl,fun y hy=>by cases hy⟩,rfl⟩))
theorem Good.itemM (h:Zbs L):Good (itemM L en) (fun i=>Zfm i.1∧(i.2=⟨#[]⟩ ∨ Zaz i.2)):=Good.bnd (Good.exprM h) kpS (fun x hx=>Good.ite kpS (Good.bnd (Good.nameM h) kpS (fun m hm=>Good.ret ⟨hx,.inr hm⟩)) (Good.ret ⟨hx,.inl rfl⟩))
theorem Good.orderM (h:Zbs L):Good (orderM L en) (fun x=>Zfm x.1):=Good.bnd (Good.exprM h) kpS (fun x hx=>Good.bnd (Good.any _) kpS (fun b _=>Good.ret hx))
theorem Good.setM (h:Zbs L):Good (setM L en) (fun c=>Zaz c.1∧Zfm c.2):=Good.bnd (Good.nameM h) kpS (fun n hn=>Good.bnd (Good.any _) kpS (fun _ _=>Good.bnd (Good.exprM h) kpS (fun x hx=>Good.ret ⟨hn,hx⟩)))
theorem Good.joinsM (h:Zbs L):∀ f l,(∀ x ∈ l,Zqd x)→Good (joinsM L en f l) (fun l=>∀ x ∈ l,Zqd x)
 | 0,l,_=>Good.fail (fun s=>by show (99:Nat) ≠ 0;decide) _
 | f + 1,l,hl=>Good.bnd (Good.any _) kpS (fun b _=>by
     cases b with
     | false=>exact Good.ret hl
     | true=>exact Good.bnd (Good.sourceM h) kpS (fun x hx=>Good.bnd (Good.any _) kpS (fun _ _=>Good.bnd (Good.exprM h) kpS (fun y hy=>Good.joinsM h f _ (fun z hz=>by
      rcases List.mem_append.1 hz with h1 | h1
      ·exact hl z h1
      ·simp at h1;subst h1;exact ⟨hx.1.1,hx.1.2.1,fun w hw=>by simp at hw;subst hw;exact hy⟩)))))
theorem Good.byM {α:Type} (w:ByteArray) {one:Rd α} {Q:α→Prop} (hs:Sim L en L en 0 one one) (hg:Good one Q):Good (byM L en w one) (fun l=>∀ x ∈ l,Q x):=
 Good.bnd (Good.any _) (fun b=>Za0.ite b (Za0.bnd (Sim.keep (Sim.mustM _)) (fun _=>Sim.keep (Sim.listM hs FU))) (Za0.ret _)) (fun b _=>by
  cases b with
  | true=>exact Good.bnd (Good.any _) (fun _=>Sim.keep (Sim.listM hs FU)) (fun _ _=>Good.listM hs hg FU)
  | false=>exact Good.ret (fun y hy=>by cases hy))
theorem Good.numM:Good (numM L en) (fun n=>-1 ≤ n∧n ≤ 1073741824):=fun s hs=>by
 unfold Dt.numM at hs ⊢
 split at hs
 ·exact absurd hs (Zac 6 s kD).2
 ·rename_i h1
  rw [if_neg h1]
  split at hs
  ·exact absurd hs (Zac 5 s kD).2
  ·rename_i h2
   rw [if_neg h2]
   show -1 ≤ (((Zag L en s.k).n:Nat):Int)∧(((Zag L en s.k).n:Nat):Int) ≤ 1073741824
   omega
theorem Good.limitM:Good (limitM L en) (fun n=>-1 ≤ n∧n ≤ 1073741824):=Good.ite kpS (Good.numM) (Good.ret kD)
theorem Zsq (h:Zbs L):Za0 (Dt.chooseM L en)∧Good (Dt.chooseM L en) Zf7:=by
 have t0:∀ (i:List (PE × ByteArray)) (j:List Zec) (w g hv:List PE) (o:List (PE × Bool)),(∀ y ∈ i,Zfm y.1∧(y.2=⟨#[]⟩ ∨ Zaz y.2))→(∀ x ∈ j,Zqd x)→Zeg w→Zeg g→Zeg hv→(∀ x ∈ o,Zfm x.1) →
  Good (Dt.bnd (Dt.limitM L en) fun m=>Dt.ret ({ kind:=8,items:=i,src:=j,wh:=w,group:=g,having:=hv,order:=o,limit:=m } : PSt)) Zf7:=fun i j w g hv o hi hj hw hg hh ho=>
  Good.bnd Good.limitM (fun _=>Za0.ret _) (fun m hm=>Good.ret (.select i j w g hv o m hi hj hw hg hh ho hm.1 hm.2))
 exact ⟨Sim.keep Sim.chooseM,fun s hs=>by
  obtain ⟨⟨b,s1⟩,e1⟩:∃ r,Dt.isM L en Zao s=r:=⟨_,rfl⟩
  have E1:Dt.chooseM L en s=Dt.bnd (if b=true then Dt.ret [] else Dt.listM L en (Dt.itemM L en) FU) (fun i=>Dt.bnd (Dt.mustM L en [Zck]) fun _=>Dt.bnd (Dt.sourceM L en) fun x=>
   Dt.bnd (Dt.joinsM L en FU [x]) fun j=>Dt.bnd (Dt.maybeM L en Z6) fun w=>Dt.bnd (Dt.byM L en Zbp (Dt.exprM L en)) fun g=>Dt.bnd (Dt.maybeM L en Zbi) fun h=>
   Dt.bnd (Dt.byM L en Zbz (Dt.orderM L en)) fun o=>Dt.bnd (Dt.limitM L en) fun m=>Dt.ret { kind:=8,items:=i,src:=j,wh:=w,group:=g,having:=h,order:=o,limit:=m }) s1:=by
   show Dt.bnd (Dt.isM L en Zao) _ s=_
   rw [Z0 e1]
  rw [E1] at hs ⊢
  obtain ⟨⟨i,s2⟩,e2⟩:∃ r,(if b=true then Dt.ret [] else Dt.listM L en (Dt.itemM L en) FU) s1=r:=⟨_,rfl⟩
  rw [Z0 e2] at hs ⊢
  obtain ⟨⟨u,s3⟩,e3⟩:∃ r,Dt.mustM L en [Zck] s2=r:=⟨_,rfl⟩
  rw [Z0 e3] at hs ⊢
  obtain ⟨⟨x,s4⟩,e4⟩:∃ r,Dt.sourceM L en s3=r:=⟨_,rfl⟩
  rw [Z0 e4] at hs ⊢
  obtain ⟨⟨j,s5⟩,e5⟩:∃ r,Dt.joinsM L en FU [x] s4=r:=⟨_,rfl⟩
  rw [Z0 e5] at hs ⊢
  obtain ⟨⟨w,s6⟩,e6⟩:∃ r,Dt.maybeM L en Z6 s5=r:=⟨_,rfl⟩
  rw [Z0 e6] at hs ⊢
  obtain ⟨⟨g,s7⟩,e7⟩:∃ r,Dt.byM L en Zbp (Dt.exprM L en) s6=r:=⟨_,rfl⟩
  rw [Z0 e7] at hs ⊢
  obtain ⟨⟨hv,s8⟩,e8⟩:∃ r,Dt.maybeM L en Zbi s7=r:=⟨_,rfl⟩
  rw [Z0 e8] at hs ⊢
  obtain ⟨⟨o,s9⟩,e9⟩:∃ r,Dt.byM L en Zbz (Dt.orderM L en) s8=r:=⟨_,rfl⟩
  rw [Z0 e9] at hs ⊢
  have back:∀ {α:Type} {p:Rd α} {s s':PS} {y:α},Za0 p→p s=(y,s')→s'.e=0→s.e=0:=fun {α p s s' y} hk he h0=>Classical.byContradiction fun hn=>by have:=hk s hn;rw [he] at this;exact this h0
  have h9:s9.e=0:=Classical.byContradiction fun hn=>(Za0.bnd (Sim.keep Sim.limitM) (fun _=>Za0.ret _)) s9 hn hs
  have h8:=back (Sim.keep (Sim.byM Zbz kD kD Sim.orderM)) e9 h9
  have h7:=back (Sim.keep (Sim.maybeM Zbi kD kD)) e8 h8
  have h6:=back (Sim.keep (Sim.byM Zbp kD kD Sim.exprM)) e7 h7
  have h5:=back (Sim.keep (Sim.maybeM Z6 kD kD)) e6 h6
  have h4:=back (Sim.keep (Sim.joinsM FU [x])) e5 h5
  have h3:=back (Sim.keep Sim.sourceM) e4 h4
  have h2:=back (Sim.keep (Sim.mustM [Zck])) e3 h3
  have gi:∀ y ∈ i,Zfm y.1∧(y.2=⟨#[]⟩ ∨ Zaz y.2):=by
   cases b with
   | true=>
    simp only [if_true] at e2
    obtain ⟨rfl,_⟩:=Prod.mk.inj e2
    exact fun y hy=>by cases hy
   | false=>
    simp only [Bool.false_eq_true,if_false] at e2
    have:=Good.listM Sim.itemM (Good.itemM (en:=en) h) FU s1 (by rw [e2];exact h2)
    rw [e2] at this
    exact this
  have gx:=Good.sourceM (en:=en) h s3 (by rw [e4];exact h4)
  rw [e4] at gx
  have gj:=Good.joinsM (en:=en) h FU [x] (fun z hz=>by simp at hz;subst hz;exact gx.1) s4 (by rw [e5];exact h5)
  rw [e5] at gj
  have gw:=Good.maybeM (en:=en) h Z6 s5 (by rw [e6];exact h6)
  rw [e6] at gw
  have gg:=Good.byM Zbp Sim.exprM (Good.exprM (en:=en) h) s6 (by rw [e7];exact h7)
  rw [e7] at gg
  have gh:=Good.maybeM (en:=en) h Zbi s7 (by rw [e8];exact h8)
  rw [e8] at gh
  have go:=Good.byM Zbz Sim.orderM (Good.orderM (en:=en) h) s8 (by rw [e9];exact h9)
  rw [e9] at go
  exact t0 i j w g hv o gi gj gw gg gh go s9 hs⟩
theorem Good.chooseM (h:Zbs L):Good (Dt.chooseM L en) Zf7:=(Zsq h).2
theorem Good.dropM (h:Zbs L):Good (dropM L en) Zf7:=Good.ite kpS (Good.bnd (Good.nameM h) kpS (fun n hn=>Good.ret (.drop n hn))) (Good.bnd (Good.any _) kpS (fun _ _=>Good.bnd (Good.nameM h) kpS (fun n hn=>Good.ret (.dropIndex n hn))))
theorem Za0.is {α:Type} {t:ByteArray} (h1:t ≠ Za4) (h2:t ≠ Zp) {p q:Rd α} (hp:Za0 p) (hq:Za0 q):Za0 (Dt.bnd (Dt.isM L en t) fun b=>if b then p else q):=Za0.bnd (Sim.keep (Sim.isM t h1 h2)) (fun b=>Za0.ite b hp hq)
theorem Good.is {α:Type} {Q:α→Prop} {t:ByteArray} {p q:Rd α} (hp:Za0 p∧Good p Q) (hq:Za0 q∧Good q Q):Good (Dt.bnd (Dt.isM L en t) fun b=>if b then p else q) Q:=Good.ite (fun b=>Za0.ite b hp.1 hq.1) hp.2 hq.2
theorem Good.insertM (h:Zbs L):Good (Dt.insertM L en) Zf7:=
 have k3:=fun (t:ByteArray) (n:List ByteArray)=>Za0.bnd (Sim.keep (Sim.listM (L:=L) (en:=en) (Sim.insideM Sim.exprM FU) FU)) (fun r=>Za0.ret ({ kind:=5,table:=t,names:=n,rows:=r } : PSt))
 have k2:=fun (t:ByteArray) (n:List ByteArray)=>Za0.bnd (Sim.keep (Sim.mustM (L:=L) (en:=en) [Zcy])) (fun _=>k3 t n)
 have k1:=fun (t:ByteArray)=>Za0.bnd (Sim.keep (Sim.namesM (L:=L) (en:=en))) (fun n=>k2 t n)
 Good.bnd (Good.any (Dt.mustM L en [Zf4])) (fun _=>Za0.bnd (Sim.keep Sim.nameM) k1) (fun _ _=>Good.bnd (Good.nameM h) k1 (fun t ht=>Good.bnd (Good.namesM h) (k2 t) (fun n hn=>Good.bnd (Good.any _) (fun _=>k3 t n) (fun _ _=>
  Good.bnd (Good.listM (Q:=Zeg) (Sim.insideM Sim.exprM FU) (Good.insideM Sim.exprM (Good.exprM h) FU) FU) (fun r=>Za0.ret _) (fun r hr=>Good.ret (.insert t n r ht hn hr))))))
theorem Good.updateM (h:Zbs L):Good (Dt.updateM L en) Zf7:=
 have k3:=fun (t:ByteArray) (c:List (ByteArray × PE))=>Za0.bnd (Sim.keep (Sim.maybeM (L:=L) (en:=en) Z6 kD kD)) (fun w=>Za0.ret ({ kind:=6,table:=t,sets:=c,wh:=w } : PSt))
 have k2:=fun (t:ByteArray)=>Za0.bnd (Sim.keep (Sim.listM (L:=L) (en:=en) Sim.setM FU)) (fun c=>k3 t c)
 have k1:=fun (t:ByteArray)=>Za0.bnd (Sim.keep (Sim.mustM (L:=L) (en:=en) [Zpa])) (fun _=>k2 t)
 Good.bnd (Good.nameM h) k1 (fun t ht=>Good.bnd (Good.any _) (fun _=>k2 t) (fun _ _=>Good.bnd (Good.listM Sim.setM (Good.setM h) FU) (k3 t) (fun c hc=>Good.bnd (Good.maybeM h Z6) (fun w=>Za0.ret _) (fun w hw=>Good.ret (.update t c w ht hc hw)))))
theorem Good.deleteM (h:Zbs L):Good (Dt.deleteM L en) Zf7:=
 have k2:=fun (t:ByteArray)=>Za0.bnd (Sim.keep (Sim.maybeM (L:=L) (en:=en) Z6 kD kD)) (fun w=>Za0.ret ({ kind:=7,table:=t,wh:=w } : PSt))
 Good.bnd (Good.any (Dt.mustM L en [Zck])) (fun _=>Za0.bnd (Sim.keep Sim.nameM) k2) (fun _ _=>Good.bnd (Good.nameM h) k2 (fun t ht=>Good.bnd (Good.maybeM h Z6) (fun w=>Za0.ret _) (fun w hw=>Good.ret (.delete t w ht hw))))
theorem Good.saveM (h:Zbs L) (k:Nat) (hk:∀ n,Zaz n→Zf7 { kind:=k,name:=n }):Good (Dt.saveM L en k) Zf7:=Good.bnd (Good.nameM h) (fun n=>Za0.ret _) (fun n hn=>Good.ret (hk n hn))
theorem Good.rollM (h:Zbs L):Good (Dt.rollM L en) Zf7:=Good.is ⟨Za0.bnd (Sim.keep Sim.nameM) (fun n=>Za0.ret _),Good.bnd (Good.nameM h) (fun n=>Za0.ret _) (fun n hn=>Good.ret (.back n hn))⟩ ⟨Za0.ret _,Good.ret .rollback⟩
theorem rest_all (h:Zbs L):Za0 (Dt.restM L en)∧Good (Dt.restM L en) Zf7:=
 have r0:Za0 (Dt.bnd (Dt.failM L en 6) fun _=>Dt.ret ({} : PSt))∧Good (Dt.bnd (Dt.failM L en 6) fun _=>Dt.ret ({} : PSt)) Zf7:=⟨Za0.bnd (Sim.keep (Sim.failM 6 kD)) (fun _=>Za0.ret _),Good.fail (fun s=>(Zac 6 s kD).2) _⟩
 have r1:=And.intro (Za0.is kD kD (Sim.keep (Sim.saveM (L:=L) (en:=en) 14)) r0.1 (t:=Zcv)) (Good.is (t:=Zcv) ⟨Sim.keep (Sim.saveM 14),Good.saveM (en:=en) h 14 (fun n hn=>.release n hn)⟩ r0)
 have r2:=And.intro (Za0.is kD kD (Sim.keep (Sim.saveM (L:=L) (en:=en) 12)) r1.1 (t:=Za9)) (Good.is (t:=Za9) ⟨Sim.keep (Sim.saveM 12),Good.saveM (en:=en) h 12 (fun n hn=>.save n hn)⟩ r1)
 have r3:=And.intro (Za0.is kD kD (Sim.keep (Sim.rollM (L:=L) (en:=en))) r2.1 (t:=Zay)) (Good.is (t:=Zay) ⟨Sim.keep Sim.rollM,Good.rollM (en:=en) h⟩ r2)
 have r4:=And.intro (Za0.is kD kD (Za0.ret ({ kind:=10 } : PSt)) r3.1 (t:=Zd6)) (Good.is (t:=Zd6) ⟨Za0.ret _,Good.ret .commit⟩ r3)
 ⟨Sim.keep Sim.restM,Good.is ⟨Za0.ret _,Good.ret .begin⟩ r4⟩
theorem Good.stmtM (h:Zbs L):Good (Dt.stmtM L en) Zf7:=
 have r0:=rest_all (en:=en) h
 have r1:=And.intro (Za0.is kD kD (Sim.keep (Sim.chooseM (L:=L) (en:=en))) r0.1 (t:=Zb9)) (Good.is (t:=Zb9) ⟨Sim.keep Sim.chooseM,Good.chooseM (en:=en) h⟩ r0)
 have r2:=And.intro (Za0.is kD kD (Sim.keep (Sim.deleteM (L:=L) (en:=en))) r1.1 (t:=Zdw)) (Good.is (t:=Zdw) ⟨Sim.keep Sim.deleteM,Good.deleteM (en:=en) h⟩ r1)
 have r3:=And.intro (Za0.is kD kD (Sim.keep (Sim.updateM (L:=L) (en:=en))) r2.1 (t:=Zdd)) (Good.is (t:=Zdd) ⟨Sim.keep Sim.updateM,Good.updateM (en:=en) h⟩ r2)
 have r4:=And.intro (Za0.is kD kD (Sim.keep (Sim.insertM (L:=L) (en:=en))) r3.1 (t:=Zcq)) (Good.is (t:=Zcq) ⟨Sim.keep Sim.insertM,Good.insertM (en:=en) h⟩ r3)
 have r5:=And.intro (Za0.is kD kD (Sim.keep (Sim.dropM (L:=L) (en:=en))) r4.1 (t:=Zf5)) (Good.is (t:=Zf5) ⟨Sim.keep Sim.dropM,Good.dropM (en:=en) h⟩ r4)
 Good.is ⟨Sim.keep Sim.createM,Good.createM (en:=en) h⟩ r5
theorem Zlb (h:Zbs L):∀ (f:Nat) (s s1:PS) (A:List PSt),stmtsM L en f s=(A,s1)→s1.e=0→∀ x ∈ A,Zf7 x
 | 0,s,s1,A,hr,h1,x,hx=>by
  have:(stmtsM L en 0 s).2.e=99:=rfl
  rw [hr] at this
  simp only at this
  omega
 | f + 1,s,s1,A,hr,h1,x,hx=>by
  by_cases hlt:s.e=0∧s.k < L.length
  ·rw [Ze7 f hlt.1 hlt.2] at hr
   obtain ⟨⟨y,s2⟩,hy⟩:∃ r,stmtM L en s=r:=⟨_,rfl⟩
   rw [Z0 hy] at hr
   obtain ⟨⟨u,s3⟩,hz⟩:∃ r,Zf9 L en s2=r:=⟨_,rfl⟩
   rw [Z0 hz] at hr
   obtain ⟨⟨B,s4⟩,hb⟩:∃ r,stmtsM L en f s3=r:=⟨_,rfl⟩
   rw [Z0 hb] at hr
   obtain ⟨rfl,rfl⟩:A=y :: B∧s1=s4:=by cases hr;exact ⟨rfl,rfl⟩
   have e3:s3.e=0:=Classical.byContradiction fun hn=>by have:=Zhp (K:=L) (en:=en) f s3 hn;rw [hb] at this;exact this h1
   have e2:s2.e=0:=Classical.byContradiction fun hn=>by have:=Zi5 (K:=L) (en:=en) hn;rw [hz] at this;exact this e3
   rcases List.mem_cons.1 hx with h2 | h2
   ·have:=Good.stmtM (en:=en) h s (by rw [hy];exact e2)
    rw [hy] at this
    rw [h2];exact this
   ·exact Zlb h f s3 s1 B hb h1 x h2
  ·rw [Ze8 f hlt] at hr
   obtain ⟨rfl,rfl⟩:=Prod.mk.inj hr
   cases hx
end
theorem Zd3 {t:List UInt8} {A:List PSt} (h:Z4 t = .inr A):∀ x ∈ A,Zf7 x:=by
 obtain ⟨L,s1,hL,hr,he⟩:=Zer h
 have hall:Zbs L:=by
  rw [Zb4] at hL
  split at hL
  ·cases hL
  ·exact tk_ok _ 0 t (Nat.le_refl _) L hL
 exact Zlb hall FU ⟨0,0,0⟩ s1 A hr he
def Ze (l:List (List UInt8)) (a:List UInt8):List UInt8:=a ++ l.flatMap (· ++ [32])
def Znl (v:V):List UInt8:=
 if v.k=1 then (if v.n < 0 then 45 :: decDigits (-v.n).toNat else decDigits v.n.toNat)
 else if v.k=2 then 39 :: (Zc0 v.s.data.toList ++ [39])
 else if v.k=3 then (if (Zb1 [⟨5,v.s,0,0⟩]).2=0 then (Zb1 [⟨5,v.s,0,0⟩]).1 else [63])
 else Zbr.data.toList
def sgnT:List (List UInt8):=[Zdf,Zad,Zao,Zih,Zig,Zcf,BEQ,BNE,BLT,BLE,BGT,BGE,Zf6,WOR].map (·.data.toList)
def grpT:List (List UInt8):=[Za7,Zm5,Zm6,Zm7].map (·.data.toList)
abbrev W1 (b:ByteArray):List UInt8:=b.data.toList
def Zgd (w:List UInt8→List UInt8) (op:Nat) (bare:Bool) (a:List UInt8):List UInt8:=
 if bare && decide (op ≤ 2 ∨ 20 ≤ op) then w a else Ze [W1 Zp] (w (Ze [W1 Z9] a))
def wrE:PE→List UInt8→List UInt8
 | .mk op v t m n kids,a=>if 32768 < a.length then a else
  match kids with
  | []=>if op=1 then Ze [Znl v] a
   else if op=2 then Ze [W1 m] (if t=⟨#[]⟩ then a else Ze [W1 t,W1 Zpb] a)
   else if op=20 then Ze [W1 Za7,W1 Z9,W1 Zao,W1 Zp] a
   else Ze [[63]] a
  | [x]=>if op=3 then Zgd (wrE x) x.op (decide (x.op ≠ 1)) (Ze [W1 Zad] a)
   else if op=4 then Zgd (wrE x) x.op true (Ze [W1 Zfx] a)
   else if op=5 then Ze [W1 WIS,W1 Zbr] (Zgd (wrE x) x.op true a)
   else if 20 ≤ op∧op ≤ 23 then Zgd (wrE x) x.op false (Ze [(grpT[op - 20]?).getD []] a)
   else Ze [[63]] a
  | [x,y]=>if 6 ≤ op∧op ≤ 19 then Zgd (wrE y) y.op true (Ze [(sgnT[op - 6]?).getD []] (Zgd (wrE x) x.op true a))
   else Ze [[63]] a
  | _=>Ze [[63]] a
def Zm {α:Type} (one:α→List UInt8→List UInt8):Bool→List α→List UInt8→List UInt8
 | _,[],a=>a
 | first,x :: l,a=>Zm one false l (one x (if first then a else Ze [W1 Zy] a))
def Zdz (l:List ByteArray) (a:List UInt8):List UInt8:=Ze [W1 Zp] (Zm (fun s=>Ze [W1 s]) true l (Ze [W1 Z9] a))
def Z8 (w:List UInt8):List PE→List UInt8→List UInt8
 | [],a=>a
 | x :: l,a=>Z8 w l (wrE x (Ze [w] a))
def asT (s:ByteArray) (a:List UInt8):List UInt8:=if s=⟨#[]⟩ then a else Ze [W1 WAS,W1 s] a
def tyT:List (List UInt8):=[[63],W1 Zeo,W1 Zm0,W1 Zm2]
def Zef:List Zeu→List UInt8→List UInt8
 | [],a=>a
 | c :: l,a=>Zef l (Ze [W1 Zy] (if c.nn then Ze [W1 Zfx,W1 Zbr] (Ze [W1 c.name,(tyT[c.ty % 4]?).getD []] a) else Ze [W1 c.name,(tyT[c.ty % 4]?).getD []] a))
def Zco (x:PSt) (a:List UInt8):List UInt8:=
 if x.kind=3 then Zdz x.key (Ze [W1 Zbo,W1 x.name,W1 WON,W1 x.table] (if x.uniq then Ze [W1 Zde] (Ze [W1 Zau] a) else Ze [W1 Zau] a))
 else Ze [W1 Zp] (Zdz x.key (Ze [W1 Zbl,W1 Zm1] (Zef x.cols (Ze [W1 Zau,W1 Zcj,W1 x.table,W1 Z9] a))))
def Zk1 (x:PE × ByteArray) (a:List UInt8):List UInt8:=asT x.2 (wrE x.1 a)
def Ziz:Bool→List Zec→List UInt8→List UInt8
 | _,[],a=>a
 | first,x :: l,a=>Ziz false l (Z8 (W1 WON) x.on (asT x.as (if first then Ze [W1 Zck,W1 x.table] a else Ze [W1 Zfy,W1 x.table] a)))
def Zdq (x:PE × Bool) (a:List UInt8):List UInt8:=if x.2 then Ze [W1 Zie] (wrE x.1 a) else wrE x.1 a
def Zfw (x:PSt) (a:List UInt8):List UInt8:=
 let a:=Ze [W1 Zb9] a
 let a:=if x.items.isEmpty then Ze [W1 Zao] a else a
 let a:=Zm Zk1 true x.items a
 let a:=Ziz true x.src a
 let a:=Z8 (W1 Z6) x.wh a
 let a:=if x.group.isEmpty then a else Zm wrE true x.group (Ze [W1 Zbp,W1 WBY] a)
 let a:=Z8 (W1 Zbi) x.having a
 let a:=if x.order.isEmpty then a else Zm Zdq true x.order (Ze [W1 Zbz,W1 WBY] a)
 if 0 ≤ x.limit then Ze [W1 Zdv,decDigits x.limit.toNat] a else a
def Zuc (l:List PE) (a:List UInt8):List UInt8:=Ze [W1 Zp] (Zm wrE true l (Ze [W1 Z9] a))
def setT (x:ByteArray × PE) (a:List UInt8):List UInt8:=wrE x.2 (Ze [W1 x.1,W1 BEQ] a)
def Zb3 (x:PSt) (a:List UInt8):List UInt8:=
 if x.kind=1 ∨ x.kind=3 then Zco x a
 else if x.kind=2 then Ze [W1 Zf5,W1 Zcj,W1 x.table] a
 else if x.kind=4 then Ze [W1 Zf5,W1 Zbo,W1 x.name] a
 else if x.kind=5 then Zm Zuc true x.rows (Ze [W1 Zcy] (Zdz x.names (Ze [W1 Zcq,W1 Zf4,W1 x.table] a)))
 else if x.kind=6 then Z8 (W1 Z6) x.wh (Zm setT true x.sets (Ze [W1 Zdd,W1 x.table,W1 Zpa] a))
 else if x.kind=7 then Z8 (W1 Z6) x.wh (Ze [W1 Zdw,W1 Zck,W1 x.table] a)
 else if x.kind=8 then Zfw x a
 else if x.kind=9 then Ze [W1 Zgj] a
 else if x.kind=10 then Ze [W1 Zd6] a
 else if x.kind=11 then Ze [W1 Zay] a
 else if x.kind=12 then Ze [W1 Za9,W1 x.name] a
 else if x.kind=13 then Ze [W1 Zay,W1 WTO,W1 x.name] a
 else if x.kind=14 then Ze [W1 Zcv,W1 x.name] a
 else a
def Ze6 (a:List UInt8):List UInt8:=if a.getLast? = some 32 then a.dropLast else a
open Classical in
noncomputable def Zc1 (x:PSt):List UInt8 × Nat:=
 match Zea (Ze6 (Zb3 x [])) with
 | .inl _=>([],2)
 | .inr L=>if (Zb1 L).2=0∧Z4 (Zb1 L).1 = .inr [x] then ((Zb1 L).1,0) else ([],2)
section
variable {L:List Tk} {en:Int}
theorem lvl_le (m:Md):lvl m ≤ 8:=by
 cases m with
 | sum k=>unfold lvl;by_cases h0:k=0 <;> by_cases h1:k=1 <;> by_cases h2:k=2 <;> simp [h0,h1,h2]
 | _=>simp [lvl]
theorem Zvr {m:Md} {s:PS} (hk:s.k ≤ L.length) (hl:L.length ≤ 4096) (hm:∀ k,m = .sum k→k ≤ 3):exF L en FU m s=exF L en (FU + 1) m s:=by
 have:=lvl_le m
 have hf:FU=100000:=rfl
 exact Zwe FU (FU + 1) m s hk kW kW hm
theorem fu_expr {s:PS} (hk:s.k ≤ L.length) (hl:L.length ≤ 4096):exF L en FU .expr s=chainL L en [(WOR,19)] (chainL L en [(Zf6,18)] (exF L en FU .not) FU) FU s:=Zvr hk hl (fun k h=>by cases h)
theorem fu_not {s:PS} (hk:s.k ≤ L.length) (hl:L.length ≤ 4096):exF L en FU .not s=(bnd (isM L en Zfx) fun b=>if b then bnd (exF L en FU .not) fun x=>ret (PE.node 4 [x])
 else bnd (exF L en FU (.sum 0)) fun x=>bnd (isM L en WIS) fun b=>if b then
  (bnd (isM L en Zfx) fun b=>bnd (mustM L en [Zbr]) fun _=>ret (if b then PE.node 4 [PE.node 5 [x]] else PE.node 5 [x]))
  else bnd (oneOf L en Zkt) fun o=>match o with
   | some o=>bnd (exF L en FU (.sum 0)) fun y=>ret (PE.node o [x,y])
   | none=>ret x) s:=Zvr hk hl (fun k h=>by cases h)
theorem fu_sum {k:Nat} {s:PS} (hk:s.k ≤ L.length) (hl:L.length ≤ 4096) (h3:k ≤ 3):exF L en FU (.sum k) s=(if k=3 then exF L en FU .unary else chainL L en (opsOf k) (exF L en FU (.sum (k + 1))) FU) s:=Zvr hk hl (fun k h=>by cases h;exact h3)
theorem fu_unary {s:PS} (hk:s.k ≤ L.length) (hl:L.length ≤ 4096):exF L en FU .unary s=(bnd (isM L en Zad) fun b=>if b then
      (bnd (negM L en) fun n=>match n with
       | some n=>ret (PE.val1 ⟨1,-(n:Int),⟨#[]⟩⟩)
       | none=>bnd (exF L en FU .unary) fun x=>ret (PE.node 3 [x]))
 else exF L en FU .prim) s:=Zvr hk hl (fun k h=>by cases h)
theorem Zp4 {s:PS} (hk:s.k ≤ L.length) (hl:L.length ≤ 4096):exF L en FU .prim s=(bnd (litM L en) fun r=>match r with
 | some x=>ret x
 | none=>bnd (nameQ L en) fun r=>match r with
  | some t=>bnd (isM L en Zpb) fun b=>if b then bnd (nameM L en) fun m=>ret (.mk 2 V00 t m 0 []) else ret (.mk 2 V00 ⟨#[]⟩ t 0 [])
  | none=>bnd (isM L en Zbr) fun b=>if b then ret (PE.val1 V00)
   else bnd (isM L en Z9) fun b=>if b then bnd (exF L en FU .expr) fun x=>bnd (mustM L en [Zp]) fun _=>ret x
   else bnd (isM L en Za7) fun b=>if b then
    (bnd (mustM L en [Z9]) fun _=>bnd (isM L en Zao) fun b=>if b then bnd (mustM L en [Zp]) fun _=>ret (PE.node 20 [])
     else bnd (exF L en FU .expr) fun x=>bnd (mustM L en [Zp]) fun _=>ret (PE.node 20 [x]))
   else bnd (oneOf L en groups) fun o=>match o with
    | some o=>bnd (mustM L en [Z9]) fun _=>bnd (exF L en FU .expr) fun x=>bnd (mustM L en [Zp]) fun _=>ret (PE.node o [x])
    | none=>bnd (failM L en 6) fun _=>ret PE.zero) s:=Zvr hk hl (fun k h=>by cases h)
def cL {α:Type} (O:List α) (r:List α × PS):List α × PS:=(if r.2.e=0 then O ++ r.1 else [],r.2)
theorem Za1 {α β:Type} {p:Rd α} {q:α→Rd β} {s s1:PS} {x:α} (h:p s=(x,s1)):bnd p q s=q x s1:=by unfold bnd;rw [h]
theorem isY {β:Type} {t:ByteArray} {q:Bool→Rd β} {s:PS} (h:isB L en t s=true):bnd (isM L en t) q s=q true s.next:=Za1 (by unfold isM;rw [h];rfl)
theorem isN {β:Type} {t:ByteArray} {q:Bool→Rd β} {s:PS} (h:isB L en t s=false):bnd (isM L en t) q s=q false s:=Za1 (by unfold isM;rw [h];rfl)
theorem okY {β:Type} {q:Bool→Rd β} {s:PS} (h:s.e=0):bnd okM q s=q true s:=Za1 (by unfold okM;rw [decide_eq_true h])
theorem okN {β:Type} {q:Bool→Rd β} {s:PS} (h:s.e ≠ 0):bnd okM q s=q false s:=Za1 (by unfold okM;rw [decide_eq_false h])
theorem Zq9 {α:Type} {one:Rd α} {f:Nat} {s s1:PS} {x:α} (h:one s=(x,s1)) (he:s1.e ≠ 0):listM L en one (f + 1) s=([],s1):=by
 show bnd one _ s=_
 rw [Za1 h,okN he];rfl
theorem Zra {α:Type} {one:Rd α} {f:Nat} {s s1:PS} {x:α} (h:one s=(x,s1)) (he:s1.e=0) (hb:isB L en Zy s1=false):listM L en one (f + 1) s=([x],s1):=by
 show bnd one _ s=_
 rw [Za1 h,okY he,if_pos rfl,isN hb];rfl
theorem Zoc {α:Type} {one:Rd α} {f:Nat} {s s1:PS} {x:α} (h:one s=(x,s1)) (he:s1.e=0) (hb:isB L en Zy s1=true) :
 listM L en one (f + 1) s=((if (listM L en one f s1.next).2.e=0 then x :: (listM L en one f s1.next).1 else []),(listM L en one f s1.next).2):=by
 show bnd one _ s=_
 rw [Za1 h,okY he,if_pos rfl,isY hb,if_pos rfl,Za1 (p:=listM L en one f) (x:=(listM L en one f s1.next).1) (s1:=(listM L en one f s1.next).2) rfl]
 by_cases h0:(listM L en one f s1.next).2.e=0
 ·rw [okY h0,if_pos h0];rfl
 rw [okN h0,if_neg h0];rfl
theorem list_bad {α:Type} (one:Rd α):∀ (f:Nat) (s:PS),(listM L en one f s).2.e ≠ 0→(listM L en one f s).1 = []
 | 0,s,_=>rfl
 | f + 1,s,h=>by
  obtain ⟨⟨x,s1⟩,h1⟩:∃ r,one s=r:=⟨_,rfl⟩
  by_cases h0:s1.e=0
  ·cases hb:isB L en Zy s1 with
   | true=>
    rw [Zoc h1 h0 hb] at h ⊢
    exact if_neg h
   | false=>
    rw [Zra h1 h0 hb] at h
    exact absurd h0 h
  ·rw [Zq9 h1 h0]
theorem cL_nil {α:Type} (one:Rd α) (f:Nat) (s:PS):cL [] (listM L en one f s)=listM L en one f s:=by
 unfold cL
 split
 ·rfl
 rename_i h
 rw [← list_bad one f s h]
theorem cL_bad {α:Type} {one:Rd α} {O:List α} {f:Nat} {s s1:PS} {x:α} (h:one s=(x,s1)) (he:s1.e ≠ 0):cL O (listM L en one (f + 1) s)=([],s1):=by
 rw [Zq9 h he]
 unfold cL
 rw [if_neg he]
theorem cL_end {α:Type} {one:Rd α} {O:List α} {f:Nat} {s s1:PS} {x:α} (h:one s=(x,s1)) (he:s1.e=0) (hb:isB L en Zy s1=false):cL O (listM L en one (f + 1) s)=(O ++ [x],s1):=by
 rw [Zra h he hb]
 unfold cL
 rw [if_pos he]
theorem cL_more {α:Type} {one:Rd α} {O:List α} {f:Nat} {s s1:PS} {x:α} (h:one s=(x,s1)) (he:s1.e=0) (hb:isB L en Zy s1=true):cL O (listM L en one (f + 1) s)=cL (O ++ [x]) (listM L en one f s1.next):=by
 rw [Zoc h he hb]
 unfold cL
 simp only
 split
 ·rw [List.append_assoc];rfl
 rfl
theorem Zsr {ops:List (ByteArray × Nat)} {one:Rd PE} {f:Nat} {x:PE} {s:PS} {o:Nat} (h:oneOf L en ops s=(some o,s.next)):chainM L en ops one (f + 1) x s=chainM L en ops one f (.node o [x,(one s.next).1]) (one s.next).2:=by
 show bnd (oneOf L en ops) _ s=_
 rw [Za1 h];rfl
theorem Zos {ops:List (ByteArray × Nat)} {one:Rd PE} {f:Nat} {x:PE} {s:PS} (h:oneOf L en ops s=(none,s)):chainM L en ops one (f + 1) x s=(x,s):=by
 show bnd (oneOf L en ops) _ s=_
 rw [Za1 h];rfl
theorem Zh2 {s:PS} {x:ByteArray × Nat} {l:List (ByteArray × Nat)} (hb:isB L en x.1 s=true):oneOf L en (x :: l) s=(some x.2,s.next):=by
 show bnd (isM L en x.1) _ s=_
 rw [isY hb];rfl
theorem Zh3 {s:PS} {x:ByteArray × Nat} {l:List (ByteArray × Nat)} (hb:isB L en x.1 s=false):oneOf L en (x :: l) s=oneOf L en l s:=by
 show bnd (isM L en x.1) _ s=_
 rw [isN hb];rfl
theorem isB_bad {t:ByteArray} {s:PS} (he:s.e ≠ 0):isB L en t s=false:=by unfold isB;simp [he]
theorem Zn9 {s:PS} (he:s.e ≠ 0):∀ ops:List (ByteArray × Nat),oneOf L en ops s=(none,s)
 | []=>rfl
 | x :: l=>by rw [Zh3 (isB_bad he)];exact Zn9 he l
end
section
variable {L:List Tk} {en:Int}
theorem Zax {α:Type} {p:Rd α} {s s':PS} {y:α} (hk:Za0 p) (he:p s=(y,s')) (h0:s'.e=0):s.e=0:=Classical.byContradiction fun hn=>by
 have:=hk s hn
 rw [he] at this
 exact this h0
end
def Zif (ts:List Tk):Prop:=∀ t ∈ ts,(t.k=1 ∨ t.k=6)→t.s ≠ Za4
def RdT (u:List UInt8) (ts:List Tk):Prop:=∀ (b:Nat) (c:UInt8) (r:List UInt8),Zs c=true→∃ m,Zky m ts∧tk b (u ++ c :: r)=preT m (tk (b + u.length + 1) r)
def Clean (a:List UInt8):Prop:=a = [] ∨ ∃ u ts,a=u ++ [32]∧Zif ts∧RdT u ts
def Zd0 (u:List UInt8):Prop:=∃ ts,Zif ts∧RdT u ts
theorem Zuo (m m':List Tk) (x:TR):preT m (preT m' x)=preT (m ++ m') x:=by
 cases x with
 | inl e=>rfl
 | inr l=>simp [preT]
theorem Zle:∀ {a b c d:List Tk},Zky a b→Zky c d→Zky (a ++ c) (b ++ d)
 | [],[],_,_,_,h=>h
 | x :: a,y :: b,c,d,h,h'=>⟨h.1,Zle h.2 h'⟩
 | [],y :: b,_,_,h,_=>h.elim
 | x :: a,[],_,_,h,_=>h.elim
theorem tk_blank {c:UInt8} (hc:Zs c=true) (b:Nat) (r:List UInt8):tk b (c :: r)=tk (b + 1) r:=by
 rw [Zgx b (c :: r),Zfa hc,Zgx (b + 1) r,List.drop_succ_cons]
 congr 1
 omega
theorem RdT.app {u u':List UInt8} {ts ts':List Tk} (h:RdT u ts) (h':RdT u' ts'):RdT (u ++ 32 :: u') (ts ++ ts'):=fun b c r hc=>by
 obtain ⟨m,hm,e⟩:=h b 32 (u' ++ c :: r) kD
 obtain ⟨m',hm',e'⟩:=h' (b + u.length + 1) c r hc
 refine ⟨m ++ m',Zle hm hm',?_⟩
 rw [List.append_assoc,List.cons_append,e,e',Zuo]
 congr 2
 simp only [List.length_append,List.length_cons];omega
theorem RdT.tok {t:Tk} (h:okT t):RdT (Zak t) [t]:=fun b c r hc=>by
 obtain ⟨hne,_,ho⟩:=h
 have hs:=Zgr hne ho hc r
 refine ⟨[⟨t.k,⟨t.s.data.toList.toArray⟩,t.n,(b:Int)⟩],⟨⟨rfl,ByteArray.ext (Array.toArray_toList),rfl⟩,trivial⟩,?_⟩
 rw [Zjl kY hs]
 unfold stepT
 rw [Zn8 hne ho hc r]
 simp only
 rw [List.drop_left,if_neg (by show ¬ (t.k ≠ 6∧Zbf (Zal (c :: r))=true);rw [show Zal (c :: r)=c from rfl,(Zgi hc).1];simp),tk_blank hc]
 cases tk (b + (Zak t).length + 1) r <;> rfl
theorem Zrp {c:UInt8} (h:Zdx c=true):c ≠ 39∧c ≠ 120∧(Zdi c || Zf3 c)=false∧c ≠ 45∧c ≠ 60∧c ≠ 62∧c ≠ 124∧Zs c=false:=by
 have h1:=of_decide_eq_true h
 refine ⟨?_,?_,?_,?_,?_,?_,?_,?_⟩
 ·rintro rfl;exact absurd h1 kD
 ·rintro rfl;exact absurd h1 kD
 ·unfold Zdi Zf3
  simp only [Bool.or_eq_false_iff,decide_eq_false_iff_not]
  omega
 ·rintro rfl;exact absurd h1 kD
 ·rintro rfl;exact absurd h1 kD
 ·rintro rfl;exact absurd h1 kD
 ·rintro rfl;exact absurd h1 kD
 unfold Zs;exact decide_eq_false kW
theorem Zwg (n:Nat):Zdx (Zal (decDigits n))=true:=by
 obtain ⟨c,hc,h1,h2⟩:=Zgv n
 cases hd:decDigits n with
 | nil=>rw [hd] at hc;cases hc
 | cons d l=>
  rw [hd] at hc
  cases hc
  show Zdx c=true
  unfold Zdx
  exact decide_eq_true ⟨h1,h2⟩
theorem dec_digs (n:Nat):∀ c ∈ decDigits n,Zdx c=true:=Zg6 _ 0 n (Zmu n)
theorem Zj6 {n:Nat} (h:n ≤ 9223372036854775808):okT ⟨3,⟨#[]⟩,n,0⟩:=by
 have e:Zak ⟨3,⟨#[]⟩,n,0⟩=decDigits n:=Zik rfl
 have hd:=Zwg n
 obtain ⟨h1,h2,h3,_⟩:=Zrp hd
 refine ⟨by rw [e];exact Zlq n,by show (0:Nat) ≤ 1000;decide,?_⟩
 rw [e]
 unfold Zcx
 rw [if_neg h1,if_neg (fun h=>h2 h.1),if_neg (by rw [h3];decide),if_pos hd]
 unfold Zc2
 have hr:Zap Zdx (decDigits n)=(decDigits n).length:=Zh0 (dec_digs n)
 have hz:¬ (Zal (decDigits n)=48∧Zdx (Zal ((decDigits n).drop 1))=true):=by
  rintro ⟨g1,g2⟩
  by_cases h0:n=0
  ·subst h0
   rw [Zet kD] at g2
   exact absurd g2 kD
  ·have:=Zrq n kW
   cases hdd:decDigits n with
   | nil=>exact Zlq n hdd
   | cons d l=>rw [hdd] at g1 this;exact this (by rw [show d=48 from g1];rfl)
 rw [if_neg hz,hr,List.take_length,Zmu]
 simp only
 rw [if_neg kW]
theorem RdT.neg {n:Nat} (h:n ≤ 9223372036854775808):RdT (45 :: decDigits n) [⟨6,Zad,0,0⟩,⟨3,⟨#[]⟩,n,0⟩]:=fun b c r hc=>by
 obtain ⟨m,hm,e⟩:=RdT.tok (Zj6 h) (b + 1) c r hc
 rw [show Zak ⟨3,⟨#[]⟩,n,0⟩=decDigits n from Zik rfl] at e
 obtain ⟨d,l,hd⟩:∃ d l,decDigits n=d :: l:=by
  cases hdd:decDigits n with
  | nil=>exact absurd hdd (Zlq n)
  | cons d l=>exact ⟨d,l,rfl⟩
 have hdig:Zdx d=true:=by have:=Zwg n;rw [hd] at this;exact this
 obtain ⟨h1,h2,h3,h45,h60,h62,h124,_⟩:=Zrp hdig
 have hs:Zr (45 :: (decDigits n ++ c :: r))=0:=by
  refine skip_none (by show Zs 45=false;decide) ?_
  rintro ⟨_,h2⟩
  rw [hd] at h2
  exact h45 h2
 refine ⟨⟨6,Zad,0,(b:Int)⟩ :: m,⟨⟨rfl,rfl,rfl⟩,hm⟩,?_⟩
 rw [List.cons_append,Zjl kY hs]
 have ho:Zcx (45 :: (decDigits n ++ c :: r)) = .tok 6 [45] 0 1:=by
  unfold Zcx Zbm
  have h2:(45 :: (decDigits n ++ c :: r)).take 2 ∉ Zf1:=by
   intro e
   rw [hd] at e
   simp [Zf1] at e
  rw [if_neg (by show ¬ (45:UInt8)=39;decide),if_neg (by show ¬ ((45:UInt8)=120∧_);intro h;exact absurd h.1 kD),if_neg (by show ¬ (Zdi 45 || Zf3 45)=true;decide),if_neg (by show ¬ Zdx 45=true;decide),if_neg h2,if_pos (by show (45:UInt8) ∈ Zfz;decide)]
  rfl
 unfold stepT
 rw [ho]
 simp only
 rw [if_neg (fun h=>h.1 rfl),List.drop_succ_cons,List.drop_zero,e,show b + 1 + (decDigits n).length + 1=b + (45 :: decDigits n).length + 1 by simp only [List.length_cons];omega]
 cases tk (b + (45 :: decDigits n).length + 1) r <;> rfl
theorem Zd0.tok {t:Tk} (h:okT t) (hs:(t.k ≠ 1∧t.k ≠ 6) ∨ t.s ≠ Za4):Zd0 (Zak t):=⟨[t],fun x hx=>by
 obtain rfl:=List.mem_singleton.1 hx
 intro h1
 rcases hs with hs | hs
 ·omega
 ·exact hs,RdT.tok h⟩
theorem Zd0.w {k:Nat} {s:ByteArray} (hk:k=1 ∨ k=2 ∨ k=6) (h:okT ⟨k,s,0,0⟩) (hs:(k ≠ 1∧k ≠ 6) ∨ s ≠ Za4):Zd0 (W1 s):=by
 have:=Zd0.tok h hs
 rwa [Zey (t:=⟨k,s,0,0⟩) hk] at this
theorem Zd0.name {s:ByteArray} (h:Zaz s):Zd0 (W1 s):=Zd0.w (.inr (.inl rfl)) h (.inl kD)
theorem Clean.word {a:List UInt8} (h:Clean a) {w:List UInt8} (hw:Zd0 w):Clean (a ++ (w ++ [32])):=by
 obtain ⟨ts,hn,hr⟩:=hw
 rcases h with rfl | ⟨u,us,rfl,hun,hur⟩
 ·exact .inr ⟨w,ts,rfl,hn,hr⟩
 refine .inr ⟨u ++ 32 :: w,us ++ ts,by simp,?_,hur.app hr⟩
 intro t ht
 rcases List.mem_append.1 ht with ht | ht
 ·exact hun t ht
 exact hn t ht
theorem Clean.puts:∀ {l:List (List UInt8)} {a:List UInt8},Clean a→(∀ w ∈ l,Zd0 w)→Clean (Ze l a)
 | [],a,h,_=>by unfold Ze;simpa using h
 | w :: l,a,h,hw=>by
  have h1:=Clean.puts (l:=l) (h.word (hw w kY)) (fun x hx=>hw x kb66)
  unfold Ze at h1 ⊢
  simpa using h1
theorem Za2:∀ s ∈ [WOR,Zf6,Zfx,WIS,Zbr,Za7,Zm5,Zm6,Zm7,Zbl,Zm1,Zeo,Zm0,Zm2,Zcj,Zde,Zbo,WON,WAS,Zck,Zfy,Z6,Zbp,WBY,Zbi,Zbz,Zie,Zdv,Zau,Zf5,Zcq,Zf4,Zcy,
 Zdd,Zpa,Zdw,Zb9,Zgj,Zd6,Zay,WTO,Za9,Zcv],Zd0 (W1 s):=by
 have h:∀ s ∈ [WOR,Zf6,Zfx,WIS,Zbr,Za7,Zm5,Zm6,Zm7,Zbl,Zm1,Zeo,Zm0,Zm2,Zcj,Zde,Zbo,WON,WAS,Zck,Zfy,Z6,Zbp,WBY,Zbi,Zbz,Zie,Zdv,Zau,Zf5,Zcq,Zf4,Zcy,
  Zdd,Zpa,Zdw,Zb9,Zgj,Zd6,Zay,WTO,Za9,Zcv],okT ⟨1,s,0,0⟩∧s ≠ Za4:=by decide +kernel
 intro s hs
 exact Zd0.w (k:=1) (.inl rfl) (h s hs).1 (.inr (h s hs).2)
theorem Zdo:∀ s ∈ [Zcf,Zdf,Zad,Zao,Zih,Zig,BEQ,BNE,BLT,BLE,BGT,BGE,Zpb,Z9,Zp,Zy],Zd0 (W1 s):=by
 have h:∀ s ∈ [Zcf,Zdf,Zad,Zao,Zih,Zig,BEQ,BNE,BLT,BLE,BGT,BGE,Zpb,Z9,Zp,Zy],okT ⟨6,s,0,0⟩∧s ≠ Za4:=by decide +kernel
 intro s hs
 exact Zd0.w (k:=6) (.inr (.inr rfl)) (h s hs).1 (.inr (h s hs).2)
end Go.Proofs.YtmdogmpcmkfjpaaGreatDoor.Dt
