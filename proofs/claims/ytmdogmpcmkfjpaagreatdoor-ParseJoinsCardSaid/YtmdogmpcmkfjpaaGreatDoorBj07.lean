import Derived.Test.YtmdogmpcmkfjpaaGreatDoorBj06
/- Part of the proof (merged). -/
namespace Go.Proofs.YtmdogmpcmkfjpaaGreatDoor.Dt
open Go.Lib
set_option linter.unusedVariables false
def NamesOk (l:List ByteArray):Prop:=∀ n ∈ l,NameOk n
def ExsOk (l:List PE):Prop:=∀ x ∈ l,ExOk x
def ColOk (c:PCol):Prop:=NameOk c.name∧1 ≤ c.ty∧c.ty ≤ 3
def SrcOk (x:PSrc):Prop:=NameOk x.table∧(x.as=⟨#[]⟩ ∨ NameOk x.as)∧ExsOk x.on
theorem kpS {p:Prop} (h:p:=by intros;repeat (first | with_reducible refine Keep.bnd ?_ (fun _=>?_) | with_reducible refine Keep.ite _ ?_ ?_ | with_reducible exact Keep.ret _ | with_reducible exact Sim.keep (Sim.mustM _) | with_reducible exact Sim.keep Sim.nameM | with_reducible exact Sim.keep Sim.okM | with_reducible exact Sim.keep (Sim.isM _ (by decide) (by decide)) | with_reducible exact Sim.keep (Sim.failM 6 (by decide)) | with_reducible exact Sim.keep (Sim.oneOf _ (by decide)) | with_reducible exact Sim.keep Sim.exprM | with_reducible exact Sim.keep (Sim.colsM _ _) | with_reducible exact Sim.keep Sim.colM | with_reducible exact Sim.keep Sim.namesM | with_reducible exact Sim.keep Sim.sourceM | with_reducible exact Sim.keep (Sim.joinsM _ _) | with_reducible exact Sim.keep (Sim.maybeM _ (by decide) (by decide)) | with_reducible exact Sim.keep (Sim.byM _ (by decide) (by decide) Sim.exprM) | with_reducible exact Sim.keep (Sim.byM _ (by decide) (by decide) Sim.orderM) | with_reducible exact Sim.keep Sim.limitM | with_reducible exact Sim.keep Sim.numM | with_reducible exact Sim.keep (Sim.listM Sim.setM _) | with_reducible exact Sim.keep (Sim.listM Sim.itemM _) | with_reducible exact Sim.keep (Sim.listM Sim.exprM _) | with_reducible exact Sim.keep (Sim.listM Sim.orderM _) | with_reducible exact Sim.keep (Sim.listM Sim.nameM _) | with_reducible exact Sim.keep (Sim.listM (Sim.insideM Sim.exprM _) _) | with_reducible exact Sim.keep Sim.createM | with_reducible exact Sim.keep Sim.dropM | with_reducible exact Sim.keep Sim.insertM | with_reducible exact Sim.keep Sim.updateM | with_reducible exact Sim.keep Sim.deleteM | with_reducible exact Sim.keep Sim.chooseM | with_reducible exact Sim.keep Sim.rollM | with_reducible exact Sim.keep (Sim.saveM _) | with_reducible exact Sim.keep Sim.restM | with_reducible exact Sim.keep Sim.stmtM | split)):p:=h
inductive StOk:PSt→Prop where
 | create (t:ByteArray) (cols:List PCol) (key:List ByteArray):NameOk t→(∀ c ∈ cols,ColOk c)→NamesOk key→StOk { kind:=1,table:=t,cols:=cols,key:=key }
 | index (u:Bool) (n t:ByteArray) (key:List ByteArray):NameOk n→NameOk t→NamesOk key→StOk { kind:=3,uniq:=u,name:=n,table:=t,key:=key }
 | drop (t:ByteArray):NameOk t→StOk { kind:=2,table:=t }
 | dropIndex (n:ByteArray):NameOk n→StOk { kind:=4,name:=n }
 | insert (t:ByteArray) (names:List ByteArray) (rows:List (List PE)):NameOk t→NamesOk names→(∀ r ∈ rows,ExsOk r)→StOk { kind:=5,table:=t,names:=names,rows:=rows }
 | update (t:ByteArray) (sets:List (ByteArray × PE)) (wh:List PE):NameOk t→(∀ c ∈ sets,NameOk c.1∧ExOk c.2)→ExsOk wh→StOk { kind:=6,table:=t,sets:=sets,wh:=wh }
 | delete (t:ByteArray) (wh:List PE):NameOk t→ExsOk wh→StOk { kind:=7,table:=t,wh:=wh }
 | select (items:List (PE × ByteArray)) (src:List PSrc) (wh group having:List PE) (order:List (PE × Bool)) (limit:Int):(∀ i ∈ items,ExOk i.1∧(i.2=⟨#[]⟩ ∨ NameOk i.2))→(∀ x ∈ src,SrcOk x)→ExsOk wh→ExsOk group→ExsOk having →
  (∀ x ∈ order,ExOk x.1)→-1 ≤ limit→limit ≤ 1073741824→StOk { kind:=8,items:=items,src:=src,wh:=wh,group:=group,having:=having,order:=order,limit:=limit }
 | begin:StOk { kind:=9 }
 | commit:StOk { kind:=10 }
 | rollback:StOk { kind:=11 }
 | save (n:ByteArray):NameOk n→StOk { kind:=12,name:=n }
 | back (n:ByteArray):NameOk n→StOk { kind:=13,name:=n }
 | release (n:ByteArray):NameOk n→StOk { kind:=14,name:=n }
section
variable {L:List Tk} {en:Int}
theorem Good.ite {α:Type} {Q:α→Prop} {t:ByteArray} {p q:Rd α} (hk:∀ b:Bool,Keep (if b then p else q)) (hp:Good p Q) (hq:Good q Q):Good (Dt.bnd (Dt.isM L en t) fun b=>if b then p else q) Q:=Good.bnd (Good.any _) hk (fun b _=>by
 cases b
 ·exact hq
 ·exact hp)
theorem Good.listM {α:Type} {one:Rd α} {Q:α→Prop} (hs:Sim L en L en 0 one one) (hg:Good one Q):∀ f,Good (listM L en one f) (fun l=>∀ x ∈ l,Q x)
 | 0=>Good.fail (fun s=>by show (99:Nat) ≠ 0;decide) _
 | f + 1=>fun s h=>by
  obtain ⟨⟨x,s1⟩,h1⟩:∃ r,one s=r:=⟨_,rfl⟩
  have e:Dt.listM L en one (f + 1) s=(if decide (s1.e=0)=true then (Dt.bnd (Dt.isM L en BCOMMA) fun b=>if b=true then Dt.bnd (Dt.listM L en one f) fun r=>Dt.bnd Dt.okM fun ok=>Dt.ret (if ok=true then x :: r else []) else Dt.ret [x]) else Dt.ret []) s1:=by
   show Dt.bnd one _ s=_
   rw [bnd_of h1]
   rfl
  rw [e] at h ⊢
  by_cases he:s1.e=0
  ·rw [if_pos (decide_eq_true he)] at h ⊢
   have hx:Q x:=by
    have:=hg s (by rw [h1];exact he)
    rwa [h1] at this
   obtain ⟨⟨b,s2⟩,h2⟩:∃ r,Dt.isM L en BCOMMA s1=r:=⟨_,rfl⟩
   rw [bnd_of h2] at h ⊢
   cases b with
   | false=>intro y hy;simp [Dt.ret] at hy;rw [hy];exact hx
   | true=>
    simp only [if_true] at h ⊢
    obtain ⟨⟨r,s3⟩,h3⟩:∃ r,Dt.listM L en one f s2=r:=⟨_,rfl⟩
    rw [bnd_of h3] at h ⊢
    have h4:Dt.okM s3=(decide (s3.e=0),s3):=rfl
    rw [bnd_of h4] at h ⊢
    intro y hy
    by_cases he3:s3.e=0
    ·have hr:=Good.listM hs hg f s2 (by rw [h3];exact he3)
     rw [h3] at hr
     simp only [he3,decide_true,if_true,Dt.ret] at hy
     rcases List.mem_cons.1 hy with h5 | h5
     ·rw [h5];exact hx
     ·exact hr y h5
    ·simp [he3,Dt.ret] at hy
  ·rw [if_neg (by simp [he])]
   intro y hy
   simp [Dt.ret] at hy
theorem Good.insideM {α:Type} {one:Rd α} {Q:α→Prop} (hs:Sim L en L en 0 one one) (hg:Good one Q) (f:Nat):Good (insideM L en one f) (fun l=>∀ x ∈ l,Q x):=
 Good.bnd (Good.any _) (fun _=>Keep.bnd (Sim.keep (Sim.listM hs f)) (fun l=>Keep.bnd (Sim.keep (Sim.mustM _)) (fun _=>Keep.ret _))) (fun _ _=>Good.bnd (Good.listM hs hg f) (fun l=>Keep.bnd (Sim.keep (Sim.mustM _)) (fun _=>Keep.ret _)) (fun l hl=>Good.bnd (Good.any _) (fun _=>Keep.ret _) (fun _ _=>Good.ret hl)))
theorem Good.namesM (h:AllOk L):Good (namesM L en) NamesOk:=Good.insideM Sim.nameM (Good.nameM h) FU
theorem Good.maybeM (h:AllOk L) (w:ByteArray):Good (maybeM L en w) ExsOk:=Good.ite kpS (Good.bnd (Good.exprM h) kpS (fun x hx=>Good.ret (fun y hy=>by simp at hy;subst hy;exact hx))) (Good.ret (fun y hy=>by cases hy))
set_option maxHeartbeats 4000000 in
theorem Good.colM (h:AllOk L):Good (colM L en) ColOk:=Good.bnd (Good.nameM h) kpS (fun n hn=>Good.bnd (Good.oneOf (fun o=>1 ≤ o∧o ≤ 3) types (by decide)) kpS (fun o ho=>
 Good.bnd (Q:=fun ty=>1 ≤ ty∧ty ≤ 3) (by
  cases o with
  | some o=>exact Good.ret (ho o rfl)
  | none=>exact Good.fail (fun s=>(failP_k 6 s (by decide)).2) _) kpS (fun ty hty=>Good.ite kpS (Good.bnd (Good.any _) kpS (fun _ _=>Good.ret ⟨hn,hty⟩)) (Good.ret ⟨hn,hty⟩))))
set_option maxHeartbeats 4000000 in
theorem Good.colsM (h:AllOk L):∀ f cs,(∀ c ∈ cs,ColOk c)→Good (colsM L en f cs) (fun l=>∀ c ∈ l,ColOk c)
 | 0,cs,_=>Good.fail (fun s=>by show (99:Nat) ≠ 0;decide) _
 | f + 1,cs,hc=>Good.bnd (Good.any _) kpS (fun ok _=>by
     cases ok with
     | false=>exact Good.ret hc
     | true=>exact Good.bnd (p:=if cs.isEmpty then Dt.ret false else Dt.isM L en WPRIMARY) (q:=fun b=>if b then Dt.ret cs else Dt.bnd (Dt.colM L en) fun c=>Dt.bnd (Dt.mustM L en [BCOMMA]) fun _=>Dt.colsM L en f (cs ++ [c])) (Good.any _) kpS (fun b _=>by
      cases b with
      | true=>exact Good.ret hc
      | false=>exact Good.bnd (Good.colM h) kpS (fun c hcc=>Good.bnd (Good.any _) kpS (fun _ _=>Good.colsM h f _ (fun x hx=>by
       rcases List.mem_append.1 hx with h1 | h1
       ·exact hc x h1
       ·simp at h1;subst h1;exact hcc)))))
set_option maxHeartbeats 4000000 in
theorem Good.createM (h:AllOk L):Good (createM L en) StOk:=Good.ite kpS (Good.bnd (Good.nameM h) kpS (fun n hn=>Good.bnd (Good.any _) kpS (fun _ _=>Good.bnd (Good.colsM h FU [] (fun c hc=>by cases hc)) kpS (fun c hc=>Good.bnd (Good.any _) kpS (fun _ _=>Good.bnd (Good.namesM h) kpS (fun k hk=>Good.bnd (Good.any _) kpS (fun _ _=>Good.ret (.create n c k hn hc hk)))))))) (Good.bnd (Good.any _) kpS (fun u _=>Good.bnd (Good.any _) kpS (fun _ _=>Good.bnd (Good.nameM h) kpS (fun n hn=>Good.bnd (Good.any _) kpS (fun _ _=>Good.bnd (Good.nameM h) kpS (fun t ht=>Good.bnd (Good.namesM h) kpS (fun k hk=>Good.ret (.index u n t k hn ht hk))))))))
theorem Good.sourceM (h:AllOk L):Good (sourceM L en) (fun x=>SrcOk x∧x.on = []):=Good.bnd (Good.nameM h) kpS (fun n hn=>Good.ite kpS (Good.bnd (Good.nameM h) kpS (fun m hm=>Good.ret ⟨⟨hn,.inr hm,fun y hy=>by cases hy⟩,rfl⟩)) (Good.ret ⟨⟨hn,.inl rfl,fun y hy=>by cases hy⟩,rfl⟩))
theorem Good.itemM (h:AllOk L):Good (itemM L en) (fun i=>ExOk i.1∧(i.2=⟨#[]⟩ ∨ NameOk i.2)):=Good.bnd (Good.exprM h) kpS (fun x hx=>Good.ite kpS (Good.bnd (Good.nameM h) kpS (fun m hm=>Good.ret ⟨hx,.inr hm⟩)) (Good.ret ⟨hx,.inl rfl⟩))
theorem Good.orderM (h:AllOk L):Good (orderM L en) (fun x=>ExOk x.1):=Good.bnd (Good.exprM h) kpS (fun x hx=>Good.bnd (Good.any _) kpS (fun b _=>Good.ret hx))
theorem Good.setM (h:AllOk L):Good (setM L en) (fun c=>NameOk c.1∧ExOk c.2):=Good.bnd (Good.nameM h) kpS (fun n hn=>Good.bnd (Good.any _) kpS (fun _ _=>Good.bnd (Good.exprM h) kpS (fun x hx=>Good.ret ⟨hn,hx⟩)))
set_option maxHeartbeats 4000000 in
theorem Good.joinsM (h:AllOk L):∀ f l,(∀ x ∈ l,SrcOk x)→Good (joinsM L en f l) (fun l=>∀ x ∈ l,SrcOk x)
 | 0,l,_=>Good.fail (fun s=>by show (99:Nat) ≠ 0;decide) _
 | f + 1,l,hl=>Good.bnd (Good.any _) kpS (fun b _=>by
     cases b with
     | false=>exact Good.ret hl
     | true=>exact Good.bnd (Good.sourceM h) kpS (fun x hx=>Good.bnd (Good.any _) kpS (fun _ _=>Good.bnd (Good.exprM h) kpS (fun y hy=>Good.joinsM h f _ (fun z hz=>by
      rcases List.mem_append.1 hz with h1 | h1
      ·exact hl z h1
      ·simp at h1;subst h1;exact ⟨hx.1.1,hx.1.2.1,fun w hw=>by simp at hw;subst hw;exact hy⟩)))))
theorem Good.byM {α:Type} (w:ByteArray) {one:Rd α} {Q:α→Prop} (hs:Sim L en L en 0 one one) (hg:Good one Q):Good (byM L en w one) (fun l=>∀ x ∈ l,Q x):=
 Good.bnd (Good.any _) (fun b=>Keep.ite b (Keep.bnd (Sim.keep (Sim.mustM _)) (fun _=>Sim.keep (Sim.listM hs FU))) (Keep.ret _)) (fun b _=>by
  cases b with
  | true=>exact Good.bnd (Good.any _) (fun _=>Sim.keep (Sim.listM hs FU)) (fun _ _=>Good.listM hs hg FU)
  | false=>exact Good.ret (fun y hy=>by cases hy))
theorem Good.numM:Good (numM L en) (fun n=>-1 ≤ n∧n ≤ 1073741824):=fun s hs=>by
 unfold Dt.numM at hs ⊢
 split at hs
 ·exact absurd hs (failP_k 6 s (by decide)).2
 ·rename_i h1
  rw [if_neg h1]
  split at hs
  ·exact absurd hs (failP_k 5 s (by decide)).2
  ·rename_i h2
   rw [if_neg h2]
   show -1 ≤ (((tokP L en s.k).n:Nat):Int)∧(((tokP L en s.k).n:Nat):Int) ≤ 1073741824
   omega
theorem Good.limitM:Good (limitM L en) (fun n=>-1 ≤ n∧n ≤ 1073741824):=Good.ite kpS (Good.numM) (Good.ret (by decide))
theorem choose_all (h:AllOk L):Keep (Dt.chooseM L en)∧Good (Dt.chooseM L en) StOk:=by
 have t0:∀ (i:List (PE × ByteArray)) (j:List PSrc) (w g hv:List PE) (o:List (PE × Bool)),(∀ y ∈ i,ExOk y.1∧(y.2=⟨#[]⟩ ∨ NameOk y.2))→(∀ x ∈ j,SrcOk x)→ExsOk w→ExsOk g→ExsOk hv→(∀ x ∈ o,ExOk x.1) →
  Good (Dt.bnd (Dt.limitM L en) fun m=>Dt.ret ({ kind:=8,items:=i,src:=j,wh:=w,group:=g,having:=hv,order:=o,limit:=m } : PSt)) StOk:=fun i j w g hv o hi hj hw hg hh ho=>
  Good.bnd Good.limitM (fun _=>Keep.ret _) (fun m hm=>Good.ret (.select i j w g hv o m hi hj hw hg hh ho hm.1 hm.2))
 exact ⟨Sim.keep Sim.chooseM,fun s hs=>by
  obtain ⟨⟨b,s1⟩,e1⟩:∃ r,Dt.isM L en BSTAR s=r:=⟨_,rfl⟩
  have E1:Dt.chooseM L en s=Dt.bnd (if b=true then Dt.ret [] else Dt.listM L en (Dt.itemM L en) FU) (fun i=>Dt.bnd (Dt.mustM L en [WFROM]) fun _=>Dt.bnd (Dt.sourceM L en) fun x=>
   Dt.bnd (Dt.joinsM L en FU [x]) fun j=>Dt.bnd (Dt.maybeM L en WWHERE) fun w=>Dt.bnd (Dt.byM L en WGROUP (Dt.exprM L en)) fun g=>Dt.bnd (Dt.maybeM L en WHAVING) fun h=>
   Dt.bnd (Dt.byM L en WORDER (Dt.orderM L en)) fun o=>Dt.bnd (Dt.limitM L en) fun m=>Dt.ret { kind:=8,items:=i,src:=j,wh:=w,group:=g,having:=h,order:=o,limit:=m }) s1:=by
   show Dt.bnd (Dt.isM L en BSTAR) _ s=_
   rw [bnd_of e1]
  rw [E1] at hs ⊢
  obtain ⟨⟨i,s2⟩,e2⟩:∃ r,(if b=true then Dt.ret [] else Dt.listM L en (Dt.itemM L en) FU) s1=r:=⟨_,rfl⟩
  rw [bnd_of e2] at hs ⊢
  obtain ⟨⟨u,s3⟩,e3⟩:∃ r,Dt.mustM L en [WFROM] s2=r:=⟨_,rfl⟩
  rw [bnd_of e3] at hs ⊢
  obtain ⟨⟨x,s4⟩,e4⟩:∃ r,Dt.sourceM L en s3=r:=⟨_,rfl⟩
  rw [bnd_of e4] at hs ⊢
  obtain ⟨⟨j,s5⟩,e5⟩:∃ r,Dt.joinsM L en FU [x] s4=r:=⟨_,rfl⟩
  rw [bnd_of e5] at hs ⊢
  obtain ⟨⟨w,s6⟩,e6⟩:∃ r,Dt.maybeM L en WWHERE s5=r:=⟨_,rfl⟩
  rw [bnd_of e6] at hs ⊢
  obtain ⟨⟨g,s7⟩,e7⟩:∃ r,Dt.byM L en WGROUP (Dt.exprM L en) s6=r:=⟨_,rfl⟩
  rw [bnd_of e7] at hs ⊢
  obtain ⟨⟨hv,s8⟩,e8⟩:∃ r,Dt.maybeM L en WHAVING s7=r:=⟨_,rfl⟩
  rw [bnd_of e8] at hs ⊢
  obtain ⟨⟨o,s9⟩,e9⟩:∃ r,Dt.byM L en WORDER (Dt.orderM L en) s8=r:=⟨_,rfl⟩
  rw [bnd_of e9] at hs ⊢
  have back:∀ {α:Type} {p:Rd α} {s s':PS} {y:α},Keep p→p s=(y,s')→s'.e=0→s.e=0:=fun {α p s s' y} hk he h0=>Classical.byContradiction fun hn=>by have:=hk s hn;rw [he] at this;exact this h0
  have h9:s9.e=0:=Classical.byContradiction fun hn=>(Keep.bnd (Sim.keep Sim.limitM) (fun _=>Keep.ret _)) s9 hn hs
  have h8:=back (Sim.keep (Sim.byM WORDER (by decide) (by decide) Sim.orderM)) e9 h9
  have h7:=back (Sim.keep (Sim.maybeM WHAVING (by decide) (by decide))) e8 h8
  have h6:=back (Sim.keep (Sim.byM WGROUP (by decide) (by decide) Sim.exprM)) e7 h7
  have h5:=back (Sim.keep (Sim.maybeM WWHERE (by decide) (by decide))) e6 h6
  have h4:=back (Sim.keep (Sim.joinsM FU [x])) e5 h5
  have h3:=back (Sim.keep Sim.sourceM) e4 h4
  have h2:=back (Sim.keep (Sim.mustM [WFROM])) e3 h3
  have gi:∀ y ∈ i,ExOk y.1∧(y.2=⟨#[]⟩ ∨ NameOk y.2):=by
   cases b with
   | true=>
    simp only [if_true] at e2
    obtain ⟨rfl,_⟩:=Prod.mk.inj e2
    exact fun y hy=>by cases hy
   | false=>
    simp only [Bool.false_eq_true,if_false] at e2
    have:=Good.listM Sim.itemM (Good.itemM (en:=en) h) FU s1 (by rw [e2];exact h2)
    rw [e2] at this
    exact this
  have gx:=Good.sourceM (en:=en) h s3 (by rw [e4];exact h4)
  rw [e4] at gx
  have gj:=Good.joinsM (en:=en) h FU [x] (fun z hz=>by simp at hz;subst hz;exact gx.1) s4 (by rw [e5];exact h5)
  rw [e5] at gj
  have gw:=Good.maybeM (en:=en) h WWHERE s5 (by rw [e6];exact h6)
  rw [e6] at gw
  have gg:=Good.byM WGROUP Sim.exprM (Good.exprM (en:=en) h) s6 (by rw [e7];exact h7)
  rw [e7] at gg
  have gh:=Good.maybeM (en:=en) h WHAVING s7 (by rw [e8];exact h8)
  rw [e8] at gh
  have go:=Good.byM WORDER Sim.orderM (Good.orderM (en:=en) h) s8 (by rw [e9];exact h9)
  rw [e9] at go
  exact t0 i j w g hv o gi gj gw gg gh go s9 hs⟩
theorem Good.chooseM (h:AllOk L):Good (Dt.chooseM L en) StOk:=(choose_all h).2
theorem Good.dropM (h:AllOk L):Good (dropM L en) StOk:=Good.ite kpS (Good.bnd (Good.nameM h) kpS (fun n hn=>Good.ret (.drop n hn))) (Good.bnd (Good.any _) kpS (fun _ _=>Good.bnd (Good.nameM h) kpS (fun n hn=>Good.ret (.dropIndex n hn))))
theorem Keep.is {α:Type} {t:ByteArray} (h1:t ≠ BSEMI) (h2:t ≠ BCLOSE) {p q:Rd α} (hp:Keep p) (hq:Keep q):Keep (Dt.bnd (Dt.isM L en t) fun b=>if b then p else q):=Keep.bnd (Sim.keep (Sim.isM t h1 h2)) (fun b=>Keep.ite b hp hq)
theorem Good.is {α:Type} {Q:α→Prop} {t:ByteArray} {p q:Rd α} (hp:Keep p∧Good p Q) (hq:Keep q∧Good q Q):Good (Dt.bnd (Dt.isM L en t) fun b=>if b then p else q) Q:=Good.ite (fun b=>Keep.ite b hp.1 hq.1) hp.2 hq.2
theorem Good.insertM (h:AllOk L):Good (Dt.insertM L en) StOk:=
 have k3:=fun (t:ByteArray) (n:List ByteArray)=>Keep.bnd (Sim.keep (Sim.listM (L:=L) (en:=en) (Sim.insideM Sim.exprM FU) FU)) (fun r=>Keep.ret ({ kind:=5,table:=t,names:=n,rows:=r } : PSt))
 have k2:=fun (t:ByteArray) (n:List ByteArray)=>Keep.bnd (Sim.keep (Sim.mustM (L:=L) (en:=en) [WVALUES])) (fun _=>k3 t n)
 have k1:=fun (t:ByteArray)=>Keep.bnd (Sim.keep (Sim.namesM (L:=L) (en:=en))) (fun n=>k2 t n)
 Good.bnd (Good.any (Dt.mustM L en [WINTO])) (fun _=>Keep.bnd (Sim.keep Sim.nameM) k1) (fun _ _=>Good.bnd (Good.nameM h) k1 (fun t ht=>Good.bnd (Good.namesM h) (k2 t) (fun n hn=>Good.bnd (Good.any _) (fun _=>k3 t n) (fun _ _=>
  Good.bnd (Good.listM (Q:=ExsOk) (Sim.insideM Sim.exprM FU) (Good.insideM Sim.exprM (Good.exprM h) FU) FU) (fun r=>Keep.ret _) (fun r hr=>Good.ret (.insert t n r ht hn hr))))))
theorem Good.updateM (h:AllOk L):Good (Dt.updateM L en) StOk:=
 have k3:=fun (t:ByteArray) (c:List (ByteArray × PE))=>Keep.bnd (Sim.keep (Sim.maybeM (L:=L) (en:=en) WWHERE (by decide) (by decide))) (fun w=>Keep.ret ({ kind:=6,table:=t,sets:=c,wh:=w } : PSt))
 have k2:=fun (t:ByteArray)=>Keep.bnd (Sim.keep (Sim.listM (L:=L) (en:=en) Sim.setM FU)) (fun c=>k3 t c)
 have k1:=fun (t:ByteArray)=>Keep.bnd (Sim.keep (Sim.mustM (L:=L) (en:=en) [WSET])) (fun _=>k2 t)
 Good.bnd (Good.nameM h) k1 (fun t ht=>Good.bnd (Good.any _) (fun _=>k2 t) (fun _ _=>Good.bnd (Good.listM Sim.setM (Good.setM h) FU) (k3 t) (fun c hc=>Good.bnd (Good.maybeM h WWHERE) (fun w=>Keep.ret _) (fun w hw=>Good.ret (.update t c w ht hc hw)))))
theorem Good.deleteM (h:AllOk L):Good (Dt.deleteM L en) StOk:=
 have k2:=fun (t:ByteArray)=>Keep.bnd (Sim.keep (Sim.maybeM (L:=L) (en:=en) WWHERE (by decide) (by decide))) (fun w=>Keep.ret ({ kind:=7,table:=t,wh:=w } : PSt))
 Good.bnd (Good.any (Dt.mustM L en [WFROM])) (fun _=>Keep.bnd (Sim.keep Sim.nameM) k2) (fun _ _=>Good.bnd (Good.nameM h) k2 (fun t ht=>Good.bnd (Good.maybeM h WWHERE) (fun w=>Keep.ret _) (fun w hw=>Good.ret (.delete t w ht hw))))
theorem Good.saveM (h:AllOk L) (k:Nat) (hk:∀ n,NameOk n→StOk { kind:=k,name:=n }):Good (Dt.saveM L en k) StOk:=Good.bnd (Good.nameM h) (fun n=>Keep.ret _) (fun n hn=>Good.ret (hk n hn))
theorem Good.rollM (h:AllOk L):Good (Dt.rollM L en) StOk:=Good.is ⟨Keep.bnd (Sim.keep Sim.nameM) (fun n=>Keep.ret _),Good.bnd (Good.nameM h) (fun n=>Keep.ret _) (fun n hn=>Good.ret (.back n hn))⟩ ⟨Keep.ret _,Good.ret .rollback⟩
theorem rest_all (h:AllOk L):Keep (Dt.restM L en)∧Good (Dt.restM L en) StOk:=
 have r0:Keep (Dt.bnd (Dt.failM L en 6) fun _=>Dt.ret ({} : PSt))∧Good (Dt.bnd (Dt.failM L en 6) fun _=>Dt.ret ({} : PSt)) StOk:=⟨Keep.bnd (Sim.keep (Sim.failM 6 (by decide))) (fun _=>Keep.ret _),Good.fail (fun s=>(failP_k 6 s (by decide)).2) _⟩
 have r1:=And.intro (Keep.is (by decide) (by decide) (Sim.keep (Sim.saveM (L:=L) (en:=en) 14)) r0.1 (t:=WRELEASE)) (Good.is (t:=WRELEASE) ⟨Sim.keep (Sim.saveM 14),Good.saveM (en:=en) h 14 (fun n hn=>.release n hn)⟩ r0)
 have r2:=And.intro (Keep.is (by decide) (by decide) (Sim.keep (Sim.saveM (L:=L) (en:=en) 12)) r1.1 (t:=WSAVEPOINT)) (Good.is (t:=WSAVEPOINT) ⟨Sim.keep (Sim.saveM 12),Good.saveM (en:=en) h 12 (fun n hn=>.save n hn)⟩ r1)
 have r3:=And.intro (Keep.is (by decide) (by decide) (Sim.keep (Sim.rollM (L:=L) (en:=en))) r2.1 (t:=WROLLBACK)) (Good.is (t:=WROLLBACK) ⟨Sim.keep Sim.rollM,Good.rollM (en:=en) h⟩ r2)
 have r4:=And.intro (Keep.is (by decide) (by decide) (Keep.ret ({ kind:=10 } : PSt)) r3.1 (t:=WCOMMIT)) (Good.is (t:=WCOMMIT) ⟨Keep.ret _,Good.ret .commit⟩ r3)
 ⟨Sim.keep Sim.restM,Good.is ⟨Keep.ret _,Good.ret .begin⟩ r4⟩
theorem Good.stmtM (h:AllOk L):Good (Dt.stmtM L en) StOk:=
 have r0:=rest_all (en:=en) h
 have r1:=And.intro (Keep.is (by decide) (by decide) (Sim.keep (Sim.chooseM (L:=L) (en:=en))) r0.1 (t:=WSELECT)) (Good.is (t:=WSELECT) ⟨Sim.keep Sim.chooseM,Good.chooseM (en:=en) h⟩ r0)
 have r2:=And.intro (Keep.is (by decide) (by decide) (Sim.keep (Sim.deleteM (L:=L) (en:=en))) r1.1 (t:=WDELETE)) (Good.is (t:=WDELETE) ⟨Sim.keep Sim.deleteM,Good.deleteM (en:=en) h⟩ r1)
 have r3:=And.intro (Keep.is (by decide) (by decide) (Sim.keep (Sim.updateM (L:=L) (en:=en))) r2.1 (t:=WUPDATE)) (Good.is (t:=WUPDATE) ⟨Sim.keep Sim.updateM,Good.updateM (en:=en) h⟩ r2)
 have r4:=And.intro (Keep.is (by decide) (by decide) (Sim.keep (Sim.insertM (L:=L) (en:=en))) r3.1 (t:=WINSERT)) (Good.is (t:=WINSERT) ⟨Sim.keep Sim.insertM,Good.insertM (en:=en) h⟩ r3)
 have r5:=And.intro (Keep.is (by decide) (by decide) (Sim.keep (Sim.dropM (L:=L) (en:=en))) r4.1 (t:=WDROP)) (Good.is (t:=WDROP) ⟨Sim.keep Sim.dropM,Good.dropM (en:=en) h⟩ r4)
 Good.is ⟨Sim.keep Sim.createM,Good.createM (en:=en) h⟩ r5
theorem stmts_good (h:AllOk L):∀ (f:Nat) (s s1:PS) (A:List PSt),stmtsM L en f s=(A,s1)→s1.e=0→∀ x ∈ A,StOk x
 | 0,s,s1,A,hr,h1,x,hx=>by
  have:(stmtsM L en 0 s).2.e=99:=rfl
  rw [hr] at this
  simp only at this
  omega
 | f + 1,s,s1,A,hr,h1,x,hx=>by
  by_cases hlt:s.e=0∧s.k < L.length
  ·rw [stmts_step f hlt.1 hlt.2] at hr
   obtain ⟨⟨y,s2⟩,hy⟩:∃ r,stmtM L en s=r:=⟨_,rfl⟩
   rw [bnd_of hy] at hr
   obtain ⟨⟨u,s3⟩,hz⟩:∃ r,semiM L en s2=r:=⟨_,rfl⟩
   rw [bnd_of hz] at hr
   obtain ⟨⟨B,s4⟩,hb⟩:∃ r,stmtsM L en f s3=r:=⟨_,rfl⟩
   rw [bnd_of hb] at hr
   obtain ⟨rfl,rfl⟩:A=y :: B∧s1=s4:=by cases hr;exact ⟨rfl,rfl⟩
   have e3:s3.e=0:=Classical.byContradiction fun hn=>by have:=stmts_err (K:=L) (en:=en) f s3 hn;rw [hb] at this;exact this h1
   have e2:s2.e=0:=Classical.byContradiction fun hn=>by have:=semi_err (K:=L) (en:=en) hn;rw [hz] at this;exact this e3
   rcases List.mem_cons.1 hx with h2 | h2
   ·have:=Good.stmtM (en:=en) h s (by rw [hy];exact e2)
    rw [hy] at this
    rw [h2];exact this
   ·exact stmts_good h f s3 s1 B hb h1 x h2
  ·rw [stmts_end f hlt] at hr
   obtain ⟨rfl,rfl⟩:=Prod.mk.inj hr
   cases hx
end
theorem script_good {t:List UInt8} {A:List PSt} (h:scriptL t = .inr A):∀ x ∈ A,StOk x:=by
 obtain ⟨L,s1,hL,hr,he⟩:=scriptL_run h
 have hall:AllOk L:=by
  rw [toksL_eq] at hL
  split at hL
  ·cases hL
  ·exact tk_ok _ 0 t (Nat.le_refl _) L hL
 exact stmts_good hall FU ⟨0,0,0⟩ s1 A hr he
end Go.Proofs.YtmdogmpcmkfjpaaGreatDoor.Dt
namespace Go.Proofs.YtmdogmpcmkfjpaaGreatDoor.Dt
open Go.Lib
set_option linter.unusedVariables false
def putsL (l:List (List UInt8)) (a:List UInt8):List UInt8:=a ++ l.flatMap (· ++ [32])
def valT (v:V):List UInt8:=
 if v.k=1 then (if v.n < 0 then 45 :: decDigits (-v.n).toNat else decDigits v.n.toNat)
 else if v.k=2 then 39 :: (quoteL v.s.data.toList ++ [39])
 else if v.k=3 then (if (writeL [⟨5,v.s,0,0⟩]).2=0 then (writeL [⟨5,v.s,0,0⟩]).1 else [63])
 else WNULL.data.toList
def sgnT:List (List UInt8):=[BPLUS,BMINUS,BSTAR,BDIV,BMOD,BJOIN,BEQ,BNE,BLT,BLE,BGT,BGE,WAND,WOR].map (·.data.toList)
def grpT:List (List UInt8):=[WCOUNT,WSUM,WMIN,WMAX].map (·.data.toList)
abbrev W1 (b:ByteArray):List UInt8:=b.data.toList
def kidT (w:List UInt8→List UInt8) (op:Nat) (bare:Bool) (a:List UInt8):List UInt8:=
 if bare && decide (op ≤ 2 ∨ 20 ≤ op) then w a else putsL [W1 BCLOSE] (w (putsL [W1 BOPEN] a))
def wrE:PE→List UInt8→List UInt8
 | .mk op v t m n kids,a=>if 32768 < a.length then a else
  match kids with
  | []=>if op=1 then putsL [valT v] a
   else if op=2 then putsL [W1 m] (if t=⟨#[]⟩ then a else putsL [W1 t,W1 BDOT] a)
   else if op=20 then putsL [W1 WCOUNT,W1 BOPEN,W1 BSTAR,W1 BCLOSE] a
   else putsL [[63]] a
  | [x]=>if op=3 then kidT (wrE x) x.op (decide (x.op ≠ 1)) (putsL [W1 BMINUS] a)
   else if op=4 then kidT (wrE x) x.op true (putsL [W1 WNOT] a)
   else if op=5 then putsL [W1 WIS,W1 WNULL] (kidT (wrE x) x.op true a)
   else if 20 ≤ op∧op ≤ 23 then kidT (wrE x) x.op false (putsL [(grpT[op - 20]?).getD []] a)
   else putsL [[63]] a
  | [x,y]=>if 6 ≤ op∧op ≤ 19 then kidT (wrE y) y.op true (putsL [(sgnT[op - 6]?).getD []] (kidT (wrE x) x.op true a))
   else putsL [[63]] a
  | _=>putsL [[63]] a
def commaT {α:Type} (one:α→List UInt8→List UInt8):Bool→List α→List UInt8→List UInt8
 | _,[],a=>a
 | first,x :: l,a=>commaT one false l (one x (if first then a else putsL [W1 BCOMMA] a))
def namesT (l:List ByteArray) (a:List UInt8):List UInt8:=putsL [W1 BCLOSE] (commaT (fun s=>putsL [W1 s]) true l (putsL [W1 BOPEN] a))
def behindT (w:List UInt8):List PE→List UInt8→List UInt8
 | [],a=>a
 | x :: l,a=>behindT w l (wrE x (putsL [w] a))
def asT (s:ByteArray) (a:List UInt8):List UInt8:=if s=⟨#[]⟩ then a else putsL [W1 WAS,W1 s] a
def tyT:List (List UInt8):=[[63],W1 WINTEGER,W1 WTEXT,W1 WBLOB]
def colsT:List PCol→List UInt8→List UInt8
 | [],a=>a
 | c :: l,a=>colsT l (putsL [W1 BCOMMA] (if c.nn then putsL [W1 WNOT,W1 WNULL] (putsL [W1 c.name,(tyT[c.ty % 4]?).getD []] a) else putsL [W1 c.name,(tyT[c.ty % 4]?).getD []] a))
def createT (x:PSt) (a:List UInt8):List UInt8:=
 if x.kind=3 then namesT x.key (putsL [W1 WINDEX,W1 x.name,W1 WON,W1 x.table] (if x.uniq then putsL [W1 WUNIQUE] (putsL [W1 WCREATE] a) else putsL [W1 WCREATE] a))
 else putsL [W1 BCLOSE] (namesT x.key (putsL [W1 WPRIMARY,W1 WKEY] (colsT x.cols (putsL [W1 WCREATE,W1 WTABLE,W1 x.table,W1 BOPEN] a))))
def itemT (x:PE × ByteArray) (a:List UInt8):List UInt8:=asT x.2 (wrE x.1 a)
def srcT:Bool→List PSrc→List UInt8→List UInt8
 | _,[],a=>a
 | first,x :: l,a=>srcT false l (behindT (W1 WON) x.on (asT x.as (if first then putsL [W1 WFROM,W1 x.table] a else putsL [W1 WJOIN,W1 x.table] a)))
def orderT (x:PE × Bool) (a:List UInt8):List UInt8:=if x.2 then putsL [W1 WDESC] (wrE x.1 a) else wrE x.1 a
def chooseT (x:PSt) (a:List UInt8):List UInt8:=
 let a:=putsL [W1 WSELECT] a
 let a:=if x.items.isEmpty then putsL [W1 BSTAR] a else a
 let a:=commaT itemT true x.items a
 let a:=srcT true x.src a
 let a:=behindT (W1 WWHERE) x.wh a
 let a:=if x.group.isEmpty then a else commaT wrE true x.group (putsL [W1 WGROUP,W1 WBY] a)
 let a:=behindT (W1 WHAVING) x.having a
 let a:=if x.order.isEmpty then a else commaT orderT true x.order (putsL [W1 WORDER,W1 WBY] a)
 if 0 ≤ x.limit then putsL [W1 WLIMIT,decDigits x.limit.toNat] a else a
def rowT (l:List PE) (a:List UInt8):List UInt8:=putsL [W1 BCLOSE] (commaT wrE true l (putsL [W1 BOPEN] a))
def setT (x:ByteArray × PE) (a:List UInt8):List UInt8:=wrE x.2 (putsL [W1 x.1,W1 BEQ] a)
def wrSt (x:PSt) (a:List UInt8):List UInt8:=
 if x.kind=1 ∨ x.kind=3 then createT x a
 else if x.kind=2 then putsL [W1 WDROP,W1 WTABLE,W1 x.table] a
 else if x.kind=4 then putsL [W1 WDROP,W1 WINDEX,W1 x.name] a
 else if x.kind=5 then commaT rowT true x.rows (putsL [W1 WVALUES] (namesT x.names (putsL [W1 WINSERT,W1 WINTO,W1 x.table] a)))
 else if x.kind=6 then behindT (W1 WWHERE) x.wh (commaT setT true x.sets (putsL [W1 WUPDATE,W1 x.table,W1 WSET] a))
 else if x.kind=7 then behindT (W1 WWHERE) x.wh (putsL [W1 WDELETE,W1 WFROM,W1 x.table] a)
 else if x.kind=8 then chooseT x a
 else if x.kind=9 then putsL [W1 WBEGIN] a
 else if x.kind=10 then putsL [W1 WCOMMIT] a
 else if x.kind=11 then putsL [W1 WROLLBACK] a
 else if x.kind=12 then putsL [W1 WSAVEPOINT,W1 x.name] a
 else if x.kind=13 then putsL [W1 WROLLBACK,W1 WTO,W1 x.name] a
 else if x.kind=14 then putsL [W1 WRELEASE,W1 x.name] a
 else a
def trimL (a:List UInt8):List UInt8:=if a.getLast? = some 32 then a.dropLast else a
end Go.Proofs.YtmdogmpcmkfjpaaGreatDoor.Dt
