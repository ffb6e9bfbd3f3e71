import Derived.Test.YtmdogmpcmkfjpaaGreatDoorBq05
set_option maxRecDepth 100000
set_option maxHeartbeats 64000000
/- Part. -/
namespace Go.Proofs.YtmdogmpcmkfjpaaGreatDoor.Dt
open Go.Lib
set_option linter.unusedVariables false
theorem txt_ok {s:ByteArray} (h:s.size ≤ 1000):okT ⟨4,s,0,0⟩:=by
 have e:Zak ⟨4,s,0,0⟩=39 :: (Zc0 s.data.toList ++ [39]):=Zl7 rfl
 refine ⟨by rw [e];simp,h,?_⟩
 rw [e]
 unfold Zcx
 rw [if_pos (show Zal (39 :: _)=39 from rfl)]
 unfold Zcm
 rw [List.drop_succ_cons,List.drop_zero,Zip]
 simp only
 rw [if_neg (by rw [Zx];omega)]
 simp
theorem blob_ok {s:ByteArray} (h:s.size ≤ 1000):okT ⟨5,s,0,0⟩:=by
 have e:Zak ⟨5,s,0,0⟩=120 :: 39 :: (Zlm s.data.toList ++ [39]):=Zl6 rfl
 refine ⟨by rw [e];simp,h,?_⟩
 rw [e]
 unfold Zcx
 rw [if_neg (show ¬ Zal (120 :: _)=39 from by show ¬ (120:UInt8)=39;decide),if_pos ⟨rfl,rfl⟩]
 unfold Zb8
 rw [List.drop_succ_cons,List.drop_succ_cons,List.drop_zero,Zmq]
 simp only
 rw [if_neg (by rw [Zx];omega)]
 simp
theorem Zd0.val {v:V} (h:ValOk v):Zd0 (Znl v):=by
 unfold Znl
 rcases h with ⟨hk,_,_⟩ | ⟨hk,h1,h2,_⟩ | ⟨hk,_,hs⟩
 ·rw [if_neg kW,if_neg kW,if_neg kW]
  exact Za2 Zbr kY
 ·rw [if_pos hk]
  by_cases hn:v.n < 0
  ·rw [if_pos hn]
   exact ⟨_,fun t ht=>by
    simp only [List.mem_cons,List.not_mem_nil,or_false] at ht
    rcases ht with rfl | rfl
    ·intro _ e;exact absurd e kD
    ·intro e;rcases e with e | e <;> exact absurd e (show ¬ (3:Nat)=_ by decide),RdT.neg (n:=(-v.n).toNat) kW⟩
  rw [if_neg hn]
  have:=Zd0.tok (Zj6 (n:=v.n.toNat) kW) (.inl ⟨by simp,by simp⟩)
  rwa [Zik rfl] at this
 rcases hk with hk | hk
 ·rw [if_neg kW,if_pos hk]
  have:=Zd0.tok (txt_ok hs) (.inl ⟨by simp,by simp⟩)
  rwa [Zl7 rfl] at this
 rw [if_neg kW,if_neg kW,if_pos hk]
 have ho:=blob_ok hs
 have e:Zb1 [⟨5,v.s,0,0⟩]=(Zak ⟨5,v.s,0,0⟩,0):=by
  unfold Zb1
  rw [if_pos (by simpa using ho)]
  rfl
 rw [e]
 exact Zd0.tok ho (.inl ⟨by simp,by simp⟩)
theorem Clean.kid {w:List UInt8→List UInt8} (hw:∀ a,Clean a→Clean (w a)) (op:Nat) (bare:Bool) {a:List UInt8} (h:Clean a):Clean (Zgd w op bare a):=by
 unfold Zgd
 split
 ·exact hw a h
 refine Clean.puts (hw _ (Clean.puts h ?_)) ?_
 ·intro x hx;obtain rfl:=List.mem_singleton.1 hx;exact Zdo Z9 kY
 intro x hx;obtain rfl:=List.mem_singleton.1 hx;exact Zdo Zp kY
theorem sgn_ok {op:Nat} (h1:6 ≤ op) (h2:op ≤ 19):Zd0 ((sgnT[op - 6]?).getD []):=by
 have:∀ k,k < 14→∃ s ∈ [Zdf,Zad,Zao,Zih,Zig,Zcf,BEQ,BNE,BLT,BLE,BGT,BGE,Zf6,WOR],(sgnT[k]?).getD []=W1 s:=by decide +kernel
 obtain ⟨s,hs,e⟩:=this (op - 6) kW
 rw [e]
 simp only [List.mem_cons,List.not_mem_nil,or_false] at hs
 rcases hs with rfl | rfl | rfl | rfl | rfl | rfl | rfl | rfl | rfl | rfl | rfl | rfl | rfl | rfl
 ·exact Zdo _ kY
 ·exact Zdo _ kY
 ·exact Zdo _ kY
 ·exact Zdo _ kY
 ·exact Zdo _ kY
 ·exact Zdo _ kY
 ·exact Zdo _ kY
 ·exact Zdo _ kY
 ·exact Zdo _ kY
 ·exact Zdo _ kY
 ·exact Zdo _ kY
 ·exact Zdo _ kY
 ·exact Za2 _ kY
 exact Za2 _ kY
theorem grp_ok {op:Nat} (h1:20 ≤ op) (h2:op ≤ 23):Zd0 ((grpT[op - 20]?).getD []):=by
 have:∀ k,k < 4→∃ s ∈ [Za7,Zm5,Zm6,Zm7],(grpT[k]?).getD []=W1 s:=by decide +kernel
 obtain ⟨s,hs,e⟩:=this (op - 20) kW
 rw [e]
 simp only [List.mem_cons,List.not_mem_nil,or_false] at hs
 rcases hs with rfl | rfl | rfl | rfl <;> exact Za2 _ kY
theorem Zan {w:List UInt8} (h:Zd0 w):∀ x ∈ [w],Zd0 x:=fun x hx=>by obtain rfl:=List.mem_singleton.1 hx;exact h
theorem Zaa {v w:List UInt8} (h:Zd0 v) (h':Zd0 w):∀ x ∈ [v,w],Zd0 x:=fun x hx=>by
 simp only [List.mem_cons,List.not_mem_nil,or_false] at hx
 rcases hx with rfl | rfl
 ·exact h
 ·exact h'
theorem Zbj {w:List UInt8} {l:List (List UInt8)} (h:Zd0 w) (h':∀ x ∈ l,Zd0 x):∀ x ∈ w :: l,Zd0 x:=fun x hx=>by
 rcases List.mem_cons.1 hx with rfl | hx
 ·exact h
 ·exact h' x hx
theorem Clean.ex {x:PE} (h:Zfm x):∀ a,Clean a→Clean (wrE x a):=by
 induction h with
 | val v hv=>
  intro a ha
  rw [wrE]
  split
  ·exact ha
  ·rw [if_pos rfl]
   exact ha.puts (Zan (Zd0.val hv))
 | col m hm=>
  intro a ha
  rw [wrE]
  split
  ·exact ha
  ·rw [if_neg kD,if_pos rfl,if_pos rfl]
   exact ha.puts (Zan (Zd0.name hm))
 | tcol t m ht hm=>
  intro a ha
  rw [wrE]
  split
  ·exact ha
  ·rw [if_neg kD,if_pos rfl]
   refine Clean.puts ?_ (Zan (Zd0.name hm))
   split
   ·exact ha
   ·exact ha.puts (Zaa (Zd0.name ht) (Zdo Zpb kY))
 | one op x hop hx ih=>
  intro a ha
  unfold PE.node
  rw [wrE]
  split
  ·exact ha
  ·split
   ·exact Clean.kid ih _ _ (ha.puts (Zan (Zdo Zad kY)))
   ·split
    ·exact Clean.kid ih _ _ (ha.puts (Zan (Za2 Zfx kY)))
    ·split
     ·exact (Clean.kid ih _ _ ha).puts (Zaa (Za2 WIS kY) (Za2 Zbr kY))
     ·rw [if_pos kW]
      exact Clean.kid ih _ _ (ha.puts (Zan (grp_ok kW kW)))
 | two op x y h1 h2 hx hy ihx ihy=>
  intro a ha
  unfold PE.node
  rw [wrE]
  split
  ·exact ha
  ·rw [if_pos ⟨h1,h2⟩]
   exact Clean.kid ihy _ _ ((Clean.kid ihx _ _ ha).puts (Zan (sgn_ok h1 h2)))
 | count=>
  intro a ha
  unfold PE.node
  rw [wrE]
  split
  ·exact ha
  ·rw [if_neg kD,if_neg kD,if_pos rfl]
   exact ha.puts (Zbj (Za2 Za7 kY) (Zbj (Zdo Z9 kY) (Zaa (Zdo Zao kY) (Zdo Zp kY))))
theorem Clean.comma {α:Type} {one:α→List UInt8→List UInt8} : ∀ {l:List α} (f:Bool) {a:List UInt8},(∀ x ∈ l,∀ a,Clean a→Clean (one x a))→Clean a→Clean (Zm one f l a)
 | [],f,a,_,h=>h
 | x :: l,f,a,ho,h=>by
  unfold Zm
  refine Clean.comma false (fun y hy=>ho y Zrd) (ho x kY _ ?_)
  cases f
  ·exact h.puts (Zan (Zdo Zy kY))
  ·exact h
theorem Clean.names {l:List ByteArray} (hl:Zis l) {a:List UInt8} (h:Clean a):Clean (Zdz l a):=
 (Clean.comma true (fun n hn a ha=>ha.puts (Zan (Zd0.name (hl n hn)))) (h.puts (Zan (Zdo Z9 kY)))).puts (Zan (Zdo Zp kY))
theorem Clean.behind {w:List UInt8} (hw:Zd0 w):∀ {l:List PE} {a:List UInt8},Zeg l→Clean a→Clean (Z8 w l a)
 | [],a,_,h=>h
 | x :: l,a,hl,h=>by
  unfold Z8
  exact Clean.behind hw (fun y hy=>hl y Zrd) (Clean.ex (hl x kY) _ (h.puts (Zan hw)))
theorem Clean.as {s:ByteArray} (hs:s=⟨#[]⟩ ∨ Zaz s) {a:List UInt8} (h:Clean a):Clean (asT s a):=by
 unfold asT
 split
 ·exact h
 rename_i hn
 exact h.puts (Zaa (Za2 WAS kY) (Zd0.name (hs.resolve_left hn)))
theorem ty_ok {k:Nat} (h1:1 ≤ k) (h2:k ≤ 3):Zd0 ((tyT[k % 4]?).getD []):=by
 have:∀ k,1 ≤ k→k < 4→∃ s ∈ [Zeo,Zm0,Zm2],(tyT[k % 4]?).getD []=W1 s:=by
  intro k h1 h2
  obtain rfl | rfl | rfl:k=1 ∨ k=2 ∨ k=3:=kW
  ·exact ⟨Zeo,by simp,rfl⟩
  ·exact ⟨Zm0,by simp,rfl⟩
  ·exact ⟨Zm2,by simp,rfl⟩
 obtain ⟨s,hs,e⟩:=this k h1 kW
 rw [e]
 simp only [List.mem_cons,List.not_mem_nil,or_false] at hs
 rcases hs with rfl | rfl | rfl <;> exact Za2 _ kY
theorem Clean.cols:∀ {l:List Zeu} {a:List UInt8},(∀ c ∈ l,Zwy c)→Clean a→Clean (Zef l a)
 | [],a,_,h=>h
 | c :: l,a,hl,h=>by
  unfold Zef
  obtain ⟨hn,h1,h2⟩:=hl c kY
  have h3:=h.puts (Zaa (Zd0.name hn) (ty_ok h1 h2))
  refine Clean.cols (fun y hy=>hl y Zrd) (Clean.puts ?_ (Zan (Zdo Zy kY)))
  split
  ·exact h3.puts (Zaa (Za2 Zfx kY) (Za2 Zbr kY))
  ·exact h3
theorem Clean.src:∀ {l:List Zec} (f:Bool) {a:List UInt8},(∀ x ∈ l,Zqd x)→Clean a→Clean (Ziz f l a)
 | [],f,a,_,h=>h
 | x :: l,f,a,hl,h=>by
  unfold Ziz
  obtain ⟨hn,ha,ho⟩:=hl x kY
  refine Clean.src false (fun y hy=>hl y Zrd) (Clean.behind (Za2 WON kY) ho (Clean.as ha ?_))
  cases f
  ·exact h.puts (Zaa (Za2 Zfy kY) (Zd0.name hn))
  ·exact h.puts (Zaa (Za2 Zck kY) (Zd0.name hn))
theorem Clean.order {x:PE × Bool} (hx:Zfm x.1) (a:List UInt8) (h:Clean a):Clean (Zdq x a):=by
 unfold Zdq
 split
 ·exact (Clean.ex hx _ h).puts (Zan (Za2 Zie kY))
 exact Clean.ex hx _ h
theorem Zd0.num {n:Nat} (h:n ≤ 9223372036854775808):Zd0 (decDigits n):=by
 have:=Zd0.tok (Zj6 h) (.inl ⟨by simp,by simp⟩)
 rwa [Zik rfl] at this
theorem Clean.choose {items:List (PE × ByteArray)} {src:List Zec} {wh group having:List PE} {order:List (PE × Bool)} {limit:Int} (hi:∀ i ∈ items,Zfm i.1∧(i.2=⟨#[]⟩ ∨ Zaz i.2)) (hs:∀ x ∈ src,Zqd x) (hw:Zeg wh) (hg:Zeg group) (hh:Zeg having)
 (ho:∀ x ∈ order,Zfm x.1) (h2:limit ≤ 1073741824) {a:List UInt8} (h:Clean a):Clean (Zfw { kind:=8,items:=items,src:=src,wh:=wh,group:=group,having:=having,order:=order,limit:=limit } a):=by
 unfold Zfw
 have h0:=h.puts (Zan (Za2 Zb9 kY))
 have h1:Clean (if items.isEmpty=true then Ze [W1 Zao] (Ze [W1 Zb9] a) else Ze [W1 Zb9] a):=by
  split
  ·exact h0.puts (Zan (Zdo Zao kY))
  ·exact h0
 have h3:=Clean.behind (Za2 Z6 kY) hw (Clean.src true hs (Clean.comma (one:=Zk1) true (fun x hx a ha=>Clean.as (hi x hx).2 (Clean.ex (hi x hx).1 a ha)) h1))
 simp only
 generalize Z8 (W1 Z6) wh _=b at h3 ⊢
 have h4:Clean (if group.isEmpty=true then b else Zm wrE true group (Ze [W1 Zbp,W1 WBY] b)):=by
  split
  ·exact h3
  ·exact Clean.comma true (fun x hx a ha=>Clean.ex (hg x hx) a ha) (h3.puts (Zaa (Za2 Zbp kY) (Za2 WBY kY)))
 generalize (if group.isEmpty=true then b else Zm wrE true group (Ze [W1 Zbp,W1 WBY] b))=b2 at h4 ⊢
 have h5:=Clean.behind (Za2 Zbi kY) hh h4
 generalize Z8 (W1 Zbi) having b2=b3 at h5 ⊢
 have h6:Clean (if order.isEmpty=true then b3 else Zm Zdq true order (Ze [W1 Zbz,W1 WBY] b3)):=by
  split
  ·exact h5
  ·exact Clean.comma true (fun x hx a ha=>Clean.order (ho x hx) a ha) (h5.puts (Zaa (Za2 Zbz kY) (Za2 WBY kY)))
 split
 ·exact h6.puts (Zaa (Za2 Zdv kY) (Zd0.num kW))
 exact h6
theorem Clean.st {x:PSt} (h:Zf7 x):Clean (Zb3 x []):=by
 have e:Clean []:=.inl rfl
 cases h with
 | create t cols key ht hc hk=>
  exact ((Clean.names hk ((Clean.cols hc (e.puts (Zbj (Za2 Zau kY) (Zbj (Za2 Zcj kY) (Zaa (Zd0.name ht) (Zdo Z9 kY)))))).puts (Zaa (Za2 Zbl kY) (Za2 Zm1 kY)))).puts (Zan (Zdo Zp kY)))
 | index u n t key hn ht hk=>
  have h1:=e.puts (Zan (Za2 Zau kY))
  have h2:Clean (if u=true then Ze [W1 Zde] (Ze [W1 Zau] []) else Ze [W1 Zau] []):=by
   split
   ·exact h1.puts (Zan (Za2 Zde kY))
   ·exact h1
  exact Clean.names hk (h2.puts (Zbj (Za2 Zbo kY) (Zbj (Zd0.name hn) (Zaa (Za2 WON kY) (Zd0.name ht)))))
 | drop t ht=>exact e.puts (Zbj (Za2 Zf5 kY) (Zaa (Za2 Zcj kY) (Zd0.name ht)))
 | dropIndex n hn=>exact e.puts (Zbj (Za2 Zf5 kY) (Zaa (Za2 Zbo kY) (Zd0.name hn)))
 | insert t names rows ht hn hr=>
  exact Clean.comma (one:=Zuc) true (fun r hr' a ha=>(Clean.comma true (fun x hx a ha=>Clean.ex (hr r hr' x hx) a ha) (ha.puts (Zan (Zdo Z9 kY)))).puts (Zan (Zdo Zp kY))) ((Clean.names hn (e.puts (Zbj (Za2 Zcq kY) (Zaa (Za2 Zf4 kY) (Zd0.name ht))))).puts (Zan (Za2 Zcy kY)))
 | update t sets wh ht hc hw=>
  exact Clean.behind (Za2 Z6 kY) hw (Clean.comma (one:=setT) true (fun x hx a ha=>Clean.ex (hc x hx).2 _ (ha.puts (Zaa (Zd0.name (hc x hx).1) (Zdo BEQ kY)))) (e.puts (Zbj (Za2 Zdd kY) (Zaa (Zd0.name ht) (Za2 Zpa kY)))))
 | delete t wh ht hw=>exact Clean.behind (Za2 Z6 kY) hw (e.puts (Zbj (Za2 Zdw kY) (Zaa (Za2 Zck kY) (Zd0.name ht))))
 | select items src wh group having order limit hi hs hw hg hh ho h1 h2=>exact Clean.choose hi hs hw hg hh ho h2 e
 | begin=>exact e.puts (Zan (Za2 Zgj kY))
 | commit=>exact e.puts (Zan (Za2 Zd6 kY))
 | rollback=>exact e.puts (Zan (Za2 Zay kY))
 | save n hn=>exact e.puts (Zaa (Za2 Za9 kY) (Zd0.name hn))
 | back n hn=>exact e.puts (Zbj (Za2 Zay kY) (Zaa (Za2 WTO kY) (Zd0.name hn)))
 | release n hn=>exact e.puts (Zaa (Za2 Zcv kY) (Zd0.name hn))
theorem Zif.same:∀ {m ts:List Tk},Zky m ts→Zif ts→Zif m
 | [],_,_,_=>fun t ht=>by cases ht
 | x :: m,y :: ts,h,hn=>fun t ht=>by
  rcases List.mem_cons.1 ht with rfl | ht
  ·have:=hn y kY
   rw [h.1.1,h.1.2.1]
   exact this
  ·exact Zif.same h.2 (fun z hz=>hn z (by simp [hz])) t ht
 | x :: m,[],h,_=>h.elim
theorem Zn5 {x:PSt} (h:Zf7 x) {L:List Tk} (hL:Zea (Ze6 (Zb3 x [])) = .inr L):Zif L:=by
 rcases Clean.st h with e | ⟨u,ts,e,hn,hr⟩
 ·rw [e] at hL
  cases hL
  exact fun t ht=>by cases ht
 rw [e] at hL
 have et:Ze6 (u ++ [32])=u:=by unfold Ze6;simp
 rw [et,Zb4] at hL
 split at hL
 ·cases hL
 have h1:=tk_nl u.length 0 u (Nat.le_refl _) L hL []
 obtain ⟨m,hm,h2⟩:=hr 0 10 [] kD
 rw [h1,tk_nil] at h2
 injection h2 with h2
 rw [List.append_nil,List.append_nil] at h2
 rw [h2]
 exact Zif.same hm hn
theorem Zlj:∀ (l:List (List UInt8)) (x:List UInt8),l ≠ []→joinL (l ++ [x])=joinL l ++ 32 :: x
 | [],_,h=>absurd rfl h
 | [y],x,_=>rfl
 | y :: z :: l,x,_=>by
  have:=Zlj (z :: l) x kY
  show y ++ 32 :: joinL ((z :: l) ++ [x])=(y ++ 32 :: joinL (z :: l)) ++ 32 :: x
  rw [this];simp
theorem print_ok {x:PSt} {t:List UInt8} (hp:Zc1 x=(t,0)):∃ L,Zea (Ze6 (Zb3 x [])) = .inr L∧(∀ t ∈ L,okT t)∧t=joinL (L.map Zak)∧Z4 t = .inr [x]:=by
 unfold Zc1 at hp
 cases hL:Zea (Ze6 (Zb3 x [])) with
 | inl e=>rw [hL] at hp;cases hp
 | inr L=>
  rw [hL] at hp
  simp only at hp
  split at hp
  ·rename_i h
   have ho:∀ t ∈ L,okT t:=Classical.byContradiction fun hn=>by
    have:=h.1
    unfold Zb1 at this
    rw [if_neg hn] at this
    cases this
   have e:Zb1 L=(joinL (L.map Zak),0):=by unfold Zb1;rw [if_pos ho]
   rw [e] at h hp
   cases hp
   exact ⟨L,rfl,ho,rfl,h.2⟩
  ·cases hp
theorem back {x:PSt} (hx:Zf7 x) {t:List UInt8} (hp:Zc1 x=(t,0)) (hl:t.length + 2 ≤ 4096):Z4 (t ++ [32,59]) = .inr [x]:=by
 obtain ⟨L,hL,ho,rfl,hs⟩:=print_ok hp
 have hn:=Zn5 hx hL
 obtain ⟨m0,hm0,sm0⟩:=Zk5 ho
 obtain ⟨m,s1,hm,hr,he⟩:=Zer hs
 obtain rfl:m0=m:=by
  rw [Zb4,if_neg kW,hm0] at hm
  injection hm
 have hnm:=Zif.same sm0 hn
 have hf:FU=99998 + 1 + 1:=rfl
 rw [hf] at hr
 have hsm:okT ⟨6,Za4,0,0⟩:=by decide +kernel
 obtain ⟨K,hK,sK⟩:=Zk5 (l:=L ++ [⟨6,Za4,0,0⟩]) (fun t ht=>by
  rcases List.mem_append.1 ht with ht | ht
  ·exact ho t ht
  ·obtain rfl:=List.mem_singleton.1 ht;exact hsm)
 have hlm:=Zga sm0
 have hlK:=Zga sK
 rw [List.length_append,List.length_singleton] at hlK
 generalize hT:(joinL (L.map Zak)).length=N at hr hl
 by_cases hpos:0 < m0.length
 ·have hLne:L ≠ []:=by rintro rfl;rw [List.length_nil] at hlm;omega
  have eT:joinL ((L ++ [(⟨6,Za4,0,0⟩:Tk)]).map Zak)=joinL (L.map Zak) ++ [32,59]:=by
   rw [List.map_append]
   exact Zlj _ _ (by simpa using hLne)
  rw [eT] at hK
  rw [Ze7 _ (s:=⟨0,0,0⟩) rfl hpos] at hr
  obtain ⟨⟨y,s2⟩,hy⟩:∃ r,stmtM m0 (N:Int) ⟨0,0,0⟩=r:=⟨_,rfl⟩
  rw [Z0 hy] at hr
  obtain ⟨⟨u,s3⟩,h3⟩:∃ r,Zf9 m0 (N:Int) s2=r:=⟨_,rfl⟩
  rw [Z0 h3] at hr
  obtain ⟨⟨B,s4⟩,h4⟩:∃ r,stmtsM m0 (N:Int) (99998 + 1) s3=r:=⟨_,rfl⟩
  rw [Z0 h4] at hr
  have hr':(y :: B,s4)=([x],s1):=hr
  simp only [Prod.mk.injEq,List.cons.injEq] at hr'
  obtain ⟨⟨rfl,rfl⟩,rfl⟩:=hr'
  have e3:s3.e=0:=Classical.byContradiction fun hne=>by
   have:=Zhp (K:=m0) (en:=(N:Int)) (99998 + 1) s3 hne
   rw [h4] at this
   exact this he
  have e2:s2.e=0:=Classical.byContradiction fun hne=>by
   have:=Zi5 (K:=m0) (en:=(N:Int)) hne
   rw [h3] at this
   exact this e3
  have hle:=(Sim.stmtM (L:=m0) (L':=m0) (en:=(N:Int)) (en':=(N:Int)) (d:=0)).le ⟨0,0,0⟩ (Nat.zero_le _)
  rw [hy] at hle
  have hk2:s2.k=m0.length:=Classical.byContradiction fun hne=>by
   have hlt:s2.k < m0.length:=Nat.lt_of_le_of_ne hle hne
   obtain ⟨_,_,h7,h8⟩:=semi_ok (K:=m0) (en:=(N:Int)) e2 hlt (by rw [h3];exact e3)
   have h9:=(Ze1.1 h8).2.1
   have hmem:Zag m0 (N:Int) s2.k ∈ m0:=by
    unfold Zag
    rw [List.getElem?_eq_getElem hlt]
    exact List.getElem_mem hlt
   exact hnm _ hmem h9 h7
  have hTl:(joinL (L.map Zak) ++ [32,59]).length=N + 2:=by rw [List.length_append,hT];rfl
  have htail:Zhu (Zag K ((N + 2:Nat):Int) m0.length) ⟨6,Za4,0,0⟩:=by
   have h1:=Zjv sK ((N + 2:Nat):Int) 0 m0.length
   have h2:=Zts (a:=L) (b:=[⟨6,Za4,0,0⟩]) (e:=(0:Int)) 0
   rw [Nat.add_zero,← hlm] at h2
   rw [h2] at h1
   exact h1
  obtain ⟨g1,g2,g3⟩:=(Sim.stmtM (L:=m0) (L':=K) (en:=(N:Int)) (en':=((N + 2:Nat):Int)) (d:=0)).go ⟨0,0,0⟩ ⟨0,0,0⟩ rfl rfl rfl (by rw [hy];exact e2)
   (fun j _ hj=>by
    rw [hy] at hj
    have hj':j < m0.length:=by rw [← hk2];exact hj
    have h1:=Zjv sm0 (N:Int) 0 j
    have h2:=Zjv sK ((N + 2:Nat):Int) 0 j
    have h3:=tok_left (a:=L) (b:=[⟨6,Za4,0,0⟩]) (e:=(0:Int)) (e':=(0:Int)) (i:=j) kW
    exact Zju h1 (Zsb (Zju h2 h3)))
   (by
    rw [hy]
    refine .inr ⟨.inl (Zi2 (by show ¬ s2.k < _;omega)),.inr ?_⟩
    show (Zag K ((N + 2:Nat):Int) (s2.k + 0)).k=6∧_
    rw [Nat.add_zero,hk2]
    exact ⟨htail.1,.inl htail.2.1⟩)
  rw [hy] at g1 g2
  obtain ⟨⟨y',s2'⟩,hy'⟩:∃ r,stmtM K ((N + 2:Nat):Int) ⟨0,0,0⟩=r:=⟨_,rfl⟩
  rw [hy'] at g1 g2 g3
  simp only [Nat.add_zero] at g1 g2 g3
  have k2':s2'.k=m0.length:=g2.trans hk2
  have hsemi:Zf9 K ((N + 2:Nat):Int) s2'=((),s2'.next):=by
   unfold Zf9
   rw [if_pos kW]
   show bnd (isM _ _ Za4) _ _=_
   rw [Z0 (yes_isM (t:=Za4) (s:=s2') g3 (by rw [k2'];exact htail.1) (by rw [k2'];exact htail.2.1))]
   rfl
  have hend:stmtsM K ((N + 2:Nat):Int) (99998 + 1) s2'.next=([],s2'.next):=Ze8 _ (by
   show ¬ (s2'.e=0∧s2'.k + 1 < K.length)
   omega)
  have hrun:stmtsM K ((N + 2:Nat):Int) FU ⟨0,0,0⟩=([y'],s2'.next):=by
   rw [hf,Ze7 _ (s:=⟨0,0,0⟩) rfl (by show 0 < K.length;omega),Z0 hy',Z0 hsemi,Z0 hend]
   rfl
  have htk:Zea (joinL (L.map Zak) ++ [32,59]) = .inr K:=by rw [Zb4,if_neg kW,hK]
  refine Zr9 htk ?_ ?_
  ·rw [hTl,hrun,g1]
  rw [hTl,hrun];exact g3
 rw [Ze8 _ (s:=⟨0,0,0⟩) (fun h=>hpos h.2)] at hr
 cases hr
end Go.Proofs.YtmdogmpcmkfjpaaGreatDoor.Dt
