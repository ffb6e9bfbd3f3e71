import Derived.Test.YtmdogmpcmkfjpaaGreatDoorBj08
import Derived.Test.YtmdogmpcmkfjpaaGreatDoorBj20
/- Part of the proof (merged). -/
namespace Go.Proofs.YtmdogmpcmkfjpaaGreatDoor.Dt
open Go.Lib
set_option linter.unusedVariables false
set_option linter.unusedSimpArgs false
def nE:PE→Nat
 | .mk _ _ _ _ _ kids=>match kids with
  | []=>1
  | [x]=>nE x + 1
  | [x,y]=>nE x + nE y + 1
  | _=>0
def sumN {α:Type} (f:α→Nat):List α→Nat
 | []=>0
 | x :: l=>f x + sumN f l
theorem sumN_app {α:Type} (f:α→Nat):∀ a b:List α,sumN f (a ++ b)=sumN f a + sumN f b
 | [],b=>by simp [sumN]
 | x :: a,b=>by simp [sumN,sumN_app f a b];omega
def cnt1 {α:Type} (_:α):Nat:=1
def nSrc (x:PSrc):Nat:=1 + sumN nE x.on
def nRow (l:List PE):Nat:=1 + sumN nE l
def nSet (x:ByteArray × PE):Nat:=1 + nE x.2
def nItem (x:PE × ByteArray):Nat:=nE x.1
def nOrd (x:PE × Bool):Nat:=nE x.1
def nSt (x:PSt):Nat:=x.cols.length + x.key.length + x.names.length + sumN nRow x.rows + sumN nSet x.sets + sumN nItem x.items + sumN nSrc x.src + sumN nE x.wh + sumN nE x.group + sumN nE x.having + sumN nOrd x.order
def Eat {α:Type} (p:Rd α) (P:α→Nat→Prop):Prop:=∀ s:PS,(p s).2.e=0→∃ n,s.k + n=(p s).2.k∧P (p s).1 n
theorem Eat.ret {α:Type} {x:α} {P:α→Nat→Prop} (h:P x 0):Eat (Dt.ret x) P:=fun s _=>⟨0,rfl,h⟩
theorem Eat.bnd {α β:Type} {p:Rd α} {q:α→Rd β} {P:α→Nat→Prop} {R:β→Nat→Prop} (hp:Eat p P) (hk:∀ x,Keep (q x)) (hq:∀ x n,P x n→Eat (q x) (fun y m=>R y (n + m))):Eat (Dt.bnd p q) R:=fun s h=>by
 obtain ⟨n,h1,h2⟩:=hp s (Classical.byContradiction fun hn=>hk (p s).1 (p s).2 hn h)
 obtain ⟨m,h3,h4⟩:=hq (p s).1 n h2 (p s).2 h
 exact ⟨n + m,by show s.k + (n + m)=(q (p s).1 (p s).2).2.k;omega,h4⟩
theorem Eat.imp {α:Type} {p:Rd α} {P Q:α→Nat→Prop} (h:Eat p P) (hi:∀ x n,P x n→Q x n):Eat p Q:=fun s hs=>by
 obtain ⟨n,h1,h2⟩:=h s hs
 exact ⟨n,h1,hi _ _ h2⟩
theorem Eat.fail {α:Type} {p:Rd α} (h:∀ s:PS,(p s).2.e ≠ 0) (P:α→Nat→Prop):Eat p P:=fun s h1=>absurd h1 (h s)
section
variable {L:List Tk} {en:Int}
theorem Eat.isM (t:ByteArray):Eat (Dt.isM L en t) (fun b n=>n=if b then 1 else 0):=fun s hs=>by
 obtain ⟨⟨b,s1⟩,e⟩:∃ r,Dt.isM L en t s=r:=⟨_,rfl⟩
 rw [e]
 cases b with
 | true=>
  have:=(isM_lt (L:=L) (en:=en) (t:=t) (s:=s) (by rw [e])).1
  rw [e] at this
  exact ⟨1,by rw [show s1=s.next from this],rfl⟩
 | false=>
  have:=isM_no (L:=L) (en:=en) (t:=t) (s:=s) (by rw [e])
  rw [e] at this
  exact ⟨0,by rw [show s1=s from this];rfl,rfl⟩
theorem Eat.is {α:Type} {t:ByteArray} {p q:Rd α} {R:α→Nat→Prop} (hk:∀ b:Bool,Keep (if b=true then p else q)) (hp:Eat p (fun y m=>R y (1 + m))) (hq:Eat q R):Eat (Dt.bnd (Dt.isM L en t) fun b=>if b=true then p else q) R:=
 Eat.bnd (Eat.isM t) hk (fun b n hn=>by
  cases b
  ·have h0:n=0:=hn
   subst h0
   exact hq.imp fun y m h=>by rw [Nat.zero_add];exact h
  ·have h1:n=1:=hn
   subst h1
   exact hp)
theorem Eat.mustM:∀ ws:List ByteArray,Eat (Dt.mustM L en ws) (fun _ n=>n=ws.length)
 | []=>Eat.ret rfl
 | t :: ws=>Eat.bnd (Eat.isM t) (fun b=>by
     cases b with
     | true=>exact Sim.keep (Sim.mustM ws)
     | false=>exact Sim.keep (Sim.failM 6 (by decide))) (fun b n hn=>by
     cases b with
     | true=>
      have h1:n=1:=hn
      exact (Eat.mustM ws).imp fun _ m hm=>by rw [hm,h1,List.length_cons];omega
     | false=>exact Eat.fail (fun s=>(failP_k 6 s (by decide)).2) _)
theorem Eat.nameM:Eat (Dt.nameM L en) (fun _ n=>n=1):=fun s hs=>by
 unfold Dt.nameM at hs ⊢
 split at hs
 ·rename_i hk
  rw [if_pos hk]
  exact ⟨1,rfl,rfl⟩
 ·exact absurd hs (failP_k 6 s (by decide)).2
theorem Eat.nameQ:Eat (Dt.nameQ L en) (fun r n=>n=if r.isSome then 1 else 0):=fun s hs=>by
 unfold Dt.nameQ
 split
 ·exact ⟨1,rfl,rfl⟩
 ·exact ⟨0,rfl,rfl⟩
theorem Eat.negM:Eat (Dt.negM L en) (fun r n=>n=if r.isSome then 1 else 0):=fun s hs=>by
 unfold Dt.negM
 split
 ·exact ⟨1,rfl,rfl⟩
 ·exact ⟨0,rfl,rfl⟩
theorem Eat.litM:Eat (Dt.litM L en) (fun r n=>∀ x,r=some x→nE x ≤ n):=fun s hs=>by
 unfold Dt.litM at hs ⊢
 simp only at hs ⊢
 by_cases he:s.e=0
 ·simp only [he,ne_eq,not_true_eq_false,if_false] at hs ⊢
  split
  ·rename_i hk
   rw [if_pos hk] at hs
   split
   ·exact ⟨1,rfl,fun x hx=>by cases hx;exact Nat.le_refl _⟩
   ·rename_i hn
    rw [if_neg hn] at hs
    exact absurd hs (failP_k 5 s (by decide)).2
  ·split
   ·exact ⟨1,rfl,fun x hx=>by cases hx;exact Nat.le_refl _⟩
   ·split
    ·exact ⟨1,rfl,fun x hx=>by cases hx;exact Nat.le_refl _⟩
    ·exact ⟨0,rfl,fun x hx=>by cases hx⟩
 ·rw [if_pos he] at hs
  exact absurd hs he
theorem Eat.oneOf (l:List (ByteArray × Nat)):Eat (Dt.oneOf L en l) (fun r n=>n=if r.isSome then 1 else 0):=fun s hs=>by
 rcases oneOf_cases (L:=L) (en:=en) l s with e | ⟨o,e,_⟩
 ·rw [e];exact ⟨0,rfl,rfl⟩
 ·rw [e];exact ⟨1,rfl,rfl⟩
theorem Eat.chainM {ops:List (ByteArray × Nat)} (ho:∀ x ∈ ops,x.1 ≠ BSEMI∧x.1 ≠ BCLOSE) {one:Rd PE} (hs:Sim L en L en 0 one one) (hg:Eat one (fun y n=>nE y ≤ n)):∀ f x,Eat (Dt.chainM L en ops one f x) (fun y n=>nE y ≤ nE x + n)
 | 0,x=>Eat.fail (fun s=>by show (99:Nat) ≠ 0;decide) _
 | f + 1,x=>Eat.bnd (Eat.oneOf ops) (fun o=>by
     cases o with
     | none=>exact Keep.ret _
     | some o=>exact Keep.bnd hs.keep (fun y=>(Sim.chainM ops ho hs f _).keep)) (fun o n hn=>by
     cases o with
     | none=>exact Eat.ret (show nE x ≤ nE x + (n + 0) by omega)
     | some o=>
      have h1:n=1:=hn
      exact Eat.bnd hg (fun y=>(Sim.chainM ops ho hs f _).keep) (fun y k hy=>(Eat.chainM ho hs hg f _).imp fun z m hz=>by
       have:nE (PE.node o [x,y])=nE x + nE y + 1:=rfl
       show nE z ≤ nE x + (n + (k + m))
       omega))
theorem Eat.chainL {ops:List (ByteArray × Nat)} (ho:∀ x ∈ ops,x.1 ≠ BSEMI∧x.1 ≠ BCLOSE) {one:Rd PE} (hs:Sim L en L en 0 one one) (hg:Eat one (fun y n=>nE y ≤ n)) (f:Nat):Eat (Dt.chainL L en ops one f) (fun y n=>nE y ≤ n):=
 Eat.bnd hg (fun x=>(Sim.chainM ops ho hs f x).keep) (fun x n hx=>(Eat.chainM ho hs hg f x).imp fun y m hy=>by show nE y ≤ n + m;omega)
set_option maxHeartbeats 8000000 in
theorem Eat.exF:∀ f m,Eat (Dt.exF L en f m) (fun y n=>nE y ≤ n)
 | 0,_=>Eat.fail (fun s=>by show (99:Nat) ≠ 0;decide) _
 | f + 1,.expr=>Eat.chainL (by decide) (Sim.chainL _ (by decide) (Sim.exF f .not) f) (Eat.chainL (by decide) (Sim.exF f .not) (Eat.exF f .not) f) f
 | f + 1,.not=>Eat.is kpE
     (Eat.bnd (Eat.exF f .not) kpE (fun x n hx=>Eat.ret (show nE x + 1 ≤ 1 + (n + 0) by omega)))
     (Eat.bnd (Eat.exF f (.sum 0)) kpE (fun x n hx=>Eat.is kpE
      (Eat.bnd (Eat.isM _) kpE (fun b n2 h2=>Eat.bnd (Eat.mustM [WNULL]) kpE (fun _ n3 h3=>Eat.ret (by
       have h3:n3=1:=h3
       cases b with
       | true=>
        have h2:n2=1:=h2
        show nE x + 1 + 1 ≤ n + (1 + (n2 + (n3 + 0)));omega
       | false=>show nE x + 1 ≤ n + (1 + (n2 + (n3 + 0)));omega))))
      (Eat.bnd (Eat.oneOf cmps) kpE (fun o n2 h2=>by
       cases o with
       | none=>exact Eat.ret (show nE x ≤ n + (n2 + 0) by omega)
       | some o=>
        have h2:n2=1:=h2
        exact Eat.bnd (Eat.exF f (.sum 0)) kpE (fun y n3 hy=>Eat.ret (show nE x + nE y + 1 ≤ n + (n2 + (n3 + 0)) by omega))))))
 | f + 1,.sum k=>by
  show Eat (if k=3 then Dt.exF L en f .unary else Dt.chainL L en (opsOf k) (Dt.exF L en f (.sum (k + 1))) f) _
  split
  ·exact Eat.exF f .unary
  ·match k with
   | 0=>exact Eat.chainL (by decide) (Sim.exF f _) (Eat.exF f _) f
   | 1=>exact Eat.chainL (by decide) (Sim.exF f _) (Eat.exF f _) f
   | _ + 2=>exact Eat.chainL (ops:=[(BSTAR,8),(BDIV,9),(BMOD,10)]) (by decide) (Sim.exF f _) (Eat.exF f _) f
 | f + 1,.unary=>Eat.is kpE
     (Eat.bnd Eat.negM kpE (fun n n2 hn=>by
      cases n with
      | some n=>exact Eat.ret (show 1 ≤ 1 + (n2 + 0) by omega)
      | none=>exact Eat.bnd (Eat.exF f .unary) kpE (fun x n3 hx=>Eat.ret (show nE x + 1 ≤ 1 + (n2 + (n3 + 0)) by omega))))
     (Eat.exF f .prim)
 | f + 1,.prim=>Eat.bnd Eat.litM kpE (fun r n0 h0=>by
     cases r with
     | some x=>exact Eat.ret (show nE x ≤ n0 + 0 by have:=h0 x rfl;omega)
     | none=>exact Eat.bnd Eat.nameQ kpE (fun r n1 h1=>by
      cases r with
      | some t=>
       have h1:n1=1:=h1
       exact Eat.is kpE
        (Eat.bnd Eat.nameM kpE (fun m n3 hm=>Eat.ret (show 1 ≤ n0 + (n1 + (1 + (n3 + 0))) by omega)))
        (Eat.ret (show 1 ≤ n0 + (n1 + 0) by omega))
      | none=>
       exact Eat.is kpE (Eat.ret (show 1 ≤ n0 + (n1 + (1 + 0)) by omega))
             (Eat.is kpE (Eat.bnd (Eat.exF f .expr) kpE (fun x n4 hx=>Eat.bnd (Eat.mustM [BCLOSE]) kpE (fun _ n5 _=>Eat.ret (show nE x ≤ n0 + (n1 + (1 + (n4 + (n5 + 0)))) by omega))))
             (Eat.is kpE (Eat.bnd (Eat.mustM [BOPEN]) kpE (fun _ n5 _=>Eat.is kpE
                   (Eat.bnd (Eat.mustM [BCLOSE]) kpE (fun _ n7 _=>Eat.ret (show 1 ≤ n0 + (n1 + (1 + (n5 + (1 + (n7 + 0))))) by omega)))
                   (Eat.bnd (Eat.exF f .expr) kpE (fun x n7 hx=>Eat.bnd (Eat.mustM [BCLOSE]) kpE (fun _ n8 _=>Eat.ret (show nE x + 1 ≤ n0 + (n1 + (1 + (n5 + (n7 + (n8 + 0))))) by omega))))))
             (Eat.bnd (Eat.oneOf groups) kpE (fun o n5 h5=>by
                         cases o with
                         | some o=>
                          have h5:n5=1:=h5
                          exact Eat.bnd (Eat.mustM [BOPEN]) kpE (fun _ n6 _=>Eat.bnd (Eat.exF f .expr) kpE (fun x n7 hx=>Eat.bnd (Eat.mustM [BCLOSE]) kpE (fun _ n8 _=>Eat.ret (show nE x + 1 ≤ n0 + (n1 + (n5 + (n6 + (n7 + (n8 + 0))))) by omega))))
                         | none=>exact Eat.fail (fun s=>(failP_k 6 s (by decide)).2) _))))))
theorem Eat.exprM:Eat (Dt.exprM L en) (fun y n=>nE y ≤ n):=Eat.exF FU .expr
theorem list_step {α:Type} {one:Rd α} {f:Nat} {s s1:PS} {x:α} (h1:one s=(x,s1)) (he:s1.e=0):Dt.listM L en one (f + 1) s=Dt.bnd (Dt.isM L en BCOMMA) (fun b=>if b=true then Dt.bnd (Dt.listM L en one f) fun r=>Dt.bnd Dt.okM fun ok=>Dt.ret (if ok=true then x :: r else []) else Dt.ret [x]) s1:=by
 have e:Dt.listM L en one (f + 1) s=(if decide (s1.e=0)=true then (Dt.bnd (Dt.isM L en BCOMMA) fun b=>if b=true then Dt.bnd (Dt.listM L en one f) fun r=>Dt.bnd Dt.okM fun ok=>Dt.ret (if ok=true then x :: r else []) else Dt.ret [x]) else Dt.ret []) s1:=by
  show Dt.bnd one _ s=_
  rw [bnd_of h1]
  rfl
 rw [e,if_pos (decide_eq_true he)]
theorem Eat.listM {α:Type} {one:Rd α} {μ:α→Nat} (hs:Sim L en L en 0 one one) (hg:Eat one (fun x n=>μ x ≤ n)):∀ f,Eat (Dt.listM L en one f) (fun l n=>sumN μ l ≤ n)
 | 0=>Eat.fail (fun s=>by show (99:Nat) ≠ 0;decide) _
 | f + 1=>fun s hf=>by
  obtain ⟨⟨x,s1⟩,h1⟩:∃ r,one s=r:=⟨_,rfl⟩
  have he:s1.e=0:=Classical.byContradiction fun hn=>by
   have e:Dt.listM L en one (f + 1) s=(if decide (s1.e=0)=true then (Dt.bnd (Dt.isM L en BCOMMA) fun b=>if b=true then Dt.bnd (Dt.listM L en one f) fun r=>Dt.bnd Dt.okM fun ok=>Dt.ret (if ok=true then x :: r else []) else Dt.ret [x]) else Dt.ret []) s1:=by
    show Dt.bnd one _ s=_
    rw [bnd_of h1]
    rfl
   rw [e,if_neg (by simp [hn])] at hf
   exact hn hf
  obtain ⟨n,g1,g2⟩:∃ n,s.k + n=s1.k∧μ x ≤ n:=by
   have:=hg s (by rw [h1];exact he)
   rw [h1] at this
   exact this
  rw [list_step h1 he] at hf ⊢
  have hE:Eat (Dt.bnd (Dt.isM L en BCOMMA) (fun b=>if b=true then Dt.bnd (Dt.listM L en one f) fun r=>Dt.bnd Dt.okM fun ok=>Dt.ret (if ok=true then x :: r else []) else Dt.ret [x])) (fun l m=>sumN μ l ≤ n + m):=
   Eat.is (fun b=>Keep.ite b (Keep.bnd (Sim.keep (Sim.listM hs f)) fun r=>Keep.bnd ((fun s h=>h:Keep Dt.okM)) fun ok=>Keep.ret _) (Keep.ret _))
    (Eat.bnd (Eat.listM hs hg f) (fun r=>Keep.bnd ((fun s h=>h:Keep Dt.okM)) fun ok=>Keep.ret _) (fun r n3 hr=>Eat.bnd (P:=fun _ n=>n=0) (fun s _=>⟨0,rfl,rfl⟩) (fun ok=>Keep.ret _) (fun ok n4 _=>Eat.ret (by
            cases ok with
            | true=>show μ x + sumN μ r ≤ n + (1 + (n3 + (n4 + 0)));omega
            | false=>show 0 ≤ _;exact Nat.zero_le _))))
    (Eat.ret (show μ x + 0 ≤ n + 0 by omega))
  obtain ⟨m,g3,g4⟩:=hE s1 hf
  exact ⟨n + m,by omega,g4⟩
theorem Eat.insideM {α:Type} {one:Rd α} {μ:α→Nat} (hs:Sim L en L en 0 one one) (hg:Eat one (fun x n=>μ x ≤ n)):Eat (Dt.insideM L en one FU) (fun l n=>sumN μ l + 1 ≤ n):=
 Eat.bnd (Eat.mustM [BOPEN]) (fun _=>Keep.bnd (Sim.keep (Sim.listM hs FU)) (fun l=>Keep.bnd (Sim.keep (Sim.mustM _)) (fun _=>Keep.ret _))) (fun _ n0 h0=>Eat.bnd (Eat.listM hs hg FU) (fun l=>Keep.bnd (Sim.keep (Sim.mustM _)) (fun _=>Keep.ret _)) (fun l n1 hl=>Eat.bnd (Eat.mustM [BCLOSE]) (fun _=>Keep.ret _) (fun _ n2 _=>Eat.ret (by
  have h0:n0=1:=h0
  show sumN μ l + 1 ≤ n0 + (n1 + (n2 + 0));omega))))
theorem sum_n1 {α:Type} : ∀ l:List α,sumN cnt1 l=l.length
 | []=>rfl
 | x :: l=>by show 1 + sumN cnt1 l=l.length + 1;rw [sum_n1 l];omega
theorem Eat.namesM:Eat (Dt.namesM L en) (fun l n=>l.length ≤ n):=(Eat.insideM (μ:=cnt1) Sim.nameM (Eat.nameM.imp fun _ n h=>by show 1 ≤ n;omega)).imp fun l n h=>by rw [sum_n1] at h;omega
theorem Eat.maybeM (w:ByteArray) (h1:w ≠ BSEMI) (h2:w ≠ BCLOSE):Eat (Dt.maybeM L en w) (fun l n=>sumN nE l ≤ n):=Eat.is kpS (Eat.bnd Eat.exprM kpS (fun x n hx=>Eat.ret (show nE x + 0 ≤ 1 + (n + 0) by omega))) (Eat.ret (show 0 ≤ _ from Nat.zero_le _))
theorem Eat.byM {α:Type} (w:ByteArray) {one:Rd α} {μ:α→Nat} (hs:Sim L en L en 0 one one) (hg:Eat one (fun x n=>μ x ≤ n)):Eat (Dt.byM L en w one) (fun l n=>sumN μ l ≤ n):=
 Eat.is (fun b=>Keep.ite b (Keep.bnd (Sim.keep (Sim.mustM _)) (fun _=>Sim.keep (Sim.listM hs FU))) (Keep.ret _))
  (Eat.bnd (Eat.mustM [WBY]) (fun _=>Sim.keep (Sim.listM hs FU)) (fun _ n1 _=>(Eat.listM hs hg FU).imp fun l m h=>by show sumN μ l ≤ 1 + (n1 + m);omega))
  (Eat.ret (show 0 ≤ _ from Nat.zero_le _))
set_option maxHeartbeats 4000000 in
theorem Eat.colM:Eat (Dt.colM L en) (fun _ n=>1 ≤ n):=Eat.bnd Eat.nameM kpS (fun x n0 h0=>Eat.bnd (Eat.oneOf types) kpS (fun o n1 _=>Eat.bnd (P:=fun _ _=>True) (by
 cases o with
 | some o=>exact Eat.ret trivial
 | none=>exact Eat.fail (fun s=>(failP_k 6 s (by decide)).2) _) kpS (fun ty n2 _=>Eat.is kpS
  (Eat.bnd (Eat.mustM [WNULL]) kpS (fun _ n4 _=>Eat.ret (show 1 ≤ n0 + (n1 + (n2 + (1 + (n4 + 0)))) by omega)))
  (Eat.ret (show 1 ≤ n0 + (n1 + (n2 + 0)) by omega)))))
theorem eat_get {α:Type} {p:Rd α} {P:α→Nat→Prop} (h:Eat p P) {s s':PS} {y:α} (e:p s=(y,s')) (h0:s'.e=0):∃ n,s.k + n=s'.k∧P y n:=by
 have:=h s (by rw [e];exact h0)
 rw [e] at this
 exact this
theorem Eat.colsM:∀ f cs,Eat (Dt.colsM L en f cs) (fun l n=>l.length ≤ cs.length + n)
 | 0,cs=>Eat.fail (fun s=>by show (99:Nat) ≠ 0;decide) _
 | f + 1,cs=>fun s hs=>by
  have e:Dt.colsM L en (f + 1) cs s=(if decide (s.e=0)=true then Dt.bnd (if cs.isEmpty then Dt.ret false else Dt.isM L en WPRIMARY) (fun b=>if b then Dt.ret cs else Dt.bnd (Dt.colM L en) fun c=>Dt.bnd (Dt.mustM L en [BCOMMA]) fun _=>Dt.colsM L en f (cs ++ [c])) else Dt.ret cs) s:=rfl
  rw [e] at hs ⊢
  by_cases he:s.e=0
  ·rw [if_pos (decide_eq_true he)] at hs ⊢
   obtain ⟨⟨b,s2⟩,h2⟩:∃ r,(if cs.isEmpty then Dt.ret false else Dt.isM L en WPRIMARY:Rd Bool) s=r:=⟨_,rfl⟩
   have hk2:s.k ≤ s2.k:=by
    split at h2
    ·cases h2;exact Nat.le_refl _
    ·have:=(isM_k (L:=L) (en:=en) WPRIMARY s).1
     rw [h2] at this;exact this
   rw [bnd_of h2] at hs ⊢
   cases b with
   | true=>
    simp only [if_true] at hs ⊢
    exact ⟨s2.k - s.k,by show s.k + (s2.k - s.k)=s2.k;omega,by show cs.length ≤ _;omega⟩
   | false=>
    simp only [Bool.false_eq_true,if_false] at hs ⊢
    obtain ⟨⟨c,s3⟩,h3⟩:∃ r,Dt.colM L en s2=r:=⟨_,rfl⟩
    rw [bnd_of h3] at hs ⊢
    obtain ⟨⟨u,s4⟩,h4⟩:∃ r,Dt.mustM L en [BCOMMA] s3=r:=⟨_,rfl⟩
    rw [bnd_of h4] at hs ⊢
    obtain ⟨m,g5,g6⟩:=Eat.colsM f (cs ++ [c]) s4 hs
    have h04:s4.e=0:=Classical.byContradiction fun hn=>Sim.keep (Sim.colsM f (cs ++ [c])) s4 hn hs
    have h03:=keep_back (Sim.keep (Sim.mustM _)) h4 h04
    obtain ⟨n1,g1,g2⟩:=eat_get Eat.colM h3 h03
    obtain ⟨n2,g3,_⟩:=eat_get (Eat.mustM [BCOMMA]) h4 h04
    rw [List.length_append,List.length_singleton] at g6
    exact ⟨s2.k - s.k + n1 + n2 + m,by omega,by omega⟩
  ·rw [if_neg (by simp [he])] at hs
   exact absurd hs he
theorem Eat.sourceM:Eat (Dt.sourceM L en) (fun x n=>nSrc x ≤ n):=Eat.bnd Eat.nameM kpS (fun x n0 h0=>Eat.is kpS
 (Eat.bnd Eat.nameM kpS (fun m n2 _=>Eat.ret (show 1 + 0 ≤ n0 + (1 + (n2 + 0)) by omega)))
 (Eat.ret (show 1 + 0 ≤ n0 + 0 by omega)))
theorem Eat.joinsM:∀ f l,Eat (Dt.joinsM L en f l) (fun r n=>sumN nSrc r ≤ sumN nSrc l + n)
 | 0,l=>Eat.fail (fun s=>by show (99:Nat) ≠ 0;decide) _
 | f + 1,l=>Eat.is kpS
     (Eat.bnd Eat.sourceM kpS (fun x n1 hx=>Eat.bnd (Eat.mustM [WON]) kpS (fun _ n2 _=>Eat.bnd Eat.exprM kpS (fun y n3 hy=>(Eat.joinsM f _).imp fun r m h=>by
      rw [sumN_app] at h
      have e:sumN nSrc [{ x with on:=[y] }]=1 + (nE y + 0) + 0:=rfl
      have e2:1 ≤ nSrc x:=by unfold nSrc;omega
      show sumN nSrc r ≤ sumN nSrc l + (1 + (n1 + (n2 + (n3 + m))))
      omega))))
     (Eat.ret (show sumN nSrc l ≤ sumN nSrc l + 0 by omega))
theorem Eat.createM:Eat (Dt.createM L en) (fun x n=>nSt x ≤ n):=Eat.is kpS
 (Eat.bnd Eat.nameM kpS (fun t n1 _=>Eat.bnd (Eat.mustM [BOPEN]) kpS (fun _ n2 _=>Eat.bnd (Eat.colsM FU []) kpS (fun c n3 hc=>Eat.bnd (Eat.mustM [WKEY]) kpS (fun _ n4 _=>Eat.bnd Eat.namesM kpS (fun k n5 hk=>Eat.bnd (Eat.mustM [BCLOSE]) kpS (fun _ n6 _=>Eat.ret (by
  simp only [List.length_nil] at hc
  show nSt { kind:=1,table:=t,cols:=c,key:=k } ≤ 1 + (n1 + (n2 + (n3 + (n4 + (n5 + (n6 + 0))))))
  simp only [nSt,sumN,List.length_nil]
  omega))))))))
 (Eat.bnd (Eat.isM _) kpS (fun u n1 _=>Eat.bnd (Eat.mustM [WINDEX]) kpS (fun _ n2 _=>Eat.bnd Eat.nameM kpS (fun nm n3 _=>Eat.bnd (Eat.mustM [WON]) kpS (fun _ n4 _=>Eat.bnd Eat.nameM kpS (fun t n5 _=>Eat.bnd Eat.namesM kpS (fun k n6 hk=>Eat.ret (by
  show nSt { kind:=3,uniq:=u,name:=nm,table:=t,key:=k } ≤ n1 + (n2 + (n3 + (n4 + (n5 + (n6 + 0)))))
  simp only [nSt,sumN,List.length_nil]
  omega))))))))
theorem Eat.dropM:Eat (Dt.dropM L en) (fun x n=>nSt x ≤ n):=Eat.is kpS
 (Eat.bnd Eat.nameM kpS (fun t n1 _=>Eat.ret (show 0 ≤ _ from Nat.zero_le _)))
 (Eat.bnd (Eat.mustM [WINDEX]) kpS (fun _ n1 _=>Eat.bnd Eat.nameM kpS (fun t n2 _=>Eat.ret (show 0 ≤ _ from Nat.zero_le _))))
theorem Eat.setM:Eat (Dt.setM L en) (fun x n=>nSet x ≤ n):=Eat.bnd Eat.nameM kpS (fun m k0 hk=>Eat.bnd (Eat.mustM [BEQ]) kpS (fun _ k1 _=>Eat.bnd Eat.exprM kpS (fun x k2 hx=>Eat.ret (show 1 + nE x ≤ k0 + (k1 + (k2 + 0)) by omega))))
theorem Eat.rowM:Eat (Dt.insideM L en (Dt.exprM L en) FU) (fun x n=>nRow x ≤ n):=(Eat.insideM Sim.exprM Eat.exprM).imp fun l n h=>by show 1 + sumN nE l ≤ n;omega
theorem Eat.insertM:Eat (Dt.insertM L en) (fun x n=>nSt x ≤ n):=fun s hs=>by
 unfold Dt.insertM at hs ⊢
 obtain ⟨⟨u,s1⟩,e_s1⟩:∃ r,Dt.mustM L en [WINTO] s=r:=⟨_,rfl⟩
 rw [bnd_of e_s1] at hs ⊢
 obtain ⟨⟨t,s2⟩,e_s2⟩:∃ r,Dt.nameM L en s1=r:=⟨_,rfl⟩
 rw [bnd_of e_s2] at hs ⊢
 obtain ⟨⟨n,s3⟩,e_s3⟩:∃ r,Dt.namesM L en s2=r:=⟨_,rfl⟩
 rw [bnd_of e_s3] at hs ⊢
 obtain ⟨⟨u2,s4⟩,e_s4⟩:∃ r,Dt.mustM L en [WVALUES] s3=r:=⟨_,rfl⟩
 rw [bnd_of e_s4] at hs ⊢
 obtain ⟨⟨r,s5⟩,e_s5⟩:∃ r,Dt.listM L en (Dt.insideM L en (Dt.exprM L en) FU) FU s4=r:=⟨_,rfl⟩
 rw [bnd_of e_s5] at hs ⊢
 have h5:s5.e=0:=hs
 have h4:=keep_back (Sim.keep (Sim.listM (Sim.insideM Sim.exprM FU) FU)) e_s5 h5
 have h3:=keep_back (Sim.keep (Sim.mustM _)) e_s4 h4
 have h2:=keep_back (Sim.keep Sim.namesM) e_s3 h3
 have h1:=keep_back (Sim.keep Sim.nameM) e_s2 h2
 obtain ⟨n1,g1,_⟩:=eat_get (Eat.mustM [WINTO]) e_s1 h1
 obtain ⟨n2,g2,_⟩:=eat_get Eat.nameM e_s2 h2
 obtain ⟨n3,g3,k3⟩:=eat_get Eat.namesM e_s3 h3
 obtain ⟨n4,g4,_⟩:=eat_get (Eat.mustM [WVALUES]) e_s4 h4
 obtain ⟨n5,g5,k5⟩:=eat_get (Eat.listM (μ:=nRow) (Sim.insideM Sim.exprM FU) Eat.rowM FU) e_s5 h5
 refine ⟨n1 + n2 + n3 + n4 + n5,by show s.k + (n1 + n2 + n3 + n4 + n5)=s5.k;omega,?_⟩
 show nSt { kind:=5,table:=t,names:=n,rows:=r } ≤ _
 simp only [nSt,sumN,List.length_nil]
 omega
theorem Eat.updateM:Eat (Dt.updateM L en) (fun x n=>nSt x ≤ n):=fun s hs=>by
 unfold Dt.updateM at hs ⊢
 obtain ⟨⟨t,s2⟩,e_s2⟩:∃ r,Dt.nameM L en s=r:=⟨_,rfl⟩
 rw [bnd_of e_s2] at hs ⊢
 obtain ⟨⟨u2,s4⟩,e_s4⟩:∃ r,Dt.mustM L en [WSET] s2=r:=⟨_,rfl⟩
 rw [bnd_of e_s4] at hs ⊢
 obtain ⟨⟨r,s5⟩,e_s5⟩:∃ r,Dt.listM L en (Dt.setM L en) FU s4=r:=⟨_,rfl⟩
 rw [bnd_of e_s5] at hs ⊢
 obtain ⟨⟨w,s6⟩,e_s6⟩:∃ r,Dt.maybeM L en WWHERE s5=r:=⟨_,rfl⟩
 rw [bnd_of e_s6] at hs ⊢
 have h6:s6.e=0:=hs
 have h5:=keep_back (Sim.keep (Sim.maybeM WWHERE (by decide) (by decide))) e_s6 h6
 have h4:=keep_back (Sim.keep (Sim.listM Sim.setM FU)) e_s5 h5
 have h2:=keep_back (Sim.keep (Sim.mustM _)) e_s4 h4
 obtain ⟨n2,g2,_⟩:=eat_get Eat.nameM e_s2 h2
 obtain ⟨n4,g4,_⟩:=eat_get (Eat.mustM [WSET]) e_s4 h4
 obtain ⟨n5,g5,k5⟩:=eat_get (Eat.listM (μ:=nSet) Sim.setM Eat.setM FU) e_s5 h5
 obtain ⟨n6,g6,k6⟩:=eat_get (Eat.maybeM WWHERE (by decide) (by decide)) e_s6 h6
 refine ⟨n2 + n4 + n5 + n6,by show s.k + (n2 + n4 + n5 + n6)=s6.k;omega,?_⟩
 show nSt { kind:=6,table:=t,sets:=r,wh:=w } ≤ _
 simp only [nSt,sumN,List.length_nil]
 omega
theorem Eat.deleteM:Eat (Dt.deleteM L en) (fun x n=>nSt x ≤ n):=fun s hs=>by
 unfold Dt.deleteM at hs ⊢
 obtain ⟨⟨u2,s4⟩,e_s4⟩:∃ r,Dt.mustM L en [WFROM] s=r:=⟨_,rfl⟩
 rw [bnd_of e_s4] at hs ⊢
 obtain ⟨⟨t,s5⟩,e_s5⟩:∃ r,Dt.nameM L en s4=r:=⟨_,rfl⟩
 rw [bnd_of e_s5] at hs ⊢
 obtain ⟨⟨w,s6⟩,e_s6⟩:∃ r,Dt.maybeM L en WWHERE s5=r:=⟨_,rfl⟩
 rw [bnd_of e_s6] at hs ⊢
 have h6:s6.e=0:=hs
 have h5:=keep_back (Sim.keep (Sim.maybeM WWHERE (by decide) (by decide))) e_s6 h6
 have h4:=keep_back (Sim.keep Sim.nameM) e_s5 h5
 obtain ⟨n4,g4,_⟩:=eat_get (Eat.mustM [WFROM]) e_s4 h4
 obtain ⟨n5,g5,_⟩:=eat_get Eat.nameM e_s5 h5
 obtain ⟨n6,g6,k6⟩:=eat_get (Eat.maybeM WWHERE (by decide) (by decide)) e_s6 h6
 refine ⟨n4 + n5 + n6,by show s.k + (n4 + n5 + n6)=s6.k;omega,?_⟩
 show nSt { kind:=7,table:=t,wh:=w } ≤ _
 simp only [nSt,sumN,List.length_nil]
 omega
theorem Eat.itemM:Eat (Dt.itemM L en) (fun x n=>nItem x ≤ n):=Eat.bnd Eat.exprM kpS (fun x k0 hx=>Eat.is kpS
 (Eat.bnd Eat.nameM kpS (fun m k2 _=>Eat.ret (show nE x ≤ k0 + (1 + (k2 + 0)) by omega)))
 (Eat.ret (show nE x ≤ k0 + 0 by omega)))
theorem Eat.orderM:Eat (Dt.orderM L en) (fun x n=>nOrd x ≤ n):=Eat.bnd Eat.exprM kpS (fun x k0 hx=>Eat.bnd (Eat.isM _) kpS (fun b k1 _=>Eat.ret (show nE x ≤ k0 + (k1 + 0) by omega)))
theorem Eat.chooseM:Eat (Dt.chooseM L en) (fun x n=>nSt x ≤ n):=fun s hs=>by
 obtain ⟨⟨b,s1⟩,e1⟩:∃ r,Dt.isM L en BSTAR s=r:=⟨_,rfl⟩
 have E1:Dt.chooseM L en s=Dt.bnd (if b=true then Dt.ret [] else Dt.listM L en (Dt.itemM L en) FU) (fun i=>Dt.bnd (Dt.mustM L en [WFROM]) fun _=>Dt.bnd (Dt.sourceM L en) fun x=>
  Dt.bnd (Dt.joinsM L en FU [x]) fun j=>Dt.bnd (Dt.maybeM L en WWHERE) fun w=>Dt.bnd (Dt.byM L en WGROUP (Dt.exprM L en)) fun g=>Dt.bnd (Dt.maybeM L en WHAVING) fun h=>
  Dt.bnd (Dt.byM L en WORDER (Dt.orderM L en)) fun o=>Dt.bnd (Dt.limitM L en) fun m=>Dt.ret { kind:=8,items:=i,src:=j,wh:=w,group:=g,having:=h,order:=o,limit:=m }) s1:=by
  show Dt.bnd (Dt.isM L en BSTAR) _ s=_
  rw [bnd_of e1]
 rw [E1] at hs ⊢
 obtain ⟨⟨i,s2⟩,e2⟩:∃ r,(if b=true then Dt.ret [] else Dt.listM L en (Dt.itemM L en) FU) s1=r:=⟨_,rfl⟩
 rw [bnd_of e2] at hs ⊢
 obtain ⟨⟨u,s3⟩,e3⟩:∃ r,Dt.mustM L en [WFROM] s2=r:=⟨_,rfl⟩
 rw [bnd_of e3] at hs ⊢
 obtain ⟨⟨x,s4⟩,e4⟩:∃ r,Dt.sourceM L en s3=r:=⟨_,rfl⟩
 rw [bnd_of e4] at hs ⊢
 obtain ⟨⟨j,s5⟩,e5⟩:∃ r,Dt.joinsM L en FU [x] s4=r:=⟨_,rfl⟩
 rw [bnd_of e5] at hs ⊢
 obtain ⟨⟨w,s6⟩,e6⟩:∃ r,Dt.maybeM L en WWHERE s5=r:=⟨_,rfl⟩
 rw [bnd_of e6] at hs ⊢
 obtain ⟨⟨g,s7⟩,e7⟩:∃ r,Dt.byM L en WGROUP (Dt.exprM L en) s6=r:=⟨_,rfl⟩
 rw [bnd_of e7] at hs ⊢
 obtain ⟨⟨hv,s8⟩,e8⟩:∃ r,Dt.maybeM L en WHAVING s7=r:=⟨_,rfl⟩
 rw [bnd_of e8] at hs ⊢
 obtain ⟨⟨o,s9⟩,e9⟩:∃ r,Dt.byM L en WORDER (Dt.orderM L en) s8=r:=⟨_,rfl⟩
 rw [bnd_of e9] at hs ⊢
 obtain ⟨⟨m,s10⟩,e10⟩:∃ r,Dt.limitM L en s9=r:=⟨_,rfl⟩
 rw [bnd_of e10] at hs ⊢
 have h10:s10.e=0:=hs
 have h9:=keep_back (Sim.keep Sim.limitM) e10 h10
 have h8:=keep_back (Sim.keep (Sim.byM WORDER (by decide) (by decide) Sim.orderM)) e9 h9
 have h7:=keep_back (Sim.keep (Sim.maybeM WHAVING (by decide) (by decide))) e8 h8
 have h6:=keep_back (Sim.keep (Sim.byM WGROUP (by decide) (by decide) Sim.exprM)) e7 h7
 have h5:=keep_back (Sim.keep (Sim.maybeM WWHERE (by decide) (by decide))) e6 h6
 have h4:=keep_back (Sim.keep (Sim.joinsM FU [x])) e5 h5
 have h3:=keep_back (Sim.keep Sim.sourceM) e4 h4
 have h2:=keep_back (Sim.keep (Sim.mustM [WFROM])) e3 h3
 have gi:∃ n,s1.k + n=s2.k∧sumN nItem i ≤ n:=by
  cases b with
  | true=>
   simp only [if_true] at e2
   obtain ⟨rfl,rfl⟩:=Prod.mk.inj e2
   exact ⟨0,rfl,Nat.le_refl _⟩
  | false=>
   simp only [Bool.false_eq_true,if_false] at e2
   exact eat_get (Eat.listM (μ:=nItem) Sim.itemM Eat.itemM FU) e2 h2
 obtain ⟨i1,gi1,gi2⟩:=gi
 obtain ⟨u1,gu1,_⟩:=eat_get (Eat.mustM [WFROM]) e3 h3
 obtain ⟨x1,gx1,gx2⟩:=eat_get Eat.sourceM e4 h4
 obtain ⟨j1,gj1,gj2⟩:=eat_get (Eat.joinsM FU [x]) e5 h5
 obtain ⟨w1,gw1,gw2⟩:=eat_get (Eat.maybeM WWHERE (by decide) (by decide)) e6 h6
 obtain ⟨g1,gg1,gg2⟩:=eat_get (Eat.byM (μ:=nE) WGROUP Sim.exprM Eat.exprM) e7 h7
 obtain ⟨v1,gv1,gv2⟩:=eat_get (Eat.maybeM WHAVING (by decide) (by decide)) e8 h8
 obtain ⟨o1,go1,go2⟩:=eat_get (Eat.byM (μ:=nOrd) WORDER Sim.orderM Eat.orderM) e9 h9
 have hb:=isM_k (L:=L) (en:=en) BSTAR s
 rw [e1] at hb
 have hm:=(Sim.limitM (L:=L) (en:=en) (L':=L) (en':=en) (d:=0)).mono s9
 rw [e10] at hm
 have hb1:s.k ≤ s1.k:=hb.1
 have hm1:s9.k ≤ s10.k:=hm.1
 refine ⟨s10.k - s.k,by show s.k + (s10.k - s.k)=s10.k;omega,?_⟩
 show nSt { kind:=8,items:=i,src:=j,wh:=w,group:=g,having:=hv,order:=o,limit:=m } ≤ _
 have e:sumN nSrc [x]=nSrc x + 0:=rfl
 simp only [nSt,sumN,List.length_nil]
 omega
theorem nSt_zero {k:Nat} {n:ByteArray} : nSt { kind:=k,name:=n } = 0:=rfl
theorem Eat.stmtM:Eat (Dt.stmtM L en) (fun x n=>nSt x ≤ n):=fun s hs=>by
 have isx:∀ {t:ByteArray} {p q:Rd PSt},Eat p (fun x n=>nSt x ≤ n)→Eat q (fun x n=>nSt x ≤ n)→Eat (Dt.bnd (Dt.isM L en t) fun b=>if b then p else q) (fun x n=>nSt x ≤ n):=fun {t p q} hp hq s hs=>by
  obtain ⟨⟨b,s1⟩,e1⟩:∃ r,Dt.isM L en t s=r:=⟨_,rfl⟩
  have hb:=isM_k (L:=L) (en:=en) t s
  rw [e1] at hb
  have hb1:s.k ≤ s1.k:=hb.1
  rw [bnd_of e1] at hs ⊢
  cases b
  ·obtain ⟨n,h1,h2⟩:=hq _ hs
   exact ⟨s1.k - s.k + n,by show s.k + (s1.k - s.k + n)=(q s1).2.k;omega,by show nSt (q s1).1 ≤ _;omega⟩
  ·obtain ⟨n,h1,h2⟩:=hp _ hs
   exact ⟨s1.k - s.k + n,by show s.k + (s1.k - s.k + n)=(p s1).2.k;omega,by show nSt (p s1).1 ≤ _;omega⟩
 have sav:∀ k,Eat (Dt.saveM L en k) (fun x n=>nSt x ≤ n):=fun k=>Eat.bnd Eat.nameM (fun _=>Keep.ret _) (fun m n _=>Eat.ret (by show nSt { kind:=k,name:=m } ≤ _;rw [nSt_zero];omega))
 have zer:∀ k,Eat (Dt.ret ({ kind:=k } : PSt)) (fun x n=>nSt x ≤ n):=fun k=>Eat.ret (by show nSt { kind:=k } ≤ 0;exact Nat.le_refl 0)
 exact isx Eat.createM (isx Eat.dropM (isx Eat.insertM (isx Eat.updateM (isx Eat.deleteM (isx Eat.chooseM
  (isx (zer 9) (isx (zer 10) (isx (isx (sav 13) (zer 11)) (isx (sav 12) (isx (sav 14) (Eat.fail (fun s=>(failP_k 6 s (by decide)).2) _))))))))))) s hs
theorem stmts_eat:∀ (f:Nat) (s s1:PS) (A:List PSt),s.k ≤ L.length→stmtsM L en f s=(A,s1)→s1.e=0→∀ x ∈ A,nSt x ≤ L.length
 | 0,s,s1,A,_,h,he=>by
  cases h
  exact absurd he (by show (99:Nat) ≠ 0;decide)
 | f + 1,s,s1,A,hk,h,he=>by
  by_cases hc:s.e=0∧s.k < L.length
  ·rw [stmts_step f hc.1 hc.2] at h
   obtain ⟨⟨x,s2⟩,h2⟩:∃ r,Dt.stmtM L en s=r:=⟨_,rfl⟩
   rw [bnd_of h2] at h
   obtain ⟨⟨u,s3⟩,h3⟩:∃ r,semiM L en s2=r:=⟨_,rfl⟩
   rw [bnd_of h3] at h
   obtain ⟨⟨r,s4⟩,h4⟩:∃ r,Dt.stmtsM L en f s3=r:=⟨_,rfl⟩
   rw [bnd_of h4] at h
   obtain ⟨hA,hs4⟩:=Prod.mk.inj h
   have he4:s4.e=0:=by rw [show s4=s1 from hs4];exact he
   have e3:s3.e=0:=Classical.byContradiction fun hn=>by
    have:=stmts_err (K:=L) (en:=en) f s3 hn
    rw [h4] at this
    exact this he4
   have e2:s2.e=0:=Classical.byContradiction fun hn=>by
    have:=semi_err (K:=L) (en:=en) hn
    rw [h3] at this
    exact this e3
   have hk2:=(Sim.stmtM (L:=L) (en:=en) (L':=L) (en':=en) (d:=0)).le s hk
   rw [h2] at hk2
   have hk3:s3.k ≤ L.length:=by
    by_cases hlt:s2.k < L.length
    ·have:=must_le (L:=L) (en:=en) [BSEMI] s2 hk2
     have e:semiM L en s2=Dt.mustM L en [BSEMI] s2:=by unfold semiM;rw [if_pos hlt]
     rw [← e,h3] at this
     exact this
    ·have e:semiM L en s2=((),s2):=by unfold semiM;rw [if_neg hlt]
     rw [e] at h3
     cases h3
     exact hk2
   intro y hy
   rw [← hA] at hy
   rcases List.mem_cons.1 hy with rfl | hy
   ·obtain ⟨n,g1,g2⟩:=eat_get Eat.stmtM h2 e2
    have:s2.k ≤ L.length:=hk2
    omega
   ·exact stmts_eat f s3 s4 r hk3 h4 he4 y hy
  ·rw [stmts_end f hc] at h
   cases h
   exact fun y hy=>by cases hy
end
theorem script_eat {t:List UInt8} {A:List PSt} (h:scriptL t = .inr A):∀ x ∈ A,nSt x ≤ 4096:=by
 obtain ⟨L,s1,h1,h2,h3⟩:=scriptL_run h
 have hl:L.length ≤ 4096:=by
  have h4:=toksL_le h1
  have h5:=h1
  rw [toksL_eq] at h5
  by_cases hl:4096 < t.length
  ·rw [if_pos hl] at h5;cases h5
  ·omega
 exact fun x hx=>Nat.le_trans (stmts_eat FU _ s1 A (Nat.zero_le _) h2 h3 x hx) hl
end Go.Proofs.YtmdogmpcmkfjpaaGreatDoor.Dt
