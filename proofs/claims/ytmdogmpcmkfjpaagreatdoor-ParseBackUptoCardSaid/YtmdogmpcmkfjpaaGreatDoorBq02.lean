import Derived.Test.YtmdogmpcmkfjpaaGreatDoorBq01
set_option maxRecDepth 100000
set_option maxHeartbeats 64000000
/- Part. -/
namespace Go.Proofs.YtmdogmpcmkfjpaaGreatDoor.Dt
open Go.Lib
structure Tk where
 k:Nat
 s:ByteArray
 n:Nat
 a:Int
theorem Tk.ext' {x y:Tk} (h1:x.k=y.k) (h2:x.s=y.s) (h3:x.n=y.n) (h4:x.a=y.a):x=y:=by cases x;cases y;simp_all
instance:DecidableEq Tk:=fun x y=>decidable_of_iff (x.k=y.k∧x.s=y.s∧x.n=y.n∧x.a=y.a) ⟨fun h=>Tk.ext' h.1 h.2.1 h.2.2.1 h.2.2.2,fun h=>by rw [h];exact ⟨rfl,rfl,rfl,rfl⟩⟩
def Zdi (c:UInt8):Bool:=decide (97 ≤ c.toNat∧c.toNat ≤ 122)
def Zf3 (c:UInt8):Bool:=decide (65 ≤ c.toNat∧c.toNat ≤ 90)
def Zdx (c:UInt8):Bool:=decide (48 ≤ c.toNat∧c.toNat ≤ 57)
def Zbf (c:UInt8):Bool:=Zdi c || Zf3 c || Zdx c || decide (c.toNat=95)
def Zb0 (c:UInt8):Bool:=Zbf c && !Zf3 c
def Zs (c:UInt8):Bool:=decide (c.toNat=32 ∨ c.toNat=9 ∨ c.toNat=10 ∨ c.toNat=13)
def Zc4 (c:UInt8):Bool:=decide (c.toNat ≠ 10)
def Zap (p:UInt8→Bool):List UInt8→Nat
 | []=>0
 | c :: l=>if p c then Zap p l + 1 else 0
theorem Zat (p:UInt8→Bool):∀ l,Zap p l ≤ l.length
 | []=>Nat.le_refl _
 | c :: l=>by
  unfold Zap
  have:=Zat p l
  split <;> simp only [List.length_cons] <;> omega
def Zal:List UInt8→UInt8
 | []=>0
 | c :: _=>c
def Zr8:Nat→List UInt8→Nat
 | 0,_=>0
 | m + 1,l=>
  let r:=Zap Zs l
  let l':=l.drop r
  if Zal l'=45∧Zal (l'.drop 1)=45 then
   let q:=Zap Zc4 l'
   r + q + Zr8 m (l'.drop q)
  else r
def Zr (l:List UInt8):Nat:=Zr8 (l.length + 1) l
def Zb6:List UInt8→Option (List UInt8 × Nat)
 | []=>none
 | [c]=>if c=39 then some ([],1) else none
 | c :: d :: l=>if c=39 then (if d=39 then (Zb6 l).map fun x=>(39 :: x.1,x.2 + 2) else some ([],1)) else (Zb6 (d :: l)).map fun x=>(c :: x.1,x.2 + 1)
def Zb7:List UInt8→Nat ⊕ (List UInt8 × Nat)
 | []=>.inl 0
 | [c]=>if c=39 then .inr ([],1) else if Zir c=none then .inl 0 else .inl 1
 | c :: d :: l=>if c=39 then .inr ([],1) else
  match Zir c,Zir d with
  | none,_=>.inl 0
  | some _,none=>.inl 1
  | some a,some b=>match Zb7 l with
   | .inl e=>.inl (e + 2)
   | .inr x=>.inr (UInt8.ofNat (16 * a + b) :: x.1,x.2 + 2)
inductive One where
 | tok (k:Nat) (s:List UInt8) (n:Nat) (m:Nat)
 | bad (e:Nat) (m:Nat)
instance:DecidableEq One:=fun x y=>match x,y with
 | .tok k s n m,.tok k' s' n' m'=>decidable_of_iff (k=k'∧s=s'∧n=n'∧m=m') ⟨fun ⟨a,b,c,d⟩=>by rw [a,b,c,d],fun h=>by cases h;exact ⟨rfl,rfl,rfl,rfl⟩⟩
 | .bad e m,.bad e' m'=>decidable_of_iff (e=e'∧m=m') ⟨fun ⟨a,b⟩=>by rw [a,b],fun h=>by cases h;exact ⟨rfl,rfl⟩⟩
 | .tok _ _ _ _,.bad _ _=>.isFalse (fun h=>by cases h)
 | .bad _ _,.tok _ _ _ _=>.isFalse (fun h=>by cases h)
def Zb2:List (List UInt8):=["AND","AS","BEGIN","BLOB","BY","COMMIT","COUNT","CREATE","DELETE","DESC","DROP","FROM","GROUP","HAVING","INDEX","INSERT","INTEGER","INTO","IS","JOIN","KEY","LIMIT","MAX","MIN","NOT","NULL","ON","OR","ORDER","PRIMARY","RELEASE","ROLLBACK","SAVEPOINT","SELECT","SET","SUM","TABLE","TEXT","TO","UNIQUE","UPDATE","VALUES","WHERE"].map fun s=>s.toUTF8.data.toList
def Zfz:List UInt8:=[40,41,44,46,42,43,45,47,37,61,60,62,59]
def Zf1:List (List UInt8):=[[60,62],[60,61],[62,61],[124,124]]
def Zbu (l:List UInt8):One:=
 if Zf3 (Zal l) then
  if l.take (Zap Zbf l) ∈ Zb2 then .tok 1 (l.take (Zap Zbf l)) 0 (Zap Zbf l) else .bad 6 0
 else if Zf3 (Zal (l.drop (Zap Zb0 l))) then .bad 6 (Zap Zb0 l)
 else if 32 < Zap Zb0 l then .bad 3 0
 else .tok 2 (l.take (Zap Zb0 l)) 0 (Zap Zb0 l)
def Zc2 (l:List UInt8):One:=
 if Zal l=48∧Zdx (Zal (l.drop 1)) then .bad 6 1
 else match Zmv 0 (l.take (Zap Zdx l)) with
  | none=>.bad 5 0
  | some n=>if 9223372036854775808 < n then .bad 5 0 else .tok 3 [] n (Zap Zdx l)
def Zcm (l:List UInt8):One:=
 match Zb6 (l.drop 1) with
 | none=>.bad 6 l.length
 | some (t,m)=>if 1000 < t.length then .bad 3 0 else .tok 4 t 0 (m + 1)
def Zb8 (l:List UInt8):One:=
 match Zb7 (l.drop 2) with
 | .inl e=>.bad 6 (e + 2)
 | .inr (t,m)=>if 1000 < t.length then .bad 3 0 else .tok 5 t 0 (m + 2)
def Zbm (l:List UInt8):One:=
 if l.take 2 ∈ Zf1 then .tok 6 (l.take 2) 0 2
 else if Zal l ∈ Zfz then .tok 6 (l.take 1) 0 1
 else .bad 6 0
def Zcx (l:List UInt8):One:=
 if Zal l=39 then Zcm l
 else if Zal l=120∧Zal (l.drop 1)=39 then Zb8 l
 else if Zdi (Zal l) || Zf3 (Zal l) then Zbu l
 else if Zdx (Zal l) then Zc2 l
 else Zbm l
def Zpl:Nat→Nat→List UInt8→(Nat × Nat) ⊕ List Tk
 | 0,_,_=>.inr []
 | f + 1,b,l=>
  if l.drop (Zr l) = [] then .inr []
  else match Zcx (l.drop (Zr l)) with
   | .bad e m=>.inl (e,b + Zr l + m)
   | .tok k s n m=>
    if k ≠ 6∧Zbf (Zal ((l.drop (Zr l)).drop m)) then .inl (6,b + Zr l + m)
    else match Zpl f (b + Zr l + m) ((l.drop (Zr l)).drop m) with
     | .inl e=>.inl e
     | .inr t=>.inr (⟨k,⟨s.toArray⟩,n,((b + Zr l:Nat):Int)⟩ :: t)
def Zea (l:List UInt8):(Nat × Nat) ⊕ List Tk:=if 4096 < l.length then .inl (3,4096) else Zpl (l.length + 1) 0 l
theorem Zj0 (p:UInt8→Bool):∀ l:List UInt8,l.drop (Zap p l) = [] ∨ p (Zal (l.drop (Zap p l)))=false
 | []=>.inl rfl
 | c :: l=>by
  unfold Zap
  by_cases h:p c
  ·rw [if_pos h];exact Zj0 p l
  ·rw [if_neg h];right;simpa [Zal] using h
theorem Zbe {p:UInt8→Bool} {c:UInt8} {l:List UInt8} (h:p c=true):Zap p (c :: l)=Zap p l + 1:=by rw [Zap,if_pos h]
theorem Zek {p:UInt8→Bool} {c:UInt8} {l:List UInt8} (h:p c=false):Zap p (c :: l)=0:=by rw [Zap,if_neg (by simp [h])]
theorem Zmi {p:UInt8→Bool} : ∀ {l m:List UInt8},(∀ c ∈ l,p c=true)→Zap p (l ++ m)=l.length + Zap p m
 | [],_,_=>by simp
 | c :: l,m,h=>by
  rw [List.cons_append,Zbe (h c kY),Zmi (fun x hx=>h x kb66),List.length_cons];omega
theorem Zi9 {p:UInt8→Bool} : ∀ (l:List UInt8),∀ c ∈ l.take (Zap p l),p c=true
 | [],_,h=>by simp at h
 | c :: l,x,h=>by
  by_cases hc:p c=true
  ·rw [Zbe hc,List.take_succ_cons] at h
   rcases List.mem_cons.1 h with rfl | h
   ·exact hc
   ·exact Zi9 l x h
  ·rw [Zek (by simpa using hc)] at h;simp at h
def Zcw (l:List UInt8):Prop:=Zal l=45∧Zal (l.drop 1)=45
instance (l:List UInt8):Decidable (Zcw l):=by unfold Zcw;exact inferInstance
theorem Zdc {l:List UInt8} (h:Zcw l):2 ≤ Zap Zc4 l:=by
 match l,h with
 | [],h=>exact absurd h.1 kD
 | [c],h=>exact absurd h.2 (by simp [Zal])
 | c :: d :: l,h=>
  have h1:c=45:=h.1
  have h2:d=45:=h.2
  subst h1 h2
  rw [Zbe kD,Zbe kD];omega
theorem Zil (m:Nat) (l:List UInt8):Zr8 (m + 1) l=if Zcw (l.drop (Zap Zs l)) then Zap Zs l + Zap Zc4 (l.drop (Zap Zs l)) + Zr8 m ((l.drop (Zap Zs l)).drop (Zap Zc4 (l.drop (Zap Zs l)))) else Zap Zs l:=rfl
theorem Zlc:∀ (m k:Nat) (l:List UInt8),l.length < m→l.length < k→Zr8 m l=Zr8 k l
 | 0,_,_,h,_=>absurd h kW
 | _ + 1,0,_,_,h=>absurd h kW
 | m + 1,k + 1,l,h1,h2=>by
  rw [Zil,Zil]
  by_cases hd:Zcw (l.drop (Zap Zs l))
  ·rw [if_pos hd,if_pos hd]
   have:=Zdc hd
   have h3:=Zat Zc4 (l.drop (Zap Zs l))
   rw [Zlc m k _ kb22 kb22]
  ·rw [if_neg hd,if_neg hd]
theorem Zee (l:List UInt8):Zr l=if Zcw (l.drop (Zap Zs l)) then Zap Zs l + Zap Zc4 (l.drop (Zap Zs l)) + Zr ((l.drop (Zap Zs l)).drop (Zap Zc4 (l.drop (Zap Zs l)))) else Zap Zs l:=by
 unfold Zr
 rw [Zil]
 by_cases hd:Zcw (l.drop (Zap Zs l))
 ·rw [if_pos hd,if_pos hd]
  have:=Zdc hd
  have h3:=Zat Zc4 (l.drop (Zap Zs l))
  rw [Zlc l.length _ _ kb22 (Nat.lt_succ_self _)]
 rw [if_neg hd,if_neg hd]
theorem Zfa {c:UInt8} {l:List UInt8} (h:Zs c=true):Zr (c :: l)=Zr l + 1:=by
 rw [Zee,Zee l,Zbe h,List.drop_succ_cons]
 split <;> omega
theorem skip_none {l:List UInt8} (h1:Zs (Zal l)=false) (h2:¬ Zcw l):Zr l=0:=by
 have hr:Zap Zs l=0:=by
  match l,h1 with
  | [],_=>rfl
  | c :: l,h=>exact Zek h
 rw [Zee,hr,List.drop_zero,if_neg h2]
theorem skip_nil:Zr []=0:=rfl
theorem Zez:∀ (m:Nat) (l:List UInt8),l.length ≤ m→Zr l ≤ l.length
 | 0,l,h=>by
  have:l = []:=List.length_eq_zero_iff.1 kW
  subst this;exact Nat.le_refl _
 | m + 1,l,h=>by
  rw [Zee]
  have h1:=Zat Zs l
  by_cases hd:Zcw (l.drop (Zap Zs l))
  ·rw [if_pos hd]
   have:=Zdc hd
   have h3:=Zat Zc4 (l.drop (Zap Zs l))
   have h4:=Zez m ((l.drop (Zap Zs l)).drop (Zap Zc4 (l.drop (Zap Zs l)))) kb22
   simp only [List.length_drop] at h3 h4
   omega
  ·rw [if_neg hd];exact h1
theorem Znv:∀ (m:Nat) (l:List UInt8),l.length ≤ m→Zs (Zal (l.drop (Zr l)))=false∧¬ Zcw (l.drop (Zr l))
 | 0,l,h=>by
  have:l = []:=List.length_eq_zero_iff.1 kW
  subst this;exact ⟨by decide,by decide⟩
 | m + 1,l,h=>by
  rw [Zee]
  by_cases hd:Zcw (l.drop (Zap Zs l))
  ·rw [if_pos hd]
   have:=Zdc hd
   have h3:=Zat Zc4 (l.drop (Zap Zs l))
   have h4:=Znv m ((l.drop (Zap Zs l)).drop (Zap Zc4 (l.drop (Zap Zs l)))) kb22
   rw [List.drop_drop,List.drop_drop] at h4
   rw [← Nat.add_assoc] at h4
   exact h4
  ·rw [if_neg hd]
   refine ⟨?_,hd⟩
   rcases Zj0 Zs l with h1 | h1
   ·rw [h1];decide
   ·exact h1
theorem Zhs (l:List UInt8):Zr (l.drop (Zr l))=0:=by
 obtain ⟨h1,h2⟩:=Znv l.length l (Nat.le_refl _)
 exact skip_none h1 h2
theorem Zj2:∀ (f:Nat) (l:List UInt8),l.length ≤ f→∀ t m,Zb6 l=some (t,m)→1 ≤ m∧m ≤ l.length∧t.length ≤ m
 | _,[],_,_,_,h=>by cases h
 | _,[c],_,t,m,h=>by
  unfold Zb6 at h
  split at h
  ·cases h;exact ⟨by omega,by simp,by simp⟩
  ·cases h
 | 0,_ :: _ :: _,h,_,_,_=>by simp at h
 | f + 1,c :: d :: l,hl,t,m,h=>by
  unfold Zb6 at h
  simp only [List.length_cons] at hl
  split at h
  ·split at h
   ·cases hq:Zb6 l with
    | none=>rw [hq] at h;cases h
    | some x=>
     rw [hq] at h
     obtain ⟨t',m'⟩:=x
     have:=Zj2 f l kW t' m' hq
     cases h
     simp only [List.length_cons];omega
   ·cases h;simp
  ·cases hq:Zb6 (d :: l) with
   | none=>rw [hq] at h;cases h
   | some x=>
    rw [hq] at h
    obtain ⟨t',m'⟩:=x
    have:=Zj2 f (d :: l) (by simp only [List.length_cons];omega) t' m' hq
    cases h
    simp only [List.length_cons] at this ⊢;omega
theorem Zot:∀ (f:Nat) (l:List UInt8),l.length ≤ f→∀ t m,Zb7 l = .inr (t,m)→1 ≤ m∧m ≤ l.length∧t.length ≤ m
 | _,[],_,_,_,h=>by cases h
 | _,[c],_,t,m,h=>by
  unfold Zb7 at h
  split at h
  ·cases h;exact ⟨by omega,by simp,by simp⟩
  ·split at h <;> cases h
 | 0,_ :: _ :: _,h,_,_,_=>by simp at h
 | f + 1,c :: d :: l,hl,t,m,h=>by
  unfold Zb7 at h
  simp only [List.length_cons] at hl
  split at h
  ·cases h;simp
  ·split at h
   ·cases h
   ·cases h
   ·split at h
    ·cases h
    ·rename_i x hq
     obtain ⟨t',m'⟩:=x
     have:=Zot f l kW t' m' hq
     cases h
     simp only [List.length_cons];omega
theorem Zou:∀ (f:Nat) (l:List UInt8),l.length ≤ f→∀ e,Zb7 l = .inl e→e ≤ l.length
 | _,[],_,_,h=>by cases h;simp
 | _,[c],_,e,h=>by
  unfold Zb7 at h
  split at h
  ·cases h
  ·split at h <;> cases h <;> simp
 | 0,_ :: _ :: _,h,_,_=>by simp at h
 | f + 1,c :: d :: l,hl,e,h=>by
  unfold Zb7 at h
  simp only [List.length_cons] at hl
  split at h
  ·cases h
  ·split at h
   ·cases h;simp
   ·cases h;simp
   ·split at h
    ·rename_i x hq
     have:=Zou f l kW x hq
     cases h
     simp only [List.length_cons];omega
    ·cases h
theorem Zg2 {l:List UInt8} (hl:l ≠ []) {k:Nat} {s:List UInt8} {n m:Nat} (h:Zcx l = .tok k s n m):1 ≤ m∧m ≤ l.length∧s.length ≤ l.length:=by
 obtain ⟨c,l,rfl⟩:∃ c l',l=c :: l':=by cases l with | nil=>exact absurd rfl hl | cons c l=>exact ⟨c,l,rfl⟩
 unfold Zcx at h
 split at h
 ·unfold Zcm at h
  split at h
  ·cases h
  rename_i t m' hq
  have:=Zj2 _ _ (Nat.le_refl _) _ _ hq
  split at h
  ·cases h
  cases h;simp only [List.drop_succ_cons,List.drop_zero,List.length_cons] at this ⊢;omega
 split at h
 ·unfold Zb8 at h
  split at h
  ·cases h
  rename_i t m' hq
  have:=Zot _ _ (Nat.le_refl _) _ _ hq
  split at h
  ·cases h
  cases h;simp only [List.length_drop,List.length_cons] at this ⊢;omega
 split at h
 ·rename_i hc
  unfold Zbu at h
  have h1:=Zat Zbf (c :: l)
  have h2:=Zat Zb0 (c :: l)
  have hc':(Zdi c || Zf3 c)=true:=hc
  split at h
  ·rename_i hcap
   have hw:Zbf c=true:=by unfold Zbf;rw [show Zf3 c=true from hcap];simp
   have h3:Zap Zbf (c :: l)=Zap Zbf l + 1:=Zbe hw
   split at h
   ·cases h;simp only [List.length_take];omega
   cases h
  rename_i hcap
  have hw:Zb0 c=true:=by
   have e:Zf3 c=false:=by simpa [Zal] using hcap
   rw [e,Bool.or_false] at hc'
   unfold Zb0 Zbf;rw [e,hc'];rfl
  have h3:Zap Zb0 (c :: l)=Zap Zb0 l + 1:=Zbe hw
  split at h
  ·cases h
  split at h
  ·cases h
  cases h;simp only [List.length_take];omega
 split at h
 ·rename_i hd
  unfold Zc2 at h
  have h1:=Zat Zdx (c :: l)
  have h3:Zap Zdx (c :: l)=Zap Zdx l + 1:=Zbe hd
  split at h
  ·cases h
  split at h
  ·cases h
  split at h
  ·cases h
  cases h;simp only [List.length_nil];omega
 unfold Zbm at h
 split at h
 ·rename_i ht
  have h4:2 ≤ (c :: l).length:=by
   rcases l with _ | ⟨d,l⟩
   ·exfalso
    simp [Zf1] at ht
   ·simp
  cases h;simp only [List.length_take];omega
 split at h
 ·cases h;simp
 cases h
theorem Zpx {l:List UInt8} (hl:l ≠ []) {e m:Nat} (h:Zcx l = .bad e m):m ≤ l.length∧e ≠ 0:=by
 obtain ⟨c,l,rfl⟩:∃ c l',l=c :: l':=by cases l with | nil=>exact absurd rfl hl | cons c l=>exact ⟨c,l,rfl⟩
 unfold Zcx at h
 split at h
 ·unfold Zcm at h
  split at h
  ·cases h;simp
  split at h
  ·cases h;simp
  cases h
 split at h
 ·rename_i hx
  have h4:2 ≤ (c :: l).length:=by
   rcases l with _ | ⟨d,l⟩
   ·exact absurd hx.2 (by simp [Zal])
   ·simp
  unfold Zb8 at h
  split at h
  ·rename_i x hq
   have:=Zou _ _ (Nat.le_refl _) _ hq
   cases h;simp only [List.length_drop] at this;omega
  split at h
  ·cases h;simp
  cases h
 split at h
 ·unfold Zbu at h
  have h2:=Zat Zb0 (c :: l)
  split at h
  ·split at h
   ·cases h
   cases h;simp
  split at h
  ·cases h;exact ⟨h2,by decide⟩
  split at h
  ·cases h;simp
  cases h
 split at h
 ·unfold Zc2 at h
  split at h
  ·cases h;simp
  split at h
  ·cases h;simp
  split at h
  ·cases h;simp
  cases h
 unfold Zbm at h
 split at h
 ·cases h
 split at h
 ·cases h
 cases h;simp
abbrev TR:=(Nat × Nat) ⊕ List Tk
theorem Zij (f b:Nat) (l:List UInt8):Zpl (f + 1) b l=if l.drop (Zr l) = [] then .inr []
 else match Zcx (l.drop (Zr l)) with
  | .bad e m=>.inl (e,b + Zr l + m)
  | .tok k s n m=>
   if k ≠ 6∧Zbf (Zal ((l.drop (Zr l)).drop m)) then .inl (6,b + Zr l + m)
   else match Zpl f (b + Zr l + m) ((l.drop (Zr l)).drop m) with
    | .inl e=>.inl e
    | .inr t=>.inr (⟨k,⟨s.toArray⟩,n,((b + Zr l:Nat):Int)⟩ :: t):=rfl
theorem Zk7:∀ (f g b:Nat) (l:List UInt8),l.length < f→l.length < g→Zpl f b l=Zpl g b l
 | 0,_,_,_,h,_=>absurd h kW
 | _ + 1,0,_,_,_,h=>absurd h kW
 | f + 1,g + 1,b,l,h1,h2=>by
  rw [Zij,Zij]
  by_cases hn:l.drop (Zr l) = []
  ·rw [if_pos hn,if_pos hn]
  ·rw [if_neg hn,if_neg hn]
   cases ho:Zcx (l.drop (Zr l)) with
   | bad e m=>rfl
   | tok k s n m=>
    have:=Zg2 hn ho
    have h3:=Zez _ l (Nat.le_refl _)
    simp only
    rw [Zk7 f g _ _ kb51 kb51]
def tk (b:Nat) (l:List UInt8):TR:=Zpl (l.length + 1) b l
def stepT (b:Nat) (l:List UInt8) (rest:Nat→List UInt8→TR):TR:=
 match Zcx l with
 | .bad e m=>.inl (e,b + m)
 | .tok k s n m=>
  if k ≠ 6∧Zbf (Zal (l.drop m)) then .inl (6,b + m)
  else match rest (b + m) (l.drop m) with
   | .inl e=>.inl e
   | .inr t=>.inr (⟨k,⟨s.toArray⟩,n,(b:Int)⟩ :: t)
theorem Zl5 (b:Nat) (l:List UInt8):tk b l=if l.drop (Zr l) = [] then .inr [] else stepT (b + Zr l) (l.drop (Zr l)) tk:=by
 unfold tk
 rw [Zij]
 by_cases hn:l.drop (Zr l) = []
 ·rw [if_pos hn,if_pos hn]
 rw [if_neg hn,if_neg hn]
 unfold stepT
 cases ho:Zcx (l.drop (Zr l)) with
 | bad e m=>rfl
 | tok k s n m=>
  have:=Zg2 hn ho
  have h3:=Zez _ l (Nat.le_refl _)
  simp only
  rw [Zk7 l.length (((l.drop (Zr l)).drop m).length + 1) _ _ kb51 kW]
  rfl
theorem Zgx (b:Nat) (l:List UInt8):tk b l=tk (b + Zr l) (l.drop (Zr l)):=by
 rw [Zl5,Zl5 (b + Zr l),Zhs,Nat.add_zero,List.drop_zero]
theorem tk_nil (b:Nat):tk b [] = .inr []:=rfl
theorem Zjl {b:Nat} {l:List UInt8} (hl:l ≠ []) (hs:Zr l=0):tk b l=stepT b l tk:=by
 rw [Zl5,hs,Nat.add_zero,List.drop_zero,if_neg hl]
theorem Zb4 (l:List UInt8):Zea l=if 4096 < l.length then .inl (3,4096) else tk 0 l:=rfl
theorem tk_bad:∀ (f:Nat) (b:Nat) (l:List UInt8),l.length ≤ f→∀ e a,tk b l = .inl (e,a)→b ≤ a∧a ≤ b + l.length∧e ≠ 0
 | f,b,l,hf,e,a,h=>by
  rw [Zl5] at h
  have h3:=Zez _ l (Nat.le_refl _)
  by_cases hn:l.drop (Zr l) = []
  ·rw [if_pos hn] at h;cases h
  ·rw [if_neg hn] at h
   unfold stepT at h
   cases ho:Zcx (l.drop (Zr l)) with
   | bad e' m=>
    rw [ho] at h
    have:=Zpx hn ho
    cases h
    simp only [List.length_drop] at this
    exact ⟨by omega,by omega,this.2⟩
   | tok k s n m=>
    rw [ho] at h
    have:=Zg2 hn ho
    simp only [List.length_drop] at this
    simp only at h
    split at h
    ·cases h;exact ⟨by omega,by omega,by decide⟩
    ·match f,hf with
     | 0,hf=>omega
     | f + 1,hf=>
      cases hr:tk (b + Zr l + m) ((l.drop (Zr l)).drop m) with
      | inl x=>
       rw [hr] at h
       obtain ⟨e',a'⟩:=x
       have h4:=tk_bad f _ _ kb72 e' a' hr
       cases h
       simp only [List.length_drop] at h4
       exact ⟨by omega,by omega,h4.2.2⟩
      | inr t=>rw [hr] at h;cases h
theorem tk_at:∀ (f:Nat) (b:Nat) (l:List UInt8),l.length ≤ f→∀ ts,tk b l = .inr ts→∀ i t,ts[i]? = some t →
 ∃ p:Nat,t.a=((b + p:Nat):Int)∧p < l.length∧(∀ j u,j < i→ts[j]? = some u→u.a < t.a)∧tk (b + p) (l.drop p) = .inr (ts.drop i)
 | f,b,l,hf,ts,h,i,t,hi=>by
  have h0:=h
  rw [Zl5] at h
  have h3:=Zez _ l (Nat.le_refl _)
  by_cases hn:l.drop (Zr l) = []
  ·rw [if_pos hn] at h;cases h;simp at hi
  ·rw [if_neg hn] at h
   have h1:=h
   unfold stepT at h
   cases ho:Zcx (l.drop (Zr l)) with
   | bad e' m=>rw [ho] at h;cases h
   | tok k s n m=>
    rw [ho] at h
    have:=Zg2 hn ho
    simp only [List.length_drop] at this
    simp only at h
    split at h
    ·cases h
    ·cases hr:tk (b + Zr l + m) ((l.drop (Zr l)).drop m) with
     | inl x=>rw [hr] at h;cases h
     | inr t'=>
      rw [hr] at h
      cases h
      rcases i with _ | i
      ·simp only [List.getElem?_cons_zero,Option.some.injEq] at hi
       subst hi
       refine ⟨Zr l,rfl,by omega,fun j u hj=>absurd hj kW,?_⟩
       rw [List.drop_zero,Zjl hn (Zhs l)]
       exact h1
      ·match f,hf with
       | 0,hf=>omega
       | f + 1,hf=>
        simp only [List.getElem?_cons_succ] at hi
        obtain ⟨p,hp,hlt,hb4,he⟩:=tk_at f _ _ kb72 t' hr i t hi
        simp only [List.length_drop] at hlt
        refine ⟨Zr l + m + p,by rw [hp];push_cast;omega,by omega,?_,?_⟩
        ·intro j u hj hu
         rcases j with _ | j
         ·simp only [List.getElem?_cons_zero,Option.some.injEq] at hu
          subst hu
          rw [hp];push_cast;omega
         ·simp only [List.getElem?_cons_succ] at hu
          exact hb4 j u kW hu
        ·rw [List.drop_succ_cons,← he,List.drop_drop,List.drop_drop]
         congr 1
         ·omega
         ·congr 1;omega
def Zak (t:Tk):List UInt8:=
 if t.k=1 ∨ t.k=2 ∨ t.k=6 then t.s.data.toList
 else if t.k=3 then decDigits t.n
 else if t.k=4 then 39 :: (Zc0 t.s.data.toList ++ [39])
 else if t.k=5 then 120 :: 39 :: (Zlm t.s.data.toList ++ [39])
 else []
theorem Zey {t:Tk} (h:t.k=1 ∨ t.k=2 ∨ t.k=6):Zak t=t.s.data.toList:=by unfold Zak;rw [if_pos h]
theorem Zik {t:Tk} (h:t.k=3):Zak t=decDigits t.n:=by unfold Zak;rw [if_neg kW,if_pos h]
theorem Zl7 {t:Tk} (h:t.k=4):Zak t=39 :: (Zc0 t.s.data.toList ++ [39]):=by unfold Zak;rw [if_neg kW,if_neg kW,if_pos h]
theorem Zl6 {t:Tk} (h:t.k=5):Zak t=120 :: 39 :: (Zlm t.s.data.toList ++ [39]):=by unfold Zak;rw [if_neg kW,if_neg kW,if_neg kW,if_pos h]
theorem textT_0 {t:Tk} (h:t.k=0 ∨ 6 < t.k):Zak t = []:=by unfold Zak;rw [if_neg kW,if_neg kW,if_neg kW,if_neg kW]
def okT (t:Tk):Prop:=Zak t ≠ []∧t.s.size ≤ 1000∧Zcx (Zak t) = .tok t.k t.s.data.toList t.n (Zak t).length
def joinL:List (List UInt8)→List UInt8
 | []=>[]
 | [x]=>x
 | x :: y :: l=>x ++ 32 :: joinL (y :: l)
theorem Zhk {l:List UInt8} (h:l ≠ []) (m:List UInt8):Zal (l ++ m)=Zal l:=by
 cases l with | nil=>exact absurd rfl h | cons c l=>rfl
theorem Zfo {l:List UInt8} {n:Nat} (h:n < l.length) (m:List UInt8):Zal ((l ++ m).drop n)=Zal (l.drop n):=by
 rw [List.drop_append_of_le_length kW]
 exact Zhk (by intro e;have:=congrArg List.length e;simp at this;omega) m
theorem Zgi {c:UInt8} (h:Zs c=true):Zbf c=false∧Zb0 c=false∧Zdx c=false∧Zf3 c=false∧c ≠ 39∧c ≠ 45∧Zir c=none∧c ≠ 48∧Zdx c=false:=by
 have h1:∀ k:Fin 256,Zs (UInt8.ofNat k.val)=true→Zbf (UInt8.ofNat k.val)=false∧Zb0 (UInt8.ofNat k.val)=false∧Zdx (UInt8.ofNat k.val)=false∧Zf3 (UInt8.ofNat k.val)=false∧(UInt8.ofNat k.val) ≠ 39∧(UInt8.ofNat k.val) ≠ 45∧Zir (UInt8.ofNat k.val)=none∧(UInt8.ofNat k.val) ≠ 48∧Zdx (UInt8.ofNat k.val)=false:=by decide +kernel
 have h2:=h1 ⟨c.toNat,c.toNat_lt⟩
 simp only [UInt8.ofNat_toNat] at h2
 exact h2 h
theorem Zhz {p:UInt8→Bool} {c:UInt8} (h:p c=false):∀ (l r:List UInt8),Zap p (l ++ c :: r)=Zap p l
 | [],r=>Zek h
 | d :: l,r=>by
  rw [List.cons_append]
  by_cases hd:p d=true
  ·rw [Zbe hd,Zbe hd,Zhz h l r]
  ·have hd':p d=false:=by simpa using hd
   rw [Zek hd',Zek hd']
theorem Zj3 {c:UInt8} (hc:c ≠ 39):∀ (f:Nat) (l r:List UInt8),l.length ≤ f→∀ t m,Zb6 l=some (t,m)→Zb6 (l ++ c :: r)=some (t,m)
 | _,[],_,_,_,_,h=>by cases h
 | _,[d],r,_,t,m,h=>by
  unfold Zb6 at h
  split at h
  ·rename_i hd
   cases h
   subst hd
   show Zb6 (39 :: c :: r)=_
   unfold Zb6
   rw [if_pos rfl,if_neg hc]
  ·cases h
 | 0,_ :: _ :: _,_,h,_,_,_=>by simp at h
 | f + 1,d :: e :: l,r,hl,t,m,h=>by
  simp only [List.length_cons] at hl
  show Zb6 (d :: e :: (l ++ c :: r))=_
  unfold Zb6 at h ⊢
  split at h
  ·rename_i hd
   rw [if_pos hd]
   split at h
   ·rename_i he
    rw [if_pos he]
    cases hq:Zb6 l with
    | none=>rw [hq] at h;cases h
    | some x=>rw [hq] at h;rw [Zj3 hc f l r kW x.1 x.2 hq];exact h
   ·rename_i he
    rw [if_neg he];exact h
  ·rename_i hd
   rw [if_neg hd]
   cases hq:Zb6 (e :: l) with
   | none=>rw [hq] at h;cases h
   | some x=>
    rw [hq] at h
    have:=Zj3 hc f (e :: l) r (by simp only [List.length_cons];omega) x.1 x.2 hq
    rw [List.cons_append] at this
    rw [this];exact h
theorem Zov (c:UInt8):∀ (f:Nat) (l r:List UInt8),l.length ≤ f→∀ t m,Zb7 l = .inr (t,m)→Zb7 (l ++ c :: r) = .inr (t,m)
 | _,[],_,_,_,_,h=>by cases h
 | _,[d],r,_,t,m,h=>by
  unfold Zb7 at h
  split at h
  ·rename_i hd
   cases h
   subst hd
   show Zb7 (39 :: c :: r)=_
   unfold Zb7
   rw [if_pos rfl]
  ·split at h <;> cases h
 | 0,_ :: _ :: _,_,h,_,_,_=>by simp at h
 | f + 1,d :: e :: l,r,hl,t,m,h=>by
  simp only [List.length_cons] at hl
  show Zb7 (d :: e :: (l ++ c :: r))=_
  unfold Zb7 at h ⊢
  split at h
  ·rename_i hd
   rw [if_pos hd];exact h
  ·rename_i hd
   rw [if_neg hd]
   cases ha:Zir d with
   | none=>rw [ha] at h;cases h
   | some a=>
    cases hb:Zir e with
    | none=>rw [ha,hb] at h;cases h
    | some b=>
     rw [ha,hb] at h
     cases hq:Zb7 l with
     | inl x=>rw [hq] at h;cases h
     | inr x=>rw [hq] at h;rw [Zov c f l r kW x.1 x.2 hq];exact h
theorem kf1 {p:Prop} (h:p:=by
 obtain ⟨cw,cn,cd,cc,c39,c45,ch,c48,_⟩:=Zgi hc
 have htop:Zal (u ++ c :: r)=Zal u:=Zhk hu _
 have hone:u.length=1→Zal ((u ++ c :: r).drop 1)=c:=fun h1=>by
  rcases u with _ | ⟨a,_ | ⟨b,u⟩⟩
  ·cases h1
  ·rfl
  ·simp at h1
 have htwo:1 < u.length→Zal ((u ++ c :: r).drop 1)=Zal (u.drop 1):=fun h1=>Zfo h1 _
 have hlen:1 ≤ u.length:=by cases u with | nil=>exact absurd rfl hu | cons a u=>simp
 unfold Zcx at h ⊢
 rw [htop]
 by_cases h1:Zal u=39
 ·rw [if_pos h1] at h ⊢
  unfold Zcm at h ⊢
  rw [List.drop_append_of_le_length hlen]
  cases hq:Zb6 (u.drop 1) with
  | none=>rw [hq] at h;cases h
  | some x=>
   rw [hq] at h
   rw [Zj3 c39 _ _ r (Nat.le_refl _) x.1 x.2 hq]
   exact h
 rw [if_neg h1] at h ⊢
 by_cases h2:Zal u=120∧Zal (u.drop 1)=39
 ·have hl:1 < u.length:=by
   rcases Nat.lt_or_ge 1 u.length with h3 | h3
   ·exact h3
   ·exfalso
    have:u.drop 1 = []:=List.drop_eq_nil_iff.2 h3
    rw [this] at h2
    exact absurd h2.2 kD
  rw [if_pos h2] at h
  rw [htwo hl,if_pos h2]
  unfold Zb8 at h ⊢
  rw [List.drop_append_of_le_length kW]
  cases hq:Zb7 (u.drop 2) with
  | inl x=>rw [hq] at h;cases h
  | inr x=>
   rw [hq] at h
   rw [Zov c _ _ r (Nat.le_refl _) x.1 x.2 hq]
   exact h
 rw [if_neg h2] at h
 have h2':¬ (Zal u=120∧Zal ((u ++ c :: r).drop 1)=39):=by
  rcases Nat.lt_or_ge 1 u.length with h3 | h3
  ·rw [htwo h3];exact h2
  ·rw [hone kW];exact fun e=>c39 e.2
 rw [if_neg h2']
 by_cases h3:(Zdi (Zal u) || Zf3 (Zal u))=true
 ·rw [if_pos h3] at h ⊢
  unfold Zbu at h ⊢
  rw [htop,Zhz cw,Zhz cn]
  by_cases h4:Zf3 (Zal u)=true
  ·rw [if_pos h4] at h ⊢
   have:=Zat Zbf u
   rw [List.take_append_of_le_length this]
   exact h
  rw [if_neg h4] at h ⊢
  have h5:=Zat Zb0 u
  rw [List.take_append_of_le_length h5]
  have h6:Zf3 (Zal ((u ++ c :: r).drop (Zap Zb0 u)))=Zf3 (Zal (u.drop (Zap Zb0 u))):=by
   rcases Nat.lt_or_ge (Zap Zb0 u) u.length with h7 | h7
   ·rw [Zfo h7]
   ·have h8:Zap Zb0 u=u.length:=kW
    rw [h8,List.drop_length,List.drop_left]
    exact cc
  rw [h6];exact h
 rw [if_neg h3] at h ⊢
 by_cases h4:Zdx (Zal u)=true
 ·rw [if_pos h4] at h ⊢
  unfold Zc2 at h ⊢
  rw [htop,Zhz cd]
  have:=Zat Zdx u
  rw [List.take_append_of_le_length this]
  have h5:Zdx (Zal ((u ++ c :: r).drop 1))=Zdx (Zal (u.drop 1)):=by
   rcases Nat.lt_or_ge 1 u.length with h6 | h6
   ·rw [htwo h6]
   ·rw [hone kW,List.drop_eq_nil_iff.2 h6,cd];decide
  rw [h5];exact h
 rw [if_neg h4] at h ⊢
 unfold Zbm at h ⊢
 rw [htop]
 rcases Nat.lt_or_ge 1 u.length with h6 | h6
 ·rw [List.take_append_of_le_length kW,List.take_append_of_le_length kW];exact h
 obtain ⟨a,rfl⟩:∃ a,u = [a]:=List.length_eq_one_iff.1 kW
 have h7:([a] ++ c :: r).take 2 = [a,c]:=rfl
 have h8:[a,c] ∉ Zf1:=by
  intro e
  have hc2:c ∈ [62,61,124]:=by
   simp [Zf1] at e ⊢
   rcases e with ⟨_,e⟩ | ⟨_,e⟩ | ⟨_,e⟩ | ⟨_,e⟩ <;> simp [e]
  have:∀ k:Fin 256,Zs (UInt8.ofNat k.val)=true→UInt8.ofNat k.val ∉ ([62,61,124]:List UInt8):=by decide +kernel
  have h9:=this ⟨c.toNat,c.toNat_lt⟩
  simp only [UInt8.ofNat_toNat] at h9
  exact h9 hc hc2
 rw [h7,if_neg h8]
 have h9:([a]:List UInt8).take 2 = [a]:=rfl
 have h10:[a] ∉ Zf1:=by simp [Zf1]
 rw [h9,if_neg h10] at h
 exact h):p:=h
theorem Zn8 {u:List UInt8} (hu:u ≠ []) {k n:Nat} {s:List UInt8} (h:Zcx u = .tok k s n u.length) {c:UInt8} (hc:Zs c=true) (r:List UInt8):Zcx (u ++ c :: r) = .tok k s n u.length:=by exact kf1
theorem Zj8 {u:List UInt8} {k n:Nat} {s:List UInt8} (h:Zcx u = .tok k s n u.length):Zs (Zal u)=false:=by
 cases hb:Zs (Zal u) with
 | false=>rfl
 | true=>
  exfalso
  obtain ⟨hw,hn,hd,hc,h39,_⟩:=Zgi hb
  have hs:Zdi (Zal u)=false:=by
   unfold Zbf at hw;cases hs:Zdi (Zal u) with | false=>rfl | true=>rw [hs] at hw;simp at hw
  have h120:Zal u ≠ 120:=by intro e;rw [e] at hb;exact absurd hb kD
  have hm:Zal u ∉ Zfz:=by
   have:∀ k:Fin 256,Zs (UInt8.ofNat k.val)=true→UInt8.ofNat k.val ∉ Zfz:=by decide +kernel
   have h9:=this ⟨(Zal u).toNat,(Zal u).toNat_lt⟩
   simp only [UInt8.ofNat_toNat] at h9
   exact h9 hb
  unfold Zcx at h
  rw [if_neg h39,if_neg (fun e=>h120 e.1),if_neg (by rw [hs,hc];decide),if_neg (by rw [hd];decide)] at h
  unfold Zbm at h
  rw [if_neg hm] at h
  split at h
  ·rename_i ht
   rcases u with _ | ⟨a,_ | ⟨b,u⟩⟩
   ·simp [Zf1] at ht
   ·simp [Zf1] at ht
   ·have ha:a ∈ ([60,62,124]:List UInt8):=by
     simp [Zf1] at ht ⊢
     rcases ht with ⟨e,_⟩ | ⟨e,_⟩ | ⟨e,_⟩ | ⟨e,_⟩ <;> simp [e]
    have:∀ k:Fin 256,Zs (UInt8.ofNat k.val)=true→UInt8.ofNat k.val ∉ ([60,62,124]:List UInt8):=by decide +kernel
    have h9:=this ⟨a.toNat,a.toNat_lt⟩
    simp only [UInt8.ofNat_toNat] at h9
    exact h9 hb ha
  ·cases h
theorem Zli {u:List UInt8} {k n:Nat} {s:List UInt8} (h:Zcx u = .tok k s n u.length):¬ Zcw u:=by
 rintro ⟨h1,h2⟩
 unfold Zcx at h
 rw [h1] at h
 rw [if_neg kD,if_neg (fun e=>absurd e.1 kD),if_neg kD,if_neg kD] at h
 unfold Zbm at h
 rcases u with _ | ⟨a,_ | ⟨b,u⟩⟩
 ·exact absurd h1 kD
 ·exact absurd h2 (by simp [Zal])
 have ha:a=45:=h1
 have hb:b=45:=h2
 subst ha hb
 rw [if_neg (by simp [Zf1])] at h
 split at h
 ·have:=congrArg (fun x=>match x with | One.tok _ _ _ m=>m | One.bad _ _=>0) h
  simp at this
 cases h
theorem skip_tok {u:List UInt8} (_hu:u ≠ []) {k n:Nat} {s:List UInt8} (h:Zcx u = .tok k s n u.length):Zr u=0:=skip_none (Zj8 h) (Zli h)
theorem Zgr {u:List UInt8} (hu:u ≠ []) {k n:Nat} {s:List UInt8} (h:Zcx u = .tok k s n u.length) {c:UInt8} (hc:Zs c=true) (r:List UInt8):Zr (u ++ c :: r)=0:=by
 refine skip_none (by rw [Zhk hu];exact Zj8 h) ?_
 rintro ⟨h1,h2⟩
 rw [Zhk hu] at h1
 rcases u with _ | ⟨a,_ | ⟨b,u⟩⟩
 ·exact hu rfl
 ·have:c=45:=h2
  exact (Zgi hc).2.2.2.2.2.1 this
 exact Zli h ⟨h1,h2⟩
def Gap (g:List UInt8):Prop:=∀ r,Zr (g ++ r)=g.length + Zr r
theorem gap_nil:Gap []:=fun r=>by simp
theorem Zvq {c:UInt8} (h:Zs c=true):Gap [c]:=fun r=>by
 show Zr (c :: r)=_
 rw [Zfa h];simp only [List.length_cons,List.length_nil];omega
def glue:List (List UInt8 × Tk)→List UInt8
 | []=>[]
 | x :: l=>x.1 ++ (Zak x.2 ++ glue l)
def Zhu (x y:Tk):Prop:=x.k=y.k∧x.s=y.s∧x.n=y.n
def Zky:List Tk→List Tk→Prop
 | [],[]=>True
 | x :: l,y :: m=>Zhu x y∧Zky l m
 | _,_=>False
theorem Ztt:∀ (l:List (List UInt8 × Tk)) (b:Nat),(∀ x ∈ l,okT x.2∧Gap x.1)→(∀ x ∈ l.tail,Zs (Zal x.1)=true∧x.1 ≠ [])→∃ m,tk b (glue l) = .inr m∧Zky m (l.map (·.2))
 | [],b,_,_=>⟨[],rfl,trivial⟩
 | x :: l,b,h1,h2=>by
  obtain ⟨⟨hne,_,ho⟩,hg⟩:=h1 x kY
  obtain ⟨m,hm,hs⟩:=Ztt l (b + x.1.length + (Zak x.2).length) (fun y hy=>h1 y Zrd) (fun y hy=>h2 y (List.mem_of_mem_tail hy))
  have hsk:Zr (Zak x.2 ++ glue l)=0∧Zcx (Zak x.2 ++ glue l) = .tok x.2.k x.2.s.data.toList x.2.n (Zak x.2).length∧Zbf (Zal (glue l))=false:=by
   cases l with
   | nil=>
    show Zr (Zak x.2 ++ [])=0∧Zcx (Zak x.2 ++ [])=_∧_
    rw [List.append_nil]
    exact ⟨skip_tok hne ho,ho,by decide⟩
   | cons y l=>
    obtain ⟨hb,hy⟩:=h2 y kY
    obtain ⟨c,g,hcg⟩:∃ c g,y.1=c :: g:=by cases hy':y.1 with | nil=>exact absurd hy' hy | cons c g=>exact ⟨c,g,rfl⟩
    have e:glue (y :: l)=c :: (g ++ (Zak y.2 ++ glue l)):=by show y.1 ++ _=_;rw [hcg];rfl
    rw [hcg] at hb
    have hc:Zs c=true:=hb
    rw [e]
    exact ⟨Zgr hne ho hc _,Zn8 hne ho hc _,(Zgi hc).1⟩
  have e:glue (x :: l)=x.1 ++ (Zak x.2 ++ glue l):=rfl
  refine ⟨⟨x.2.k,⟨x.2.s.data.toList.toArray⟩,x.2.n,((b + x.1.length:Nat):Int)⟩ :: m,?_,⟨⟨rfl,ByteArray.ext (Array.toArray_toList),rfl⟩,hs⟩⟩
  rw [e,Zgx,hg,hsk.1,Nat.add_zero,List.drop_left,Zjl (by simp [hne]) hsk.1]
  unfold stepT
  rw [hsk.2.1]
  simp only
  rw [if_neg (by rw [List.drop_left,hsk.2.2];simp),List.drop_left,hm]
theorem Zip:∀ (s:List UInt8),Zb6 (Zc0 s ++ [39])=some (s,(Zc0 s).length + 1)
 | []=>rfl
 | c :: s=>by
  have ih:=Zip s
  unfold Zc0
  by_cases hc:c=39
  ·subst hc
   rw [if_pos rfl]
   show Zb6 (39 :: 39 :: (Zc0 s ++ [39]))=_
   unfold Zb6
   rw [if_pos rfl,if_pos rfl,ih]
   rfl
  ·rw [if_neg hc]
   obtain ⟨d,r,hr⟩:∃ d r,Zc0 s ++ [39]=d :: r:=by cases h:Zc0 s with | nil=>exact ⟨39,[],rfl⟩ | cons d r=>exact ⟨d,r ++ [39],rfl⟩
   show Zb6 (c :: (Zc0 s ++ [39]))=_
   rw [hr]
   unfold Zb6
   rw [if_neg hc,← hr,ih]
   rfl
theorem hex_ne (n:Nat) (h:n < 16):Zge n ≠ 39:=by
 have:∀ k:Fin 16,Zge k.val ≠ 39:=by decide +kernel
 exact this ⟨n,h⟩
theorem Zmq:∀ (s:List UInt8),Zb7 (Zlm s ++ [39]) = .inr (s,(Zlm s).length + 1)
 | []=>rfl
 | c :: s=>by
  have ih:=Zmq s
  have h1:c.toNat / 16 < 16:=by have:=c.toNat_lt;omega
  have h2:c.toNat % 16 < 16:=kW
  show Zb7 (Zge (c.toNat / 16) :: Zge (c.toNat % 16) :: (Zlm s ++ [39]))=_
  unfold Zb7
  rw [if_neg (hex_ne _ h1),Zog _ h1,Zog _ h2]
  simp only [ih]
  have e:UInt8.ofNat (16 * (c.toNat / 16) + c.toNat % 16)=c:=by rw [Nat.div_add_mod,UInt8.ofNat_toNat]
  rw [e]
  rfl
theorem Zh0 {p:UInt8→Bool} {l:List UInt8} (h:∀ c ∈ l,p c=true):Zap p l=l.length:=by
 have:=Zmi (m:=[]) h
 rw [List.append_nil] at this
 rw [this];rfl
theorem Zwf (l:List UInt8):Zal (l.drop l.length)=0:=by rw [List.drop_length];rfl
theorem Zd2 {l:List UInt8} {n:Nat} (h:n ≤ l.length):(l.take n).length=n:=by rw [List.length_take];omega
theorem Znm {l:List UInt8} {n:Nat} (h:0 < n):Zal (l.take n)=Zal l:=by
 cases l with
 | nil=>simp
 | cons c l=>cases n with | zero=>omega | succ n=>rfl
theorem Zg6:∀ (l:List UInt8) (acc n:Nat),Zmv acc l=some n→∀ c ∈ l,Zdx c=true
 | [],_,_,_,c,h=>by simp at h
 | d :: l,acc,n,h,c,hc=>by
  unfold Zmv at h
  split at h
  ·rename_i hd
   rcases List.mem_cons.1 hc with rfl | hc
   ·unfold Zdx;exact decide_eq_true hd
   ·exact Zg6 l _ n h c hc
  ·cases h
theorem one_ok {l:List UInt8} (hl:l ≠ []) {k n m:Nat} {s:List UInt8} (h:Zcx l = .tok k s n m) (a:Int):okT ⟨k,⟨s.toArray⟩,n,a⟩∧n ≤ 9223372036854775808∧1 ≤ k∧k ≤ 6:=by
 have hsz:(⟨s.toArray⟩:ByteArray).size=s.length:=rfl
 have hsl:(⟨s.toArray⟩:ByteArray).data.toList=s:=rfl
 unfold Zcx at h
 split at h
 ·unfold Zcm at h
  split at h
  ·cases h
  split at h
  ·cases h
  rename_i t m' hq hlen
  cases h
  have e:Zak ⟨4,⟨s.toArray⟩,0,a⟩=39 :: (Zc0 s ++ [39]):=Zl7 rfl
  refine ⟨⟨by rw [e];simp,by show s.length ≤ 1000;omega,?_⟩,by decide,by decide,by decide⟩
  rw [e]
  unfold Zcx
  rw [if_pos (show Zal (39 :: _)=39 from rfl)]
  unfold Zcm
  rw [List.drop_succ_cons,List.drop_zero,Zip]
  simp only
  rw [if_neg hlen]
  simp
 split at h
 ·unfold Zb8 at h
  split at h
  ·cases h
  split at h
  ·cases h
  rename_i t m' hq hlen
  cases h
  have e:Zak ⟨5,⟨s.toArray⟩,0,a⟩=120 :: 39 :: (Zlm s ++ [39]):=Zl6 rfl
  refine ⟨⟨by rw [e];simp,by show s.length ≤ 1000;omega,?_⟩,by decide,by decide,by decide⟩
  rw [e]
  unfold Zcx
  rw [if_neg (show ¬ Zal (120 :: _)=39 by simp [Zal]),if_pos ⟨rfl,rfl⟩]
  unfold Zb8
  rw [List.drop_succ_cons,List.drop_succ_cons,List.drop_zero,Zmq]
  simp only
  rw [if_neg hlen]
  simp
 split at h
 ·rename_i h39 h120 hc
  unfold Zbu at h
  obtain ⟨c,l,rfl⟩:∃ c l',l=c :: l':=by cases l with | nil=>exact absurd rfl hl | cons c l=>exact ⟨c,l,rfl⟩
  have hc':(Zdi c || Zf3 c)=true:=hc
  have h39':c ≠ 39:=h39
  split at h
  ·rename_i hcap
   have hcap':Zf3 c=true:=hcap
   have hw:Zbf c=true:=by unfold Zbf;rw [hcap'];simp
   have h3:0 < Zap Zbf (c :: l):=by rw [Zbe hw];omega
   split at h
   ·rename_i hmem
    cases h
    have htop:Zal ((c :: l).take (Zap Zbf (c :: l)))=c:=Znm h3
    have hlen:=Zd2 (Zat Zbf (c :: l))
    have hall:=Zi9 (p:=Zbf) (c :: l)
    have hfull:=Zh0 hall
    generalize (c :: l).take (Zap Zbf (c :: l))=t at *
    have e:Zak ⟨1,⟨t.toArray⟩,0,a⟩=t:=Zey (.inl rfl)
    have hw32:∀ x ∈ Zb2,x.length ≤ 1000:=by decide +kernel
    refine ⟨⟨by rw [e];rintro rfl;simp at hlen;omega,by show t.length ≤ 1000;exact hw32 t hmem,?_⟩,by decide,by decide,by decide⟩
    rw [e]
    unfold Zcx
    rw [htop,if_neg h39',if_neg (fun x=>by have h1:c=120:=x.1;rw [h1] at hcap';exact absurd hcap' kD),if_pos hc']
    unfold Zbu
    rw [htop,if_pos hcap',hfull,List.take_length,if_pos hmem]
   cases h
  rename_i hcap
  have hcap':Zf3 c=false:=by simpa [Zal] using hcap
  have hw:Zb0 c=true:=by
   rw [hcap',Bool.or_false] at hc'
   unfold Zb0 Zbf;rw [hcap',hc'];rfl
  have h3:0 < Zap Zb0 (c :: l):=by rw [Zbe hw];omega
  split at h
  ·cases h
  split at h
  ·cases h
  rename_i h32
  cases h
  have htop:Zal ((c :: l).take (Zap Zb0 (c :: l)))=c:=Znm h3
  have hlen:=Zd2 (Zat Zb0 (c :: l))
  have hall:=Zi9 (p:=Zb0) (c :: l)
  have hfull:=Zh0 hall
  have h1t:∀ d,Zal (((c :: l).take (Zap Zb0 (c :: l))).drop 1)=d→d ≠ 0→Zb0 d=true:=by
   intro d hd hd0
   rcases hx:(c :: l).take (Zap Zb0 (c :: l)) with _ | ⟨x,_ | ⟨y,t⟩⟩
   ·rw [hx] at hd;exact absurd hd.symm hd0
   ·rw [hx] at hd;exact absurd hd.symm hd0
   ·rw [hx] at hd hall
    have:y=d:=hd
    rw [← this];exact hall y kY
  generalize (c :: l).take (Zap Zb0 (c :: l))=t at *
  have e:Zak ⟨2,⟨t.toArray⟩,0,a⟩=t:=Zey (.inr (.inl rfl))
  refine ⟨⟨by rw [e];rintro rfl;simp at hlen;omega,by show t.length ≤ 1000;omega,?_⟩,by decide,by decide,by decide⟩
  rw [e]
  unfold Zcx
  rw [htop,if_neg h39',if_neg (fun x=>by have h1:=h1t 39 x.2 kD;exact absurd h1 kD),if_pos hc']
  unfold Zbu
  rw [htop,if_neg (show ¬ Zf3 c=true by rw [hcap'];decide),hfull,Zwf,List.take_length,if_neg kD,if_neg kW]
 split at h
 ·unfold Zc2 at h
  split at h
  ·cases h
  split at h
  ·cases h
  split at h
  ·cases h
  rename_i n' hd hn
  cases h
  have e:Zak ⟨3,⟨([]:List UInt8).toArray⟩,n,a⟩=decDigits n:=Zik rfl
  have hdd:=Zmu n
  have hne:=Zlq n
  have hall:=Zg6 _ _ _ hdd
  have hfull:=Zh0 hall
  obtain ⟨c,hc,hc1,hc2⟩:=Zgv n
  have htop:Zal (decDigits n)=c:=by
   cases hx:decDigits n with
   | nil=>exact absurd hx hne
   | cons x y=>rw [hx] at hc;simpa [Zal] using hc
  have hcd:Zdx c=true:=by unfold Zdx;exact decide_eq_true ⟨hc1,hc2⟩
  have hcs:Zdi c=false∧Zf3 c=false:=by
   unfold Zdi Zf3;exact ⟨decide_eq_false kW,decide_eq_false kW⟩
  have hn0:¬ (Zal (decDigits n)=48∧Zdx (Zal ((decDigits n).drop 1))=true):=by
   rintro ⟨h1,h2⟩
   rcases Nat.lt_or_ge 0 n with h3 | h3
   ·have:=Zrq n h3
    rw [hc] at this
    rw [htop] at h1
    exact this (by rw [h1])
   ·have h4:n=0:=kW
    subst h4
    rw [Zet kW] at h2
    exact absurd h2 kD
  refine ⟨⟨by rw [e];exact hne,by show (0:Nat) ≤ 1000;omega,?_⟩,by omega,by decide,by decide⟩
  rw [e]
  unfold Zcx
  rw [htop,if_neg (by rintro rfl;exact absurd hc1 kD),if_neg (fun x=>by have:=x.1;subst this;exact absurd hc2 kD),if_neg (by rw [hcs.1,hcs.2];decide),if_pos hcd]
  unfold Zc2
  rw [if_neg hn0,hfull,List.take_length,hdd]
  simp only
  rw [if_neg hn]
 rename_i h39 h120 hsm hdg
 unfold Zbm at h
 split at h
 ·rename_i ht
  cases h
  have h2:(l.take 2).take 2=l.take 2:=by rw [List.take_take];rfl
  generalize l.take 2=t at *
  have e:Zak ⟨6,⟨t.toArray⟩,0,a⟩=t:=Zey (.inr (.inr rfl))
  have hl2:∀ x ∈ Zf1,x ≠ []∧x.length ≤ 1000∧Zcx x = .tok 6 x 0 x.length:=by decide +kernel
  have:=hl2 t ht
  exact ⟨⟨by rw [e];exact this.1,this.2.1,by rw [e];exact this.2.2⟩,by decide,by decide,by decide⟩
 split at h
 ·rename_i ht
  cases h
  obtain ⟨c,l,rfl⟩:∃ c l',l=c :: l':=by cases l with | nil=>exact absurd rfl hl | cons c l=>exact ⟨c,l,rfl⟩
  have hc:c ∈ Zfz:=ht
  have e:Zak ⟨6,⟨((c :: l).take 1).toArray⟩,0,a⟩ = [c]:=Zey (.inr (.inr rfl))
  have hl2:∀ x ∈ Zfz,Zcx [x] = .tok 6 [x] 0 1:=by decide +kernel
  exact ⟨⟨by rw [e];simp,by show 1 ≤ 1000;omega,by rw [e];exact hl2 c hc⟩,by decide,by decide,by decide⟩
 cases h
theorem tk_ok:∀ (f:Nat) (b:Nat) (l:List UInt8),l.length ≤ f→∀ ts,tk b l = .inr ts→∀ t ∈ ts,okT t∧t.n ≤ 9223372036854775808∧1 ≤ t.k∧t.k ≤ 6
 | f,b,l,hf,ts,h,t,hi=>by
  rw [Zl5] at h
  have h3:=Zez _ l (Nat.le_refl _)
  by_cases hn:l.drop (Zr l) = []
  ·rw [if_pos hn] at h;cases h;simp at hi
  ·rw [if_neg hn] at h
   unfold stepT at h
   cases ho:Zcx (l.drop (Zr l)) with
   | bad e' m=>rw [ho] at h;cases h
   | tok k s n m=>
    rw [ho] at h
    have:=Zg2 hn ho
    simp only [List.length_drop] at this
    simp only at h
    split at h
    ·cases h
    ·cases hr:tk (b + Zr l + m) ((l.drop (Zr l)).drop m) with
     | inl x=>rw [hr] at h;cases h
     | inr t'=>
      rw [hr] at h
      cases h
      rcases List.mem_cons.1 hi with rfl | hi
      ·exact one_ok hn ho _
      ·match f,hf with
       | 0,hf=>omega
       | f + 1,hf=>exact tk_ok f _ _ kb72 t' hr t hi
instance (t:Tk):Decidable (okT t):=by unfold okT;exact inferInstance
def Zb1 (l:List Tk):List UInt8 × Nat:=if ∀ t ∈ l,okT t then (joinL (l.map Zak),0) else ([],2)
theorem Zok:∀ (l:List Tk) (x:Tk),joinL ((x :: l).map Zak)=glue (([],x) :: l.map fun t=>([32],t))
 | [],x=>by show Zak x = [] ++ (Zak x ++ []);simp
 | y :: l,x=>by
  have ih:=Zok l y
  show Zak x ++ 32 :: joinL ((y :: l).map Zak) = [] ++ (Zak x ++ ([32] ++ (Zak y ++ glue (l.map fun t=>([32],t)))))
  rw [ih];rfl
theorem snd_map (l:List Tk) (g:List UInt8):(l.map fun t=>(g,t)).map (·.2)=l:=by
 induction l with | nil=>rfl | cons x l ih=>simp only [List.map_cons,ih]
theorem Zk5 {l:List Tk} (h:∀ t ∈ l,okT t):∃ m,tk 0 (joinL (l.map Zak)) = .inr m∧Zky m l:=by
 cases l with
 | nil=>exact ⟨[],rfl,trivial⟩
 | cons x l=>
  rw [Zok]
  obtain ⟨m,hm,hs⟩:=Ztt (([],x) :: l.map fun t=>([32],t)) 0
   (by
    intro y hy
    rcases List.mem_cons.1 hy with rfl | hy
    ·exact ⟨h x kY,gap_nil⟩
    ·obtain ⟨t,ht,rfl⟩:=List.mem_map.1 hy
     exact ⟨h t (by simp [ht]),Zvq kD⟩)
   (by
    intro y hy
    obtain ⟨t,ht,rfl⟩:=List.mem_map.1 hy
    exact ⟨show Zs 32=true by decide,by simp⟩)
  refine ⟨m,hm,?_⟩
  have:(([],x) :: l.map fun t=>(([32]:List UInt8),t)).map (·.2)=x :: l:=by
   rw [List.map_cons,snd_map]
  rw [this] at hs
  exact hs
end Go.Proofs.YtmdogmpcmkfjpaaGreatDoor.Dt
namespace Go.Proofs.YtmdogmpcmkfjpaaGreatDoor.By
open Go.RowKit
section
variable {P:Program} {ops:Array Oper} {md:Region.Mode} {Q:Exit→Act→World→Prop}
theorem Zd4 {done:Array Bool} {i:Nat} (h:i ∈ Region.ready md ops done):∃ hi:i < done.size,done[i]=false:=by
 have h1:=(mem_ready.1 h).1
 rcases Nat.lt_or_ge i done.size with hi | hi
 ·refine ⟨hi,?_⟩
  simpa [hi] using h1
 simp [Array.getElem?_eq_none hi] at h1
theorem Zgw {done:Array Bool} {i:Nat} (hi:i < done.size) (h:done[i]=false):(done.setIfInBounds i true).toList.count false + 1=done.toList.count false:=by
 rw [Array.toList_setIfInBounds,List.count_set (by simpa using hi)]
 have hpos:0 < done.toList.count false:=List.count_pos_iff.2 (by
  rw [← h]
  simp)
 have e:(done.toList[i]'(by simpa using hi) == false)=true:=by simp [h]
 rw [if_pos e,if_neg kD]
 omega
theorem Zti {I:Array Bool→Act→World→Prop}
 (hstep:∀ done a w i,done.size=ops.size→I done a w→i ∈ Region.ready md ops done→wpOp P ops Q i (I (done.setIfInBounds i true)) a w)
 (hend:∀ done a w,done.size=ops.size→I done a w→Region.ready md ops done = []→Q .normal a w) :
 ∀ (fuel:Nat) (done:Array Bool) (a:Act) (w:World),done.size=ops.size→done.toList.count false ≤ fuel→I done a w→wpAny P md ops Q fuel done a w:=by
 intro fuel
 induction fuel with
 | zero=>
  intro done a w hs hc hI
  have hr:Region.ready md ops done = []:=by
   cases hq:Region.ready md ops done with
   | nil=>rfl
   | cons i l=>
    exfalso
    obtain ⟨hi,h⟩:=Zd4 (md:=md) (ops:=ops) (done:=done) (i:=i) (by rw [hq];exact List.mem_cons_self)
    have:=Zgw hi h
    omega
  exact ⟨hr,hend done a w hs hI hr⟩
 | succ fuel ih=>
  intro done a w hs hc hI
  refine ⟨fun hr=>hend done a w hs hI hr,fun i hi=>?_⟩
  obtain ⟨hlt,h⟩:=Zd4 hi
  have hcnt:=Zgw hlt h
  exact wpOp_mono (fun a' w' hI'=>ih _ a' w' (by simpa using hs) kW hI') (hstep done a w i hs hI hi)
end
theorem Zha {P:Program} {id:Nat} {Q:Exit→Act→World→Prop} {a:Act} {w:World} {ops:Array Oper} (hm:P.follows .mixedOrders=true) (I:Array Bool→Act→World→Prop)
 (h0:I (Array.replicate ops.size false) a w.drew)
 (hstep:∀ done a w i,done.size=ops.size→I done a w→i ∈ Region.ready .any ops done→wpOp P ops Q i (I (done.setIfInBounds i true)) a w)
 (hend:∀ done a w,done.size=ops.size→I done a w→Region.ready .any ops done = []→Q .normal a w):(Code.region id ops true).wp P Q a w:=
 wp_region_any hm (Zti hstep hend ops.size _ a _ kY (by
  rw [Array.toList_replicate]
  exact Nat.le_trans (List.count_le_length) kY) h0)
end Go.Proofs.YtmdogmpcmkfjpaaGreatDoor.By
