import Derived.Test.YtmdogmpcmkfjpaaGreatDoorBq03
import Derived.Test.YtmdogmpcmkfjpaaGreatDoorBq02
set_option maxRecDepth 100000
set_option maxHeartbeats 64000000
/- Part. -/
namespace Go.Proofs.YtmdogmpcmkfjpaaGreatDoor.Dt
open Go.Lib
set_option linter.unusedVariables false
section
variable {L:List Tk} {en:Int}
theorem Zci {α β:Type} {p p':Rd α} {q q':α→Rd β} {s:PS} (h1:p s=p' s) (h2:q (p s).1 (p s).2=q' (p s).1 (p s).2):bnd p q s=bnd p' q' s:=by
 show q (p s).1 (p s).2=q' (p' s).1 (p' s).2
 rw [← h1,h2]
theorem Zh5 {t:ByteArray} {s:PS} (h:(isM L en t s).1=true):(isM L en t s).2=s.next∧s.k < L.length:=by
 have hb:isB L en t s=true:=h
 refine ⟨by unfold isM;rw [hb];rfl,Zf8 (L:=L) (en:=en) ?_⟩
 have:=(Ze1.1 hb).2.1
 omega
theorem Zh4 {t:ByteArray} {s:PS} (h:(isM L en t s).1=false):(isM L en t s).2=s:=by
 have hb:isB L en t s=false:=h
 unfold isM;rw [hb];rfl
theorem Zd5:∀ (l:List (ByteArray × Nat)) (s:PS),oneOf L en l s=(none,s) ∨ ∃ o,oneOf L en l s=(some o,s.next)∧s.k < L.length
 | [],s=>.inl rfl
 | x :: l,s=>by
  show (if (isM L en x.1 s).1 then ret (some x.2) else oneOf L en l) (isM L en x.1 s).2=(none,s) ∨ ∃ o,(if (isM L en x.1 s).1 then ret (some x.2) else oneOf L en l) (isM L en x.1 s).2=(some o,s.next)∧_
  cases hb:(isM L en x.1 s).1 with
  | true=>
   obtain ⟨h1,h2⟩:=Zh5 hb
   exact .inr ⟨x.2,by rw [h1];rfl,h2⟩
  | false=>
   rw [Zh4 hb]
   exact Zd5 l s
def Same (L:List Tk) {α:Type} (j:Nat) (p p':Rd α):Prop:=∀ s,j ≤ s.k→s.k ≤ L.length→p s=p' s
theorem Same.mono {α:Type} {i j:Nat} {p p':Rd α} (h:Same L i p p') (hij:i ≤ j):Same L j p p':=fun s h1 h2=>h s (Nat.le_trans hij h1) h2
theorem Zlu (ops:List (ByteArray × Nat)) {one one':Rd PE} (hs:Sim L en L en 0 one one):∀ (f g:Nat) (x:PE) (s:PS),s.k ≤ L.length→L.length - s.k < f→L.length - s.k < g→Same L (s.k + 1) one one'→chainM L en ops one f x s=chainM L en ops one' g x s
 | 0,_,_,_,_,h,_,_=>by omega
 | _,0,_,_,_,_,h,_=>by omega
 | f + 1,g + 1,x,s,hk,hf,hg,ho=>by
  refine Zci rfl ?_
  rcases Zd5 (L:=L) (en:=en) ops s with h | ⟨o,h,hlt⟩
  ·rw [h]
  ·rw [h]
   have h1:=ho s.next (Nat.le_refl _) hlt
   show bnd one (fun y=>chainM L en ops one f (.node o [x,y])) s.next=bnd one' (fun y=>chainM L en ops one' g (.node o [x,y])) s.next
   refine Zci h1 ?_
   have hm:s.k + 1 ≤ (one s.next).2.k:=(hs.mono s.next).1
   have hle:=hs.le s.next hlt
   exact Zlu ops hs f g _ _ hle kW kW (ho.mono kW)
theorem Zg8 (ops:List (ByteArray × Nat)) {one one':Rd PE} (hs:Sim L en L en 0 one one) {f g:Nat} {s:PS} (hk:s.k ≤ L.length) (hf:L.length - s.k < f) (hg:L.length - s.k < g) (ho:Same L s.k one one'):chainL L en ops one f s=chainL L en ops one' g s:=by
 refine Zci (ho s (Nat.le_refl _) hk) ?_
 have hm:=(hs.mono s).1
 exact Zlu ops hs f g _ _ (hs.le s hk) kW kW (ho.mono kW)
def lvl:Md→Nat
 | .expr=>8
 | .not=>7
 | .sum k=>if k=0 then 6 else if k=1 then 5 else if k=2 then 4 else 3
 | .unary=>2
 | .prim=>1
theorem Zwe:∀ (f g:Nat) (m:Md) (s:PS),s.k ≤ L.length→9 * (L.length - s.k) + lvl m ≤ f→9 * (L.length - s.k) + lvl m ≤ g→(∀ k,m = .sum k→k ≤ 3)→exF L en f m s=exF L en g m s
 | 0,_,m,_,_,h,_,_=>by
  have:1 ≤ lvl m:=by cases m <;> simp [lvl];split <;> (try split) <;> (try split) <;> omega
  omega
 | _,0,m,_,_,_,h,_=>by
  have:1 ≤ lvl m:=by cases m <;> simp [lvl];split <;> (try split) <;> (try split) <;> omega
  omega
 | f + 1,g + 1,m,s,hk,hf,hg,hm=>by
  have ih:=fun (m':Md) (s':PS) (h1:s'.k ≤ L.length) (h2:9 * (L.length - s'.k) + lvl m' < 9 * (L.length - s.k) + lvl m) (h3:∀ k,m' = .sum k→k ≤ 3)=>Zwe f g m' s' h1 kW kW h3
  cases m with
  | expr=>
   simp only [lvl] at ih hf hg
   have hnot:Same L s.k (exF L en f .not) (exF L en g .not):=fun s' h1 h2=>ih .not s' h2 kb54 (fun k h=>by cases h)
   refine Zg8 _ (Sim.chainL _ kD (Sim.exF f .not) f) hk kW kW (fun s' h1 h2=>?_)
   exact Zg8 _ (Sim.exF f .not) h2 kW kW (hnot.mono h1)
  | not=>
   simp only [lvl] at ih hf hg
   refine Zci rfl ?_
   cases hb:(isM L en Zfx s).1 with
   | true=>
    obtain ⟨h1,h2⟩:=Zh5 hb
    rw [h1]
    simp only [if_true]
    exact Zci (ih .not s.next h2 kb54 (fun k h=>by cases h)) rfl
   | false=>
    rw [Zh4 hb]
    simp only [Bool.false_eq_true,if_false]
    have h0:=ih (.sum 0) s hk (by simp only [if_true];omega) (fun k h=>by cases h;omega)
    refine Zci h0 ?_
    have hle:=(Sim.exF (L:=L) (L':=L) (en:=en) (en':=en) (d:=0) f (.sum 0)).le s hk
    have hmo:=((Sim.exF (L:=L) (L':=L) (en:=en) (en':=en) (d:=0) f (.sum 0)).mono s).1
    generalize exF L en f (.sum 0) s=r at *
    refine Zci rfl ?_
    cases hi:(isM L en WIS r.2).1 with
    | true=>rfl
    | false=>
     rw [Zh4 hi]
     simp only [Bool.false_eq_true,if_false]
     refine Zci rfl ?_
     rcases Zd5 (L:=L) (en:=en) Zkt r.2 with h | ⟨o,h,hlt⟩
     ·rw [h]
     ·rw [h]
      exact Zci (ih (.sum 0) r.2.next hlt (by simp only [if_true];omega) (fun k h=>by cases h;omega)) rfl
  | sum k=>
   have hk3:=hm k rfl
   show (if k=3 then exF L en f .unary else chainL L en (opsOf k) (exF L en f (.sum (k + 1))) f) s=(if k=3 then exF L en g .unary else chainL L en (opsOf k) (exF L en g (.sum (k + 1))) g) s
   by_cases h3:k=3
   ·subst h3
    rw [if_pos rfl,if_pos rfl]
    exact ih .unary s hk (by simp [lvl]) (fun k h=>by cases h)
   ·rw [if_neg h3,if_neg h3]
    have hl:lvl (.sum (k + 1)) < lvl (.sum k)∧4 ≤ lvl (.sum k):=by
     rcases (by omega:k=0 ∨ k=1 ∨ k=2) with h | h | h <;> subst h <;> simp [lvl]
    refine Zg8 _ (Sim.exF f _) hk kW kW (fun s' h1 h2=>ih _ s' h2 kW (fun k' h=>by cases h;omega))
  | unary=>
   simp only [lvl] at ih hf hg
   refine Zci rfl ?_
   cases hb:(isM L en Zad s).1 with
   | true=>
    obtain ⟨h1,h2⟩:=Zh5 hb
    rw [h1]
    simp only [if_true]
    refine Zci rfl ?_
    have hle:=(Sim.negM (L:=L) (L':=L) (en:=en) (en':=en) (d:=0)).le s.next h2
    have hmo:=((Sim.negM (L:=L) (L':=L) (en:=en) (en':=en) (d:=0)).mono s.next).1
    generalize negM L en s.next=r at *
    obtain ⟨r1,r2⟩:=r
    cases r1 with
    | some n=>rfl
    | none=>
     simp only at hle hmo
     exact Zci (ih .unary r2 hle kb54 (fun k h=>by cases h)) rfl
   | false=>
    rw [Zh4 hb]
    simp only [Bool.false_eq_true,if_false]
    exact ih .prim s hk kb54 (fun k h=>by cases h)
  | prim=>
   simp only [lvl] at ih hf hg
   refine Zci rfl ?_
   have hle:=(Sim.litM (L:=L) (L':=L) (en:=en) (en':=en) (d:=0)).le s hk
   have hmo:=((Sim.litM (L:=L) (L':=L) (en:=en) (en':=en) (d:=0)).mono s).1
   generalize litM L en s=r at *
   obtain ⟨r1,s1⟩:=r
   simp only at hle hmo
   cases r1 with
   | some x=>rfl
   | none=>
    refine Zci rfl ?_
    have hle2:=(Sim.nameQ (L:=L) (L':=L) (en:=en) (en':=en) (d:=0)).le s1 hle
    have hmo2:=((Sim.nameQ (L:=L) (L':=L) (en:=en) (en':=en) (d:=0)).mono s1).1
    generalize nameQ L en s1=r at *
    obtain ⟨r1,s2⟩:=r
    simp only at hle2 hmo2
    cases r1 with
    | some t=>rfl
    | none=>
     refine Zci rfl ?_
     cases hn:(isM L en Zbr s2).1 with
     | true=>rfl
     | false=>
      rw [Zh4 hn]
      simp only [Bool.false_eq_true,if_false]
      refine Zci rfl ?_
      cases ho:(isM L en Z9 s2).1 with
      | true=>
       obtain ⟨h1,h2⟩:=Zh5 ho
       rw [h1]
       simp only [if_true]
       exact Zci (ih .expr s2.next h2 kb54 (fun k h=>by cases h)) rfl
      | false=>
       rw [Zh4 ho]
       simp only [Bool.false_eq_true,if_false]
       refine Zci rfl ?_
       cases hc:(isM L en Za7 s2).1 with
       | true=>
        obtain ⟨h1,h2⟩:=Zh5 hc
        rw [h1]
        simp only [if_true]
        refine Zci rfl ?_
        have hle3:=(Sim.mustM (L:=L) (L':=L) (en:=en) (en':=en) (d:=0) [Z9]).le s2.next h2
        have hmo3:=((Sim.mustM (L:=L) (L':=L) (en:=en) (en':=en) (d:=0) [Z9]).mono s2.next).1
        generalize mustM L en [Z9] s2.next=r at *
        obtain ⟨r1,s3⟩:=r
        simp only at hle3 hmo3
        refine Zci rfl ?_
        cases hst:(isM L en Zao s3).1 with
        | true=>rfl
        | false=>
         rw [Zh4 hst]
         simp only [Bool.false_eq_true,if_false]
         exact Zci (ih .expr s3 hle3 kb54 (fun k h=>by cases h)) rfl
       | false=>
        rw [Zh4 hc]
        simp only [Bool.false_eq_true,if_false]
        refine Zci rfl ?_
        rcases Zd5 (L:=L) (en:=en) groups s2 with h | ⟨o,h,hlt⟩
        ·rw [h]
        ·rw [h]
         refine Zci rfl ?_
         have hle3:=(Sim.mustM (L:=L) (L':=L) (en:=en) (en':=en) (d:=0) [Z9]).le s2.next hlt
         have hmo3:=((Sim.mustM (L:=L) (L':=L) (en:=en) (en':=en) (d:=0) [Z9]).mono s2.next).1
         generalize mustM L en [Z9] s2.next=r at *
         obtain ⟨r1,s3⟩:=r
         simp only at hle3 hmo3
         exact Zci (ih .expr s3 hle3 kb54 (fun k h=>by cases h)) rfl
end
theorem one_nl {u:List UInt8} (hu:u ≠ []) {k n m:Nat} {s:List UInt8} (h:Zcx u = .tok k s n m) {c:UInt8} (hc:Zs c=true) (r:List UInt8):Zcx (u ++ c :: r) = .tok k s n m:=by exact kf1
theorem word_nl {u:List UInt8} {m:Nat} (hm:m ≤ u.length) (r:List UInt8):Zbf (Zal ((u ++ 10 :: r).drop m))=Zbf (Zal (u.drop m)):=by
 rcases Nat.lt_or_ge m u.length with h | h
 ·rw [Zfo h]
 obtain rfl:m=u.length:=kW
 rw [List.drop_left,List.drop_length]
 show Zbf (10:UInt8)=Zbf (0:UInt8)
 decide
theorem Zoo {l:List UInt8} (hl:l ≠ []) (r:List UInt8):Zcw (l ++ 10 :: r) ↔ Zcw l:=by
 unfold Zcw
 rw [Zhk hl]
 rcases l with _ | ⟨a,_ | ⟨b,l⟩⟩
 ·exact absurd rfl hl
 ·constructor
  ·rintro ⟨_,h⟩;exact absurd h (by show ¬ (10:UInt8)=45;decide)
  rintro ⟨_,h⟩;exact absurd h (by show ¬ (0:UInt8)=45;decide)
 exact Iff.rfl
theorem Zjz {p:UInt8→Bool} {l:List UInt8} (h:Zap p l=l.length) (r:List UInt8):Zap p (l ++ r)=l.length + Zap p r:=by
 refine Zmi (fun c hc=>?_)
 have:=Zi9 (p:=p) l c
 rw [h,List.take_length] at this
 exact this hc
theorem Zio {p:UInt8→Bool} : ∀ {l:List UInt8},Zap p l < l.length→∀ r,Zap p (l ++ r)=Zap p l
 | [],h,_=>by simp at h
 | c :: l,h,r=>by
  show Zap p (c :: (l ++ r))=_
  by_cases hc:p c=true
  ·rw [Zbe hc,Zbe hc,Zio (by rw [Zbe hc] at h;simpa using h)]
  ·rw [Zek (by simpa using hc),Zek (by simpa using hc)]
theorem Zpp:∀ (f:Nat) (l:List UInt8),l.length ≤ f→∀ r,Zr (l ++ 10 :: r)=if Zr l=l.length then l.length + 1 + Zr r else Zr l
 | 0,l,hf,r=>by
  obtain rfl:l = []:=List.eq_nil_of_length_eq_zero kW
  show Zr (10 :: r)=if (0:Nat)=0 then 0 + 1 + Zr r else 0
  rw [if_pos rfl,Zfa kD];omega
 | f + 1,l,hf,r=>by
  have hrb:=Zat Zs l
  by_cases hall:Zap Zs l=l.length
  ·have hs:Zr l=l.length:=by
    rw [Zee l,hall,List.drop_length,if_neg kD]
   have hg:Zr (l ++ 10 :: r)=l.length + Zr (10 :: r):=by
    rw [Zee (l ++ 10 :: r),Zee (10 :: r),Zjz hall,Zbe kD]
    rw [show (l ++ 10 :: r).drop (l.length + (Zap Zs r + 1))=(10 :: r).drop (Zap Zs r + 1) by rw [List.drop_append,List.drop_eq_nil_of_le kW,List.nil_append];congr 1;omega]
    split <;> omega
   rw [if_pos hs,hg,Zfa kD];omega
  ·have hlt:Zap Zs l < l.length:=kW
   obtain ⟨u,hu⟩:∃ u,u=l.drop (Zap Zs l):=⟨_,rfl⟩
   have hne:u ≠ []:=by intro e;have:=congrArg List.length hu;rw [e,List.length_drop] at this;simp at this;omega
   have hul:u.length=l.length - Zap Zs l:=by rw [hu,List.length_drop]
   have hdr:(l ++ 10 :: r).drop (Zap Zs l)=u ++ 10 :: r:=by rw [List.drop_append_of_le_length kW,← hu]
   rw [Zee (l ++ 10 :: r),Zee l,Zio hlt,hdr,← hu]
   by_cases hd:Zcw u
   ·rw [if_pos ((Zoo hne r).2 hd),if_pos hd]
    have hll:=Zat Zc4 u
    have h2:=Zdc hd
    by_cases hline:Zap Zc4 u=u.length
    ·have e1:Zap Zc4 (u ++ 10 :: r)=u.length:=by rw [Zjz hline,Zek kD];rfl
     rw [e1,hline,List.drop_left,List.drop_length,skip_nil,Zfa kD,if_pos kW];omega
    ·rw [Zio kW,List.drop_append_of_le_length hll]
     have ih:=Zpp f (u.drop (Zap Zc4 u)) kb46 r
     have hle:=Zez _ (u.drop (Zap Zc4 u)) (Nat.le_refl _)
     rw [List.length_drop] at hle
     rw [ih,List.length_drop]
     by_cases h3:Zr (u.drop (Zap Zc4 u))=u.length - Zap Zc4 u
     ·rw [if_pos h3,if_pos kW];omega
     ·rw [if_neg h3,if_neg kW]
   ·rw [if_neg (fun h=>hd ((Zoo hne r).1 h)),if_neg hd,if_neg kW]
def preT (ts:List Tk):TR→TR
 | .inl e=>.inl e
 | .inr us=>.inr (ts ++ us)
theorem tk_nl:∀ (f:Nat) (b:Nat) (l:List UInt8),l.length ≤ f→∀ ts,tk b l = .inr ts→∀ r,tk b (l ++ 10 :: r)=preT ts (tk (b + l.length + 1) r)
 | f,b,l,hf,ts,h,r=>by
  have hsl:=Zez _ l (Nat.le_refl _)
  by_cases hall:Zr l=l.length
  ·rw [Zl5 b l,hall,List.drop_length,if_pos rfl] at h
   cases h
   have hs:=Zpp l.length l (Nat.le_refl _) r
   rw [if_pos hall] at hs
   rw [Zgx b (l ++ 10 :: r),hs,show (l ++ 10 :: r).drop (l.length + 1 + Zr r)=r.drop (Zr r) by
    rw [List.drop_append,List.drop_eq_nil_of_le kW,List.nil_append,show l.length + 1 + Zr r - l.length=Zr r + 1 by omega];rfl]
   rw [Zgx (b + l.length + 1) r,show b + (l.length + 1 + Zr r)=b + l.length + 1 + Zr r by omega]
   cases tk (b + l.length + 1 + Zr r) (r.drop (Zr r)) <;> rfl
  ·obtain ⟨u,hu⟩:∃ u,u=l.drop (Zr l):=⟨_,rfl⟩
   have hul:u.length=l.length - Zr l:=by rw [hu,List.length_drop]
   have hne:u ≠ []:=by intro e;rw [e] at hul;simp at hul;omega
   rw [Zl5 b l,← hu,if_neg hne] at h
   have hs:=Zpp l.length l (Nat.le_refl _) r
   rw [if_neg hall] at hs
   rw [Zl5 b (l ++ 10 :: r),hs,List.drop_append_of_le_length hsl,← hu,if_neg kY]
   unfold stepT at h ⊢
   cases ho:Zcx u with
   | bad e m=>rw [ho] at h;cases h
   | tok k s n m=>
    rw [ho] at h
    rw [one_nl hne ho kD r]
    simp only at h ⊢
    have hm:=Zg2 hne ho
    rw [word_nl hm.2.1]
    split at h
    ·cases h
    ·rename_i hw
     rw [if_neg hw,List.drop_append_of_le_length hm.2.1]
     cases ht:tk (b + Zr l + m) (u.drop m) with
     | inl e=>rw [ht] at h;cases h
     | inr us=>
      rw [ht] at h
      cases h
      match f,hf with
      | f + 1,hf=>
       have ih:=tk_nl f (b + Zr l + m) (u.drop m) kb46 us ht r
       rw [ih,List.length_drop,show b + Zr l + m + (u.length - m) + 1=b + l.length + 1 by omega]
       cases tk (b + l.length + 1) r <;> rfl
      | 0,hf=>omega
set_option linter.unusedVariables false
section
variable {K:List Tk} {en:Int}
theorem yes_isM {s:PS} {t:ByteArray} (he:s.e=0) (hk:(Zag K en s.k).k=6) (h:(Zag K en s.k).s=t):isM K en t s=(true,s.next):=by
 have hb:isB K en t s=true:=Ze1.2 ⟨he,.inr hk,h⟩
 unfold isM;rw [hb];rfl
theorem Z0 {α β:Type} {p:Rd α} {q:α→Rd β} {s s1:PS} {x:α} (h:p s=(x,s1)):bnd p q s=q x s1:=by
 show q (p s).1 (p s).2=_
 rw [h]
end
theorem Zsb {x y:Tk} (h:Zhu x y):Zhu y x:=⟨h.1.symm,h.2.1.symm,h.2.2.symm⟩
theorem Zju {x y z:Tk} (h:Zhu x y) (g:Zhu y z):Zhu x z:=⟨h.1.trans g.1,h.2.1.trans g.2.1,h.2.2.trans g.2.2⟩
theorem Zga:∀ {m l:List Tk},Zky m l→m.length=l.length
 | [],[],_=>rfl
 | x :: m,y :: l,h=>by simp only [List.length_cons,Zga h.2]
 | [],_ :: _,h=>by cases h
 | _ :: _,[],h=>by cases h
theorem Zjv {m l:List Tk} (h:Zky m l) (e e':Int) (i:Nat):Zhu (Zag m e i) (Zag l e' i):=by
 induction m generalizing l i with
 | nil=>
  cases l with
  | nil=>exact ⟨rfl,rfl,rfl⟩
  | cons y l=>cases h
 | cons x m ih=>
  cases l with
  | nil=>cases h
  | cons y l=>
   cases i with
   | zero=>exact h.1
   | succ i=>exact ih h.2 i
theorem tok_left {a b:List Tk} {e e':Int} {i:Nat} (h:i < a.length):Zhu (Zag (a ++ b) e i) (Zag a e' i):=by
 unfold Zag
 rw [List.getElem?_append_left h,List.getElem?_eq_getElem h]
 exact ⟨rfl,rfl,rfl⟩
theorem Zts {a b:List Tk} {e:Int} (i:Nat):Zag (a ++ b) e (a.length + i)=Zag b e i:=by
 unfold Zag
 rw [List.getElem?_append_right kW,show a.length + i - a.length=i by omega]
section
variable {K:List Tk} {en:Int}
def Zf9 (K:List Tk) (en:Int):Rd Unit:=fun s=>if s.k < K.length then mustM K en [Za4] s else ((),s)
theorem Ze7 (f:Nat) {s:PS} (he:s.e=0) (hk:s.k < K.length):stmtsM K en (f + 1) s=bnd (stmtM K en) (fun x=>bnd (Zf9 K en) fun _=>bnd (stmtsM K en f) fun r=>ret (x :: r)) s:=by
 show (if s.e=0∧s.k < K.length then _ else _)=_
 rw [if_pos ⟨he,hk⟩]
 rfl
theorem Ze8 (f:Nat) {s:PS} (h:¬ (s.e=0∧s.k < K.length)):stmtsM K en (f + 1) s=([],s):=by
 show (if s.e=0∧s.k < K.length then _ else _)=_
 rw [if_neg h]
theorem Zi5 {s:PS} (h:s.e ≠ 0):(Zf9 K en s).2.e ≠ 0:=by
 unfold Zf9
 split
 ·exact (Zc3 _ s).2 h
 exact h
theorem Zhp:∀ (f:Nat) (s:PS),s.e ≠ 0→(stmtsM K en f s).2.e ≠ 0
 | 0,s,h=>by show (99:Nat) ≠ 0;decide
 | f + 1,s,h=>by rw [Ze8 f (fun x=>h x.1)];exact h
theorem semi_ok {s:PS} (he:s.e=0) (hk:s.k < K.length) (h:(Zf9 K en s).2.e=0):Zf9 K en s=((),s.next)∧(Zag K en s.k).k ≠ 0∧(Zag K en s.k).s=Za4∧isB K en Za4 s=true:=by
 unfold Zf9 at h ⊢
 rw [if_pos hk] at h ⊢
 cases hb:isB K en Za4 s with
 | true=>
  have e:isM K en Za4 s=(true,s.next):=by unfold isM;rw [hb];rfl
  have h1:=(Ze1.1 hb).2
  refine ⟨?_,by omega,h1.2,rfl⟩
  show bnd (isM K en Za4) _ s=_
  rw [Z0 e]
  rfl
 | false=>
  have e:isM K en Za4 s=(false,s):=by unfold isM;rw [hb];rfl
  have:mustM K en [Za4] s=((),Zem K en 6 s):=by
   show bnd (isM K en Za4) _ s=_
   rw [Z0 e]
   rfl
  rw [this] at h
  exact absurd h (Zac 6 s kD).2
end
section
variable {L:List Tk} {en:Int}
theorem Znr:∀ (f:Nat) (s s1:PS) (A:List PSt),s.k ≤ L.length→stmtsM L en f s=(A,s1)→s1.e=0→A.length + s.k ≤ L.length
 | 0,s,s1,A,hk,h,h1=>by
  have:(stmtsM L en 0 s).2.e=99:=rfl
  rw [h] at this
  simp only at this
  omega
 | f + 1,s,s1,A,hk,h,h1=>by
  by_cases hlt:s.e=0∧s.k < L.length
  ·rw [Ze7 f hlt.1 hlt.2] at h
   obtain ⟨⟨x,s2⟩,hx⟩:∃ r,stmtM L en s=r:=⟨_,rfl⟩
   rw [Z0 hx] at h
   obtain ⟨⟨u,s3⟩,hy⟩:∃ r,Zf9 L en s2=r:=⟨_,rfl⟩
   rw [Z0 hy] at h
   obtain ⟨⟨B,s4⟩,hz⟩:∃ r,stmtsM L en f s3=r:=⟨_,rfl⟩
   rw [Z0 hz] at h
   obtain ⟨rfl,rfl⟩:A=x :: B∧s1=s4:=by cases h;exact ⟨rfl,rfl⟩
   have e3:s3.e=0:=Classical.byContradiction fun hn=>by have:=Zhp (K:=L) (en:=en) f s3 hn;rw [hz] at this;exact this h1
   have e2:s2.e=0:=Classical.byContradiction fun hn=>by have:=Zi5 (K:=L) (en:=en) hn;rw [hy] at this;exact this e3
   have hp:=Zjc.stmtM (L:=L) (en:=en) s (by rw [hx];exact e2)
   have hle:=(Sim.stmtM (L:=L) (L':=L) (en:=en) (en':=en) (d:=0)).le s hk
   rw [hx] at hp hle
   simp only at hp hle
   have h3:s2.k ≤ s3.k∧s3.k ≤ L.length:=by
    unfold Zf9 at hy
    split at hy
    ·have g1:=(Zc3 (L:=L) (en:=en) [Za4] s2).1
     have g2:=Zmn (en:=en) [Za4] s2 hle
     rw [hy] at g1 g2
     exact ⟨g1,g2⟩
    obtain rfl:=(Prod.mk.inj hy).2
    exact ⟨Nat.le_refl _,hle⟩
   have:=Znr f s3 s1 B h3.2 hz h1
   rw [List.length_cons];omega
  ·rw [Ze8 f hlt] at h
   obtain ⟨rfl,rfl⟩:=Prod.mk.inj h
   simpa using hk
end
theorem Zer {s:List UInt8} {A:List PSt} (h:Z4 s = .inr A):∃ L s1,Zea s = .inr L∧stmtsM L (s.length:Int) FU ⟨0,0,0⟩=(A,s1)∧s1.e=0:=by
 unfold Z4 at h
 cases ht:Zea s with
 | inl e=>rw [ht] at h;cases h
 | inr L=>
  rw [ht] at h
  simp only at h
  obtain ⟨r,hr⟩:∃ r,r=stmtsM L (s.length:Int) FU ⟨0,0,0⟩:=⟨_,rfl⟩
  rw [← hr] at h
  by_cases he:r.2.e=0
  ·rw [if_pos he] at h
   cases h
   exact ⟨L,r.2,rfl,hr.symm,he⟩
  ·rw [if_neg he] at h;cases h
theorem Zr9 {T:List UInt8} {K:List Tk} {X:List PSt} (ht:Zea T = .inr K) (h1:(stmtsM K (T.length:Int) FU ⟨0,0,0⟩).1=X) (h2:(stmtsM K (T.length:Int) FU ⟨0,0,0⟩).2.e=0):Z4 T = .inr X:=by
 unfold Z4
 rw [ht]
 simp only [h2,if_true,h1]
def Zaz (s:ByteArray):Prop:=okT ⟨2,s,0,0⟩
def ValOk (v:V):Prop:=(v.k=0∧v.n=0∧v.s=⟨#[]⟩) ∨ (v.k=1∧-9223372036854775808 ≤ v.n∧v.n < 9223372036854775808∧v.s=⟨#[]⟩) ∨ ((v.k=2 ∨ v.k=3)∧v.n=0∧v.s.size ≤ 1000)
inductive Zfm:PE→Prop where
 | val (v:V):ValOk v→Zfm (.mk 1 v ⟨#[]⟩ ⟨#[]⟩ 0 [])
 | col (m:ByteArray):Zaz m→Zfm (.mk 2 V00 ⟨#[]⟩ m 0 [])
 | tcol (t m:ByteArray):Zaz t→Zaz m→Zfm (.mk 2 V00 t m 0 [])
 | one (op:Nat) (x:PE):(op=3 ∨ op=4 ∨ op=5 ∨ (20 ≤ op∧op ≤ 23))→Zfm x→Zfm (.node op [x])
 | two (op:Nat) (x y:PE):6 ≤ op→op ≤ 19→Zfm x→Zfm y→Zfm (.node op [x,y])
 | count:Zfm (.node 20 [])
section
variable {L:List Tk} {en:Int}
def Good {α:Type} (p:Rd α) (Q:α→Prop):Prop:=∀ s:PS,(p s).2.e=0→Q (p s).1
def Za0 {α:Type} (p:Rd α):Prop:=∀ s:PS,s.e ≠ 0→(p s).2.e ≠ 0
theorem Good.ret {α:Type} {x:α} {Q:α→Prop} (h:Q x):Good (ret x) Q:=fun _ _=>h
theorem Good.bnd {α β:Type} {p:Rd α} {q:α→Rd β} {Q:α→Prop} {R:β→Prop} (hp:Good p Q) (hk:∀ x,Za0 (q x)) (hq:∀ x,Q x→Good (q x) R):Good (bnd p q) R:=fun s h=>
 hq (p s).1 (hp s (Classical.byContradiction fun hn=>hk (p s).1 (p s).2 hn h)) (p s).2 h
theorem Good.any {α:Type} (p:Rd α):Good p (fun _=>True):=fun _ _=>trivial
theorem Good.fail {α:Type} {p:Rd α} (h:∀ s:PS,(p s).2.e ≠ 0) (Q:α→Prop):Good p Q:=fun s h1=>absurd h1 (h s)
theorem Sim.keep {α:Type} {p p':Rd α} (h:Sim L en L en 0 p p'):Za0 p:=fun s hs=>(h.mono s).2 hs
theorem Za0.bnd {α β:Type} {p:Rd α} {q:α→Rd β} (hp:Za0 p) (hq:∀ x,Za0 (q x)):Za0 (bnd p q):=fun s h=>hq _ _ (hp s h)
theorem Za0.ret {α:Type} (x:α):Za0 (ret x):=fun _ h=>h
theorem Za0.ite {α:Type} (b:Bool) {p q:Rd α} (hp:Za0 p) (hq:Za0 q):Za0 (if b then p else q):=by cases b <;> assumption
def Zbs (L:List Tk):Prop:=∀ t ∈ L,okT t∧t.n ≤ 9223372036854775808∧1 ≤ t.k∧t.k ≤ 6
theorem Zla (h:Zbs L) {k:Nat} (hk:(Zag L en k).k ≠ 0):okT (Zag L en k)∧(Zag L en k).n ≤ 9223372036854775808:=by
 have hlt:=Zf8 hk
 have:Zag L en k ∈ L:=by
  unfold Zag
  rw [List.getElem?_eq_getElem hlt]
  exact List.getElem_mem hlt
 exact ⟨(h _ this).1,(h _ this).2.1⟩
theorem Zux {t:Tk} (h:okT t) (hk:t.k=2):Zaz t.s:=by
 have e1:Zak t=t.s.data.toList:=Zey (.inr (.inl hk))
 have e2:Zak ⟨2,t.s,0,0⟩=t.s.data.toList:=Zey (t:=⟨2,t.s,0,0⟩) (.inr (.inl rfl))
 obtain ⟨h1,h2,h3⟩:=h
 rw [e1] at h1 h3
 unfold Zaz okT
 rw [e2]
 refine ⟨h1,h2,?_⟩
 rw [h3,hk]
 have:t.n=0:=by
  unfold Zcx at h3
  rw [hk] at h3
  split at h3
  ·unfold Zcm at h3
   split at h3
   ·cases h3
   ·split at h3 <;> cases h3
  ·split at h3
   ·unfold Zb8 at h3
    split at h3
    ·cases h3
    ·split at h3 <;> cases h3
   ·split at h3
    ·unfold Zbu at h3
     split at h3
     ·split at h3 <;> cases h3
     ·split at h3
      ·cases h3
      ·split at h3
       ·cases h3
       ·injection h3 with _ _ hn _
        exact hn.symm
    ·split at h3
     ·unfold Zc2 at h3
      split at h3
      ·cases h3
      ·split at h3
       ·cases h3
       ·split at h3 <;> cases h3
     ·unfold Zbm at h3
      split at h3
      ·cases h3
      ·split at h3 <;> cases h3
 rw [this]
theorem Good.nameM (h:Zbs L):Good (nameM L en) Zaz:=fun s hs=>by
 unfold Dt.nameM at hs ⊢
 split at hs
 ·rename_i hk
  rw [if_pos hk]
  exact Zux (Zla h kW).1 hk.2
 ·exact absurd hs (Zac 6 s kD).2
theorem Good.nameQ (h:Zbs L):Good (nameQ L en) (fun r=>∀ m,r=some m→Zaz m):=fun s hs m hm=>by
 unfold Dt.nameQ at hs hm
 split at hm
 ·rename_i hk
  cases hm
  exact Zux (Zla h kW).1 hk.2
 ·cases hm
theorem Good.litM (h:Zbs L):Good (litM L en) (fun r=>∀ x,r=some x→Zfm x):=fun s hs x hx=>by
 unfold Dt.litM at hs hx
 simp only at hs hx
 by_cases he:s.e=0
 ·simp only [he,ne_eq,not_true_eq_false,if_false] at hs hx
  split at hx
  ·split at hx
   ·rename_i hk hn
    cases hx
    exact .val _ (.inr (.inl ⟨rfl,by show -9223372036854775808 ≤ (((Zag L en s.k).n:Nat):Int);omega,by show (((Zag L en s.k).n:Nat):Int) < 9223372036854775808;omega,rfl⟩))
   ·rename_i hk hn
    rw [if_pos hk,if_neg hn] at hs
    exact absurd hs (Zac 5 s kD).2
  ·split at hx
   ·rename_i _ hk
    cases hx
    exact .val _ (.inr (.inr ⟨.inl rfl,rfl,(Zla h (k:=s.k) kW).1.2.1⟩))
   ·split at hx
    ·rename_i _ _ hk
     cases hx
     exact .val _ (.inr (.inr ⟨.inr rfl,rfl,(Zla h (k:=s.k) kW).1.2.1⟩))
    ·cases hx
 ·rw [if_pos he] at hs
  exact absurd hs he
theorem Good.negM (h:Zbs L):Good (negM L en) (fun r=>∀ n,r=some n→n ≤ 9223372036854775808):=fun s hs n hn=>by
 unfold Dt.negM at hn
 split at hn
 ·rename_i hk
  cases hn
  exact (Zla h kW).2
 ·cases hn
theorem Good.oneOf (Q:Nat→Prop):∀ (l:List (ByteArray × Nat)),(∀ x ∈ l,Q x.2)→Good (oneOf L en l) (fun r=>∀ o,r=some o→Q o)
 | [],_=>fun s _ o h=>by cases h
 | x :: l,h=>Good.bnd (Good.any _) (fun b=>Za0.ite b (Za0.ret _) (fun s hs=>by
     rcases Zd5 (L:=L) (en:=en) l s with e | ⟨o,e,_⟩
     ·rw [e];exact hs
     ·rw [e];exact hs)) (fun b _=>by
  cases b with
  | true=>exact Good.ret (fun o ho=>by cases ho;exact h x kY)
  | false=>exact Good.oneOf Q l (fun y hy=>h y Zrd))
end
theorem kpE {p:Prop} (h:p:=by intros;repeat (first | with_reducible refine Za0.bnd ?_ (fun _=>?_) | with_reducible refine Za0.ite _ ?_ ?_ | with_reducible exact Za0.ret _ | with_reducible exact Sim.keep (Sim.mustM _) | with_reducible exact Sim.keep Sim.nameM | with_reducible exact Sim.keep Sim.nameQ | with_reducible exact Sim.keep Sim.litM | with_reducible exact Sim.keep Sim.negM | with_reducible exact Sim.keep Sim.okM | with_reducible exact Sim.keep (Sim.isM _ kD kD) | with_reducible exact Sim.keep (Sim.failM 6 kD) | with_reducible exact Sim.keep (Sim.oneOf _ kD) | with_reducible exact Sim.keep (Sim.exF _ _) | split)):p:=h
section
variable {L:List Tk} {en:Int}
theorem Good.oneOf' {l:List (ByteArray × Nat)} (Q:Nat→Prop) (h:∀ x ∈ l,Q x.2):Good (Dt.oneOf L en l) (fun r=>∀ o,r=some o→Q o):=Good.oneOf Q l h
theorem Good.chainM {ops:List (ByteArray × Nat)} (ho:∀ x ∈ ops,x.1 ≠ Za4∧x.1 ≠ Zp) (hn:∀ x ∈ ops,6 ≤ x.2∧x.2 ≤ 19) {one:Rd PE} (hs:Sim L en L en 0 one one) (hg:Good one Zfm):∀ f x,Zfm x→Good (chainM L en ops one f x) Zfm
 | 0,x,_=>Good.fail (fun s=>by show (99:Nat) ≠ 0;decide) _
 | f + 1,x,hx=>Good.bnd (Good.oneOf' (fun o=>6 ≤ o∧o ≤ 19) hn) (fun o=>by
     cases o with
     | none=>exact Za0.ret _
     | some o=>exact Za0.bnd hs.keep (fun y=>(Sim.chainM ops ho hs f _).keep)) (fun o h=>by
     cases o with
     | none=>exact Good.ret hx
     | some o=>exact Good.bnd hg (fun y=>(Sim.chainM ops ho hs f _).keep) (fun y hy=>Good.chainM ho hn hs hg f _ (.two o x y (h o rfl).1 (h o rfl).2 hx hy)))
theorem Good.chainL {ops:List (ByteArray × Nat)} (ho:∀ x ∈ ops,x.1 ≠ Za4∧x.1 ≠ Zp) (hn:∀ x ∈ ops,6 ≤ x.2∧x.2 ≤ 19) {one:Rd PE} (hs:Sim L en L en 0 one one) (hg:Good one Zfm) (f:Nat):Good (chainL L en ops one f) Zfm:=
 Good.bnd hg (fun x=>(Sim.chainM ops ho hs f x).keep) (fun x hx=>Good.chainM ho hn hs hg f x hx)
theorem Good.exF (h:Zbs L):∀ f m,Good (exF L en f m) Zfm
 | 0,_=>Good.fail (fun s=>by show (99:Nat) ≠ 0;decide) _
 | f + 1,.expr=>Good.chainL kD kD (Sim.chainL _ kD (Sim.exF f .not) f) (Good.chainL kD kD (Sim.exF f .not) (Good.exF h f .not) f) f
 | f + 1,.not=>Good.bnd (Good.any _) kpE (fun b _=>by
     cases b with
     | true=>exact Good.bnd (Good.exF h f .not) kpE (fun x hx=>Good.ret (.one 4 x kW hx))
     | false=>exact Good.bnd (Good.exF h f (.sum 0)) kpE (fun x hx=>Good.bnd (Good.any _) kpE (fun b _=>by
      cases b with
      | true=>exact Good.bnd (Good.any _) kpE (fun b _=>Good.bnd (Good.any _) kpE (fun _ _=>Good.ret (by
       cases b with
       | true=>exact .one 4 _ kW (.one 5 x kW hx)
       | false=>exact .one 5 x kW hx)))
      | false=>exact Good.bnd (Good.oneOf' (fun o=>6 ≤ o∧o ≤ 19) kD) kpE (fun o ho=>by
       cases o with
       | none=>exact Good.ret hx
       | some o=>exact Good.bnd (Good.exF h f (.sum 0)) kpE (fun y hy=>Good.ret (.two o x y (ho o rfl).1 (ho o rfl).2 hx hy))))))
 | f + 1,.sum k=>by
  show Good (if k=3 then Dt.exF L en f .unary else Dt.chainL L en (opsOf k) (Dt.exF L en f (.sum (k + 1))) f) Zfm
  split
  ·exact Good.exF h f .unary
  ·match k with
   | 0=>exact Good.chainL kD kD (Sim.exF f _) (Good.exF h f _) f
   | 1=>exact Good.chainL kD kD (Sim.exF f _) (Good.exF h f _) f
   | _ + 2=>exact Good.chainL (ops:=[(Zao,8),(Zih,9),(Zig,10)]) kD kD (Sim.exF f _) (Good.exF h f _) f
 | f + 1,.unary=>Good.bnd (Good.any _) kpE (fun b _=>by
     cases b with
     | true=>exact Good.bnd (Good.negM h) kpE (fun n hn=>by
      cases n with
      | some n=>exact Good.ret (.val _ (.inr (.inl ⟨rfl,by have:=hn n rfl;show -9223372036854775808 ≤ -(n:Int);omega,by show -(n:Int) < 9223372036854775808;omega,rfl⟩)))
      | none=>exact Good.bnd (Good.exF h f .unary) kpE (fun x hx=>Good.ret (.one 3 x kW hx)))
     | false=>exact Good.exF h f .prim)
 | f + 1,.prim=>Good.bnd (Good.litM h) kpE (fun r hr=>by
     cases r with
     | some x=>exact Good.ret (hr x rfl)
     | none=>exact Good.bnd (Good.nameQ h) kpE (fun r hr=>by
      cases r with
      | some t=>exact Good.bnd (Good.any _) kpE (fun b _=>by
       cases b with
       | true=>exact Good.bnd (Good.nameM h) kpE (fun m hm=>Good.ret (.tcol t m (hr t rfl) hm))
       | false=>exact Good.ret (.col t (hr t rfl)))
      | none=>exact Good.bnd (Good.any _) kpE (fun b _=>by
       cases b with
       | true=>exact Good.ret (.val _ (.inl ⟨rfl,rfl,rfl⟩))
       | false=>exact Good.bnd (Good.any _) kpE (fun b _=>by
        cases b with
        | true=>exact Good.bnd (Good.exF h f .expr) kpE (fun x hx=>Good.bnd (Good.any _) kpE (fun _ _=>Good.ret hx))
        | false=>exact Good.bnd (Good.any _) kpE (fun b _=>by
         cases b with
         | true=>exact Good.bnd (Good.any _) kpE (fun _ _=>Good.bnd (Good.any _) kpE (fun b _=>by
          cases b with
          | true=>exact Good.bnd (Good.any _) kpE (fun _ _=>Good.ret .count)
          | false=>exact Good.bnd (Good.exF h f .expr) kpE (fun x hx=>Good.bnd (Good.any _) kpE (fun _ _=>Good.ret (.one 20 x kW hx)))))
         | false=>exact Good.bnd (Good.oneOf' (fun o=>20 ≤ o∧o ≤ 23) kD) kpE (fun o ho=>by
          cases o with
          | some o=>exact Good.bnd (Good.any _) kpE (fun _ _=>Good.bnd (Good.exF h f .expr) kpE (fun x hx=>Good.bnd (Good.any _) kpE (fun _ _=>Good.ret (.one o x (by have:=ho o rfl;omega) hx))))
          | none=>exact Good.fail (fun s=>(Zac 6 s kD).2) _))))))
theorem Good.exprM (h:Zbs L):Good (exprM L en) Zfm:=Good.exF h FU .expr
end
end Go.Proofs.YtmdogmpcmkfjpaaGreatDoor.Dt
