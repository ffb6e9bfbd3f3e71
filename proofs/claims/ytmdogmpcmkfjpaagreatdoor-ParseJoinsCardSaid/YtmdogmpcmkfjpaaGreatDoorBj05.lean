import Derived.Test.YtmdogmpcmkfjpaaGreatDoorBj02
import Derived.Test.YtmdogmpcmkfjpaaGreatDoorBj04
/- Part of the proof (merged). -/
namespace Go.Proofs.YtmdogmpcmkfjpaaGreatDoor.Dt
open Go.Lib
theorem one_nl {u:List UInt8} (hu:u ≠ []) {k n m:Nat} {s:List UInt8} (h:oneL u = .tok k s n m) {c:UInt8} (hc:blankB c=true) (r:List UInt8):oneL (u ++ c :: r) = .tok k s n m:=by
 obtain ⟨cw,cn,cd,cc,c39,c45,ch,c48,_⟩:=blank_not hc
 have htop:topB (u ++ c :: r)=topB u:=topB_app hu _
 have hone:u.length=1→topB ((u ++ c :: r).drop 1)=c:=fun h1=>by
  rcases u with _ | ⟨a,_ | ⟨b,u⟩⟩
  ·cases h1
  ·rfl
  ·simp at h1
 have htwo:1 < u.length→topB ((u ++ c :: r).drop 1)=topB (u.drop 1):=fun h1=>topB_drop_app h1 _
 have hlen:1 ≤ u.length:=by cases u with | nil=>exact absurd rfl hu | cons a u=>simp
 unfold oneL at h ⊢
 rw [htop]
 by_cases h1:topB u=39
 ·rw [if_pos h1] at h ⊢
  unfold textOne at h ⊢
  rw [List.drop_append_of_le_length hlen]
  cases hq:qscan (u.drop 1) with
  | none=>rw [hq] at h;cases h
  | some x=>
   rw [hq] at h
   rw [qscan_app c39 _ _ r (Nat.le_refl _) x.1 x.2 hq]
   exact h
 ·rw [if_neg h1] at h ⊢
  by_cases h2:topB u=120∧topB (u.drop 1)=39
  ·have hl:1 < u.length:=by
    rcases Nat.lt_or_ge 1 u.length with h3 | h3
    ·exact h3
    ·exfalso
     have:u.drop 1 = []:=List.drop_eq_nil_iff.2 h3
     rw [this] at h2
     exact absurd h2.2 (by decide)
   rw [if_pos h2] at h
   rw [htwo hl,if_pos h2]
   unfold blobOne at h ⊢
   rw [List.drop_append_of_le_length (by omega)]
   cases hq:bscan (u.drop 2) with
   | inl x=>rw [hq] at h;cases h
   | inr x=>
    rw [hq] at h
    rw [bscan_app c _ _ r (Nat.le_refl _) x.1 x.2 hq]
    exact h
  ·rw [if_neg h2] at h
   have h2':¬ (topB u=120∧topB ((u ++ c :: r).drop 1)=39):=by
    rcases Nat.lt_or_ge 1 u.length with h3 | h3
    ·rw [htwo h3];exact h2
    ·rw [hone (by omega)];exact fun e=>c39 e.2
   rw [if_neg h2']
   by_cases h3:(smallB (topB u) || capB (topB u))=true
   ·rw [if_pos h3] at h ⊢
    unfold wordOne at h ⊢
    rw [htop,runL_stop cw,runL_stop cn]
    by_cases h4:capB (topB u)=true
    ·rw [if_pos h4] at h ⊢
     have:=runL_le wordB u
     rw [List.take_append_of_le_length this]
     exact h
    ·rw [if_neg h4] at h ⊢
     have h5:=runL_le nameB u
     rw [List.take_append_of_le_length h5]
     have h6:capB (topB ((u ++ c :: r).drop (runL nameB u)))=capB (topB (u.drop (runL nameB u))):=by
      rcases Nat.lt_or_ge (runL nameB u) u.length with h7 | h7
      ·rw [topB_drop_app h7]
      ·have h8:runL nameB u=u.length:=by omega
       rw [h8,List.drop_length,List.drop_left]
       exact cc
     rw [h6];exact h
   ·rw [if_neg h3] at h ⊢
    by_cases h4:digB (topB u)=true
    ·rw [if_pos h4] at h ⊢
     unfold numOne at h ⊢
     rw [htop,runL_stop cd]
     have:=runL_le digB u
     rw [List.take_append_of_le_length this]
     have h5:digB (topB ((u ++ c :: r).drop 1))=digB (topB (u.drop 1)):=by
      rcases Nat.lt_or_ge 1 u.length with h6 | h6
      ·rw [htwo h6]
      ·rw [hone (by omega),List.drop_eq_nil_iff.2 h6,cd];decide
     rw [h5];exact h
    ·rw [if_neg h4] at h ⊢
     unfold signOne at h ⊢
     rw [htop]
     rcases Nat.lt_or_ge 1 u.length with h6 | h6
     ·rw [List.take_append_of_le_length (by omega),List.take_append_of_le_length (by omega)];exact h
     ·obtain ⟨a,rfl⟩:∃ a,u = [a]:=List.length_eq_one_iff.1 (by omega)
      have h7:([a] ++ c :: r).take 2 = [a,c]:=rfl
      have h8:[a,c] ∉ twosL:=by
       intro e
       have hc2:c ∈ [62,61,124]:=by
        simp [twosL] at e ⊢
        rcases e with ⟨_,e⟩ | ⟨_,e⟩ | ⟨_,e⟩ | ⟨_,e⟩ <;> simp [e]
       have:∀ k:Fin 256,blankB (UInt8.ofNat k.val)=true→UInt8.ofNat k.val ∉ ([62,61,124]:List UInt8):=by decide +kernel
       have h9:=this ⟨c.toNat,c.toNat_lt⟩
       simp only [UInt8.ofNat_toNat] at h9
       exact h9 hc hc2
      rw [h7,if_neg h8]
      have h9:([a]:List UInt8).take 2 = [a]:=rfl
      have h10:[a] ∉ twosL:=by simp [twosL]
      rw [h9,if_neg h10] at h
      exact h
theorem word_nl {u:List UInt8} {m:Nat} (hm:m ≤ u.length) (r:List UInt8):wordB (topB ((u ++ 10 :: r).drop m))=wordB (topB (u.drop m)):=by
 rcases Nat.lt_or_ge m u.length with h | h
 ·rw [topB_drop_app h]
 ·obtain rfl:m=u.length:=by omega
  rw [List.drop_left,List.drop_length]
  show wordB (10:UInt8)=wordB (0:UInt8)
  decide
theorem dashes_nl {l:List UInt8} (hl:l ≠ []) (r:List UInt8):dashes (l ++ 10 :: r) ↔ dashes l:=by
 unfold dashes
 rw [topB_app hl]
 rcases l with _ | ⟨a,_ | ⟨b,l⟩⟩
 ·exact absurd rfl hl
 ·constructor
  ·rintro ⟨_,h⟩;exact absurd h (by show ¬ (10:UInt8)=45;decide)
  ·rintro ⟨_,h⟩;exact absurd h (by show ¬ (0:UInt8)=45;decide)
 ·exact Iff.rfl
theorem runL_nl_all {p:UInt8→Bool} {l:List UInt8} (h:runL p l=l.length) (r:List UInt8):runL p (l ++ r)=l.length + runL p r:=by
 refine runL_app (fun c hc=>?_)
 have:=runL_all (p:=p) l c
 rw [h,List.take_length] at this
 exact this hc
theorem runL_nl_lt {p:UInt8→Bool} : ∀ {l:List UInt8},runL p l < l.length→∀ r,runL p (l ++ r)=runL p l
 | [],h,_=>by simp at h
 | c :: l,h,r=>by
  show runL p (c :: (l ++ r))=_
  by_cases hc:p c=true
  ·rw [runL_pos hc,runL_pos hc,runL_nl_lt (by rw [runL_pos hc] at h;simpa using h)]
  ·rw [runL_neg (by simpa using hc),runL_neg (by simpa using hc)]
theorem skip_nl:∀ (f:Nat) (l:List UInt8),l.length ≤ f→∀ r,skipL (l ++ 10 :: r)=if skipL l=l.length then l.length + 1 + skipL r else skipL l
 | 0,l,hf,r=>by
  obtain rfl:l = []:=List.eq_nil_of_length_eq_zero (by omega)
  show skipL (10 :: r)=if (0:Nat)=0 then 0 + 1 + skipL r else 0
  rw [if_pos rfl,skip_blank (by decide)];omega
 | f + 1,l,hf,r=>by
  have hrb:=runL_le blankB l
  by_cases hall:runL blankB l=l.length
  ·have hs:skipL l=l.length:=by
    rw [skip_eq l,hall,List.drop_length,if_neg (by decide)]
   have hg:skipL (l ++ 10 :: r)=l.length + skipL (10 :: r):=by
    rw [skip_eq (l ++ 10 :: r),skip_eq (10 :: r),runL_nl_all hall,runL_pos (by decide)]
    rw [show (l ++ 10 :: r).drop (l.length + (runL blankB r + 1))=(10 :: r).drop (runL blankB r + 1) by rw [List.drop_append,List.drop_eq_nil_of_le (by omega),List.nil_append];congr 1;omega]
    split <;> omega
   rw [if_pos hs,hg,skip_blank (by decide)];omega
  ·have hlt:runL blankB l < l.length:=by omega
   obtain ⟨u,hu⟩:∃ u,u=l.drop (runL blankB l):=⟨_,rfl⟩
   have hne:u ≠ []:=by intro e;have:=congrArg List.length hu;rw [e,List.length_drop] at this;simp at this;omega
   have hul:u.length=l.length - runL blankB l:=by rw [hu,List.length_drop]
   have hdr:(l ++ 10 :: r).drop (runL blankB l)=u ++ 10 :: r:=by rw [List.drop_append_of_le_length (by omega),← hu]
   rw [skip_eq (l ++ 10 :: r),skip_eq l,runL_nl_lt hlt,hdr,← hu]
   by_cases hd:dashes u
   ·rw [if_pos ((dashes_nl hne r).2 hd),if_pos hd]
    have hll:=runL_le lineB u
    have h2:=dashes_line hd
    by_cases hline:runL lineB u=u.length
    ·have e1:runL lineB (u ++ 10 :: r)=u.length:=by rw [runL_nl_all hline,runL_neg (by decide)];rfl
     rw [e1,hline,List.drop_left,List.drop_length,skip_nil,skip_blank (by decide),if_pos (by omega)];omega
    ·rw [runL_nl_lt (by omega),List.drop_append_of_le_length hll]
     have ih:=skip_nl f (u.drop (runL lineB u)) (by rw [List.length_drop];omega) r
     have hle:=skip_le _ (u.drop (runL lineB u)) (Nat.le_refl _)
     rw [List.length_drop] at hle
     rw [ih,List.length_drop]
     by_cases h3:skipL (u.drop (runL lineB u))=u.length - runL lineB u
     ·rw [if_pos h3,if_pos (by omega)];omega
     ·rw [if_neg h3,if_neg (by omega)]
   ·rw [if_neg (fun h=>hd ((dashes_nl hne r).1 h)),if_neg hd,if_neg (by omega)]
def preT (ts:List Tk):TR→TR
 | .inl e=>.inl e
 | .inr us=>.inr (ts ++ us)
theorem tk_nl:∀ (f:Nat) (b:Nat) (l:List UInt8),l.length ≤ f→∀ ts,tk b l = .inr ts→∀ r,tk b (l ++ 10 :: r)=preT ts (tk (b + l.length + 1) r)
 | f,b,l,hf,ts,h,r=>by
  have hsl:=skip_le _ l (Nat.le_refl _)
  by_cases hall:skipL l=l.length
  ·rw [tk_eq b l,hall,List.drop_length,if_pos rfl] at h
   cases h
   have hs:=skip_nl l.length l (Nat.le_refl _) r
   rw [if_pos hall] at hs
   rw [tk_skip b (l ++ 10 :: r),hs,show (l ++ 10 :: r).drop (l.length + 1 + skipL r)=r.drop (skipL r) by
    rw [List.drop_append,List.drop_eq_nil_of_le (by omega),List.nil_append,show l.length + 1 + skipL r - l.length=skipL r + 1 by omega];rfl]
   rw [tk_skip (b + l.length + 1) r,show b + (l.length + 1 + skipL r)=b + l.length + 1 + skipL r by omega]
   cases tk (b + l.length + 1 + skipL r) (r.drop (skipL r)) <;> rfl
  ·obtain ⟨u,hu⟩:∃ u,u=l.drop (skipL l):=⟨_,rfl⟩
   have hul:u.length=l.length - skipL l:=by rw [hu,List.length_drop]
   have hne:u ≠ []:=by intro e;rw [e] at hul;simp at hul;omega
   rw [tk_eq b l,← hu,if_neg hne] at h
   have hs:=skip_nl l.length l (Nat.le_refl _) r
   rw [if_neg hall] at hs
   rw [tk_eq b (l ++ 10 :: r),hs,List.drop_append_of_le_length hsl,← hu,if_neg (by simp)]
   unfold stepT at h ⊢
   cases ho:oneL u with
   | bad e m=>rw [ho] at h;cases h
   | tok k s n m=>
    rw [ho] at h
    rw [one_nl hne ho (by decide) r]
    simp only at h ⊢
    have hm:=one_len hne ho
    rw [word_nl hm.2.1]
    split at h
    ·cases h
    ·rename_i hw
     rw [if_neg hw,List.drop_append_of_le_length hm.2.1]
     cases ht:tk (b + skipL l + m) (u.drop m) with
     | inl e=>rw [ht] at h;cases h
     | inr us=>
      rw [ht] at h
      cases h
      match f,hf with
      | f + 1,hf=>
       have ih:=tk_nl f (b + skipL l + m) (u.drop m) (by rw [List.length_drop];omega) us ht r
       rw [ih,List.length_drop,show b + skipL l + m + (u.length - m) + 1=b + l.length + 1 by omega]
       cases tk (b + l.length + 1) r <;> rfl
      | 0,hf=>omega
set_option linter.unusedVariables false
section
variable {K:List Tk} {en:Int}
theorem dull_isM {s:PS} (h:Dull (tokP K en s.k)) {t:ByteArray} (h1:t ≠ BSEMI) (h2:t ≠ BCLOSE):isM K en t s=(false,s):=by
 have hb:isB K en t s=false:=by
  rw [Bool.eq_false_iff]
  intro hc
  exact h.text h1 h2 (isB_iff.1 hc).2
 unfold isM;rw [hb];rfl
theorem yes_isM {s:PS} {t:ByteArray} (he:s.e=0) (hk:(tokP K en s.k).k=6) (h:(tokP K en s.k).s=t):isM K en t s=(true,s.next):=by
 have hb:isB K en t s=true:=isB_iff.2 ⟨he,.inr hk,h⟩
 unfold isM;rw [hb];rfl
theorem bnd_of {α β:Type} {p:Rd α} {q:α→Rd β} {s s1:PS} {x:α} (h:p s=(x,s1)):bnd p q s=q x s1:=by
 show q (p s).1 (p s).2=_
 rw [h]
end
end Go.Proofs.YtmdogmpcmkfjpaaGreatDoor.Dt
namespace Go.Proofs.YtmdogmpcmkfjpaaGreatDoor.Dt
open Go.Lib
set_option linter.unusedVariables false
theorem sameT_symm {x y:Tk} (h:sameT x y):sameT y x:=⟨h.1.symm,h.2.1.symm,h.2.2.symm⟩
theorem sameL_length:∀ {m l:List Tk},sameL m l→m.length=l.length
 | [],[],_=>rfl
 | x :: m,y :: l,h=>by simp only [List.length_cons,sameL_length h.2]
 | [],_ :: _,h=>by cases h
 | _ :: _,[],h=>by cases h
theorem sameL_map (i:Int):∀ l:List Tk,sameL (l.map fun x=>{ x with a:=x.a + i }) l
 | []=>trivial
 | x :: l=>⟨⟨rfl,rfl,rfl⟩,sameL_map i l⟩
theorem sameL_tok {m l:List Tk} (h:sameL m l) (e e':Int) (i:Nat):sameT (tokP m e i) (tokP l e' i):=by
 induction m generalizing l i with
 | nil=>
  cases l with
  | nil=>exact ⟨rfl,rfl,rfl⟩
  | cons y l=>cases h
 | cons x m ih=>
  cases l with
  | nil=>cases h
  | cons y l=>
   cases i with
   | zero=>exact h.1
   | succ i=>exact ih h.2 i
theorem tok_left {a b:List Tk} {e e':Int} {i:Nat} (h:i < a.length):sameT (tokP (a ++ b) e i) (tokP a e' i):=by
 unfold tokP
 rw [List.getElem?_append_left h,List.getElem?_eq_getElem h]
 exact ⟨rfl,rfl,rfl⟩
theorem tok_right {a b:List Tk} {e:Int} (i:Nat):tokP (a ++ b) e (a.length + i)=tokP b e i:=by
 unfold tokP
 rw [List.getElem?_append_right (by omega),show a.length + i - a.length=i by omega]
theorem tk_le':∀ (f:Nat) (b:Nat) (l:List UInt8),l.length ≤ f→∀ ts,tk b l = .inr ts→ts.length ≤ l.length:=fun f b l hf ts h=>by
 rcases Nat.lt_or_ge l.length ts.length with h1 | h1
 ·exfalso
  have hpos:∀ i,i < ts.length→∀ t,ts[i]? = some t→((b + i:Nat):Int) ≤ t.a:=by
   intro i
   induction i with
   | zero=>
    intro _ t ht
    obtain ⟨p,hp,_⟩:=tk_at f b l hf ts h 0 t ht
    rw [hp];omega
   | succ i ih=>
    intro hi t ht
    obtain ⟨p,hp,_,hbef,_⟩:=tk_at f b l hf ts h (i + 1) t ht
    obtain ⟨u,hu⟩:∃ u,ts[i]? = some u:=⟨ts[i],by simp⟩
    have h2:=ih (by omega) u hu
    have h3:=hbef i u (by omega) hu
    omega
  obtain ⟨t,ht⟩:∃ t,ts[l.length]? = some t:=⟨ts[l.length],by simp⟩
  have h2:=hpos l.length h1 t ht
  obtain ⟨p,hp,hlt,_⟩:=tk_at f b l hf ts h l.length t ht
  omega
 ·exact h1
theorem toksL_le' {s:List UInt8} {L:List Tk} (h:tk 0 s = .inr L):L.length ≤ s.length:=tk_le' _ 0 s (Nat.le_refl _) L h
end Go.Proofs.YtmdogmpcmkfjpaaGreatDoor.Dt
namespace Go.Proofs.YtmdogmpcmkfjpaaGreatDoor.Dt
open Go.Lib
set_option linter.unusedVariables false
section
variable {K:List Tk} {en:Int}
theorem dull_if {α:Type} {s:PS} (h:Dull (tokP K en s.k)) {t:ByteArray} (h1:t ≠ BSEMI) (h2:t ≠ BCLOSE) (p q:Rd α):bnd (isM K en t) (fun b=>if b then p else q) s=q s:=by
 rw [bnd_of (dull_isM h h1 h2)]
 simp only [Bool.false_eq_true,if_false]
theorem dull_rest {s:PS} (h:Dull (tokP K en s.k)):restM K en s=({},failP K en 6 s):=by
 unfold restM
 rw [dull_if h (by decide) (by decide),dull_if h (by decide) (by decide),dull_if h (by decide) (by decide),dull_if h (by decide) (by decide),dull_if h (by decide) (by decide)]
 rfl
theorem dull_stmt {s:PS} (h:Dull (tokP K en s.k)):stmtM K en s=({},failP K en 6 s):=by
 unfold stmtM
 rw [dull_if h (by decide) (by decide),dull_if h (by decide) (by decide),dull_if h (by decide) (by decide),dull_if h (by decide) (by decide),dull_if h (by decide) (by decide),dull_if h (by decide) (by decide)]
 exact dull_rest h
def semiM (K:List Tk) (en:Int):Rd Unit:=fun s=>if s.k < K.length then mustM K en [BSEMI] s else ((),s)
theorem stmts_step (f:Nat) {s:PS} (he:s.e=0) (hk:s.k < K.length):stmtsM K en (f + 1) s=bnd (stmtM K en) (fun x=>bnd (semiM K en) fun _=>bnd (stmtsM K en f) fun r=>ret (x :: r)) s:=by
 show (if s.e=0∧s.k < K.length then _ else _)=_
 rw [if_pos ⟨he,hk⟩]
 rfl
theorem stmts_end (f:Nat) {s:PS} (h:¬ (s.e=0∧s.k < K.length)):stmtsM K en (f + 1) s=([],s):=by
 show (if s.e=0∧s.k < K.length then _ else _)=_
 rw [if_neg h]
theorem semi_err {s:PS} (h:s.e ≠ 0):(semiM K en s).2.e ≠ 0:=by
 unfold semiM
 split
 ·exact (must_mono _ s).2 h
 ·exact h
theorem stmts_err:∀ (f:Nat) (s:PS),s.e ≠ 0→(stmtsM K en f s).2.e ≠ 0
 | 0,s,h=>by show (99:Nat) ≠ 0;decide
 | f + 1,s,h=>by rw [stmts_end f (fun x=>h x.1)];exact h
theorem semi_ok {s:PS} (he:s.e=0) (hk:s.k < K.length) (h:(semiM K en s).2.e=0):semiM K en s=((),s.next)∧(tokP K en s.k).k ≠ 0∧(tokP K en s.k).s=BSEMI∧isB K en BSEMI s=true:=by
 unfold semiM at h ⊢
 rw [if_pos hk] at h ⊢
 cases hb:isB K en BSEMI s with
 | true=>
  have e:isM K en BSEMI s=(true,s.next):=by unfold isM;rw [hb];rfl
  have h1:=(isB_iff.1 hb).2
  refine ⟨?_,by omega,h1.2,rfl⟩
  show bnd (isM K en BSEMI) _ s=_
  rw [bnd_of e]
  rfl
 | false=>
  have e:isM K en BSEMI s=(false,s):=by unfold isM;rw [hb];rfl
  have:mustM K en [BSEMI] s=((),failP K en 6 s):=by
   show bnd (isM K en BSEMI) _ s=_
   rw [bnd_of e]
   rfl
  rw [this] at h
  exact absurd h (failP_k 6 s (by decide)).2
end
def Agree (L:List Tk) (en:Int) (K:List Tk) (en':Int) (d:Nat):Prop:=(∀ i,i < L.length→sameT (tokP L en i) (tokP K en' (i + d)))∧L.length + d ≤ K.length
section
variable {L:List Tk} {en:Int}
theorem stmts_more:∀ (f:Nat) (s s1:PS) (A:List PSt),s.e=0→s.k ≤ L.length→stmtsM L en f s=(A,s1)→s1.e=0 →
 (∀ (K:List Tk) (en':Int) (d:Nat) (s':PS),Agree L en K en' d→s'.e=0→s.k + d=s'.k→∃ b,∀ f',stmtsM K en' (f' + A.length) s'=(A ++ (stmtsM K en' f' ⟨L.length + d,0,b⟩).1,(stmtsM K en' f' ⟨L.length + d,0,b⟩).2)) ∨
 (A ≠ []∧∀ (K:List Tk) (en':Int) (d:Nat) (s':PS),Agree L en K en' d→Dull (tokP K en' (L.length + d))→s'.e=0→s.k + d=s'.k →
  ∃ b,∀ f',stmtsM K en' (f' + A.length) s'=(A ++ (bnd (semiM K en') (fun _=>stmtsM K en' f') ⟨L.length + d,0,b⟩).1,(bnd (semiM K en') (fun _=>stmtsM K en' f') ⟨L.length + d,0,b⟩).2))
 | 0,s,s1,A,he,hk,h,h1=>by
  have:(stmtsM L en 0 s).2.e=99:=rfl
  rw [h] at this
  simp only at this
  omega
 | f + 1,s,s1,A,he,hk,h,h1=>by
  by_cases hlt:s.k < L.length
  ·rw [stmts_step f he hlt] at h
   obtain ⟨⟨x,s2⟩,hx⟩:∃ r,stmtM L en s=r:=⟨_,rfl⟩
   rw [bnd_of hx] at h
   obtain ⟨⟨u,s3⟩,hy⟩:∃ r,semiM L en s2=r:=⟨_,rfl⟩
   rw [bnd_of hy] at h
   obtain ⟨⟨B,s4⟩,hz⟩:∃ r,stmtsM L en f s3=r:=⟨_,rfl⟩
   rw [bnd_of hz] at h
   obtain ⟨rfl,rfl⟩:A=x :: B∧s1=s4:=by cases h;exact ⟨rfl,rfl⟩
   have e3:s3.e=0:=Classical.byContradiction fun hn=>by have:=stmts_err (K:=L) (en:=en) f s3 hn;rw [hz] at this;exact this h1
   have e2:s2.e=0:=Classical.byContradiction fun hn=>by have:=semi_err (K:=L) (en:=en) hn;rw [hy] at this;exact this e3
   have hmo:=(Sim.stmtM (L:=L) (L':=L) (en:=en) (en':=en) (d:=0)).mono s
   have hle:=(Sim.stmtM (L:=L) (L':=L) (en:=en) (en':=en) (d:=0)).le s hk
   rw [hx] at hmo hle
   simp only at hmo hle
   by_cases hk2:s2.k < L.length
   ·have hsem:=semi_ok (K:=L) (en:=en) e2 hk2 (by rw [hy];exact e3)
    rw [hy] at hsem
    obtain rfl:s3=s2.next:=(Prod.mk.inj hsem.1).2
    have step:∀ (K:List Tk) (en':Int) (d:Nat) (s':PS),Agree L en K en' d→s'.e=0→s.k + d=s'.k→∃ s2':PS,stmtM K en' s'=(x,s2')∧semiM K en' s2'=((),s2'.next)∧s2'.e=0∧s2.k + d=s2'.k∧s'.k < K.length:=fun K en' d s' ha hs' hd=>by
     have hg:=(Sim.stmtM (L:=L) (L':=K) (en:=en) (en':=en') (d:=d)).go s s' hd he hs' (by rw [hx];exact e2) (by rw [hx];intro i hi1 hi2;exact ha.1 i (Nat.lt_trans hi2 hk2)) (by rw [hx];exact .inl (ha.1 s2.k hk2))
     rw [hx] at hg
     obtain ⟨g1,g2,g3⟩:=hg
     refine ⟨(stmtM K en' s').2,Prod.ext g1 rfl,?_,g3,g2.symm,by have:=ha.2;omega⟩
     have hb:isB K en' BSEMI (stmtM K en' s').2=true:=by
      have h9:=ha.1 s2.k hk2
      have h8:=(isB_iff.1 hsem.2.2.2).2
      rw [isB_iff]
      simp only at g2
      rw [g2]
      exact ⟨g3,by rw [← h9.1];exact h8.1,by rw [← h9.2.1];exact h8.2⟩
     unfold semiM
     simp only at g2
     rw [if_pos (by rw [g2];have:=ha.2;omega)]
     show bnd (isM K en' BSEMI) _ _=_
     rw [bnd_of (show isM K en' BSEMI (stmtM K en' s').2=(true,(stmtM K en' s').2.next) by unfold isM;rw [hb];rfl)]
     rfl
    rcases stmts_more f s2.next s1 B e2 hk2 hz h1 with ih | ⟨hne,ih⟩
    ·refine .inl fun K en' d s' ha hs' hd=>?_
     obtain ⟨s2',g1,g2,g3,g4,g5⟩:=step K en' d s' ha hs' hd
     obtain ⟨b,hb⟩:=ih K en' d s2'.next ha g3 (by show s2.k + 1 + d=s2'.k + 1;omega)
     refine ⟨b,fun f'=>?_⟩
     rw [show f' + (x :: B).length=f' + B.length + 1 from rfl,stmts_step _ hs' g5,bnd_of g1,bnd_of g2,bnd_of (hb f')]
     rfl
    ·refine .inr ⟨by simp,fun K en' d s' ha hdu hs' hd=>?_⟩
     obtain ⟨s2',g1,g2,g3,g4,g5⟩:=step K en' d s' ha hs' hd
     obtain ⟨b,hb⟩:=ih K en' d s2'.next ha hdu g3 (by show s2.k + 1 + d=s2'.k + 1;omega)
     refine ⟨b,fun f'=>?_⟩
     rw [show f' + (x :: B).length=f' + B.length + 1 from rfl,stmts_step _ hs' g5,bnd_of g1,bnd_of g2,bnd_of (hb f')]
     rfl
   ·have hkn:s2.k=L.length:=by omega
    have hs3:s3=s2:=by
     unfold semiM at hy
     rw [if_neg hk2] at hy
     exact (Prod.mk.inj hy).2.symm
    subst hs3
    have hB:B = []:=by
     cases f with
     | zero=>have:(stmtsM L en 0 s3).2.e=99:=rfl;rw [hz] at this;simp only at this;omega
     | succ f=>rw [stmts_end f (fun x=>hk2 x.2)] at hz;exact (Prod.mk.inj hz).1.symm
    subst hB
    refine .inr ⟨by simp,fun K en' d s' ha hdu hs' hd=>?_⟩
    have hg:=(Sim.stmtM (L:=L) (L':=K) (en:=en) (en':=en') (d:=d)).go s s' hd he hs' (by rw [hx];exact e2) (by rw [hx];intro i hi1 hi2;exact ha.1 i (by simp only at hi2;omega)) (by rw [hx];simp only;rw [hkn];exact .inr ⟨.inl (tokP_end (by omega)),hdu⟩)
    rw [hx] at hg
    obtain ⟨g1,g2,g3⟩:=hg
    obtain ⟨⟨y,k,e,b⟩,hr⟩:∃ r,stmtM K en' s'=r:=⟨_,rfl⟩
    rw [hr] at g1 g2 g3
    simp only at g1 g2 g3
    refine ⟨b,fun f'=>?_⟩
    rw [show f' + [x].length=f' + 1 from rfl,stmts_step _ hs' (by have:=ha.2;omega),bnd_of hr,g1,g2,g3,hkn]
    rfl
  ·rw [stmts_end f (fun x=>hlt x.2)] at h
   obtain ⟨rfl,rfl⟩:=Prod.mk.inj h
   refine .inl fun K en' d s' ha hs' hd=>⟨s'.a,fun f'=>?_⟩
   have e:s'=⟨L.length + d,0,s'.a⟩:=by
    obtain ⟨k,e,a⟩:=s'
    simp only at hs' hd
    subst hs'
    congr 1
    omega
   rw [← e]
   rfl
theorem stmts_len:∀ (f:Nat) (s s1:PS) (A:List PSt),s.k ≤ L.length→stmtsM L en f s=(A,s1)→s1.e=0→A.length + s.k ≤ L.length
 | 0,s,s1,A,hk,h,h1=>by
  have:(stmtsM L en 0 s).2.e=99:=rfl
  rw [h] at this
  simp only at this
  omega
 | f + 1,s,s1,A,hk,h,h1=>by
  by_cases hlt:s.e=0∧s.k < L.length
  ·rw [stmts_step f hlt.1 hlt.2] at h
   obtain ⟨⟨x,s2⟩,hx⟩:∃ r,stmtM L en s=r:=⟨_,rfl⟩
   rw [bnd_of hx] at h
   obtain ⟨⟨u,s3⟩,hy⟩:∃ r,semiM L en s2=r:=⟨_,rfl⟩
   rw [bnd_of hy] at h
   obtain ⟨⟨B,s4⟩,hz⟩:∃ r,stmtsM L en f s3=r:=⟨_,rfl⟩
   rw [bnd_of hz] at h
   obtain ⟨rfl,rfl⟩:A=x :: B∧s1=s4:=by cases h;exact ⟨rfl,rfl⟩
   have e3:s3.e=0:=Classical.byContradiction fun hn=>by have:=stmts_err (K:=L) (en:=en) f s3 hn;rw [hz] at this;exact this h1
   have e2:s2.e=0:=Classical.byContradiction fun hn=>by have:=semi_err (K:=L) (en:=en) hn;rw [hy] at this;exact this e3
   have hp:=Prog.stmtM (L:=L) (en:=en) s (by rw [hx];exact e2)
   have hle:=(Sim.stmtM (L:=L) (L':=L) (en:=en) (en':=en) (d:=0)).le s hk
   rw [hx] at hp hle
   simp only at hp hle
   have h3:s2.k ≤ s3.k∧s3.k ≤ L.length:=by
    unfold semiM at hy
    split at hy
    ·have g1:=(must_mono (L:=L) (en:=en) [BSEMI] s2).1
     have g2:=must_le (en:=en) [BSEMI] s2 hle
     rw [hy] at g1 g2
     exact ⟨g1,g2⟩
    ·obtain rfl:=(Prod.mk.inj hy).2
     exact ⟨Nat.le_refl _,hle⟩
   have:=stmts_len f s3 s1 B h3.2 hz h1
   rw [List.length_cons];omega
  ·rw [stmts_end f hlt] at h
   obtain ⟨rfl,rfl⟩:=Prod.mk.inj h
   simpa using hk
end
theorem scriptL_run {s:List UInt8} {A:List PSt} (h:scriptL s = .inr A):∃ L s1,toksL s = .inr L∧stmtsM L (s.length:Int) FU ⟨0,0,0⟩=(A,s1)∧s1.e=0:=by
 unfold scriptL at h
 cases ht:toksL s with
 | inl e=>rw [ht] at h;cases h
 | inr L=>
  rw [ht] at h
  simp only at h
  obtain ⟨r,hr⟩:∃ r,r=stmtsM L (s.length:Int) FU ⟨0,0,0⟩:=⟨_,rfl⟩
  rw [← hr] at h
  by_cases he:r.2.e=0
  ·rw [if_pos he] at h
   cases h
   exact ⟨L,r.2,rfl,hr.symm,he⟩
  ·rw [if_neg he] at h;cases h
theorem one_semi (Y:List UInt8):oneL (59 :: Y) = .tok 6 [59] 0 1:=by
 unfold oneL signOne
 have h2:(59 :: Y).take 2 ∉ twosL:=by
  intro e
  show False
  simp [twosL] at e
 rw [if_neg (by show ¬ (59:UInt8)=39;decide),if_neg (by show ¬ ((59:UInt8)=120∧_);intro h;exact absurd h.1 (by decide)),if_neg (by show ¬ (smallB 59 || capB 59)=true;decide),if_neg (by show ¬ digB 59=true;decide),if_neg h2,if_pos (by show (59:UInt8) ∈ signsL;decide)];rfl
theorem tk_semi (b:Nat) (Y:List UInt8):tk b (59 :: Y)=preT [⟨6,BSEMI,0,(b:Int)⟩] (tk (b + 1) Y):=by
 have hs:skipL (59 :: Y)=0:=by
  refine skip_none (by show blankB 59=false;decide) (fun h=>?_)
  have h1:(59:UInt8)=45:=h.1
  exact absurd h1 (by decide)
 rw [tk_step (by simp) hs]
 unfold stepT
 rw [one_semi Y]
 simp only
 rw [if_neg (fun h=>h.1 rfl)]
 rw [show (59 :: Y).drop 1=Y from rfl]
 cases tk (b + 1) Y <;> rfl
theorem run_rest {M K:List Tk} {en en':Int} {B:List PSt} {s1:PS} (h:stmtsM M en FU ⟨0,0,0⟩=(B,s1)) (he:s1.e=0) {d:Nat} (ha:Agree M en K en' d) (hlen:K.length=M.length + d) (g:Nat) (hg:B.length + 1 ≤ g) (a:Int) :
 (stmtsM K en' g ⟨d,0,a⟩).1=B∧(stmtsM K en' g ⟨d,0,a⟩).2.e=0:=by
 obtain ⟨f',rfl⟩:∃ f',g=f' + 1 + B.length:=⟨g - 1 - B.length,by omega⟩
 rcases stmts_more FU ⟨0,0,0⟩ s1 B rfl (Nat.zero_le _) h he with hc | ⟨_,hc⟩
 ·obtain ⟨b,hb⟩:=hc K en' d ⟨d,0,a⟩ ha rfl (Nat.zero_add _)
  rw [hb,stmts_end f' (fun x=>by have:=x.2;simp only at this;omega)]
  exact ⟨List.append_nil _,rfl⟩
 ·obtain ⟨b,hb⟩:=hc K en' d ⟨d,0,a⟩ ha (.inl (tokP_end (by omega))) rfl (Nat.zero_add _)
  have hs:semiM K en' ⟨M.length + d,0,b⟩=((),⟨M.length + d,0,b⟩):=by unfold semiM;rw [if_neg (by simp only;omega)]
  rw [hb,bnd_of hs,stmts_end f' (fun x=>by have:=x.2;simp only at this;omega)]
  exact ⟨List.append_nil _,rfl⟩
end Go.Proofs.YtmdogmpcmkfjpaaGreatDoor.Dt
namespace Go.Proofs.YtmdogmpcmkfjpaaGreatDoor.Dt
open Go.Lib
set_option linter.unusedVariables false
theorem tk_at0 {t:List UInt8} {M:List Tk} (h:tk 0 t = .inr M) (c:Nat):∃ M',tk c t = .inr M'∧sameL M' M:=by
 have hsh:=tk_shift c t.length 0 t (Nat.le_refl _)
 rw [h,Nat.zero_add] at hsh
 exact ⟨_,hsh,sameL_map _ M⟩
theorem tk_nl0 (b:Nat) (t:List UInt8):tk b (10 :: t)=tk (b + 1) t:=by
 have:=tk_nl 0 b [] (Nat.le_refl _) [] (tk_nil b) t
 rw [List.nil_append] at this
 rw [this]
 show preT [] (tk (b + 0 + 1) t)=_
 rw [Nat.add_zero]
 cases tk (b + 1) t <;> rfl
theorem scriptL_of {T:List UInt8} {K:List Tk} {X:List PSt} (ht:toksL T = .inr K) (h1:(stmtsM K (T.length:Int) FU ⟨0,0,0⟩).1=X) (h2:(stmtsM K (T.length:Int) FU ⟨0,0,0⟩).2.e=0):scriptL T = .inr X:=by
 unfold scriptL
 rw [ht]
 simp only [h2,if_true,h1]
theorem scriptL_bad {T:List UInt8} {K:List Tk} (ht:toksL T = .inr K) (h2:(stmtsM K (T.length:Int) FU ⟨0,0,0⟩).2.e ≠ 0):∃ e a,scriptL T = .inl (e,a)∧e ≠ 0:=by
 unfold scriptL
 rw [ht]
 simp only [h2,if_false]
 exact ⟨_,_,rfl,h2⟩
theorem joins {s t:List UInt8} {A B:List PSt} (hA:scriptL s = .inr A) (hB:scriptL t = .inr B) (hl:s.length + t.length + 3 ≤ 4096) :
 scriptL (s ++ 10 :: 59 :: 10 :: t) = .inr (A ++ B) ∨ ((∃ e a,scriptL (s ++ 10 :: 59 :: 10 :: t) = .inl (e,a)∧e ≠ 0)∧scriptL (s ++ 10 :: t) = .inr (A ++ B)):=by
 obtain ⟨L,s1,hL,rL,eL⟩:=scriptL_run hA
 obtain ⟨M,s2,hM,rM,eM⟩:=scriptL_run hB
 have tL:tk 0 s = .inr L:=by rw [toksL_eq,if_neg (by omega)] at hL;exact hL
 have tM:tk 0 t = .inr M:=by rw [toksL_eq,if_neg (by omega)] at hM;exact hM
 have hln:=toksL_le' tL
 have hmn:=toksL_le' tM
 have lA:=stmts_len FU ⟨0,0,0⟩ s1 A (Nat.zero_le _) rL eL
 have lB:=stmts_len FU ⟨0,0,0⟩ s2 B (Nat.zero_le _) rM eM
 simp only [Nat.add_zero] at lA lB
 obtain ⟨M1,hM1,sM1⟩:=tk_at0 tM (s.length + 1 + 1 + 1)
 obtain ⟨M2,hM2,sM2⟩:=tk_at0 tM (s.length + 1)
 obtain ⟨T1,eT1⟩:∃ T1,T1=s ++ 10 :: 59 :: 10 :: t:=⟨_,rfl⟩
 obtain ⟨T2,eT2⟩:∃ T2,T2=s ++ 10 :: t:=⟨_,rfl⟩
 have lT1:T1.length ≤ 4096:=by rw [eT1];simp;omega
 have lT2:T2.length ≤ 4096:=by rw [eT2];simp;omega
 have k1:toksL T1 = .inr (L ++ (⟨6,BSEMI,0,((s.length + 1:Nat):Int)⟩ :: M1)):=by
  rw [toksL_eq,if_neg (by omega),eT1,tk_nl s.length 0 s (Nat.le_refl _) L tL,Nat.zero_add,tk_semi,tk_nl0,hM1]
  rfl
 have k2:toksL T2 = .inr (L ++ M2):=by
  rw [toksL_eq,if_neg (by omega),eT2,tk_nl s.length 0 s (Nat.le_refl _) L tL,Nat.zero_add,hM2]
  rfl
 have m1:=sameL_length sM1
 have m2:=sameL_length sM2
 have a1:Agree L (s.length:Int) (L ++ (⟨6,BSEMI,0,((s.length + 1:Nat):Int)⟩ :: M1)) (T1.length:Int) 0:=⟨fun i hi=>sameT_symm (tok_left hi),by simp⟩
 have a2:Agree L (s.length:Int) (L ++ M2) (T2.length:Int) 0:=⟨fun i hi=>sameT_symm (tok_left hi),by simp⟩
 have b1:Agree M (t.length:Int) (L ++ (⟨6,BSEMI,0,((s.length + 1:Nat):Int)⟩ :: M1)) (T1.length:Int) (L.length + 1):=⟨fun i hi=>by
  have h1:=tok_right (a:=L) (b:=(⟨6,BSEMI,0,((s.length + 1:Nat):Int)⟩ :: M1)) (e:=(T1.length:Int)) (i + 1)
  rw [show i + (L.length + 1)=L.length + (i + 1) by omega,h1]
  exact sameT_symm (sameL_tok sM1 (T1.length:Int) (t.length:Int) i),by simp;omega⟩
 have b2:Agree M (t.length:Int) (L ++ M2) (T2.length:Int) L.length:=⟨fun i hi=>by
  have h1:=tok_right (a:=L) (b:=M2) (e:=(T2.length:Int)) i
  rw [show i + L.length=L.length + i by omega,h1]
  exact sameT_symm (sameL_tok sM2 (T2.length:Int) (t.length:Int) i),by simp;omega⟩
 have hsemi:tokP (L ++ (⟨6,BSEMI,0,((s.length + 1:Nat):Int)⟩ :: M1)) (T1.length:Int) L.length=⟨6,BSEMI,0,((s.length + 1:Nat):Int)⟩:=tok_right (a:=L) (b:=(⟨6,BSEMI,0,((s.length + 1:Nat):Int)⟩ :: M1)) (e:=(T1.length:Int)) 0
 have hdu:Dull (tokP (L ++ (⟨6,BSEMI,0,((s.length + 1:Nat):Int)⟩ :: M1)) (T1.length:Int) (L.length + 0)):=by
  show Dull (tokP _ _ L.length)
  rw [hsemi]
  exact .inr ⟨rfl,.inl rfl⟩
 have hFU:FU=100000:=rfl
 rw [← eT1,← eT2]
 obtain ⟨g,hg⟩:∃ g,FU=g + 1 + A.length:=⟨FU - 1 - A.length,by omega⟩
 rcases stmts_more FU ⟨0,0,0⟩ s1 A rfl (Nat.zero_le _) rL eL with hc | ⟨_,hc⟩
 ·refine .inr ⟨?_,?_⟩
  ·obtain ⟨b,hb⟩:=hc _ (T1.length:Int) 0 ⟨0,0,0⟩ a1 rfl rfl
   have h1:=hb (g + 1)
   rw [← hg] at h1
   refine scriptL_bad k1 ?_
   rw [h1]
   show (stmtsM _ _ (g + 1) ⟨L.length + 0,0,b⟩).2.e ≠ 0
   rw [stmts_step g rfl (by simp),bnd_of (dull_stmt (s:=⟨L.length + 0,0,b⟩) hdu)]
   obtain ⟨⟨u,s3⟩,hy⟩:∃ r,semiM (L ++ (⟨6,BSEMI,0,((s.length + 1:Nat):Int)⟩ :: M1)) (T1.length:Int) (failP (L ++ (⟨6,BSEMI,0,((s.length + 1:Nat):Int)⟩ :: M1)) (T1.length:Int) 6 ⟨L.length + 0,0,b⟩)=r:=⟨_,rfl⟩
   rw [bnd_of hy]
   have e3:s3.e ≠ 0:=by
    have:=semi_err (K:=(L ++ (⟨6,BSEMI,0,((s.length + 1:Nat):Int)⟩ :: M1))) (en:=(T1.length:Int)) (s:=failP (L ++ (⟨6,BSEMI,0,((s.length + 1:Nat):Int)⟩ :: M1)) (T1.length:Int) 6 ⟨L.length + 0,0,b⟩) (failP_k 6 _ (by decide)).2
    rw [hy] at this
    exact this
   exact stmts_err g s3 e3
  ·obtain ⟨b,hb⟩:=hc _ (T2.length:Int) 0 ⟨0,0,0⟩ a2 rfl rfl
   have h1:=hb (g + 1)
   rw [← hg] at h1
   obtain ⟨r1,r2⟩:=run_rest rM eM b2 (by simp;omega) (g + 1) (by omega) b
   refine scriptL_of k2 ?_ ?_
   ·rw [h1];show A ++ (stmtsM _ _ (g + 1) ⟨L.length,0,b⟩).1=_;rw [r1]
   ·rw [h1];exact r2
 ·refine .inl ?_
  obtain ⟨b,hb⟩:=hc _ (T1.length:Int) 0 ⟨0,0,0⟩ a1 hdu rfl rfl
  have h1:=hb (g + 1)
  rw [← hg] at h1
  have hs:semiM (L ++ (⟨6,BSEMI,0,((s.length + 1:Nat):Int)⟩ :: M1)) (T1.length:Int) ⟨L.length + 0,0,b⟩=((),⟨L.length + 1,0,b⟩):=by
   unfold semiM
   rw [if_pos (by simp)]
   show bnd (isM _ _ BSEMI) _ _=_
   rw [bnd_of (yes_isM (t:=BSEMI) (s:=⟨L.length + 0,0,b⟩) rfl (by rw [show (⟨L.length + 0,0,b⟩:PS).k=L.length from rfl,hsemi]) (by rw [show (⟨L.length + 0,0,b⟩:PS).k=L.length from rfl,hsemi]))]
   rfl
  rw [bnd_of hs] at h1
  obtain ⟨r1,r2⟩:=run_rest rM eM b1 (by simp;omega) (g + 1) (by omega) b
  refine scriptL_of k1 ?_ ?_
  ·rw [h1];show A ++ (stmtsM _ _ (g + 1) ⟨L.length + 1,0,b⟩).1=_;rw [r1]
  ·rw [h1];exact r2
end Go.Proofs.YtmdogmpcmkfjpaaGreatDoor.Dt
