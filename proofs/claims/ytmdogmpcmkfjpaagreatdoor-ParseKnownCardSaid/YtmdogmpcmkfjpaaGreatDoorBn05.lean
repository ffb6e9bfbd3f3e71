import Derived.Test.YtmdogmpcmkfjpaaGreatDoorBn04
/- Part of the proof (merged). -/
namespace Go.Proofs.YtmdogmpcmkfjpaaGreatDoor.Dt
open Go.Lib
set_option linter.unusedVariables false
section
variable {L:List Tk} {en:Int}
theorem lvl_le (m:Md):lvl m ≤ 8:=by
 cases m with
 | sum k=>unfold lvl;by_cases h0:k=0 <;> by_cases h1:k=1 <;> by_cases h2:k=2 <;> simp [h0,h1,h2]
 | _=>simp [lvl]
theorem fu_eq {m:Md} {s:PS} (hk:s.k ≤ L.length) (hl:L.length ≤ 4096) (hm:∀ k,m = .sum k→k ≤ 3):exF L en FU m s=exF L en (FU + 1) m s:=by
 have:=lvl_le m
 have hf:FU=100000:=rfl
 exact ex_fuel FU (FU + 1) m s hk (by omega) (by omega) hm
theorem fu_expr {s:PS} (hk:s.k ≤ L.length) (hl:L.length ≤ 4096):exF L en FU .expr s=chainL L en [(WOR,19)] (chainL L en [(WAND,18)] (exF L en FU .not) FU) FU s:=fu_eq hk hl (fun k h=>by cases h)
theorem fu_not {s:PS} (hk:s.k ≤ L.length) (hl:L.length ≤ 4096):exF L en FU .not s=(bnd (isM L en WNOT) fun b=>if b then bnd (exF L en FU .not) fun x=>ret (PE.node 4 [x])
 else bnd (exF L en FU (.sum 0)) fun x=>bnd (isM L en WIS) fun b=>if b then
  (bnd (isM L en WNOT) fun b=>bnd (mustM L en [WNULL]) fun _=>ret (if b then PE.node 4 [PE.node 5 [x]] else PE.node 5 [x]))
  else bnd (oneOf L en cmps) fun o=>match o with
   | some o=>bnd (exF L en FU (.sum 0)) fun y=>ret (PE.node o [x,y])
   | none=>ret x) s:=fu_eq hk hl (fun k h=>by cases h)
theorem fu_sum {k:Nat} {s:PS} (hk:s.k ≤ L.length) (hl:L.length ≤ 4096) (h3:k ≤ 3):exF L en FU (.sum k) s=(if k=3 then exF L en FU .unary else chainL L en (opsOf k) (exF L en FU (.sum (k + 1))) FU) s:=fu_eq hk hl (fun k h=>by cases h;exact h3)
theorem fu_unary {s:PS} (hk:s.k ≤ L.length) (hl:L.length ≤ 4096):exF L en FU .unary s=(bnd (isM L en BMINUS) fun b=>if b then
      (bnd (negM L en) fun n=>match n with
       | some n=>ret (PE.val1 ⟨1,-(n:Int),⟨#[]⟩⟩)
       | none=>bnd (exF L en FU .unary) fun x=>ret (PE.node 3 [x]))
 else exF L en FU .prim) s:=fu_eq hk hl (fun k h=>by cases h)
theorem fu_prim {s:PS} (hk:s.k ≤ L.length) (hl:L.length ≤ 4096):exF L en FU .prim s=(bnd (litM L en) fun r=>match r with
 | some x=>ret x
 | none=>bnd (nameQ L en) fun r=>match r with
  | some t=>bnd (isM L en BDOT) fun b=>if b then bnd (nameM L en) fun m=>ret (.mk 2 V00 t m 0 []) else ret (.mk 2 V00 ⟨#[]⟩ t 0 [])
  | none=>bnd (isM L en WNULL) fun b=>if b then ret (PE.val1 V00)
   else bnd (isM L en BOPEN) fun b=>if b then bnd (exF L en FU .expr) fun x=>bnd (mustM L en [BCLOSE]) fun _=>ret x
   else bnd (isM L en WCOUNT) fun b=>if b then
    (bnd (mustM L en [BOPEN]) fun _=>bnd (isM L en BSTAR) fun b=>if b then bnd (mustM L en [BCLOSE]) fun _=>ret (PE.node 20 [])
     else bnd (exF L en FU .expr) fun x=>bnd (mustM L en [BCLOSE]) fun _=>ret (PE.node 20 [x]))
   else bnd (oneOf L en groups) fun o=>match o with
    | some o=>bnd (mustM L en [BOPEN]) fun _=>bnd (exF L en FU .expr) fun x=>bnd (mustM L en [BCLOSE]) fun _=>ret (PE.node o [x])
    | none=>bnd (failM L en 6) fun _=>ret PE.zero) s:=fu_eq hk hl (fun k h=>by cases h)
def cL {α:Type} (O:List α) (r:List α × PS):List α × PS:=(if r.2.e=0 then O ++ r.1 else [],r.2)
theorem bndE {α β:Type} {p:Rd α} {q:α→Rd β} {s s1:PS} {x:α} (h:p s=(x,s1)):bnd p q s=q x s1:=by unfold bnd;rw [h]
theorem isY {β:Type} {t:ByteArray} {q:Bool→Rd β} {s:PS} (h:isB L en t s=true):bnd (isM L en t) q s=q true s.next:=bndE (by unfold isM;rw [h];rfl)
theorem isN {β:Type} {t:ByteArray} {q:Bool→Rd β} {s:PS} (h:isB L en t s=false):bnd (isM L en t) q s=q false s:=bndE (by unfold isM;rw [h];rfl)
theorem okY {β:Type} {q:Bool→Rd β} {s:PS} (h:s.e=0):bnd okM q s=q true s:=bndE (by unfold okM;rw [decide_eq_true h])
theorem okN {β:Type} {q:Bool→Rd β} {s:PS} (h:s.e ≠ 0):bnd okM q s=q false s:=bndE (by unfold okM;rw [decide_eq_false h])
theorem list_out {α:Type} {one:Rd α} {f:Nat} {s s1:PS} {x:α} (h:one s=(x,s1)) (he:s1.e ≠ 0):listM L en one (f + 1) s=([],s1):=by
 show bnd one _ s=_
 rw [bndE h,okN he];rfl
theorem list_end {α:Type} {one:Rd α} {f:Nat} {s s1:PS} {x:α} (h:one s=(x,s1)) (he:s1.e=0) (hb:isB L en BCOMMA s1=false):listM L en one (f + 1) s=([x],s1):=by
 show bnd one _ s=_
 rw [bndE h,okY he,if_pos rfl,isN hb];rfl
theorem list_more {α:Type} {one:Rd α} {f:Nat} {s s1:PS} {x:α} (h:one s=(x,s1)) (he:s1.e=0) (hb:isB L en BCOMMA s1=true) :
 listM L en one (f + 1) s=((if (listM L en one f s1.next).2.e=0 then x :: (listM L en one f s1.next).1 else []),(listM L en one f s1.next).2):=by
 show bnd one _ s=_
 rw [bndE h,okY he,if_pos rfl,isY hb,if_pos rfl,bndE (p:=listM L en one f) (x:=(listM L en one f s1.next).1) (s1:=(listM L en one f s1.next).2) rfl]
 by_cases h0:(listM L en one f s1.next).2.e=0
 ·rw [okY h0,if_pos h0];rfl
 ·rw [okN h0,if_neg h0];rfl
theorem list_bad {α:Type} (one:Rd α):∀ (f:Nat) (s:PS),(listM L en one f s).2.e ≠ 0→(listM L en one f s).1 = []
 | 0,s,_=>rfl
 | f + 1,s,h=>by
  obtain ⟨⟨x,s1⟩,h1⟩:∃ r,one s=r:=⟨_,rfl⟩
  by_cases h0:s1.e=0
  ·cases hb:isB L en BCOMMA s1 with
   | true=>
    rw [list_more h1 h0 hb] at h ⊢
    exact if_neg h
   | false=>
    rw [list_end h1 h0 hb] at h
    exact absurd h0 h
  ·rw [list_out h1 h0]
theorem cL_nil {α:Type} (one:Rd α) (f:Nat) (s:PS):cL [] (listM L en one f s)=listM L en one f s:=by
 unfold cL
 split
 ·rfl
 ·rename_i h
  rw [← list_bad one f s h]
theorem cL_bad {α:Type} {one:Rd α} {O:List α} {f:Nat} {s s1:PS} {x:α} (h:one s=(x,s1)) (he:s1.e ≠ 0):cL O (listM L en one (f + 1) s)=([],s1):=by
 rw [list_out h he]
 unfold cL
 rw [if_neg he]
theorem cL_end {α:Type} {one:Rd α} {O:List α} {f:Nat} {s s1:PS} {x:α} (h:one s=(x,s1)) (he:s1.e=0) (hb:isB L en BCOMMA s1=false):cL O (listM L en one (f + 1) s)=(O ++ [x],s1):=by
 rw [list_end h he hb]
 unfold cL
 rw [if_pos he]
theorem cL_more {α:Type} {one:Rd α} {O:List α} {f:Nat} {s s1:PS} {x:α} (h:one s=(x,s1)) (he:s1.e=0) (hb:isB L en BCOMMA s1=true):cL O (listM L en one (f + 1) s)=cL (O ++ [x]) (listM L en one f s1.next):=by
 rw [list_more h he hb]
 unfold cL
 simp only
 split
 ·rw [List.append_assoc];rfl
 ·rfl
theorem chain_more {ops:List (ByteArray × Nat)} {one:Rd PE} {f:Nat} {x:PE} {s:PS} {o:Nat} (h:oneOf L en ops s=(some o,s.next)):chainM L en ops one (f + 1) x s=chainM L en ops one f (.node o [x,(one s.next).1]) (one s.next).2:=by
 show bnd (oneOf L en ops) _ s=_
 rw [bndE h];rfl
theorem chain_end {ops:List (ByteArray × Nat)} {one:Rd PE} {f:Nat} {x:PE} {s:PS} (h:oneOf L en ops s=(none,s)):chainM L en ops one (f + 1) x s=(x,s):=by
 show bnd (oneOf L en ops) _ s=_
 rw [bndE h];rfl
theorem oneOf_yes {s:PS} {x:ByteArray × Nat} {l:List (ByteArray × Nat)} (hb:isB L en x.1 s=true):oneOf L en (x :: l) s=(some x.2,s.next):=by
 show bnd (isM L en x.1) _ s=_
 rw [isY hb];rfl
theorem oneOf_no {s:PS} {x:ByteArray × Nat} {l:List (ByteArray × Nat)} (hb:isB L en x.1 s=false):oneOf L en (x :: l) s=oneOf L en l s:=by
 show bnd (isM L en x.1) _ s=_
 rw [isN hb];rfl
theorem isB_bad {t:ByteArray} {s:PS} (he:s.e ≠ 0):isB L en t s=false:=by unfold isB;simp [he]
theorem oneOf_bad {s:PS} (he:s.e ≠ 0):∀ ops:List (ByteArray × Nat),oneOf L en ops s=(none,s)
 | []=>rfl
 | x :: l=>by rw [oneOf_no (isB_bad he)];exact oneOf_bad he l
end
end Go.Proofs.YtmdogmpcmkfjpaaGreatDoor.Dt
