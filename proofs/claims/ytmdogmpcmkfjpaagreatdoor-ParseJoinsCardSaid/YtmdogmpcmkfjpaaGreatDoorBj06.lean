import Derived.Test.YtmdogmpcmkfjpaaGreatDoorBj05
/- Part of the proof (merged). -/
namespace Go.Proofs.YtmdogmpcmkfjpaaGreatDoor.Dt
open Go.Lib
set_option linter.unusedVariables false
def NameOk (s:ByteArray):Prop:=okT ⟨2,s,0,0⟩
def ValOk (v:V):Prop:=(v.k=0∧v.n=0∧v.s=⟨#[]⟩) ∨ (v.k=1∧-9223372036854775808 ≤ v.n∧v.n < 9223372036854775808∧v.s=⟨#[]⟩) ∨ ((v.k=2 ∨ v.k=3)∧v.n=0∧v.s.size ≤ 1000)
inductive ExOk:PE→Prop where
 | val (v:V):ValOk v→ExOk (.mk 1 v ⟨#[]⟩ ⟨#[]⟩ 0 [])
 | col (m:ByteArray):NameOk m→ExOk (.mk 2 V00 ⟨#[]⟩ m 0 [])
 | tcol (t m:ByteArray):NameOk t→NameOk m→ExOk (.mk 2 V00 t m 0 [])
 | one (op:Nat) (x:PE):(op=3 ∨ op=4 ∨ op=5 ∨ (20 ≤ op∧op ≤ 23))→ExOk x→ExOk (.node op [x])
 | two (op:Nat) (x y:PE):6 ≤ op→op ≤ 19→ExOk x→ExOk y→ExOk (.node op [x,y])
 | count:ExOk (.node 20 [])
section
variable {L:List Tk} {en:Int}
def Good {α:Type} (p:Rd α) (Q:α→Prop):Prop:=∀ s:PS,(p s).2.e=0→Q (p s).1
def Keep {α:Type} (p:Rd α):Prop:=∀ s:PS,s.e ≠ 0→(p s).2.e ≠ 0
theorem Good.ret {α:Type} {x:α} {Q:α→Prop} (h:Q x):Good (ret x) Q:=fun _ _=>h
theorem Good.bnd {α β:Type} {p:Rd α} {q:α→Rd β} {Q:α→Prop} {R:β→Prop} (hp:Good p Q) (hk:∀ x,Keep (q x)) (hq:∀ x,Q x→Good (q x) R):Good (bnd p q) R:=fun s h=>
 hq (p s).1 (hp s (Classical.byContradiction fun hn=>hk (p s).1 (p s).2 hn h)) (p s).2 h
theorem Good.any {α:Type} (p:Rd α):Good p (fun _=>True):=fun _ _=>trivial
theorem Good.fail {α:Type} {p:Rd α} (h:∀ s:PS,(p s).2.e ≠ 0) (Q:α→Prop):Good p Q:=fun s h1=>absurd h1 (h s)
theorem Sim.keep {α:Type} {p p':Rd α} (h:Sim L en L en 0 p p'):Keep p:=fun s hs=>(h.mono s).2 hs
theorem Keep.bnd {α β:Type} {p:Rd α} {q:α→Rd β} (hp:Keep p) (hq:∀ x,Keep (q x)):Keep (bnd p q):=fun s h=>hq _ _ (hp s h)
theorem Keep.ret {α:Type} (x:α):Keep (ret x):=fun _ h=>h
theorem Keep.ite {α:Type} (b:Bool) {p q:Rd α} (hp:Keep p) (hq:Keep q):Keep (if b then p else q):=by cases b <;> assumption
def AllOk (L:List Tk):Prop:=∀ t ∈ L,okT t∧t.n ≤ 9223372036854775808∧1 ≤ t.k∧t.k ≤ 6
theorem tok_ok (h:AllOk L) {k:Nat} (hk:(tokP L en k).k ≠ 0):okT (tokP L en k)∧(tokP L en k).n ≤ 9223372036854775808:=by
 have hlt:=tokP_lt hk
 have:tokP L en k ∈ L:=by
  unfold tokP
  rw [List.getElem?_eq_getElem hlt]
  exact List.getElem_mem hlt
 exact ⟨(h _ this).1,(h _ this).2.1⟩
theorem name_ok {t:Tk} (h:okT t) (hk:t.k=2):NameOk t.s:=by
 have e1:textT t=t.s.data.toList:=textT_w (.inr (.inl hk))
 have e2:textT ⟨2,t.s,0,0⟩=t.s.data.toList:=textT_w (t:=⟨2,t.s,0,0⟩) (.inr (.inl rfl))
 obtain ⟨h1,h2,h3⟩:=h
 rw [e1] at h1 h3
 unfold NameOk okT
 rw [e2]
 refine ⟨h1,h2,?_⟩
 rw [h3,hk]
 have:t.n=0:=by
  unfold oneL at h3
  rw [hk] at h3
  split at h3
  ·unfold textOne at h3
   split at h3
   ·cases h3
   ·split at h3 <;> cases h3
  ·split at h3
   ·unfold blobOne at h3
    split at h3
    ·cases h3
    ·split at h3 <;> cases h3
   ·split at h3
    ·unfold wordOne at h3
     split at h3
     ·split at h3 <;> cases h3
     ·split at h3
      ·cases h3
      ·split at h3
       ·cases h3
       ·injection h3 with _ _ hn _
        exact hn.symm
    ·split at h3
     ·unfold numOne at h3
      split at h3
      ·cases h3
      ·split at h3
       ·cases h3
       ·split at h3 <;> cases h3
     ·unfold signOne at h3
      split at h3
      ·cases h3
      ·split at h3 <;> cases h3
 rw [this]
theorem Good.nameM (h:AllOk L):Good (nameM L en) NameOk:=fun s hs=>by
 unfold Dt.nameM at hs ⊢
 split at hs
 ·rename_i hk
  rw [if_pos hk]
  exact name_ok (tok_ok h (by omega)).1 hk.2
 ·exact absurd hs (failP_k 6 s (by decide)).2
theorem Good.nameQ (h:AllOk L):Good (nameQ L en) (fun r=>∀ m,r=some m→NameOk m):=fun s hs m hm=>by
 unfold Dt.nameQ at hs hm
 split at hm
 ·rename_i hk
  cases hm
  exact name_ok (tok_ok h (by omega)).1 hk.2
 ·cases hm
theorem Good.litM (h:AllOk L):Good (litM L en) (fun r=>∀ x,r=some x→ExOk x):=fun s hs x hx=>by
 unfold Dt.litM at hs hx
 simp only at hs hx
 by_cases he:s.e=0
 ·simp only [he,ne_eq,not_true_eq_false,if_false] at hs hx
  split at hx
  ·split at hx
   ·rename_i hk hn
    cases hx
    exact .val _ (.inr (.inl ⟨rfl,by show -9223372036854775808 ≤ (((tokP L en s.k).n:Nat):Int);omega,by show (((tokP L en s.k).n:Nat):Int) < 9223372036854775808;omega,rfl⟩))
   ·rename_i hk hn
    rw [if_pos hk,if_neg hn] at hs
    exact absurd hs (failP_k 5 s (by decide)).2
  ·split at hx
   ·rename_i _ hk
    cases hx
    exact .val _ (.inr (.inr ⟨.inl rfl,rfl,(tok_ok h (k:=s.k) (by omega)).1.2.1⟩))
   ·split at hx
    ·rename_i _ _ hk
     cases hx
     exact .val _ (.inr (.inr ⟨.inr rfl,rfl,(tok_ok h (k:=s.k) (by omega)).1.2.1⟩))
    ·cases hx
 ·rw [if_pos he] at hs
  exact absurd hs he
theorem Good.negM (h:AllOk L):Good (negM L en) (fun r=>∀ n,r=some n→n ≤ 9223372036854775808):=fun s hs n hn=>by
 unfold Dt.negM at hn
 split at hn
 ·rename_i hk
  cases hn
  exact (tok_ok h (by omega)).2
 ·cases hn
theorem Good.oneOf (Q:Nat→Prop):∀ (l:List (ByteArray × Nat)),(∀ x ∈ l,Q x.2)→Good (oneOf L en l) (fun r=>∀ o,r=some o→Q o)
 | [],_=>fun s _ o h=>by cases h
 | x :: l,h=>Good.bnd (Good.any _) (fun b=>Keep.ite b (Keep.ret _) (fun s hs=>by
     rcases oneOf_cases (L:=L) (en:=en) l s with e | ⟨o,e,_⟩
     ·rw [e];exact hs
     ·rw [e];exact hs)) (fun b _=>by
  cases b with
  | true=>exact Good.ret (fun o ho=>by cases ho;exact h x (by simp))
  | false=>exact Good.oneOf Q l (fun y hy=>h y (by simp [hy])))
end
end Go.Proofs.YtmdogmpcmkfjpaaGreatDoor.Dt
namespace Go.Proofs.YtmdogmpcmkfjpaaGreatDoor.Dt
open Go.Lib
set_option linter.unusedVariables false
theorem kpE {p:Prop} (h:p:=by intros;repeat (first | with_reducible refine Keep.bnd ?_ (fun _=>?_) | with_reducible refine Keep.ite _ ?_ ?_ | with_reducible exact Keep.ret _ | with_reducible exact Sim.keep (Sim.mustM _) | with_reducible exact Sim.keep Sim.nameM | with_reducible exact Sim.keep Sim.nameQ | with_reducible exact Sim.keep Sim.litM | with_reducible exact Sim.keep Sim.negM | with_reducible exact Sim.keep Sim.okM | with_reducible exact Sim.keep (Sim.isM _ (by decide) (by decide)) | with_reducible exact Sim.keep (Sim.failM 6 (by decide)) | with_reducible exact Sim.keep (Sim.oneOf _ (by decide)) | with_reducible exact Sim.keep (Sim.exF _ _) | split)):p:=h
section
variable {L:List Tk} {en:Int}
theorem Good.oneOf' {l:List (ByteArray × Nat)} (Q:Nat→Prop) (h:∀ x ∈ l,Q x.2):Good (Dt.oneOf L en l) (fun r=>∀ o,r=some o→Q o):=Good.oneOf Q l h
theorem Good.chainM {ops:List (ByteArray × Nat)} (ho:∀ x ∈ ops,x.1 ≠ BSEMI∧x.1 ≠ BCLOSE) (hn:∀ x ∈ ops,6 ≤ x.2∧x.2 ≤ 19) {one:Rd PE} (hs:Sim L en L en 0 one one) (hg:Good one ExOk):∀ f x,ExOk x→Good (chainM L en ops one f x) ExOk
 | 0,x,_=>Good.fail (fun s=>by show (99:Nat) ≠ 0;decide) _
 | f + 1,x,hx=>Good.bnd (Good.oneOf' (fun o=>6 ≤ o∧o ≤ 19) hn) (fun o=>by
     cases o with
     | none=>exact Keep.ret _
     | some o=>exact Keep.bnd hs.keep (fun y=>(Sim.chainM ops ho hs f _).keep)) (fun o h=>by
     cases o with
     | none=>exact Good.ret hx
     | some o=>exact Good.bnd hg (fun y=>(Sim.chainM ops ho hs f _).keep) (fun y hy=>Good.chainM ho hn hs hg f _ (.two o x y (h o rfl).1 (h o rfl).2 hx hy)))
theorem Good.chainL {ops:List (ByteArray × Nat)} (ho:∀ x ∈ ops,x.1 ≠ BSEMI∧x.1 ≠ BCLOSE) (hn:∀ x ∈ ops,6 ≤ x.2∧x.2 ≤ 19) {one:Rd PE} (hs:Sim L en L en 0 one one) (hg:Good one ExOk) (f:Nat):Good (chainL L en ops one f) ExOk:=
 Good.bnd hg (fun x=>(Sim.chainM ops ho hs f x).keep) (fun x hx=>Good.chainM ho hn hs hg f x hx)
set_option maxHeartbeats 4000000 in
theorem Good.exF (h:AllOk L):∀ f m,Good (exF L en f m) ExOk
 | 0,_=>Good.fail (fun s=>by show (99:Nat) ≠ 0;decide) _
 | f + 1,.expr=>Good.chainL (by decide) (by decide) (Sim.chainL _ (by decide) (Sim.exF f .not) f) (Good.chainL (by decide) (by decide) (Sim.exF f .not) (Good.exF h f .not) f) f
 | f + 1,.not=>Good.bnd (Good.any _) kpE (fun b _=>by
     cases b with
     | true=>exact Good.bnd (Good.exF h f .not) kpE (fun x hx=>Good.ret (.one 4 x (by omega) hx))
     | false=>exact Good.bnd (Good.exF h f (.sum 0)) kpE (fun x hx=>Good.bnd (Good.any _) kpE (fun b _=>by
      cases b with
      | true=>exact Good.bnd (Good.any _) kpE (fun b _=>Good.bnd (Good.any _) kpE (fun _ _=>Good.ret (by
       cases b with
       | true=>exact .one 4 _ (by omega) (.one 5 x (by omega) hx)
       | false=>exact .one 5 x (by omega) hx)))
      | false=>exact Good.bnd (Good.oneOf' (fun o=>6 ≤ o∧o ≤ 19) (by decide)) kpE (fun o ho=>by
       cases o with
       | none=>exact Good.ret hx
       | some o=>exact Good.bnd (Good.exF h f (.sum 0)) kpE (fun y hy=>Good.ret (.two o x y (ho o rfl).1 (ho o rfl).2 hx hy))))))
 | f + 1,.sum k=>by
  show Good (if k=3 then Dt.exF L en f .unary else Dt.chainL L en (opsOf k) (Dt.exF L en f (.sum (k + 1))) f) ExOk
  split
  ·exact Good.exF h f .unary
  ·match k with
   | 0=>exact Good.chainL (by decide) (by decide) (Sim.exF f _) (Good.exF h f _) f
   | 1=>exact Good.chainL (by decide) (by decide) (Sim.exF f _) (Good.exF h f _) f
   | _ + 2=>exact Good.chainL (ops:=[(BSTAR,8),(BDIV,9),(BMOD,10)]) (by decide) (by decide) (Sim.exF f _) (Good.exF h f _) f
 | f + 1,.unary=>Good.bnd (Good.any _) kpE (fun b _=>by
     cases b with
     | true=>exact Good.bnd (Good.negM h) kpE (fun n hn=>by
      cases n with
      | some n=>exact Good.ret (.val _ (.inr (.inl ⟨rfl,by have:=hn n rfl;show -9223372036854775808 ≤ -(n:Int);omega,by show -(n:Int) < 9223372036854775808;omega,rfl⟩)))
      | none=>exact Good.bnd (Good.exF h f .unary) kpE (fun x hx=>Good.ret (.one 3 x (by omega) hx)))
     | false=>exact Good.exF h f .prim)
 | f + 1,.prim=>Good.bnd (Good.litM h) kpE (fun r hr=>by
     cases r with
     | some x=>exact Good.ret (hr x rfl)
     | none=>exact Good.bnd (Good.nameQ h) kpE (fun r hr=>by
      cases r with
      | some t=>exact Good.bnd (Good.any _) kpE (fun b _=>by
       cases b with
       | true=>exact Good.bnd (Good.nameM h) kpE (fun m hm=>Good.ret (.tcol t m (hr t rfl) hm))
       | false=>exact Good.ret (.col t (hr t rfl)))
      | none=>exact Good.bnd (Good.any _) kpE (fun b _=>by
       cases b with
       | true=>exact Good.ret (.val _ (.inl ⟨rfl,rfl,rfl⟩))
       | false=>exact Good.bnd (Good.any _) kpE (fun b _=>by
        cases b with
        | true=>exact Good.bnd (Good.exF h f .expr) kpE (fun x hx=>Good.bnd (Good.any _) kpE (fun _ _=>Good.ret hx))
        | false=>exact Good.bnd (Good.any _) kpE (fun b _=>by
         cases b with
         | true=>exact Good.bnd (Good.any _) kpE (fun _ _=>Good.bnd (Good.any _) kpE (fun b _=>by
          cases b with
          | true=>exact Good.bnd (Good.any _) kpE (fun _ _=>Good.ret .count)
          | false=>exact Good.bnd (Good.exF h f .expr) kpE (fun x hx=>Good.bnd (Good.any _) kpE (fun _ _=>Good.ret (.one 20 x (by omega) hx)))))
         | false=>exact Good.bnd (Good.oneOf' (fun o=>20 ≤ o∧o ≤ 23) (by decide)) kpE (fun o ho=>by
          cases o with
          | some o=>exact Good.bnd (Good.any _) kpE (fun _ _=>Good.bnd (Good.exF h f .expr) kpE (fun x hx=>Good.bnd (Good.any _) kpE (fun _ _=>Good.ret (.one o x (by have:=ho o rfl;omega) hx))))
          | none=>exact Good.fail (fun s=>(failP_k 6 s (by decide)).2) _))))))
theorem Good.exprM (h:AllOk L):Good (exprM L en) ExOk:=Good.exF h FU .expr
end
end Go.Proofs.YtmdogmpcmkfjpaaGreatDoor.Dt
