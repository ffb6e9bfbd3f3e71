import Derived.Test.YtmdogmpcmkfjpaaGreatDoorBn03
import Derived.Test.YtmdogmpcmkfjpaaGreatDoorBn02
/- Part of the proof (merged). -/
namespace Go.Proofs.YtmdogmpcmkfjpaaGreatDoor.Dt
open Go.Lib
set_option linter.unusedVariables false
section
variable {L L':List Tk} {en en':Int} {d:Nat}
def nameG (u:Tk):Option ByteArray:=if u.k=2 then some u.s else none
def nameF (u:Tk):Option (ByteArray × Nat):=if u.k=2 then none else some (⟨#[]⟩,6)
theorem Sim.nameM:Sim L en L' en' d (nameM L en) (nameM L' en'):=by
 have key:∀ (K:List Tk) (e:Int) (s:PS),s.e=0→Dt.nameM K e s=takeP K e nameG nameF ⟨#[]⟩ s:=fun K e s he=>by
  unfold Dt.nameM takeP nameG nameF
  by_cases h:(tokP K e s.k).k=2
  ·rw [if_pos ⟨he,h⟩,if_pos h]
  ·rw [if_neg (fun x=>h x.2),if_neg h,if_neg h]
 refine Sim.take nameG nameF ⟨#[]⟩ (fun u v h=>by unfold nameG;simp only [h.1,h.2.1]) (fun u v h=>by unfold nameF;simp only [h.1]) (fun u h=>?_) (fun u v h _ hn=>?_) (fun u x h=>?_) _ _ (key L en) (key L' en') (fun s he=>?_)
 ·unfold nameG
  rcases h.kind with h | h <;> simp [h]
 ·unfold nameF at hn
  rcases h.kind with h | h <;> simp [h] at hn
 ·unfold nameF at h
  split at h
  ·cases h
  ·cases h;decide
 ·unfold Dt.nameM
  rw [if_neg (fun x=>he x.1)]
  exact ⟨Nat.le_of_eq (failP_k 6 s (by decide)).1.symm,(failP_k 6 s (by decide)).2,fun h=>Nat.le_trans (Nat.le_of_eq (failP_k 6 s (by decide)).1) h⟩
def nameH (u:Tk):Option (Option ByteArray):=if u.k=2 then some (some u.s) else none
theorem Sim.nameQ:Sim L en L' en' d (nameQ L en) (nameQ L' en'):=by
 have key:∀ (K:List Tk) (e:Int) (s:PS),s.e=0→Dt.nameQ K e s=takeP K e nameH (fun _=>none) none s:=fun K e s he=>by
  unfold Dt.nameQ takeP nameH
  by_cases h:(tokP K e s.k).k=2
  ·rw [if_pos ⟨he,h⟩,if_pos h]
  ·rw [if_neg (fun x=>h x.2),if_neg h]
 refine Sim.take nameH (fun _=>none) none (fun u v h=>by unfold nameH;simp only [h.1,h.2.1]) (fun _ _ _=>rfl) (fun u h=>?_) (fun _ _ _ _ _=>rfl) (fun u x h=>by cases h) _ _ (key L en) (key L' en') (fun s he=>?_)
 ·unfold nameH
  rcases h.kind with h | h <;> simp [h]
 ·unfold Dt.nameQ
  rw [if_neg (fun x=>he x.1)]
  exact ⟨Nat.le_refl _,he,id⟩
def negG (u:Tk):Option (Option Nat):=if u.k=3 then some (some u.n) else none
theorem Sim.negM:Sim L en L' en' d (negM L en) (negM L' en'):=by
 have key:∀ (K:List Tk) (e:Int) (s:PS),s.e=0→Dt.negM K e s=takeP K e negG (fun _=>none) none s:=fun K e s _=>by
  unfold Dt.negM takeP negG
  by_cases h:(tokP K e s.k).k=3
  ·rw [if_pos h,if_pos h]
  ·rw [if_neg h,if_neg h]
 refine Sim.take negG (fun _=>none) none (fun u v h=>by unfold negG;simp only [h.1,h.2.2]) (fun _ _ _=>rfl) (fun u h=>?_) (fun _ _ _ _ _=>rfl) (fun u x h=>by cases h) _ _ (key L en) (key L' en') (fun s he=>?_)
 ·unfold negG
  rcases h.kind with h | h <;> simp [h]
 ·unfold Dt.negM
  split
  ·rename_i h3;exact ⟨Nat.le_succ _,he,fun _=>tokP_lt (L:=L) (en:=en) (k:=s.k) (by omega)⟩
  ·exact ⟨Nat.le_refl _,he,id⟩
def numG (u:Tk):Option Int:=if u.k ≠ 3 then none else if 1073741824 < u.n then none else some (u.n:Int)
def numF (u:Tk):Option (Int × Nat):=if u.k ≠ 3 then some (-1,6) else if 1073741824 < u.n then some (-1,5) else none
theorem Sim.numM:Sim L en L' en' d (numM L en) (numM L' en'):=by
 have key:∀ (K:List Tk) (e:Int) (s:PS),s.e=0→Dt.numM K e s=takeP K e numG numF (-1) s:=fun K e s _=>by
  unfold Dt.numM takeP numG numF
  by_cases h:(tokP K e s.k).k ≠ 3
  ·rw [if_pos h,if_pos h,if_pos h]
  ·rw [if_neg h,if_neg h,if_neg h]
   by_cases h2:1073741824 < (tokP K e s.k).n
   ·rw [if_pos h2,if_pos h2,if_pos h2]
   ·rw [if_neg h2,if_neg h2]
 refine Sim.take numG numF (-1) (fun u v h=>by unfold numG;simp only [h.1,h.2.2]) (fun u v h=>by unfold numF;simp only [h.1,h.2.2]) (fun u h=>?_) (fun u v h _ hn=>?_) (fun u x h=>?_) _ _ (key L en) (key L' en') (fun s he=>?_)
 ·unfold numG
  rcases h.kind with h | h <;> simp [h]
 ·unfold numF at hn
  rcases h.kind with h | h <;> simp [h] at hn
 ·unfold numF at h
  split at h
  ·cases h;decide
  ·split at h
   ·cases h;decide
   ·cases h
 ·unfold Dt.numM
  split
  ·exact ⟨Nat.le_of_eq (failP_k 6 s (by decide)).1.symm,(failP_k 6 s (by decide)).2,fun h=>Nat.le_trans (Nat.le_of_eq (failP_k 6 s (by decide)).1) h⟩
  ·split
   ·exact ⟨Nat.le_of_eq (failP_k 5 s (by decide)).1.symm,(failP_k 5 s (by decide)).2,fun h=>Nat.le_trans (Nat.le_of_eq (failP_k 5 s (by decide)).1) h⟩
   ·rename_i h3 _;exact ⟨Nat.le_succ _,he,fun _=>tokP_lt (L:=L) (en:=en) (k:=s.k) (by omega)⟩
def litG (u:Tk):Option (Option PE):=
 if u.k=3 then (if u.n < 9223372036854775808 then some (some (PE.val1 ⟨1,(u.n:Int),⟨#[]⟩⟩)) else none)
 else if u.k=4 then some (some (PE.val1 ⟨2,0,u.s⟩)) else if u.k=5 then some (some (PE.val1 ⟨3,0,u.s⟩)) else none
def litF (u:Tk):Option (Option PE × Nat):=if u.k=3 then (if u.n < 9223372036854775808 then none else some (some PE.zero,5)) else none
theorem Sim.litM:Sim L en L' en' d (litM L en) (litM L' en'):=by
 have key:∀ (K:List Tk) (e:Int) (s:PS),s.e=0→Dt.litM K e s=takeP K e litG litF none s:=fun K e s he=>by
  unfold Dt.litM takeP litG litF
  simp only [he,ne_eq,not_true_eq_false,if_false]
  by_cases h3:(tokP K e s.k).k=3
  ·simp only [h3,if_true]
   by_cases h:(tokP K e s.k).n < 9223372036854775808
   ·simp only [h,if_true]
   ·simp only [h,if_false]
  ·simp only [h3,if_false]
   by_cases h4:(tokP K e s.k).k=4
   ·simp only [h4,if_true]
   ·simp only [h4,if_false]
    by_cases h5:(tokP K e s.k).k=5
    ·simp only [h5,if_true]
    ·simp only [h5,if_false]
 refine Sim.take litG litF none (fun u v h=>by unfold litG;simp only [h.1,h.2.1,h.2.2]) (fun u v h=>by unfold litF;simp only [h.1,h.2.2]) (fun u h=>?_) (fun u v h h' hn=>?_) (fun u x h=>?_) _ _ (key L en) (key L' en') (fun s he=>?_)
 ·unfold litG
  rcases h.kind with h | h <;> simp [h]
 ·unfold litF
  rcases h'.kind with h | h <;> simp [h]
 ·unfold litF at h
  split at h
  ·split at h
   ·cases h
   ·cases h;decide
  ·cases h
 ·unfold Dt.litM
  simp only [he,ne_eq,not_false_eq_true,if_true]
  exact ⟨Nat.le_refl _,trivial,id⟩
theorem Sim.oneOf:∀ (l:List (ByteArray × Nat)),(∀ x ∈ l,x.1 ≠ BSEMI∧x.1 ≠ BCLOSE)→Sim L en L' en' d (oneOf L en l) (oneOf L' en' l)
 | [],_=>Sim.ret none
 | x :: l,h=>Sim.bnd (Sim.isM x.1 (h x (by simp)).1 (h x (by simp)).2) (fun b=>Sim.ite b (Sim.ret _) (Sim.oneOf l (fun y hy=>h y (by simp [hy]))))
theorem Sim.listM {α:Type} {one one':Rd α} (h:Sim L en L' en' d one one'):∀ f,Sim L en L' en' d (listM L en one f) (listM L' en' one' f)
 | 0=>Sim.outM []
 | f + 1=>Sim.bnd h (fun x=>Sim.bnd Sim.okM (fun ok=>Sim.ite ok (Sim.bnd (Sim.isM BCOMMA (by decide) (by decide)) (fun b=>Sim.ite b (Sim.bnd (Sim.listM h f) (fun r=>Sim.bnd Sim.okM (fun ok=>Sim.ret _))) (Sim.ret _))) (Sim.ret _)))
theorem Sim.insideM {α:Type} {one one':Rd α} (h:Sim L en L' en' d one one') (f:Nat):Sim L en L' en' d (insideM L en one f) (insideM L' en' one' f):=
 Sim.bnd (Sim.mustM _) (fun _=>Sim.bnd (Sim.listM h f) (fun l=>Sim.bnd (Sim.mustM _) (fun _=>Sim.ret l)))
theorem Sim.chainM (ops:List (ByteArray × Nat)) (ho:∀ x ∈ ops,x.1 ≠ BSEMI∧x.1 ≠ BCLOSE) {one one':Rd PE} (h:Sim L en L' en' d one one'):∀ f x,Sim L en L' en' d (chainM L en ops one f x) (chainM L' en' ops one' f x)
 | 0,x=>Sim.outM x
 | f + 1,x=>Sim.bnd (Sim.oneOf ops ho) (fun o=>match o with
  | none=>Sim.ret x
  | some o=>Sim.bnd h (fun y=>Sim.chainM ops ho h f _))
theorem Sim.chainL (ops:List (ByteArray × Nat)) (ho:∀ x ∈ ops,x.1 ≠ BSEMI∧x.1 ≠ BCLOSE) {one one':Rd PE} (h:Sim L en L' en' d one one') (f:Nat):Sim L en L' en' d (chainL L en ops one f) (chainL L' en' ops one' f):=
 Sim.bnd h (fun x=>Sim.chainM ops ho h f x)
theorem Sim.exF:∀ (f:Nat) (m:Md),Sim L en L' en' d (exF L en f m) (exF L' en' f m)
 | 0,_=>Sim.outM _
 | f + 1,.expr=>Sim.chainL _ (by decide) (Sim.chainL _ (by decide) (Sim.exF f .not) f) f
 | f + 1,.not=>Sim.bnd (Sim.isM WNOT (by decide) (by decide)) (fun b=>Sim.ite b (Sim.bnd (Sim.exF f .not) (fun x=>Sim.ret _))
     (Sim.bnd (Sim.exF f (.sum 0)) (fun x=>Sim.bnd (Sim.isM WIS (by decide) (by decide)) (fun b=>Sim.ite b
      (Sim.bnd (Sim.isM WNOT (by decide) (by decide)) (fun b=>Sim.bnd (Sim.mustM _) (fun _=>Sim.ret _)))
      (Sim.bnd (Sim.oneOf cmps (by decide)) (fun o=>match o with
       | some o=>Sim.bnd (Sim.exF f (.sum 0)) (fun y=>Sim.ret _)
       | none=>Sim.ret x))))))
 | f + 1,.sum k=>by
  show Sim L en L' en' d (if k=3 then Dt.exF L en f .unary else Dt.chainL L en (opsOf k) (Dt.exF L en f (.sum (k + 1))) f) (if k=3 then Dt.exF L' en' f .unary else Dt.chainL L' en' (opsOf k) (Dt.exF L' en' f (.sum (k + 1))) f)
  split
  ·exact Sim.exF f .unary
  ·refine Sim.chainL _ ?_ (Sim.exF f _) f
   match k with
   | 0=>decide
   | 1=>decide
   | _ + 2=>exact (by decide:∀ x ∈ [(BSTAR,8),(BDIV,9),(BMOD,10)],x.1 ≠ BSEMI∧x.1 ≠ BCLOSE)
 | f + 1,.unary=>Sim.bnd (Sim.isM BMINUS (by decide) (by decide)) (fun b=>Sim.ite b
     (Sim.bnd Sim.negM (fun n=>match n with
      | some n=>Sim.ret _
      | none=>Sim.bnd (Sim.exF f .unary) (fun x=>Sim.ret _)))
     (Sim.exF f .prim))
 | f + 1,.prim=>Sim.bnd Sim.litM (fun r=>match r with
  | some x=>Sim.ret x
  | none=>Sim.bnd Sim.nameQ (fun r=>match r with
   | some t=>Sim.bnd (Sim.isM BDOT (by decide) (by decide)) (fun b=>Sim.ite b (Sim.bnd Sim.nameM (fun m=>Sim.ret _)) (Sim.ret _))
   | none=>Sim.bnd (Sim.isM WNULL (by decide) (by decide)) (fun b=>Sim.ite b (Sim.ret _)
    (Sim.bnd (Sim.isM BOPEN (by decide) (by decide)) (fun b=>Sim.ite b (Sim.bnd (Sim.exF f .expr) (fun x=>Sim.bnd (Sim.mustM _) (fun _=>Sim.ret x)))
    (Sim.bnd (Sim.isM WCOUNT (by decide) (by decide)) (fun b=>Sim.ite b
     (Sim.bnd (Sim.mustM _) (fun _=>Sim.bnd (Sim.isM BSTAR (by decide) (by decide)) (fun b=>Sim.ite b (Sim.bnd (Sim.mustM _) (fun _=>Sim.ret _))
      (Sim.bnd (Sim.exF f .expr) (fun x=>Sim.bnd (Sim.mustM _) (fun _=>Sim.ret _))))))
    (Sim.bnd (Sim.oneOf groups (by decide)) (fun o=>match o with
     | some o=>Sim.bnd (Sim.mustM _) (fun _=>Sim.bnd (Sim.exF f .expr) (fun x=>Sim.bnd (Sim.mustM _) (fun _=>Sim.ret _)))
     | none=>Sim.bnd (Sim.failM 6 (by decide)) (fun _=>Sim.ret _))))))))))
theorem Sim.exprM:Sim L en L' en' d (exprM L en) (exprM L' en'):=Sim.exF FU .expr
theorem Sim.maybeM (w:ByteArray) (h1:w ≠ BSEMI) (h2:w ≠ BCLOSE):Sim L en L' en' d (maybeM L en w) (maybeM L' en' w):=
 Sim.bnd (Sim.isM w h1 h2) (fun b=>Sim.ite b (Sim.bnd Sim.exprM (fun x=>Sim.ret _)) (Sim.ret _))
theorem Sim.colM:Sim L en L' en' d (colM L en) (colM L' en'):=
 Sim.bnd Sim.nameM (fun n=>Sim.bnd (Sim.oneOf types (by decide)) (fun o=>Sim.bnd (match o with | some o=>Sim.ret o | none=>Sim.bnd (Sim.failM 6 (by decide)) (fun _=>Sim.ret 0)) (fun ty=>
  Sim.bnd (Sim.isM WNOT (by decide) (by decide)) (fun b=>Sim.ite b (Sim.bnd (Sim.mustM _) (fun _=>Sim.ret _)) (Sim.ret _)))))
theorem Sim.colsM:∀ f cs,Sim L en L' en' d (colsM L en f cs) (colsM L' en' f cs)
 | 0,cs=>Sim.outM cs
 | f + 1,cs=>Sim.bnd Sim.okM (fun ok=>Sim.ite ok (Sim.bnd (Sim.ite cs.isEmpty (Sim.ret _) (Sim.isM WPRIMARY (by decide) (by decide))) (fun b=>Sim.ite b (Sim.ret _)
     (Sim.bnd Sim.colM (fun c=>Sim.bnd (Sim.mustM _) (fun _=>Sim.colsM f _))))) (Sim.ret _))
theorem Sim.namesM:Sim L en L' en' d (namesM L en) (namesM L' en'):=Sim.insideM Sim.nameM FU
theorem Sim.createM:Sim L en L' en' d (createM L en) (createM L' en'):=
 Sim.bnd (Sim.isM WTABLE (by decide) (by decide)) (fun b=>Sim.ite b
  (Sim.bnd Sim.nameM (fun n=>Sim.bnd (Sim.mustM _) (fun _=>Sim.bnd (Sim.colsM FU []) (fun c=>Sim.bnd (Sim.mustM _) (fun _=>Sim.bnd Sim.namesM (fun k=>Sim.bnd (Sim.mustM _) (fun _=>Sim.ret _)))))))
  (Sim.bnd (Sim.isM WUNIQUE (by decide) (by decide)) (fun u=>Sim.bnd (Sim.mustM _) (fun _=>Sim.bnd Sim.nameM (fun n=>Sim.bnd (Sim.mustM _) (fun _=>Sim.bnd Sim.nameM (fun t=>Sim.bnd Sim.namesM (fun k=>Sim.ret _))))))))
theorem Sim.sourceM:Sim L en L' en' d (sourceM L en) (sourceM L' en'):=
 Sim.bnd Sim.nameM (fun n=>Sim.bnd (Sim.isM WAS (by decide) (by decide)) (fun b=>Sim.ite b (Sim.bnd Sim.nameM (fun m=>Sim.ret _)) (Sim.ret _)))
theorem Sim.itemM:Sim L en L' en' d (itemM L en) (itemM L' en'):=
 Sim.bnd Sim.exprM (fun x=>Sim.bnd (Sim.isM WAS (by decide) (by decide)) (fun b=>Sim.ite b (Sim.bnd Sim.nameM (fun m=>Sim.ret _)) (Sim.ret _)))
theorem Sim.orderM:Sim L en L' en' d (orderM L en) (orderM L' en'):=Sim.bnd Sim.exprM (fun x=>Sim.bnd (Sim.isM WDESC (by decide) (by decide)) (fun b=>Sim.ret _))
theorem Sim.setM:Sim L en L' en' d (setM L en) (setM L' en'):=Sim.bnd Sim.nameM (fun n=>Sim.bnd (Sim.mustM _) (fun _=>Sim.bnd Sim.exprM (fun x=>Sim.ret _)))
theorem Sim.joinsM:∀ f l,Sim L en L' en' d (joinsM L en f l) (joinsM L' en' f l)
 | 0,l=>Sim.outM l
 | f + 1,l=>Sim.bnd (Sim.isM WJOIN (by decide) (by decide)) (fun b=>Sim.ite b (Sim.bnd Sim.sourceM (fun x=>Sim.bnd (Sim.mustM _) (fun _=>Sim.bnd Sim.exprM (fun y=>Sim.joinsM f _)))) (Sim.ret _))
theorem Sim.byM {α:Type} (w:ByteArray) (h1:w ≠ BSEMI) (h2:w ≠ BCLOSE) {one one':Rd α} (h:Sim L en L' en' d one one'):Sim L en L' en' d (byM L en w one) (byM L' en' w one'):=
 Sim.bnd (Sim.isM w h1 h2) (fun b=>Sim.ite b (Sim.bnd (Sim.mustM _) (fun _=>Sim.listM h FU)) (Sim.ret _))
theorem Sim.limitM:Sim L en L' en' d (limitM L en) (limitM L' en'):=Sim.bnd (Sim.isM WLIMIT (by decide) (by decide)) (fun b=>Sim.ite b Sim.numM (Sim.ret _))
theorem Sim.chooseM:Sim L en L' en' d (chooseM L en) (chooseM L' en'):=
 Sim.bnd (Sim.isM BSTAR (by decide) (by decide)) (fun b=>Sim.bnd (Sim.ite b (Sim.ret _) (Sim.listM Sim.itemM FU)) (fun i=>Sim.bnd (Sim.mustM _) (fun _=>Sim.bnd Sim.sourceM (fun x=>
  Sim.bnd (Sim.joinsM FU [x]) (fun j=>Sim.bnd (Sim.maybeM WWHERE (by decide) (by decide)) (fun w=>Sim.bnd (Sim.byM WGROUP (by decide) (by decide) Sim.exprM) (fun g=>Sim.bnd (Sim.maybeM WHAVING (by decide) (by decide)) (fun h=>
  Sim.bnd (Sim.byM WORDER (by decide) (by decide) Sim.orderM) (fun o=>Sim.bnd Sim.limitM (fun m=>Sim.ret _))))))))))
theorem Sim.dropM:Sim L en L' en' d (dropM L en) (dropM L' en'):=
 Sim.bnd (Sim.isM WTABLE (by decide) (by decide)) (fun b=>Sim.ite b (Sim.bnd Sim.nameM (fun n=>Sim.ret _)) (Sim.bnd (Sim.mustM _) (fun _=>Sim.bnd Sim.nameM (fun n=>Sim.ret _))))
theorem Sim.insertM:Sim L en L' en' d (insertM L en) (insertM L' en'):=
 Sim.bnd (Sim.mustM _) (fun _=>Sim.bnd Sim.nameM (fun t=>Sim.bnd Sim.namesM (fun n=>Sim.bnd (Sim.mustM _) (fun _=>Sim.bnd (Sim.listM (Sim.insideM Sim.exprM FU) FU) (fun r=>Sim.ret _)))))
theorem Sim.updateM:Sim L en L' en' d (updateM L en) (updateM L' en'):=
 Sim.bnd Sim.nameM (fun t=>Sim.bnd (Sim.mustM _) (fun _=>Sim.bnd (Sim.listM Sim.setM FU) (fun c=>Sim.bnd (Sim.maybeM WWHERE (by decide) (by decide)) (fun w=>Sim.ret _))))
theorem Sim.deleteM:Sim L en L' en' d (deleteM L en) (deleteM L' en'):=
 Sim.bnd (Sim.mustM _) (fun _=>Sim.bnd Sim.nameM (fun t=>Sim.bnd (Sim.maybeM WWHERE (by decide) (by decide)) (fun w=>Sim.ret _)))
theorem Sim.rollM:Sim L en L' en' d (rollM L en) (rollM L' en'):=
 Sim.bnd (Sim.isM WTO (by decide) (by decide)) (fun b=>Sim.ite b (Sim.bnd Sim.nameM (fun n=>Sim.ret _)) (Sim.ret _))
theorem Sim.saveM (k:Nat):Sim L en L' en' d (saveM L en k) (saveM L' en' k):=Sim.bnd Sim.nameM (fun n=>Sim.ret _)
theorem Sim.restM:Sim L en L' en' d (restM L en) (restM L' en'):=
 Sim.bnd (Sim.isM WBEGIN (by decide) (by decide)) (fun b=>Sim.ite b (Sim.ret _)
 (Sim.bnd (Sim.isM WCOMMIT (by decide) (by decide)) (fun b=>Sim.ite b (Sim.ret _)
 (Sim.bnd (Sim.isM WROLLBACK (by decide) (by decide)) (fun b=>Sim.ite b Sim.rollM
 (Sim.bnd (Sim.isM WSAVEPOINT (by decide) (by decide)) (fun b=>Sim.ite b (Sim.saveM 12)
 (Sim.bnd (Sim.isM WRELEASE (by decide) (by decide)) (fun b=>Sim.ite b (Sim.saveM 14)
 (Sim.bnd (Sim.failM 6 (by decide)) (fun _=>Sim.ret _)))))))))))
theorem Sim.stmtM:Sim L en L' en' d (stmtM L en) (stmtM L' en'):=
 Sim.bnd (Sim.isM WCREATE (by decide) (by decide)) (fun b=>Sim.ite b Sim.createM
 (Sim.bnd (Sim.isM WDROP (by decide) (by decide)) (fun b=>Sim.ite b Sim.dropM
 (Sim.bnd (Sim.isM WINSERT (by decide) (by decide)) (fun b=>Sim.ite b Sim.insertM
 (Sim.bnd (Sim.isM WUPDATE (by decide) (by decide)) (fun b=>Sim.ite b Sim.updateM
 (Sim.bnd (Sim.isM WDELETE (by decide) (by decide)) (fun b=>Sim.ite b Sim.deleteM
 (Sim.bnd (Sim.isM WSELECT (by decide) (by decide)) (fun b=>Sim.ite b Sim.chooseM Sim.restM)))))))))))
def Prog {α:Type} (p:Rd α):Prop:=∀ s:PS,(p s).2.e=0→s.k < (p s).2.k
theorem Prog.ite {α:Type} {t:ByteArray} {p q:Rd α} (hp:∀ s,s.k ≤ (p s).2.k) (hq:Prog q):Prog (bnd (isM L en t) fun b=>if b then p else q):=fun s h=>by
 show s.k < ((if (Dt.isM L en t s).1 then p else q) (Dt.isM L en t s).2).2.k
 change ((if (Dt.isM L en t s).1 then p else q) (Dt.isM L en t s).2).2.e=0 at h
 cases hb:isB L en t s with
 | true=>
  have e:Dt.isM L en t s=(true,s.next):=by unfold Dt.isM;rw [hb];rfl
  rw [e]
  exact Nat.lt_of_lt_of_le (Nat.lt_succ_self _) (hp s.next)
 | false=>
  have e:Dt.isM L en t s=(false,s):=by unfold Dt.isM;rw [hb];rfl
  rw [e] at h ⊢
  exact hq s h
theorem Prog.fail {α:Type} (x:α):Prog (bnd (failM L en 6) fun _=>ret x):=fun s h=>absurd h (failP_k 6 s (by decide)).2
theorem Prog.restM:Prog (restM L en):=
 Prog.ite (fun s=>Nat.le_refl _) (Prog.ite (fun s=>Nat.le_refl _) (Prog.ite (fun s=>((Sim.rollM (L':=L) (en':=en) (d:=0)).mono s).1) (Prog.ite (fun s=>((Sim.saveM (L':=L) (en':=en) (d:=0) 12).mono s).1)
  (Prog.ite (fun s=>((Sim.saveM (L':=L) (en':=en) (d:=0) 14).mono s).1) (Prog.fail _)))))
theorem Prog.stmtM:Prog (stmtM L en):=
 Prog.ite (fun s=>((Sim.createM (L':=L) (en':=en) (d:=0)).mono s).1) (Prog.ite (fun s=>((Sim.dropM (L':=L) (en':=en) (d:=0)).mono s).1) (Prog.ite (fun s=>((Sim.insertM (L':=L) (en':=en) (d:=0)).mono s).1)
  (Prog.ite (fun s=>((Sim.updateM (L':=L) (en':=en) (d:=0)).mono s).1) (Prog.ite (fun s=>((Sim.deleteM (L':=L) (en':=en) (d:=0)).mono s).1) (Prog.ite (fun s=>((Sim.chooseM (L':=L) (en':=en) (d:=0)).mono s).1) Prog.restM)))))
end
end Go.Proofs.YtmdogmpcmkfjpaaGreatDoor.Dt
namespace Go.Proofs.YtmdogmpcmkfjpaaGreatDoor.Dt
open Go.Lib
set_option linter.unusedVariables false
section
variable {L:List Tk} {en:Int}
theorem bnd_eq {α β:Type} {p p':Rd α} {q q':α→Rd β} {s:PS} (h1:p s=p' s) (h2:q (p s).1 (p s).2=q' (p s).1 (p s).2):bnd p q s=bnd p' q' s:=by
 show q (p s).1 (p s).2=q' (p' s).1 (p' s).2
 rw [← h1,h2]
theorem isM_lt {t:ByteArray} {s:PS} (h:(isM L en t s).1=true):(isM L en t s).2=s.next∧s.k < L.length:=by
 have hb:isB L en t s=true:=h
 refine ⟨by unfold isM;rw [hb];rfl,tokP_lt (L:=L) (en:=en) ?_⟩
 have:=(isB_iff.1 hb).2.1
 omega
theorem isM_no {t:ByteArray} {s:PS} (h:(isM L en t s).1=false):(isM L en t s).2=s:=by
 have hb:isB L en t s=false:=h
 unfold isM;rw [hb];rfl
theorem oneOf_cases:∀ (l:List (ByteArray × Nat)) (s:PS),oneOf L en l s=(none,s) ∨ ∃ o,oneOf L en l s=(some o,s.next)∧s.k < L.length
 | [],s=>.inl rfl
 | x :: l,s=>by
  show (if (isM L en x.1 s).1 then ret (some x.2) else oneOf L en l) (isM L en x.1 s).2=(none,s) ∨ ∃ o,(if (isM L en x.1 s).1 then ret (some x.2) else oneOf L en l) (isM L en x.1 s).2=(some o,s.next)∧_
  cases hb:(isM L en x.1 s).1 with
  | true=>
   obtain ⟨h1,h2⟩:=isM_lt hb
   exact .inr ⟨x.2,by rw [h1];rfl,h2⟩
  | false=>
   rw [isM_no hb]
   exact oneOf_cases l s
def Same (L:List Tk) {α:Type} (j:Nat) (p p':Rd α):Prop:=∀ s,j ≤ s.k→s.k ≤ L.length→p s=p' s
theorem Same.mono {α:Type} {i j:Nat} {p p':Rd α} (h:Same L i p p') (hij:i ≤ j):Same L j p p':=fun s h1 h2=>h s (Nat.le_trans hij h1) h2
theorem chain_fuel (ops:List (ByteArray × Nat)) {one one':Rd PE} (hs:Sim L en L en 0 one one):∀ (f g:Nat) (x:PE) (s:PS),s.k ≤ L.length→L.length - s.k < f→L.length - s.k < g→Same L (s.k + 1) one one'→chainM L en ops one f x s=chainM L en ops one' g x s
 | 0,_,_,_,_,h,_,_=>by omega
 | _,0,_,_,_,_,h,_=>by omega
 | f + 1,g + 1,x,s,hk,hf,hg,ho=>by
  refine bnd_eq rfl ?_
  rcases oneOf_cases (L:=L) (en:=en) ops s with h | ⟨o,h,hlt⟩
  ·rw [h]
  ·rw [h]
   have h1:=ho s.next (Nat.le_refl _) hlt
   show bnd one (fun y=>chainM L en ops one f (.node o [x,y])) s.next=bnd one' (fun y=>chainM L en ops one' g (.node o [x,y])) s.next
   refine bnd_eq h1 ?_
   have hm:s.k + 1 ≤ (one s.next).2.k:=(hs.mono s.next).1
   have hle:=hs.le s.next hlt
   exact chain_fuel ops hs f g _ _ hle (by omega) (by omega) (ho.mono (by omega))
theorem chainL_fuel (ops:List (ByteArray × Nat)) {one one':Rd PE} (hs:Sim L en L en 0 one one) {f g:Nat} {s:PS} (hk:s.k ≤ L.length) (hf:L.length - s.k < f) (hg:L.length - s.k < g) (ho:Same L s.k one one'):chainL L en ops one f s=chainL L en ops one' g s:=by
 refine bnd_eq (ho s (Nat.le_refl _) hk) ?_
 have hm:=(hs.mono s).1
 exact chain_fuel ops hs f g _ _ (hs.le s hk) (by omega) (by omega) (ho.mono (by omega))
def lvl:Md→Nat
 | .expr=>8
 | .not=>7
 | .sum k=>if k=0 then 6 else if k=1 then 5 else if k=2 then 4 else 3
 | .unary=>2
 | .prim=>1
theorem ex_fuel:∀ (f g:Nat) (m:Md) (s:PS),s.k ≤ L.length→9 * (L.length - s.k) + lvl m ≤ f→9 * (L.length - s.k) + lvl m ≤ g→(∀ k,m = .sum k→k ≤ 3)→exF L en f m s=exF L en g m s
 | 0,_,m,_,_,h,_,_=>by
  have:1 ≤ lvl m:=by cases m <;> simp [lvl];split <;> (try split) <;> (try split) <;> omega
  omega
 | _,0,m,_,_,_,h,_=>by
  have:1 ≤ lvl m:=by cases m <;> simp [lvl];split <;> (try split) <;> (try split) <;> omega
  omega
 | f + 1,g + 1,m,s,hk,hf,hg,hm=>by
  have ih:=fun (m':Md) (s':PS) (h1:s'.k ≤ L.length) (h2:9 * (L.length - s'.k) + lvl m' < 9 * (L.length - s.k) + lvl m) (h3:∀ k,m' = .sum k→k ≤ 3)=>ex_fuel f g m' s' h1 (by omega) (by omega) h3
  cases m with
  | expr=>
   simp only [lvl] at ih hf hg
   have hnot:Same L s.k (exF L en f .not) (exF L en g .not):=fun s' h1 h2=>ih .not s' h2 (by simp only;omega) (fun k h=>by cases h)
   refine chainL_fuel _ (Sim.chainL _ (by decide) (Sim.exF f .not) f) hk (by omega) (by omega) (fun s' h1 h2=>?_)
   exact chainL_fuel _ (Sim.exF f .not) h2 (by omega) (by omega) (hnot.mono h1)
  | not=>
   simp only [lvl] at ih hf hg
   refine bnd_eq rfl ?_
   cases hb:(isM L en WNOT s).1 with
   | true=>
    obtain ⟨h1,h2⟩:=isM_lt hb
    rw [h1]
    simp only [if_true]
    exact bnd_eq (ih .not s.next h2 (by simp only;omega) (fun k h=>by cases h)) rfl
   | false=>
    rw [isM_no hb]
    simp only [Bool.false_eq_true,if_false]
    have h0:=ih (.sum 0) s hk (by simp only [if_true];omega) (fun k h=>by cases h;omega)
    refine bnd_eq h0 ?_
    have hle:=(Sim.exF (L:=L) (L':=L) (en:=en) (en':=en) (d:=0) f (.sum 0)).le s hk
    have hmo:=((Sim.exF (L:=L) (L':=L) (en:=en) (en':=en) (d:=0) f (.sum 0)).mono s).1
    generalize exF L en f (.sum 0) s=r at *
    refine bnd_eq rfl ?_
    cases hi:(isM L en WIS r.2).1 with
    | true=>rfl
    | false=>
     rw [isM_no hi]
     simp only [Bool.false_eq_true,if_false]
     refine bnd_eq rfl ?_
     rcases oneOf_cases (L:=L) (en:=en) cmps r.2 with h | ⟨o,h,hlt⟩
     ·rw [h]
     ·rw [h]
      exact bnd_eq (ih (.sum 0) r.2.next hlt (by simp only [if_true];omega) (fun k h=>by cases h;omega)) rfl
  | sum k=>
   have hk3:=hm k rfl
   show (if k=3 then exF L en f .unary else chainL L en (opsOf k) (exF L en f (.sum (k + 1))) f) s=(if k=3 then exF L en g .unary else chainL L en (opsOf k) (exF L en g (.sum (k + 1))) g) s
   by_cases h3:k=3
   ·subst h3
    rw [if_pos rfl,if_pos rfl]
    exact ih .unary s hk (by simp [lvl]) (fun k h=>by cases h)
   ·rw [if_neg h3,if_neg h3]
    have hl:lvl (.sum (k + 1)) < lvl (.sum k)∧4 ≤ lvl (.sum k):=by
     rcases (by omega:k=0 ∨ k=1 ∨ k=2) with h | h | h <;> subst h <;> simp [lvl]
    refine chainL_fuel _ (Sim.exF f _) hk (by omega) (by omega) (fun s' h1 h2=>ih _ s' h2 (by omega) (fun k' h=>by cases h;omega))
  | unary=>
   simp only [lvl] at ih hf hg
   refine bnd_eq rfl ?_
   cases hb:(isM L en BMINUS s).1 with
   | true=>
    obtain ⟨h1,h2⟩:=isM_lt hb
    rw [h1]
    simp only [if_true]
    refine bnd_eq rfl ?_
    have hle:=(Sim.negM (L:=L) (L':=L) (en:=en) (en':=en) (d:=0)).le s.next h2
    have hmo:=((Sim.negM (L:=L) (L':=L) (en:=en) (en':=en) (d:=0)).mono s.next).1
    generalize negM L en s.next=r at *
    obtain ⟨r1,r2⟩:=r
    cases r1 with
    | some n=>rfl
    | none=>
     simp only at hle hmo
     exact bnd_eq (ih .unary r2 hle (by simp only;omega) (fun k h=>by cases h)) rfl
   | false=>
    rw [isM_no hb]
    simp only [Bool.false_eq_true,if_false]
    exact ih .prim s hk (by simp only;omega) (fun k h=>by cases h)
  | prim=>
   simp only [lvl] at ih hf hg
   refine bnd_eq rfl ?_
   have hle:=(Sim.litM (L:=L) (L':=L) (en:=en) (en':=en) (d:=0)).le s hk
   have hmo:=((Sim.litM (L:=L) (L':=L) (en:=en) (en':=en) (d:=0)).mono s).1
   generalize litM L en s=r at *
   obtain ⟨r1,s1⟩:=r
   simp only at hle hmo
   cases r1 with
   | some x=>rfl
   | none=>
    refine bnd_eq rfl ?_
    have hle2:=(Sim.nameQ (L:=L) (L':=L) (en:=en) (en':=en) (d:=0)).le s1 hle
    have hmo2:=((Sim.nameQ (L:=L) (L':=L) (en:=en) (en':=en) (d:=0)).mono s1).1
    generalize nameQ L en s1=r at *
    obtain ⟨r1,s2⟩:=r
    simp only at hle2 hmo2
    cases r1 with
    | some t=>rfl
    | none=>
     refine bnd_eq rfl ?_
     cases hn:(isM L en WNULL s2).1 with
     | true=>rfl
     | false=>
      rw [isM_no hn]
      simp only [Bool.false_eq_true,if_false]
      refine bnd_eq rfl ?_
      cases ho:(isM L en BOPEN s2).1 with
      | true=>
       obtain ⟨h1,h2⟩:=isM_lt ho
       rw [h1]
       simp only [if_true]
       exact bnd_eq (ih .expr s2.next h2 (by simp only;omega) (fun k h=>by cases h)) rfl
      | false=>
       rw [isM_no ho]
       simp only [Bool.false_eq_true,if_false]
       refine bnd_eq rfl ?_
       cases hc:(isM L en WCOUNT s2).1 with
       | true=>
        obtain ⟨h1,h2⟩:=isM_lt hc
        rw [h1]
        simp only [if_true]
        refine bnd_eq rfl ?_
        have hle3:=(Sim.mustM (L:=L) (L':=L) (en:=en) (en':=en) (d:=0) [BOPEN]).le s2.next h2
        have hmo3:=((Sim.mustM (L:=L) (L':=L) (en:=en) (en':=en) (d:=0) [BOPEN]).mono s2.next).1
        generalize mustM L en [BOPEN] s2.next=r at *
        obtain ⟨r1,s3⟩:=r
        simp only at hle3 hmo3
        refine bnd_eq rfl ?_
        cases hst:(isM L en BSTAR s3).1 with
        | true=>rfl
        | false=>
         rw [isM_no hst]
         simp only [Bool.false_eq_true,if_false]
         exact bnd_eq (ih .expr s3 hle3 (by simp only;omega) (fun k h=>by cases h)) rfl
       | false=>
        rw [isM_no hc]
        simp only [Bool.false_eq_true,if_false]
        refine bnd_eq rfl ?_
        rcases oneOf_cases (L:=L) (en:=en) groups s2 with h | ⟨o,h,hlt⟩
        ·rw [h]
        ·rw [h]
         refine bnd_eq rfl ?_
         have hle3:=(Sim.mustM (L:=L) (L':=L) (en:=en) (en':=en) (d:=0) [BOPEN]).le s2.next hlt
         have hmo3:=((Sim.mustM (L:=L) (L':=L) (en:=en) (en':=en) (d:=0) [BOPEN]).mono s2.next).1
         generalize mustM L en [BOPEN] s2.next=r at *
         obtain ⟨r1,s3⟩:=r
         simp only at hle3 hmo3
         exact bnd_eq (ih .expr s3 hle3 (by simp only;omega) (fun k h=>by cases h)) rfl
end
end Go.Proofs.YtmdogmpcmkfjpaaGreatDoor.Dt
namespace Go.Proofs.YtmdogmpcmkfjpaaGreatDoor.Dt
open Go.Lib
set_option linter.unusedVariables false
def NameOk (s:ByteArray):Prop:=okT ⟨2,s,0,0⟩
def ValOk (v:V):Prop:=(v.k=0∧v.n=0∧v.s=⟨#[]⟩) ∨ (v.k=1∧-9223372036854775808 ≤ v.n∧v.n < 9223372036854775808∧v.s=⟨#[]⟩) ∨ ((v.k=2 ∨ v.k=3)∧v.n=0∧v.s.size ≤ 1000)
inductive ExOk:PE→Prop where
 | val (v:V):ValOk v→ExOk (.mk 1 v ⟨#[]⟩ ⟨#[]⟩ 0 [])
 | col (m:ByteArray):NameOk m→ExOk (.mk 2 V00 ⟨#[]⟩ m 0 [])
 | tcol (t m:ByteArray):NameOk t→NameOk m→ExOk (.mk 2 V00 t m 0 [])
 | one (op:Nat) (x:PE):(op=3 ∨ op=4 ∨ op=5 ∨ (20 ≤ op∧op ≤ 23))→ExOk x→ExOk (.node op [x])
 | two (op:Nat) (x y:PE):6 ≤ op→op ≤ 19→ExOk x→ExOk y→ExOk (.node op [x,y])
 | count:ExOk (.node 20 [])
section
variable {L:List Tk} {en:Int}
def AllOk (L:List Tk):Prop:=∀ t ∈ L,okT t∧t.n ≤ 9223372036854775808∧1 ≤ t.k∧t.k ≤ 6
theorem tok_ok (h:AllOk L) {k:Nat} (hk:(tokP L en k).k ≠ 0):okT (tokP L en k)∧(tokP L en k).n ≤ 9223372036854775808:=by
 have hlt:=tokP_lt hk
 have:tokP L en k ∈ L:=by
  unfold tokP
  rw [List.getElem?_eq_getElem hlt]
  exact List.getElem_mem hlt
 exact ⟨(h _ this).1,(h _ this).2.1⟩
end
end Go.Proofs.YtmdogmpcmkfjpaaGreatDoor.Dt
namespace Go.Proofs.YtmdogmpcmkfjpaaGreatDoor.Dt
open Go.Lib
set_option linter.unusedVariables false
def putsL (l:List (List UInt8)) (a:List UInt8):List UInt8:=a ++ l.flatMap (· ++ [32])
def valT (v:V):List UInt8:=
 if v.k=1 then (if v.n < 0 then 45 :: decDigits (-v.n).toNat else decDigits v.n.toNat)
 else if v.k=2 then 39 :: (quoteL v.s.data.toList ++ [39])
 else if v.k=3 then (if (writeL [⟨5,v.s,0,0⟩]).2=0 then (writeL [⟨5,v.s,0,0⟩]).1 else [63])
 else WNULL.data.toList
def sgnT:List (List UInt8):=[BPLUS,BMINUS,BSTAR,BDIV,BMOD,BJOIN,BEQ,BNE,BLT,BLE,BGT,BGE,WAND,WOR].map (·.data.toList)
def grpT:List (List UInt8):=[WCOUNT,WSUM,WMIN,WMAX].map (·.data.toList)
abbrev W1 (b:ByteArray):List UInt8:=b.data.toList
def kidT (w:List UInt8→List UInt8) (op:Nat) (bare:Bool) (a:List UInt8):List UInt8:=
 if bare && decide (op ≤ 2 ∨ 20 ≤ op) then w a else putsL [W1 BCLOSE] (w (putsL [W1 BOPEN] a))
def wrE:PE→List UInt8→List UInt8
 | .mk op v t m n kids,a=>if 32768 < a.length then a else
  match kids with
  | []=>if op=1 then putsL [valT v] a
   else if op=2 then putsL [W1 m] (if t=⟨#[]⟩ then a else putsL [W1 t,W1 BDOT] a)
   else if op=20 then putsL [W1 WCOUNT,W1 BOPEN,W1 BSTAR,W1 BCLOSE] a
   else putsL [[63]] a
  | [x]=>if op=3 then kidT (wrE x) x.op (decide (x.op ≠ 1)) (putsL [W1 BMINUS] a)
   else if op=4 then kidT (wrE x) x.op true (putsL [W1 WNOT] a)
   else if op=5 then putsL [W1 WIS,W1 WNULL] (kidT (wrE x) x.op true a)
   else if 20 ≤ op∧op ≤ 23 then kidT (wrE x) x.op false (putsL [(grpT[op - 20]?).getD []] a)
   else putsL [[63]] a
  | [x,y]=>if 6 ≤ op∧op ≤ 19 then kidT (wrE y) y.op true (putsL [(sgnT[op - 6]?).getD []] (kidT (wrE x) x.op true a))
   else putsL [[63]] a
  | _=>putsL [[63]] a
def commaT {α:Type} (one:α→List UInt8→List UInt8):Bool→List α→List UInt8→List UInt8
 | _,[],a=>a
 | first,x :: l,a=>commaT one false l (one x (if first then a else putsL [W1 BCOMMA] a))
def namesT (l:List ByteArray) (a:List UInt8):List UInt8:=putsL [W1 BCLOSE] (commaT (fun s=>putsL [W1 s]) true l (putsL [W1 BOPEN] a))
def behindT (w:List UInt8):List PE→List UInt8→List UInt8
 | [],a=>a
 | x :: l,a=>behindT w l (wrE x (putsL [w] a))
def asT (s:ByteArray) (a:List UInt8):List UInt8:=if s=⟨#[]⟩ then a else putsL [W1 WAS,W1 s] a
def tyT:List (List UInt8):=[[63],W1 WINTEGER,W1 WTEXT,W1 WBLOB]
def colsT:List PCol→List UInt8→List UInt8
 | [],a=>a
 | c :: l,a=>colsT l (putsL [W1 BCOMMA] (if c.nn then putsL [W1 WNOT,W1 WNULL] (putsL [W1 c.name,(tyT[c.ty % 4]?).getD []] a) else putsL [W1 c.name,(tyT[c.ty % 4]?).getD []] a))
def createT (x:PSt) (a:List UInt8):List UInt8:=
 if x.kind=3 then namesT x.key (putsL [W1 WINDEX,W1 x.name,W1 WON,W1 x.table] (if x.uniq then putsL [W1 WUNIQUE] (putsL [W1 WCREATE] a) else putsL [W1 WCREATE] a))
 else putsL [W1 BCLOSE] (namesT x.key (putsL [W1 WPRIMARY,W1 WKEY] (colsT x.cols (putsL [W1 WCREATE,W1 WTABLE,W1 x.table,W1 BOPEN] a))))
def itemT (x:PE × ByteArray) (a:List UInt8):List UInt8:=asT x.2 (wrE x.1 a)
def srcT:Bool→List PSrc→List UInt8→List UInt8
 | _,[],a=>a
 | first,x :: l,a=>srcT false l (behindT (W1 WON) x.on (asT x.as (if first then putsL [W1 WFROM,W1 x.table] a else putsL [W1 WJOIN,W1 x.table] a)))
def orderT (x:PE × Bool) (a:List UInt8):List UInt8:=if x.2 then putsL [W1 WDESC] (wrE x.1 a) else wrE x.1 a
def chooseT (x:PSt) (a:List UInt8):List UInt8:=
 let a:=putsL [W1 WSELECT] a
 let a:=if x.items.isEmpty then putsL [W1 BSTAR] a else a
 let a:=commaT itemT true x.items a
 let a:=srcT true x.src a
 let a:=behindT (W1 WWHERE) x.wh a
 let a:=if x.group.isEmpty then a else commaT wrE true x.group (putsL [W1 WGROUP,W1 WBY] a)
 let a:=behindT (W1 WHAVING) x.having a
 let a:=if x.order.isEmpty then a else commaT orderT true x.order (putsL [W1 WORDER,W1 WBY] a)
 if 0 ≤ x.limit then putsL [W1 WLIMIT,decDigits x.limit.toNat] a else a
def rowT (l:List PE) (a:List UInt8):List UInt8:=putsL [W1 BCLOSE] (commaT wrE true l (putsL [W1 BOPEN] a))
def setT (x:ByteArray × PE) (a:List UInt8):List UInt8:=wrE x.2 (putsL [W1 x.1,W1 BEQ] a)
def wrSt (x:PSt) (a:List UInt8):List UInt8:=
 if x.kind=1 ∨ x.kind=3 then createT x a
 else if x.kind=2 then putsL [W1 WDROP,W1 WTABLE,W1 x.table] a
 else if x.kind=4 then putsL [W1 WDROP,W1 WINDEX,W1 x.name] a
 else if x.kind=5 then commaT rowT true x.rows (putsL [W1 WVALUES] (namesT x.names (putsL [W1 WINSERT,W1 WINTO,W1 x.table] a)))
 else if x.kind=6 then behindT (W1 WWHERE) x.wh (commaT setT true x.sets (putsL [W1 WUPDATE,W1 x.table,W1 WSET] a))
 else if x.kind=7 then behindT (W1 WWHERE) x.wh (putsL [W1 WDELETE,W1 WFROM,W1 x.table] a)
 else if x.kind=8 then chooseT x a
 else if x.kind=9 then putsL [W1 WBEGIN] a
 else if x.kind=10 then putsL [W1 WCOMMIT] a
 else if x.kind=11 then putsL [W1 WROLLBACK] a
 else if x.kind=12 then putsL [W1 WSAVEPOINT,W1 x.name] a
 else if x.kind=13 then putsL [W1 WROLLBACK,W1 WTO,W1 x.name] a
 else if x.kind=14 then putsL [W1 WRELEASE,W1 x.name] a
 else a
def trimL (a:List UInt8):List UInt8:=if a.getLast? = some 32 then a.dropLast else a
open Classical in
noncomputable def printEL (x:PE):List UInt8 × Nat:=
 match toksL (trimL (wrE x [])) with
 | .inl _=>([],2)
 | .inr L=>if (writeL L).2=0∧exprL (writeL L).1 = .inr x then ((writeL L).1,0) else ([],2)
end Go.Proofs.YtmdogmpcmkfjpaaGreatDoor.Dt
