import Derived.Test.YtmdogmpcmkfjpaaGreatDoorBn01
import Derived.Test.YtmdogmpcmkfjpaaGreatDoorBn02
/- Part of the proof (merged). -/
namespace Go.Proofs.YtmdogmpcmkfjpaaGreatDoor.By
open Go.RowKit
section
variable {P:Program} {ops:Array Oper} {md:Region.Mode} {Q:Exit→Act→World→Prop}
theorem ready_false {done:Array Bool} {i:Nat} (h:i ∈ Region.ready md ops done):∃ hi:i < done.size,done[i]=false:=by
 have h1:=(mem_ready.1 h).1
 rcases Nat.lt_or_ge i done.size with hi | hi
 ·refine ⟨hi,?_⟩
  simpa [hi] using h1
 ·simp [Array.getElem?_eq_none hi] at h1
theorem count_set_true {done:Array Bool} {i:Nat} (hi:i < done.size) (h:done[i]=false):(done.setIfInBounds i true).toList.count false + 1=done.toList.count false:=by
 rw [Array.toList_setIfInBounds,List.count_set (by simpa using hi)]
 have hpos:0 < done.toList.count false:=List.count_pos_iff.2 (by
  rw [← h]
  simp)
 have e:(done.toList[i]'(by simpa using hi) == false)=true:=by simp [h]
 rw [if_pos e,if_neg (by decide)]
 omega
theorem wpAny_inv {I:Array Bool→Act→World→Prop}
 (hstep:∀ done a w i,done.size=ops.size→I done a w→i ∈ Region.ready md ops done→wpOp P ops Q i (I (done.setIfInBounds i true)) a w)
 (hend:∀ done a w,done.size=ops.size→I done a w→Region.ready md ops done = []→Q .normal a w) :
 ∀ (fuel:Nat) (done:Array Bool) (a:Act) (w:World),done.size=ops.size→done.toList.count false ≤ fuel→I done a w→wpAny P md ops Q fuel done a w:=by
 intro fuel
 induction fuel with
 | zero=>
  intro done a w hs hc hI
  have hr:Region.ready md ops done = []:=by
   cases hq:Region.ready md ops done with
   | nil=>rfl
   | cons i l=>
    exfalso
    obtain ⟨hi,h⟩:=ready_false (md:=md) (ops:=ops) (done:=done) (i:=i) (by rw [hq];exact List.mem_cons_self)
    have:=count_set_true hi h
    omega
  exact ⟨hr,hend done a w hs hI hr⟩
 | succ fuel ih=>
  intro done a w hs hc hI
  refine ⟨fun hr=>hend done a w hs hI hr,fun i hi=>?_⟩
  obtain ⟨hlt,h⟩:=ready_false hi
  have hcnt:=count_set_true hlt h
  exact wpOp_mono (fun a' w' hI'=>ih _ a' w' (by simpa using hs) (by omega) hI') (hstep done a w i hs hI hi)
end
theorem wp_region_inv {P:Program} {id:Nat} {Q:Exit→Act→World→Prop} {a:Act} {w:World} {ops:Array Oper} (hm:P.follows .mixedOrders=true) (I:Array Bool→Act→World→Prop)
 (h0:I (Array.replicate ops.size false) a w.drew)
 (hstep:∀ done a w i,done.size=ops.size→I done a w→i ∈ Region.ready .any ops done→wpOp P ops Q i (I (done.setIfInBounds i true)) a w)
 (hend:∀ done a w,done.size=ops.size→I done a w→Region.ready .any ops done = []→Q .normal a w):(Code.region id ops true).wp P Q a w:=
 wp_region_any hm (wpAny_inv hstep hend ops.size _ a _ (by simp) (by
  rw [Array.toList_replicate]
  exact Nat.le_trans (List.count_le_length) (by simp)) h0)
end Go.Proofs.YtmdogmpcmkfjpaaGreatDoor.By
namespace Go.Proofs.YtmdogmpcmkfjpaaGreatDoor.Dt
open Go.Lib
inductive PE where
 | mk (op:Nat) (v:V) (t m:ByteArray) (n:Int) (kids:List PE)
def V00:V:=⟨0,0,⟨#[]⟩⟩
def PE.zero:PE:=.mk 0 V00 ⟨#[]⟩ ⟨#[]⟩ 0 []
def PE.val1 (v:V):PE:=.mk 1 v ⟨#[]⟩ ⟨#[]⟩ 0 []
def PE.node (op:Nat) (kids:List PE):PE:=.mk op V00 ⟨#[]⟩ ⟨#[]⟩ 0 kids
def PE.op:PE→Nat | .mk o _ _ _ _ _=>o
def PE.v:PE→V | .mk _ v _ _ _ _=>v
def PE.t:PE→ByteArray | .mk _ _ t _ _ _=>t
def PE.m:PE→ByteArray | .mk _ _ _ m _ _=>m
def PE.n:PE→Int | .mk _ _ _ _ n _=>n
def PE.kids:PE→List PE | .mk _ _ _ _ _ l=>l
structure PCol where
 name:ByteArray
 ty:Nat
 nn:Bool
structure PSrc where
 table:ByteArray
 as:ByteArray
 on:List PE
structure PSt where
 kind:Nat:=0
 table:ByteArray:=⟨#[]⟩
 name:ByteArray:=⟨#[]⟩
 uniq:Bool:=false
 cols:List PCol:=[]
 key:List ByteArray:=[]
 names:List ByteArray:=[]
 rows:List (List PE):=[]
 sets:List (ByteArray × PE):=[]
 items:List (PE × ByteArray):=[]
 src:List PSrc:=[]
 wh:List PE:=[]
 group:List PE:=[]
 having:List PE:=[]
 order:List (PE × Bool):=[]
 limit:Int:=0
abbrev WOR:ByteArray:=⟨#[79,82]⟩
abbrev WAND:ByteArray:=⟨#[65,78,68]⟩
abbrev WNOT:ByteArray:=⟨#[78,79,84]⟩
abbrev WIS:ByteArray:=⟨#[73,83]⟩
abbrev WNULL:ByteArray:=⟨#[78,85,76,76]⟩
abbrev WCOUNT:ByteArray:=⟨#[67,79,85,78,84]⟩
abbrev WSUM:ByteArray:=⟨#[83,85,77]⟩
abbrev WMIN:ByteArray:=⟨#[77,73,78]⟩
abbrev WMAX:ByteArray:=⟨#[77,65,88]⟩
abbrev WPRIMARY:ByteArray:=⟨#[80,82,73,77,65,82,89]⟩
abbrev WKEY:ByteArray:=⟨#[75,69,89]⟩
abbrev WINTEGER:ByteArray:=⟨#[73,78,84,69,71,69,82]⟩
abbrev WTEXT:ByteArray:=⟨#[84,69,88,84]⟩
abbrev WBLOB:ByteArray:=⟨#[66,76,79,66]⟩
abbrev WTABLE:ByteArray:=⟨#[84,65,66,76,69]⟩
abbrev WUNIQUE:ByteArray:=⟨#[85,78,73,81,85,69]⟩
abbrev WINDEX:ByteArray:=⟨#[73,78,68,69,88]⟩
abbrev WON:ByteArray:=⟨#[79,78]⟩
abbrev WAS:ByteArray:=⟨#[65,83]⟩
abbrev WFROM:ByteArray:=⟨#[70,82,79,77]⟩
abbrev WJOIN:ByteArray:=⟨#[74,79,73,78]⟩
abbrev WWHERE:ByteArray:=⟨#[87,72,69,82,69]⟩
abbrev WGROUP:ByteArray:=⟨#[71,82,79,85,80]⟩
abbrev WBY:ByteArray:=⟨#[66,89]⟩
abbrev WHAVING:ByteArray:=⟨#[72,65,86,73,78,71]⟩
abbrev WORDER:ByteArray:=⟨#[79,82,68,69,82]⟩
abbrev WDESC:ByteArray:=⟨#[68,69,83,67]⟩
abbrev WLIMIT:ByteArray:=⟨#[76,73,77,73,84]⟩
abbrev WCREATE:ByteArray:=⟨#[67,82,69,65,84,69]⟩
abbrev WDROP:ByteArray:=⟨#[68,82,79,80]⟩
abbrev WINSERT:ByteArray:=⟨#[73,78,83,69,82,84]⟩
abbrev WINTO:ByteArray:=⟨#[73,78,84,79]⟩
abbrev WVALUES:ByteArray:=⟨#[86,65,76,85,69,83]⟩
abbrev WUPDATE:ByteArray:=⟨#[85,80,68,65,84,69]⟩
abbrev WSET:ByteArray:=⟨#[83,69,84]⟩
abbrev WDELETE:ByteArray:=⟨#[68,69,76,69,84,69]⟩
abbrev WSELECT:ByteArray:=⟨#[83,69,76,69,67,84]⟩
abbrev WBEGIN:ByteArray:=⟨#[66,69,71,73,78]⟩
abbrev WCOMMIT:ByteArray:=⟨#[67,79,77,77,73,84]⟩
abbrev WROLLBACK:ByteArray:=⟨#[82,79,76,76,66,65,67,75]⟩
abbrev WTO:ByteArray:=⟨#[84,79]⟩
abbrev WSAVEPOINT:ByteArray:=⟨#[83,65,86,69,80,79,73,78,84]⟩
abbrev WRELEASE:ByteArray:=⟨#[82,69,76,69,65,83,69]⟩
abbrev BJOIN:ByteArray:=⟨#[124,124]⟩
abbrev BPLUS:ByteArray:=⟨#[43]⟩
abbrev BMINUS:ByteArray:=⟨#[45]⟩
abbrev BSTAR:ByteArray:=⟨#[42]⟩
abbrev BDIV:ByteArray:=⟨#[47]⟩
abbrev BMOD:ByteArray:=⟨#[37]⟩
abbrev BEQ:ByteArray:=⟨#[61]⟩
abbrev BNE:ByteArray:=⟨#[60,62]⟩
abbrev BLT:ByteArray:=⟨#[60]⟩
abbrev BLE:ByteArray:=⟨#[60,61]⟩
abbrev BGT:ByteArray:=⟨#[62]⟩
abbrev BGE:ByteArray:=⟨#[62,61]⟩
abbrev BDOT:ByteArray:=⟨#[46]⟩
abbrev BOPEN:ByteArray:=⟨#[40]⟩
abbrev BCLOSE:ByteArray:=⟨#[41]⟩
abbrev BCOMMA:ByteArray:=⟨#[44]⟩
abbrev BSEMI:ByteArray:=⟨#[59]⟩
structure PS where
 k:Nat
 e:Nat
 a:Int
abbrev Rd (α:Type):=PS→α × PS
def ret {α:Type} (x:α):Rd α:=fun s=>(x,s)
def bnd {α β:Type} (p:Rd α) (q:α→Rd β):Rd β:=fun s=>q (p s).1 (p s).2
def outM {α:Type} (x:α):Rd α:=fun s=>(x,{ s with e:=99 })
abbrev PS.next (s:PS):PS:={ s with k:=s.k + 1 }
section
variable (L:List Tk) (en:Int)
def tokP (k:Nat):Tk:=(L[k]?).getD ⟨0,⟨#[]⟩,0,en⟩
def failP (e:Nat) (s:PS):PS:=if s.e=0 then { s with e:=e,a:=(tokP L en s.k).a } else s
def failM (e:Nat):Rd Unit:=fun s=>((),failP L en e s)
def okM:Rd Bool:=fun s=>(decide (s.e=0),s)
def isB (t:ByteArray) (s:PS):Bool:=decide (s.e=0∧((tokP L en s.k).k=1 ∨ (tokP L en s.k).k=6)∧(tokP L en s.k).s=t)
def isM (t:ByteArray):Rd Bool:=fun s=>(isB L en t s,if isB L en t s then s.next else s)
def mustM:List ByteArray→Rd Unit
 | []=>ret ()
 | t :: l=>bnd (isM L en t) fun b=>if b then mustM l else failM L en 6
def nameM:Rd ByteArray:=fun s=>
 if s.e=0∧(tokP L en s.k).k=2 then ((tokP L en s.k).s,s.next) else (⟨#[]⟩,failP L en 6 s)
def listM {α:Type} (one:Rd α):Nat→Rd (List α)
 | 0=>outM []
 | f + 1=>bnd one fun x=>bnd okM fun ok=>if ok then
     (bnd (isM L en BCOMMA) fun b=>if b then bnd (listM one f) fun r=>bnd okM fun ok=>ret (if ok then x :: r else []) else ret [x])
  else ret []
def insideM {α:Type} (one:Rd α) (f:Nat):Rd (List α):=
 bnd (mustM L en [BOPEN]) fun _=>bnd (listM L en one f) fun l=>bnd (mustM L en [BCLOSE]) fun _=>ret l
def oneOf:List (ByteArray × Nat)→Rd (Option Nat)
 | []=>ret none
 | x :: l=>bnd (isM L en x.1) fun b=>if b then ret (some x.2) else oneOf l
def chainM (ops:List (ByteArray × Nat)) (one:Rd PE):Nat→PE→Rd PE
 | 0,x=>outM x
 | f + 1,x=>bnd (oneOf L en ops) fun o=>match o with
  | none=>ret x
  | some o=>bnd one fun y=>chainM ops one f (.node o [x,y])
def chainL (ops:List (ByteArray × Nat)) (one:Rd PE) (f:Nat):Rd PE:=bnd one (chainM L en ops one f)
inductive Md where
 | expr | not | sum (k:Nat) | unary | prim
def opsOf:Nat→List (ByteArray × Nat)
 | 0=>[(BJOIN,11)]
 | 1=>[(BPLUS,6),(BMINUS,7)]
 | _=>[(BSTAR,8),(BDIV,9),(BMOD,10)]
def cmps:List (ByteArray × Nat):=[(BEQ,12),(BNE,13),(BLT,14),(BLE,15),(BGT,16),(BGE,17)]
def groups:List (ByteArray × Nat):=[(WSUM,21),(WMIN,22),(WMAX,23)]
def litM:Rd (Option PE):=fun s=>
 let t:=tokP L en s.k
 if s.e ≠ 0 then (some PE.zero,s)
 else if t.k=3 then (if t.n < 9223372036854775808 then (some (PE.val1 ⟨1,(t.n:Int),⟨#[]⟩⟩),s.next) else (some PE.zero,failP L en 5 s))
 else if t.k=4 then (some (PE.val1 ⟨2,0,t.s⟩),s.next)
 else if t.k=5 then (some (PE.val1 ⟨3,0,t.s⟩),s.next)
 else (none,s)
def nameQ:Rd (Option ByteArray):=fun s=>if s.e=0∧(tokP L en s.k).k=2 then (some (tokP L en s.k).s,s.next) else (none,s)
def negM:Rd (Option Nat):=fun s=>if (tokP L en s.k).k=3 then (some (tokP L en s.k).n,s.next) else (none,s)
def exF:Nat→Md→Rd PE
 | 0,_=>outM PE.zero
 | f + 1,.expr=>chainL L en [(WOR,19)] (chainL L en [(WAND,18)] (exF f .not) f) f
 | f + 1,.not=>bnd (isM L en WNOT) fun b=>if b then bnd (exF f .not) fun x=>ret (PE.node 4 [x])
  else bnd (exF f (.sum 0)) fun x=>bnd (isM L en WIS) fun b=>if b then
   (bnd (isM L en WNOT) fun b=>bnd (mustM L en [WNULL]) fun _=>ret (if b then PE.node 4 [PE.node 5 [x]] else PE.node 5 [x]))
   else bnd (oneOf L en cmps) fun o=>match o with
    | some o=>bnd (exF f (.sum 0)) fun y=>ret (PE.node o [x,y])
    | none=>ret x
 | f + 1,.sum k=>if k=3 then exF f .unary else chainL L en (opsOf k) (exF f (.sum (k + 1))) f
 | f + 1,.unary=>bnd (isM L en BMINUS) fun b=>if b then
     (bnd (negM L en) fun n=>match n with
      | some n=>ret (PE.val1 ⟨1,-(n:Int),⟨#[]⟩⟩)
      | none=>bnd (exF f .unary) fun x=>ret (PE.node 3 [x]))
  else exF f .prim
 | f + 1,.prim=>bnd (litM L en) fun r=>match r with
  | some x=>ret x
  | none=>bnd (nameQ L en) fun r=>match r with
   | some t=>bnd (isM L en BDOT) fun b=>if b then bnd (nameM L en) fun m=>ret (.mk 2 V00 t m 0 []) else ret (.mk 2 V00 ⟨#[]⟩ t 0 [])
   | none=>bnd (isM L en WNULL) fun b=>if b then ret (PE.val1 V00)
    else bnd (isM L en BOPEN) fun b=>if b then bnd (exF f .expr) fun x=>bnd (mustM L en [BCLOSE]) fun _=>ret x
    else bnd (isM L en WCOUNT) fun b=>if b then
     (bnd (mustM L en [BOPEN]) fun _=>bnd (isM L en BSTAR) fun b=>if b then bnd (mustM L en [BCLOSE]) fun _=>ret (PE.node 20 [])
      else bnd (exF f .expr) fun x=>bnd (mustM L en [BCLOSE]) fun _=>ret (PE.node 20 [x]))
    else bnd (oneOf L en groups) fun o=>match o with
     | some o=>bnd (mustM L en [BOPEN]) fun _=>bnd (exF f .expr) fun x=>bnd (mustM L en [BCLOSE]) fun _=>ret (PE.node o [x])
     | none=>bnd (failM L en 6) fun _=>ret PE.zero
def FU:Nat:=100000
def exprM:Rd PE:=exF L en FU .expr
def maybeM (w:ByteArray):Rd (List PE):=bnd (isM L en w) fun b=>if b then bnd (exprM L en) fun x=>ret [x] else ret []
def types:List (ByteArray × Nat):=[(WINTEGER,1),(WTEXT,2),(WBLOB,3)]
def colM:Rd PCol:=bnd (nameM L en) fun n=>bnd (oneOf L en types) fun o=>bnd (match o with | some o=>ret o | none=>bnd (failM L en 6) fun _=>ret 0) fun ty=>
 bnd (isM L en WNOT) fun b=>if b then bnd (mustM L en [WNULL]) fun _=>ret ⟨n,ty,true⟩ else ret ⟨n,ty,false⟩
def colsM:Nat→List PCol→Rd (List PCol)
 | 0,cs=>outM cs
 | f + 1,cs=>bnd okM fun ok=>if ok then
     (bnd (if cs.isEmpty then ret false else isM L en WPRIMARY) fun b=>if b then ret cs else bnd (colM L en) fun c=>bnd (mustM L en [BCOMMA]) fun _=>colsM f (cs ++ [c]))
  else ret cs
def namesM:Rd (List ByteArray):=insideM L en (nameM L en) FU
def createM:Rd PSt:=bnd (isM L en WTABLE) fun b=>if b then
    (bnd (nameM L en) fun n=>bnd (mustM L en [BOPEN]) fun _=>bnd (colsM L en FU []) fun c=>bnd (mustM L en [WKEY]) fun _=>bnd (namesM L en) fun k=>
     bnd (mustM L en [BCLOSE]) fun _=>ret { kind:=1,table:=n,cols:=c,key:=k })
 else bnd (isM L en WUNIQUE) fun u=>bnd (mustM L en [WINDEX]) fun _=>bnd (nameM L en) fun n=>bnd (mustM L en [WON]) fun _=>bnd (nameM L en) fun t=>bnd (namesM L en) fun k=>
  ret { kind:=3,uniq:=u,name:=n,table:=t,key:=k }
def sourceM:Rd PSrc:=bnd (nameM L en) fun n=>bnd (isM L en WAS) fun b=>if b then bnd (nameM L en) fun m=>ret ⟨n,m,[]⟩ else ret ⟨n,⟨#[]⟩,[]⟩
def itemM:Rd (PE × ByteArray):=bnd (exprM L en) fun x=>bnd (isM L en WAS) fun b=>if b then bnd (nameM L en) fun m=>ret (x,m) else ret (x,⟨#[]⟩)
def orderM:Rd (PE × Bool):=bnd (exprM L en) fun x=>bnd (isM L en WDESC) fun b=>ret (x,b)
def setM:Rd (ByteArray × PE):=bnd (nameM L en) fun n=>bnd (mustM L en [BEQ]) fun _=>bnd (exprM L en) fun x=>ret (n,x)
def joinsM:Nat→List PSrc→Rd (List PSrc)
 | 0,l=>outM l
 | f + 1,l=>bnd (isM L en WJOIN) fun b=>if b then
     (bnd (sourceM L en) fun x=>bnd (mustM L en [WON]) fun _=>bnd (exprM L en) fun y=>joinsM f (l ++ [{ x with on:=[y] }]))
  else ret l
def byM {α:Type} (w:ByteArray) (one:Rd α):Rd (List α):=bnd (isM L en w) fun b=>if b then bnd (mustM L en [WBY]) fun _=>listM L en one FU else ret []
def numM:Rd Int:=fun s=>
 if (tokP L en s.k).k ≠ 3 then (-1,failP L en 6 s)
 else if 1073741824 < (tokP L en s.k).n then (-1,failP L en 5 s)
 else (((tokP L en s.k).n:Int),s.next)
def limitM:Rd Int:=bnd (isM L en WLIMIT) fun b=>if b then numM L en else ret (-1)
def chooseM:Rd PSt:=bnd (isM L en BSTAR) fun b=>bnd (if b then ret [] else listM L en (itemM L en) FU) fun i=>bnd (mustM L en [WFROM]) fun _=>bnd (sourceM L en) fun x=>
 bnd (joinsM L en FU [x]) fun j=>bnd (maybeM L en WWHERE) fun w=>bnd (byM L en WGROUP (exprM L en)) fun g=>bnd (maybeM L en WHAVING) fun h=>
 bnd (byM L en WORDER (orderM L en)) fun o=>bnd (limitM L en) fun m=>ret { kind:=8,items:=i,src:=j,wh:=w,group:=g,having:=h,order:=o,limit:=m }
def dropM:Rd PSt:=bnd (isM L en WTABLE) fun b=>if b then bnd (nameM L en) fun n=>ret { kind:=2,table:=n }
 else bnd (mustM L en [WINDEX]) fun _=>bnd (nameM L en) fun n=>ret { kind:=4,name:=n }
def insertM:Rd PSt:=bnd (mustM L en [WINTO]) fun _=>bnd (nameM L en) fun t=>bnd (namesM L en) fun n=>bnd (mustM L en [WVALUES]) fun _=>
 bnd (listM L en (insideM L en (exprM L en) FU) FU) fun r=>ret { kind:=5,table:=t,names:=n,rows:=r }
def updateM:Rd PSt:=bnd (nameM L en) fun t=>bnd (mustM L en [WSET]) fun _=>bnd (listM L en (setM L en) FU) fun c=>bnd (maybeM L en WWHERE) fun w=>
 ret { kind:=6,table:=t,sets:=c,wh:=w }
def deleteM:Rd PSt:=bnd (mustM L en [WFROM]) fun _=>bnd (nameM L en) fun t=>bnd (maybeM L en WWHERE) fun w=>ret { kind:=7,table:=t,wh:=w }
def rollM:Rd PSt:=bnd (isM L en WTO) fun b=>if b then bnd (nameM L en) fun n=>ret { kind:=13,name:=n } else ret { kind:=11 }
def saveM (k:Nat):Rd PSt:=bnd (nameM L en) fun n=>ret { kind:=k,name:=n }
def restM:Rd PSt:=
 bnd (isM L en WBEGIN) fun b=>if b then ret { kind:=9 }
 else bnd (isM L en WCOMMIT) fun b=>if b then ret { kind:=10 }
 else bnd (isM L en WROLLBACK) fun b=>if b then rollM L en
 else bnd (isM L en WSAVEPOINT) fun b=>if b then saveM L en 12
 else bnd (isM L en WRELEASE) fun b=>if b then saveM L en 14
 else bnd (failM L en 6) fun _=>ret {}
def stmtM:Rd PSt:=
 bnd (isM L en WCREATE) fun b=>if b then createM L en
 else bnd (isM L en WDROP) fun b=>if b then dropM L en
 else bnd (isM L en WINSERT) fun b=>if b then insertM L en
 else bnd (isM L en WUPDATE) fun b=>if b then updateM L en
 else bnd (isM L en WDELETE) fun b=>if b then deleteM L en
 else bnd (isM L en WSELECT) fun b=>if b then chooseM L en
 else restM L en
def stmtsM:Nat→Rd (List PSt)
 | 0=>outM []
 | f + 1=>fun s=>if s.e=0∧s.k < L.length then
     (bnd (stmtM L en) fun x=>bnd (fun s=>if s.k < L.length then mustM L en [BSEMI] s else ((),s)) fun _=>bnd (stmtsM f) fun r=>ret (x :: r)) s
  else ([],s)
end
def scriptL (t:List UInt8):(Nat × Int) ⊕ List PSt:=
 match toksL t with
 | .inl (e,a)=>.inl (e,(a:Int))
 | .inr L=>
  let r:=stmtsM L (t.length:Int) FU ⟨0,0,0⟩
  if r.2.e=0 then .inr r.1 else .inl (r.2.e,r.2.a)
def exprL (t:List UInt8):(Nat × Int) ⊕ PE:=
 match toksL t with
 | .inl (e,a)=>.inl (e,(a:Int))
 | .inr L=>
  let r:=exprM L (t.length:Int) ⟨0,0,0⟩
  let s:=if r.2.k < L.length then failP L (t.length:Int) 6 r.2 else r.2
  if s.e=0 then .inr r.1 else .inl (s.e,s.a)
end Go.Proofs.YtmdogmpcmkfjpaaGreatDoor.Dt
namespace Go.Proofs.YtmdogmpcmkfjpaaGreatDoor.Dt
open Go.Lib
def Dull (u:Tk):Prop:=u.k=0 ∨ (u.k=6∧(u.s=BSEMI ∨ u.s=BCLOSE))
theorem Dull.kind {u:Tk} (h:Dull u):u.k=0 ∨ u.k=6:=h.elim .inl (fun h=>.inr h.1)
theorem Dull.text {u:Tk} (h:Dull u) {t:ByteArray} (h1:t ≠ BSEMI) (h2:t ≠ BCLOSE):¬ ((u.k=1 ∨ u.k=6)∧u.s=t):=by
 rintro ⟨hk,rfl⟩
 rcases h with h | ⟨_,h | h⟩
 ·omega
 ·exact h1 h
 ·exact h2 h
section
variable {L L':List Tk} {en en':Int} {d:Nat}
structure Sim (L:List Tk) (en:Int) (L':List Tk) (en':Int) (d:Nat) {α:Type} (p p':Rd α):Prop where
 mono:∀ s,s.k ≤ (p s).2.k∧(s.e ≠ 0→(p s).2.e ≠ 0)
 le:∀ s,s.k ≤ L.length→(p s).2.k ≤ L.length
 go:∀ s s':PS,s.k + d=s'.k→s.e=0→s'.e=0→(p s).2.e=0→(∀ j,s.k ≤ j→j < (p s).2.k→sameT (tokP L en j) (tokP L' en' (j + d))) →
  (sameT (tokP L en (p s).2.k) (tokP L' en' ((p s).2.k + d)) ∨ (Dull (tokP L en (p s).2.k)∧Dull (tokP L' en' ((p s).2.k + d)))) →
  (p' s').1=(p s).1∧(p' s').2.k=(p s).2.k + d∧(p' s').2.e=0
theorem Sim.ret {α:Type} (x:α):Sim L en L' en' d (ret x) (ret x):=
 ⟨fun _=>⟨Nat.le_refl _,id⟩,fun _ h=>h,fun _ _ hk _ he' _ _ _=>⟨rfl,hk.symm,he'⟩⟩
theorem Sim.bnd {α β:Type} {p p':Rd α} {q q':α→Rd β} (hp:Sim L en L' en' d p p') (hq:∀ x,Sim L en L' en' d (q x) (q' x)):Sim L en L' en' d (bnd p q) (bnd p' q'):=by
 refine ⟨fun s=>⟨Nat.le_trans (hp.mono s).1 ((hq _).mono _).1,fun h=>((hq _).mono _).2 ((hp.mono s).2 h)⟩,fun s h=>(hq _).le _ (hp.le s h),fun s s' hk he he' hf hr hl=>?_⟩
 have h1:(p s).2.e=0:=Classical.byContradiction fun h=>((hq (p s).1).mono (p s).2).2 h hf
 have hm:=((hq (p s).1).mono (p s).2).1
 obtain ⟨e1,e2,e3⟩:=hp.go s s' hk he he' h1 (fun j h2 h3=>hr j h2 (Nat.lt_of_lt_of_le h3 hm)) (by
  rcases Nat.lt_or_ge (p s).2.k (q (p s).1 (p s).2).2.k with h | h
  ·exact .inl (hr _ (hp.mono s).1 h)
  ·have he:(p s).2.k=(q (p s).1 (p s).2).2.k:=Nat.le_antisymm hm h
   rw [he];exact hl)
 obtain ⟨g1,g2,g3⟩:=(hq (p s).1).go (p s).2 (p' s').2 e2.symm h1 e3 hf (fun j h2 h3=>hr j (Nat.le_trans (hp.mono s).1 h2) h3) hl
 show (q' (p' s').1 (p' s').2).1=(q (p s).1 (p s).2).1∧(q' (p' s').1 (p' s').2).2.k=(q (p s).1 (p s).2).2.k + d∧(q' (p' s').1 (p' s').2).2.e=0
 rw [e1]
 exact ⟨g1,g2,g3⟩
theorem Sim.ite {α:Type} {p p' q q':Rd α} (b:Bool) (hp:Sim L en L' en' d p p') (hq:Sim L en L' en' d q q'):Sim L en L' en' d (if b then p else q) (if b then p' else q'):=by
 cases b
 ·exact hq
 ·exact hp
theorem Sim.okM:Sim L en L' en' d okM okM:=
 ⟨fun s=>⟨Nat.le_refl _,id⟩,fun _ h=>h,fun s s' hk he he' _ _ _=>⟨by simp [Dt.okM,he,he'],hk.symm,he'⟩⟩
theorem isB_iff {t:ByteArray} {s:PS} : isB L en t s=true ↔ s.e=0∧((tokP L en s.k).k=1 ∨ (tokP L en s.k).k=6)∧(tokP L en s.k).s=t:=by
 unfold isB;rw [decide_eq_true_eq]
theorem isM_k (t:ByteArray) (s:PS):s.k ≤ (isM L en t s).2.k∧(s.e ≠ 0→(isM L en t s).2.e ≠ 0):=by
 unfold isM
 split
 ·exact ⟨Nat.le_succ _,id⟩
 ·exact ⟨Nat.le_refl _,id⟩
theorem tokP_end {k:Nat} (h:¬ k < L.length):(tokP L en k).k=0:=by unfold tokP;rw [List.getElem?_eq_none (by omega)];rfl
theorem tokP_lt {k:Nat} (h:(tokP L en k).k ≠ 0):k < L.length:=Classical.byContradiction fun hn=>h (tokP_end hn)
theorem isM_le (t:ByteArray) (s:PS) (h:s.k ≤ L.length):(isM L en t s).2.k ≤ L.length:=by
 unfold isM
 split
 ·rename_i hb
  have h1:=(isB_iff.1 hb).2.1
  show s.k + 1 ≤ L.length
  rcases Nat.lt_or_ge s.k L.length with h2 | h2
  ·omega
  ·have:=tokP_end (L:=L) (en:=en) (k:=s.k) (by omega);omega
 ·exact h
theorem Sim.isM (t:ByteArray) (h1:t ≠ BSEMI) (h2:t ≠ BCLOSE):Sim L en L' en' d (isM L en t) (isM L' en' t):=by
 refine ⟨isM_k t,isM_le t,fun s s' hk he he' hf hr hl=>?_⟩
 by_cases hb:isB L en t s=true
 ·have e:Dt.isM L en t s=(true,s.next):=by unfold Dt.isM;rw [hb,if_pos rfl]
  rw [e] at hr
  have ha:=hr s.k (Nat.le_refl _) (Nat.lt_succ_self _)
  have hb':isB L' en' t s'=true:=by
   rw [isB_iff] at hb ⊢
   rw [← hk]
   exact ⟨he',by rw [← ha.1];exact hb.2.1,by rw [← ha.2.1];exact hb.2.2⟩
  have e':Dt.isM L' en' t s'=(true,s'.next):=by unfold Dt.isM;rw [hb',if_pos rfl]
  rw [e,e']
  exact ⟨rfl,by show s'.k + 1=s.k + 1 + d;omega,he'⟩
 ·have hb0:isB L en t s=false:=by simpa using hb
  have e:Dt.isM L en t s=(false,s):=by unfold Dt.isM;rw [hb0,if_neg (by simp)]
  rw [e] at hl
  have hb':isB L' en' t s'=false:=by
   rw [Bool.eq_false_iff]
   intro hc
   rw [isB_iff] at hc
   rw [← hk] at hc
   rcases hl with ha | ⟨_,hd⟩
   ·exact hb (isB_iff.2 ⟨he,by rw [ha.1];exact hc.2.1,by rw [ha.2.1];exact hc.2.2⟩)
   ·exact hd.text h1 h2 hc.2
  have e':Dt.isM L' en' t s'=(false,s'):=by unfold Dt.isM;rw [hb',if_neg (by simp)]
  rw [e,e']
  exact ⟨rfl,hk.symm,he'⟩
theorem failP_k (e:Nat) (s:PS) (he:e ≠ 0):(failP L en e s).k=s.k∧(failP L en e s).e ≠ 0:=by
 unfold failP
 split
 ·exact ⟨rfl,he⟩
 ·exact ⟨rfl,by assumption⟩
theorem Sim.failM (e:Nat) (he:e ≠ 0):Sim L en L' en' d (failM L en e) (failM L' en' e):=
 ⟨fun s=>⟨Nat.le_of_eq (failP_k e s he).1.symm,fun _=>(failP_k e s he).2⟩,fun s h=>Nat.le_trans (Nat.le_of_eq (failP_k e s he).1) h,fun s _ _ _ _ hf _ _=>absurd hf (failP_k e s he).2⟩
theorem Sim.outM {α:Type} (x:α):Sim L en L' en' d (outM x) (outM x):=
 ⟨fun _=>⟨Nat.le_refl _,fun _=>by show (99:Nat) ≠ 0;decide⟩,fun _ h=>h,fun _ _ _ _ _ hf _ _=>absurd hf (by show ¬ (99:Nat)=0;decide)⟩
theorem must_mono:∀ (ws:List ByteArray) (s:PS),s.k ≤ (mustM L en ws s).2.k∧(s.e ≠ 0→(mustM L en ws s).2.e ≠ 0)
 | [],s=>⟨Nat.le_refl _,id⟩
 | t :: l,s=>by
  have h1:=isM_k (L:=L) (en:=en) t s
  show s.k ≤ ((if (isM L en t s).1 then mustM L en l else failM L en 6) (isM L en t s).2).2.k∧_
  show _∧(s.e ≠ 0→((if (isM L en t s).1 then mustM L en l else failM L en 6) (isM L en t s).2).2.e ≠ 0)
  split
  ·have h2:=must_mono l (isM L en t s).2
   exact ⟨Nat.le_trans h1.1 h2.1,fun h=>h2.2 (h1.2 h)⟩
  ·have h2:=failP_k (L:=L) (en:=en) 6 (isM L en t s).2 (by decide)
   exact ⟨Nat.le_trans h1.1 (Nat.le_of_eq h2.1.symm),fun _=>h2.2⟩
theorem must_le:∀ (ws:List ByteArray) (s:PS),s.k ≤ L.length→(mustM L en ws s).2.k ≤ L.length
 | [],_,h=>h
 | t :: l,s,h=>by
  have h1:=isM_le (en:=en) t s h
  show ((if (isM L en t s).1 then mustM L en l else failM L en 6) (isM L en t s).2).2.k ≤ _
  split
  ·exact must_le l _ h1
  ·exact Nat.le_trans (Nat.le_of_eq (failP_k (L:=L) (en:=en) 6 (isM L en t s).2 (by decide)).1) h1
theorem Sim.mustM:∀ (ws:List ByteArray),Sim L en L' en' d (mustM L en ws) (mustM L' en' ws)
 | []=>Sim.ret ()
 | t :: l=>by
  refine ⟨must_mono (t :: l),must_le (t :: l),fun s s' hk he he' hf hr hl=>?_⟩
  have ih:=Sim.mustM l
  by_cases hb:isB L en t s=true
  ·have e:Dt.isM L en t s=(true,s.next):=by unfold Dt.isM;rw [hb,if_pos rfl]
   have em:Dt.mustM L en (t :: l) s=Dt.mustM L en l s.next:=by
    show (if (Dt.isM L en t s).1 then Dt.mustM L en l else Dt.failM L en 6) (Dt.isM L en t s).2=_
    rw [e];rfl
   rw [em] at hf hr hl ⊢
   have hm:=(must_mono (L:=L) (en:=en) l s.next).1
   have ha:=hr s.k (Nat.le_refl _) (Nat.lt_of_lt_of_le (Nat.lt_succ_self _) hm)
   have hb':isB L' en' t s'=true:=by
    rw [isB_iff] at hb ⊢
    rw [← hk]
    exact ⟨he',by rw [← ha.1];exact hb.2.1,by rw [← ha.2.1];exact hb.2.2⟩
   have e':Dt.isM L' en' t s'=(true,s'.next):=by unfold Dt.isM;rw [hb',if_pos rfl]
   have em':Dt.mustM L' en' (t :: l) s'=Dt.mustM L' en' l s'.next:=by
    show (if (Dt.isM L' en' t s').1 then Dt.mustM L' en' l else Dt.failM L' en' 6) (Dt.isM L' en' t s').2=_
    rw [e'];rfl
   rw [em']
   exact ih.go s.next s'.next (by show s.k + 1 + d=s'.k + 1;omega) he he' hf (fun j h2 h3=>hr j (Nat.le_of_succ_le h2) h3) hl
  ·have hb0:isB L en t s=false:=by simpa using hb
   have e:Dt.isM L en t s=(false,s):=by unfold Dt.isM;rw [hb0,if_neg (by simp)]
   have em:Dt.mustM L en (t :: l) s=Dt.failM L en 6 s:=by
    show (if (Dt.isM L en t s).1 then Dt.mustM L en l else Dt.failM L en 6) (Dt.isM L en t s).2=_
    rw [e];rfl
   rw [em] at hf
   exact absurd hf (failP_k 6 s (by decide)).2
def takeP {α:Type} (L:List Tk) (en:Int) (good:Tk→Option α) (bad:Tk→Option (α × Nat)) (none_:α) (s:PS):α × PS:=
 match good (tokP L en s.k) with
 | some x=>(x,s.next)
 | none=>match bad (tokP L en s.k) with
  | some x=>(x.1,failP L en x.2 s)
  | none=>(none_,s)
theorem Sim.take {α:Type} (good:Tk→Option α) (bad:Tk→Option (α × Nat)) (none_:α)
 (hgood:∀ u v,sameT u v→good u=good v) (hbad:∀ u v,sameT u v→bad u=bad v) (hd:∀ u,Dull u→good u=none) (hd':∀ u v,Dull u→Dull v→bad u=none→bad v=none) (hz:∀ u x,bad u=some x→x.2 ≠ 0)
 (p p':Rd α) (hp:∀ s:PS,s.e=0→p s=takeP L en good bad none_ s)
 (hp':∀ s:PS,s.e=0→p' s=takeP L' en' good bad none_ s)
 (hpe:∀ s:PS,s.e ≠ 0→s.k ≤ (p s).2.k∧(p s).2.e ≠ 0∧(s.k ≤ L.length→(p s).2.k ≤ L.length)):Sim L en L' en' d p p':=by
 refine ⟨fun s=>?_,fun s h=>?_,fun s s' hk he he' hf hr hl=>?_⟩
 ·by_cases he:s.e=0
  ·rw [hp s he]
   unfold takeP
   cases good (tokP L en s.k) with
   | some x=>exact ⟨Nat.le_succ _,fun h=>absurd he h⟩
   | none=>
    cases hb:bad (tokP L en s.k) with
    | some x=>exact ⟨Nat.le_of_eq (failP_k _ s (hz _ _ hb)).1.symm,fun h=>absurd he h⟩
    | none=>exact ⟨Nat.le_refl _,fun h=>absurd he h⟩
  ·exact ⟨(hpe s he).1,fun _=>(hpe s he).2.1⟩
 ·by_cases he:s.e=0
  ·rw [hp s he]
   unfold takeP
   cases hg:good (tokP L en s.k) with
   | some x=>
    show s.k + 1 ≤ L.length
    rcases Nat.lt_or_ge s.k L.length with h2 | h2
    ·omega
    ·rw [hd _ (.inl (tokP_end (by omega)))] at hg;cases hg
   | none=>
    cases hb:bad (tokP L en s.k) with
    | some x=>exact Nat.le_trans (Nat.le_of_eq (failP_k _ s (hz _ _ hb)).1) h
    | none=>exact h
  ·exact (hpe s he).2.2 h
 ·rw [hp s he] at hf hr hl ⊢
  rw [hp' s' he']
  unfold takeP at hf hr hl ⊢
  rw [← hk]
  cases hg:good (tokP L en s.k) with
  | some x=>
   rw [hg] at hr
   have ha:=hr s.k (Nat.le_refl _) (Nat.lt_succ_self _)
   rw [← hgood _ _ ha,hg]
   exact ⟨rfl,by show s'.k + 1=s.k + 1 + d;omega,he'⟩
  | none=>
   rw [hg] at hf hl
   cases hb:bad (tokP L en s.k) with
   | some x=>rw [hb] at hf;exact absurd hf (failP_k _ s (hz _ _ hb)).2
   | none=>
    rw [hb] at hl
    change sameT (tokP L en s.k) (tokP L' en' (s.k + d)) ∨ (Dull (tokP L en s.k)∧Dull (tokP L' en' (s.k + d))) at hl
    have h1:good (tokP L' en' (s.k + d))=none:=by
     rcases hl with ha | ⟨_,hd2⟩
     ·rw [← hgood _ _ ha,hg]
     ·exact hd _ hd2
    have h2:bad (tokP L' en' (s.k + d))=none:=by
     rcases hl with ha | ⟨hd1,hd2⟩
     ·rw [← hbad _ _ ha,hb]
     ·exact hd' _ _ hd1 hd2 hb
    rw [h1,h2]
    exact ⟨rfl,hk.symm,he'⟩
end
end Go.Proofs.YtmdogmpcmkfjpaaGreatDoor.Dt
