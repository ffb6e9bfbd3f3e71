import Derived.Test.YtmdogmpcmkfjpaaGreatDoorBq02
import Derived.Test.YtmdogmpcmkfjpaaGreatDoorBq01
set_option maxRecDepth 100000
set_option maxHeartbeats 64000000
/- Part. -/
namespace Go.Proofs.YtmdogmpcmkfjpaaGreatDoor.Dt
open Go.Lib
inductive PE where
 | mk (op:Nat) (v:V) (t m:ByteArray) (n:Int) (kids:List PE)
def V00:V:=⟨0,0,⟨#[]⟩⟩
def PE.zero:PE:=.mk 0 V00 ⟨#[]⟩ ⟨#[]⟩ 0 []
def PE.val1 (v:V):PE:=.mk 1 v ⟨#[]⟩ ⟨#[]⟩ 0 []
def PE.node (op:Nat) (kids:List PE):PE:=.mk op V00 ⟨#[]⟩ ⟨#[]⟩ 0 kids
def PE.op:PE→Nat | .mk o _ _ _ _ _=>o
def PE.v:PE→V | .mk _ v _ _ _ _=>v
def PE.t:PE→ByteArray | .mk _ _ t _ _ _=>t
def PE.m:PE→ByteArray | .mk _ _ _ m _ _=>m
def PE.n:PE→Int | .mk _ _ _ _ n _=>n
def PE.kids:PE→List PE | .mk _ _ _ _ _ l=>l
structure Zeu where
 name:ByteArray
 ty:Nat
 nn:Bool
structure Zec where
 table:ByteArray
 as:ByteArray
 on:List PE
structure PSt where
 kind:Nat:=0
 table:ByteArray:=⟨#[]⟩
 name:ByteArray:=⟨#[]⟩
 uniq:Bool:=false
 cols:List Zeu:=[]
 key:List ByteArray:=[]
 names:List ByteArray:=[]
 rows:List (List PE):=[]
 sets:List (ByteArray × PE):=[]
 items:List (PE × ByteArray):=[]
 src:List Zec:=[]
 wh:List PE:=[]
 group:List PE:=[]
 having:List PE:=[]
 order:List (PE × Bool):=[]
 limit:Int:=0
abbrev WOR:ByteArray:=⟨#[79,82]⟩
abbrev Zf6:ByteArray:=⟨#[65,78,68]⟩
abbrev Zfx:ByteArray:=⟨#[78,79,84]⟩
abbrev WIS:ByteArray:=⟨#[73,83]⟩
abbrev Zbr:ByteArray:=⟨#[78,85,76,76]⟩
abbrev Za7:ByteArray:=⟨#[67,79,85,78,84]⟩
abbrev Zm5:ByteArray:=⟨#[83,85,77]⟩
abbrev Zm6:ByteArray:=⟨#[77,73,78]⟩
abbrev Zm7:ByteArray:=⟨#[77,65,88]⟩
abbrev Zbl:ByteArray:=⟨#[80,82,73,77,65,82,89]⟩
abbrev Zm1:ByteArray:=⟨#[75,69,89]⟩
abbrev Zeo:ByteArray:=⟨#[73,78,84,69,71,69,82]⟩
abbrev Zm0:ByteArray:=⟨#[84,69,88,84]⟩
abbrev Zm2:ByteArray:=⟨#[66,76,79,66]⟩
abbrev Zcj:ByteArray:=⟨#[84,65,66,76,69]⟩
abbrev Zde:ByteArray:=⟨#[85,78,73,81,85,69]⟩
abbrev Zbo:ByteArray:=⟨#[73,78,68,69,88]⟩
abbrev WON:ByteArray:=⟨#[79,78]⟩
abbrev WAS:ByteArray:=⟨#[65,83]⟩
abbrev Zck:ByteArray:=⟨#[70,82,79,77]⟩
abbrev Zfy:ByteArray:=⟨#[74,79,73,78]⟩
abbrev Z6:ByteArray:=⟨#[87,72,69,82,69]⟩
abbrev Zbp:ByteArray:=⟨#[71,82,79,85,80]⟩
abbrev WBY:ByteArray:=⟨#[66,89]⟩
abbrev Zbi:ByteArray:=⟨#[72,65,86,73,78,71]⟩
abbrev Zbz:ByteArray:=⟨#[79,82,68,69,82]⟩
abbrev Zie:ByteArray:=⟨#[68,69,83,67]⟩
abbrev Zdv:ByteArray:=⟨#[76,73,77,73,84]⟩
abbrev Zau:ByteArray:=⟨#[67,82,69,65,84,69]⟩
abbrev Zf5:ByteArray:=⟨#[68,82,79,80]⟩
abbrev Zcq:ByteArray:=⟨#[73,78,83,69,82,84]⟩
abbrev Zf4:ByteArray:=⟨#[73,78,84,79]⟩
abbrev Zcy:ByteArray:=⟨#[86,65,76,85,69,83]⟩
abbrev Zdd:ByteArray:=⟨#[85,80,68,65,84,69]⟩
abbrev Zpa:ByteArray:=⟨#[83,69,84]⟩
abbrev Zdw:ByteArray:=⟨#[68,69,76,69,84,69]⟩
abbrev Zb9:ByteArray:=⟨#[83,69,76,69,67,84]⟩
abbrev Zgj:ByteArray:=⟨#[66,69,71,73,78]⟩
abbrev Zd6:ByteArray:=⟨#[67,79,77,77,73,84]⟩
abbrev Zay:ByteArray:=⟨#[82,79,76,76,66,65,67,75]⟩
abbrev WTO:ByteArray:=⟨#[84,79]⟩
abbrev Za9:ByteArray:=⟨#[83,65,86,69,80,79,73,78,84]⟩
abbrev Zcv:ByteArray:=⟨#[82,69,76,69,65,83,69]⟩
abbrev Zcf:ByteArray:=⟨#[124,124]⟩
abbrev Zdf:ByteArray:=⟨#[43]⟩
abbrev Zad:ByteArray:=⟨#[45]⟩
abbrev Zao:ByteArray:=⟨#[42]⟩
abbrev Zih:ByteArray:=⟨#[47]⟩
abbrev Zig:ByteArray:=⟨#[37]⟩
abbrev BEQ:ByteArray:=⟨#[61]⟩
abbrev BNE:ByteArray:=⟨#[60,62]⟩
abbrev BLT:ByteArray:=⟨#[60]⟩
abbrev BLE:ByteArray:=⟨#[60,61]⟩
abbrev BGT:ByteArray:=⟨#[62]⟩
abbrev BGE:ByteArray:=⟨#[62,61]⟩
abbrev Zpb:ByteArray:=⟨#[46]⟩
abbrev Z9:ByteArray:=⟨#[40]⟩
abbrev Zp:ByteArray:=⟨#[41]⟩
abbrev Zy:ByteArray:=⟨#[44]⟩
abbrev Za4:ByteArray:=⟨#[59]⟩
structure PS where
 k:Nat
 e:Nat
 a:Int
abbrev Rd (α:Type):=PS→α × PS
def ret {α:Type} (x:α):Rd α:=fun s=>(x,s)
def bnd {α β:Type} (p:Rd α) (q:α→Rd β):Rd β:=fun s=>q (p s).1 (p s).2
def outM {α:Type} (x:α):Rd α:=fun s=>(x,{ s with e:=99 })
abbrev PS.next (s:PS):PS:={ s with k:=s.k + 1 }
section
variable (L:List Tk) (en:Int)
def Zag (k:Nat):Tk:=(L[k]?).getD ⟨0,⟨#[]⟩,0,en⟩
def Zem (e:Nat) (s:PS):PS:=if s.e=0 then { s with e:=e,a:=(Zag L en s.k).a } else s
def failM (e:Nat):Rd Unit:=fun s=>((),Zem L en e s)
def okM:Rd Bool:=fun s=>(decide (s.e=0),s)
def isB (t:ByteArray) (s:PS):Bool:=decide (s.e=0∧((Zag L en s.k).k=1 ∨ (Zag L en s.k).k=6)∧(Zag L en s.k).s=t)
def isM (t:ByteArray):Rd Bool:=fun s=>(isB L en t s,if isB L en t s then s.next else s)
def mustM:List ByteArray→Rd Unit
 | []=>ret ()
 | t :: l=>bnd (isM L en t) fun b=>if b then mustM l else failM L en 6
def nameM:Rd ByteArray:=fun s=>
 if s.e=0∧(Zag L en s.k).k=2 then ((Zag L en s.k).s,s.next) else (⟨#[]⟩,Zem L en 6 s)
def listM {α:Type} (one:Rd α):Nat→Rd (List α)
 | 0=>outM []
 | f + 1=>bnd one fun x=>bnd okM fun ok=>if ok then
     (bnd (isM L en Zy) fun b=>if b then bnd (listM one f) fun r=>bnd okM fun ok=>ret (if ok then x :: r else []) else ret [x])
  else ret []
def insideM {α:Type} (one:Rd α) (f:Nat):Rd (List α):=
 bnd (mustM L en [Z9]) fun _=>bnd (listM L en one f) fun l=>bnd (mustM L en [Zp]) fun _=>ret l
def oneOf:List (ByteArray × Nat)→Rd (Option Nat)
 | []=>ret none
 | x :: l=>bnd (isM L en x.1) fun b=>if b then ret (some x.2) else oneOf l
def chainM (ops:List (ByteArray × Nat)) (one:Rd PE):Nat→PE→Rd PE
 | 0,x=>outM x
 | f + 1,x=>bnd (oneOf L en ops) fun o=>match o with
  | none=>ret x
  | some o=>bnd one fun y=>chainM ops one f (.node o [x,y])
def chainL (ops:List (ByteArray × Nat)) (one:Rd PE) (f:Nat):Rd PE:=bnd one (chainM L en ops one f)
inductive Md where
 | expr | not | sum (k:Nat) | unary | prim
def opsOf:Nat→List (ByteArray × Nat)
 | 0=>[(Zcf,11)]
 | 1=>[(Zdf,6),(Zad,7)]
 | _=>[(Zao,8),(Zih,9),(Zig,10)]
def Zkt:List (ByteArray × Nat):=[(BEQ,12),(BNE,13),(BLT,14),(BLE,15),(BGT,16),(BGE,17)]
def groups:List (ByteArray × Nat):=[(Zm5,21),(Zm6,22),(Zm7,23)]
def litM:Rd (Option PE):=fun s=>
 let t:=Zag L en s.k
 if s.e ≠ 0 then (some PE.zero,s)
 else if t.k=3 then (if t.n < 9223372036854775808 then (some (PE.val1 ⟨1,(t.n:Int),⟨#[]⟩⟩),s.next) else (some PE.zero,Zem L en 5 s))
 else if t.k=4 then (some (PE.val1 ⟨2,0,t.s⟩),s.next)
 else if t.k=5 then (some (PE.val1 ⟨3,0,t.s⟩),s.next)
 else (none,s)
def nameQ:Rd (Option ByteArray):=fun s=>if s.e=0∧(Zag L en s.k).k=2 then (some (Zag L en s.k).s,s.next) else (none,s)
def negM:Rd (Option Nat):=fun s=>if (Zag L en s.k).k=3 then (some (Zag L en s.k).n,s.next) else (none,s)
def exF:Nat→Md→Rd PE
 | 0,_=>outM PE.zero
 | f + 1,.expr=>chainL L en [(WOR,19)] (chainL L en [(Zf6,18)] (exF f .not) f) f
 | f + 1,.not=>bnd (isM L en Zfx) fun b=>if b then bnd (exF f .not) fun x=>ret (PE.node 4 [x])
  else bnd (exF f (.sum 0)) fun x=>bnd (isM L en WIS) fun b=>if b then
   (bnd (isM L en Zfx) fun b=>bnd (mustM L en [Zbr]) fun _=>ret (if b then PE.node 4 [PE.node 5 [x]] else PE.node 5 [x]))
   else bnd (oneOf L en Zkt) fun o=>match o with
    | some o=>bnd (exF f (.sum 0)) fun y=>ret (PE.node o [x,y])
    | none=>ret x
 | f + 1,.sum k=>if k=3 then exF f .unary else chainL L en (opsOf k) (exF f (.sum (k + 1))) f
 | f + 1,.unary=>bnd (isM L en Zad) fun b=>if b then
     (bnd (negM L en) fun n=>match n with
      | some n=>ret (PE.val1 ⟨1,-(n:Int),⟨#[]⟩⟩)
      | none=>bnd (exF f .unary) fun x=>ret (PE.node 3 [x]))
  else exF f .prim
 | f + 1,.prim=>bnd (litM L en) fun r=>match r with
  | some x=>ret x
  | none=>bnd (nameQ L en) fun r=>match r with
   | some t=>bnd (isM L en Zpb) fun b=>if b then bnd (nameM L en) fun m=>ret (.mk 2 V00 t m 0 []) else ret (.mk 2 V00 ⟨#[]⟩ t 0 [])
   | none=>bnd (isM L en Zbr) fun b=>if b then ret (PE.val1 V00)
    else bnd (isM L en Z9) fun b=>if b then bnd (exF f .expr) fun x=>bnd (mustM L en [Zp]) fun _=>ret x
    else bnd (isM L en Za7) fun b=>if b then
     (bnd (mustM L en [Z9]) fun _=>bnd (isM L en Zao) fun b=>if b then bnd (mustM L en [Zp]) fun _=>ret (PE.node 20 [])
      else bnd (exF f .expr) fun x=>bnd (mustM L en [Zp]) fun _=>ret (PE.node 20 [x]))
    else bnd (oneOf L en groups) fun o=>match o with
     | some o=>bnd (mustM L en [Z9]) fun _=>bnd (exF f .expr) fun x=>bnd (mustM L en [Zp]) fun _=>ret (PE.node o [x])
     | none=>bnd (failM L en 6) fun _=>ret PE.zero
def FU:Nat:=100000
def exprM:Rd PE:=exF L en FU .expr
def maybeM (w:ByteArray):Rd (List PE):=bnd (isM L en w) fun b=>if b then bnd (exprM L en) fun x=>ret [x] else ret []
def types:List (ByteArray × Nat):=[(Zeo,1),(Zm0,2),(Zm2,3)]
def colM:Rd Zeu:=bnd (nameM L en) fun n=>bnd (oneOf L en types) fun o=>bnd (match o with | some o=>ret o | none=>bnd (failM L en 6) fun _=>ret 0) fun ty=>
 bnd (isM L en Zfx) fun b=>if b then bnd (mustM L en [Zbr]) fun _=>ret ⟨n,ty,true⟩ else ret ⟨n,ty,false⟩
def colsM:Nat→List Zeu→Rd (List Zeu)
 | 0,cs=>outM cs
 | f + 1,cs=>bnd okM fun ok=>if ok then
     (bnd (if cs.isEmpty then ret false else isM L en Zbl) fun b=>if b then ret cs else bnd (colM L en) fun c=>bnd (mustM L en [Zy]) fun _=>colsM f (cs ++ [c]))
  else ret cs
def namesM:Rd (List ByteArray):=insideM L en (nameM L en) FU
def createM:Rd PSt:=bnd (isM L en Zcj) fun b=>if b then
    (bnd (nameM L en) fun n=>bnd (mustM L en [Z9]) fun _=>bnd (colsM L en FU []) fun c=>bnd (mustM L en [Zm1]) fun _=>bnd (namesM L en) fun k=>
     bnd (mustM L en [Zp]) fun _=>ret { kind:=1,table:=n,cols:=c,key:=k })
 else bnd (isM L en Zde) fun u=>bnd (mustM L en [Zbo]) fun _=>bnd (nameM L en) fun n=>bnd (mustM L en [WON]) fun _=>bnd (nameM L en) fun t=>bnd (namesM L en) fun k=>
  ret { kind:=3,uniq:=u,name:=n,table:=t,key:=k }
def sourceM:Rd Zec:=bnd (nameM L en) fun n=>bnd (isM L en WAS) fun b=>if b then bnd (nameM L en) fun m=>ret ⟨n,m,[]⟩ else ret ⟨n,⟨#[]⟩,[]⟩
def itemM:Rd (PE × ByteArray):=bnd (exprM L en) fun x=>bnd (isM L en WAS) fun b=>if b then bnd (nameM L en) fun m=>ret (x,m) else ret (x,⟨#[]⟩)
def orderM:Rd (PE × Bool):=bnd (exprM L en) fun x=>bnd (isM L en Zie) fun b=>ret (x,b)
def setM:Rd (ByteArray × PE):=bnd (nameM L en) fun n=>bnd (mustM L en [BEQ]) fun _=>bnd (exprM L en) fun x=>ret (n,x)
def joinsM:Nat→List Zec→Rd (List Zec)
 | 0,l=>outM l
 | f + 1,l=>bnd (isM L en Zfy) fun b=>if b then
     (bnd (sourceM L en) fun x=>bnd (mustM L en [WON]) fun _=>bnd (exprM L en) fun y=>joinsM f (l ++ [{ x with on:=[y] }]))
  else ret l
def byM {α:Type} (w:ByteArray) (one:Rd α):Rd (List α):=bnd (isM L en w) fun b=>if b then bnd (mustM L en [WBY]) fun _=>listM L en one FU else ret []
def numM:Rd Int:=fun s=>
 if (Zag L en s.k).k ≠ 3 then (-1,Zem L en 6 s)
 else if 1073741824 < (Zag L en s.k).n then (-1,Zem L en 5 s)
 else (((Zag L en s.k).n:Int),s.next)
def limitM:Rd Int:=bnd (isM L en Zdv) fun b=>if b then numM L en else ret (-1)
def chooseM:Rd PSt:=bnd (isM L en Zao) fun b=>bnd (if b then ret [] else listM L en (itemM L en) FU) fun i=>bnd (mustM L en [Zck]) fun _=>bnd (sourceM L en) fun x=>
 bnd (joinsM L en FU [x]) fun j=>bnd (maybeM L en Z6) fun w=>bnd (byM L en Zbp (exprM L en)) fun g=>bnd (maybeM L en Zbi) fun h=>
 bnd (byM L en Zbz (orderM L en)) fun o=>bnd (limitM L en) fun m=>ret { kind:=8,items:=i,src:=j,wh:=w,group:=g,having:=h,order:=o,limit:=m }
def dropM:Rd PSt:=bnd (isM L en Zcj) fun b=>if b then bnd (nameM L en) fun n=>ret { kind:=2,table:=n }
 else bnd (mustM L en [Zbo]) fun _=>bnd (nameM L en) fun n=>ret { kind:=4,name:=n }
def insertM:Rd PSt:=bnd (mustM L en [Zf4]) fun _=>bnd (nameM L en) fun t=>bnd (namesM L en) fun n=>bnd (mustM L en [Zcy]) fun _=>
 bnd (listM L en (insideM L en (exprM L en) FU) FU) fun r=>ret { kind:=5,table:=t,names:=n,rows:=r }
def updateM:Rd PSt:=bnd (nameM L en) fun t=>bnd (mustM L en [Zpa]) fun _=>bnd (listM L en (setM L en) FU) fun c=>bnd (maybeM L en Z6) fun w=>
 ret { kind:=6,table:=t,sets:=c,wh:=w }
def deleteM:Rd PSt:=bnd (mustM L en [Zck]) fun _=>bnd (nameM L en) fun t=>bnd (maybeM L en Z6) fun w=>ret { kind:=7,table:=t,wh:=w }
def rollM:Rd PSt:=bnd (isM L en WTO) fun b=>if b then bnd (nameM L en) fun n=>ret { kind:=13,name:=n } else ret { kind:=11 }
def saveM (k:Nat):Rd PSt:=bnd (nameM L en) fun n=>ret { kind:=k,name:=n }
def restM:Rd PSt:=
 bnd (isM L en Zgj) fun b=>if b then ret { kind:=9 }
 else bnd (isM L en Zd6) fun b=>if b then ret { kind:=10 }
 else bnd (isM L en Zay) fun b=>if b then rollM L en
 else bnd (isM L en Za9) fun b=>if b then saveM L en 12
 else bnd (isM L en Zcv) fun b=>if b then saveM L en 14
 else bnd (failM L en 6) fun _=>ret {}
def stmtM:Rd PSt:=
 bnd (isM L en Zau) fun b=>if b then createM L en
 else bnd (isM L en Zf5) fun b=>if b then dropM L en
 else bnd (isM L en Zcq) fun b=>if b then insertM L en
 else bnd (isM L en Zdd) fun b=>if b then updateM L en
 else bnd (isM L en Zdw) fun b=>if b then deleteM L en
 else bnd (isM L en Zb9) fun b=>if b then chooseM L en
 else restM L en
def stmtsM:Nat→Rd (List PSt)
 | 0=>outM []
 | f + 1=>fun s=>if s.e=0∧s.k < L.length then
     (bnd (stmtM L en) fun x=>bnd (fun s=>if s.k < L.length then mustM L en [Za4] s else ((),s)) fun _=>bnd (stmtsM f) fun r=>ret (x :: r)) s
  else ([],s)
end
def Z4 (t:List UInt8):(Nat × Int) ⊕ List PSt:=
 match Zea t with
 | .inl (e,a)=>.inl (e,(a:Int))
 | .inr L=>
  let r:=stmtsM L (t.length:Int) FU ⟨0,0,0⟩
  if r.2.e=0 then .inr r.1 else .inl (r.2.e,r.2.a)
def Zwx (u:Tk):Prop:=u.k=0 ∨ (u.k=6∧(u.s=Za4 ∨ u.s=Zp))
theorem Zwx.kind {u:Tk} (h:Zwx u):u.k=0 ∨ u.k=6:=h.elim .inl (fun h=>.inr h.1)
theorem Zwx.text {u:Tk} (h:Zwx u) {t:ByteArray} (h1:t ≠ Za4) (h2:t ≠ Zp):¬ ((u.k=1 ∨ u.k=6)∧u.s=t):=by
 rintro ⟨hk,rfl⟩
 rcases h with h | ⟨_,h | h⟩
 ·omega
 ·exact h1 h
 exact h2 h
section
variable {L L':List Tk} {en en':Int} {d:Nat}
structure Sim (L:List Tk) (en:Int) (L':List Tk) (en':Int) (d:Nat) {α:Type} (p p':Rd α):Prop where
 mono:∀ s,s.k ≤ (p s).2.k∧(s.e ≠ 0→(p s).2.e ≠ 0)
 le:∀ s,s.k ≤ L.length→(p s).2.k ≤ L.length
 go:∀ s s':PS,s.k + d=s'.k→s.e=0→s'.e=0→(p s).2.e=0→(∀ j,s.k ≤ j→j < (p s).2.k→Zhu (Zag L en j) (Zag L' en' (j + d))) →
  (Zhu (Zag L en (p s).2.k) (Zag L' en' ((p s).2.k + d)) ∨ (Zwx (Zag L en (p s).2.k)∧Zwx (Zag L' en' ((p s).2.k + d)))) →
  (p' s').1=(p s).1∧(p' s').2.k=(p s).2.k + d∧(p' s').2.e=0
theorem Sim.ret {α:Type} (x:α):Sim L en L' en' d (ret x) (ret x):=
 ⟨fun _=>⟨Nat.le_refl _,id⟩,fun _ h=>h,fun _ _ hk _ he' _ _ _=>⟨rfl,hk.symm,he'⟩⟩
theorem Sim.bnd {α β:Type} {p p':Rd α} {q q':α→Rd β} (hp:Sim L en L' en' d p p') (hq:∀ x,Sim L en L' en' d (q x) (q' x)):Sim L en L' en' d (bnd p q) (bnd p' q'):=by
 refine ⟨fun s=>⟨Nat.le_trans (hp.mono s).1 ((hq _).mono _).1,fun h=>((hq _).mono _).2 ((hp.mono s).2 h)⟩,fun s h=>(hq _).le _ (hp.le s h),fun s s' hk he he' hf hr hl=>?_⟩
 have h1:(p s).2.e=0:=Classical.byContradiction fun h=>((hq (p s).1).mono (p s).2).2 h hf
 have hm:=((hq (p s).1).mono (p s).2).1
 obtain ⟨e1,e2,e3⟩:=hp.go s s' hk he he' h1 (fun j h2 h3=>hr j h2 (Nat.lt_of_lt_of_le h3 hm)) (by
  rcases Nat.lt_or_ge (p s).2.k (q (p s).1 (p s).2).2.k with h | h
  ·exact .inl (hr _ (hp.mono s).1 h)
  ·have he:(p s).2.k=(q (p s).1 (p s).2).2.k:=Nat.le_antisymm hm h
   rw [he];exact hl)
 obtain ⟨g1,g2,g3⟩:=(hq (p s).1).go (p s).2 (p' s').2 e2.symm h1 e3 hf (fun j h2 h3=>hr j (Nat.le_trans (hp.mono s).1 h2) h3) hl
 show (q' (p' s').1 (p' s').2).1=(q (p s).1 (p s).2).1∧(q' (p' s').1 (p' s').2).2.k=(q (p s).1 (p s).2).2.k + d∧(q' (p' s').1 (p' s').2).2.e=0
 rw [e1]
 exact ⟨g1,g2,g3⟩
theorem Sim.ite {α:Type} {p p' q q':Rd α} (b:Bool) (hp:Sim L en L' en' d p p') (hq:Sim L en L' en' d q q'):Sim L en L' en' d (if b then p else q) (if b then p' else q'):=by
 cases b
 ·exact hq
 exact hp
theorem Sim.okM:Sim L en L' en' d okM okM:=
 ⟨fun s=>⟨Nat.le_refl _,id⟩,fun _ h=>h,fun s s' hk he he' _ _ _=>⟨by simp [Dt.okM,he,he'],hk.symm,he'⟩⟩
theorem Ze1 {t:ByteArray} {s:PS} : isB L en t s=true ↔ s.e=0∧((Zag L en s.k).k=1 ∨ (Zag L en s.k).k=6)∧(Zag L en s.k).s=t:=by
 unfold isB;rw [decide_eq_true_eq]
theorem Zvi (t:ByteArray) (s:PS):s.k ≤ (isM L en t s).2.k∧(s.e ≠ 0→(isM L en t s).2.e ≠ 0):=by
 unfold isM
 split
 ·exact ⟨Nat.le_succ _,id⟩
 exact ⟨Nat.le_refl _,id⟩
theorem Zi2 {k:Nat} (h:¬ k < L.length):(Zag L en k).k=0:=by unfold Zag;rw [List.getElem?_eq_none kW];rfl
theorem Zf8 {k:Nat} (h:(Zag L en k).k ≠ 0):k < L.length:=Classical.byContradiction fun hn=>h (Zi2 hn)
theorem isM_le (t:ByteArray) (s:PS) (h:s.k ≤ L.length):(isM L en t s).2.k ≤ L.length:=by
 unfold isM
 split
 ·rename_i hb
  have h1:=(Ze1.1 hb).2.1
  show s.k + 1 ≤ L.length
  rcases Nat.lt_or_ge s.k L.length with h2 | h2
  ·omega
  have:=Zi2 (L:=L) (en:=en) (k:=s.k) kW;omega
 exact h
theorem Sim.isM (t:ByteArray) (h1:t ≠ Za4) (h2:t ≠ Zp):Sim L en L' en' d (isM L en t) (isM L' en' t):=by
 refine ⟨Zvi t,isM_le t,fun s s' hk he he' hf hr hl=>?_⟩
 by_cases hb:isB L en t s=true
 ·have e:Dt.isM L en t s=(true,s.next):=by unfold Dt.isM;rw [hb,if_pos rfl]
  rw [e] at hr
  have ha:=hr s.k (Nat.le_refl _) (Nat.lt_succ_self _)
  have hb':isB L' en' t s'=true:=by
   rw [Ze1] at hb ⊢
   rw [← hk]
   exact ⟨he',by rw [← ha.1];exact hb.2.1,by rw [← ha.2.1];exact hb.2.2⟩
  have e':Dt.isM L' en' t s'=(true,s'.next):=by unfold Dt.isM;rw [hb',if_pos rfl]
  rw [e,e']
  exact ⟨rfl,by show s'.k + 1=s.k + 1 + d;omega,he'⟩
 have hb0:isB L en t s=false:=by simpa using hb
 have e:Dt.isM L en t s=(false,s):=by unfold Dt.isM;rw [hb0,if_neg kY]
 rw [e] at hl
 have hb':isB L' en' t s'=false:=by
  rw [Bool.eq_false_iff]
  intro hc
  rw [Ze1] at hc
  rw [← hk] at hc
  rcases hl with ha | ⟨_,hd⟩
  ·exact hb (Ze1.2 ⟨he,by rw [ha.1];exact hc.2.1,by rw [ha.2.1];exact hc.2.2⟩)
  ·exact hd.text h1 h2 hc.2
 have e':Dt.isM L' en' t s'=(false,s'):=by unfold Dt.isM;rw [hb',if_neg kY]
 rw [e,e']
 exact ⟨rfl,hk.symm,he'⟩
theorem Zac (e:Nat) (s:PS) (he:e ≠ 0):(Zem L en e s).k=s.k∧(Zem L en e s).e ≠ 0:=by
 unfold Zem
 split
 ·exact ⟨rfl,he⟩
 exact ⟨rfl,by assumption⟩
theorem Sim.failM (e:Nat) (he:e ≠ 0):Sim L en L' en' d (failM L en e) (failM L' en' e):=
 ⟨fun s=>⟨Nat.le_of_eq (Zac e s he).1.symm,fun _=>(Zac e s he).2⟩,fun s h=>Nat.le_trans (Nat.le_of_eq (Zac e s he).1) h,fun s _ _ _ _ hf _ _=>absurd hf (Zac e s he).2⟩
theorem Sim.outM {α:Type} (x:α):Sim L en L' en' d (outM x) (outM x):=
 ⟨fun _=>⟨Nat.le_refl _,fun _=>by show (99:Nat) ≠ 0;decide⟩,fun _ h=>h,fun _ _ _ _ _ hf _ _=>absurd hf (by show ¬ (99:Nat)=0;decide)⟩
theorem Zc3:∀ (ws:List ByteArray) (s:PS),s.k ≤ (mustM L en ws s).2.k∧(s.e ≠ 0→(mustM L en ws s).2.e ≠ 0)
 | [],s=>⟨Nat.le_refl _,id⟩
 | t :: l,s=>by
  have h1:=Zvi (L:=L) (en:=en) t s
  show s.k ≤ ((if (isM L en t s).1 then mustM L en l else failM L en 6) (isM L en t s).2).2.k∧_
  show _∧(s.e ≠ 0→((if (isM L en t s).1 then mustM L en l else failM L en 6) (isM L en t s).2).2.e ≠ 0)
  split
  ·have h2:=Zc3 l (isM L en t s).2
   exact ⟨Nat.le_trans h1.1 h2.1,fun h=>h2.2 (h1.2 h)⟩
  ·have h2:=Zac (L:=L) (en:=en) 6 (isM L en t s).2 kD
   exact ⟨Nat.le_trans h1.1 (Nat.le_of_eq h2.1.symm),fun _=>h2.2⟩
theorem Zmn:∀ (ws:List ByteArray) (s:PS),s.k ≤ L.length→(mustM L en ws s).2.k ≤ L.length
 | [],_,h=>h
 | t :: l,s,h=>by
  have h1:=isM_le (en:=en) t s h
  show ((if (isM L en t s).1 then mustM L en l else failM L en 6) (isM L en t s).2).2.k ≤ _
  split
  ·exact Zmn l _ h1
  ·exact Nat.le_trans (Nat.le_of_eq (Zac (L:=L) (en:=en) 6 (isM L en t s).2 kD).1) h1
theorem Sim.mustM:∀ (ws:List ByteArray),Sim L en L' en' d (mustM L en ws) (mustM L' en' ws)
 | []=>Sim.ret ()
 | t :: l=>by
  refine ⟨Zc3 (t :: l),Zmn (t :: l),fun s s' hk he he' hf hr hl=>?_⟩
  have ih:=Sim.mustM l
  by_cases hb:isB L en t s=true
  ·have e:Dt.isM L en t s=(true,s.next):=by unfold Dt.isM;rw [hb,if_pos rfl]
   have em:Dt.mustM L en (t :: l) s=Dt.mustM L en l s.next:=by
    show (if (Dt.isM L en t s).1 then Dt.mustM L en l else Dt.failM L en 6) (Dt.isM L en t s).2=_
    rw [e];rfl
   rw [em] at hf hr hl ⊢
   have hm:=(Zc3 (L:=L) (en:=en) l s.next).1
   have ha:=hr s.k (Nat.le_refl _) (Nat.lt_of_lt_of_le (Nat.lt_succ_self _) hm)
   have hb':isB L' en' t s'=true:=by
    rw [Ze1] at hb ⊢
    rw [← hk]
    exact ⟨he',by rw [← ha.1];exact hb.2.1,by rw [← ha.2.1];exact hb.2.2⟩
   have e':Dt.isM L' en' t s'=(true,s'.next):=by unfold Dt.isM;rw [hb',if_pos rfl]
   have em':Dt.mustM L' en' (t :: l) s'=Dt.mustM L' en' l s'.next:=by
    show (if (Dt.isM L' en' t s').1 then Dt.mustM L' en' l else Dt.failM L' en' 6) (Dt.isM L' en' t s').2=_
    rw [e'];rfl
   rw [em']
   exact ih.go s.next s'.next (by show s.k + 1 + d=s'.k + 1;omega) he he' hf (fun j h2 h3=>hr j (Nat.le_of_succ_le h2) h3) hl
  ·have hb0:isB L en t s=false:=by simpa using hb
   have e:Dt.isM L en t s=(false,s):=by unfold Dt.isM;rw [hb0,if_neg kY]
   have em:Dt.mustM L en (t :: l) s=Dt.failM L en 6 s:=by
    show (if (Dt.isM L en t s).1 then Dt.mustM L en l else Dt.failM L en 6) (Dt.isM L en t s).2=_
    rw [e];rfl
   rw [em] at hf
   exact absurd hf (Zac 6 s kD).2
def Zgy {α:Type} (L:List Tk) (en:Int) (good:Tk→Option α) (bad:Tk→Option (α × Nat)) (none_:α) (s:PS):α × PS:=
 match good (Zag L en s.k) with
 | some x=>(x,s.next)
 | none=>match bad (Zag L en s.k) with
  | some x=>(x.1,Zem L en x.2 s)
  | none=>(none_,s)
theorem Sim.take {α:Type} (good:Tk→Option α) (bad:Tk→Option (α × Nat)) (none_:α)
 (hgood:∀ u v,Zhu u v→good u=good v) (hbad:∀ u v,Zhu u v→bad u=bad v) (hd:∀ u,Zwx u→good u=none) (hd':∀ u v,Zwx u→Zwx v→bad u=none→bad v=none) (hz:∀ u x,bad u=some x→x.2 ≠ 0)
 (p p':Rd α) (hp:∀ s:PS,s.e=0→p s=Zgy L en good bad none_ s)
 (hp':∀ s:PS,s.e=0→p' s=Zgy L' en' good bad none_ s)
 (hpe:∀ s:PS,s.e ≠ 0→s.k ≤ (p s).2.k∧(p s).2.e ≠ 0∧(s.k ≤ L.length→(p s).2.k ≤ L.length)):Sim L en L' en' d p p':=by
 refine ⟨fun s=>?_,fun s h=>?_,fun s s' hk he he' hf hr hl=>?_⟩
 ·by_cases he:s.e=0
  ·rw [hp s he]
   unfold Zgy
   cases good (Zag L en s.k) with
   | some x=>exact ⟨Nat.le_succ _,fun h=>absurd he h⟩
   | none=>
    cases hb:bad (Zag L en s.k) with
    | some x=>exact ⟨Nat.le_of_eq (Zac _ s (hz _ _ hb)).1.symm,fun h=>absurd he h⟩
    | none=>exact ⟨Nat.le_refl _,fun h=>absurd he h⟩
  exact ⟨(hpe s he).1,fun _=>(hpe s he).2.1⟩
 ·by_cases he:s.e=0
  ·rw [hp s he]
   unfold Zgy
   cases hg:good (Zag L en s.k) with
   | some x=>
    show s.k + 1 ≤ L.length
    rcases Nat.lt_or_ge s.k L.length with h2 | h2
    ·omega
    ·rw [hd _ (.inl (Zi2 kW))] at hg;cases hg
   | none=>
    cases hb:bad (Zag L en s.k) with
    | some x=>exact Nat.le_trans (Nat.le_of_eq (Zac _ s (hz _ _ hb)).1) h
    | none=>exact h
  exact (hpe s he).2.2 h
 rw [hp s he] at hf hr hl ⊢
 rw [hp' s' he']
 unfold Zgy at hf hr hl ⊢
 rw [← hk]
 cases hg:good (Zag L en s.k) with
 | some x=>
  rw [hg] at hr
  have ha:=hr s.k (Nat.le_refl _) (Nat.lt_succ_self _)
  rw [← hgood _ _ ha,hg]
  exact ⟨rfl,by show s'.k + 1=s.k + 1 + d;omega,he'⟩
 | none=>
  rw [hg] at hf hl
  cases hb:bad (Zag L en s.k) with
  | some x=>rw [hb] at hf;exact absurd hf (Zac _ s (hz _ _ hb)).2
  | none=>
   rw [hb] at hl
   change Zhu (Zag L en s.k) (Zag L' en' (s.k + d)) ∨ (Zwx (Zag L en s.k)∧Zwx (Zag L' en' (s.k + d))) at hl
   have h1:good (Zag L' en' (s.k + d))=none:=by
    rcases hl with ha | ⟨_,hd2⟩
    ·rw [← hgood _ _ ha,hg]
    ·exact hd _ hd2
   have h2:bad (Zag L' en' (s.k + d))=none:=by
    rcases hl with ha | ⟨hd1,hd2⟩
    ·rw [← hbad _ _ ha,hb]
    ·exact hd' _ _ hd1 hd2 hb
   rw [h1,h2]
   exact ⟨rfl,hk.symm,he'⟩
end
set_option linter.unusedVariables false
section
variable {L L':List Tk} {en en':Int} {d:Nat}
def Zu1 (u:Tk):Option ByteArray:=if u.k=2 then some u.s else none
def Zsi (u:Tk):Option (ByteArray × Nat):=if u.k=2 then none else some (⟨#[]⟩,6)
theorem Sim.nameM:Sim L en L' en' d (nameM L en) (nameM L' en'):=by
 have key:∀ (K:List Tk) (e:Int) (s:PS),s.e=0→Dt.nameM K e s=Zgy K e Zu1 Zsi ⟨#[]⟩ s:=fun K e s he=>by
  unfold Dt.nameM Zgy Zu1 Zsi
  by_cases h:(Zag K e s.k).k=2
  ·rw [if_pos ⟨he,h⟩,if_pos h]
  ·rw [if_neg (fun x=>h x.2),if_neg h,if_neg h]
 refine Sim.take Zu1 Zsi ⟨#[]⟩ (fun u v h=>by unfold Zu1;simp only [h.1,h.2.1]) (fun u v h=>by unfold Zsi;simp only [h.1]) (fun u h=>?_) (fun u v h _ hn=>?_) (fun u x h=>?_) _ _ (key L en) (key L' en') (fun s he=>?_)
 ·unfold Zu1
  rcases h.kind with h | h <;> simp [h]
 ·unfold Zsi at hn
  rcases h.kind with h | h <;> simp [h] at hn
 ·unfold Zsi at h
  split at h
  ·cases h
  cases h;decide
 unfold Dt.nameM
 rw [if_neg (fun x=>he x.1)]
 exact ⟨Nat.le_of_eq (Zac 6 s kD).1.symm,(Zac 6 s kD).2,fun h=>Nat.le_trans (Nat.le_of_eq (Zac 6 s kD).1) h⟩
def Zu0 (u:Tk):Option (Option ByteArray):=if u.k=2 then some (some u.s) else none
theorem Sim.nameQ:Sim L en L' en' d (nameQ L en) (nameQ L' en'):=by
 have key:∀ (K:List Tk) (e:Int) (s:PS),s.e=0→Dt.nameQ K e s=Zgy K e Zu0 (fun _=>none) none s:=fun K e s he=>by
  unfold Dt.nameQ Zgy Zu0
  by_cases h:(Zag K e s.k).k=2
  ·rw [if_pos ⟨he,h⟩,if_pos h]
  ·rw [if_neg (fun x=>h x.2),if_neg h]
 refine Sim.take Zu0 (fun _=>none) none (fun u v h=>by unfold Zu0;simp only [h.1,h.2.1]) (fun _ _ _=>rfl) (fun u h=>?_) (fun _ _ _ _ _=>rfl) (fun u x h=>by cases h) _ _ (key L en) (key L' en') (fun s he=>?_)
 ·unfold Zu0
  rcases h.kind with h | h <;> simp [h]
 unfold Dt.nameQ
 rw [if_neg (fun x=>he x.1)]
 exact ⟨Nat.le_refl _,he,id⟩
def negG (u:Tk):Option (Option Nat):=if u.k=3 then some (some u.n) else none
theorem Sim.negM:Sim L en L' en' d (negM L en) (negM L' en'):=by
 have key:∀ (K:List Tk) (e:Int) (s:PS),s.e=0→Dt.negM K e s=Zgy K e negG (fun _=>none) none s:=fun K e s _=>by
  unfold Dt.negM Zgy negG
  by_cases h:(Zag K e s.k).k=3
  ·rw [if_pos h,if_pos h]
  ·rw [if_neg h,if_neg h]
 refine Sim.take negG (fun _=>none) none (fun u v h=>by unfold negG;simp only [h.1,h.2.2]) (fun _ _ _=>rfl) (fun u h=>?_) (fun _ _ _ _ _=>rfl) (fun u x h=>by cases h) _ _ (key L en) (key L' en') (fun s he=>?_)
 ·unfold negG
  rcases h.kind with h | h <;> simp [h]
 unfold Dt.negM
 split
 ·rename_i h3;exact ⟨Nat.le_succ _,he,fun _=>Zf8 (L:=L) (en:=en) (k:=s.k) kW⟩
 exact ⟨Nat.le_refl _,he,id⟩
def numG (u:Tk):Option Int:=if u.k ≠ 3 then none else if 1073741824 < u.n then none else some (u.n:Int)
def numF (u:Tk):Option (Int × Nat):=if u.k ≠ 3 then some (-1,6) else if 1073741824 < u.n then some (-1,5) else none
theorem Sim.numM:Sim L en L' en' d (numM L en) (numM L' en'):=by
 have key:∀ (K:List Tk) (e:Int) (s:PS),s.e=0→Dt.numM K e s=Zgy K e numG numF (-1) s:=fun K e s _=>by
  unfold Dt.numM Zgy numG numF
  by_cases h:(Zag K e s.k).k ≠ 3
  ·rw [if_pos h,if_pos h,if_pos h]
  ·rw [if_neg h,if_neg h,if_neg h]
   by_cases h2:1073741824 < (Zag K e s.k).n
   ·rw [if_pos h2,if_pos h2,if_pos h2]
   ·rw [if_neg h2,if_neg h2]
 refine Sim.take numG numF (-1) (fun u v h=>by unfold numG;simp only [h.1,h.2.2]) (fun u v h=>by unfold numF;simp only [h.1,h.2.2]) (fun u h=>?_) (fun u v h _ hn=>?_) (fun u x h=>?_) _ _ (key L en) (key L' en') (fun s he=>?_)
 ·unfold numG
  rcases h.kind with h | h <;> simp [h]
 ·unfold numF at hn
  rcases h.kind with h | h <;> simp [h] at hn
 ·unfold numF at h
  split at h
  ·cases h;decide
  split at h
  ·cases h;decide
  cases h
 unfold Dt.numM
 split
 ·exact ⟨Nat.le_of_eq (Zac 6 s kD).1.symm,(Zac 6 s kD).2,fun h=>Nat.le_trans (Nat.le_of_eq (Zac 6 s kD).1) h⟩
 split
 ·exact ⟨Nat.le_of_eq (Zac 5 s kD).1.symm,(Zac 5 s kD).2,fun h=>Nat.le_trans (Nat.le_of_eq (Zac 5 s kD).1) h⟩
 rename_i h3 _;exact ⟨Nat.le_succ _,he,fun _=>Zf8 (L:=L) (en:=en) (k:=s.k) kW⟩
def litG (u:Tk):Option (Option PE):=
 if u.k=3 then (if u.n < 9223372036854775808 then some (some (PE.val1 ⟨1,(u.n:Int),⟨#[]⟩⟩)) else none)
 else if u.k=4 then some (some (PE.val1 ⟨2,0,u.s⟩)) else if u.k=5 then some (some (PE.val1 ⟨3,0,u.s⟩)) else none
def litF (u:Tk):Option (Option PE × Nat):=if u.k=3 then (if u.n < 9223372036854775808 then none else some (some PE.zero,5)) else none
theorem Sim.litM:Sim L en L' en' d (litM L en) (litM L' en'):=by
 have key:∀ (K:List Tk) (e:Int) (s:PS),s.e=0→Dt.litM K e s=Zgy K e litG litF none s:=fun K e s he=>by
  unfold Dt.litM Zgy litG litF
  simp only [he,ne_eq,not_true_eq_false,if_false]
  by_cases h3:(Zag K e s.k).k=3
  ·simp only [h3,if_true]
   by_cases h:(Zag K e s.k).n < 9223372036854775808
   ·simp only [h,if_true]
   ·simp only [h,if_false]
  ·simp only [h3,if_false]
   by_cases h4:(Zag K e s.k).k=4
   ·simp only [h4,if_true]
   ·simp only [h4,if_false]
    by_cases h5:(Zag K e s.k).k=5
    ·simp only [h5,if_true]
    ·simp only [h5,if_false]
 refine Sim.take litG litF none (fun u v h=>by unfold litG;simp only [h.1,h.2.1,h.2.2]) (fun u v h=>by unfold litF;simp only [h.1,h.2.2]) (fun u h=>?_) (fun u v h h' hn=>?_) (fun u x h=>?_) _ _ (key L en) (key L' en') (fun s he=>?_)
 ·unfold litG
  rcases h.kind with h | h <;> simp [h]
 ·unfold litF
  rcases h'.kind with h | h <;> simp [h]
 ·unfold litF at h
  split at h
  ·split at h
   ·cases h
   cases h;decide
  cases h
 unfold Dt.litM
 simp only [he,ne_eq,not_false_eq_true,if_true]
 exact ⟨Nat.le_refl _,trivial,id⟩
theorem Sim.oneOf:∀ (l:List (ByteArray × Nat)),(∀ x ∈ l,x.1 ≠ Za4∧x.1 ≠ Zp)→Sim L en L' en' d (oneOf L en l) (oneOf L' en' l)
 | [],_=>Sim.ret none
 | x :: l,h=>Sim.bnd (Sim.isM x.1 (h x kY).1 (h x kY).2) (fun b=>Sim.ite b (Sim.ret _) (Sim.oneOf l (fun y hy=>h y Zrd)))
theorem Sim.listM {α:Type} {one one':Rd α} (h:Sim L en L' en' d one one'):∀ f,Sim L en L' en' d (listM L en one f) (listM L' en' one' f)
 | 0=>Sim.outM []
 | f + 1=>Sim.bnd h (fun x=>Sim.bnd Sim.okM (fun ok=>Sim.ite ok (Sim.bnd (Sim.isM Zy kD kD) (fun b=>Sim.ite b (Sim.bnd (Sim.listM h f) (fun r=>Sim.bnd Sim.okM (fun ok=>Sim.ret _))) (Sim.ret _))) (Sim.ret _)))
theorem Sim.insideM {α:Type} {one one':Rd α} (h:Sim L en L' en' d one one') (f:Nat):Sim L en L' en' d (insideM L en one f) (insideM L' en' one' f):=
 Sim.bnd (Sim.mustM _) (fun _=>Sim.bnd (Sim.listM h f) (fun l=>Sim.bnd (Sim.mustM _) (fun _=>Sim.ret l)))
theorem Sim.chainM (ops:List (ByteArray × Nat)) (ho:∀ x ∈ ops,x.1 ≠ Za4∧x.1 ≠ Zp) {one one':Rd PE} (h:Sim L en L' en' d one one'):∀ f x,Sim L en L' en' d (chainM L en ops one f x) (chainM L' en' ops one' f x)
 | 0,x=>Sim.outM x
 | f + 1,x=>Sim.bnd (Sim.oneOf ops ho) (fun o=>match o with
  | none=>Sim.ret x
  | some o=>Sim.bnd h (fun y=>Sim.chainM ops ho h f _))
theorem Sim.chainL (ops:List (ByteArray × Nat)) (ho:∀ x ∈ ops,x.1 ≠ Za4∧x.1 ≠ Zp) {one one':Rd PE} (h:Sim L en L' en' d one one') (f:Nat):Sim L en L' en' d (chainL L en ops one f) (chainL L' en' ops one' f):=
 Sim.bnd h (fun x=>Sim.chainM ops ho h f x)
theorem Sim.exF:∀ (f:Nat) (m:Md),Sim L en L' en' d (exF L en f m) (exF L' en' f m)
 | 0,_=>Sim.outM _
 | f + 1,.expr=>Sim.chainL _ kD (Sim.chainL _ kD (Sim.exF f .not) f) f
 | f + 1,.not=>Sim.bnd (Sim.isM Zfx kD kD) (fun b=>Sim.ite b (Sim.bnd (Sim.exF f .not) (fun x=>Sim.ret _))
     (Sim.bnd (Sim.exF f (.sum 0)) (fun x=>Sim.bnd (Sim.isM WIS kD kD) (fun b=>Sim.ite b
      (Sim.bnd (Sim.isM Zfx kD kD) (fun b=>Sim.bnd (Sim.mustM _) (fun _=>Sim.ret _)))
      (Sim.bnd (Sim.oneOf Zkt kD) (fun o=>match o with
       | some o=>Sim.bnd (Sim.exF f (.sum 0)) (fun y=>Sim.ret _)
       | none=>Sim.ret x))))))
 | f + 1,.sum k=>by
  show Sim L en L' en' d (if k=3 then Dt.exF L en f .unary else Dt.chainL L en (opsOf k) (Dt.exF L en f (.sum (k + 1))) f) (if k=3 then Dt.exF L' en' f .unary else Dt.chainL L' en' (opsOf k) (Dt.exF L' en' f (.sum (k + 1))) f)
  split
  ·exact Sim.exF f .unary
  ·refine Sim.chainL _ ?_ (Sim.exF f _) f
   match k with
   | 0=>decide
   | 1=>decide
   | _ + 2=>exact (by decide:∀ x ∈ [(Zao,8),(Zih,9),(Zig,10)],x.1 ≠ Za4∧x.1 ≠ Zp)
 | f + 1,.unary=>Sim.bnd (Sim.isM Zad kD kD) (fun b=>Sim.ite b
     (Sim.bnd Sim.negM (fun n=>match n with
      | some n=>Sim.ret _
      | none=>Sim.bnd (Sim.exF f .unary) (fun x=>Sim.ret _)))
     (Sim.exF f .prim))
 | f + 1,.prim=>Sim.bnd Sim.litM (fun r=>match r with
  | some x=>Sim.ret x
  | none=>Sim.bnd Sim.nameQ (fun r=>match r with
   | some t=>Sim.bnd (Sim.isM Zpb kD kD) (fun b=>Sim.ite b (Sim.bnd Sim.nameM (fun m=>Sim.ret _)) (Sim.ret _))
   | none=>Sim.bnd (Sim.isM Zbr kD kD) (fun b=>Sim.ite b (Sim.ret _)
    (Sim.bnd (Sim.isM Z9 kD kD) (fun b=>Sim.ite b (Sim.bnd (Sim.exF f .expr) (fun x=>Sim.bnd (Sim.mustM _) (fun _=>Sim.ret x)))
    (Sim.bnd (Sim.isM Za7 kD kD) (fun b=>Sim.ite b
     (Sim.bnd (Sim.mustM _) (fun _=>Sim.bnd (Sim.isM Zao kD kD) (fun b=>Sim.ite b (Sim.bnd (Sim.mustM _) (fun _=>Sim.ret _))
      (Sim.bnd (Sim.exF f .expr) (fun x=>Sim.bnd (Sim.mustM _) (fun _=>Sim.ret _))))))
    (Sim.bnd (Sim.oneOf groups kD) (fun o=>match o with
     | some o=>Sim.bnd (Sim.mustM _) (fun _=>Sim.bnd (Sim.exF f .expr) (fun x=>Sim.bnd (Sim.mustM _) (fun _=>Sim.ret _)))
     | none=>Sim.bnd (Sim.failM 6 kD) (fun _=>Sim.ret _))))))))))
theorem Sim.exprM:Sim L en L' en' d (exprM L en) (exprM L' en'):=Sim.exF FU .expr
theorem Sim.maybeM (w:ByteArray) (h1:w ≠ Za4) (h2:w ≠ Zp):Sim L en L' en' d (maybeM L en w) (maybeM L' en' w):=
 Sim.bnd (Sim.isM w h1 h2) (fun b=>Sim.ite b (Sim.bnd Sim.exprM (fun x=>Sim.ret _)) (Sim.ret _))
theorem Sim.colM:Sim L en L' en' d (colM L en) (colM L' en'):=
 Sim.bnd Sim.nameM (fun n=>Sim.bnd (Sim.oneOf types kD) (fun o=>Sim.bnd (match o with | some o=>Sim.ret o | none=>Sim.bnd (Sim.failM 6 kD) (fun _=>Sim.ret 0)) (fun ty=>
  Sim.bnd (Sim.isM Zfx kD kD) (fun b=>Sim.ite b (Sim.bnd (Sim.mustM _) (fun _=>Sim.ret _)) (Sim.ret _)))))
theorem Sim.colsM:∀ f cs,Sim L en L' en' d (colsM L en f cs) (colsM L' en' f cs)
 | 0,cs=>Sim.outM cs
 | f + 1,cs=>Sim.bnd Sim.okM (fun ok=>Sim.ite ok (Sim.bnd (Sim.ite cs.isEmpty (Sim.ret _) (Sim.isM Zbl kD kD)) (fun b=>Sim.ite b (Sim.ret _)
     (Sim.bnd Sim.colM (fun c=>Sim.bnd (Sim.mustM _) (fun _=>Sim.colsM f _))))) (Sim.ret _))
theorem Sim.namesM:Sim L en L' en' d (namesM L en) (namesM L' en'):=Sim.insideM Sim.nameM FU
theorem Sim.createM:Sim L en L' en' d (createM L en) (createM L' en'):=
 Sim.bnd (Sim.isM Zcj kD kD) (fun b=>Sim.ite b
  (Sim.bnd Sim.nameM (fun n=>Sim.bnd (Sim.mustM _) (fun _=>Sim.bnd (Sim.colsM FU []) (fun c=>Sim.bnd (Sim.mustM _) (fun _=>Sim.bnd Sim.namesM (fun k=>Sim.bnd (Sim.mustM _) (fun _=>Sim.ret _)))))))
  (Sim.bnd (Sim.isM Zde kD kD) (fun u=>Sim.bnd (Sim.mustM _) (fun _=>Sim.bnd Sim.nameM (fun n=>Sim.bnd (Sim.mustM _) (fun _=>Sim.bnd Sim.nameM (fun t=>Sim.bnd Sim.namesM (fun k=>Sim.ret _))))))))
theorem Sim.sourceM:Sim L en L' en' d (sourceM L en) (sourceM L' en'):=
 Sim.bnd Sim.nameM (fun n=>Sim.bnd (Sim.isM WAS kD kD) (fun b=>Sim.ite b (Sim.bnd Sim.nameM (fun m=>Sim.ret _)) (Sim.ret _)))
theorem Sim.itemM:Sim L en L' en' d (itemM L en) (itemM L' en'):=
 Sim.bnd Sim.exprM (fun x=>Sim.bnd (Sim.isM WAS kD kD) (fun b=>Sim.ite b (Sim.bnd Sim.nameM (fun m=>Sim.ret _)) (Sim.ret _)))
theorem Sim.orderM:Sim L en L' en' d (orderM L en) (orderM L' en'):=Sim.bnd Sim.exprM (fun x=>Sim.bnd (Sim.isM Zie kD kD) (fun b=>Sim.ret _))
theorem Sim.setM:Sim L en L' en' d (setM L en) (setM L' en'):=Sim.bnd Sim.nameM (fun n=>Sim.bnd (Sim.mustM _) (fun _=>Sim.bnd Sim.exprM (fun x=>Sim.ret _)))
theorem Sim.joinsM:∀ f l,Sim L en L' en' d (joinsM L en f l) (joinsM L' en' f l)
 | 0,l=>Sim.outM l
 | f + 1,l=>Sim.bnd (Sim.isM Zfy kD kD) (fun b=>Sim.ite b (Sim.bnd Sim.sourceM (fun x=>Sim.bnd (Sim.mustM _) (fun _=>Sim.bnd Sim.exprM (fun y=>Sim.joinsM f _)))) (Sim.ret _))
theorem Sim.byM {α:Type} (w:ByteArray) (h1:w ≠ Za4) (h2:w ≠ Zp) {one one':Rd α} (h:Sim L en L' en' d one one'):Sim L en L' en' d (byM L en w one) (byM L' en' w one'):=
 Sim.bnd (Sim.isM w h1 h2) (fun b=>Sim.ite b (Sim.bnd (Sim.mustM _) (fun _=>Sim.listM h FU)) (Sim.ret _))
theorem Sim.limitM:Sim L en L' en' d (limitM L en) (limitM L' en'):=Sim.bnd (Sim.isM Zdv kD kD) (fun b=>Sim.ite b Sim.numM (Sim.ret _))
theorem Sim.chooseM:Sim L en L' en' d (chooseM L en) (chooseM L' en'):=
 Sim.bnd (Sim.isM Zao kD kD) (fun b=>Sim.bnd (Sim.ite b (Sim.ret _) (Sim.listM Sim.itemM FU)) (fun i=>Sim.bnd (Sim.mustM _) (fun _=>Sim.bnd Sim.sourceM (fun x=>
  Sim.bnd (Sim.joinsM FU [x]) (fun j=>Sim.bnd (Sim.maybeM Z6 kD kD) (fun w=>Sim.bnd (Sim.byM Zbp kD kD Sim.exprM) (fun g=>Sim.bnd (Sim.maybeM Zbi kD kD) (fun h=>
  Sim.bnd (Sim.byM Zbz kD kD Sim.orderM) (fun o=>Sim.bnd Sim.limitM (fun m=>Sim.ret _))))))))))
theorem Sim.dropM:Sim L en L' en' d (dropM L en) (dropM L' en'):=
 Sim.bnd (Sim.isM Zcj kD kD) (fun b=>Sim.ite b (Sim.bnd Sim.nameM (fun n=>Sim.ret _)) (Sim.bnd (Sim.mustM _) (fun _=>Sim.bnd Sim.nameM (fun n=>Sim.ret _))))
theorem Sim.insertM:Sim L en L' en' d (insertM L en) (insertM L' en'):=
 Sim.bnd (Sim.mustM _) (fun _=>Sim.bnd Sim.nameM (fun t=>Sim.bnd Sim.namesM (fun n=>Sim.bnd (Sim.mustM _) (fun _=>Sim.bnd (Sim.listM (Sim.insideM Sim.exprM FU) FU) (fun r=>Sim.ret _)))))
theorem Sim.updateM:Sim L en L' en' d (updateM L en) (updateM L' en'):=
 Sim.bnd Sim.nameM (fun t=>Sim.bnd (Sim.mustM _) (fun _=>Sim.bnd (Sim.listM Sim.setM FU) (fun c=>Sim.bnd (Sim.maybeM Z6 kD kD) (fun w=>Sim.ret _))))
theorem Sim.deleteM:Sim L en L' en' d (deleteM L en) (deleteM L' en'):=
 Sim.bnd (Sim.mustM _) (fun _=>Sim.bnd Sim.nameM (fun t=>Sim.bnd (Sim.maybeM Z6 kD kD) (fun w=>Sim.ret _)))
theorem Sim.rollM:Sim L en L' en' d (rollM L en) (rollM L' en'):=
 Sim.bnd (Sim.isM WTO kD kD) (fun b=>Sim.ite b (Sim.bnd Sim.nameM (fun n=>Sim.ret _)) (Sim.ret _))
theorem Sim.saveM (k:Nat):Sim L en L' en' d (saveM L en k) (saveM L' en' k):=Sim.bnd Sim.nameM (fun n=>Sim.ret _)
theorem Sim.restM:Sim L en L' en' d (restM L en) (restM L' en'):=
 Sim.bnd (Sim.isM Zgj kD kD) (fun b=>Sim.ite b (Sim.ret _)
 (Sim.bnd (Sim.isM Zd6 kD kD) (fun b=>Sim.ite b (Sim.ret _)
 (Sim.bnd (Sim.isM Zay kD kD) (fun b=>Sim.ite b Sim.rollM
 (Sim.bnd (Sim.isM Za9 kD kD) (fun b=>Sim.ite b (Sim.saveM 12)
 (Sim.bnd (Sim.isM Zcv kD kD) (fun b=>Sim.ite b (Sim.saveM 14)
 (Sim.bnd (Sim.failM 6 kD) (fun _=>Sim.ret _)))))))))))
theorem Sim.stmtM:Sim L en L' en' d (stmtM L en) (stmtM L' en'):=
 Sim.bnd (Sim.isM Zau kD kD) (fun b=>Sim.ite b Sim.createM
 (Sim.bnd (Sim.isM Zf5 kD kD) (fun b=>Sim.ite b Sim.dropM
 (Sim.bnd (Sim.isM Zcq kD kD) (fun b=>Sim.ite b Sim.insertM
 (Sim.bnd (Sim.isM Zdd kD kD) (fun b=>Sim.ite b Sim.updateM
 (Sim.bnd (Sim.isM Zdw kD kD) (fun b=>Sim.ite b Sim.deleteM
 (Sim.bnd (Sim.isM Zb9 kD kD) (fun b=>Sim.ite b Sim.chooseM Sim.restM)))))))))))
def Zjc {α:Type} (p:Rd α):Prop:=∀ s:PS,(p s).2.e=0→s.k < (p s).2.k
theorem Zjc.ite {α:Type} {t:ByteArray} {p q:Rd α} (hp:∀ s,s.k ≤ (p s).2.k) (hq:Zjc q):Zjc (bnd (isM L en t) fun b=>if b then p else q):=fun s h=>by
 show s.k < ((if (Dt.isM L en t s).1 then p else q) (Dt.isM L en t s).2).2.k
 change ((if (Dt.isM L en t s).1 then p else q) (Dt.isM L en t s).2).2.e=0 at h
 cases hb:isB L en t s with
 | true=>
  have e:Dt.isM L en t s=(true,s.next):=by unfold Dt.isM;rw [hb];rfl
  rw [e]
  exact Nat.lt_of_lt_of_le (Nat.lt_succ_self _) (hp s.next)
 | false=>
  have e:Dt.isM L en t s=(false,s):=by unfold Dt.isM;rw [hb];rfl
  rw [e] at h ⊢
  exact hq s h
theorem Zjc.fail {α:Type} (x:α):Zjc (bnd (failM L en 6) fun _=>ret x):=fun s h=>absurd h (Zac 6 s kD).2
theorem Zjc.restM:Zjc (restM L en):=
 Zjc.ite (fun s=>Nat.le_refl _) (Zjc.ite (fun s=>Nat.le_refl _) (Zjc.ite (fun s=>((Sim.rollM (L':=L) (en':=en) (d:=0)).mono s).1) (Zjc.ite (fun s=>((Sim.saveM (L':=L) (en':=en) (d:=0) 12).mono s).1)
  (Zjc.ite (fun s=>((Sim.saveM (L':=L) (en':=en) (d:=0) 14).mono s).1) (Zjc.fail _)))))
theorem Zjc.stmtM:Zjc (stmtM L en):=
 Zjc.ite (fun s=>((Sim.createM (L':=L) (en':=en) (d:=0)).mono s).1) (Zjc.ite (fun s=>((Sim.dropM (L':=L) (en':=en) (d:=0)).mono s).1) (Zjc.ite (fun s=>((Sim.insertM (L':=L) (en':=en) (d:=0)).mono s).1)
  (Zjc.ite (fun s=>((Sim.updateM (L':=L) (en':=en) (d:=0)).mono s).1) (Zjc.ite (fun s=>((Sim.deleteM (L':=L) (en':=en) (d:=0)).mono s).1) (Zjc.ite (fun s=>((Sim.chooseM (L':=L) (en':=en) (d:=0)).mono s).1) Zjc.restM)))))
end
end Go.Proofs.YtmdogmpcmkfjpaaGreatDoor.Dt
