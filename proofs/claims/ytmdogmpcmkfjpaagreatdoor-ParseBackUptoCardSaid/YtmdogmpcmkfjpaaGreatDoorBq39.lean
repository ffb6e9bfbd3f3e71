import Derived.Test.YtmdogmpcmkfjpaaGreatDoorRows
import Derived.Test.YtmdogmpcmkfjpaaGreatDoorBq38
import Derived.Test.YtmdogmpcmkfjpaaGreatDoorBq31
import Derived.Test.YtmdogmpcmkfjpaaGreatDoorBq08
set_option maxRecDepth 100000
set_option maxHeartbeats 64000000
/- Part. -/
namespace Go.Proofs.YtmdogmpcmkfjpaaGreatDoor.Dt
open Go.Lib
set_option linter.unusedVariables false
set_option linter.unusedSimpArgs false
def nW:PE→Nat
 | .mk _ v t m _ kids=>match kids with
  | []=>1 + v.s.size + t.size + m.size
  | [x]=>1 + v.s.size + t.size + m.size + nW x
  | [x,y]=>1 + v.s.size + t.size + m.size + nW x + nW y
  | _=>1 + v.s.size + t.size + m.size
theorem Zeb (w:List UInt8) (a:List UInt8):(Ze [w] a).length=a.length + (w.length + 1):=by unfold Ze;simp
theorem Zg0 (u v:List UInt8) (a:List UInt8):(Ze [u,v] a).length=a.length + (u.length + 1) + (v.length + 1):=by unfold Ze;simp;omega
theorem Zsf (u v w:List UInt8) (a:List UInt8):(Ze [u,v,w] a).length=a.length + (u.length + 1) + (v.length + 1) + (w.length + 1):=by unfold Ze;simp;omega
theorem puts4 (u v w x:List UInt8) (a:List UInt8):(Ze [u,v,w,x] a).length=a.length + (u.length + 1) + (v.length + 1) + (w.length + 1) + (x.length + 1):=by unfold Ze;simp;omega
theorem valT_len {v:V} (h0:-9223372036854775808 ≤ v.n) (h1:v.n ≤ 9223372036854775807):(Znl v).length ≤ 24 + 2 * v.s.size:=by
 unfold Znl
 split
 ·split
  ·have:=Zkh 20 (-v.n).toNat kW kW
   simp only [List.length_cons];omega
  have:=Zkh 20 v.n.toNat kW kW
  omega
 split
 ·have:=Zfe v.s.data.toList
  exact ks46
 split
 ·split
  ·unfold Zb1
   split
   ·show (Zak ⟨5,v.s,0,0⟩).length ≤ _
    rw [Zl6 rfl]
    have:=Zft v.s.data.toList
    exact ks46
   simp
  simp;omega
 show 4 ≤ _;omega
theorem Zfi {w:List UInt8→List UInt8} {c:Nat} (hw:∀ a,(w a).length ≤ a.length + c) (op:Nat) (b:Bool) (a:List UInt8):(Zgd w op b a).length ≤ a.length + c + 4:=by
 unfold Zgd
 split
 ·have:=hw a;omega
 rw [Zeb]
 have:=hw (Ze [W1 Z9] a)
 rw [Zeb] at this
 have e1:(W1 Z9).length=1:=rfl
 have e2:(W1 Zp).length=1:=rfl
 omega
theorem sgn_len (k:Nat):((sgnT[k]?).getD []).length ≤ 3:=by
 rcases Nat.lt_or_ge k 14 with h | h
 ·have:∀ k,k < 14→((sgnT[k]?).getD []).length ≤ 3:=by decide +kernel
  exact this k h
 rw [List.getElem?_eq_none (by show sgnT.length ≤ k;exact h)];simp
theorem grp_len (k:Nat):((grpT[k]?).getD []).length ≤ 5:=by
 rcases Nat.lt_or_ge k 4 with h | h
 ·have:∀ k,k < 4→((grpT[k]?).getD []).length ≤ 5:=by decide +kernel
  exact this k h
 rw [List.getElem?_eq_none (by show grpT.length ≤ k;exact h)];simp
theorem Zpz {x:PE} (hk:x.kids = []):nW x=1 + x.v.s.size + x.t.size + x.m.size:=by
 obtain ⟨op,v,t,m,n,kids⟩:=x
 simp only [PE.kids] at hk
 subst hk
 rfl
theorem Zq5 {x y:PE} (hk:x.kids = [y]):nW x=1 + x.v.s.size + x.t.size + x.m.size + nW y:=by
 obtain ⟨op,v,t,m,n,kids⟩:=x
 simp only [PE.kids] at hk
 subst hk
 rfl
theorem nW_two {x y z:PE} (hk:x.kids = [y,z]):nW x=1 + x.v.s.size + x.t.size + x.m.size + nW y + nW z:=by
 obtain ⟨op,v,t,m,n,kids⟩:=x
 simp only [PE.kids] at hk
 subst hk
 rfl
theorem Zq4 (x:PE):1 ≤ nW x:=by
 obtain ⟨op,v,t,m,n,kids⟩:=x
 match kids with
 | []=>simp [nW];omega
 | [y]=>simp [nW];omega
 | [y,z]=>simp [nW];omega
 | y :: z :: u :: l=>simp [nW];omega
theorem bl (s:ByteArray):(W1 s).length=s.size:=Array.length_toList
theorem Zgl {x:PE} (h:Zg9 x):∀ a:List UInt8,(wrE x a).length ≤ a.length + 32 * nW x:=by
 induction h with
 | mk x hv hk ih=>
  intro a
  have hp:=Zq4 x
  by_cases h:32768 < a.length
  ·rw [Zpd h];omega
  by_cases h1:x.op=1∧x.kids.length=0
  ·have e:=List.eq_nil_of_length_eq_zero h1.2
   rw [Ztc h h1.1 e,Zeb,Zpz e]
   have:=valT_len hv.lo hv.hi
   omega
  by_cases h2:x.op=2∧x.kids.length=0
  ·have e:=List.eq_nil_of_length_eq_zero h2.2
   rw [Ztg h h2.1 e,Zeb,Zpz e,bl]
   split
   ·omega
   ·rw [Zg0,bl]
    have e1:(W1 Zpb).length=1:=rfl
    omega
  by_cases h3:x.op=3∧x.kids.length=1
  ·obtain ⟨y,hy⟩:=List.length_eq_one_iff.1 h3.2
   rw [Ztf h h3.1 hy,Zq5 hy]
   have:=Zfi (ih y Zs4) y.op (decide (y.op ≠ 1)) (Ze [W1 Zad] a)
   rw [Zeb] at this
   have e1:(W1 Zad).length=1:=rfl
   omega
  by_cases h4:x.op=4∧x.kids.length=1
  ·obtain ⟨y,hy⟩:=List.length_eq_one_iff.1 h4.2
   rw [Zte h h4.1 hy,Zq5 hy]
   have:=Zfi (ih y Zs4) y.op true (Ze [W1 Zfx] a)
   rw [Zeb] at this
   have e1:(W1 Zfx).length=3:=rfl
   omega
  by_cases h5:x.op=5∧x.kids.length=1
  ·obtain ⟨y,hy⟩:=List.length_eq_one_iff.1 h5.2
   rw [Zpc h h5.1 hy,Zq5 hy,Zg0]
   have:=Zfi (ih y Zs4) y.op true a
   have e1:(W1 WIS).length=2:=rfl
   have e2:(W1 Zbr).length=4:=rfl
   omega
  by_cases h6:(6 ≤ x.op∧x.op ≤ 19)∧x.kids.length=2
  ·obtain ⟨y,z,hy⟩:=Zp1 h6.2
   rw [Ztd h h6.1 hy,nW_two hy]
   have g1:=Zfi (ih y Zs4) y.op true a
   have g2:=Zfi (ih z Zs4) z.op true (Ze [(sgnT[x.op - 6]?).getD []] (Zgd (wrE y) y.op true a))
   rw [Zeb] at g2
   have:=sgn_len (x.op - 6)
   omega
  by_cases h7:x.op=20∧x.kids.length=0
  ·have e:=List.eq_nil_of_length_eq_zero h7.2
   rw [Zlz h h7.1 e,puts4,Zpz e]
   have e1:(W1 Za7).length=5:=rfl
   have e2:(W1 Z9).length=1:=rfl
   have e3:(W1 Zao).length=1:=rfl
   have e4:(W1 Zp).length=1:=rfl
   omega
  by_cases h8:(20 ≤ x.op∧x.op ≤ 23)∧x.kids.length=1
  ·obtain ⟨y,hy⟩:=List.length_eq_one_iff.1 h8.2
   rw [Zqf h h8.1 hy,Zq5 hy]
   have:=Zfi (ih y Zs4) y.op false (Ze [(grpT[x.op - 20]?).getD []] a)
   rw [Zeb] at this
   have:=grp_len (x.op - 20)
   omega
  ·rw [Zed h h1 h2 h3 h4 h5 h6 h7 h8,Zeb]
   have e1:([63]:List UInt8).length=1:=rfl
   omega
def wTx (s:ByteArray):Nat:=1 + s.size
def wCol (c:Zeu):Nat:=1 + c.name.size
def wSrc (x:Zec):Nat:=1 + x.table.size + x.as.size + Zaf nW x.on
def wRow (l:List PE):Nat:=1 + Zaf nW l
def wSet (x:ByteArray × PE):Nat:=1 + x.1.size + nW x.2
def Zl0 (x:PE × ByteArray):Nat:=1 + x.2.size + nW x.1
def Ztm (x:PE × Bool):Nat:=1 + nW x.1
def nT (x:PSt):Nat:=x.table.size + x.name.size + Zaf wCol x.cols + Zaf wTx x.key + Zaf wTx x.names + Zaf wRow x.rows + Zaf wSet x.sets + Zaf Zl0 x.items + Zaf wSrc x.src + Zaf nW x.wh + Zaf nW x.group + Zaf nW x.having + Zaf Ztm x.order
structure SFit (x:PSt):Prop where
 rows:∀ r ∈ x.rows,∀ e ∈ r,Zg9 e
 sets:∀ s ∈ x.sets,Zg9 s.2
 items:∀ s ∈ x.items,Zg9 s.1
 src:∀ s ∈ x.src,∀ e ∈ s.on,Zg9 e
 wh:∀ e ∈ x.wh,Zg9 e
 group:∀ e ∈ x.group,Zg9 e
 having:∀ e ∈ x.having,Zg9 e
 order:∀ s ∈ x.order,Zg9 s.1
 lo:-9223372036854775808 ≤ x.limit
 hi:x.limit ≤ 9223372036854775807
theorem Zcp {α:Type} {one:α→List UInt8→List UInt8} {f:α→Nat} {c:Nat} (hf:∀ x,1 ≤ f x):∀ (l:List α) (b:Bool) (a:List UInt8),(∀ x ∈ l,∀ a:List UInt8,(one x a).length ≤ a.length + c * f x)→(Zm one b l a).length ≤ a.length + (c + 2) * Zaf f l
 | [],b,a,_=>by show a.length ≤ a.length + _;omega
 | x :: l,b,a,h=>by
  have h1:=Zcp hf l false (one x (if b then a else Ze [W1 Zy] a)) (fun y hy=>h y Zrd)
  have h2:=h x kY (if b then a else Ze [W1 Zy] a)
  have h3:(if b then a else Ze [W1 Zy] a).length ≤ a.length + 2:=by
   split
   ·omega
   rw [Zeb]
   have e1:(W1 Zy).length=1:=rfl
   omega
  show (Zm one false l (one x (if b then a else Ze [W1 Zy] a))).length ≤ a.length + (c + 2) * (f x + Zaf f l)
  rw [Nat.mul_add]
  have h4:c * f x + 2 ≤ (c + 2) * f x:=by rw [Nat.add_mul];have:=hf x;omega
  omega
theorem Zdk (w:List UInt8) (hw:w.length ≤ 6):∀ (l:List PE) (a:List UInt8),(∀ e ∈ l,Zg9 e)→(Z8 w l a).length ≤ a.length + 40 * Zaf nW l
 | [],a,_=>by show a.length ≤ a.length + _;omega
 | x :: l,a,h=>by
  have h1:=Zdk w hw l (wrE x (Ze [w] a)) (fun y hy=>h y Zrd)
  have h2:=Zgl (h x kY) (Ze [w] a)
  rw [Zeb] at h2
  have:=Zq4 x
  show (Z8 w l (wrE x (Ze [w] a))).length ≤ a.length + 40 * (nW x + Zaf nW l)
  omega
theorem Zg3 (l:List ByteArray) (a:List UInt8):(Zdz l a).length ≤ a.length + 4 + 4 * Zaf wTx l:=by
 unfold Zdz
 rw [Zeb]
 have:=Zcp (one:=fun s=>Ze [W1 s]) (f:=wTx) (c:=2) (fun x=>by unfold wTx;omega) l true (Ze [W1 Z9] a) (fun x _ a=>by rw [Zeb,bl];unfold wTx;omega)
 rw [Zeb] at this
 have e1:(W1 Z9).length=1:=rfl
 have e2:(W1 Zp).length=1:=rfl
 omega
theorem ty_len (k:Nat):((tyT[k % 4]?).getD []).length ≤ 7:=by
 have:∀ k,k < 4→((tyT[k]?).getD []).length ≤ 7:=by decide +kernel
 exact this (k % 4) (Nat.mod_lt _ kD)
theorem Zlt:∀ (l:List Zeu) (a:List UInt8),(Zef l a).length ≤ a.length + 24 * Zaf wCol l
 | [],a=>by show a.length ≤ a.length + _;omega
 | c :: l,a=>by
  have h1:=Zlt l (Ze [W1 Zy] (if c.nn then Ze [W1 Zfx,W1 Zbr] (Ze [W1 c.name,(tyT[c.ty % 4]?).getD []] a) else Ze [W1 c.name,(tyT[c.ty % 4]?).getD []] a))
  have h2:(if c.nn then Ze [W1 Zfx,W1 Zbr] (Ze [W1 c.name,(tyT[c.ty % 4]?).getD []] a) else Ze [W1 c.name,(tyT[c.ty % 4]?).getD []] a).length ≤ a.length + c.name.size + 18:=by
   have:=ty_len c.ty
   have e1:(W1 Zfx).length=3:=rfl
   have e2:(W1 Zbr).length=4:=rfl
   split
   ·rw [Zg0,Zg0,bl c.name];omega
   rw [Zg0,bl c.name];omega
  rw [Zeb] at h1
  have e1:(W1 Zy).length=1:=rfl
  show (Zef l _).length ≤ a.length + 24 * (wCol c + Zaf wCol l)
  have:wCol c=1 + c.name.size:=rfl
  omega
theorem Zrt (s:ByteArray) (a:List UInt8):(asT s a).length ≤ a.length + s.size + 4:=by
 unfold asT
 split
 ·omega
 rw [Zg0,bl s]
 have e1:(W1 WAS).length=2:=rfl
 omega
theorem Znt:∀ (l:List Zec) (b:Bool) (a:List UInt8),(∀ s ∈ l,∀ e ∈ s.on,Zg9 e)→(Ziz b l a).length ≤ a.length + 40 * Zaf wSrc l
 | [],b,a,_=>by show a.length ≤ a.length + _;omega
 | x :: l,b,a,h=>by
  have h1:=Znt l false (Z8 (W1 WON) x.on (asT x.as (if b then Ze [W1 Zck,W1 x.table] a else Ze [W1 Zfy,W1 x.table] a))) (fun y hy=>h y Zrd)
  have h2:=Zdk (W1 WON) (by show (2:Nat) ≤ 6;omega) x.on (asT x.as (if b then Ze [W1 Zck,W1 x.table] a else Ze [W1 Zfy,W1 x.table] a)) (h x kY)
  have h3:=Zrt x.as (if b then Ze [W1 Zck,W1 x.table] a else Ze [W1 Zfy,W1 x.table] a)
  have h4:(if b then Ze [W1 Zck,W1 x.table] a else Ze [W1 Zfy,W1 x.table] a).length=a.length + x.table.size + 6:=by
   have e1:(W1 Zck).length=4:=rfl
   have e2:(W1 Zfy).length=4:=rfl
   split
   ·rw [Zg0,bl x.table];omega
   rw [Zg0,bl x.table];omega
  show (Ziz false l _).length ≤ a.length + 40 * (wSrc x + Zaf wSrc l)
  have:wSrc x=1 + x.table.size + x.as.size + Zaf nW x.on:=rfl
  omega
theorem Zor {x:PSt} (h:SFit x) (a:List UInt8):(Zfw x a).length ≤ a.length + 100 + 48 * (Zaf Zl0 x.items + Zaf wSrc x.src + Zaf nW x.wh + Zaf nW x.group + Zaf nW x.having + Zaf Ztm x.order):=by
 unfold Zfw
 simp only
 have b0:(if x.items.isEmpty then Ze [W1 Zao] (Ze [W1 Zb9] a) else Ze [W1 Zb9] a).length ≤ a.length + 9:=by
  have e1:(W1 Zao).length=1:=rfl
  have e2:(W1 Zb9).length=6:=rfl
  split
  ·rw [Zeb,Zeb];omega
  ·rw [Zeb];omega
 generalize (if x.items.isEmpty then Ze [W1 Zao] (Ze [W1 Zb9] a) else Ze [W1 Zb9] a)=a0 at *
 have b1:=Zcp (one:=Zk1) (f:=Zl0) (c:=40) (fun x=>by unfold Zl0;omega) x.items true a0 (fun y hy a=>by
  have g1:=Zgl (h.items y hy) a
  have g2:=Zrt y.2 (wrE y.1 a)
  show (asT y.2 (wrE y.1 a)).length ≤ _
  unfold Zl0;omega)
 generalize Zm Zk1 true x.items a0=a1 at *
 have b2:=Znt x.src true a1 h.src
 generalize Ziz true x.src a1=a2 at *
 have b3:=Zdk (W1 Z6) (by show (5:Nat) ≤ 6;omega) x.wh a2 h.wh
 generalize Z8 (W1 Z6) x.wh a2=a3 at *
 have b4:(if x.group.isEmpty then a3 else Zm wrE true x.group (Ze [W1 Zbp,W1 WBY] a3)).length ≤ a3.length + 9 + 34 * Zaf nW x.group:=by
  split
  ·omega
  ·have:=Zcp (one:=wrE) (f:=nW) (c:=32) Zq4 x.group true (Ze [W1 Zbp,W1 WBY] a3) (fun y hy a=>Zgl (h.group y hy) a)
   rw [Zg0] at this
   have e1:(W1 Zbp).length=5:=rfl
   have e2:(W1 WBY).length=2:=rfl
   omega
 generalize (if x.group.isEmpty then a3 else Zm wrE true x.group (Ze [W1 Zbp,W1 WBY] a3))=a4 at *
 have b5:=Zdk (W1 Zbi) (by show (6:Nat) ≤ 6;omega) x.having a4 h.having
 generalize Z8 (W1 Zbi) x.having a4=a5 at *
 have b6:(if x.order.isEmpty then a5 else Zm Zdq true x.order (Ze [W1 Zbz,W1 WBY] a5)).length ≤ a5.length + 9 + 42 * Zaf Ztm x.order:=by
  split
  ·omega
  ·have:=Zcp (one:=Zdq) (f:=Ztm) (c:=40) (fun x=>by unfold Ztm;omega) x.order true (Ze [W1 Zbz,W1 WBY] a5) (fun y hy a=>by
    have g1:=Zgl (h.order y hy) a
    have e3:(W1 Zie).length=4:=rfl
    unfold Zdq
    split
    ·rw [Zeb];unfold Ztm;omega
    ·unfold Ztm;omega)
   rw [Zg0] at this
   have e1:(W1 Zbz).length=5:=rfl
   have e2:(W1 WBY).length=2:=rfl
   omega
 generalize (if x.order.isEmpty then a5 else Zm Zdq true x.order (Ze [W1 Zbz,W1 WBY] a5))=a6 at *
 have h0:=h.hi
 split
 ·have:=Zkh 20 x.limit.toNat kW kW
  rw [Zg0]
  have e1:(W1 Zdv).length=5:=rfl
  omega
 omega
theorem Znb {x:PSt} (h:SFit x):(Zb3 x []).length ≤ 200 + 48 * nT x:=by
 unfold Zb3 nT
 have e0:([]:List UInt8).length=0:=rfl
 by_cases k0:x.kind=1 ∨ x.kind=3
 ·rw [if_pos k0]
  unfold Zco
  split
  ·have h1:=Zg3 x.key (Ze [W1 Zbo,W1 x.name,W1 WON,W1 x.table] (if x.uniq then Ze [W1 Zde] (Ze [W1 Zau] []) else Ze [W1 Zau] []))
   rw [puts4,bl x.name,bl x.table] at h1
   have h2:(if x.uniq then Ze [W1 Zde] (Ze [W1 Zau] []) else Ze [W1 Zau] []).length ≤ 20:=by split <;> decide
   have e1:(W1 Zbo).length=5:=rfl
   have e2:(W1 WON).length=2:=rfl
   omega
  rw [Zeb]
  have h1:=Zg3 x.key (Ze [W1 Zbl,W1 Zm1] (Zef x.cols (Ze [W1 Zau,W1 Zcj,W1 x.table,W1 Z9] [])))
  rw [Zg0] at h1
  have h2:=Zlt x.cols (Ze [W1 Zau,W1 Zcj,W1 x.table,W1 Z9] [])
  rw [puts4,bl x.table] at h2
  have e1:(W1 Zbl).length=7:=rfl
  have e2:(W1 Zm1).length=3:=rfl
  have e3:(W1 Zau).length=6:=rfl
  have e4:(W1 Zcj).length=5:=rfl
  have e5:(W1 Z9).length=1:=rfl
  have e6:(W1 Zp).length=1:=rfl
  omega
 rw [if_neg k0]
 by_cases k1:x.kind=2
 ·rw [if_pos k1]
  rw [Zsf,bl x.table]
  have e1:(W1 Zf5).length=4:=rfl
  have e2:(W1 Zcj).length=5:=rfl
  omega
 rw [if_neg k1]
 by_cases k2:x.kind=4
 ·rw [if_pos k2]
  rw [Zsf,bl x.name]
  have e1:(W1 Zf5).length=4:=rfl
  have e2:(W1 Zbo).length=5:=rfl
  omega
 rw [if_neg k2]
 by_cases k3:x.kind=5
 ·rw [if_pos k3]
  have h1:=Zcp (one:=Zuc) (f:=wRow) (c:=40) (fun x=>by unfold wRow;omega) x.rows true (Ze [W1 Zcy] (Zdz x.names (Ze [W1 Zcq,W1 Zf4,W1 x.table] []))) (fun r hr a=>by
   have g1:=Zcp (one:=wrE) (f:=nW) (c:=32) Zq4 r true (Ze [W1 Z9] a) (fun y hy a=>Zgl (h.rows r hr y hy) a)
   rw [Zeb] at g1
   unfold Zuc wRow
   rw [Zeb]
   have e1:(W1 Z9).length=1:=rfl
   have e2:(W1 Zp).length=1:=rfl
   omega)
  have h2:=Zg3 x.names (Ze [W1 Zcq,W1 Zf4,W1 x.table] [])
  rw [Zeb] at h1
  rw [Zsf,bl x.table] at h2
  have e1:(W1 Zcy).length=6:=rfl
  have e2:(W1 Zcq).length=6:=rfl
  have e3:(W1 Zf4).length=4:=rfl
  omega
 rw [if_neg k3]
 by_cases k4:x.kind=6
 ·rw [if_pos k4]
  have h1:=Zdk (W1 Z6) (by show (5:Nat) ≤ 6;omega) x.wh (Zm setT true x.sets (Ze [W1 Zdd,W1 x.table,W1 Zpa] [])) h.wh
  have h2:=Zcp (one:=setT) (f:=wSet) (c:=40) (fun x=>by unfold wSet;omega) x.sets true (Ze [W1 Zdd,W1 x.table,W1 Zpa] []) (fun y hy a=>by
   have g1:=Zgl (h.sets y hy) (Ze [W1 y.1,W1 BEQ] a)
   rw [Zg0,bl y.1] at g1
   have e1:(W1 BEQ).length=1:=rfl
   show (wrE y.2 (Ze [W1 y.1,W1 BEQ] a)).length ≤ _
   unfold wSet;omega)
  rw [Zsf,bl x.table] at h2
  have e1:(W1 Zdd).length=6:=rfl
  have e2:(W1 Zpa).length=3:=rfl
  omega
 rw [if_neg k4]
 by_cases k5:x.kind=7
 ·rw [if_pos k5]
  have h1:=Zdk (W1 Z6) (by show (5:Nat) ≤ 6;omega) x.wh (Ze [W1 Zdw,W1 Zck,W1 x.table] []) h.wh
  rw [Zsf,bl x.table] at h1
  have e1:(W1 Zdw).length=6:=rfl
  have e2:(W1 Zck).length=4:=rfl
  omega
 rw [if_neg k5]
 by_cases k6:x.kind=8
 ·rw [if_pos k6]
  have h1:=Zor h []
  omega
 rw [if_neg k6]
 by_cases k7:x.kind=9
 ·rw [if_pos k7]
  rw [Zeb];have e1:(W1 Zgj).length=5:=rfl;omega
 rw [if_neg k7]
 by_cases k8:x.kind=10
 ·rw [if_pos k8]
  rw [Zeb];have e1:(W1 Zd6).length=6:=rfl;omega
 rw [if_neg k8]
 by_cases k9:x.kind=11
 ·rw [if_pos k9]
  rw [Zeb];have e1:(W1 Zay).length=8:=rfl;omega
 rw [if_neg k9]
 by_cases k10:x.kind=12
 ·rw [if_pos k10]
  rw [Zg0,bl x.name];have e1:(W1 Za9).length=9:=rfl;omega
 rw [if_neg k10]
 by_cases k11:x.kind=13
 ·rw [if_pos k11]
  rw [Zsf,bl x.name]
  have e1:(W1 Zay).length=8:=rfl
  have e2:(W1 WTO).length=2:=rfl
  omega
 rw [if_neg k11]
 by_cases k12:x.kind=14
 ·rw [if_pos k12]
  rw [Zg0,bl x.name];have e1:(W1 Zcv).length=7:=rfl;omega
 rw [if_neg k12]
 show 0 ≤ _;exact Nat.zero_le _
theorem Zg9.ok {x:PE} (h:Zfm x):Zg9 x:=by
 have v0:Ze2 V00:=⟨by decide,by decide,by decide⟩
 induction h with
 | val v hv=>
  refine .mk _ ?_ (fun y hy=>by cases hy)
  show Ze2 v
  rcases hv with ⟨_,h2,h3⟩ | ⟨_,h2,h3,h4⟩ | ⟨_,h2,h3⟩
  ·exact ⟨by omega,by omega,by rw [h3];decide⟩
  ·exact ⟨by omega,by omega,by rw [h4];decide⟩
  ·exact ⟨by omega,by omega,by omega⟩
 | col m hm=>exact .mk _ v0 (fun y hy=>by cases hy)
 | tcol t m ht hm=>exact .mk _ v0 (fun y hy=>by cases hy)
 | one op x h1 h2 ih=>exact .mk _ v0 (fun y hy=>by obtain rfl:=List.mem_singleton.1 hy;exact ih)
 | two op x y h1 h2 h3 h4 ih1 ih2=>
  exact .mk _ v0 (fun z hz=>by
   exact ks77)
 | count=>exact .mk _ v0 (fun y hy=>by cases hy)
theorem nW_ok {x:PE} (h:Zfm x):nW x ≤ 3001 * nE x:=by
 have hN:∀ s,Zaz s→s.size ≤ 1000:=fun s hs=>hs.2.1
 induction h with
 | val v hv=>
  show 1 + v.s.size + 0 + 0 ≤ 3001 * 1
  rcases hv with ⟨_,h2,h3⟩ | ⟨_,h2,h3,h4⟩ | ⟨_,h2,h3⟩
  ·rw [h3];decide
  ·rw [h4];decide
  ·omega
 | col m hm=>show 1 + 0 + 0 + m.size ≤ 3001 * 1;have:=hN m hm;omega
 | tcol t m ht hm=>show 1 + 0 + t.size + m.size ≤ 3001 * 1;have:=hN m hm;have:=hN t ht;omega
 | one op x h1 h2 ih=>show 1 + 0 + 0 + 0 + nW x ≤ 3001 * (nE x + 1);omega
 | two op x y h1 h2 h3 h4 ih1 ih2=>show 1 + 0 + 0 + 0 + nW x + nW y ≤ 3001 * (nE x + nE y + 1);omega
 | count=>show 1 + 0 + 0 + 0 ≤ 3001 * 1;omega
theorem Zfp {α:Type} {f g:α→Nat} {c:Nat} : ∀ (l:List α),(∀ x ∈ l,f x ≤ c * g x)→Zaf f l ≤ c * Zaf g l
 | [],_=>Nat.zero_le _
 | x :: l,h=>by
  have h1:=Zfp l (fun y hy=>h y Zrd)
  have h2:=h x kY
  show f x + Zaf f l ≤ c * (g x + Zaf g l)
  rw [Nat.mul_add];omega
theorem Zj9 {l:List PE} (h:Zeg l):Zaf nW l ≤ 3001 * Zaf nE l:=Zfp l fun x hx=>nW_ok (h x hx)
theorem SFit.ok {x:PSt} (h:Zf7 x):SFit x∧nT x ≤ 2000 + 5000 * (nSt x + 1):=by
 have hN:∀ s,Zaz s→s.size ≤ 1000:=fun s hs=>hs.2.1
 have hA:∀ s,s=⟨#[]⟩ ∨ Zaz s→s.size ≤ 1000:=fun s hs=>hs.elim (fun h=>by rw [h];decide) (hN s)
 have hK:∀ l,Zis l→Zaf wTx l ≤ 1001 * l.length:=fun l hl=>by
  have:=Zfp (f:=wTx) (g:=cnt1) (c:=1001) l (fun s hs=>by have:=hN s (hl s hs);show 1 + s.size ≤ 1001 * 1;omega)
  rw [Zqk] at this
  exact this
 have ok:∀ {l:List PE},Zeg l→∀ e ∈ l,Zg9 e:=fun hl e he=>Zg9.ok (hl e he)
 cases h with
 | create t cols key ht hc hk=>
  refine ⟨⟨by simp,by simp,by simp,by simp,by simp,by simp,by simp,by simp,by show (-9223372036854775808:Int) ≤ 0;decide,by show (0:Int) ≤ 9223372036854775807;decide⟩,?_⟩
  have h1:=hK key hk
  have h2:=Zfp (f:=wCol) (g:=cnt1) (c:=1001) cols (fun c hc'=>by have:=hN c.name (hc c hc').1;show 1 + c.name.size ≤ 1001 * 1;omega)
  rw [Zqk] at h2
  exact ks60
 | index u n t key hn ht hk=>
  refine ⟨⟨by simp,by simp,by simp,by simp,by simp,by simp,by simp,by simp,by show (-9223372036854775808:Int) ≤ 0;decide,by show (0:Int) ≤ 9223372036854775807;decide⟩,?_⟩
  have h1:=hK key hk
  have h3:=hN t ht
  have h4:=hN n hn
  simp only [nT,nSt,Zaf,List.length_nil]
  omega
 | drop t ht=>
  refine ⟨⟨by simp,by simp,by simp,by simp,by simp,by simp,by simp,by simp,by show (-9223372036854775808:Int) ≤ 0;decide,by show (0:Int) ≤ 9223372036854775807;decide⟩,?_⟩
  exact ks60
 | dropIndex n hn=>
  refine ⟨⟨by simp,by simp,by simp,by simp,by simp,by simp,by simp,by simp,by show (-9223372036854775808:Int) ≤ 0;decide,by show (0:Int) ≤ 9223372036854775807;decide⟩,?_⟩
  have h3:=hN n hn
  simp only [nT,nSt,Zaf,List.length_nil]
  have e:ByteArray.size ⟨#[]⟩=0:=rfl
  omega
 | insert t names rows ht hn hr=>
  refine ⟨⟨fun r hr' e he=>Zg9.ok (hr r hr' e he),by simp,by simp,by simp,by simp,by simp,by simp,by simp,by show (-9223372036854775808:Int) ≤ 0;decide,by show (0:Int) ≤ 9223372036854775807;decide⟩,?_⟩
  have h1:=hK names hn
  have h3:=hN t ht
  have h2:=Zfp (f:=wRow) (g:=nRow) (c:=3001) rows (fun r hr'=>by have:=Zj9 (hr r hr');unfold wRow nRow;omega)
  simp only [nT,nSt,Zaf,List.length_nil]
  have e:ByteArray.size ⟨#[]⟩=0:=rfl
  omega
 | update t sets wh ht hc hw=>
  refine ⟨⟨by simp,fun s hs=>Zg9.ok (hc s hs).2,by simp,by simp,ok hw,by simp,by simp,by simp,by show (-9223372036854775808:Int) ≤ 0;decide,by show (0:Int) ≤ 9223372036854775807;decide⟩,?_⟩
  have h1:=Zj9 hw
  have h3:=hN t ht
  have h2:=Zfp (f:=wSet) (g:=nSet) (c:=3001) sets (fun r hr'=>by have:=nW_ok (hc r hr').2;have:=hN _ (hc r hr').1;unfold wSet nSet;omega)
  simp only [nT,nSt,Zaf,List.length_nil]
  have e:ByteArray.size ⟨#[]⟩=0:=rfl
  omega
 | delete t wh ht hw=>
  refine ⟨⟨by simp,by simp,by simp,by simp,ok hw,by simp,by simp,by simp,by show (-9223372036854775808:Int) ≤ 0;decide,by show (0:Int) ≤ 9223372036854775807;decide⟩,?_⟩
  have h1:=Zj9 hw
  exact ks60
 | select items src wh group having order limit hi hs hw hg hh ho h1 h2=>
  refine ⟨⟨by simp,by simp,fun s hs=>Zg9.ok (hi s hs).1,fun s hs' e he=>Zg9.ok ((hs s hs').2.2 e he),ok hw,ok hg,ok hh,fun s hs=>Zg9.ok (ho s hs),by show -9223372036854775808 ≤ limit;omega,by show limit ≤ 9223372036854775807;omega⟩,?_⟩
  have a1:=Zj9 hw
  have a2:=Zj9 hg
  have a3:=Zj9 hh
  have pos:∀ {e:PE},Zfm e→1 ≤ nE e:=fun {e} he=>by cases he <;> first | exact Nat.le_refl _ | (show 1 ≤ _ + 1;omega)
  have a4:=Zfp (f:=Zl0) (g:=Zob) (c:=5000) items (fun r hr'=>by have:=nW_ok (hi r hr').1;have:=hA _ (hi r hr').2;have:=pos (hi r hr').1;unfold Zl0 Zob;omega)
  have a5:=Zfp (f:=Ztm) (g:=nOrd) (c:=5000) order (fun r hr'=>by have:=nW_ok (ho r hr');have:=pos (ho r hr');unfold Ztm nOrd;omega)
  have a6:=Zfp (f:=wSrc) (g:=Zk0) (c:=5000) src (fun r hr'=>by have:=Zj9 (hs r hr').2.2;have:=hN _ (hs r hr').1;have:=hA _ (hs r hr').2.1;unfold wSrc Zk0;omega)
  simp only [nT,nSt,Zaf,List.length_nil]
  have e:ByteArray.size ⟨#[]⟩=0:=rfl
  omega
 | begin=>exact ⟨⟨by simp,by simp,by simp,by simp,by simp,by simp,by simp,by simp,by decide,by decide⟩,by show 0 ≤ _;omega⟩
 | commit=>exact ⟨⟨by simp,by simp,by simp,by simp,by simp,by simp,by simp,by simp,by decide,by decide⟩,by show 0 ≤ _;omega⟩
 | rollback=>exact ⟨⟨by simp,by simp,by simp,by simp,by simp,by simp,by simp,by simp,by decide,by decide⟩,by show 0 ≤ _;omega⟩
 | save n hn=>exact ⟨⟨by simp,by simp,by simp,by simp,by simp,by simp,by simp,by simp,by show (-9223372036854775808:Int) ≤ 0;decide,by show (0:Int) ≤ 9223372036854775807;decide⟩,by have:=hN n hn;show 0 + n.size + 0 + 0 + 0 + 0 + 0 + 0 + 0 + 0 + 0 + 0 + 0 ≤ _;omega⟩
 | back n hn=>exact ⟨⟨by simp,by simp,by simp,by simp,by simp,by simp,by simp,by simp,by show (-9223372036854775808:Int) ≤ 0;decide,by show (0:Int) ≤ 9223372036854775807;decide⟩,by have:=hN n hn;show 0 + n.size + 0 + 0 + 0 + 0 + 0 + 0 + 0 + 0 + 0 + 0 + 0 ≤ _;omega⟩
 | release n hn=>exact ⟨⟨by simp,by simp,by simp,by simp,by simp,by simp,by simp,by simp,by show (-9223372036854775808:Int) ≤ 0;decide,by show (0:Int) ≤ 9223372036854775807;decide⟩,by have:=hN n hn;show 0 + n.size + 0 + 0 + 0 + 0 + 0 + 0 + 0 + 0 + 0 + 0 + 0 ≤ _;omega⟩
theorem szF_cons (k:Nat) (y:PE) (l:List PE) (n:Nat):szF k (y :: l) n=if 9000 < n + szE k y then n + szE k y else szF k l (n + szE k y):=rfl
theorem Znp (k:Nat):∀ (l:List PE) (n:Nat),szF k l n ≤ 9000→szF k l n=n + Zaf (szE k) l
 | [],n,_=>by show n=n + 0;omega
 | y :: l,n,h=>by
  rw [szF_cons] at h ⊢
  by_cases hb:9000 < n + szE k y
  ·rw [if_pos hb] at h;omega
  ·rw [if_neg hb] at h ⊢
   rw [Znp k l _ h]
   show _=n + (szE k y + Zaf (szE k) l)
   omega
theorem Ztv {k:Nat} {x:PE} (h:szE (k + 1) x ≤ 9000):szE (k + 1) x=sz0 x + Zaf (szE k) x.kids:=by
 rw [Zl8] at h ⊢
 exact Znp k x.kids (sz0 x) h
inductive Ziy:PE→Prop
 | mk (x:PE):-9223372036854775808 ≤ x.v.n→x.v.n ≤ 9223372036854775807→(∀ y,y ∈ x.kids→Ziy y)→Ziy x
theorem Ziy.open {x:PE} (h:Ziy x):-9223372036854775808 ≤ x.v.n∧x.v.n ≤ 9223372036854775807∧∀ y,y ∈ x.kids→Ziy y:=by cases h with | mk _ a b c=>exact ⟨a,b,c⟩
theorem sz_fit:∀ (k:Nat) (x:PE),szE k x ≤ 4000→Ziy x→Zg9 x∧nW x ≤ szE k x
 | 0,x,h,_=>absurd h (by show ¬ 9000 ≤ 4000;decide)
 | k + 1,x,h,hi=>by
  have e:=Ztv (k:=k) (x:=x) kW
  obtain ⟨i1,i2,i3⟩:=hi.open
  have hm:∀ y ∈ x.kids,szE k y ≤ Zaf (szE k) x.kids:=fun y hy=>Zho (szE k) x.kids y hy
  have hk:∀ y ∈ x.kids,Zg9 y∧nW y ≤ szE k y:=fun y hy=>sz_fit k y (by have:=hm y hy;omega) (i3 y hy)
  have h0:sz0 x=1 + (x.v.s.size + x.m.size + x.t.size):=by
   unfold sz0 at e ⊢
   have:1 + min (x.v.s.size + x.m.size + x.t.size) 4096 ≤ 4000:=kW
   omega
  refine ⟨.mk x ⟨i1,i2,by omega⟩ fun y hy=>(hk y hy).1,?_⟩
  rw [e,h0]
  obtain ⟨op,v,t,m,n,kids⟩:=x
  match kids,hk with
  | [],_=>show 1 + v.s.size + t.size + m.size ≤ 1 + (v.s.size + m.size + t.size) + 0;omega
  | [a],hk=>
   have h1:=(hk a (by simp [PE.kids])).2
   show 1 + v.s.size + t.size + m.size + nW a ≤ 1 + (v.s.size + m.size + t.size) + (szE k a + 0)
   omega
  | [a,b],hk=>
   have h1:=(hk a (by simp [PE.kids])).2
   have h2:=(hk b (by simp [PE.kids])).2
   show 1 + v.s.size + t.size + m.size + nW a + nW b ≤ 1 + (v.s.size + m.size + t.size) + (szE k a + (szE k b + 0))
   omega
  | a :: b :: c :: l,_=>
   show 1 + v.s.size + t.size + m.size ≤ 1 + (v.s.size + m.size + t.size) + Zaf (szE k) (a :: b :: c :: l)
   omega
theorem grE_cons (K:Nat) (e:PE) (l:List PE) (n:Nat):grE K (e :: l) n=if 3000 < n + szE K e then none else grE K l (n + szE K e):=rfl
theorem Zoj (K:Nat):∀ (l:List PE) (n m:Nat),n ≤ 3000→grE K l n=some m→m=n + Zaf (szE K) l∧m ≤ 3000
 | [],n,m,hn,h=>by cases h;exact ⟨by show n=n + 0;omega,hn⟩
 | e :: l,n,m,hn,h=>by
  rw [grE_cons] at h
  by_cases hb:3000 < n + szE K e
  ·rw [if_pos hb] at h;cases h
  ·rw [if_neg hb] at h
   obtain ⟨h1,h2⟩:=Zoj K l _ m kW h
   exact ⟨by rw [h1];show _=n + (szE K e + Zaf (szE K) l);omega,h2⟩
theorem Zvp {K:Nat} {x:PSt} (h:Zgt K x=false) (hi:∀ e ∈ fE x,Ziy e):Zaf nW (fE x) ≤ 3000∧∀ e ∈ fE x,Zg9 e:=by
 unfold Zgt at h
 cases hg:grE K (fE x) 0 with
 | none=>rw [hg] at h;cases h
 | some m=>
  obtain ⟨h1,h2⟩:=Zoj K (fE x) 0 m kW hg
  have hk:∀ e ∈ fE x,Zg9 e∧nW e ≤ szE K e:=fun e he=>sz_fit K e (by have:=Zho (szE K) (fE x) e he;omega) (hi e he)
  refine ⟨?_,fun e he=>(hk e he).1⟩
  have hle:∀ l:List PE,(∀ e ∈ l,nW e ≤ szE K e)→Zaf nW l ≤ Zaf (szE K) l:=fun l=>by
   induction l with
   | nil=>intro _;exact Nat.le_refl _
   | cons e l ih=>
    intro h
    have a:=h e kY
    have b:=ih (fun y hy=>h y Zrd)
    show nW e + Zaf nW l ≤ szE K e + Zaf (szE K) l
    omega
  have:=hle (fE x) fun e he=>(hk e he).2
  omega
open Go.ChangeShapes Go.WideShapes Go.RowKit Go.Proofs.YtmdogmpcmkfjpaaGreatDoor.By
section
variable {H:Type} {enc:TypeId × Value→H} {P:Program} {w:World} {base:Nat} {spare:Nat→Bool} {held:Bool}
abbrev bk (d:DataW H):Nat:=Rows.uptoBulk d
def Zu2 (P:Program) (t:TypeId):Nat:=match P.underlying t with
 | some (.struct fs)=>fs.size
 | _=>0
theorem fields_of {t:TypeId} {N fuel:Nat} {cs:List Value} {x:DataW H × List MemPlace} (h:DataW.trod enc P w base spare held fuel t cs=some x) (hN:Zu2 P t=N) (h0:0 < N) :
 cs.length=P.cellsOf t∧∃ (xs:List (DataW H × List MemPlace)) (n:Nat),n < fuel∧xs.length=N∧bk x.1=Rows.uptoBulkAll (xs.map (·.1)) + 1 ∧
  ∀ (i:Nat) (ty:TypeId) (off:Nat),Zdt P t i=some (ty,off)→∃ y,xs[i]? = some y∧DataW.trod enc P w base spare held n ty ((cs.drop off).take (P.cellsOf ty))=some y∧(Lim P t x.1→Lim P ty y.1):=by
 unfold Zu2 at hN
 split at hN
 ·rename_i fs ht
  obtain ⟨xs,n,rfl,hxx,hl,hx,hall⟩:=DataW.trod_struct ht h
  refine ⟨hl,xs,n,Nat.lt_succ_self n,by omega,by rw [hxx];rfl,fun i ty off hf=>?_⟩
  unfold Zdt at hf
  rw [ht] at hf
  simp only at hf
  cases hi:fs[i]? with
  | none=>rw [hi] at hf;simp at hf
  | some f=>
   rw [hi] at hf
   simp only [Option.map_some,Option.some.injEq,Prod.mk.injEq] at hf
   obtain ⟨rfl,rfl⟩:=hf
   have:=hall i f hi
   have hlt:i < fs.size:=(Array.getElem?_eq_some_iff.1 hi).1
   rw [List.getElem?_eq_getElem kW] at this
   refine ⟨xs[i]'kW,by simp [show i < xs.length by omega],this,fun hL m hm=>hL m ?_⟩
   exact ks53
 omega
theorem bulk_str {t:TypeId} {fuel:Nat} {c:Value} {x:DataW H × List MemPlace} (ht:P.underlying t=some .string) (h:DataW.trod enc P w base spare held fuel t [c]=some x) (hL:Lim P t x.1):∃ s:ByteArray,c = .string s∧s.size ≤ 140737488351232∧s.size + 1=bk x.1:=by
 obtain ⟨s,cx,hxs,hs⟩:=DataW.trod_string ht h
 obtain ⟨s',hc,hs'⟩:=Zqm ht h hL
 subst hc
 have e:s'=s:=by simpa using cx
 subst e
 refine ⟨s',rfl,hs',?_⟩
 rw [hxs]
 show _=s'.data.toList.length + 1
 rw [Array.length_toList,ByteArray.size_data]
theorem sum_le {α:Type} {m:α→Nat} : ∀ (l:List α) (ds:List (DataW H)),l.length=ds.length→(∀ (i:Nat) (a:α) (d:DataW H),l[i]? = some a→ds[i]? = some d→m a ≤ bk d)→(l.map m).sum ≤ Rows.uptoBulkAll ds
 | [],_,_,_=>Nat.zero_le _
 | a :: l,[],h,_=>by simp at h
 | a :: l,d :: ds,h,hh=>by
  have h1:=hh 0 a d rfl rfl
  have h2:=sum_le l ds kb65 fun i b e hb he=>hh (i + 1) b e (by simpa using hb) (by simpa using he)
  show m a + (l.map m).sum ≤ Rows.uptoBulk d + Rows.uptoBulkAll ds
  exact Nat.add_le_add h1 h2
theorem Zcu {α:Type} {t e:TypeId} {size fuel:Nat} (bytes:Nat) (R:List Value→α→Prop) (m:α→Nat) (hc:∀ cs a,R cs a→cs.length=size) (hpos:0 < size) (ht:P.underlying t=some (.slice e)) (hs:P.cellsOf e=size) (hby:P.bytesOf e=bytes)
 (one:∀ n cs x,n < fuel→DataW.trod enc P w base spare held n e cs=some x→Lim P e x.1→∃ a,R cs a∧m a ≤ bk x.1)
 {cs:List Value} {x:DataW H × List MemPlace} (h:DataW.trod enc P w base spare held fuel t cs=some x) (hL:Lim P t x.1) :
 ∃ (v:Value) (l:List α),cs = [v]∧SlR size (fun _=>R) w v l∧(l.map m).sum + 1 ≤ bk x.1∧l.length * bytes ≤ 140737488351232:=by
 rcases DataW.trod_slice ht h with ⟨rfl,rfl⟩ | ⟨a,len,cap,elems,rest,n,rfl,rfl,hx,hb,hl,hm,hlen,hel,_,_⟩
 ·exact ⟨_,[],rfl,SlR.nil _ _ _,Nat.le_refl 1,by simp⟩
 have hall:∀ i,i < len→∃ y:α × List Value,R y.2 y.1∧(∀ d,elems[i]? = some d→m y.1 ≤ bk d.1)∧w.cells? base (a.add (i * size)) size=some y.2:=by
  intro i hi
  have:=hel i hi
  rw [List.getElem?_eq_getElem kW,hs] at this
  obtain ⟨cs',h1,h2⟩:=Option.bind_eq_some_iff.1 this
  obtain ⟨y,hy,hym⟩:=one n _ _ (Nat.lt_succ_self n) h2 (fun m hm=>hL m (by
   rw [hx]
   simp only [DataW.weights,ht,List.mem_cons,List.mem_append]
   exact .inr (.inl (Zjg (List.mem_map.2 ⟨_,List.getElem_mem _,rfl⟩) m hm))))
  exact ⟨(y,cs'),hy,fun d hd=>by rw [List.getElem?_eq_getElem kW] at hd;cases hd;exact hym,h1⟩
 have hbk:bk x.1=Rows.uptoBulkAll (elems.map (·.1)) + Rows.uptoBulkAll (rest.map (·.1)) + 1:=by rw [hx];rfl
 rcases Nat.eq_zero_or_pos len with h0 | hpl
 ·subst h0
  exact ⟨_,[],rfl,⟨[],⟨_,cap,rfl,Nat.zero_le _,fun i x h=>by simp at h⟩,rfl,fun i c x h=>by simp at h⟩,by show 0 + 1 ≤ _;omega,by simp⟩
 obtain ⟨y0,_,_⟩:=hall 0 hpl
 have:Inhabited (α × List Value):=⟨y0⟩
 obtain ⟨f,hf⟩:=Go.Deep.choose_lt hall
 obtain ⟨b,o,spot⟩:=a
 have hspot:spot=none:=by
  have h1:=(World.cells?_some (hf 0 hpl).2.2).2.2 0 hpos
  rw [List.getElem?_eq_getElem (by rw [hc _ _ (hf 0 hpl).1];exact hpos)] at h1
  simpa [Addr.add] using World.cell?_spot h1
 subst hspot
 have hlen':len * bytes ≤ 140737488351232:=by
  have:=hL ((elems.length + rest.length) * P.bytesOf e) (by rw [hx];simp [DataW.weights,ht])
  rw [hby] at this
  exact Nat.le_trans (Nat.mul_le_mul_right _ kW) this
 refine ⟨_,(List.range len).map fun i=>(f i).1,rfl,⟨(List.range len).map fun i=>(f i).2,⟨_,cap,by simp,by simpa using hl,fun i x hx=>⟨b,o,rfl,fun j u hu=>?_⟩⟩,by simp,fun i c x hci hxi=>?_⟩,?_,by simpa using hlen'⟩
 ·have hi:i < len:=by have:=(List.getElem?_eq_some_iff.1 hx).1;simpa using this
  have hx':x=(f i).2:=by simpa [hi] using hx.symm
  subst hx'
  have hj:j < size:=by have:=(List.getElem?_eq_some_iff.1 hu).1;rw [hc _ _ (hf i hi).1] at this;exact this
  have h1:=(World.cells?_some (hf i hi).2.2).2.2 j hj
  rw [Addr.add_lit,Addr.add_lit] at h1
  rw [h1,hu]
 ·have hi:i < len:=by have:=(List.getElem?_eq_some_iff.1 hci).1;simpa using this
  have hx':c=(f i).2:=by simpa [hi] using hci.symm
  have hy':x=(f i).1:=by simpa [hi] using hxi.symm
  subst hx' hy'
  exact ⟨hc _ _ (hf i hi).1,(hf i hi).1⟩
 have h1:(((List.range len).map fun i=>(f i).1).map m).sum ≤ Rows.uptoBulkAll (elems.map (·.1)):=sum_le _ _ (by simp [hlen]) fun i a d ha hd=>by
  have hi:i < len:=by have:=(List.getElem?_eq_some_iff.1 ha).1;simpa using this
  have ha':a=(f i).1:=by simpa [hi] using ha.symm
  subst ha'
  rw [List.getElem?_map] at hd
  cases he:elems[i]? with
  | none=>rw [he] at hd;cases hd
  | some d'=>
   rw [he] at hd
   cases hd
   exact (hf i hi).2.1 d' he
 omega
theorem Zhr {α:Type} {size:Nat} {R:List Value→α→Prop} {S:World→List Value→α→Prop} {p:α→Prop} {v:Value} {l:List α} (h:SlR size (fun _=>R) w v l) (hS:∀ c a,R c a→S w c a∧p a):SlR size S w v l∧∀ a ∈ l,p a:=by
 obtain ⟨cs,h1,h2,h3⟩:=h
 refine ⟨⟨cs,h1,h2,fun i c x hc hx=>⟨(h3 i c x hc hx).1,(hS c x (h3 i c x hc hx).2).1⟩⟩,fun a ha=>?_⟩
 obtain ⟨i,hi⟩:=List.getElem?_of_mem ha
 have hil:i < cs.length:=by rw [h2];exact (List.getElem?_eq_some_iff.1 hi).1
 exact (hS _ _ (h3 i cs[i] a (by simp [hil]) hi).2).2
def Zce (e:PE):Prop:=Zwt e∧Ziy e
theorem open_PE {t:TypeId} (T:ExType P t):∀ (fuel:Nat) (cs:List Value) (x:DataW H × List MemPlace),DataW.trod enc P w base spare held fuel t cs=some x→Lim P t x.1→∃ e:PE,ExR w cs e∧Zce e:=by
 intro fuel
 induction fuel using Nat.strongRecOn with
 | _ fuel ih=>
  intro cs x h hL
  obtain ⟨t0,a0,b0,u0⟩:=T.f0
  obtain ⟨t1,a1,V1⟩:=T.f1
  obtain ⟨t2,a2,b2,u2⟩:=T.f2
  obtain ⟨t3,a3,b3,u3⟩:=T.f3
  obtain ⟨t4,a4,b4,u4⟩:=T.f4
  obtain ⟨t5,a5,b5,u5⟩:=T.f5
  obtain ⟨hl,_,_,_,h0,_⟩:=Zel h a0 b0
  obtain ⟨_,_,_,_,h1,L1⟩:=Zel h a1 V1.size
  obtain ⟨_,_,_,_,h2,L2⟩:=Zel h a2 b2
  obtain ⟨_,_,_,_,h3,L3⟩:=Zel h a3 b3
  obtain ⟨_,_,_,_,h4,_⟩:=Zel h a4 b4
  obtain ⟨_,n5,_,l5,h5,L5⟩:=Zel h a5 b5
  rw [T.size] at hl
  obtain ⟨c0,c1,c2,c3,c4,c5,c6,c7,rfl⟩:=list8 hl
  obtain ⟨op,rfl,hop⟩:=u8_of u0 h0
  obtain ⟨v,hv,hvo⟩:=open_V V1 h1 (L1 hL)
  simp [V.cells] at hv
  obtain ⟨rfl,rfl,rfl⟩:=hv
  obtain ⟨tb,rfl,htb⟩:=Zqm u2 h2 (L2 hL)
  obtain ⟨nm,rfl,hnm⟩:=Zqm u3 h3 (L3 hL)
  obtain ⟨n,rfl,hn1,hn2⟩:=i64_of u4 h4
  obtain ⟨kv,kids,hkv,hat,_,hle⟩:=Zcu (size:=8) 104 (fun cs e=>ExR w cs e∧Zce e) (fun _=>0) (fun cs a h=>(Zc9 h.1).1) kW u5 T.size T.bytes (fun m cs x hm hx hl=>by
   obtain ⟨e,he⟩:=ih m kW cs x hx hl
   exact ⟨e,he,Nat.zero_le _⟩) h5 (L5 hL)
  simp at hkv
  subst hkv
  obtain ⟨hs,hg⟩:=Zhr (S:=ExR) (p:=Zce) hat fun c a h=>h
  refine ⟨.mk op v tb nm n kids,Zby.2 ⟨c7,rfl,hs⟩,.mk _ hvo.2.2 htb hnm (by show kids.length ≤ _;omega) fun y hy=>(hg y hy).1,.mk _ hvo.2.1.1 hvo.2.1.2 fun y hy=>(hg y hy).2⟩
end
theorem exT:ExType Tryz.prog 48:=
 ⟨by kernel_rfl,by kernel_rfl,⟨5,by kernel_rfl,by kernel_rfl,by kernel_rfl⟩,⟨46,by kernel_rfl,vT⟩,⟨9,by kernel_rfl,by kernel_rfl,by kernel_rfl⟩,⟨9,by kernel_rfl,by kernel_rfl,by kernel_rfl⟩,
  ⟨3,by kernel_rfl,by kernel_rfl,by kernel_rfl⟩,⟨28,by kernel_rfl,by kernel_rfl,by kernel_rfl⟩⟩
open Go.ChangeShapes Go.WideShapes Go.RowKit Go.Proofs.YtmdogmpcmkfjpaaGreatDoor.By
section
variable {H:Type} {enc:TypeId × Value→H} {w:World} {base:Nat} {spare:Nat→Bool} {held:Bool} {fuel:Nat} {cs:List Value} {x:DataW H × List MemPlace}
theorem Ziw (h:DataW.trod enc Tryz.prog w base spare held fuel 9 cs=some x) (hL:Lim Tryz.prog 9 x.1):∃ s:ByteArray,cs = [.string s]∧s.size ≤ 140737488351232∧s.size + 1=bk x.1:=by
 obtain ⟨s,rfl,_⟩:=DataW.trod_string kR h
 obtain ⟨s',hc,h1,h2⟩:=bulk_str (P:=Tryz.prog) kR h hL
 exact ⟨s',by rw [hc],h1,h2⟩
theorem op_ex (h:DataW.trod enc Tryz.prog w base spare held fuel 48 cs=some x) (hL:Lim Tryz.prog 48 x.1):∃ e:PE,ExR w cs e∧Zce e:=open_PE exT fuel cs x h hL
theorem Ztw {α:Type} : ∀ l:List α,(l.map fun _=>1).sum=l.length
 | []=>rfl
 | a :: l=>by rw [List.map_cons,List.sum_cons,Ztw l,List.length_cons];omega
theorem Zn7 (h:DataW.trod enc Tryz.prog w base spare held fuel 28 cs=some x) (hL:Lim Tryz.prog 28 x.1):∃ (v:Value) (l:List PE),cs = [v]∧Zbq w v l∧(∀ e ∈ l,Zce e)∧l.length + 1 ≤ bk x.1∧l.length ≤ 140737488351232:=by
 obtain ⟨v,l,rfl,hs,hm,hb⟩:=Zcu (P:=Tryz.prog) (e:=48) (size:=8) 104 (fun cs e=>ExR w cs e∧Zce e) (fun _=>1) (fun cs a h=>(Zc9 h.1).1) kW kR kR kR (fun n cs y _ hy hl=>by
  obtain ⟨e,he⟩:=op_ex hy hl
  obtain ⟨_,xs,_,_,_,hbk,_⟩:=fields_of hy (N:=6) kR kW
  exact ⟨e,he,by rw [hbk];omega⟩) h hL
 obtain ⟨h1,h2⟩:=Zhr (S:=ExR) (p:=Zce) hs fun c a h=>h
 refine ⟨v,l,rfl,h1,h2,?_,by omega⟩
 have e:=Ztw l
 omega
theorem one_cell {c:Value} {n:Nat} (h:cs.length=n + 1) (h1:(cs.drop 0).take 1 = [c]):cs=c :: cs.drop 1:=by
 match cs,h with
 | a :: l,_=>simp at h1;rw [h1];rfl
theorem op_set (h:DataW.trod enc Tryz.prog w base spare held fuel 94 cs=some x) (hL:Lim Tryz.prog 94 x.1):∃ s:ByteArray × PE,Zm3 w cs s∧Zce s.2∧s.1.size ≤ 140737488351232∧s.1.size + 2 ≤ bk x.1:=by
 obtain ⟨hl,xs,n,_,hx,hbk,hall⟩:=fields_of h (N:=2) kR kW
 rw [show Tryz.prog.cellsOf 94=9 by kernel_rfl] at hl
 obtain ⟨y0,e0,h0,L0⟩:=hall 0 9 0 kR
 rw [show Tryz.prog.cellsOf 9=1 by kernel_rfl] at h0
 obtain ⟨s0,d0,z0,m0⟩:=Ziw h0 (L0 hL)
 obtain ⟨y1,e1,h1,L1⟩:=hall 1 48 1 kR
 rw [show Tryz.prog.cellsOf 48=8 by kernel_rfl] at h1
 obtain ⟨s1,d1,z1⟩:=op_ex h1 (L1 hL)
 obtain ⟨a0,a1,rfl⟩:∃ a0 a1,xs = [a0,a1]:=by
  match xs,hx with
  | [a0,a1],_=>exact ⟨a0,a1,rfl⟩
 cases (show some a0=some y0 from e0)
 cases (show some a1=some y1 from e1)
 replace hbk:bk x.1=bk y0.1 + (bk y1.1 + 0) + 1:=hbk
 refine ⟨(s0,s1),⟨(cs.drop 1).take 8,?_,d1⟩,z1,z0,by show s0.size + 2 ≤ _;omega⟩
 rw [List.take_of_length_le kb46]
 exact one_cell hl d0
theorem op_item (h:DataW.trod enc Tryz.prog w base spare held fuel 106 cs=some x) (hL:Lim Tryz.prog 106 x.1):∃ s:PE × ByteArray,Zfl w cs s∧Zce s.1∧s.2.size ≤ 140737488351232∧s.2.size + 2 ≤ bk x.1:=by
 obtain ⟨hl,xs,n,_,hx,hbk,hall⟩:=fields_of h (N:=2) kR kW
 rw [show Tryz.prog.cellsOf 106=9 by kernel_rfl] at hl
 obtain ⟨y0,e0,h0,L0⟩:=hall 0 48 0 kR
 rw [show Tryz.prog.cellsOf 48=8 by kernel_rfl] at h0
 obtain ⟨s0,d0,z0⟩:=op_ex h0 (L0 hL)
 obtain ⟨y1,e1,h1,L1⟩:=hall 1 9 8 kR
 rw [show Tryz.prog.cellsOf 9=1 by kernel_rfl] at h1
 obtain ⟨s1,d1,z1,m1⟩:=Ziw h1 (L1 hL)
 obtain ⟨a0,a1,rfl⟩:∃ a0 a1,xs = [a0,a1]:=by
  match xs,hx with
  | [a0,a1],_=>exact ⟨a0,a1,rfl⟩
 cases (show some a0=some y0 from e0)
 cases (show some a1=some y1 from e1)
 replace hbk:bk x.1=bk y0.1 + (bk y1.1 + 0) + 1:=hbk
 refine ⟨(s0,s1),⟨(cs.drop 0).take 8,?_,d0⟩,z0,z1,by show s1.size + 2 ≤ _;omega⟩
 have h8:(cs.drop 8).take 1=cs.drop 8:=List.take_of_length_le kb46
 rw [h8] at d1
 show cs=_ ++ [Value.string s1]
 rw [← d1,List.drop_zero,List.take_append_drop]
theorem op_order (h:DataW.trod enc Tryz.prog w base spare held fuel 114 cs=some x) (hL:Lim Tryz.prog 114 x.1):∃ s:PE × Bool,Zdl w cs s∧Zce s.1∧1 ≤ bk x.1:=by
 obtain ⟨hl,xs,n,_,hx,hbk,hall⟩:=fields_of h (N:=2) kR kW
 rw [show Tryz.prog.cellsOf 114=9 by kernel_rfl] at hl
 obtain ⟨y0,e0,h0,L0⟩:=hall 0 48 0 kR
 rw [show Tryz.prog.cellsOf 48=8 by kernel_rfl] at h0
 obtain ⟨s0,d0,z0⟩:=op_ex h0 (L0 hL)
 obtain ⟨y1,e1,h1,L1⟩:=hall 1 4 8 kR
 rw [show Tryz.prog.cellsOf 4=1 by kernel_rfl] at h1
 obtain ⟨s1,d1,_⟩:=DataW.trod_bool kR h1
 obtain ⟨a0,a1,rfl⟩:∃ a0 a1,xs = [a0,a1]:=by
  match xs,hx with
  | [a0,a1],_=>exact ⟨a0,a1,rfl⟩
 cases (show some a0=some y0 from e0)
 cases (show some a1=some y1 from e1)
 replace hbk:bk x.1=bk y0.1 + (bk y1.1 + 0) + 1:=hbk
 refine ⟨(s0,s1),⟨(cs.drop 0).take 8,?_,d0⟩,z0,by omega⟩
 have h8:(cs.drop 8).take 1=cs.drop 8:=List.take_of_length_le kb46
 rw [h8] at d1
 show cs=_ ++ [Value.bool s1]
 rw [← d1,List.drop_zero,List.take_append_drop]
theorem op_col (h:DataW.trod enc Tryz.prog w base spare held fuel 89 cs=some x) (hL:Lim Tryz.prog 89 x.1):∃ c:Zeu,Zs7 w cs c∧c.ty < 256∧c.name.size ≤ 140737488351232∧c.name.size + 2 ≤ bk x.1:=by
 obtain ⟨hl,xs,n,_,hx,hbk,hall⟩:=fields_of h (N:=3) kR kW
 rw [show Tryz.prog.cellsOf 89=3 by kernel_rfl] at hl
 obtain ⟨y0,e0,h0,L0⟩:=hall 0 9 0 kR
 rw [show Tryz.prog.cellsOf 9=1 by kernel_rfl] at h0
 obtain ⟨s0,d0,z0,m0⟩:=Ziw h0 (L0 hL)
 obtain ⟨y1,e1,h1,L1⟩:=hall 1 5 1 kR
 rw [show Tryz.prog.cellsOf 5=1 by kernel_rfl] at h1
 obtain ⟨i1,cx1,_,wn1⟩:=DataW.trod_int kR h1
 obtain ⟨lo1,hi1⟩:=bounds_u8 wn1
 obtain ⟨s1,rfl⟩:=Int.eq_ofNat_of_zero_le lo1
 obtain ⟨y2,e2,h2,L2⟩:=hall 2 4 2 kR
 rw [show Tryz.prog.cellsOf 4=1 by kernel_rfl] at h2
 obtain ⟨s2,d2,_⟩:=DataW.trod_bool kR h2
 obtain ⟨a0,a1,a2,rfl⟩:∃ a0 a1 a2,xs = [a0,a1,a2]:=by
  match xs,hx with
  | [a0,a1,a2],_=>exact ⟨a0,a1,a2,rfl⟩
 cases (show some a0=some y0 from e0)
 cases (show some a1=some y1 from e1)
 cases (show some a2=some y2 from e2)
 replace hbk:bk x.1=bk y0.1 + (bk y1.1 + (bk y2.1 + 0)) + 1:=hbk
 obtain ⟨c0,c1,c2,rfl⟩:=list3 hl
 simp at d0 cx1 d2
 refine ⟨⟨s0,s1,s2⟩,?_,by show s1 < 256;omega,z0,by show s0.size + 2 ≤ _;omega⟩
 show [c0,c1,c2]=_
 rw [d0,cx1,d2]
theorem op_src (h:DataW.trod enc Tryz.prog w base spare held fuel 110 cs=some x) (hL:Lim Tryz.prog 110 x.1):∃ s:Zec,Zo2 w cs s∧(∀ e ∈ s.on,Zce e)∧s.on.length ≤ 140737488351232∧s.table.size ≤ 140737488351232∧s.as.size ≤ 140737488351232∧s.on.length + s.table.size + s.as.size + 4 ≤ bk x.1:=by
 obtain ⟨hl,xs,n,_,hx,hbk,hall⟩:=fields_of h (N:=3) kR kW
 rw [show Tryz.prog.cellsOf 110=3 by kernel_rfl] at hl
 obtain ⟨y0,e0,h0,L0⟩:=hall 0 9 0 kR
 rw [show Tryz.prog.cellsOf 9=1 by kernel_rfl] at h0
 obtain ⟨s0,d0,z0,m0⟩:=Ziw h0 (L0 hL)
 obtain ⟨y1,e1,h1,L1⟩:=hall 1 9 1 kR
 rw [show Tryz.prog.cellsOf 9=1 by kernel_rfl] at h1
 obtain ⟨s1,d1,z1,m1⟩:=Ziw h1 (L1 hL)
 obtain ⟨y2,e2,h2,L2⟩:=hall 2 28 2 kR
 rw [show Tryz.prog.cellsOf 28=1 by kernel_rfl] at h2
 obtain ⟨v2,s2,d2,r2,z2,m2,k2⟩:=Zn7 h2 (L2 hL)
 obtain ⟨a0,a1,a2,rfl⟩:∃ a0 a1 a2,xs = [a0,a1,a2]:=by
  match xs,hx with
  | [a0,a1,a2],_=>exact ⟨a0,a1,a2,rfl⟩
 cases (show some a0=some y0 from e0)
 cases (show some a1=some y1 from e1)
 cases (show some a2=some y2 from e2)
 replace hbk:bk x.1=bk y0.1 + (bk y1.1 + (bk y2.1 + 0)) + 1:=hbk
 obtain ⟨c0,c1,c2,rfl⟩:=list3 hl
 simp at d0 d1 d2
 refine ⟨⟨s0,s1,s2⟩,⟨v2,?_,r2⟩,z2,k2,z0,z1,by show s2.length + s0.size + s1.size + 4 ≤ _;omega⟩
 rw [d0,d1,d2]
end
end Go.Proofs.YtmdogmpcmkfjpaaGreatDoor.Dt
