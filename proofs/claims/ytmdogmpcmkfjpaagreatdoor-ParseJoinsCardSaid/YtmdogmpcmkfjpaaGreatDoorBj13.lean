import Derived.Lib.FrozenHead2
import Derived.Test.YtmdogmpcmkfjpaaGreatDoorBj11
import Derived.Test.YtmdogmpcmkfjpaaGreatDoorBj12
import Derived.Test.YtmdogmpcmkfjpaaGreatDoorBj10
/- Part of the proof (merged). -/
namespace Go.Proofs.YtmdogmpcmkfjpaaGreatDoor.Dt
open Go.RowKit Go.Proofs.YtmdogmpcmkfjpaaGreatDoor.By
structure RD (r:Nat) (s:ByteArray) (k:Nat) (w:World):Prop where
 c0:w.cell? ⟨r,0,none⟩=some (.string s)
 c1:w.cell? ⟨r,1,none⟩=some (.int .i64 (k:Int))
 f1:w.frozen? ⟨r,1,none⟩=false
theorem RD.lt {r:Nat} {s:ByteArray} {k:Nat} {w:World} (h:RD r s k w):r < w.heap.size:=cell_lt h.c0
theorem RD.later {r:Nat} {s:ByteArray} {k:Nat} {w w':World} (h:RD r s k w) (hb:Below w.heap.size w w'):RD r s k w':=
 ⟨(hb.cell h.lt).trans h.c0,(hb.cell h.lt).trans h.c1,(hb.frozen h.lt).trans h.f1⟩
theorem RD.set {r:Nat} {s:ByteArray} {k:Nat} {w:World} (h:RD r s k w) (m:Nat):RD r s m (w.setCell ⟨r,1,none⟩ (.int .i64 (m:Int))):=by
 refine ⟨(set_else3 w r 1 0 _ (by decide)).trans h.c0,set_same3 w ⟨r,1,none⟩ _ _ h.c1,?_⟩
 have:=h.f1
 simpa using this
theorem below_grown {r:Nat} {w w':World} (h:Below w.heap.size w w'):w.grownBy w' (some r):=⟨h.os,h.tape,h.output,h.size,fun k hk _=>h.block k hk⟩
theorem grown_below {B r:Nat} {w0 w w':World} (h:Below B w0 w) (hB:B ≤ r) (g:w.grownBy w' (some r)) (hs:B ≤ w.heap.size):Below B w0 w':=
 ⟨g.os.trans h.os,g.tape.trans h.tape,g.output.trans h.output,Nat.le_trans h.size g.size,fun k hk=>(g.block k (by omega) (fun e=>by cases e;omega)).trans (h.block k hk)⟩
theorem bytes_get (s:ByteArray) (k:Nat) (h:k < s.size):topB (s.data.toList.drop k)=s[k]:=by
 have:s.data.toList.drop k=s[k] :: s.data.toList.drop (k + 1):=by
  rw [List.drop_eq_getElem_cons (by simpa using h)];rfl
 rw [this];rfl
theorem bytes_end (s:ByteArray) (k:Nat) (h:s.size ≤ k):topB (s.data.toList.drop k)=0:=by
 rw [List.drop_eq_nil_iff.2 (by rw [bytes_list];exact h)];rfl
set_option maxRecDepth 100000 in
theorem peek0 (r:Nat) (s:ByteArray) (k:Nat) (w:World) (h:RD r s k w) (hs:s.size ≤ 1000000) (hk:k ≤ s.size) :
 Calls Tryz.prog 111 #[.pointer (some ⟨r,0,none⟩),.int .i64 0] w fun e w'=>e = .returned (byte (topB (s.data.toList.drop (k))))∧Below w.heap.size w w':=by
 obtain ⟨c0,c1,_⟩:=h
 have e1:wrap64 (k:Int)=(k:Int):=by unfold wrap64;omega
 by_cases hlt:k < s.size
 ·have a1:(k:Int) < (s.size:Int):=by omega
  have a3:(0:Int) ≤ (k:Int):=by omega
  have hb:=bytes_get s (k) hlt
  rw [hb]
  clear hb hs hk
  go_enter Tryz.func111,Tryz.ntmps111
  go_upto_region 1 with fail
  go_quiet (fail)
  go_wp2_with fail
  go_quiet (fail)
  go_wp2_with fail
  go_ret
  exact ⟨rfl,drewN_below (drewN_below (Below.refl _ _) _) _⟩
 ·have a1:¬ (k:Int) < (s.size:Int):=by omega
  have a2:(s.size:Int) ≤ (k:Int):=by omega
  have hb:=bytes_end s (k) (by omega)
  rw [hb]
  clear hb hlt hs hk
  go_enter Tryz.func111,Tryz.ntmps111
  go_upto_region 1 with fail
  go_quiet (fail)
  go_wp2_with fail
  go_ret
  exact ⟨rfl,drewN_below (Below.refl _ _) _⟩
set_option maxRecDepth 100000 in
theorem peek1 (r:Nat) (s:ByteArray) (k:Nat) (w:World) (h:RD r s k w) (hs:s.size ≤ 1000000) (hk:k ≤ s.size) :
 Calls Tryz.prog 111 #[.pointer (some ⟨r,0,none⟩),.int .i64 1] w fun e w'=>e = .returned (byte (topB (s.data.toList.drop (k + 1))))∧Below w.heap.size w w':=by
 obtain ⟨c0,c1,_⟩:=h
 have e1:IntKind.i64.wrap ((k:Int) + 1)=(k:Int) + 1:=by rw [IntKind.wrap_i64];omega
 by_cases hlt:k + 1 < s.size
 ·have a1:(k:Int) + 1 < (s.size:Int):=by omega
  have a3:(0:Int) ≤ (k:Int) + 1:=by omega
  have hb:=bytes_get s (k + 1) hlt
  rw [hb]
  clear hb hs hk
  go_enter Tryz.func111,Tryz.ntmps111
  go_upto_region 1 with fail
  go_quiet (fail)
  go_wp2_with fail
  go_quiet (fail)
  go_wp2_with fail
  go_ret
  exact ⟨rfl,drewN_below (drewN_below (Below.refl _ _) _) _⟩
 ·have a1:¬ (k:Int) + 1 < (s.size:Int):=by omega
  have a2:(s.size:Int) ≤ (k:Int) + 1:=by omega
  have hb:=bytes_end s (k + 1) (by omega)
  rw [hb]
  clear hb hlt hs hk
  go_enter Tryz.func111,Tryz.ntmps111
  go_upto_region 1 with fail
  go_quiet (fail)
  go_wp2_with fail
  go_ret
  exact ⟨rfl,drewN_below (Below.refl _ _) _⟩
theorem runL_get {p:UInt8→Bool} : ∀ {l:List UInt8} {j:Nat},j < runL p l→p (topB (l.drop j))=true
 | [],_,h=>absurd h (Nat.not_lt_zero _)
 | c :: l,j,h=>by
  by_cases hc:p c=true
  ·rw [runL_pos hc] at h
   rcases j with _ | j
   ·exact hc
   ·exact runL_get (l:=l) (by omega)
  ·rw [runL_neg (by simpa using hc)] at h
   exact absurd h (Nat.not_lt_zero _)
theorem cut_list (s:ByteArray) (k m:Nat):(.string (s.extract k (k + m)):Value)=str ((s.data.toList.drop k).take m):=by
 refine congrArg Value.string (ByteArray.ext ?_)
 rw [ByteArray.data_extract]
 refine Array.toList_inj.1 ?_
 rw [Array.toList_extract,List.extract_eq_take_drop]
 simp
set_option maxRecDepth 100000 in
set_option maxHeartbeats 8000000 in
theorem whileW (p:UInt8→Bool) (f:FuncId) (hf:∀ (args:Array Value) (W:World),(callFunc f args).run Tryz.prog W = .ok (.enter f args) W) (hp:∀ (c:UInt8) (W:World),Calls Tryz.prog f #[byte c] W fun e w'=>e = .returned (.bool (p c))∧W=w')
 (r:Nat) (s:ByteArray) (k:Nat) (w:World) (h:RD r s k w) (hs:s.size ≤ 1000000) (hk:k ≤ s.size) :
 Calls Tryz.prog 109 #[.pointer (some ⟨r,0,none⟩),.func (.func f) #[] #[]] w fun e w'=>
  e = .returned (str ((s.data.toList.drop k).take (runL p (s.data.toList.drop k))))∧RD r s (k + runL p (s.data.toList.drop k)) w'∧w.grownBy w' (some r):=by
 obtain ⟨m,hm⟩:∃ m,m=runL p (s.data.toList.drop k):=⟨_,rfl⟩
 rw [← hm]
 have hml:k + m ≤ s.size:=by
  have:=runL_le p (s.data.toList.drop k)
  rw [← hm,List.length_drop,bytes_list] at this
  omega
 have HGET:=Lib.hid (fun j (hj:j < m)=>runL_get (p:=p) (l:=s.data.toList.drop k) (j:=j) (by rw [← hm];exact hj))
 have HEND:Hid (k + m < s.size→p (topB (s.data.toList.drop (k + m)))=false):=Lib.hid (fun hlt=>by
  rcases runL_drop p (s.data.toList.drop k) with h1 | h1
  ·rw [← hm,List.drop_drop] at h1
   have:=congrArg List.length h1
   rw [List.length_drop,bytes_list] at this
   simp at this;omega
  ·rwa [← hm,List.drop_drop] at h1)
 have HP:=Lib.hid hp
 have HS:=Lib.hid hs
 have HML:=Lib.hid hml
 have H0:=Lib.hid h
 obtain ⟨c0,c1,f1⟩:=h
 clear hm hp hs hml
 go_enter Tryz.func109,Tryz.ntmps109
 go_wp2_with fail
 clear c0 c1 f1
 go_loopg [] m (fun gk wr=>∃ j:Nat,gk=m - j∧j ≤ m∧Hid (RD r s (k + j) wr)∧Hid (w.grownBy wr (some r)))
 case atStart=>exact ⟨0,rfl,Nat.zero_le _,H0,Lib.hid (World.grownBy.refl _ _)⟩
 case round=>
  obtain ⟨j,rfl,hj,HR,HG⟩:=hrel
  have hr:=HR.out
  obtain ⟨c0,c1,f1⟩:=hr
  by_cases hlt:j < m
  ·have hb:k + j < s.size:=by have:=HML.out;omega
   have i0:(0:Int) ≤ (k:Int) + (j:Int):=by omega
   have i1:(k:Int) + (j:Int) < (s.size:Int):=by omega
   have hpc:=HGET.out j hlt
   rw [List.drop_drop,bytes_get s (k + j) hb] at hpc
   have HC:Hid (∀ W,Calls Tryz.prog f #[byte s[k + j]] W fun e w'=>e = .returned (.bool true)∧W=w'):=Lib.hid (fun W=>by have:=HP.out s[k + j] W;rwa [hpc] at this)
   have HJ:=Lib.hid hlt
   have HE:Hid (wrap64 ((k:Int) + (j:Int) + 1)=((k + (j + 1):Nat):Int)):=Lib.hid (by have:=HS.out;unfold wrap64;omega)
   clear hj hlt hpc
   go_upto_region 2 with fail
   have l0:=lat_cell c0
   have l1:=lat_cell c1
   refine wp_region_later (by kernel_rfl) (by kernel_rfl) ?_
   repeat (go_big_quiet_step ((exact lat_calls_same (HC.out _))))
   refine wpQuiet_nil ?_
   refine later_out (fun w2 hb2=>?_)
   have hr2:=HR.out.later hb2
   have HR2:=Lib.hid hr2
   have HG2:=Lib.hid (grown_trans HG.out (below_grown (r:=r) hb2))
   obtain ⟨d0,d1,g1⟩:=hr2
   clear l0 l1 c0 c1 f1 hb2
   go_wp2_with fail
   go_roundg (m - (j + 1))
   case measure=>exact Nat.sub_lt_sub_left HJ.out (Nat.lt_succ_self _)
   case rel=>exact ⟨j + 1,rfl,HJ.out,Lib.hid (by rw [HE.out];exact HR2.out.set (k + (j + 1))),Lib.hid (grown_trans HG2.out (grown_set _ _ _ _))⟩
  ·obtain rfl:j=m:=by omega
   have i0:(0:Int) ≤ (k:Int) + (j:Int):=by omega
   have i2:(k:Int) ≤ (k:Int) + (j:Int):=by omega
   have i3:(0:Int) ≤ (k:Int):=by omega
   have i4:(k:Int) + (j:Int) ≤ (s.size:Int):=by have:=HML.out;omega
   by_cases hb:k + j < s.size
   ·have i1:(k:Int) + (j:Int) < (s.size:Int):=by omega
    have hpc:=HEND.out hb
    rw [bytes_get s (k + j) hb] at hpc
    have HC:Hid (∀ W,Calls Tryz.prog f #[byte s[k + j]] W fun e w'=>e = .returned (.bool false)∧W=w'):=Lib.hid (fun W=>by have:=HP.out s[k + j] W;rwa [hpc] at this)
    clear hj hlt hpc
    go_upto_region 2 with fail
    have l0:=lat_cell c0
    have l1:=lat_cell c1
    refine wp_region_later (by kernel_rfl) (by kernel_rfl) ?_
    repeat (go_big_quiet_step ((exact lat_calls_same (HC.out _))))
    refine wpQuiet_nil ?_
    refine later_out (fun w2 hb2=>?_)
    have hr2:=HR.out.later hb2
    have HR2:=Lib.hid hr2
    have HG2:=Lib.hid (grown_trans HG.out (below_grown (r:=r) hb2))
    obtain ⟨d0,d1,g1⟩:=hr2
    clear l0 l1 c0 c1 f1 hb2
    go_wp2_with fail
    go_quiet (fail)
    go_wp2_with fail
    go_ret
    exact ⟨congrArg Ending.returned (cut_list s k j),HR2.out.later (drewN_below (Below.refl _ _) _),grown_trans HG2.out (below_grown (drewN_below (Below.refl _ _) _))⟩
   ·have i1:¬ (k:Int) + (j:Int) < (s.size:Int):=by omega
    clear hj hlt
    go_upto_region 2 with fail
    have l0:=lat_cell c0
    have l1:=lat_cell c1
    refine wp_region_later (by kernel_rfl) (by kernel_rfl) ?_
    repeat (go_big_quiet_step (fail))
    refine wpQuiet_nil ?_
    refine later_out (fun w2 hb2=>?_)
    have hr2:=HR.out.later hb2
    have HR2:=Lib.hid hr2
    have HG2:=Lib.hid (grown_trans HG.out (below_grown (r:=r) hb2))
    obtain ⟨d0,d1,g1⟩:=hr2
    clear l0 l1 c0 c1 f1 hb2
    go_wp2_with fail
    go_quiet (fail)
    go_wp2_with fail
    go_ret
    exact ⟨congrArg Ending.returned (cut_list s k j),HR2.out.later (drewN_below (Below.refl _ _) _),grown_trans HG2.out (below_grown (drewN_below (Below.refl _ _) _))⟩
end Go.Proofs.YtmdogmpcmkfjpaaGreatDoor.Dt
namespace Go.Proofs.YtmdogmpcmkfjpaaGreatDoor.By
open Go.RowKit
section
variable {P:Program} {w:World} {base:Nat} {t u ty e:TypeId} {i:TypeInfo} {v v':Value} {n:Nat} {xs:List Value} {w':World}
theorem where_slice (ht:P.underlying t=some (.slice e)) (hi:P.info? e=some i) (hz:i.zero=some (.int .u8 0)) (hsize:i.size=1) (hby:i.bytes=1)
 (hown:w.ownsRowF base e 1 v n xs) (a:Addr) (m c:Nat) (news:List Value) (hl:news.length=m) (hnews:∀ j u,news[j]? = some u→w.cell? (a.add j)=some u) (h1:∀ u ∈ news,u.oneCell'=true)
 (h63:n + m ≤ 140737488355328) (hr:(Builtin.append_ #[t,t] ty #[v,.slice (some a) m c]).run P w = .ok v' w'):∀ k,v'.ownBlock=some k→v.ownBlock=some k ∨ w.heap.size ≤ k:=by
 intro k hk
 rcases hown.2 with ⟨rfl,rfl⟩ | ⟨g,cap,cur,fz,rfl,hbg,hg,hfz,hnc,hcm,hcs,htake⟩
 ·obtain ⟨v2,w2,r2,o2,_,_⟩:=run_append_ownF (P:=P) w w.heap.size t ty e i (.int .u8 0) 1 1 ht hi hz hsize hby rfl (by decide) (.slice none 0 0) 0 xs ⟨hown.1,.inl ⟨rfl,rfl⟩⟩ a m c news (by omega) hnews h1 (by unfold maxLen;omega) (by omega) (Nat.le_refl _)
  rw [hr] at r2
  injection r2 with e1 e2
  subst e1
  exact .inr (World.ownsRowF.lt o2 k hk).1
 ·have hxl:xs.length=n:=by simpa using hown.1
  by_cases hroom:n + m ≤ cap
  ·have r2:=run_append_roomF (P:=P) w t ty e i ht hi g n cap cur fz hg (by rw [hsize];simpa using hfz) a m c news (by rw [hsize];omega) hnews h1 hroom (by rw [hsize];omega)
   rw [hr] at r2
   injection r2 with e1 e2
   subst e1
   exact .inl hk
  ·have r2:=run_append_grow (P:=P) w t ty e i (.int .u8 0) ht hi hz ⟨g,0,none⟩ n cap xs (by rw [hsize];omega) (hown.cells (g:=g) rfl) a m c news (by rw [hsize];omega) hnews (by omega) (by omega) (growslice_fits (by omega) (by rw [hby];omega))
   rw [hr] at r2
   injection r2 with e1 e2
   subst e1
   simp [Value.ownBlock] at hk
   exact .inr (by omega)
theorem where_string (ht:P.underlying t=some (.slice e)) (hu:P.underlying u=some .string) (hi:P.info? e=some i) (hz:i.zero=some (.int .u8 0)) (hsize:i.size=1) (hby:i.bytes=1)
 (hown:w.ownsRowF base e 1 v n xs) (s:ByteArray) (h63:n + s.size ≤ 140737488355328) (hr:(Builtin.append_ #[t,u] ty #[v,.string s]).run P w = .ok v' w'):∀ k,v'.ownBlock=some k→v.ownBlock=some k ∨ w.heap.size ≤ k:=by
 intro k hk
 rcases hown.2 with ⟨rfl,rfl⟩ | ⟨g,cap,cur,fz,rfl,hbg,hg,hfz,hnc,hcm,hcs,htake⟩
 ·obtain ⟨v2,w2,r2,o2,_,_⟩:=Lib.run_append_own_stringF (P:=P) w w.heap.size t u ty e i ht hu hi hz hsize hby (.slice none 0 0) 0 xs ⟨hown.1,.inl ⟨rfl,rfl⟩⟩ s (by unfold maxLen;omega) (by omega) (Nat.le_refl _)
  rw [hr] at r2
  injection r2 with e1 e2
  subst e1
  exact .inr (World.ownsRowF.lt o2 k hk).1
 ·have hxl:xs.length=n:=by simpa using hown.1
  by_cases hroom:n + s.size ≤ cap
  ·have r2:=Lib.run_append_room_stringF (P:=P) w t u ty e i ht hu hi hsize g n cap cur fz hg (by simpa using hfz) s hroom (by omega)
   rw [hr] at r2
   injection r2 with e1 e2
   subst e1
   exact .inl hk
  ·have r2:=Lib.run_append_grow_string (P:=P) w t u ty e i (.int .u8 0) ht hu hi hz ⟨g,0,none⟩ n cap xs (by rw [hsize];omega) (hown.cells (g:=g) rfl) s (by omega) (by omega) (by rw [hby];exact growslice_fits (by omega) (by omega))
   rw [hr] at r2
   injection r2 with e1 e2
   subst e1
   simp [Value.ownBlock] at hk
   exact .inr (by omega)
theorem wpList_append_slQ {ops:Array Oper} {rest:List Oper} {o:Oper} {a:Act} {Q:Exit→Act→World→Prop} (hgd:o.guard=none) (s x:Operand) (t:TypeId)
 (ho:o.op = .call { callee:=.builtin .append,args:=#[s,x],argTypes:=#[t,t] }) (base:Nat) (e:TypeId) (i:TypeInfo)
 (ht:P.underlying t=some (.slice e)) (hi:P.info? e=some i) (hz:i.zero=some (.int .u8 0)) (hsize:i.size=1) (hby:i.bytes=1)
 (v:Value) (n:Nat) (xs:List Value) (hs:a.eval s=v) (hown:w.ownsRowF base e 1 v n xs) (ad:Addr) (m c:Nat) (news:List Value) (hx:a.eval x = .slice (some ad) m c) (hl:news.length=m) (hnews:∀ j u,news[j]? = some u→w.cell? (ad.add j)=some u) (h1:∀ u ∈ news,u.oneCell'=true)
 (h63:n + m ≤ 140737488355328) (hbase:base ≤ w.heap.size)
 (h:∀ v' w',w'.ownsRowF base e 1 v' (n + m) (xs ++ news)→w.grownBy w' v.ownBlock→(∀ k,v'.ownBlock=some k→v.ownBlock=some k ∨ w.heap.size ≤ k)→wpList P ops Q rest (a.put o.dst v') w'):wpList P ops Q (o :: rest) a w:=by
 refine wpList_plain hgd fun K hK=>?_
 obtain ⟨v',w',hr,h2,h3,-⟩:=run_append_ownF (P:=P) w base t o.type e i (.int .u8 0) 1 1 ht hi hz hsize hby rfl (by decide) v n xs hown ad m c news (by omega) hnews h1 (by unfold maxLen;omega) (by omega) hbase
 have hw:=where_slice ht hi hz hsize hby hown ad m c news hl hnews h1 h63 hr
 unfold Oper.wp execOp
 simp only [ho,resolve,invoke,builtin,Sem.run_bind,Sem.run_pure,Result.andThen_ok,List.map_toArray,List.map_cons,List.map_nil,hs,hx,hr]
 exact hK _ _ (h v' w' h2 h3 hw)
theorem wpList_append_strQ {ops:Array Oper} {rest:List Oper} {o:Oper} {a:Act} {Q:Exit→Act→World→Prop} (hgd:o.guard=none) (sl x:Operand)
 (ho:o.op = .call { callee:=.builtin .append,args:=#[sl,x],argTypes:=#[t,u] })
 (ht:P.underlying t=some (.slice e)) (hu:P.underlying u=some .string) (hi:P.info? e=some i) (hz:i.zero=some (.int .u8 0)) (hsize:i.size=1) (hby:i.bytes=1)
 (hs:a.eval sl=v) (hown:w.ownsRowF base e 1 v n xs) (s:ByteArray) (hx:a.eval x = .string s)
 (h63:n + s.size ≤ 140737488355328) (hbase:base ≤ w.heap.size)
 (h:∀ v' w',w'.ownsRowF base e 1 v' (n + s.size) (xs ++ Lib.strCells s)→w.grownBy w' v.ownBlock→(∀ k,v'.ownBlock=some k→v.ownBlock=some k ∨ w.heap.size ≤ k)→wpList P ops Q rest (a.put o.dst v') w'):wpList P ops Q (o :: rest) a w:=by
 refine wpList_plain hgd fun K hK=>?_
 obtain ⟨v',w',hr,h2,h3,-⟩:=Lib.run_append_own_stringF (P:=P) w base t u o.type e i ht hu hi hz hsize hby v n xs hown s (by unfold maxLen;omega) (by omega) hbase
 have hw:=where_string ht hu hi hz hsize hby hown s h63 hr
 unfold Oper.wp execOp
 simp only [ho,resolve,invoke,builtin,Sem.run_bind,Sem.run_pure,Result.andThen_ok,List.map_toArray,List.map_cons,List.map_nil,hs,hx,hr]
 exact hK _ _ (h v' w' h2 h3 hw)
end
end Go.Proofs.YtmdogmpcmkfjpaaGreatDoor.By
namespace Go.Proofs.YtmdogmpcmkfjpaaGreatDoor.Dt
open Go.RowKit Go.Proofs.YtmdogmpcmkfjpaaGreatDoor.By
def Apart (q b:Nat) (w:World):Prop:=q < w.heap.size∧q ≠ b∧∀ v,w.cell? ⟨b,1,none⟩=some v→v.ownBlock ≠ some q
theorem Apart.later {q b:Nat} {w w':World} (h:Apart q b w) (hb:Below w.heap.size w w') (hl:b < w.heap.size):Apart q b w':=
 ⟨Nat.lt_of_lt_of_le h.1 hb.size,h.2.1,fun v hv=>h.2.2 v ((hb.cell (p:=⟨b,1,none⟩) hl).symm.trans hv)⟩
theorem infoU8:∃ i,Tryz.prog.info? 5=some i∧i.zero=some (.int .u8 0)∧i.size=1∧i.bytes=1:=info_parts (by kernel_rfl)
end Go.Proofs.YtmdogmpcmkfjpaaGreatDoor.Dt
