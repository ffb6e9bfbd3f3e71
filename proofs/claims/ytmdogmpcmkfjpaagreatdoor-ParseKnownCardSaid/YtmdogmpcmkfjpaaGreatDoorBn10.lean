import Derived.Lib.FrozenHead2
import Derived.Test.YtmdogmpcmkfjpaaGreatDoorBn08
import Derived.Test.YtmdogmpcmkfjpaaGreatDoorBn09
import Derived.Test.YtmdogmpcmkfjpaaGreatDoorBn07
/- Part of the proof (merged). -/
namespace Go.Proofs.YtmdogmpcmkfjpaaGreatDoor.Dt
open Go.RowKit Go.Proofs.YtmdogmpcmkfjpaaGreatDoor.By
structure RD (r:Nat) (s:ByteArray) (k:Nat) (w:World):Prop where
 c0:w.cell? ⟨r,0,none⟩=some (.string s)
 c1:w.cell? ⟨r,1,none⟩=some (.int .i64 (k:Int))
 f1:w.frozen? ⟨r,1,none⟩=false
theorem RD.lt {r:Nat} {s:ByteArray} {k:Nat} {w:World} (h:RD r s k w):r < w.heap.size:=cell_lt h.c0
theorem RD.later {r:Nat} {s:ByteArray} {k:Nat} {w w':World} (h:RD r s k w) (hb:Below w.heap.size w w'):RD r s k w':=
 ⟨(hb.cell h.lt).trans h.c0,(hb.cell h.lt).trans h.c1,(hb.frozen h.lt).trans h.f1⟩
theorem RD.set {r:Nat} {s:ByteArray} {k:Nat} {w:World} (h:RD r s k w) (m:Nat):RD r s m (w.setCell ⟨r,1,none⟩ (.int .i64 (m:Int))):=by
 refine ⟨(set_else3 w r 1 0 _ (by decide)).trans h.c0,set_same3 w ⟨r,1,none⟩ _ _ h.c1,?_⟩
 have:=h.f1
 simpa using this
theorem below_grown {r:Nat} {w w':World} (h:Below w.heap.size w w'):w.grownBy w' (some r):=⟨h.os,h.tape,h.output,h.size,fun k hk _=>h.block k hk⟩
theorem grown_below {B r:Nat} {w0 w w':World} (h:Below B w0 w) (hB:B ≤ r) (g:w.grownBy w' (some r)) (hs:B ≤ w.heap.size):Below B w0 w':=
 ⟨g.os.trans h.os,g.tape.trans h.tape,g.output.trans h.output,Nat.le_trans h.size g.size,fun k hk=>(g.block k (by omega) (fun e=>by cases e;omega)).trans (h.block k hk)⟩
theorem bytes_get (s:ByteArray) (k:Nat) (h:k < s.size):topB (s.data.toList.drop k)=s[k]:=by
 have:s.data.toList.drop k=s[k] :: s.data.toList.drop (k + 1):=by
  rw [List.drop_eq_getElem_cons (by simpa using h)];rfl
 rw [this];rfl
theorem bytes_end (s:ByteArray) (k:Nat) (h:s.size ≤ k):topB (s.data.toList.drop k)=0:=by
 rw [List.drop_eq_nil_iff.2 (by rw [bytes_list];exact h)];rfl
set_option maxRecDepth 100000 in
theorem peek0 (r:Nat) (s:ByteArray) (k:Nat) (w:World) (h:RD r s k w) (hs:s.size ≤ 1000000) (hk:k ≤ s.size) :
 Calls Tryz.prog 111 #[.pointer (some ⟨r,0,none⟩),.int .i64 0] w fun e w'=>e = .returned (byte (topB (s.data.toList.drop (k))))∧Below w.heap.size w w':=by
 obtain ⟨c0,c1,_⟩:=h
 have e1:wrap64 (k:Int)=(k:Int):=by unfold wrap64;omega
 by_cases hlt:k < s.size
 ·have a1:(k:Int) < (s.size:Int):=by omega
  have a3:(0:Int) ≤ (k:Int):=by omega
  have hb:=bytes_get s (k) hlt
  rw [hb]
  clear hb hs hk
  go_enter Tryz.func111,Tryz.ntmps111
  go_upto_region 1 with fail
  go_quiet (fail)
  go_wp2_with fail
  go_quiet (fail)
  go_wp2_with fail
  go_ret
  exact ⟨rfl,drewN_below (drewN_below (Below.refl _ _) _) _⟩
 ·have a1:¬ (k:Int) < (s.size:Int):=by omega
  have a2:(s.size:Int) ≤ (k:Int):=by omega
  have hb:=bytes_end s (k) (by omega)
  rw [hb]
  clear hb hlt hs hk
  go_enter Tryz.func111,Tryz.ntmps111
  go_upto_region 1 with fail
  go_quiet (fail)
  go_wp2_with fail
  go_ret
  exact ⟨rfl,drewN_below (Below.refl _ _) _⟩
set_option maxRecDepth 100000 in
theorem peek1 (r:Nat) (s:ByteArray) (k:Nat) (w:World) (h:RD r s k w) (hs:s.size ≤ 1000000) (hk:k ≤ s.size) :
 Calls Tryz.prog 111 #[.pointer (some ⟨r,0,none⟩),.int .i64 1] w fun e w'=>e = .returned (byte (topB (s.data.toList.drop (k + 1))))∧Below w.heap.size w w':=by
 obtain ⟨c0,c1,_⟩:=h
 have e1:IntKind.i64.wrap ((k:Int) + 1)=(k:Int) + 1:=by rw [IntKind.wrap_i64];omega
 by_cases hlt:k + 1 < s.size
 ·have a1:(k:Int) + 1 < (s.size:Int):=by omega
  have a3:(0:Int) ≤ (k:Int) + 1:=by omega
  have hb:=bytes_get s (k + 1) hlt
  rw [hb]
  clear hb hs hk
  go_enter Tryz.func111,Tryz.ntmps111
  go_upto_region 1 with fail
  go_quiet (fail)
  go_wp2_with fail
  go_quiet (fail)
  go_wp2_with fail
  go_ret
  exact ⟨rfl,drewN_below (drewN_below (Below.refl _ _) _) _⟩
 ·have a1:¬ (k:Int) + 1 < (s.size:Int):=by omega
  have a2:(s.size:Int) ≤ (k:Int) + 1:=by omega
  have hb:=bytes_end s (k + 1) (by omega)
  rw [hb]
  clear hb hlt hs hk
  go_enter Tryz.func111,Tryz.ntmps111
  go_upto_region 1 with fail
  go_quiet (fail)
  go_wp2_with fail
  go_ret
  exact ⟨rfl,drewN_below (Below.refl _ _) _⟩
theorem runL_get {p:UInt8→Bool} : ∀ {l:List UInt8} {j:Nat},j < runL p l→p (topB (l.drop j))=true
 | [],_,h=>absurd h (Nat.not_lt_zero _)
 | c :: l,j,h=>by
  by_cases hc:p c=true
  ·rw [runL_pos hc] at h
   rcases j with _ | j
   ·exact hc
   ·exact runL_get (l:=l) (by omega)
  ·rw [runL_neg (by simpa using hc)] at h
   exact absurd h (Nat.not_lt_zero _)
theorem cut_list (s:ByteArray) (k m:Nat):(.string (s.extract k (k + m)):Value)=str ((s.data.toList.drop k).take m):=by
 refine congrArg Value.string (ByteArray.ext ?_)
 rw [ByteArray.data_extract]
 refine Array.toList_inj.1 ?_
 rw [Array.toList_extract,List.extract_eq_take_drop]
 simp
set_option maxRecDepth 100000 in
set_option maxHeartbeats 8000000 in
theorem whileW (p:UInt8→Bool) (f:FuncId) (hf:∀ (args:Array Value) (W:World),(callFunc f args).run Tryz.prog W = .ok (.enter f args) W) (hp:∀ (c:UInt8) (W:World),Calls Tryz.prog f #[byte c] W fun e w'=>e = .returned (.bool (p c))∧W=w')
 (r:Nat) (s:ByteArray) (k:Nat) (w:World) (h:RD r s k w) (hs:s.size ≤ 1000000) (hk:k ≤ s.size) :
 Calls Tryz.prog 109 #[.pointer (some ⟨r,0,none⟩),.func (.func f) #[] #[]] w fun e w'=>
  e = .returned (str ((s.data.toList.drop k).take (runL p (s.data.toList.drop k))))∧RD r s (k + runL p (s.data.toList.drop k)) w'∧w.grownBy w' (some r):=by
 obtain ⟨m,hm⟩:∃ m,m=runL p (s.data.toList.drop k):=⟨_,rfl⟩
 rw [← hm]
 have hml:k + m ≤ s.size:=by
  have:=runL_le p (s.data.toList.drop k)
  rw [← hm,List.length_drop,bytes_list] at this
  omega
 have HGET:=Lib.hid (fun j (hj:j < m)=>runL_get (p:=p) (l:=s.data.toList.drop k) (j:=j) (by rw [← hm];exact hj))
 have HEND:Hid (k + m < s.size→p (topB (s.data.toList.drop (k + m)))=false):=Lib.hid (fun hlt=>by
  rcases runL_drop p (s.data.toList.drop k) with h1 | h1
  ·rw [← hm,List.drop_drop] at h1
   have:=congrArg List.length h1
   rw [List.length_drop,bytes_list] at this
   simp at this;omega
  ·rwa [← hm,List.drop_drop] at h1)
 have HP:=Lib.hid hp
 have HS:=Lib.hid hs
 have HML:=Lib.hid hml
 have H0:=Lib.hid h
 obtain ⟨c0,c1,f1⟩:=h
 clear hm hp hs hml
 go_enter Tryz.func109,Tryz.ntmps109
 go_wp2_with fail
 clear c0 c1 f1
 go_loopg [] m (fun gk wr=>∃ j:Nat,gk=m - j∧j ≤ m∧Hid (RD r s (k + j) wr)∧Hid (w.grownBy wr (some r)))
 case atStart=>exact ⟨0,rfl,Nat.zero_le _,H0,Lib.hid (World.grownBy.refl _ _)⟩
 case round=>
  obtain ⟨j,rfl,hj,HR,HG⟩:=hrel
  have hr:=HR.out
  obtain ⟨c0,c1,f1⟩:=hr
  by_cases hlt:j < m
  ·have hb:k + j < s.size:=by have:=HML.out;omega
   have i0:(0:Int) ≤ (k:Int) + (j:Int):=by omega
   have i1:(k:Int) + (j:Int) < (s.size:Int):=by omega
   have hpc:=HGET.out j hlt
   rw [List.drop_drop,bytes_get s (k + j) hb] at hpc
   have HC:Hid (∀ W,Calls Tryz.prog f #[byte s[k + j]] W fun e w'=>e = .returned (.bool true)∧W=w'):=Lib.hid (fun W=>by have:=HP.out s[k + j] W;rwa [hpc] at this)
   have HJ:=Lib.hid hlt
   have HE:Hid (wrap64 ((k:Int) + (j:Int) + 1)=((k + (j + 1):Nat):Int)):=Lib.hid (by have:=HS.out;unfold wrap64;omega)
   clear hj hlt hpc
   go_upto_region 2 with fail
   have l0:=lat_cell c0
   have l1:=lat_cell c1
   refine wp_region_later (by kernel_rfl) (by kernel_rfl) ?_
   repeat (go_big_quiet_step ((exact lat_calls_same (HC.out _))))
   refine wpQuiet_nil ?_
   refine later_out (fun w2 hb2=>?_)
   have hr2:=HR.out.later hb2
   have HR2:=Lib.hid hr2
   have HG2:=Lib.hid (grown_trans HG.out (below_grown (r:=r) hb2))
   obtain ⟨d0,d1,g1⟩:=hr2
   clear l0 l1 c0 c1 f1 hb2
   go_wp2_with fail
   go_roundg (m - (j + 1))
   case measure=>exact Nat.sub_lt_sub_left HJ.out (Nat.lt_succ_self _)
   case rel=>exact ⟨j + 1,rfl,HJ.out,Lib.hid (by rw [HE.out];exact HR2.out.set (k + (j + 1))),Lib.hid (grown_trans HG2.out (grown_set _ _ _ _))⟩
  ·obtain rfl:j=m:=by omega
   have i0:(0:Int) ≤ (k:Int) + (j:Int):=by omega
   have i2:(k:Int) ≤ (k:Int) + (j:Int):=by omega
   have i3:(0:Int) ≤ (k:Int):=by omega
   have i4:(k:Int) + (j:Int) ≤ (s.size:Int):=by have:=HML.out;omega
   by_cases hb:k + j < s.size
   ·have i1:(k:Int) + (j:Int) < (s.size:Int):=by omega
    have hpc:=HEND.out hb
    rw [bytes_get s (k + j) hb] at hpc
    have HC:Hid (∀ W,Calls Tryz.prog f #[byte s[k + j]] W fun e w'=>e = .returned (.bool false)∧W=w'):=Lib.hid (fun W=>by have:=HP.out s[k + j] W;rwa [hpc] at this)
    clear hj hlt hpc
    go_upto_region 2 with fail
    have l0:=lat_cell c0
    have l1:=lat_cell c1
    refine wp_region_later (by kernel_rfl) (by kernel_rfl) ?_
    repeat (go_big_quiet_step ((exact lat_calls_same (HC.out _))))
    refine wpQuiet_nil ?_
    refine later_out (fun w2 hb2=>?_)
    have hr2:=HR.out.later hb2
    have HR2:=Lib.hid hr2
    have HG2:=Lib.hid (grown_trans HG.out (below_grown (r:=r) hb2))
    obtain ⟨d0,d1,g1⟩:=hr2
    clear l0 l1 c0 c1 f1 hb2
    go_wp2_with fail
    go_quiet (fail)
    go_wp2_with fail
    go_ret
    exact ⟨congrArg Ending.returned (cut_list s k j),HR2.out.later (drewN_below (Below.refl _ _) _),grown_trans HG2.out (below_grown (drewN_below (Below.refl _ _) _))⟩
   ·have i1:¬ (k:Int) + (j:Int) < (s.size:Int):=by omega
    clear hj hlt
    go_upto_region 2 with fail
    have l0:=lat_cell c0
    have l1:=lat_cell c1
    refine wp_region_later (by kernel_rfl) (by kernel_rfl) ?_
    repeat (go_big_quiet_step (fail))
    refine wpQuiet_nil ?_
    refine later_out (fun w2 hb2=>?_)
    have hr2:=HR.out.later hb2
    have HR2:=Lib.hid hr2
    have HG2:=Lib.hid (grown_trans HG.out (below_grown (r:=r) hb2))
    obtain ⟨d0,d1,g1⟩:=hr2
    clear l0 l1 c0 c1 f1 hb2
    go_wp2_with fail
    go_quiet (fail)
    go_wp2_with fail
    go_ret
    exact ⟨congrArg Ending.returned (cut_list s k j),HR2.out.later (drewN_below (Below.refl _ _) _),grown_trans HG2.out (below_grown (drewN_below (Below.refl _ _) _))⟩
end Go.Proofs.YtmdogmpcmkfjpaaGreatDoor.Dt
namespace Go.Proofs.YtmdogmpcmkfjpaaGreatDoor.By
open Go.RowKit
section
variable {P:Program} {w:World} {base:Nat} {t u ty e:TypeId} {i:TypeInfo} {v v':Value} {n:Nat} {xs:List Value} {w':World}
theorem where_slice (ht:P.underlying t=some (.slice e)) (hi:P.info? e=some i) (hz:i.zero=some (.int .u8 0)) (hsize:i.size=1) (hby:i.bytes=1)
 (hown:w.ownsRowF base e 1 v n xs) (a:Addr) (m c:Nat) (news:List Value) (hl:news.length=m) (hnews:∀ j u,news[j]? = some u→w.cell? (a.add j)=some u) (h1:∀ u ∈ news,u.oneCell'=true)
 (h63:n + m ≤ 140737488355328) (hr:(Builtin.append_ #[t,t] ty #[v,.slice (some a) m c]).run P w = .ok v' w'):∀ k,v'.ownBlock=some k→v.ownBlock=some k ∨ w.heap.size ≤ k:=by
 intro k hk
 rcases hown.2 with ⟨rfl,rfl⟩ | ⟨g,cap,cur,fz,rfl,hbg,hg,hfz,hnc,hcm,hcs,htake⟩
 ·obtain ⟨v2,w2,r2,o2,_,_⟩:=run_append_ownF (P:=P) w w.heap.size t ty e i (.int .u8 0) 1 1 ht hi hz hsize hby rfl (by decide) (.slice none 0 0) 0 xs ⟨hown.1,.inl ⟨rfl,rfl⟩⟩ a m c news (by omega) hnews h1 (by unfold maxLen;omega) (by omega) (Nat.le_refl _)
  rw [hr] at r2
  injection r2 with e1 e2
  subst e1
  exact .inr (World.ownsRowF.lt o2 k hk).1
 ·have hxl:xs.length=n:=by simpa using hown.1
  by_cases hroom:n + m ≤ cap
  ·have r2:=run_append_roomF (P:=P) w t ty e i ht hi g n cap cur fz hg (by rw [hsize];simpa using hfz) a m c news (by rw [hsize];omega) hnews h1 hroom (by rw [hsize];omega)
   rw [hr] at r2
   injection r2 with e1 e2
   subst e1
   exact .inl hk
  ·have r2:=run_append_grow (P:=P) w t ty e i (.int .u8 0) ht hi hz ⟨g,0,none⟩ n cap xs (by rw [hsize];omega) (hown.cells (g:=g) rfl) a m c news (by rw [hsize];omega) hnews (by omega) (by omega) (growslice_fits (by omega) (by rw [hby];omega))
   rw [hr] at r2
   injection r2 with e1 e2
   subst e1
   simp [Value.ownBlock] at hk
   exact .inr (by omega)
theorem where_string (ht:P.underlying t=some (.slice e)) (hu:P.underlying u=some .string) (hi:P.info? e=some i) (hz:i.zero=some (.int .u8 0)) (hsize:i.size=1) (hby:i.bytes=1)
 (hown:w.ownsRowF base e 1 v n xs) (s:ByteArray) (h63:n + s.size ≤ 140737488355328) (hr:(Builtin.append_ #[t,u] ty #[v,.string s]).run P w = .ok v' w'):∀ k,v'.ownBlock=some k→v.ownBlock=some k ∨ w.heap.size ≤ k:=by
 intro k hk
 rcases hown.2 with ⟨rfl,rfl⟩ | ⟨g,cap,cur,fz,rfl,hbg,hg,hfz,hnc,hcm,hcs,htake⟩
 ·obtain ⟨v2,w2,r2,o2,_,_⟩:=Lib.run_append_own_stringF (P:=P) w w.heap.size t u ty e i ht hu hi hz hsize hby (.slice none 0 0) 0 xs ⟨hown.1,.inl ⟨rfl,rfl⟩⟩ s (by unfold maxLen;omega) (by omega) (Nat.le_refl _)
  rw [hr] at r2
  injection r2 with e1 e2
  subst e1
  exact .inr (World.ownsRowF.lt o2 k hk).1
 ·have hxl:xs.length=n:=by simpa using hown.1
  by_cases hroom:n + s.size ≤ cap
  ·have r2:=Lib.run_append_room_stringF (P:=P) w t u ty e i ht hu hi hsize g n cap cur fz hg (by simpa using hfz) s hroom (by omega)
   rw [hr] at r2
   injection r2 with e1 e2
   subst e1
   exact .inl hk
  ·have r2:=Lib.run_append_grow_string (P:=P) w t u ty e i (.int .u8 0) ht hu hi hz ⟨g,0,none⟩ n cap xs (by rw [hsize];omega) (hown.cells (g:=g) rfl) s (by omega) (by omega) (by rw [hby];exact growslice_fits (by omega) (by omega))
   rw [hr] at r2
   injection r2 with e1 e2
   subst e1
   simp [Value.ownBlock] at hk
   exact .inr (by omega)
theorem wpList_append_slQ {ops:Array Oper} {rest:List Oper} {o:Oper} {a:Act} {Q:Exit→Act→World→Prop} (hgd:o.guard=none) (s x:Operand) (t:TypeId)
 (ho:o.op = .call { callee:=.builtin .append,args:=#[s,x],argTypes:=#[t,t] }) (base:Nat) (e:TypeId) (i:TypeInfo)
 (ht:P.underlying t=some (.slice e)) (hi:P.info? e=some i) (hz:i.zero=some (.int .u8 0)) (hsize:i.size=1) (hby:i.bytes=1)
 (v:Value) (n:Nat) (xs:List Value) (hs:a.eval s=v) (hown:w.ownsRowF base e 1 v n xs) (ad:Addr) (m c:Nat) (news:List Value) (hx:a.eval x = .slice (some ad) m c) (hl:news.length=m) (hnews:∀ j u,news[j]? = some u→w.cell? (ad.add j)=some u) (h1:∀ u ∈ news,u.oneCell'=true)
 (h63:n + m ≤ 140737488355328) (hbase:base ≤ w.heap.size)
 (h:∀ v' w',w'.ownsRowF base e 1 v' (n + m) (xs ++ news)→w.grownBy w' v.ownBlock→(∀ k,v'.ownBlock=some k→v.ownBlock=some k ∨ w.heap.size ≤ k)→wpList P ops Q rest (a.put o.dst v') w'):wpList P ops Q (o :: rest) a w:=by
 refine wpList_plain hgd fun K hK=>?_
 obtain ⟨v',w',hr,h2,h3,-⟩:=run_append_ownF (P:=P) w base t o.type e i (.int .u8 0) 1 1 ht hi hz hsize hby rfl (by decide) v n xs hown ad m c news (by omega) hnews h1 (by unfold maxLen;omega) (by omega) hbase
 have hw:=where_slice ht hi hz hsize hby hown ad m c news hl hnews h1 h63 hr
 unfold Oper.wp execOp
 simp only [ho,resolve,invoke,builtin,Sem.run_bind,Sem.run_pure,Result.andThen_ok,List.map_toArray,List.map_cons,List.map_nil,hs,hx,hr]
 exact hK _ _ (h v' w' h2 h3 hw)
theorem wpList_append_strQ {ops:Array Oper} {rest:List Oper} {o:Oper} {a:Act} {Q:Exit→Act→World→Prop} (hgd:o.guard=none) (sl x:Operand)
 (ho:o.op = .call { callee:=.builtin .append,args:=#[sl,x],argTypes:=#[t,u] })
 (ht:P.underlying t=some (.slice e)) (hu:P.underlying u=some .string) (hi:P.info? e=some i) (hz:i.zero=some (.int .u8 0)) (hsize:i.size=1) (hby:i.bytes=1)
 (hs:a.eval sl=v) (hown:w.ownsRowF base e 1 v n xs) (s:ByteArray) (hx:a.eval x = .string s)
 (h63:n + s.size ≤ 140737488355328) (hbase:base ≤ w.heap.size)
 (h:∀ v' w',w'.ownsRowF base e 1 v' (n + s.size) (xs ++ Lib.strCells s)→w.grownBy w' v.ownBlock→(∀ k,v'.ownBlock=some k→v.ownBlock=some k ∨ w.heap.size ≤ k)→wpList P ops Q rest (a.put o.dst v') w'):wpList P ops Q (o :: rest) a w:=by
 refine wpList_plain hgd fun K hK=>?_
 obtain ⟨v',w',hr,h2,h3,-⟩:=Lib.run_append_own_stringF (P:=P) w base t u o.type e i ht hu hi hz hsize hby v n xs hown s (by unfold maxLen;omega) (by omega) hbase
 have hw:=where_string ht hu hi hz hsize hby hown s h63 hr
 unfold Oper.wp execOp
 simp only [ho,resolve,invoke,builtin,Sem.run_bind,Sem.run_pure,Result.andThen_ok,List.map_toArray,List.map_cons,List.map_nil,hs,hx,hr]
 exact hK _ _ (h v' w' h2 h3 hw)
end
end Go.Proofs.YtmdogmpcmkfjpaaGreatDoor.By
namespace Go.Proofs.YtmdogmpcmkfjpaaGreatDoor.Dt
open Go.RowKit Go.Proofs.YtmdogmpcmkfjpaaGreatDoor.By
def Apart (q b:Nat) (w:World):Prop:=q < w.heap.size∧q ≠ b∧∀ v,w.cell? ⟨b,1,none⟩=some v→v.ownBlock ≠ some q
theorem Apart.later {q b:Nat} {w w':World} (h:Apart q b w) (hb:Below w.heap.size w w') (hl:b < w.heap.size):Apart q b w':=
 ⟨Nat.lt_of_lt_of_le h.1 hb.size,h.2.1,fun v hv=>h.2.2 v ((hb.cell (p:=⟨b,1,none⟩) hl).symm.trans hv)⟩
theorem infoU8:∃ i,Tryz.prog.info? 5=some i∧i.zero=some (.int .u8 0)∧i.size=1∧i.bytes=1:=info_parts (by kernel_rfl)
abbrev BuildW (B b:Nat) (l:List UInt8) (w:World):Prop:=Lib.IsBuilderF 67 5 B b (Lib.byteCells l) w
def KeepW (b:Nat) (w w':World):Prop:=∀ q,Apart q b w→Apart q b w'∧w'.heap[q]? = w.heap[q]?
theorem KeepW.refl (b:Nat) (w:World):KeepW b w w:=fun _ h=>⟨h,rfl⟩
theorem KeepW.trans {b:Nat} {w w1 w2:World} (h:KeepW b w w1) (k:KeepW b w1 w2):KeepW b w w2:=fun q hq=>by
 obtain ⟨h1,e1⟩:=h q hq
 obtain ⟨h2,e2⟩:=k q h1
 exact ⟨h2,e2.trans e1⟩
theorem KeepW.below {b:Nat} {w w':World} (hb:Below w.heap.size w w') (hl:b < w.heap.size):KeepW b w w':=fun q hq=>⟨hq.later hb hl,hb.block q hq.1⟩
theorem BuildW.lt {B b:Nat} {l:List UInt8} {w:World} (h:BuildW B b l w):b < w.heap.size:=by
 rcases h with ⟨_,v,hv,_⟩ | ⟨_,v,hv,_⟩
 ·exact (Array.getElem?_eq_some_iff.1 hv).1
 ·exact (Array.getElem?_eq_some_iff.1 hv).1
theorem BuildW.le {B b:Nat} {l:List UInt8} {w:World} (h:BuildW B b l w):B ≤ b:=by
 rcases h with h | h
 ·exact h.1
 ·exact h.1
theorem BuildW.Bw {B b:Nat} {l:List UInt8} {w:World} (h:BuildW B b l w):B ≤ w.heap.size:=Nat.le_of_lt (Nat.lt_of_le_of_lt h.le h.lt)
theorem BuildW.new {B b:Nat} {l:List UInt8} {w w':World} (h:BuildW B b l w) (hb:Below w.heap.size w w') (hs:w.heap.size < w'.heap.size):Apart w.heap.size b w':=by
 have one:∀ p,Lib.BuilderAtF 67 5 B b p (Lib.byteCells l) w→Apart w.heap.size b w':=by
  rintro p ⟨hB,v,hv,hown,hne⟩
  have hlt:b < w.heap.size:=(Array.getElem?_eq_some_iff.1 hv).1
  refine ⟨hs,by omega,fun v' hv' hk=>?_⟩
  have hc:w.cell? ⟨b,1,none⟩=some v:=by rw [Lib.cell_of_heap hv];rfl
  have hv2:w'.cell? ⟨b,1,none⟩=some v:=(hb.cell (cell_lt hc)).trans hc
  rw [hv2] at hv'
  cases hv'
  have:=(World.ownsRowF.lt hown _ hk).2
  omega
 rcases h with h | h
 ·exact one _ h
 ·exact one _ h
theorem BuildW.later {B b:Nat} {l:List UInt8} {w w':World} (h:BuildW B b l w) (hb:Below w.heap.size w w'):BuildW B b l w':=by
 have one:∀ p,Lib.BuilderAtF 67 5 B b p (Lib.byteCells l) w→Lib.BuilderAtF 67 5 B b p (Lib.byteCells l) w':=by
  rintro p ⟨hB,v,hv,hown,hne⟩
  have hlt:b < w.heap.size:=(Array.getElem?_eq_some_iff.1 hv).1
  exact ⟨hB,v,(hb.block b hlt).trans hv,World.ownsRowF.kept (row:=none) hown ⟨hb.os,hb.tape,hb.output,hb.size,fun i hi _=>hb.block i hi⟩ (by cases v.ownBlock <;> simp),hne⟩
 rcases h with h | h
 ·exact .inl (one _ h)
 ·exact .inr (one _ h)
theorem buildW_new (B:Nat) (w:World) (hB:B ≤ w.heap.size):BuildW B w.heap.size [] (w.alloc (.cells #[.pointer none,.slice none 0 0] 67)):=
 .inl ⟨hB,.slice none 0 0,heap_alloc_new _ _,World.ownsRowF_nil _ _ _ _,fun e=>by cases e⟩
theorem lies_writer:liesAt Tryz.prog Tryz.prog.depth 67 (2 / Tryz.prog.cellsOf 67) 0 65 1=true:=by kernel_rfl
set_option maxHeartbeats 4000000 in
set_option maxRecDepth 100000 in
theorem copyFresh (b:Nat) (w:World) (h0:w.cell? ⟨b,0,none⟩=some (.pointer none)) (hsh:w.shape? b=some (67,2)) (hfz:w.frozen? ⟨b,0,none⟩=false) :
 Calls Tryz.prog 133 #[.pointer (some ⟨b,0,none⟩)] w fun e w'=>e = .returned (.tuple #[])∧w'=w.setCell ⟨b,0,none⟩ (.pointer (some ⟨b,0,none⟩)):=by
 obtain ⟨j,hj,hjs⟩:=Option.map_eq_some_iff.1 (Tryz.Builder_Extra_155).toX72.sizeBuilder
 have e1:(convert 62 190 (.pointer (some ⟨b,0,none⟩))).run Tryz.prog w = .ok (.pointer (some ⟨b,0,none⟩)) w:=Lib.run_to_unsafe w ⟨b,0,none⟩ Tryz.lays155.t70 Tryz.lays155.t164 hj (by rw [hjs];decide) hsh (Nat.zero_lt_succ 1)
 have e2:(convert 190 62 (.pointer (some ⟨b,0,none⟩))).run Tryz.prog w = .ok (.pointer (some ⟨b,0,none⟩)) w:=Lib.run_from_unsafe w ⟨b,0,none⟩ Tryz.lays155.t164 Tryz.lays155.t70 hj hsh lies_writer
 have e3:(callFunc 151 #[.pointer (some ⟨b,0,none⟩)]).run Tryz.prog w = .ok (.value (.pointer (some ⟨b,0,none⟩))) w:=by
  refine (run_callFunc_extern Tryz.lays155.f276 (by kernel_rfl) (by kernel_rfl) (by kernel_rfl) (e:=Extern.AbiNoEscape.same) (by kernel_rfl) _ w).trans ?_
  rw [Lib.run_noEscape]
  rfl
 clear hj hjs
 go_enter Tryz.func133,Tryz.ntmps133
 go_wp2_with fail
 go_end0
 exact ⟨rfl,rfl⟩
set_option maxHeartbeats 4000000 in
set_option maxRecDepth 100000 in
theorem copyCheckR (B b:Nat) (l:List UInt8) (w:World) (h:BuildW B b l w) :
 Calls Tryz.prog 133 #[.pointer (some ⟨b,0,none⟩)] w fun e w'=>e = .returned (.tuple #[])∧Lib.BuilderAtF 67 5 B b (.pointer (some ⟨b,0,none⟩)) (Lib.byteCells l) w'∧Below B w w'∧KeepW b w w'∧w'.heap.size=w.heap.size:=by
 rcases h with h | h
 ·refine (copyFresh b w h.cell0 h.shape h.frozen0).mono ?_
  rintro e w' ⟨rfl,rfl⟩
  refine ⟨rfl,h.used _,(Below.refl B w).setCell (p:=⟨b,0,none⟩) h.1 _,fun q hq=>⟨⟨by simpa using hq.1,hq.2.1,fun v hv=>?_⟩,?_⟩,by simp⟩
  ·rw [set_other w b b 0 1 _ (fun e=>absurd e.2 (by decide))] at hv
   exact hq.2.2 v hv
  ·exact (grown_set w b 0 _).block q hq.1 (fun e=>hq.2.1 (Option.some.inj e))
 ·refine (Any.Builder_copyCheck_used { Tryz.lays155 with } (Tryz.Builder_Extra_155).toX72 b w h.cell0).mono ?_
  rintro e w' ⟨rfl,rfl⟩
  exact ⟨rfl,h,Below.refl B _,KeepW.refl _ _,rfl⟩
set_option maxHeartbeats 4000000 in
set_option maxRecDepth 100000 in
theorem writerLen (B b:Nat) (l:List UInt8) (w:World) (h:BuildW B b l w):Calls Tryz.prog 89 #[.pointer (some ⟨b,0,none⟩)] w fun e w'=>e = .returned (.int .i64 (l.length:Int))∧w'=w:=by
 have hc:∃ a n c,n=l.length∧w.cell? ⟨b,1,none⟩=some (.slice a n c):=by
  have one:∀ p,Lib.BuilderAtF 67 5 B b p (Lib.byteCells l) w→∃ a n c,n=l.length∧w.cell? ⟨b,1,none⟩=some (.slice a n c):=by
   rintro p ⟨hB,v,hv,hown,hne⟩
   have hc:w.cell? ⟨b,1,none⟩=some v:=by rw [Lib.cell_of_heap hv];rfl
   rcases hown.2 with ⟨rfl,hz⟩ | ⟨g,cap,cur,fz,rfl,_⟩
   ·exact ⟨none,0,0,by rw [← hz,Lib.byteCells_length],hc⟩
   ·exact ⟨_,_,_,Lib.byteCells_length l,hc⟩
  rcases h with h | h
  ·exact one _ h
  ·exact one _ h
 obtain ⟨a,n,c,hn,c1⟩:=hc
 clear h
 go_enter Tryz.func89,Tryz.ntmps89
 go_wp2_with fail
 go_ret
 exact ⟨by rw [← hn];rfl,rfl⟩
set_option maxHeartbeats 4000000 in
set_option maxRecDepth 100000 in
theorem writeByteR (B b:Nat) (l:List UInt8) (c:UInt8) (w:World) (h:BuildW B b l w) (hlen:l.length + 1 ≤ 140737488355328) (hBw:B ≤ w.heap.size) :
 Calls Tryz.prog 97 #[.pointer (some ⟨b,0,none⟩),.int .u8 (c.toNat:Int)] w fun e w'=>e = .returned .nilIface∧BuildW B b (l ++ [c]) w'∧Below B w w'∧KeepW b w w':=by
 obtain ⟨i0,hi,hz0,hz1,hz2⟩:=infoU8
 go_enter Tryz.func97,Tryz.ntmps97
 go_wp2_with fail
 refine (copyCheckR B b l w h).mono ?_
 rintro e w1 ⟨rfl,h1,hb1,hkw,hz⟩
 clear hz
 obtain ⟨hB,v,hbk,hown,hne⟩:=h1
 have c0:w1.cell? ⟨b,0,none⟩=some (.pointer (some ⟨b,0,none⟩)):=by rw [Lib.cell_of_heap hbk];rfl
 have c1:w1.cell? ⟨b,1,none⟩=some v:=by rw [Lib.cell_of_heap hbk];rfl
 have hlt:b < w1.heap.size:=cell_lt c0
 go_wp2_with (at_builtin;refine wpList_append_slQ rfl (.tmp 11) (.tmp 13) 63 rfl B 5 i0 Tryz.underlying63 hi hz0 hz1 hz2 _ _ _ rfl (hown.alloc _) ⟨w1.heap.size,0,none⟩ 1 1 [.int .u8 (c.toNat:Int)] rfl rfl ?c1 ?c2 ?c3 ?c5 ?_)
 case c1=>
  intro j u hj
  match j,hj with
  | 0,hj=>simp at hj;subst hj;simp [Addr.add]
 case c2=>intro u hu;simp at hu;subst hu;rfl
 case c3=>rw [Lib.byteCells_length];omega
 case c5=>have:=hb1.size;simp;omega
 intro v' w2 hown' hgrow hwh
 have hb2:w2.heap[b]? = some (.cells #[.pointer (some ⟨b,0,none⟩),v] 67 (0,0)):=by
  rw [hgrow.block b (by simp;omega) (fun e=>hne e.symm),Lib.alloc_old w1 _ b hlt]
  exact hbk
 have d0:w2.cell? ⟨b,0,none⟩=some (.pointer (some ⟨b,0,none⟩)):=by rw [Lib.cell_of_heap hb2];rfl
 have d1:w2.cell? ⟨b,1,none⟩=some v:=by rw [Lib.cell_of_heap hb2];rfl
 have f1:w2.frozen? ⟨b,1,none⟩=false:=Lib.frozen_of_heap hb2 1
 obtain ⟨g,cap,rfl⟩:∃ g cap,v' = .slice (some ⟨g,0,none⟩) ((Lib.byteCells l).length + 1) cap:=by
  rcases hown'.2 with ⟨_,h0⟩ | ⟨g,cap,cur,fz,hv,_⟩
  ·omega
  ·exact ⟨g,cap,hv⟩
 go_wp2_with fail
 go_ret
 refine ⟨rfl,.inr ?_,?_,fun q hq=>?_⟩
 ·have e:Lib.byteCells (l ++ [c])=Lib.byteCells l ++ [.int .u8 (c.toNat:Int)]:=by simp [Lib.byteCells]
  rw [e]
  exact Lib.BuilderAtF.put (T:=67) (e:=5) hB hb2 (bs':=Lib.byteCells l ++ [.int .u8 (c.toNat:Int)]) (by simpa using hown') (by decide)
 ·exact ((hb1.alloc (by have:=hb1.size;omega) _).grown hgrow (by have:=hb1.size;simp;omega) (fun k hk=>(hown.lt k hk).1)).setCell (p:=⟨b,1,none⟩) hB _
 ·obtain ⟨hq1,hk1⟩:=hkw q hq
  have hq2:w2.heap[q]? = w.heap[q]? :=by
   rw [hgrow.block q (by simp;have:=hq1.1;omega) (fun e=>hq1.2.2 v c1 e.symm),Lib.alloc_old w1 _ q hq1.1]
   exact hk1
  refine ⟨⟨by have h2:=hgrow.size;have h3:=hq1.1;simp at h2 ⊢;omega,hq.2.1,fun v2 hv2=>?_⟩,?_⟩
  ·rw [set_same3 w2 ⟨b,1,none⟩ _ _ d1] at hv2
   cases hv2
   intro e
   rcases hwh q e with h | h
   ·exact hq1.2.2 v c1 h
   ·have h2:=hq1.1;have h3:w1.heap.size + 1 ≤ q:=by simpa using h
    omega
  ·rw [(grown_set w2 b 1 _).block q (by have h2:=hgrow.size;have h3:=hq1.1;simp at h2;omega) (fun e=>hq.2.1 (Option.some.inj e))]
   exact hq2
set_option maxHeartbeats 4000000 in
set_option maxRecDepth 100000 in
theorem writeStringR (B b:Nat) (l:List UInt8) (s:ByteArray) (w:World) (h:BuildW B b l w) (hlen:l.length + s.size ≤ 140737488355328) (hBw:B ≤ w.heap.size) :
 Calls Tryz.prog 96 #[.pointer (some ⟨b,0,none⟩),.string s] w fun e w'=>e = .returned (.tuple #[.int .i64 s.size,.nilIface])∧BuildW B b (l ++ s.data.toList) w'∧Below B w w'∧KeepW b w w':=by
 obtain ⟨i0,hi,hz0,hz1,hz2⟩:=infoU8
 go_enter Tryz.func96,Tryz.ntmps96
 go_wp2_with fail
 refine (copyCheckR B b l w h).mono ?_
 rintro e w1 ⟨rfl,h1,hb1,hkw,hz⟩
 clear hz
 obtain ⟨hB,v,hbk,hown,hne⟩:=h1
 have c0:w1.cell? ⟨b,0,none⟩=some (.pointer (some ⟨b,0,none⟩)):=by rw [Lib.cell_of_heap hbk];rfl
 have c1:w1.cell? ⟨b,1,none⟩=some v:=by rw [Lib.cell_of_heap hbk];rfl
 have hlt:b < w1.heap.size:=cell_lt c0
 go_wp2_with (at_builtin;refine wpList_append_strQ (base:=B) (e:=5) (i:=i0) rfl _ _ rfl (by kernel_rfl) (by kernel_rfl) hi hz0 hz1 hz2 (by rfl) hown s (by rfl) ?c3 ?c5 ?_)
 case c3=>rw [Lib.byteCells_length];omega
 case c5=>have:=hb1.size;omega
 intro v' w2 hown' hgrow hwh
 have hb2:w2.heap[b]? = some (.cells #[.pointer (some ⟨b,0,none⟩),v] 67 (0,0)):=by
  rw [hgrow.block b hlt (fun e=>hne e.symm)]
  exact hbk
 have d0:w2.cell? ⟨b,0,none⟩=some (.pointer (some ⟨b,0,none⟩)):=by rw [Lib.cell_of_heap hb2];rfl
 have d1:w2.cell? ⟨b,1,none⟩=some v:=by rw [Lib.cell_of_heap hb2];rfl
 have f1:w2.frozen? ⟨b,1,none⟩=false:=Lib.frozen_of_heap hb2 1
 obtain ⟨ao,n',cap,rfl⟩:∃ ao n' cap,v' = .slice ao n' cap:=by
  rcases hown'.2 with ⟨hv,_⟩ | ⟨g,cap,cur,fz,hv,_⟩
  ·exact ⟨_,_,_,hv⟩
  ·exact ⟨_,_,_,hv⟩
 go_wp2_with fail
 go_ret2
 refine ⟨rfl,.inr ?_,?_,fun q hq=>?_⟩
 ·have e:Lib.byteCells (l ++ s.data.toList)=Lib.byteCells l ++ Lib.strCells s:=by simp [Lib.byteCells,Lib.strCells]
  rw [e]
  exact Lib.BuilderAtF.put (T:=67) (e:=5) hB hb2 (bs':=Lib.byteCells l ++ Lib.strCells s) (by simpa [Lib.strCells_length] using hown') (by decide)
 ·exact (hb1.grown hgrow (by have:=hb1.size;omega) (fun k hk=>(hown.lt k hk).1)).setCell (p:=⟨b,1,none⟩) hB _
 ·obtain ⟨hq1,hk1⟩:=hkw q hq
  have hq2:w2.heap[q]? = w.heap[q]? :=by
   rw [hgrow.block q hq1.1 (fun e=>hq1.2.2 v c1 e.symm)]
   exact hk1
  refine ⟨⟨by have h2:=hgrow.size;have h3:=hq1.1;simp;omega,hq.2.1,fun v2 hv2=>?_⟩,?_⟩
  ·rw [set_same3 w2 ⟨b,1,none⟩ _ _ d1] at hv2
   cases hv2
   intro e
   rcases hwh q e with h | h
   ·exact hq1.2.2 v c1 h
   ·have:=hq1.1;omega
  ·rw [(grown_set w2 b 1 _).block q (by have:=hgrow.size;have:=hq1.1;omega) (fun e=>hq.2.1 (Option.some.inj e))]
   exact hq2
set_option maxHeartbeats 4000000 in
set_option maxRecDepth 100000 in
theorem writerString (B b:Nat) (l:List UInt8) (w:World) (h:BuildW B b l w):Calls Tryz.prog 26 #[.pointer (some ⟨b,0,none⟩)] w fun e w'=>e = .returned (str l)∧Below B w w':=by
 have mixed:=Tryz.lays169.mixed
 have hUS0:∀ (W:World) (q:Option Addr),(Builtin.unsafeString_ #[122,3] 9 #[.pointer q,.int .i64 0]).run Tryz.prog W = .ok (.string ⟨#[]⟩) W:=fun W q=>Lib.run_unsafeString_none W _ _ _ q
 have hBw:=h.Bw
 have one:∀ p,Lib.BuilderAtF 67 5 B b p (Lib.byteCells l) w→Calls Tryz.prog 26 #[.pointer (some ⟨b,0,none⟩)] w fun e w'=>e = .returned (str l)∧Below B w w':=by
  rintro p ⟨hB,v,hbk,hown,hne⟩
  have hlt:b < w.heap.size:=(Array.getElem?_eq_some_iff.1 hbk).1
  rcases hown.2 with ⟨rfl,hz⟩ | ⟨g,cap,cur,fz,rfl,hbg,hg,hfz,hnc,hcm,hcs,htake⟩
  ·obtain rfl:l = []:=by rw [Lib.byteCells_length] at hz;exact List.eq_nil_of_length_eq_zero hz
   have c1:w.drew.cell? ⟨b,1,none⟩=some (.slice none 0 0):=by
    have:w.drew.heap[b]? = some (.cells #[p,.slice none 0 0] 67 (0,0)):=hbk
    rw [Lib.cell_of_heap this];rfl
   have hSD:(Builtin.unsafeSliceData_ #[63] 122 #[.slice none 0 0]).run Tryz.prog w.drew = .ok (.pointer none) w.drew:=rfl
   clear hbk hown hne hz
   go_enter Tryz.func26,Tryz.ntmps26
   go_wp2_with fail
   go_region_o
   all_goals (go_wp2_with fail;go_ret;exact ⟨rfl,Below.drew (Below.refl B w)⟩)
  ·rw [Lib.byteCells_length] at hown hnc hfz hbk
   by_cases h0:l = []
   ·subst h0
    by_cases hc0:cap=0
    ·subst hc0
     have hSD:(Builtin.unsafeSliceData_ #[63] 122 #[.slice (some ⟨g,0,none⟩) 0 0]).run Tryz.prog w.drew = .ok (.pointer (some ⟨w.drew.heap.size,0,none⟩)) (w.drew.alloc (.view ⟨g,0,none⟩ 5)):=
      Lib.run_unsafeSliceData_zero w.drew _ _ 5 Tryz.lays169.t127 ⟨g,0,none⟩ 0 (5,cur.size) (by have hg':w.drew.heap[g]? = some (.cells cur 5 fz):=hg;simp [World.shape?,hg'])
     have c1:w.drew.cell? ⟨b,1,none⟩=some (.slice (some ⟨g,0,none⟩) 0 0):=by
      have:w.drew.heap[b]? = some (.cells #[p,.slice (some ⟨g,0,none⟩) 0 0] 67 (0,0)):=hbk
      rw [Lib.cell_of_heap this];rfl
     have c2:(w.drew.alloc (.view ⟨g,0,none⟩ 5)).cell? ⟨b,1,none⟩=some (.slice (some ⟨g,0,none⟩) 0 0):=by
      have:(w.drew.alloc (.view ⟨g,0,none⟩ 5)).heap[b]? = _:=(Lib.alloc_old w.drew _ b hlt).trans hbk
      rw [Lib.cell_of_heap this];rfl
     have c3:(w.alloc (.view ⟨g,0,none⟩ 5)).drew.cell? ⟨b,1,none⟩=some (.slice (some ⟨g,0,none⟩) 0 0):=c2
     have c0:w.cell? ⟨b,1,none⟩=some (.slice (some ⟨g,0,none⟩) 0 0):=c1
     clear hbk hown hne hg hfz hnc hcm hcs htake
     go_enter Tryz.func26,Tryz.ntmps26
     go_wp2_with fail
     go_region_o
     all_goals (go_wp2_with fail;go_ret;exact ⟨rfl,(Below.drew (Below.refl B w)).alloc hBw _⟩)
    ·have c1:w.drew.cell? ⟨b,1,none⟩=some (.slice (some ⟨g,0,none⟩) 0 cap):=by
      have:w.drew.heap[b]? = some (.cells #[p,.slice (some ⟨g,0,none⟩) 0 cap] 67 (0,0)):=hbk
      rw [Lib.cell_of_heap this];rfl
     have hSD:(Builtin.unsafeSliceData_ #[63] 122 #[.slice (some ⟨g,0,none⟩) 0 cap]).run Tryz.prog w.drew = .ok (.pointer (some ⟨g,0,none⟩)) w.drew:=
      Lib.run_unsafeSliceData_row _ _ _ _ _ _ hc0
     clear hbk hown hne hg hfz hnc hcm hcs htake hc0
     go_enter Tryz.func26,Tryz.ntmps26
     go_wp2_with fail
     go_region_o
     all_goals (go_wp2_with fail;go_ret;exact ⟨rfl,Below.drew (Below.refl B w)⟩)
   ·have hl0:l.length ≠ 0:=by simpa using h0
    have c1:w.drew.cell? ⟨b,1,none⟩=some (.slice (some ⟨g,0,none⟩) l.length cap):=by
     have:w.drew.heap[b]? = some (.cells #[p,.slice (some ⟨g,0,none⟩) l.length cap] 67 (0,0)):=hbk
     rw [Lib.cell_of_heap this];rfl
    have hSD:(Builtin.unsafeSliceData_ #[63] 122 #[.slice (some ⟨g,0,none⟩) l.length cap]).run Tryz.prog w.drew = .ok (.pointer (some ⟨g,0,none⟩)) w.drew:=
     Lib.run_unsafeSliceData_row _ _ _ _ _ _ (by omega)
    have hUS:(Builtin.unsafeString_ #[122,3] 9 #[.pointer (some ⟨g,0,none⟩),.int .i64 (l.length:Int)]).run Tryz.prog w.drew = .ok (.string ⟨l.toArray⟩) (w.drew.freeze ⟨g,0,none⟩ l.length):=by
     refine Lib.run_unsafeString_row w.drew 122 3 9 5 Tryz.lays169.t127 (Tryz.Builder_Extra_169).cellsByte g cur.size (by have hg':w.drew.heap[g]? = some (.cells cur 5 fz):=hg;simp [World.shape?,hg']) l h0 (by omega) (by unfold maxLen at hcm;omega) ?_
     intro j x hx
     exact hown.cells (g:=g) rfl j (.int .u8 x.toNat) (by simp [Lib.byteCells,hx])
    clear hbk hown hne hg hfz hnc hcm hcs htake
    go_enter Tryz.func26,Tryz.ntmps26
    go_wp2_with fail
    go_region_o
    all_goals (go_wp2_with fail;go_ret;exact ⟨rfl,Lib.below_freeze (Below.drew (Below.refl B w)) (p:=⟨g,0,none⟩) hbg _⟩)
 rcases h with h | h
 ·exact one _ h
 ·exact one _ h
end Go.Proofs.YtmdogmpcmkfjpaaGreatDoor.Dt
