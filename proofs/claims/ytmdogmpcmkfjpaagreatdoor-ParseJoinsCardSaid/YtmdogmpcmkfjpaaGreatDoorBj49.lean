import Derived.Test.YtmdogmpcmkfjpaaGreatDoorBj47
import Derived.Test.YtmdogmpcmkfjpaaGreatDoorBj48
import Derived.Test.YtmdogmpcmkfjpaaGreatDoorBj30
/- Part of the proof (merged). -/
namespace Go.Proofs.YtmdogmpcmkfjpaaGreatDoor.Dt
open Go.RowKit Go.Proofs.YtmdogmpcmkfjpaaGreatDoor.By
theorem elStrF:By.Elem Tryz.prog 23 9 1 16 where
 slice:=by kernel_rfl
 info:=by
  have h:(Tryz.prog.info? 9).map (fun i=>(i.zero,i.size,i.bytes))=some (some (.string ⟨#[]⟩),1,16):=by kernel_rfl
  obtain ⟨i,hi,h1,h2,h3⟩:=info_parts h
  exact ⟨i,_,hi,h1,h2,h3,rfl⟩
 pos:=by decide
section
variable {w0 w:World} {lo:Nat} {bx:List (Nat × TypeId × Array Value)} {ov nv:Value} {E:List PE} {S:List ByteArray}
theorem cells_ok {w0:World} {X:List PE} {ds:List (List Value)} (hd:ds.length=X.length) (hX:∀ (i:Nat) (c:List Value) (x:PE),ds[i]? = some c→X[i]? = some x→c.length=8∧ExR w0 c x):∀ u ∈ ds.flatten,u.oneCell'=true:=by
 intro u hu
 obtain ⟨c,hc,hu⟩:=List.mem_flatten.1 hu
 obtain ⟨i,hi⟩:=List.getElem?_of_mem hc
 have hil:i < X.length:=by rw [← hd];exact (List.getElem?_eq_some_iff.1 hi).1
 exact (ex_cells (hX i c X[i] hi (by simp [hil])).2).2 u hu
theorem FS.runE (h:FS w0 lo bx ov nv E S w) (ty:TypeId) (sv:Value) (X:List PE) (ds:List (List Value)) (hr:RdZ w 8 sv X.length ds.flatten) (hd:ds.length=X.length)
 (hX:∀ (i:Nat) (c:List Value) (x:PE),ds[i]? = some c→X[i]? = some x→c.length=8∧ExR w0 c x) (hsz:E.length + X.length ≤ 1000000000) :
 ∃ v' w',(Builtin.append_ #[28,28] ty #[ov,sv]).run Tryz.prog w = .ok v' w'∧FS w0 lo bx v' nv (E ++ X) S w':=by
 obtain ⟨cs,h1,h2,h3⟩:=h.e
 obtain ⟨v',w',r1,r2,r3,r4⟩:=run_append_w (P:=Tryz.prog) 28 ty 48 8 104 elEx lo ov E.length cs.flatten h1 sv X.length ds.flatten hr (cells_ok hd hX) (by unfold maxLen;omega) (by omega) h.hl
 exact ⟨v',w',r1,h.moreE cs ⟨h1,h2,h3⟩ r2 hd hX r3 r4⟩
theorem FS.runS (h:FS w0 lo bx ov nv E S w) (ty:TypeId) (sv:Value) (X:List ByteArray) (hr:RdZ w 1 sv X.length (X.map .string)) (hsz:S.length + X.length ≤ 1000000000) :
 ∃ v' w',(Builtin.append_ #[23,23] ty #[nv,sv]).run Tryz.prog w = .ok v' w'∧FS w0 lo bx ov v' E (S ++ X) w':=by
 obtain ⟨v',w',r1,r2,r3,r4⟩:=run_append_w (P:=Tryz.prog) 23 ty 9 1 16 elStrF lo nv S.length (S.map .string) h.s sv X.length (X.map .string) hr (fun u hu=>by obtain ⟨x,_,rfl⟩:=List.mem_map.1 hu;rfl) (by unfold maxLen;omega) (by omega) h.hl
 exact ⟨v',w',r1,h.moreS r2 r3 r4⟩
theorem op_run {P:Program} {ops:Array Oper} {i:Nat} {o:Oper} {a:Act} {w:World} {Q:Exit→Act→World→Prop} {K:Act→World→Prop} (ho:ops[i]? = some o) (hg:o.guard=none) (s x:Operand) (t:TypeId)
 (hop:o.op = .call { callee:=.builtin .append,args:=#[s,x],argTypes:=#[t,t] }) {v sv:Value} (hs:a.eval s=v) (hx:a.eval x=sv) {v':Value} {w':World} (hr:(Builtin.append_ #[t,t] o.type #[v,sv]).run P w = .ok v' w')
 (h:K (a.put (dstOf ops i) v') w'):wpOp P ops Q i K a w:=by
 have hd:dstOf ops i=o.dst:=by unfold dstOf;rw [ho];rfl
 unfold wpOp
 simp only [ho]
 rw [if_pos (by unfold Region.wanted;rw [hg])]
 refine .inl ?_
 unfold Oper.wp execOp
 simp only [hop,resolve,invoke,builtin,Sem.run_bind,Sem.run_pure,Result.andThen_ok,List.map_toArray,List.map_cons,List.map_nil,hs,hx,hr]
 rw [hd] at h
 exact h
theorem list_run {P:Program} {ops:Array Oper} {rest:List Oper} {o:Oper} {a:Act} {w:World} {Q:Exit→Act→World→Prop} (hgd:o.guard=none) (s x:Operand) (t:TypeId)
 (ho:o.op = .call { callee:=.builtin .append,args:=#[s,x],argTypes:=#[t,t] }) {v sv:Value} (hs:a.eval s=v) (hx:a.eval x=sv) {v':Value} {w':World} (hr:(Builtin.append_ #[t,t] o.type #[v,sv]).run P w = .ok v' w')
 (h:wpList P ops Q rest (a.put o.dst v') w'):wpList P ops Q (o :: rest) a w:=by
 refine wpList_plain hgd fun K hK=>?_
 unfold Oper.wp execOp
 simp only [ho,resolve,invoke,builtin,Sem.run_bind,Sem.run_pure,Result.andThen_ok,List.map_toArray,List.map_cons,List.map_nil,hs,hx,hr]
 exact hK _ _ h
end
def tyS (k:Nat):ByteArray:=⟨#[UInt8.ofNat k]⟩
def colF (c:PCol):List ByteArray:=[c.name,tyS c.ty] ++ if c.nn then [⟨#[33]⟩] else []
def fE (x:PSt):List PE:=x.rows.flatMap (fun l=>l ++ [PE.zero]) ++ x.sets.map (·.2) ++ x.items.map (·.1) ++ x.src.flatMap (fun s=>s.on ++ [PE.zero]) ++ (x.wh ++ x.group ++ x.having) ++ x.order.map (·.1)
def fS (x:PSt):List ByteArray:=[x.table,x.name] ++ x.cols.flatMap colF ++ (x.key ++ x.names) ++ x.sets.map (·.1) ++ x.items.map (·.2) ++ x.src.flatMap (fun s=>[s.table,s.as]) ++ x.order.flatMap (fun o=>if o.2 then [⟨#[45]⟩] else [])
def fN (x:PSt):Array Value:=#[.int .i64 ((x.kind:Int) + if x.uniq then 1000 else 0),.int .i64 x.limit,.int .i64 (x.cols.length:Int),.int .i64 (x.key.length:Int),.int .i64 (x.names.length:Int),.int .i64 (x.rows.length:Int),
 .int .i64 (x.sets.length:Int),.int .i64 (x.items.length:Int),.int .i64 (x.src.length:Int),.int .i64 (x.wh.length:Int),.int .i64 (x.group.length:Int),.int .i64 (x.having.length:Int)]
end Go.Proofs.YtmdogmpcmkfjpaaGreatDoor.Dt
namespace Go.Proofs.YtmdogmpcmkfjpaaGreatDoor.Dt
open Go.RowKit Go.Proofs.YtmdogmpcmkfjpaaGreatDoor.By
abbrev setU (us:Nat→Value) (i:Nat) (v:Value):Nat→Value:=fun j=>if j=i then v else us j
theorem updT (dn:Nat→Bool) (i:Nat):upd dn i i=true:=by unfold upd;simp
theorem updN {dn:Nat→Bool} {i j:Nat} (h:j ≠ i):upd dn i j=dn j:=by unfold upd;simp [h]
theorem tmps_fl {A:Act} {t:Nat} {v:Value} (h:A.eval (.tmp t)=v):A.tmps[t]?.getD undef=v:=by rwa [eval_tmp,Array.getD_eq_getD_getElem?] at h
structure RJ (w0:World) (lo:Nat) (BX:List (Nat × TypeId × Array Value)) (oc nc:(Nat→Bool)→(Nat→Value)→Value) (Ec:(Nat→Bool)→List PE) (Sc:(Nat→Bool)→List ByteArray)
 (vals:List (Nat × Value)) (lits:List (Nat × TypeId × Nat × Array Value)) (olds:List (Nat × Value)) (fins:List (Nat × Nat)) (dn:Nat→Bool) (us:Nat→Value) (W:World):Prop where
 fs:∃ bx,(∀ b ∈ BX,b ∈ bx)∧FS w0 lo bx (oc dn us) (nc dn us) (Ec dn) (Sc dn) W∧∀ l ∈ lits,dn l.1=true→∃ k,us l.1 = .slice (some ⟨k,0,none⟩) l.2.2.1 l.2.2.1∧(k,l.2.1,l.2.2.2) ∈ bx
 vs:∀ p ∈ vals,dn p.1=true→us p.1=p.2
 old:∀ p ∈ olds,dn p.1=false→us p.1=p.2
 fin:∀ p ∈ fins,dn p.1=true→us p.1=us p.2∧dn p.2=true
section
variable {w0 W W':World} {lo:Nat} {BX:List (Nat × TypeId × Array Value)} {oc nc:(Nat→Bool)→(Nat→Value)→Value} {Ec:(Nat→Bool)→List PE} {Sc:(Nat→Bool)→List ByteArray}
 {vals:List (Nat × Value)} {lits:List (Nat × TypeId × Nat × Array Value)} {olds:List (Nat × Value)} {fins:List (Nat × Nat)} {dn:Nat→Bool} {us:Nat→Value}
theorem FS.drew {bx:List (Nat × TypeId × Array Value)} {ov nv:Value} {E:List PE} {S:List ByteArray} (h:FS w0 lo bx ov nv E S W):FS w0 lo bx ov nv E S W.drew:=h.later (Below.refl _ _).drew
theorem RJ.putB (h:RJ w0 lo BX oc nc Ec Sc vals lits olds fins dn us W) (i:Nat) (v:Value) (hdi:dn i=false)
 (bx:List (Nat × TypeId × Array Value)) (h1:∀ b ∈ BX,b ∈ bx) (h3:∀ l ∈ lits,dn l.1=true→∃ k,us l.1 = .slice (some ⟨k,0,none⟩) l.2.2.1 l.2.2.1∧(k,l.2.1,l.2.2.2) ∈ bx)
 (hfs:∃ by',(∀ b ∈ bx,b ∈ by')∧FS w0 lo by' (oc (upd dn i) (setU us i v)) (nc (upd dn i) (setU us i v)) (Ec (upd dn i)) (Sc (upd dn i)) W' ∧
  ∀ l ∈ lits,l.1=i→∃ k,v = .slice (some ⟨k,0,none⟩) l.2.2.1 l.2.2.1∧(k,l.2.1,l.2.2.2) ∈ by')
 (hv:∀ p ∈ vals,p.1=i→v=p.2) (hf:∀ p ∈ fins,p.1=i→p.2 ≠ i∧v=us p.2∧dn p.2=true):RJ w0 lo BX oc nc Ec Sc vals lits olds fins (upd dn i) (setU us i v) W':=by
 obtain ⟨by',h4,h5,h6⟩:=hfs
 refine ⟨⟨by',fun b hb=>h4 b (h1 b hb),h5,fun l hl hd=>?_⟩,fun p hp hd=>?_,fun p hp hd=>?_,fun p hp hd=>?_⟩
 ·by_cases e:l.1=i
  ·obtain ⟨k,k1,k2⟩:=h6 l hl e
   exact ⟨k,by unfold setU;rw [if_pos e];exact k1,k2⟩
  ·rw [updN e] at hd
   obtain ⟨k,k1,k2⟩:=h3 l hl hd
   exact ⟨k,by unfold setU;rw [if_neg e];exact k1,h4 _ k2⟩
 ·by_cases e:p.1=i
  ·unfold setU;rw [if_pos e];exact hv p hp e
  ·rw [updN e] at hd
   unfold setU;rw [if_neg e];exact h.vs p hp hd
 ·by_cases e:p.1=i
  ·rw [e,updT] at hd;cases hd
  ·rw [updN e] at hd
   unfold setU;rw [if_neg e];exact h.old p hp hd
 ·by_cases e:p.1=i
  ·obtain ⟨f1,f2,f3⟩:=hf p hp e
   unfold setU
   rw [if_pos e,if_neg f1,updN f1]
   exact ⟨f2,f3⟩
  ·rw [updN e] at hd
   obtain ⟨f1,f2⟩:=h.fin p hp hd
   have e2:p.2 ≠ i:=fun e2=>by rw [e2,hdi] at f2;cases f2
   unfold setU
   rw [if_neg e,if_neg e2,updN e2]
   exact ⟨f1,f2⟩
theorem RJ.put (h:RJ w0 lo BX oc nc Ec Sc vals lits olds fins dn us W) (i:Nat) (v:Value) (hdi:dn i=false)
 (hfs:∀ bx,(∀ b ∈ BX,b ∈ bx)→FS w0 lo bx (oc dn us) (nc dn us) (Ec dn) (Sc dn) W→∃ by',(∀ b ∈ bx,b ∈ by')∧FS w0 lo by' (oc (upd dn i) (setU us i v)) (nc (upd dn i) (setU us i v)) (Ec (upd dn i)) (Sc (upd dn i)) W' ∧
  ∀ l ∈ lits,l.1=i→∃ k,v = .slice (some ⟨k,0,none⟩) l.2.2.1 l.2.2.1∧(k,l.2.1,l.2.2.2) ∈ by')
 (hv:∀ p ∈ vals,p.1=i→v=p.2) (hf:∀ p ∈ fins,p.1=i→p.2 ≠ i∧v=us p.2∧dn p.2=true):RJ w0 lo BX oc nc Ec Sc vals lits olds fins (upd dn i) (setU us i v) W':=by
 obtain ⟨bx,h1,h2,h3⟩:=h.fs
 exact h.putB i v hdi bx h1 h3 (hfs bx h1 h2) hv hf
theorem RJ.val (h:RJ w0 lo BX oc nc Ec Sc vals lits olds fins dn us W) (i:Nat) (v:Value) (hdi:dn i=false) (ho:oc (upd dn i) (setU us i v)=oc dn us) (hn:nc (upd dn i) (setU us i v)=nc dn us) (hE:Ec (upd dn i)=Ec dn) (hS:Sc (upd dn i)=Sc dn)
 (hl:∀ l ∈ lits,l.1 ≠ i) (hv:∀ p ∈ vals,p.1=i→v=p.2) (hf:∀ p ∈ fins,p.1=i→p.2 ≠ i∧v=us p.2∧dn p.2=true):RJ w0 lo BX oc nc Ec Sc vals lits olds fins (upd dn i) (setU us i v) W:=
 h.put i v hdi (fun bx _ hfs=>⟨bx,fun b hb=>hb,by rw [ho,hn,hE,hS];exact hfs,fun l hl' e=>absurd e (hl l hl')⟩) hv hf
theorem RJ.lit (h:RJ w0 lo BX oc nc Ec Sc vals lits olds fins dn us W) (i:Nat) (m:Nat) (T:TypeId) (cs:Array Value) (hdi:dn i=false) (ho:∀ v,oc (upd dn i) (setU us i v)=oc dn us) (hn:∀ v,nc (upd dn i) (setU us i v)=nc dn us) (hE:Ec (upd dn i)=Ec dn) (hS:Sc (upd dn i)=Sc dn)
 (hl:∀ l ∈ lits,l.1=i→l=(i,T,m,cs)) (hv:∀ p ∈ vals,p.1 ≠ i) (hf:∀ p ∈ fins,p.1 ≠ i):RJ w0 lo BX oc nc Ec Sc vals lits olds fins (upd dn i) (setU us i (.slice (some ⟨W.heap.size,0,none⟩) m m)) (W.alloc (.cells cs T)):=
 h.put i _ hdi (fun bx _ hfs=>⟨(W.heap.size,T,cs) :: bx,fun b hb=>by simp [hb],by rw [ho,hn,hE,hS];exact hfs.alloc cs T,fun l hl' e=>by rw [hl l hl' e];exact ⟨_,rfl,by simp⟩⟩) (fun p hp e=>absurd e (hv p hp)) (fun p hp e=>absurd e (hf p hp))
theorem RJ.appS (h:RJ w0 lo BX oc nc Ec Sc vals lits olds fins dn us W) (i:Nat) (hdi:dn i=false) (ty:TypeId) (sv:Value) (X:List ByteArray) (hr:RdZ W 1 sv X.length (X.map .string)) (hsz:(Sc dn).length + X.length ≤ 1000000000)
 (ho:∀ v,oc (upd dn i) (setU us i v)=oc dn us) (hn:∀ v,nc (upd dn i) (setU us i v)=v) (hE:Ec (upd dn i)=Ec dn) (hS:Sc (upd dn i)=Sc dn ++ X) (hl:∀ l ∈ lits,l.1 ≠ i) (hv:∀ p ∈ vals,p.1 ≠ i) (hf:∀ p ∈ fins,p.1 ≠ i) :
 ∃ v' w',(Builtin.append_ #[23,23] ty #[nc dn us,sv]).run Tryz.prog W = .ok v' w'∧RJ w0 lo BX oc nc Ec Sc vals lits olds fins (upd dn i) (setU us i v') w':=by
 obtain ⟨bx,h1,h2,h3⟩:=h.fs
 obtain ⟨v',w',r1,r2⟩:=h2.runS ty sv X hr hsz
 exact ⟨v',w',r1,h.putB i v' hdi bx h1 h3 ⟨bx,fun _ hb=>hb,by rw [ho,hn,hE,hS];exact r2,fun l hl' e=>absurd e (hl l hl')⟩ (fun p hp e=>absurd e (hv p hp)) (fun p hp e=>absurd e (hf p hp))⟩
theorem RJ.appE (h:RJ w0 lo BX oc nc Ec Sc vals lits olds fins dn us W) (i:Nat) (hdi:dn i=false) (ty:TypeId) (sv:Value) (X:List PE) (ds:List (List Value)) (hr:RdZ W 8 sv X.length ds.flatten) (hd:ds.length=X.length)
 (hX:∀ (i:Nat) (c:List Value) (x:PE),ds[i]? = some c→X[i]? = some x→c.length=8∧ExR w0 c x) (hsz:(Ec dn).length + X.length ≤ 1000000000)
 (ho:∀ v,oc (upd dn i) (setU us i v)=v) (hn:∀ v,nc (upd dn i) (setU us i v)=nc dn us) (hE:Ec (upd dn i)=Ec dn ++ X) (hS:Sc (upd dn i)=Sc dn) (hl:∀ l ∈ lits,l.1 ≠ i) (hv:∀ p ∈ vals,p.1 ≠ i) (hf:∀ p ∈ fins,p.1 ≠ i) :
 ∃ v' w',(Builtin.append_ #[28,28] ty #[oc dn us,sv]).run Tryz.prog W = .ok v' w'∧RJ w0 lo BX oc nc Ec Sc vals lits olds fins (upd dn i) (setU us i v') w':=by
 obtain ⟨bx,h1,h2,h3⟩:=h.fs
 obtain ⟨v',w',r1,r2⟩:=h2.runE ty sv X ds hr hd hX hsz
 exact ⟨v',w',r1,h.putB i v' hdi bx h1 h3 ⟨bx,fun _ hb=>hb,by rw [ho,hn,hE,hS];exact r2,fun l hl' e=>absurd e (hl l hl')⟩ (fun p hp e=>absurd e (hv p hp)) (fun p hp e=>absurd e (hf p hp))⟩
end
end Go.Proofs.YtmdogmpcmkfjpaaGreatDoor.Dt
