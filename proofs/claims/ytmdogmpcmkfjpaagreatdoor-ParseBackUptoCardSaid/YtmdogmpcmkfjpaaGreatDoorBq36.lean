import Derived.Test.YtmdogmpcmkfjpaaGreatDoorBq35
import Derived.Test.YtmdogmpcmkfjpaaGreatDoorBq20
set_option maxRecDepth 100000
set_option maxHeartbeats 64000000
/- Part. -/
namespace Go.Proofs.YtmdogmpcmkfjpaaGreatDoor.Dt
open Go.RowKit Go.Proofs.YtmdogmpcmkfjpaaGreatDoor.By
abbrev Zf2 (us:Nat→Value) (i:Nat) (v:Value):Nat→Value:=fun j=>if j=i then v else us j
theorem updT (dn:Nat→Bool) (i:Nat):upd dn i i=true:=by unfold upd;simp
theorem updN {dn:Nat→Bool} {i j:Nat} (h:j ≠ i):upd dn i j=dn j:=by unfold upd;simp [h]
theorem Z5 {A:Act} {t:Nat} {v:Value} (h:A.eval (.tmp t)=v):A.tmps[t]?.getD undef=v:=by rwa [Zfv,Array.getD_eq_getD_getElem?] at h
structure RJ (w0:World) (lo:Nat) (BX:List (Nat × TypeId × Array Value)) (oc nc:(Nat→Bool)→(Nat→Value)→Value) (Ec:(Nat→Bool)→List PE) (Sc:(Nat→Bool)→List ByteArray)
 (vals:List (Nat × Value)) (lits:List (Nat × TypeId × Nat × Array Value)) (olds:List (Nat × Value)) (fins:List (Nat × Nat)) (dn:Nat→Bool) (us:Nat→Value) (W:World):Prop where
 fs:∃ bx,(∀ b ∈ BX,b ∈ bx)∧FS w0 lo bx (oc dn us) (nc dn us) (Ec dn) (Sc dn) W∧∀ l ∈ lits,dn l.1=true→∃ k,us l.1 = .slice (some ⟨k,0,none⟩) l.2.2.1 l.2.2.1∧(k,l.2.1,l.2.2.2) ∈ bx
 vs:∀ p ∈ vals,dn p.1=true→us p.1=p.2
 old:∀ p ∈ olds,dn p.1=false→us p.1=p.2
 fin:∀ p ∈ fins,dn p.1=true→us p.1=us p.2∧dn p.2=true
section
variable {w0 W W':World} {lo:Nat} {BX:List (Nat × TypeId × Array Value)} {oc nc:(Nat→Bool)→(Nat→Value)→Value} {Ec:(Nat→Bool)→List PE} {Sc:(Nat→Bool)→List ByteArray}
 {vals:List (Nat × Value)} {lits:List (Nat × TypeId × Nat × Array Value)} {olds:List (Nat × Value)} {fins:List (Nat × Nat)} {dn:Nat→Bool} {us:Nat→Value}
theorem FS.drew {bx:List (Nat × TypeId × Array Value)} {ov nv:Value} {E:List PE} {S:List ByteArray} (h:FS w0 lo bx ov nv E S W):FS w0 lo bx ov nv E S W.drew:=h.later (Below.refl _ _).drew
theorem RJ.putB (h:RJ w0 lo BX oc nc Ec Sc vals lits olds fins dn us W) (i:Nat) (v:Value) (hdi:dn i=false)
 (bx:List (Nat × TypeId × Array Value)) (h1:∀ b ∈ BX,b ∈ bx) (h3:∀ l ∈ lits,dn l.1=true→∃ k,us l.1 = .slice (some ⟨k,0,none⟩) l.2.2.1 l.2.2.1∧(k,l.2.1,l.2.2.2) ∈ bx)
 (hfs:∃ by',(∀ b ∈ bx,b ∈ by')∧FS w0 lo by' (oc (upd dn i) (Zf2 us i v)) (nc (upd dn i) (Zf2 us i v)) (Ec (upd dn i)) (Sc (upd dn i)) W' ∧
  ∀ l ∈ lits,l.1=i→∃ k,v = .slice (some ⟨k,0,none⟩) l.2.2.1 l.2.2.1∧(k,l.2.1,l.2.2.2) ∈ by')
 (hv:∀ p ∈ vals,p.1=i→v=p.2) (hf:∀ p ∈ fins,p.1=i→p.2 ≠ i∧v=us p.2∧dn p.2=true):RJ w0 lo BX oc nc Ec Sc vals lits olds fins (upd dn i) (Zf2 us i v) W':=by
 obtain ⟨by',h4,h5,h6⟩:=hfs
 refine ⟨⟨by',fun b hb=>h4 b (h1 b hb),h5,fun l hl hd=>?_⟩,fun p hp hd=>?_,fun p hp hd=>?_,fun p hp hd=>?_⟩
 ·by_cases e:l.1=i
  ·obtain ⟨k,k1,k2⟩:=h6 l hl e
   exact ⟨k,by unfold Zf2;rw [if_pos e];exact k1,k2⟩
  rw [updN e] at hd
  obtain ⟨k,k1,k2⟩:=h3 l hl hd
  exact ⟨k,by unfold Zf2;rw [if_neg e];exact k1,h4 _ k2⟩
 ·by_cases e:p.1=i
  ·unfold Zf2;rw [if_pos e];exact hv p hp e
  rw [updN e] at hd
  unfold Zf2;rw [if_neg e];exact h.vs p hp hd
 ·by_cases e:p.1=i
  ·rw [e,updT] at hd;cases hd
  rw [updN e] at hd
  unfold Zf2;rw [if_neg e];exact h.old p hp hd
 by_cases e:p.1=i
 ·obtain ⟨f1,f2,f3⟩:=hf p hp e
  unfold Zf2
  rw [if_pos e,if_neg f1,updN f1]
  exact ⟨f2,f3⟩
 rw [updN e] at hd
 obtain ⟨f1,f2⟩:=h.fin p hp hd
 have e2:p.2 ≠ i:=fun e2=>by rw [e2,hdi] at f2;cases f2
 unfold Zf2
 rw [if_neg e,if_neg e2,updN e2]
 exact ⟨f1,f2⟩
theorem RJ.put (h:RJ w0 lo BX oc nc Ec Sc vals lits olds fins dn us W) (i:Nat) (v:Value) (hdi:dn i=false)
 (hfs:∀ bx,(∀ b ∈ BX,b ∈ bx)→FS w0 lo bx (oc dn us) (nc dn us) (Ec dn) (Sc dn) W→∃ by',(∀ b ∈ bx,b ∈ by')∧FS w0 lo by' (oc (upd dn i) (Zf2 us i v)) (nc (upd dn i) (Zf2 us i v)) (Ec (upd dn i)) (Sc (upd dn i)) W' ∧
  ∀ l ∈ lits,l.1=i→∃ k,v = .slice (some ⟨k,0,none⟩) l.2.2.1 l.2.2.1∧(k,l.2.1,l.2.2.2) ∈ by')
 (hv:∀ p ∈ vals,p.1=i→v=p.2) (hf:∀ p ∈ fins,p.1=i→p.2 ≠ i∧v=us p.2∧dn p.2=true):RJ w0 lo BX oc nc Ec Sc vals lits olds fins (upd dn i) (Zf2 us i v) W':=by
 obtain ⟨bx,h1,h2,h3⟩:=h.fs
 exact h.putB i v hdi bx h1 h3 (hfs bx h1 h2) hv hf
theorem RJ.val (h:RJ w0 lo BX oc nc Ec Sc vals lits olds fins dn us W) (i:Nat) (v:Value) (hdi:dn i=false) (ho:oc (upd dn i) (Zf2 us i v)=oc dn us) (hn:nc (upd dn i) (Zf2 us i v)=nc dn us) (hE:Ec (upd dn i)=Ec dn) (hS:Sc (upd dn i)=Sc dn)
 (hl:∀ l ∈ lits,l.1 ≠ i) (hv:∀ p ∈ vals,p.1=i→v=p.2) (hf:∀ p ∈ fins,p.1=i→p.2 ≠ i∧v=us p.2∧dn p.2=true):RJ w0 lo BX oc nc Ec Sc vals lits olds fins (upd dn i) (Zf2 us i v) W:=
 h.put i v hdi (fun bx _ hfs=>⟨bx,fun b hb=>hb,by rw [ho,hn,hE,hS];exact hfs,fun l hl' e=>absurd e (hl l hl')⟩) hv hf
theorem RJ.lit (h:RJ w0 lo BX oc nc Ec Sc vals lits olds fins dn us W) (i:Nat) (m:Nat) (T:TypeId) (cs:Array Value) (hdi:dn i=false) (ho:∀ v,oc (upd dn i) (Zf2 us i v)=oc dn us) (hn:∀ v,nc (upd dn i) (Zf2 us i v)=nc dn us) (hE:Ec (upd dn i)=Ec dn) (hS:Sc (upd dn i)=Sc dn)
 (hl:∀ l ∈ lits,l.1=i→l=(i,T,m,cs)) (hv:∀ p ∈ vals,p.1 ≠ i) (hf:∀ p ∈ fins,p.1 ≠ i):RJ w0 lo BX oc nc Ec Sc vals lits olds fins (upd dn i) (Zf2 us i (.slice (some ⟨W.heap.size,0,none⟩) m m)) (W.alloc (.cells cs T)):=
 h.put i _ hdi (fun bx _ hfs=>⟨(W.heap.size,T,cs) :: bx,fun b hb=>by simp [hb],by rw [ho,hn,hE,hS];exact hfs.alloc cs T,fun l hl' e=>by rw [hl l hl' e];exact ⟨_,rfl,by simp⟩⟩) (fun p hp e=>absurd e (hv p hp)) (fun p hp e=>absurd e (hf p hp))
theorem RJ.appS (h:RJ w0 lo BX oc nc Ec Sc vals lits olds fins dn us W) (i:Nat) (hdi:dn i=false) (ty:TypeId) (sv:Value) (X:List ByteArray) (hr:RdZ W 1 sv X.length (X.map .string)) (hsz:(Sc dn).length + X.length ≤ 1000000000)
 (ho:∀ v,oc (upd dn i) (Zf2 us i v)=oc dn us) (hn:∀ v,nc (upd dn i) (Zf2 us i v)=v) (hE:Ec (upd dn i)=Ec dn) (hS:Sc (upd dn i)=Sc dn ++ X) (hl:∀ l ∈ lits,l.1 ≠ i) (hv:∀ p ∈ vals,p.1 ≠ i) (hf:∀ p ∈ fins,p.1 ≠ i) :
 ∃ v' w',(Builtin.append_ #[23,23] ty #[nc dn us,sv]).run Tryz.prog W = .ok v' w'∧RJ w0 lo BX oc nc Ec Sc vals lits olds fins (upd dn i) (Zf2 us i v') w':=by
 obtain ⟨bx,h1,h2,h3⟩:=h.fs
 obtain ⟨v',w',r1,r2⟩:=h2.runS ty sv X hr hsz
 exact ks58
theorem RJ.appE (h:RJ w0 lo BX oc nc Ec Sc vals lits olds fins dn us W) (i:Nat) (hdi:dn i=false) (ty:TypeId) (sv:Value) (X:List PE) (ds:List (List Value)) (hr:RdZ W 8 sv X.length ds.flatten) (hd:ds.length=X.length)
 (hX:∀ (i:Nat) (c:List Value) (x:PE),ds[i]? = some c→X[i]? = some x→c.length=8∧ExR w0 c x) (hsz:(Ec dn).length + X.length ≤ 1000000000)
 (ho:∀ v,oc (upd dn i) (Zf2 us i v)=v) (hn:∀ v,nc (upd dn i) (Zf2 us i v)=nc dn us) (hE:Ec (upd dn i)=Ec dn ++ X) (hS:Sc (upd dn i)=Sc dn) (hl:∀ l ∈ lits,l.1 ≠ i) (hv:∀ p ∈ vals,p.1 ≠ i) (hf:∀ p ∈ fins,p.1 ≠ i) :
 ∃ v' w',(Builtin.append_ #[28,28] ty #[oc dn us,sv]).run Tryz.prog W = .ok v' w'∧RJ w0 lo BX oc nc Ec Sc vals lits olds fins (upd dn i) (Zf2 us i v') w':=by
 obtain ⟨bx,h1,h2,h3⟩:=h.fs
 obtain ⟨v',w',r1,r2⟩:=h2.runE ty sv X ds hr hd hX hsz
 exact ks58
end
end Go.Proofs.YtmdogmpcmkfjpaaGreatDoor.Dt
