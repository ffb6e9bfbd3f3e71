import Derived.Test.YtmdogmpcmkfjpaaGreatDoorBq39
import Derived.Test.YtmdogmpcmkfjpaaGreatDoorBq20
import Derived.Test.YtmdogmpcmkfjpaaGreatDoorBq31
import Derived.Test.YtmdogmpcmkfjpaaGreatDoorBq09
import Derived.Test.YtmdogmpcmkfjpaaGreatDoorBq28
set_option maxRecDepth 100000
set_option maxHeartbeats 64000000
/- Part. -/
namespace Go.Proofs.YtmdogmpcmkfjpaaGreatDoor.Dt
open Go.ChangeShapes Go.WideShapes Go.RowKit Go.Proofs.YtmdogmpcmkfjpaaGreatDoor.By
section
variable {H:Type} {enc:TypeId × Value→H} {w:World} {base:Nat} {spare:Nat→Bool} {held:Bool} {fuel:Nat} {cs:List Value} {x:DataW H × List MemPlace}
theorem Zbt {i:Nat} {v:Value} (h:(cs.drop i).take 1 = [v]):cs.drop i=v :: cs.drop (i + 1):=by
 have h2:cs.drop (i + 1)=(cs.drop i).drop 1:=by rw [List.drop_drop]
 rw [h2]
 cases hd:cs.drop i with
 | nil=>rw [hd] at h;simp at h
 | cons a l=>rw [hd] at h;simp at h;rw [h];rfl
theorem op_row (h:DataW.trod enc Tryz.prog w base spare held fuel 28 cs=some x) (hL:Lim Tryz.prog 28 x.1):∃ l:List PE,Zo3 w cs l∧((∀ e ∈ l,Zce e)∧l.length ≤ 140737488351232)∧l.length + 1 ≤ bk x.1:=by
 obtain ⟨v,l,h1,h2,h3,h4,h5⟩:=Zn7 h hL
 exact ⟨l,⟨v,h1,h2⟩,⟨h3,h5⟩,h4⟩
theorem Zut (h:DataW.trod enc Tryz.prog w base spare held fuel 23 cs=some x) (hL:Lim Tryz.prog 23 x.1):∃ (v:Value) (l:List (ByteArray)),cs = [v]∧SlR 1 SR w v l∧(∀ a ∈ l,(fun a:ByteArray=>a.size ≤ 140737488351232) a)∧(l.map fun a:ByteArray=>a.size + 1).sum + 1 ≤ bk x.1∧l.length ≤ 140737488351232:=by
 obtain ⟨v,l,rfl,hs,hm,hb⟩:=Zcu (P:=Tryz.prog) (e:=9) (size:=1) 16 (fun cs a=>SR w cs a∧(fun a:ByteArray=>a.size ≤ 140737488351232) a) (fun a:ByteArray=>a.size + 1) (fun cs a h=>by rw [show cs=_ from h.1];rfl) kW kR kR kR (fun n cs y _ hy hl=>by
  obtain ⟨s,h1,h2,h3⟩:=Ziw hy hl
  exact ⟨s,⟨h1,h2⟩,by omega⟩) h hL
 obtain ⟨h1,h2⟩:=Zhr (S:=SR) (p:=fun a:ByteArray=>a.size ≤ 140737488351232) hs fun c a h=>h
 exact ⟨v,l,rfl,h1,h2,hm,by omega⟩
theorem op_cols (h:DataW.trod enc Tryz.prog w base spare held fuel 22 cs=some x) (hL:Lim Tryz.prog 22 x.1):∃ (v:Value) (l:List (Zeu)),cs = [v]∧SlR 3 Zs7 w v l∧(∀ a ∈ l,(fun a:Zeu=>a.ty < 256∧a.name.size ≤ 140737488351232) a)∧(l.map fun a:Zeu=>a.name.size + 2).sum + 1 ≤ bk x.1∧l.length ≤ 140737488351232:=by
 obtain ⟨v,l,rfl,hs,hm,hb⟩:=Zcu (P:=Tryz.prog) (e:=89) (size:=3) 24 (fun cs a=>Zs7 w cs a∧(fun a:Zeu=>a.ty < 256∧a.name.size ≤ 140737488351232) a) (fun a:Zeu=>a.name.size + 2) (fun cs a h=>by rw [show cs=_ from h.1];rfl) kW kR kR kR (fun n cs y _ hy hl=>by
  obtain ⟨s,h1,h2,h3,h4⟩:=op_col hy hl
  exact ⟨s,⟨h1,h2,h3⟩,h4⟩) h hL
 obtain ⟨h1,h2⟩:=Zhr (S:=Zs7) (p:=fun a:Zeu=>a.ty < 256∧a.name.size ≤ 140737488351232) hs fun c a h=>h
 exact ⟨v,l,rfl,h1,h2,hm,by omega⟩
theorem op_rows (h:DataW.trod enc Tryz.prog w base spare held fuel 24 cs=some x) (hL:Lim Tryz.prog 24 x.1):∃ (v:Value) (l:List (List PE)),cs = [v]∧SlR 1 Zo3 w v l∧(∀ a ∈ l,(fun a:List PE=>(∀ e ∈ a,Zce e)∧a.length ≤ 140737488351232) a)∧(l.map fun a:List PE=>a.length + 1).sum + 1 ≤ bk x.1∧l.length ≤ 140737488351232:=by
 obtain ⟨v,l,rfl,hs,hm,hb⟩:=Zcu (P:=Tryz.prog) (e:=28) (size:=1) 24 (fun cs a=>Zo3 w cs a∧(fun a:List PE=>(∀ e ∈ a,Zce e)∧a.length ≤ 140737488351232) a) (fun a:List PE=>a.length + 1) (fun cs a h=>by obtain ⟨v,h1,_⟩:=h.1;rw [h1];rfl) kW kR kR kR (fun n cs y _ hy hl=>by
  obtain ⟨s,h1,h2,h3⟩:=op_row hy hl
  exact ⟨s,⟨h1,h2⟩,h3⟩) h hL
 obtain ⟨h1,h2⟩:=Zhr (S:=Zo3) (p:=fun a:List PE=>(∀ e ∈ a,Zce e)∧a.length ≤ 140737488351232) hs fun c a h=>h
 exact ⟨v,l,rfl,h1,h2,hm,by omega⟩
theorem op_sets (h:DataW.trod enc Tryz.prog w base spare held fuel 25 cs=some x) (hL:Lim Tryz.prog 25 x.1):∃ (v:Value) (l:List (ByteArray × PE)),cs = [v]∧SlR 9 Zm3 w v l∧(∀ a ∈ l,(fun a:ByteArray × PE=>Zce a.2∧a.1.size ≤ 140737488351232) a)∧(l.map fun a:ByteArray × PE=>a.1.size + 2).sum + 1 ≤ bk x.1∧l.length ≤ 140737488351232:=by
 obtain ⟨v,l,rfl,hs,hm,hb⟩:=Zcu (P:=Tryz.prog) (e:=94) (size:=9) 120 (fun cs a=>Zm3 w cs a∧(fun a:ByteArray × PE=>Zce a.2∧a.1.size ≤ 140737488351232) a) (fun a:ByteArray × PE=>a.1.size + 2) (fun cs a h=>by obtain ⟨ec,h1,h2⟩:=h.1;rw [h1,List.length_cons,(Zc9 h2).1]) kW kR kR kR (fun n cs y _ hy hl=>by
  obtain ⟨s,h1,h2,h3,h4⟩:=op_set hy hl
  exact ⟨s,⟨h1,h2,h3⟩,h4⟩) h hL
 obtain ⟨h1,h2⟩:=Zhr (S:=Zm3) (p:=fun a:ByteArray × PE=>Zce a.2∧a.1.size ≤ 140737488351232) hs fun c a h=>h
 exact ⟨v,l,rfl,h1,h2,hm,by omega⟩
theorem op_items (h:DataW.trod enc Tryz.prog w base spare held fuel 26 cs=some x) (hL:Lim Tryz.prog 26 x.1):∃ (v:Value) (l:List (PE × ByteArray)),cs = [v]∧SlR 9 Zfl w v l∧(∀ a ∈ l,(fun a:PE × ByteArray=>Zce a.1∧a.2.size ≤ 140737488351232) a)∧(l.map fun a:PE × ByteArray=>a.2.size + 2).sum + 1 ≤ bk x.1∧l.length ≤ 140737488351232:=by
 obtain ⟨v,l,rfl,hs,hm,hb⟩:=Zcu (P:=Tryz.prog) (e:=106) (size:=9) 120 (fun cs a=>Zfl w cs a∧(fun a:PE × ByteArray=>Zce a.1∧a.2.size ≤ 140737488351232) a) (fun a:PE × ByteArray=>a.2.size + 2) (fun cs a h=>by obtain ⟨ec,h1,h2⟩:=h.1;rw [h1,List.length_append,(Zc9 h2).1];rfl) kW kR kR kR (fun n cs y _ hy hl=>by
  obtain ⟨s,h1,h2,h3,h4⟩:=op_item hy hl
  exact ⟨s,⟨h1,h2,h3⟩,h4⟩) h hL
 obtain ⟨h1,h2⟩:=Zhr (S:=Zfl) (p:=fun a:PE × ByteArray=>Zce a.1∧a.2.size ≤ 140737488351232) hs fun c a h=>h
 exact ⟨v,l,rfl,h1,h2,hm,by omega⟩
theorem op_srcs (h:DataW.trod enc Tryz.prog w base spare held fuel 27 cs=some x) (hL:Lim Tryz.prog 27 x.1):∃ (v:Value) (l:List (Zec)),cs = [v]∧SlR 3 Zo2 w v l∧(∀ a ∈ l,(fun a:Zec=>(∀ e ∈ a.on,Zce e)∧a.on.length ≤ 140737488351232∧a.table.size ≤ 140737488351232∧a.as.size ≤ 140737488351232) a)∧(l.map fun a:Zec=>a.on.length + a.table.size + a.as.size + 4).sum + 1 ≤ bk x.1∧l.length ≤ 140737488351232:=by
 obtain ⟨v,l,rfl,hs,hm,hb⟩:=Zcu (P:=Tryz.prog) (e:=110) (size:=3) 56 (fun cs a=>Zo2 w cs a∧(fun a:Zec=>(∀ e ∈ a.on,Zce e)∧a.on.length ≤ 140737488351232∧a.table.size ≤ 140737488351232∧a.as.size ≤ 140737488351232) a) (fun a:Zec=>a.on.length + a.table.size + a.as.size + 4) (fun cs a h=>by obtain ⟨v,h1,_⟩:=h.1;rw [h1];rfl) kW kR kR kR (fun n cs y _ hy hl=>by
  obtain ⟨s,h1,h2,h3,h4,h5,h6⟩:=op_src hy hl
  exact ⟨s,⟨h1,h2,h3,h4,h5⟩,h6⟩) h hL
 obtain ⟨h1,h2⟩:=Zhr (S:=Zo2) (p:=fun a:Zec=>(∀ e ∈ a.on,Zce e)∧a.on.length ≤ 140737488351232∧a.table.size ≤ 140737488351232∧a.as.size ≤ 140737488351232) hs fun c a h=>h
 exact ⟨v,l,rfl,h1,h2,hm,by omega⟩
theorem Zuu (h:DataW.trod enc Tryz.prog w base spare held fuel 29 cs=some x) (hL:Lim Tryz.prog 29 x.1):∃ (v:Value) (l:List (PE × Bool)),cs = [v]∧SlR 9 Zdl w v l∧(∀ a ∈ l,(fun a:PE × Bool=>Zce a.1) a)∧(l.map fun _:PE × Bool=>1).sum + 1 ≤ bk x.1∧l.length ≤ 140737488351232:=by
 obtain ⟨v,l,rfl,hs,hm,hb⟩:=Zcu (P:=Tryz.prog) (e:=114) (size:=9) 112 (fun cs a=>Zdl w cs a∧(fun a:PE × Bool=>Zce a.1) a) (fun _:PE × Bool=>1) (fun cs a h=>by obtain ⟨ec,h1,h2⟩:=h.1;rw [h1,List.length_append,(Zc9 h2).1];rfl) kW kR kR kR (fun n cs y _ hy hl=>by
  obtain ⟨s,h1,h2,h3⟩:=op_order hy hl
  exact ⟨s,⟨h1,h2⟩,h3⟩) h hL
 obtain ⟨h1,h2⟩:=Zhr (S:=Zdl) (p:=fun a:PE × Bool=>Zce a.1) hs fun c a h=>h
 exact ⟨v,l,rfl,h1,h2,hm,by omega⟩
structure GoodS (s:PSt) (B:Nat):Prop where
 kind:s.kind < 256
 lim:-9223372036854775808 ≤ s.limit∧s.limit ≤ 9223372036854775807
 table:s.table.size ≤ 140737488351232
 name:s.name.size ≤ 140737488351232
 cols:∀ a ∈ s.cols,a.ty < 256∧a.name.size ≤ 140737488351232
 key:∀ a ∈ s.key,a.size ≤ 140737488351232
 names:∀ a ∈ s.names,a.size ≤ 140737488351232
 rows:∀ a ∈ s.rows,(∀ e ∈ a,Zce e)∧a.length ≤ 140737488351232
 sets:∀ a ∈ s.sets,Zce a.2∧a.1.size ≤ 140737488351232
 items:∀ a ∈ s.items,Zce a.1∧a.2.size ≤ 140737488351232
 src:∀ a ∈ s.src,(∀ e ∈ a.on,Zce e)∧a.on.length ≤ 140737488351232∧a.table.size ≤ 140737488351232∧a.as.size ≤ 140737488351232
 wh:∀ e ∈ s.wh,Zce e
 group:∀ e ∈ s.group,Zce e
 having:∀ e ∈ s.having,Zce e
 order:∀ a ∈ s.order,Zce a.1
 lens:s.cols.length ≤ 140737488351232∧s.key.length ≤ 140737488351232∧s.names.length ≤ 140737488351232∧s.rows.length ≤ 140737488351232∧s.sets.length ≤ 140737488351232∧s.items.length ≤ 140737488351232∧s.src.length ≤ 140737488351232∧s.wh.length ≤ 140737488351232∧s.group.length ≤ 140737488351232∧s.having.length ≤ 140737488351232∧s.order.length ≤ 140737488351232
 bulk:s.table.size + s.name.size + (s.cols.map fun a=>a.name.size + 2).sum + (s.key.map fun a=>a.size + 1).sum + (s.names.map fun a=>a.size + 1).sum + (s.rows.map fun a=>a.length + 1).sum + (s.sets.map fun a=>a.1.size + 2).sum + (s.items.map fun a=>a.2.size + 2).sum +
  (s.src.map fun a=>a.on.length + a.table.size + a.as.size + 4).sum + s.wh.length + s.group.length + s.having.length + (s.order.map fun _=>1).sum ≤ B
theorem op_St (h:DataW.trod enc Tryz.prog w base spare held fuel 31 cs=some x) (hL:Lim Tryz.prog 31 x.1):∃ s:PSt,StR w cs s∧GoodS s (bk x.1):=by
 obtain ⟨hl,xs,n,_,hx,hbk,hall⟩:=fields_of h (N:=16) kR kW
 rw [show Tryz.prog.cellsOf 31=16 by kernel_rfl] at hl
 obtain ⟨y0,e0,h0,L0⟩:=hall 0 5 0 kR
 rw [show Tryz.prog.cellsOf 5=1 by kernel_rfl] at h0
 obtain ⟨i0,d0,_,wn0⟩:=DataW.trod_int kR h0
 obtain ⟨lo0,hi0⟩:=bounds_u8 wn0
 obtain ⟨s0,rfl⟩:=Int.eq_ofNat_of_zero_le lo0
 obtain ⟨y1,e1,h1,L1⟩:=hall 1 9 1 kR
 rw [show Tryz.prog.cellsOf 9=1 by kernel_rfl] at h1
 obtain ⟨s1,d1,z1,m1⟩:=Ziw h1 (L1 hL)
 obtain ⟨y2,e2,h2,L2⟩:=hall 2 9 2 kR
 rw [show Tryz.prog.cellsOf 9=1 by kernel_rfl] at h2
 obtain ⟨s2,d2,z2,m2⟩:=Ziw h2 (L2 hL)
 obtain ⟨y3,e3,h3,L3⟩:=hall 3 4 3 kR
 rw [show Tryz.prog.cellsOf 4=1 by kernel_rfl] at h3
 obtain ⟨s3,d3,_⟩:=DataW.trod_bool kR h3
 obtain ⟨y4,e4,h4,L4⟩:=hall 4 22 4 kR
 rw [show Tryz.prog.cellsOf 22=1 by kernel_rfl] at h4
 obtain ⟨v4,s4,d4,r4,p4,m4,k4⟩:=op_cols h4 (L4 hL)
 obtain ⟨y5,e5,h5,L5⟩:=hall 5 23 5 kR
 rw [show Tryz.prog.cellsOf 23=1 by kernel_rfl] at h5
 obtain ⟨v5,s5,d5,r5,p5,m5,k5⟩:=Zut h5 (L5 hL)
 obtain ⟨y6,e6,h6,L6⟩:=hall 6 23 6 kR
 rw [show Tryz.prog.cellsOf 23=1 by kernel_rfl] at h6
 obtain ⟨v6,s6,d6,r6,p6,m6,k6⟩:=Zut h6 (L6 hL)
 obtain ⟨y7,e7,h7,L7⟩:=hall 7 24 7 kR
 rw [show Tryz.prog.cellsOf 24=1 by kernel_rfl] at h7
 obtain ⟨v7,s7,d7,r7,p7,m7,k7⟩:=op_rows h7 (L7 hL)
 obtain ⟨y8,e8,h8,L8⟩:=hall 8 25 8 kR
 rw [show Tryz.prog.cellsOf 25=1 by kernel_rfl] at h8
 obtain ⟨v8,s8,d8,r8,p8,m8,k8⟩:=op_sets h8 (L8 hL)
 obtain ⟨y9,e9,h9,L9⟩:=hall 9 26 9 kR
 rw [show Tryz.prog.cellsOf 26=1 by kernel_rfl] at h9
 obtain ⟨v9,s9,d9,r9,p9,m9,k9⟩:=op_items h9 (L9 hL)
 obtain ⟨y10,e10,h10,L10⟩:=hall 10 27 10 kR
 rw [show Tryz.prog.cellsOf 27=1 by kernel_rfl] at h10
 obtain ⟨v10,s10,d10,r10,p10,m10,k10⟩:=op_srcs h10 (L10 hL)
 obtain ⟨y11,e11,h11,L11⟩:=hall 11 28 11 kR
 rw [show Tryz.prog.cellsOf 28=1 by kernel_rfl] at h11
 obtain ⟨v11,s11,d11,r11,p11,m11,k11⟩:=Zn7 h11 (L11 hL)
 obtain ⟨y12,e12,h12,L12⟩:=hall 12 28 12 kR
 rw [show Tryz.prog.cellsOf 28=1 by kernel_rfl] at h12
 obtain ⟨v12,s12,d12,r12,p12,m12,k12⟩:=Zn7 h12 (L12 hL)
 obtain ⟨y13,e13,h13,L13⟩:=hall 13 28 13 kR
 rw [show Tryz.prog.cellsOf 28=1 by kernel_rfl] at h13
 obtain ⟨v13,s13,d13,r13,p13,m13,k13⟩:=Zn7 h13 (L13 hL)
 obtain ⟨y14,e14,h14,L14⟩:=hall 14 29 14 kR
 rw [show Tryz.prog.cellsOf 29=1 by kernel_rfl] at h14
 obtain ⟨v14,s14,d14,r14,p14,m14,k14⟩:=Zuu h14 (L14 hL)
 obtain ⟨y15,e15,h15,L15⟩:=hall 15 3 15 kR
 rw [show Tryz.prog.cellsOf 3=1 by kernel_rfl] at h15
 obtain ⟨s15,d15,_,wn15⟩:=DataW.trod_int kR h15
 obtain ⟨lo15,hi15⟩:=bounds_i64 wn15
 have hsum:bk y0.1 + bk y1.1 + bk y2.1 + bk y3.1 + bk y4.1 + bk y5.1 + bk y6.1 + bk y7.1 + bk y8.1 + bk y9.1 + bk y10.1 + bk y11.1 + bk y12.1 + bk y13.1 + bk y14.1 + bk y15.1 + 16 ≤ bk x.1 + 16:=by
  rw [hbk]
  have hg:∀ (i:Nat) (y:DataW H × List MemPlace),xs[i]? = some y→xs.drop i=y :: xs.drop (i + 1):=fun i y hy=>by
   have hlt:=(List.getElem?_eq_some_iff.1 hy).1
   rw [List.drop_eq_getElem_cons hlt]
   rw [List.getElem?_eq_getElem hlt] at hy
   cases hy
   rfl
  have e:xs = [y0,y1,y2,y3,y4,y5,y6,y7,y8,y9,y10,y11,y12,y13,y14,y15]:=by
   have h0:xs=xs.drop 0:=rfl
   rw [h0,hg 0 y0 e0,hg 1 y1 e1,hg 2 y2 e2,hg 3 y3 e3,hg 4 y4 e4,hg 5 y5 e5,hg 6 y6 e6,hg 7 y7 e7,hg 8 y8 e8,hg 9 y9 e9,hg 10 y10 e10,hg 11 y11 e11,hg 12 y12 e12,hg 13 y13 e13,hg 14 y14 e14,hg 15 y15 e15,List.drop_of_length_le kW]
  rw [e]
  show _ ≤ bk y0.1 + (bk y1.1 + (bk y2.1 + (bk y3.1 + (bk y4.1 + (bk y5.1 + (bk y6.1 + (bk y7.1 + (bk y8.1 + (bk y9.1 + (bk y10.1 + (bk y11.1 + (bk y12.1 + (bk y13.1 + (bk y14.1 + (bk y15.1 + 0))))))))))))))) + 1 + 16
  omega
 have ecs:cs = [.int .u8 (s0:Int),.string s1,.string s2,.bool s3,v4,v5,v6,v7,v8,v9,v10,v11,v12,v13,v14,.int .i64 s15]:=by
  have h0:cs=cs.drop 0:=rfl
  rw [h0,Zbt d0,Zbt d1,Zbt d2,Zbt d3,Zbt d4,Zbt d5,Zbt d6,Zbt d7,Zbt d8,Zbt d9,Zbt d10,Zbt d11,Zbt d12,Zbt d13,Zbt d14,Zbt d15,List.drop_of_length_le kW]
 refine ⟨{ kind:=s0,table:=s1,name:=s2,uniq:=s3,cols:=s4,key:=s5,names:=s6,rows:=s7,sets:=s8,items:=s9,src:=s10,wh:=s11,group:=s12,having:=s13,order:=s14,limit:=s15 },⟨v4,v5,v6,v7,v8,v9,v10,v11,v12,v13,v14,ecs,r4,r5,r6,r7,r8,r9,r10,r11,r12,r13,r14⟩,⟨by show s0 < 256;omega,⟨by show _ ≤ s15;omega,by show s15 ≤ _;omega⟩,z1,z2,p4,p5,p6,p7,p8,p9,p10,p11,p12,p13,p14,⟨k4,k5,k6,k7,k8,k9,k10,k11,k12,k13,k14⟩,?_⟩⟩
 show s1.size + s2.size + (s4.map fun a:Zeu=>a.name.size + 2).sum + (s5.map fun a:ByteArray=>a.size + 1).sum + (s6.map fun a:ByteArray=>a.size + 1).sum + (s7.map fun a:List PE=>a.length + 1).sum + (s8.map fun a:ByteArray × PE=>a.1.size + 2).sum + (s9.map fun a:PE × ByteArray=>a.2.size + 2).sum +
  (s10.map fun a:Zec=>a.on.length + a.table.size + a.as.size + 4).sum + s11.length + s12.length + s13.length + (s14.map fun _:PE × Bool=>1).sum ≤ _
 omega
end
def tyB (k:Nat):ByteArray:=if k=0 then ⟨#[63]⟩ else if k=1 then Zeo else if k=2 then Zm0 else Zm2
theorem tyT_at (n:Nat):(tyT[n % 4]?).getD []=W1 (tyB (n % 4)):=by
 have h:n % 4 < 4:=Nat.mod_lt _ kD
 generalize n % 4=k at *
 rcases (by omega:k=0 ∨ k=1 ∨ k=2 ∨ k=3) with rfl | rfl | rfl | rfl <;> rfl
theorem and3 {n:Nat} (h:n < 256):bits BinOp.and IntKind.u8 (n:Int) 3=((n % 4:Nat):Int):=by
 have h1:∀ k:Fin 256,bits BinOp.and IntKind.u8 ((k.val:Nat):Int) 3=((k.val % 4:Nat):Int):=by decide +kernel
 exact h1 ⟨n,h⟩
def colT (c:Zeu) (a:List UInt8):List UInt8:=Ze [W1 Zy] (if c.nn then Ze [W1 Zfx,W1 Zbr] (Ze [W1 c.name,W1 (tyB (c.ty % 4))] a) else Ze [W1 c.name,W1 (tyB (c.ty % 4))] a)
theorem Zgo (c:Zeu) (l:List Zeu) (a:List UInt8):Zef (c :: l) a=Zef l (colT c a):=by
 show Zef l _=_
 rw [tyT_at]
 rfl
theorem Zkm:∀ (l m:List Zeu) (a:List UInt8),Zef (l ++ m) a=Zef m (Zef l a)
 | [],_,_=>rfl
 | c :: l,m,a=>by rw [List.cons_append,Zgo,Zgo,Zkm l m]
theorem Zop (c:Zeu) (a:List UInt8):(Ze [W1 c.name,W1 (tyB (c.ty % 4))] a).length ≤ (colT c a).length:=by
 unfold colT
 split
 ·exact Nat.le_trans (Zk _ _) (Zk _ _)
 exact Zk _ _
theorem Zkl:∀ (l:List Zeu) (a:List UInt8),a.length ≤ (Zef l a).length
 | [],_=>Nat.le_refl _
 | c :: l,a=>by
  rw [Zgo]
  exact Nat.le_trans (Nat.le_trans (Nat.le_trans (Zk _ _) (Zop c a)) (Nat.le_refl _)) (Zkl l _)
abbrev tyAs:Array Value:=#[.string ⟨#[63]⟩,.string ⟨#[73,78,84,69,71,69,82]⟩,.string ⟨#[84,69,88,84]⟩,.string ⟨#[66,76,79,66]⟩]
theorem idx_ty (k:Nat) (hk:k < 4) (W:World):(Instr.index 149 (.agg tyAs) (.int .u8 (k:Int))).run Tryz.prog W = .ok (.string (tyB k)) W:=by
 have hu:Tryz.prog.underlying 149=some (.array 4 9):=kR
 rcases (by omega:k=0 ∨ k=1 ∨ k=2 ∨ k=3) with rfl | rfl | rfl | rfl <;> (simp [Instr.index,run_underlying hu,asIntOf,go_sem];try rfl)
def TbKn (b:Nat) (c:Zeu) (q1 k:Nat):Nat→Value→World→Prop
 | 0,v,_=>v = pV b
 | 1,v,_=>v = pV q1
 | 2,v,_=>v = .string c.name
 | 3,v,_=>v = .agg tyAs
 | 4,v,_=>v = .pointer (some ⟨q1,1,none⟩)
 | 5,v,_=>v = .int .u8 (c.ty:Int)
 | 6,v,_=>v = .int .u8 (k:Int)
 | 7,v,_=>v = .string (tyB k)
 | 8,v,w=>∃ g,v = .slice (some ⟨g,0,none⟩) 2 2∧BX b g 9 #[.string c.name,.string (tyB k)] w∧b < w.heap.size
 | _,_,_=>True
theorem TbKn.later {b:Nat} {c:Zeu} {q1 k:Nat} : ∀ (j:Nat) (v:Value) (w1 w2:World),TbKn b c q1 k j v w1→Below w1.heap.size w1 w2→TbKn b c q1 k j v w2
 | 0,_,_,_,h,_=>h
 | 1,_,_,_,h,_=>h
 | 2,_,_,_,h,_=>h
 | 3,_,_,_,h,_=>h
 | 4,_,_,_,h,_=>h
 | 5,_,_,_,h,_=>h
 | 6,_,_,_,h,_=>h
 | 7,_,_,_,h,_=>h
 | 8,_,_,_,⟨g,e,h1,h2⟩,hb=>⟨g,e,h1.later hb h2,Nat.lt_of_lt_of_le h2 hb.size⟩
 | _ + 9,_,_,_,_,_=>trivial
theorem createTb (w1:World) (b:Nat) (x:PSt) (H_k:Hid (x.kind=1)) (a4 a5 a6 a7 a8 a9 a10 a11 a12 a13 a14:Option Addr) (n4 n5 n6 n7 n8 n9 n10 n11 n12 n13 n14:Nat) (l:List UInt8) (w:World) (h:WS w1 b l w) (hwk:SlR 1 Zqc w1 (.slice a5 x.key.length n5) x.key) (hn5:x.key.length ≤ 140737488351232)
 (hwc:SlR 3 Zs7 w1 (.slice a4 x.cols.length n4) x.cols) (hn4:x.cols.length ≤ 140737488351232) (hty:∀ c ∈ x.cols,c.ty < 256) (hlen:(Zco x l).length ≤ 140737488355328) :
 Calls Tryz.prog 59 #[pV b,.agg (sA x a4 n4 a5 n5 a6 n6 a7 n7 a8 n8 a9 n9 a10 n10 a11 n11 a12 n12 a13 n13 a14 n14)] w (Zbg w1 b (Zco x l) w):=by
 have HLN:=Lh hlen
 have HN:=Lh hn5
 have HN4:=Lh hn4
 have HTY:=Lh hty
 have HWC:=Lh hwc
 have HX:=Lh (h.box 31 (sA x a4 n4 a5 n5 a6 n6 a7 n7 a8 n8 a9 n9 a10 n10 a11 n11 a12 n12 a13 n13 a14 n14))
 have HQ:=HX
 have HW:=Lh (h.alloc (.cells (sA x a4 n4 a5 n5 a6 n6 a7 n7 a8 n8 a9 n9 a10 n10 a11 n11 a12 n12 a13 n13 a14 n14) 31))
 have HK0:=Lh (h.keepAlloc (.cells (sA x a4 n4 a5 n5 a6 n6 a7 n7 a8 n8 a9 n9 a10 n10 a11 n11 a12 n12 a13 n13 a14 n14) 31))
 clear h hlen hn5 hn4 hty hwc
 go_enter Tryz.func59,Tryz.ntmps59
 go_upto_region 1 with fail
 generalize w.alloc (.cells (sA x a4 n4 a5 n5 a6 n6 a7 n7 a8 n8 a9 n9 a10 n10 a11 n11 a12 n12 a13 n13 a14 n14) 31)=wa at *
 generalize w.heap.size=q at *
 have hk:=H_k.out
 have p0:=HX.out.row.cell (i:=0) (v:=.int .u8 (x.kind:Int)) rfl
 rw [hk] at p0
 have p1:=HX.out.row.cell (i:=1) (v:=.string x.table) rfl
 have HT:Hid (Zco x l=Ze [W1 Zp] (Zdz x.key (Ze [W1 Zbl,W1 Zm1] (Zef x.cols (Ze [W1 Zau,W1 Zcj,W1 x.table,W1 Z9] l))))):=Lh (by unfold Zco;rw [hk];rfl)
 rw [HT.out] at HLN
 generalize hL0:Ze [W1 Zau,W1 Zcj,W1 x.table,W1 Z9] l=L0 at *
 have HLC:Hid ((Zef x.cols L0).length ≤ 140737488355328):=Lh (Nat.le_trans (Nat.le_trans (Nat.le_trans (Zk _ _) (Zfh _ _)) (Zk _ _)) HLN.out)
 have HP2:=Lh (Zas [Zau,Zcj,x.table,Z9] w1 b l wa HW.out (by show (Ze [W1 Zau,W1 Zcj,W1 x.table,W1 Z9] l).length ≤ _;rw [hL0];exact Nat.le_trans (Zkl _ _) HLC.out) kY)
 go_wp2_with fail
 refine HP2.out.mono ?_
 rintro e2 w2 ⟨rfl,hs2,hk2⟩
 have hs2:WS w1 b L0 w2:=by rw [← hL0];exact hs2
 have HW2:=Lh hs2
 have HK2:=Lh (HK0.out.trans hk2)
 have HX2:=Lh (HX.out.keep hk2)
 clear hs2 hk2 HP2 p0 p1 HX HW HQ HK0 hL0
 have p4:=HX2.out.row.cell (i:=4) (v:=.slice a4 x.cols.length n4) rfl
 go_wp2_with fail
 clear p4
 go_loopg [36] x.cols.length (fun gk iv wr=>∃ (i:Nat),iv = .int .i64 (i:Int)∧gk=x.cols.length - i∧i ≤ x.cols.length∧Hid (WS w1 b (Zef (x.cols.take i) L0) wr)∧Hid (Za6 b w2 wr))
 case atStart=>exact ⟨0,rfl,rfl,Nat.zero_le _,HW2,Lh (Za6.refl _ _)⟩
 case round=>
  obtain ⟨i,rfl,rfl,hi,HS,HKE⟩:=hrel
  by_cases hlt:i < x.cols.length
  ·obtain ⟨c,hx⟩:∃ z,x.cols[i]? = some z:=⟨x.cols[i],by simp⟩
   have hsn:Zef (x.cols.take (i + 1)) L0=colT c (Zef (x.cols.take i) L0):=by rw [List.take_add_one,hx];show Zef (x.cols.take i ++ [c]) L0=_;rw [Zkm,Zgo];rfl
   have HLE:Hid ((colT c (Zef (x.cols.take i) L0)).length ≤ 140737488355328):=Lh (by
    have h1:=HLC.out
    rw [show x.cols=x.cols.take (i + 1) ++ x.cols.drop (i + 1) from (List.take_append_drop _ _).symm,Zkm] at h1
    rw [← hsn]
    exact Nat.le_trans (Zkl _ _) h1)
   have HSN:=Lh hsn
   obtain ⟨kq,ko,rfl,g0,g1,g2⟩:=Zrs HWC.out hx
   have p0:=(HS.out.low.cell (Zd g0)).trans g0
   have p1:=(HS.out.low.cell (Zd g1)).trans g1
   have p2:=(HS.out.low.cell (Zd g2)).trans g2
   have ilt:(i:Int) < (x.cols.length:Int):=kW
   have ige:(0:Int) ≤ (i:Int):=kW
   have HLT:=Lh hlt
   have HM:=Lh (HTY.out c (List.mem_of_getElem? hx))
   generalize Zef (x.cols.take i) L0=L1 at *
   have HB:=Lh (HS.out.box 89 #[.string c.name,.int .u8 (c.ty:Int),.bool c.nn])
   have HS1:=Lh (HS.out.alloc (.cells #[.string c.name,.int .u8 (c.ty:Int),.bool c.nn] 89))
   have HKA:=Lh (HKE.out.trans (HS.out.keepAlloc (.cells #[.string c.name,.int .u8 (c.ty:Int),.bool c.nn] 89)))
   clear hx hsn hlt g0 g1 g2
   go_upto_region 11 with fail
   clear p0 p1 p2
   generalize wr.alloc (.cells #[.string c.name,.int .u8 (c.ty:Int),.bool c.nn] 89)=wx at *
   generalize wr.heap.size=q1 at *
   have ha:=and3 HM.out
   have HLP:Hid ((Ze [W1 c.name,W1 (tyB (c.ty % 4))] L1).length ≤ 140737488355328):=Lh (Nat.le_trans (Zop _ _) HLE.out)
   obtain ⟨k,hk4⟩:∃ k,k=c.ty % 4:=⟨_,rfl⟩
   rw [← hk4] at ha HLP
   have HCT:=Lh hk4.symm
   have HK4:Hid (k < 4):=Lh (by rw [hk4];exact Nat.mod_lt _ kD)
   have HAN:=Lh ha
   clear hk4 ha
   refine Zex 9 (TbKn b c q1 k) 69 kY kR kR TbKn.later ?_ ?_
   ·intro i' hi' A W hother hbW hd
    match i',hi' with
    | 0,hi'=>
     have h0:=Zt (show A.eval (.tmp 0) = pV b from hother 0 kR)
     clear hother hd hi'
     exact Zh rfl (Zf rfl) (pV b) kb0 rfl
    | 1,hi'=>
     have h5:=Zt (show A.eval (.tmp 5) = pV q1 from hother 5 kR)
     clear hother hd hi'
     exact Zh rfl (Zf rfl) (pV q1) kb0 rfl
    | 2,hi'=>
     have h41:=(hd _ rfl ⟨1,.data⟩ kY rfl).t (pV q1) 41
     have l0:=(HB.out.later hbW HS1.out.lt).row.cell (i:=0) (v:=.string c.name) rfl
     clear hother hd hi'
     exact Zh rfl (Zf rfl) (.string c.name) kb0 rfl
    | 3,hi'=>
     clear hother hd hi'
     exact Zh rfl (Zf rfl) (.agg tyAs) kb0 rfl
    | 4,hi'=>
     have h5:=Zt (show A.eval (.tmp 5) = pV q1 from hother 5 kR)
     clear hother hd hi'
     exact Zh rfl (Zf rfl) (.pointer (some ⟨q1,1,none⟩)) kb0 rfl
    | 5,hi'=>
     have h44:=(hd _ rfl ⟨4,.data⟩ kY rfl).t (.pointer (some ⟨q1,1,none⟩)) 44
     have l1:=(HB.out.later hbW HS1.out.lt).row.cell (i:=1) (v:=.int .u8 (c.ty:Int)) rfl
     clear hother hd hi'
     exact Zh rfl (Zf rfl) (.int .u8 (c.ty:Int)) kb0 rfl
    | 6,hi'=>
     have h45:=(hd _ rfl ⟨5,.data⟩ kY rfl).t (.int .u8 (c.ty:Int)) 45
     have ha:=HAN.out
     clear hother hd hi'
     exact Zh rfl (Zf rfl) (.int .u8 (k:Int)) kb0 rfl
    | 7,hi'=>
     have h43:=(hd _ rfl ⟨3,.data⟩ kY rfl).t (.agg tyAs) 43
     have h46:=(hd _ rfl ⟨6,.data⟩ kY rfl).t (.int .u8 (k:Int)) 46
     have hi:=idx_ty k HK4.out W
     clear hother hd hi'
     exact Zh rfl (Zf rfl) (.string (tyB k)) kb0 rfl
    | 8,hi'=>
     have h42:=(hd _ rfl ⟨2,.data⟩ kY rfl).t (.string c.name) 42
     have h47:=(hd _ rfl ⟨7,.data⟩ kY rfl).t (.string (tyB k)) 47
     clear hother hd hi'
     exact Zg4 rfl (Zf rfl) (.slice (some ⟨W.heap.size,0,none⟩) 2 2) (W.alloc (.cells #[.string c.name,.string (tyB k)] 9)) kb0 (bA) ⟨_,rfl,(HS1.out.later hbW).box _ _,((HS1.out.later hbW).alloc _).lt⟩
    | n + 9,hi'=>omega
   intro us w3 hb3 hk3
   have h0:us 0 = pV b:=hk3 0 kD
   have h1:us 1 = pV q1:=hk3 1 kD
   have h2:us 2 = .string c.name:=hk3 2 kD
   have h3:us 3 = .agg tyAs:=hk3 3 kD
   have h4:us 4 = .pointer (some ⟨q1,1,none⟩):=hk3 4 kD
   have h5:us 5 = .int .u8 (c.ty:Int):=hk3 5 kD
   have h6:us 6 = .int .u8 (k:Int):=hk3 6 kD
   have h7:us 7 = .string (tyB k):=hk3 7 kD
   obtain ⟨g,h8,hbx,_⟩:TbKn b c q1 k 8 (us 8) w3:=hk3 8 kD
   have HS3:=Lh (HS1.out.later hb3)
   have HK3:=Lh (HKA.out.trans (Za6.below hb3 HS1.out.lt))
   have HB3:=Lh (HB.out.later hb3 HS1.out.lt)
   have HP:=Lh (putsW [c.name,tyB k] w1 b L1 g w3 HS3.out hbx HLP.out kY)
   clear hb3 hk3 hbx
   simp only [Z1,Z7,List.getElem?_toArray,List.getElem?_cons_zero,List.getElem?_cons_succ,Option.bind_some,Act.put,h0,h1,h2,h3,h4,h5,h6,h7,h8,List.drop_succ_cons,List.drop_zero]
   clear h0 h1 h2 h3 h4 h5 h6 h7 h8
   simp only [List.setIfInBounds_toArray,List.set_cons_zero,List.set_cons_succ]
   (
    go_wp2_with fail
    refine HP.out.mono ?_
    rintro e4 w4 ⟨rfl,hs4,hk4⟩
    have HS4:=Lh hs4
    have HK4:=Lh (HK3.out.trans hk4)
    have m2:=(HB3.out.keep hk4).row.cell (i:=2) (v:=.bool c.nn) rfl
    clear hs4 hk4 HP HS3 HK3 HB3
    cases hn:c.nn
    ·rw [hn] at m2
     have HCE:Hid (colT c L1=Ze [W1 Zy] (Ze [W1 c.name,W1 (tyB k)] L1)):=Lh (by unfold colT;rw [hn,HCT.out];rfl)
     have HP:=Lh (Zas [Zy] w1 b _ w4 HS4.out (by have h:=HLE.out;rw [HCE.out] at h;exact h) kY)
     clear hn
     go_wp2_with fail
     refine HP.out.mono ?_
     rintro e5 w5 ⟨rfl,hs5,hk5⟩
     have HS5:Hid (WS w1 b (Zef (x.cols.take (i + 1)) L0) w5):=Lh (by rw [HSN.out,HCE.out];exact hs5)
     have HK5:=Lh (HK4.out.trans hk5)
     clear hs5 hk5 HP m2
     go_wp2_with fail
     go_roundg (x.cols.length - (i + 1))
     case measure=>exact Nat.sub_lt_sub_left HLT.out (Nat.lt_succ_self _)
     case rel=>exact ⟨i + 1,congrArg (Value.int .i64) (by have h2:=HLT.out;have h3:=HN4.out;unfold wrap64;omega),rfl,HLT.out,HS5,HK5⟩
    ·rw [hn] at m2
     have HCE:Hid (colT c L1=Ze [W1 Zy] (Ze [W1 Zfx,W1 Zbr] (Ze [W1 c.name,W1 (tyB k)] L1))):=Lh (by unfold colT;rw [hn,HCT.out];rfl)
     have HP:=Lh (Zas [Zfx,Zbr] w1 b _ w4 HS4.out (by have h:=HLE.out;rw [HCE.out] at h;exact Nat.le_trans (Zk _ _) h) kY)
     clear hn
     go_wp2_with fail
     refine HP.out.mono ?_
     rintro e5 w5 ⟨rfl,hs5,hk5⟩
     have HS5:=Lh hs5
     have HK5:=Lh (HK4.out.trans hk5)
     clear hs5 hk5 HP m2
     have HP:=Lh (Zas [Zy] w1 b _ w5 HS5.out (by have h:=HLE.out;rw [HCE.out] at h;exact h) kY)
     go_wp2_with fail
     refine HP.out.mono ?_
     rintro e6 w6 ⟨rfl,hs6,hk6⟩
     have HS6:Hid (WS w1 b (Zef (x.cols.take (i + 1)) L0) w6):=Lh (by rw [HSN.out,HCE.out];exact hs6)
     have HK6:=Lh (HK5.out.trans hk6)
     clear hs6 hk6 HP
     go_wp2_with fail
     go_roundg (x.cols.length - (i + 1))
     case measure=>exact Nat.sub_lt_sub_left HLT.out (Nat.lt_succ_self _)
     case rel=>exact ⟨i + 1,congrArg (Value.int .i64) (by have h2:=HLT.out;have h3:=HN4.out;unfold wrap64;omega),rfl,HLT.out,HS6,HK6⟩)
  obtain rfl:i=x.cols.length:=kW
  have HS0:Hid (WS w1 b (Zef x.cols L0) wr):=Lh kb5
  have HX3:=Lh (HX2.out.keep HKE.out)
  have HK3:=Lh (HK2.out.trans HKE.out)
  clear hlt hi HS HX2 HW2 HKE HK2
  have HP:=Lh (Zas [Zbl,Zm1] w1 b _ wr HS0.out (Nat.le_trans (Nat.le_trans (Zfh _ _) (Zk _ _)) HLN.out) kY)
  go_wp2_with fail
  refine HP.out.mono ?_
  rintro e4 w4 ⟨rfl,hs4,hk4⟩
  have HS4:=Lh hs4
  have HK4:=Lh (HK3.out.trans hk4)
  have HX4:=Lh (HX3.out.keep hk4)
  clear hs4 hk4 HP
  have p5:=HX4.out.row.cell (i:=5) (v:=.slice a5 x.key.length n5) rfl
  have HC5:=Lh (Zpi w1 b x.key _ w4 _ HS4.out hwk (Nat.le_trans (Zk _ _) HLN.out) HN.out)
  go_wp2_with fail
  refine HC5.out.mono ?_
  rintro e5 w5 ⟨rfl,hs5,hk5⟩
  have HS5:=Lh hs5
  have HK5:=Lh (HK4.out.trans hk5)
  clear hs5 hk5 HC5 p5
  have HP:=Lh (Zas [Zp] w1 b _ w5 HS5.out HLN.out kY)
  go_wp2_with fail
  refine HP.out.mono ?_
  rintro e6 w6 ⟨rfl,hs6,hk6⟩
  have HS6:=Lh hs6
  have HK6:=Lh (HK5.out.trans hk6)
  clear hs6 hk6 HP
  go_wp2_with fail
  go_end0
  exact ⟨rfl,by rw [HT.out];exact HS6.out,HK6.out⟩
namespace nr679
theorem qR0 {p:Prop} (h:p:=by
 rw [hk] at p0
 have HT:Hid (Zb3 x l=Zco x l):=Lh kb7
 rw [HT.out] at HLN
 obtain ⟨-,p1,p2,p3,p4,p5,p6,p7,p8,p9,p10,p11,p12,p13,p14,p15⟩:=sC HX.out.row
 have hc:=createTb w1 b x H_k a4 a5 a6 a7 a8 a9 a10 a11 a12 a13 a14 n4 n5 n6 n7 n8 n9 n10 n11 n12 n13 n14 l wa HW.out hwk hn5 hwc hn4 hty HLN.out
 unfold sA at hc
 rw [hk,show ((1:Nat):Int)=1 from rfl] at hc
 have HC:=Lh hc
 clear hc
 go_wp2_with fail
 refine HC.out.mono ?_
 rintro e3 w3 ⟨rfl,hs3,hk3⟩
 have HW3:=Lh hs3
 have HK3:=Lh (HK0.out.trans hk3)
 clear hs3 hk3 HC c p0 p1 p2 p3 p4 p5 p6 p7 p8 p9 p10 p11 p12 p13 p14 p15
 go_wp2_with fail
 go_end0
 exact ⟨rfl,by rw [HT.out];exact HW3.out,HK3.out⟩):p:=h
end nr679
open nr679 in
theorem stmtTb (w1:World) (b:Nat) (x:PSt) (H_k:Hid (x.kind=1))  (a4 a5 a6 a7 a8 a9 a10 a11 a12 a13 a14:Option Addr) (n4 n5 n6 n7 n8 n9 n10 n11 n12 n13 n14:Nat) (l:List UInt8) (w:World) (h:WS w1 b l w) (hwk:SlR 1 Zqc w1 (.slice a5 x.key.length n5) x.key) (hn5:x.key.length ≤ 140737488351232) (hwc:SlR 3 Zs7 w1 (.slice a4 x.cols.length n4) x.cols) (hn4:x.cols.length ≤ 140737488351232) (hty:∀ c ∈ x.cols,c.ty < 256) (hlen:(Zb3 x l).length ≤ 140737488355328) :
 Calls Tryz.prog 24 #[pV b,.agg (sA x a4 n4 a5 n5 a6 n6 a7 n7 a8 n8 a9 n9 a10 n10 a11 n11 a12 n12 a13 n13 a14 n14)] w (Zbg w1 b (Zb3 x l) w):=by exact kp4
theorem Zk2 (w1:World) (b:Nat) (x:PSt) (H_k:Hid (x.kind=3)) (H_u:Hid (x.uniq=false)) (a4 a5 a6 a7 a8 a9 a10 a11 a12 a13 a14:Option Addr) (n4 n5 n6 n7 n8 n9 n10 n11 n12 n13 n14:Nat) (l:List UInt8) (w:World) (h:WS w1 b l w) (hwk:SlR 1 Zqc w1 (.slice a5 x.key.length n5) x.key) (hn5:x.key.length ≤ 140737488351232) (hlen:(Zco x l).length ≤ 140737488355328) :
 Calls Tryz.prog 59 #[pV b,.agg (sA x a4 n4 a5 n5 a6 n6 a7 n7 a8 n8 a9 n9 a10 n10 a11 n11 a12 n12 a13 n13 a14 n14)] w (Zbg w1 b (Zco x l) w):=by
 have HLN:=Lh hlen
 have HN:=Lh hn5
 have HX:=Lh (h.box 31 (sA x a4 n4 a5 n5 a6 n6 a7 n7 a8 n8 a9 n9 a10 n10 a11 n11 a12 n12 a13 n13 a14 n14))
 have HQ:=HX
 have HW:=Lh (h.alloc (.cells (sA x a4 n4 a5 n5 a6 n6 a7 n7 a8 n8 a9 n9 a10 n10 a11 n11 a12 n12 a13 n13 a14 n14) 31))
 have HK0:=Lh (h.keepAlloc (.cells (sA x a4 n4 a5 n5 a6 n6 a7 n7 a8 n8 a9 n9 a10 n10 a11 n11 a12 n12 a13 n13 a14 n14) 31))
 clear h hlen hn5
 go_enter Tryz.func59,Tryz.ntmps59
 go_upto_region 1 with fail
 generalize w.alloc (.cells (sA x a4 n4 a5 n5 a6 n6 a7 n7 a8 n8 a9 n9 a10 n10 a11 n11 a12 n12 a13 n13 a14 n14) 31)=wa at *
 generalize w.heap.size=q at *
 have hk:=H_k.out
 have hu:=H_u.out
 have p0:=HX.out.row.cell (i:=0) (v:=.int .u8 (x.kind:Int)) rfl
 have p3:=HX.out.row.cell (i:=3) (v:=.bool x.uniq) rfl
 rw [hk] at p0
 rw [hu] at p3
 have HT:Hid (Zco x l=Zdz x.key (Ze [W1 Zbo,W1 x.name,W1 WON,W1 x.table] (Ze [W1 Zau] l))):=Lh (by unfold Zco;rw [hk,hu];rfl)
 rw [HT.out] at HLN
 have HL2:Hid ((Ze [W1 Zbo,W1 x.name,W1 WON,W1 x.table] (Ze [W1 Zau] l)).length ≤ 140737488355328):=Lh (Nat.le_trans (Zfh _ _) HLN.out)
 have HP2:=Lh (Zas [Zau] w1 b l wa HW.out (Nat.le_trans (Zk _ _) HL2.out) kY)
 go_wp2_with fail
 refine HP2.out.mono ?_
 rintro e2 w2 ⟨rfl,hs2,hk2⟩
 have HW2:=Lh hs2
 have HK2:=Lh (HK0.out.trans hk2)
 have HQ2:=Lh (HQ.out.keep hk2)
 have HX2:=Lh (HX.out.keep hk2)
 clear hs2 hk2 HP2 p0 p3
 have p3:=HX2.out.row.cell (i:=3) (v:=.bool x.uniq) rfl
 rw [hu] at p3
 have p1:=HX2.out.row.cell (i:=1) (v:=.string x.table) rfl
 have p2:=HX2.out.row.cell (i:=2) (v:=.string x.name) rfl
 have HP4:=Lh (Zas [Zbo,x.name,WON,x.table] w1 b _ w2 HW2.out (HL2.out) kY)
 go_wp2_with fail
 refine HP4.out.mono ?_
 rintro e4 w4 ⟨rfl,hs4,hk4⟩
 have HW4:=Lh hs4
 have HK4:=Lh (HK2.out.trans hk4)
 have HQ4:=Lh (HQ2.out.keep hk4)
 have HX4:=Lh (HX2.out.keep hk4)
 clear hs4 hk4 HP4 p1 p2 p3
 exact ks33
theorem Zmx (w1:World) (b:Nat) (x:PSt) (H_k:Hid (x.kind=3)) (H_u:Hid (x.uniq=true)) (a4 a5 a6 a7 a8 a9 a10 a11 a12 a13 a14:Option Addr) (n4 n5 n6 n7 n8 n9 n10 n11 n12 n13 n14:Nat) (l:List UInt8) (w:World) (h:WS w1 b l w) (hwk:SlR 1 Zqc w1 (.slice a5 x.key.length n5) x.key) (hn5:x.key.length ≤ 140737488351232) (hlen:(Zco x l).length ≤ 140737488355328) :
 Calls Tryz.prog 59 #[pV b,.agg (sA x a4 n4 a5 n5 a6 n6 a7 n7 a8 n8 a9 n9 a10 n10 a11 n11 a12 n12 a13 n13 a14 n14)] w (Zbg w1 b (Zco x l) w):=by
 have HLN:=Lh hlen
 have HN:=Lh hn5
 have HX:=Lh (h.box 31 (sA x a4 n4 a5 n5 a6 n6 a7 n7 a8 n8 a9 n9 a10 n10 a11 n11 a12 n12 a13 n13 a14 n14))
 have HQ:=HX
 have HW:=Lh (h.alloc (.cells (sA x a4 n4 a5 n5 a6 n6 a7 n7 a8 n8 a9 n9 a10 n10 a11 n11 a12 n12 a13 n13 a14 n14) 31))
 have HK0:=Lh (h.keepAlloc (.cells (sA x a4 n4 a5 n5 a6 n6 a7 n7 a8 n8 a9 n9 a10 n10 a11 n11 a12 n12 a13 n13 a14 n14) 31))
 clear h hlen hn5
 go_enter Tryz.func59,Tryz.ntmps59
 go_upto_region 1 with fail
 generalize w.alloc (.cells (sA x a4 n4 a5 n5 a6 n6 a7 n7 a8 n8 a9 n9 a10 n10 a11 n11 a12 n12 a13 n13 a14 n14) 31)=wa at *
 generalize w.heap.size=q at *
 have hk:=H_k.out
 have hu:=H_u.out
 have p0:=HX.out.row.cell (i:=0) (v:=.int .u8 (x.kind:Int)) rfl
 have p3:=HX.out.row.cell (i:=3) (v:=.bool x.uniq) rfl
 rw [hk] at p0
 rw [hu] at p3
 have HT:Hid (Zco x l=Zdz x.key (Ze [W1 Zbo,W1 x.name,W1 WON,W1 x.table] (Ze [W1 Zde] (Ze [W1 Zau] l)))):=Lh (by unfold Zco;rw [hk,hu];rfl)
 rw [HT.out] at HLN
 have HL2:Hid ((Ze [W1 Zbo,W1 x.name,W1 WON,W1 x.table] (Ze [W1 Zde] (Ze [W1 Zau] l))).length ≤ 140737488355328):=Lh (Nat.le_trans (Zfh _ _) HLN.out)
 have HP2:=Lh (Zas [Zau] w1 b l wa HW.out (Nat.le_trans (Nat.le_trans (Zk _ _) (Zk _ _)) HL2.out) kY)
 go_wp2_with fail
 refine HP2.out.mono ?_
 rintro e2 w2 ⟨rfl,hs2,hk2⟩
 have HW2:=Lh hs2
 have HK2:=Lh (HK0.out.trans hk2)
 have HQ2:=Lh (HQ.out.keep hk2)
 have HX2:=Lh (HX.out.keep hk2)
 clear hs2 hk2 HP2 p0 p3
 have p3:=HX2.out.row.cell (i:=3) (v:=.bool x.uniq) rfl
 rw [hu] at p3
 have HP3:=Lh (Zas [Zde] w1 b _ w2 HW2.out (Nat.le_trans (Zk _ _) HL2.out) kY)
 go_wp2_with fail
 refine HP3.out.mono ?_
 rintro e3 w3 ⟨rfl,hs3,hk3⟩
 have HW3:=Lh hs3
 have HK3:=Lh (HK2.out.trans hk3)
 have HQ3:=Lh (HQ2.out.keep hk3)
 have HX3:=Lh (HX2.out.keep hk3)
 clear hs3 hk3 HP3 p3
 have p1:=HX3.out.row.cell (i:=1) (v:=.string x.table) rfl
 have p2:=HX3.out.row.cell (i:=2) (v:=.string x.name) rfl
 have HP4:=Lh (Zas [Zbo,x.name,WON,x.table] w1 b _ w3 HW3.out (HL2.out) kY)
 go_wp2_with fail
 refine HP4.out.mono ?_
 rintro e4 w4 ⟨rfl,hs4,hk4⟩
 have HW4:=Lh hs4
 have HK4:=Lh (HK3.out.trans hk4)
 have HQ4:=Lh (HQ3.out.keep hk4)
 have HX4:=Lh (HX3.out.keep hk4)
 clear hs4 hk4 HP4 p1 p2
 exact ks33
end Go.Proofs.YtmdogmpcmkfjpaaGreatDoor.Dt
