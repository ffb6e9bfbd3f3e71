import Derived.Test.YtmdogmpcmkfjpaaGreatDoorBn17
/- Part of the proof (merged). -/
namespace Go.Proofs.YtmdogmpcmkfjpaaGreatDoor.Dt
open Go.RowKit Go.Proofs.YtmdogmpcmkfjpaaGreatDoor.By
theorem PB.row {w0 w w':World} {r:Nat} {tv:Value} {L:List Tk} {en:Int} {s:PS} {o:Option Nat} (h:PB w0 r tv L en s w) (g:w.grownBy w' o) (ho:∀ k,o=some k→r < k):PB w0 r tv L en s w':=by
 cases o with
 | some k=>exact h.other g (ho k rfl)
 | none=>exact h.later ⟨g.os,g.tape,g.output,g.size,fun k hk=>g.block k hk (fun e=>by cases e)⟩
theorem grown_row {w w2 w':World} {r:Nat} {o:Option Nat} (h:w.grownBy w2 (some r)) (g:w2.grownBy w' o) (ho:∀ k,o=some k→w.heap.size ≤ k):w.grownBy w' (some r):=
 ⟨g.os.trans h.os,g.tape.trans h.tape,g.output.trans h.output,Nat.le_trans h.size g.size,fun k hk hn=>(g.block k (Nat.lt_of_lt_of_le hk h.size) (fun e=>by have:=ho k e.symm;omega)).trans (h.block k hk hn)⟩
def veilBs (T:TypeId) (n:Nat) (ps:Array (Nat × Value)):=Instr.buildSlice T n ps
theorem veilBs_eq (T:TypeId) (n:Nat) (ps:Array (Nat × Value)):Instr.buildSlice T n ps=veilBs T n ps:=rfl
def SR (_:World) (c:List Value) (s:ByteArray):Prop:=c = [.string s]
def SvR (_:World) (v:Value) (s:ByteArray):Prop:=v = .string s
theorem hes (m:Nat) (w:World) (v:Value) (s:ByteArray) (h:New m w fun u=>SvR u v s):∃ c:List Value,c.length=1∧(∀ u ∈ c,u.oneCell'=true)∧New m w (fun u=>SR u c s) ∧
 ∀ W,(veilBs 23 1 #[(0,v)]).run Tryz.prog W = .ok (.slice (some ⟨W.heap.size,0,none⟩) 1 1) (W.alloc (.cells c.toArray 9)):=by
 obtain rfl:=h.here
 exact ⟨[.string s],rfl,by simp [Value.oneCell'],New.const rfl,fun W=>by unfold veilBs;go_simp⟩
def AgV {α:Type} (R:World→List Value→α→Prop) (w:World) (v:Value) (x:α):Prop:=∃ cs:List Value,v = .agg cs.toArray∧R w cs x
def Cells {α:Type} (size:Nat) (R:World→List Value→α→Prop):Prop:=∀ (w:World) (c:List Value) (x:α),R w c x→c.length=size∧∀ u ∈ c,u.oneCell'=true
theorem heB {α:Type} {R:World→List Value→α→Prop} {size:Nat} (hsz:Cells size R) (m:Nat) (w:World) (v:Value) (x:α) (h:New m w fun u=>AgV R u v x) :
 ∃ c:List Value,v = .agg c.toArray∧c.length=size∧(∀ u ∈ c,u.oneCell'=true)∧okRow size c.toArray=true∧New m w (fun u=>R u c x):=by
 obtain ⟨c,rfl,hx⟩:=h.here
 obtain ⟨h1,h2⟩:=hsz w c x hx
 refine ⟨c,rfl,h1,h2,okRow_iff.2 ⟨by simpa using h1,by simpa using h2⟩,h.imp fun u ⟨c',e,hu⟩=>?_⟩
 have:c=c':=by simpa using e
 rw [this];exact hu
theorem exCells:Cells 8 ExR:=fun _ _ _ h=>ex_cells h
def ItemR (w:World) (c:List Value) (x:PE × ByteArray):Prop:=∃ ec,c=ec ++ [.string x.2]∧ExR w ec x.1
def OrderR (w:World) (c:List Value) (x:PE × Bool):Prop:=∃ ec,c=ec ++ [.bool x.2]∧ExR w ec x.1
def SetR (w:World) (c:List Value) (x:ByteArray × PE):Prop:=∃ ec,c = .string x.1 :: ec∧ExR w ec x.2
def ColR (_:World) (c:List Value) (x:PCol):Prop:=c = [.string x.name,.int .u8 (x.ty:Int),.bool x.nn]
def SrcR (w:World) (c:List Value) (x:PSrc):Prop:=∃ v,c = [.string x.table,.string x.as,v]∧ExsR w v x.on
def RowR (w:World) (c:List Value) (l:List PE):Prop:=∃ v,c = [v]∧ExsR w v l
theorem itemCells:Cells 9 ItemR:=fun w c x ⟨ec,e,h⟩=>by
 obtain ⟨h1,h2⟩:=ex_cells h
 subst e
 exact ⟨by simp [h1],fun u hu=>by rcases List.mem_append.1 hu with hu | hu;exact h2 u hu;rw [List.mem_singleton.1 hu];rfl⟩
theorem orderCells:Cells 9 OrderR:=fun w c x ⟨ec,e,h⟩=>by
 obtain ⟨h1,h2⟩:=ex_cells h
 subst e
 exact ⟨by simp [h1],fun u hu=>by rcases List.mem_append.1 hu with hu | hu;exact h2 u hu;rw [List.mem_singleton.1 hu];rfl⟩
theorem setCells:Cells 9 SetR:=fun w c x ⟨ec,e,h⟩=>by
 obtain ⟨h1,h2⟩:=ex_cells h
 subst e
 exact ⟨by simp [h1],fun u hu=>by rcases List.mem_cons.1 hu with rfl | hu;rfl;exact h2 u hu⟩
theorem arr9 {c:Array Value} (h:c.size=9):∃ a0 a1 a2 a3 a4 a5 a6 a7 a8,c = #[a0,a1,a2,a3,a4,a5,a6,a7,a8]:=by
 have hl:c.toList.length=9:=by simpa using h
 match hc:c.toList,hl with
 | [a0,a1,a2,a3,a4,a5,a6,a7,a8],_=>exact ⟨a0,a1,a2,a3,a4,a5,a6,a7,a8,Array.toList_inj.1 hc⟩
theorem run_bsItem (c:Array Value) (h:c.size=9) (W:World):(Instr.buildSlice 26 1 #[(0,.agg c)]).run Tryz.prog W = .ok (.slice (some ⟨W.heap.size,0,none⟩) 1 1) (W.alloc (.cells c 106)):=by
 obtain ⟨a0,a1,a2,a3,a4,a5,a6,a7,a8,rfl⟩:=arr9 h
 go_simp
theorem run_bsOrder (c:Array Value) (h:c.size=9) (W:World):(Instr.buildSlice 29 1 #[(0,.agg c)]).run Tryz.prog W = .ok (.slice (some ⟨W.heap.size,0,none⟩) 1 1) (W.alloc (.cells c 114)):=by
 obtain ⟨a0,a1,a2,a3,a4,a5,a6,a7,a8,rfl⟩:=arr9 h
 go_simp
theorem run_bsSet (c:Array Value) (h:c.size=9) (W:World):(Instr.buildSlice 25 1 #[(0,.agg c)]).run Tryz.prog W = .ok (.slice (some ⟨W.heap.size,0,none⟩) 1 1) (W.alloc (.cells c 94)):=by
 obtain ⟨a0,a1,a2,a3,a4,a5,a6,a7,a8,rfl⟩:=arr9 h
 go_simp
theorem run_bsEx (c:Array Value) (h:c.size=8) (W:World):(Instr.buildSlice 28 1 #[(0,.agg c)]).run Tryz.prog W = .ok (.slice (some ⟨W.heap.size,0,none⟩) 1 1) (W.alloc (.cells c 48)):=run_bs1 W c h
theorem heRow (m:Nat) (w:World) (v:Value) (l:List PE) (h:New m w fun u=>ExsR u v l):∃ c:List Value,c.length=1∧(∀ u ∈ c,u.oneCell'=true)∧New m w (fun u=>RowR u c l) ∧
 ∀ W,(veilBs 24 1 #[(0,v)]).run Tryz.prog W = .ok (.slice (some ⟨W.heap.size,0,none⟩) 1 1) (W.alloc (.cells c.toArray 28)):=by
 obtain ⟨a,n,rfl,_⟩:=h.here.shape
 exact ⟨[_],rfl,by simp [Value.oneCell'],h.imp fun u hu=>⟨_,rfl,hu⟩,fun W=>by unfold veilBs;go_simp⟩
theorem elEx:By.Elem Tryz.prog 28 48 8 104 where
 slice:=by kernel_rfl
 info:=by
  have h:(Tryz.prog.info? 48).map (fun i=>(i.zero,i.size,i.bytes))=some (some (.agg #[.int .u8 0,.int .u8 0,.int .i64 0,.string ⟨#[]⟩,.string ⟨#[]⟩,.string ⟨#[]⟩,.int .i64 0,.slice none 0 0]),8,104):=by kernel_rfl
  obtain ⟨i,hi,h1,h2,h3⟩:=info_parts h
  exact ⟨i,_,hi,h1,h2,h3,rfl⟩
 pos:=by decide
theorem elItem:By.Elem Tryz.prog 26 106 9 120 where
 slice:=by kernel_rfl
 info:=by
  have h:(Tryz.prog.info? 106).map (fun i=>(i.zero,i.size,i.bytes))=some (some (.agg #[.int .u8 0,.int .u8 0,.int .i64 0,.string ⟨#[]⟩,.string ⟨#[]⟩,.string ⟨#[]⟩,.int .i64 0,.slice none 0 0,.string ⟨#[]⟩]),9,120):=by kernel_rfl
  obtain ⟨i,hi,h1,h2,h3⟩:=info_parts h
  exact ⟨i,_,hi,h1,h2,h3,rfl⟩
 pos:=by decide
theorem elOrder:By.Elem Tryz.prog 29 114 9 112 where
 slice:=by kernel_rfl
 info:=by
  have h:(Tryz.prog.info? 114).map (fun i=>(i.zero,i.size,i.bytes))=some (some (.agg #[.int .u8 0,.int .u8 0,.int .i64 0,.string ⟨#[]⟩,.string ⟨#[]⟩,.string ⟨#[]⟩,.int .i64 0,.slice none 0 0,.bool false]),9,112):=by kernel_rfl
  obtain ⟨i,hi,h1,h2,h3⟩:=info_parts h
  exact ⟨i,_,hi,h1,h2,h3,rfl⟩
 pos:=by decide
theorem elSet:By.Elem Tryz.prog 25 94 9 120 where
 slice:=by kernel_rfl
 info:=by
  have h:(Tryz.prog.info? 94).map (fun i=>(i.zero,i.size,i.bytes))=some (some (.agg #[.string ⟨#[]⟩,.int .u8 0,.int .u8 0,.int .i64 0,.string ⟨#[]⟩,.string ⟨#[]⟩,.string ⟨#[]⟩,.int .i64 0,.slice none 0 0]),9,120):=by kernel_rfl
  obtain ⟨i,hi,h1,h2,h3⟩:=info_parts h
  exact ⟨i,_,hi,h1,h2,h3,rfl⟩
 pos:=by decide
theorem elSrc:By.Elem Tryz.prog 27 110 3 56 where
 slice:=by kernel_rfl
 info:=by
  have h:(Tryz.prog.info? 110).map (fun i=>(i.zero,i.size,i.bytes))=some (some (.agg #[.string ⟨#[]⟩,.string ⟨#[]⟩,.slice none 0 0]),3,56):=by kernel_rfl
  obtain ⟨i,hi,h1,h2,h3⟩:=info_parts h
  exact ⟨i,_,hi,h1,h2,h3,rfl⟩
 pos:=by decide
theorem elCol:By.Elem Tryz.prog 22 89 3 24 where
 slice:=by kernel_rfl
 info:=by
  have h:(Tryz.prog.info? 89).map (fun i=>(i.zero,i.size,i.bytes))=some (some (.agg #[.string ⟨#[]⟩,.int .u8 0,.bool false]),3,24):=by kernel_rfl
  obtain ⟨i,hi,h1,h2,h3⟩:=info_parts h
  exact ⟨i,_,hi,h1,h2,h3,rfl⟩
 pos:=by decide
theorem elRow:By.Elem Tryz.prog 24 28 1 24 where
 slice:=by kernel_rfl
 info:=by
  have h:(Tryz.prog.info? 28).map (fun i=>(i.zero,i.size,i.bytes))=some (some (.slice none 0 0),1,24):=by kernel_rfl
  obtain ⟨i,hi,h1,h2,h3⟩:=info_parts h
  exact ⟨i,_,hi,h1,h2,h3,rfl⟩
 pos:=by decide
theorem it_size:(Tryz.prog.info? 106).map (·.size)=some 9:=by kernel_rfl
theorem it_struct:∃ fs,Tryz.prog.underlying 106=some (.struct fs):=st_of (by kernel_rfl)
theorem veilSt_it (a:Addr) (v:Value):storeVar 106 a v=veilSt 106 a v:=rfl
theorem veilLd_it (a:Addr):loadVar 106 a=veilLd 106 a:=rfl
theorem run_itSt (W:World) (g:Nat) (cells:Array Value) (hg:rowB 9 W g=true) (h1:okRow 9 cells=true) :
 (veilSt 106 ⟨g,0,none⟩ (.agg cells)).run Tryz.prog W = .ok () (W.setRow g cells):=by
 obtain ⟨t,old,hr,ho,_⟩:=rowB_row hg
 obtain ⟨hc,h1⟩:=okRow_iff.1 h1
 exact run_veilSt it_size W g old cells t hr ho hc h1
theorem run_itNew (W:World) (old cells:Array Value) (t:TypeId) (ho:old.size=9) (h1:okRow 9 cells=true) :
 (veilSt 106 ⟨W.heap.size,0,none⟩ (.agg cells)).run Tryz.prog (W.alloc (.cells old t)) = .ok () (W.alloc (.cells cells t)):=by
 obtain ⟨hc,h1⟩:=okRow_iff.1 h1
 exact run_veilNew it_size W old cells t ho hc h1
theorem run_itLd (W:World) (g:Nat) (hg:rowB 9 W g=true):(veilLd 106 ⟨g,0,none⟩).run Tryz.prog W = .ok (.agg (rowOf W g)) W:=by
 obtain ⟨t,cs,hr,ho,e⟩:=rowB_row hg
 obtain ⟨fs,h⟩:=it_struct
 rw [e]
 exact run_veilLd h it_size W g cs t hr ho
theorem od_size:(Tryz.prog.info? 114).map (·.size)=some 9:=by kernel_rfl
theorem od_struct:∃ fs,Tryz.prog.underlying 114=some (.struct fs):=st_of (by kernel_rfl)
theorem veilSt_od (a:Addr) (v:Value):storeVar 114 a v=veilSt 114 a v:=rfl
theorem veilLd_od (a:Addr):loadVar 114 a=veilLd 114 a:=rfl
theorem run_odSt (W:World) (g:Nat) (cells:Array Value) (hg:rowB 9 W g=true) (h1:okRow 9 cells=true) :
 (veilSt 114 ⟨g,0,none⟩ (.agg cells)).run Tryz.prog W = .ok () (W.setRow g cells):=by
 obtain ⟨t,old,hr,ho,_⟩:=rowB_row hg
 obtain ⟨hc,h1⟩:=okRow_iff.1 h1
 exact run_veilSt od_size W g old cells t hr ho hc h1
theorem run_odNew (W:World) (old cells:Array Value) (t:TypeId) (ho:old.size=9) (h1:okRow 9 cells=true) :
 (veilSt 114 ⟨W.heap.size,0,none⟩ (.agg cells)).run Tryz.prog (W.alloc (.cells old t)) = .ok () (W.alloc (.cells cells t)):=by
 obtain ⟨hc,h1⟩:=okRow_iff.1 h1
 exact run_veilNew od_size W old cells t ho hc h1
theorem run_odLd (W:World) (g:Nat) (hg:rowB 9 W g=true):(veilLd 114 ⟨g,0,none⟩).run Tryz.prog W = .ok (.agg (rowOf W g)) W:=by
 obtain ⟨t,cs,hr,ho,e⟩:=rowB_row hg
 obtain ⟨fs,h⟩:=od_struct
 rw [e]
 exact run_veilLd h od_size W g cs t hr ho
theorem se_size:(Tryz.prog.info? 94).map (·.size)=some 9:=by kernel_rfl
theorem se_struct:∃ fs,Tryz.prog.underlying 94=some (.struct fs):=st_of (by kernel_rfl)
theorem veilSt_se (a:Addr) (v:Value):storeVar 94 a v=veilSt 94 a v:=rfl
theorem veilLd_se (a:Addr):loadVar 94 a=veilLd 94 a:=rfl
theorem run_seSt (W:World) (g:Nat) (cells:Array Value) (hg:rowB 9 W g=true) (h1:okRow 9 cells=true) :
 (veilSt 94 ⟨g,0,none⟩ (.agg cells)).run Tryz.prog W = .ok () (W.setRow g cells):=by
 obtain ⟨t,old,hr,ho,_⟩:=rowB_row hg
 obtain ⟨hc,h1⟩:=okRow_iff.1 h1
 exact run_veilSt se_size W g old cells t hr ho hc h1
theorem run_seNew (W:World) (old cells:Array Value) (t:TypeId) (ho:old.size=9) (h1:okRow 9 cells=true) :
 (veilSt 94 ⟨W.heap.size,0,none⟩ (.agg cells)).run Tryz.prog (W.alloc (.cells old t)) = .ok () (W.alloc (.cells cells t)):=by
 obtain ⟨hc,h1⟩:=okRow_iff.1 h1
 exact run_veilNew se_size W old cells t ho hc h1
theorem run_seLd (W:World) (g:Nat) (hg:rowB 9 W g=true):(veilLd 94 ⟨g,0,none⟩).run Tryz.prog W = .ok (.agg (rowOf W g)) W:=by
 obtain ⟨t,cs,hr,ho,e⟩:=rowB_row hg
 obtain ⟨fs,h⟩:=se_struct
 rw [e]
 exact run_veilLd h se_size W g cs t hr ho
theorem sm_size:(Tryz.prog.info? 31).map (·.size)=some 16:=by kernel_rfl
theorem sm_struct:∃ fs,Tryz.prog.underlying 31=some (.struct fs):=st_of (by kernel_rfl)
theorem veilSt_sm (a:Addr) (v:Value):storeVar 31 a v=veilSt 31 a v:=rfl
theorem veilLd_sm (a:Addr):loadVar 31 a=veilLd 31 a:=rfl
theorem run_smSt (W:World) (g:Nat) (cells:Array Value) (hg:rowB 16 W g=true) (h1:okRow 16 cells=true) :
 (veilSt 31 ⟨g,0,none⟩ (.agg cells)).run Tryz.prog W = .ok () (W.setRow g cells):=by
 obtain ⟨t,old,hr,ho,_⟩:=rowB_row hg
 obtain ⟨hc,h1⟩:=okRow_iff.1 h1
 exact run_veilSt sm_size W g old cells t hr ho hc h1
theorem run_smNew (W:World) (old cells:Array Value) (t:TypeId) (ho:old.size=16) (h1:okRow 16 cells=true) :
 (veilSt 31 ⟨W.heap.size,0,none⟩ (.agg cells)).run Tryz.prog (W.alloc (.cells old t)) = .ok () (W.alloc (.cells cells t)):=by
 obtain ⟨hc,h1⟩:=okRow_iff.1 h1
 exact run_veilNew sm_size W old cells t ho hc h1
theorem run_smLd (W:World) (g:Nat) (hg:rowB 16 W g=true):(veilLd 31 ⟨g,0,none⟩).run Tryz.prog W = .ok (.agg (rowOf W g)) W:=by
 obtain ⟨t,cs,hr,ho,e⟩:=rowB_row hg
 obtain ⟨fs,h⟩:=sm_struct
 rw [e]
 exact run_veilLd h sm_size W g cs t hr ho
theorem ssAt_row {g:Nat} {t:TypeId} {ws:List ByteArray} {w:World} (h:Row g t (ws.map Value.string).toArray w):SsAt w (.slice (some ⟨g,0,none⟩) ws.length ws.length) ws:=
 ⟨_,_,rfl,Nat.le_refl _,fun i x hx=>⟨g,0,rfl,fun j u hu=>by
  match j,hu with
  | 0,hu=>
   simp [sCells] at hu
   subst hu
   exact h.cell (by simp [hx])
  | _ + 1,hu=>simp [sCells] at hu⟩⟩
section
variable {w0:World} {r:Nat} {tv:Value} {L:List Tk} {en:Int} {s:PS}
theorem mustLit (t:ByteArray) (w:World) (h:PB w0 r tv L en s w):Calls Tryz.prog 30 #[.pointer (some ⟨r,0,none⟩),.slice (some ⟨w.heap.size,0,none⟩) 1 1] (w.alloc (.cells #[.string t] 9)) fun e w'=>
 e = .returned (.tuple #[])∧PB w0 r tv L en (mustM L en [t] s).2 w'∧w.grownBy w' (some r):=by
 have hb:=(Below.refl _ w).alloc (Nat.le_refl _) (.cells #[.string t] 9)
 refine (mustW [t] _ _ (h.later hb) (by simp) (fun w' g=>ssAt_row (ws:=[t]) ((row_alloc w 9 #[.string t]).grown g (Nat.ne_of_gt h.lt)))).mono ?_
 rintro e w' ⟨rfl,hp,hg⟩
 exact ⟨rfl,hp,grown_trans (below_grown hb) hg⟩
end
end Go.Proofs.YtmdogmpcmkfjpaaGreatDoor.Dt
