import Derived.Shelf.Spec.SearchS
import Derived.Test.YtmdogmpcmkfjpaaGreatDoorBj13
import Derived.Test.YtmdogmpcmkfjpaaGreatDoorBj11
import Derived.Test.YtmdogmpcmkfjpaaGreatDoorBj02
/- Part of the proof (merged). -/
namespace Go.Proofs.YtmdogmpcmkfjpaaGreatDoor.Dt
open Go.RowKit Go.Proofs.YtmdogmpcmkfjpaaGreatDoor.By
abbrev BuildW (B b:Nat) (l:List UInt8) (w:World):Prop:=Lib.IsBuilderF 67 5 B b (Lib.byteCells l) w
def KeepW (b:Nat) (w w':World):Prop:=∀ q,Apart q b w→Apart q b w'∧w'.heap[q]? = w.heap[q]?
theorem KeepW.refl (b:Nat) (w:World):KeepW b w w:=fun _ h=>⟨h,rfl⟩
theorem KeepW.trans {b:Nat} {w w1 w2:World} (h:KeepW b w w1) (k:KeepW b w1 w2):KeepW b w w2:=fun q hq=>by
 obtain ⟨h1,e1⟩:=h q hq
 obtain ⟨h2,e2⟩:=k q h1
 exact ⟨h2,e2.trans e1⟩
theorem KeepW.below {b:Nat} {w w':World} (hb:Below w.heap.size w w') (hl:b < w.heap.size):KeepW b w w':=fun q hq=>⟨hq.later hb hl,hb.block q hq.1⟩
theorem BuildW.lt {B b:Nat} {l:List UInt8} {w:World} (h:BuildW B b l w):b < w.heap.size:=by
 rcases h with ⟨_,v,hv,_⟩ | ⟨_,v,hv,_⟩
 ·exact (Array.getElem?_eq_some_iff.1 hv).1
 ·exact (Array.getElem?_eq_some_iff.1 hv).1
theorem BuildW.le {B b:Nat} {l:List UInt8} {w:World} (h:BuildW B b l w):B ≤ b:=by
 rcases h with h | h
 ·exact h.1
 ·exact h.1
theorem BuildW.Bw {B b:Nat} {l:List UInt8} {w:World} (h:BuildW B b l w):B ≤ w.heap.size:=Nat.le_of_lt (Nat.lt_of_le_of_lt h.le h.lt)
theorem BuildW.new {B b:Nat} {l:List UInt8} {w w':World} (h:BuildW B b l w) (hb:Below w.heap.size w w') (hs:w.heap.size < w'.heap.size):Apart w.heap.size b w':=by
 have one:∀ p,Lib.BuilderAtF 67 5 B b p (Lib.byteCells l) w→Apart w.heap.size b w':=by
  rintro p ⟨hB,v,hv,hown,hne⟩
  have hlt:b < w.heap.size:=(Array.getElem?_eq_some_iff.1 hv).1
  refine ⟨hs,by omega,fun v' hv' hk=>?_⟩
  have hc:w.cell? ⟨b,1,none⟩=some v:=by rw [Lib.cell_of_heap hv];rfl
  have hv2:w'.cell? ⟨b,1,none⟩=some v:=(hb.cell (cell_lt hc)).trans hc
  rw [hv2] at hv'
  cases hv'
  have:=(World.ownsRowF.lt hown _ hk).2
  omega
 rcases h with h | h
 ·exact one _ h
 ·exact one _ h
theorem BuildW.later {B b:Nat} {l:List UInt8} {w w':World} (h:BuildW B b l w) (hb:Below w.heap.size w w'):BuildW B b l w':=by
 have one:∀ p,Lib.BuilderAtF 67 5 B b p (Lib.byteCells l) w→Lib.BuilderAtF 67 5 B b p (Lib.byteCells l) w':=by
  rintro p ⟨hB,v,hv,hown,hne⟩
  have hlt:b < w.heap.size:=(Array.getElem?_eq_some_iff.1 hv).1
  exact ⟨hB,v,(hb.block b hlt).trans hv,World.ownsRowF.kept (row:=none) hown ⟨hb.os,hb.tape,hb.output,hb.size,fun i hi _=>hb.block i hi⟩ (by cases v.ownBlock <;> simp),hne⟩
 rcases h with h | h
 ·exact .inl (one _ h)
 ·exact .inr (one _ h)
theorem buildW_new (B:Nat) (w:World) (hB:B ≤ w.heap.size):BuildW B w.heap.size [] (w.alloc (.cells #[.pointer none,.slice none 0 0] 67)):=
 .inl ⟨hB,.slice none 0 0,heap_alloc_new _ _,World.ownsRowF_nil _ _ _ _,fun e=>by cases e⟩
theorem lies_writer:liesAt Tryz.prog Tryz.prog.depth 67 (2 / Tryz.prog.cellsOf 67) 0 65 1=true:=by kernel_rfl
set_option maxHeartbeats 4000000 in
set_option maxRecDepth 100000 in
theorem copyFresh (b:Nat) (w:World) (h0:w.cell? ⟨b,0,none⟩=some (.pointer none)) (hsh:w.shape? b=some (67,2)) (hfz:w.frozen? ⟨b,0,none⟩=false) :
 Calls Tryz.prog 133 #[.pointer (some ⟨b,0,none⟩)] w fun e w'=>e = .returned (.tuple #[])∧w'=w.setCell ⟨b,0,none⟩ (.pointer (some ⟨b,0,none⟩)):=by
 obtain ⟨j,hj,hjs⟩:=Option.map_eq_some_iff.1 (Tryz.Builder_Extra_155).toX72.sizeBuilder
 have e1:(convert 62 190 (.pointer (some ⟨b,0,none⟩))).run Tryz.prog w = .ok (.pointer (some ⟨b,0,none⟩)) w:=Lib.run_to_unsafe w ⟨b,0,none⟩ Tryz.lays155.t70 Tryz.lays155.t164 hj (by rw [hjs];decide) hsh (Nat.zero_lt_succ 1)
 have e2:(convert 190 62 (.pointer (some ⟨b,0,none⟩))).run Tryz.prog w = .ok (.pointer (some ⟨b,0,none⟩)) w:=Lib.run_from_unsafe w ⟨b,0,none⟩ Tryz.lays155.t164 Tryz.lays155.t70 hj hsh lies_writer
 have e3:(callFunc 151 #[.pointer (some ⟨b,0,none⟩)]).run Tryz.prog w = .ok (.value (.pointer (some ⟨b,0,none⟩))) w:=by
  refine (run_callFunc_extern Tryz.lays155.f276 (by kernel_rfl) (by kernel_rfl) (by kernel_rfl) (e:=Extern.AbiNoEscape.same) (by kernel_rfl) _ w).trans ?_
  rw [Lib.run_noEscape]
  rfl
 clear hj hjs
 go_enter Tryz.func133,Tryz.ntmps133
 go_wp2_with fail
 go_end0
 exact ⟨rfl,rfl⟩
set_option maxHeartbeats 4000000 in
set_option maxRecDepth 100000 in
theorem copyCheckR (B b:Nat) (l:List UInt8) (w:World) (h:BuildW B b l w) :
 Calls Tryz.prog 133 #[.pointer (some ⟨b,0,none⟩)] w fun e w'=>e = .returned (.tuple #[])∧Lib.BuilderAtF 67 5 B b (.pointer (some ⟨b,0,none⟩)) (Lib.byteCells l) w'∧Below B w w'∧KeepW b w w'∧w'.heap.size=w.heap.size:=by
 rcases h with h | h
 ·refine (copyFresh b w h.cell0 h.shape h.frozen0).mono ?_
  rintro e w' ⟨rfl,rfl⟩
  refine ⟨rfl,h.used _,(Below.refl B w).setCell (p:=⟨b,0,none⟩) h.1 _,fun q hq=>⟨⟨by simpa using hq.1,hq.2.1,fun v hv=>?_⟩,?_⟩,by simp⟩
  ·rw [set_other w b b 0 1 _ (fun e=>absurd e.2 (by decide))] at hv
   exact hq.2.2 v hv
  ·exact (grown_set w b 0 _).block q hq.1 (fun e=>hq.2.1 (Option.some.inj e))
 ·refine (Any.Builder_copyCheck_used { Tryz.lays155 with } (Tryz.Builder_Extra_155).toX72 b w h.cell0).mono ?_
  rintro e w' ⟨rfl,rfl⟩
  exact ⟨rfl,h,Below.refl B _,KeepW.refl _ _,rfl⟩
set_option maxHeartbeats 4000000 in
set_option maxRecDepth 100000 in
theorem writerLen (B b:Nat) (l:List UInt8) (w:World) (h:BuildW B b l w):Calls Tryz.prog 89 #[.pointer (some ⟨b,0,none⟩)] w fun e w'=>e = .returned (.int .i64 (l.length:Int))∧w'=w:=by
 have hc:∃ a n c,n=l.length∧w.cell? ⟨b,1,none⟩=some (.slice a n c):=by
  have one:∀ p,Lib.BuilderAtF 67 5 B b p (Lib.byteCells l) w→∃ a n c,n=l.length∧w.cell? ⟨b,1,none⟩=some (.slice a n c):=by
   rintro p ⟨hB,v,hv,hown,hne⟩
   have hc:w.cell? ⟨b,1,none⟩=some v:=by rw [Lib.cell_of_heap hv];rfl
   rcases hown.2 with ⟨rfl,hz⟩ | ⟨g,cap,cur,fz,rfl,_⟩
   ·exact ⟨none,0,0,by rw [← hz,Lib.byteCells_length],hc⟩
   ·exact ⟨_,_,_,Lib.byteCells_length l,hc⟩
  rcases h with h | h
  ·exact one _ h
  ·exact one _ h
 obtain ⟨a,n,c,hn,c1⟩:=hc
 clear h
 go_enter Tryz.func89,Tryz.ntmps89
 go_wp2_with fail
 go_ret
 exact ⟨by rw [← hn];rfl,rfl⟩
set_option maxHeartbeats 4000000 in
set_option maxRecDepth 100000 in
theorem writeByteR (B b:Nat) (l:List UInt8) (c:UInt8) (w:World) (h:BuildW B b l w) (hlen:l.length + 1 ≤ 140737488355328) (hBw:B ≤ w.heap.size) :
 Calls Tryz.prog 97 #[.pointer (some ⟨b,0,none⟩),.int .u8 (c.toNat:Int)] w fun e w'=>e = .returned .nilIface∧BuildW B b (l ++ [c]) w'∧Below B w w'∧KeepW b w w':=by
 obtain ⟨i0,hi,hz0,hz1,hz2⟩:=infoU8
 go_enter Tryz.func97,Tryz.ntmps97
 go_wp2_with fail
 refine (copyCheckR B b l w h).mono ?_
 rintro e w1 ⟨rfl,h1,hb1,hkw,hz⟩
 clear hz
 obtain ⟨hB,v,hbk,hown,hne⟩:=h1
 have c0:w1.cell? ⟨b,0,none⟩=some (.pointer (some ⟨b,0,none⟩)):=by rw [Lib.cell_of_heap hbk];rfl
 have c1:w1.cell? ⟨b,1,none⟩=some v:=by rw [Lib.cell_of_heap hbk];rfl
 have hlt:b < w1.heap.size:=cell_lt c0
 go_wp2_with (at_builtin;refine wpList_append_slQ rfl (.tmp 11) (.tmp 13) 63 rfl B 5 i0 Tryz.underlying63 hi hz0 hz1 hz2 _ _ _ rfl (hown.alloc _) ⟨w1.heap.size,0,none⟩ 1 1 [.int .u8 (c.toNat:Int)] rfl rfl ?c1 ?c2 ?c3 ?c5 ?_)
 case c1=>
  intro j u hj
  match j,hj with
  | 0,hj=>simp at hj;subst hj;simp [Addr.add]
 case c2=>intro u hu;simp at hu;subst hu;rfl
 case c3=>rw [Lib.byteCells_length];omega
 case c5=>have:=hb1.size;simp;omega
 intro v' w2 hown' hgrow hwh
 have hb2:w2.heap[b]? = some (.cells #[.pointer (some ⟨b,0,none⟩),v] 67 (0,0)):=by
  rw [hgrow.block b (by simp;omega) (fun e=>hne e.symm),Lib.alloc_old w1 _ b hlt]
  exact hbk
 have d0:w2.cell? ⟨b,0,none⟩=some (.pointer (some ⟨b,0,none⟩)):=by rw [Lib.cell_of_heap hb2];rfl
 have d1:w2.cell? ⟨b,1,none⟩=some v:=by rw [Lib.cell_of_heap hb2];rfl
 have f1:w2.frozen? ⟨b,1,none⟩=false:=Lib.frozen_of_heap hb2 1
 obtain ⟨g,cap,rfl⟩:∃ g cap,v' = .slice (some ⟨g,0,none⟩) ((Lib.byteCells l).length + 1) cap:=by
  rcases hown'.2 with ⟨_,h0⟩ | ⟨g,cap,cur,fz,hv,_⟩
  ·omega
  ·exact ⟨g,cap,hv⟩
 go_wp2_with fail
 go_ret
 refine ⟨rfl,.inr ?_,?_,fun q hq=>?_⟩
 ·have e:Lib.byteCells (l ++ [c])=Lib.byteCells l ++ [.int .u8 (c.toNat:Int)]:=by simp [Lib.byteCells]
  rw [e]
  exact Lib.BuilderAtF.put (T:=67) (e:=5) hB hb2 (bs':=Lib.byteCells l ++ [.int .u8 (c.toNat:Int)]) (by simpa using hown') (by decide)
 ·exact ((hb1.alloc (by have:=hb1.size;omega) _).grown hgrow (by have:=hb1.size;simp;omega) (fun k hk=>(hown.lt k hk).1)).setCell (p:=⟨b,1,none⟩) hB _
 ·obtain ⟨hq1,hk1⟩:=hkw q hq
  have hq2:w2.heap[q]? = w.heap[q]? :=by
   rw [hgrow.block q (by simp;have:=hq1.1;omega) (fun e=>hq1.2.2 v c1 e.symm),Lib.alloc_old w1 _ q hq1.1]
   exact hk1
  refine ⟨⟨by have h2:=hgrow.size;have h3:=hq1.1;simp at h2 ⊢;omega,hq.2.1,fun v2 hv2=>?_⟩,?_⟩
  ·rw [set_same3 w2 ⟨b,1,none⟩ _ _ d1] at hv2
   cases hv2
   intro e
   rcases hwh q e with h | h
   ·exact hq1.2.2 v c1 h
   ·have h2:=hq1.1;have h3:w1.heap.size + 1 ≤ q:=by simpa using h
    omega
  ·rw [(grown_set w2 b 1 _).block q (by have h2:=hgrow.size;have h3:=hq1.1;simp at h2;omega) (fun e=>hq.2.1 (Option.some.inj e))]
   exact hq2
set_option maxHeartbeats 4000000 in
set_option maxRecDepth 100000 in
theorem writeStringR (B b:Nat) (l:List UInt8) (s:ByteArray) (w:World) (h:BuildW B b l w) (hlen:l.length + s.size ≤ 140737488355328) (hBw:B ≤ w.heap.size) :
 Calls Tryz.prog 96 #[.pointer (some ⟨b,0,none⟩),.string s] w fun e w'=>e = .returned (.tuple #[.int .i64 s.size,.nilIface])∧BuildW B b (l ++ s.data.toList) w'∧Below B w w'∧KeepW b w w':=by
 obtain ⟨i0,hi,hz0,hz1,hz2⟩:=infoU8
 go_enter Tryz.func96,Tryz.ntmps96
 go_wp2_with fail
 refine (copyCheckR B b l w h).mono ?_
 rintro e w1 ⟨rfl,h1,hb1,hkw,hz⟩
 clear hz
 obtain ⟨hB,v,hbk,hown,hne⟩:=h1
 have c0:w1.cell? ⟨b,0,none⟩=some (.pointer (some ⟨b,0,none⟩)):=by rw [Lib.cell_of_heap hbk];rfl
 have c1:w1.cell? ⟨b,1,none⟩=some v:=by rw [Lib.cell_of_heap hbk];rfl
 have hlt:b < w1.heap.size:=cell_lt c0
 go_wp2_with (at_builtin;refine wpList_append_strQ (base:=B) (e:=5) (i:=i0) rfl _ _ rfl (by kernel_rfl) (by kernel_rfl) hi hz0 hz1 hz2 (by rfl) hown s (by rfl) ?c3 ?c5 ?_)
 case c3=>rw [Lib.byteCells_length];omega
 case c5=>have:=hb1.size;omega
 intro v' w2 hown' hgrow hwh
 have hb2:w2.heap[b]? = some (.cells #[.pointer (some ⟨b,0,none⟩),v] 67 (0,0)):=by
  rw [hgrow.block b hlt (fun e=>hne e.symm)]
  exact hbk
 have d0:w2.cell? ⟨b,0,none⟩=some (.pointer (some ⟨b,0,none⟩)):=by rw [Lib.cell_of_heap hb2];rfl
 have d1:w2.cell? ⟨b,1,none⟩=some v:=by rw [Lib.cell_of_heap hb2];rfl
 have f1:w2.frozen? ⟨b,1,none⟩=false:=Lib.frozen_of_heap hb2 1
 obtain ⟨ao,n',cap,rfl⟩:∃ ao n' cap,v' = .slice ao n' cap:=by
  rcases hown'.2 with ⟨hv,_⟩ | ⟨g,cap,cur,fz,hv,_⟩
  ·exact ⟨_,_,_,hv⟩
  ·exact ⟨_,_,_,hv⟩
 go_wp2_with fail
 go_ret2
 refine ⟨rfl,.inr ?_,?_,fun q hq=>?_⟩
 ·have e:Lib.byteCells (l ++ s.data.toList)=Lib.byteCells l ++ Lib.strCells s:=by simp [Lib.byteCells,Lib.strCells]
  rw [e]
  exact Lib.BuilderAtF.put (T:=67) (e:=5) hB hb2 (bs':=Lib.byteCells l ++ Lib.strCells s) (by simpa [Lib.strCells_length] using hown') (by decide)
 ·exact (hb1.grown hgrow (by have:=hb1.size;omega) (fun k hk=>(hown.lt k hk).1)).setCell (p:=⟨b,1,none⟩) hB _
 ·obtain ⟨hq1,hk1⟩:=hkw q hq
  have hq2:w2.heap[q]? = w.heap[q]? :=by
   rw [hgrow.block q hq1.1 (fun e=>hq1.2.2 v c1 e.symm)]
   exact hk1
  refine ⟨⟨by have h2:=hgrow.size;have h3:=hq1.1;simp;omega,hq.2.1,fun v2 hv2=>?_⟩,?_⟩
  ·rw [set_same3 w2 ⟨b,1,none⟩ _ _ d1] at hv2
   cases hv2
   intro e
   rcases hwh q e with h | h
   ·exact hq1.2.2 v c1 h
   ·have:=hq1.1;omega
  ·rw [(grown_set w2 b 1 _).block q (by have:=hgrow.size;have:=hq1.1;omega) (fun e=>hq.2.1 (Option.some.inj e))]
   exact hq2
set_option maxHeartbeats 4000000 in
set_option maxRecDepth 100000 in
theorem writerString (B b:Nat) (l:List UInt8) (w:World) (h:BuildW B b l w):Calls Tryz.prog 26 #[.pointer (some ⟨b,0,none⟩)] w fun e w'=>e = .returned (str l)∧Below B w w':=by
 have mixed:=Tryz.lays169.mixed
 have hUS0:∀ (W:World) (q:Option Addr),(Builtin.unsafeString_ #[122,3] 9 #[.pointer q,.int .i64 0]).run Tryz.prog W = .ok (.string ⟨#[]⟩) W:=fun W q=>Lib.run_unsafeString_none W _ _ _ q
 have hBw:=h.Bw
 have one:∀ p,Lib.BuilderAtF 67 5 B b p (Lib.byteCells l) w→Calls Tryz.prog 26 #[.pointer (some ⟨b,0,none⟩)] w fun e w'=>e = .returned (str l)∧Below B w w':=by
  rintro p ⟨hB,v,hbk,hown,hne⟩
  have hlt:b < w.heap.size:=(Array.getElem?_eq_some_iff.1 hbk).1
  rcases hown.2 with ⟨rfl,hz⟩ | ⟨g,cap,cur,fz,rfl,hbg,hg,hfz,hnc,hcm,hcs,htake⟩
  ·obtain rfl:l = []:=by rw [Lib.byteCells_length] at hz;exact List.eq_nil_of_length_eq_zero hz
   have c1:w.drew.cell? ⟨b,1,none⟩=some (.slice none 0 0):=by
    have:w.drew.heap[b]? = some (.cells #[p,.slice none 0 0] 67 (0,0)):=hbk
    rw [Lib.cell_of_heap this];rfl
   have hSD:(Builtin.unsafeSliceData_ #[63] 122 #[.slice none 0 0]).run Tryz.prog w.drew = .ok (.pointer none) w.drew:=rfl
   clear hbk hown hne hz
   go_enter Tryz.func26,Tryz.ntmps26
   go_wp2_with fail
   go_region_o
   all_goals (go_wp2_with fail;go_ret;exact ⟨rfl,Below.drew (Below.refl B w)⟩)
  ·rw [Lib.byteCells_length] at hown hnc hfz hbk
   by_cases h0:l = []
   ·subst h0
    by_cases hc0:cap=0
    ·subst hc0
     have hSD:(Builtin.unsafeSliceData_ #[63] 122 #[.slice (some ⟨g,0,none⟩) 0 0]).run Tryz.prog w.drew = .ok (.pointer (some ⟨w.drew.heap.size,0,none⟩)) (w.drew.alloc (.view ⟨g,0,none⟩ 5)):=
      Lib.run_unsafeSliceData_zero w.drew _ _ 5 Tryz.lays169.t127 ⟨g,0,none⟩ 0 (5,cur.size) (by have hg':w.drew.heap[g]? = some (.cells cur 5 fz):=hg;simp [World.shape?,hg'])
     have c1:w.drew.cell? ⟨b,1,none⟩=some (.slice (some ⟨g,0,none⟩) 0 0):=by
      have:w.drew.heap[b]? = some (.cells #[p,.slice (some ⟨g,0,none⟩) 0 0] 67 (0,0)):=hbk
      rw [Lib.cell_of_heap this];rfl
     have c2:(w.drew.alloc (.view ⟨g,0,none⟩ 5)).cell? ⟨b,1,none⟩=some (.slice (some ⟨g,0,none⟩) 0 0):=by
      have:(w.drew.alloc (.view ⟨g,0,none⟩ 5)).heap[b]? = _:=(Lib.alloc_old w.drew _ b hlt).trans hbk
      rw [Lib.cell_of_heap this];rfl
     have c3:(w.alloc (.view ⟨g,0,none⟩ 5)).drew.cell? ⟨b,1,none⟩=some (.slice (some ⟨g,0,none⟩) 0 0):=c2
     have c0:w.cell? ⟨b,1,none⟩=some (.slice (some ⟨g,0,none⟩) 0 0):=c1
     clear hbk hown hne hg hfz hnc hcm hcs htake
     go_enter Tryz.func26,Tryz.ntmps26
     go_wp2_with fail
     go_region_o
     all_goals (go_wp2_with fail;go_ret;exact ⟨rfl,(Below.drew (Below.refl B w)).alloc hBw _⟩)
    ·have c1:w.drew.cell? ⟨b,1,none⟩=some (.slice (some ⟨g,0,none⟩) 0 cap):=by
      have:w.drew.heap[b]? = some (.cells #[p,.slice (some ⟨g,0,none⟩) 0 cap] 67 (0,0)):=hbk
      rw [Lib.cell_of_heap this];rfl
     have hSD:(Builtin.unsafeSliceData_ #[63] 122 #[.slice (some ⟨g,0,none⟩) 0 cap]).run Tryz.prog w.drew = .ok (.pointer (some ⟨g,0,none⟩)) w.drew:=
      Lib.run_unsafeSliceData_row _ _ _ _ _ _ hc0
     clear hbk hown hne hg hfz hnc hcm hcs htake hc0
     go_enter Tryz.func26,Tryz.ntmps26
     go_wp2_with fail
     go_region_o
     all_goals (go_wp2_with fail;go_ret;exact ⟨rfl,Below.drew (Below.refl B w)⟩)
   ·have hl0:l.length ≠ 0:=by simpa using h0
    have c1:w.drew.cell? ⟨b,1,none⟩=some (.slice (some ⟨g,0,none⟩) l.length cap):=by
     have:w.drew.heap[b]? = some (.cells #[p,.slice (some ⟨g,0,none⟩) l.length cap] 67 (0,0)):=hbk
     rw [Lib.cell_of_heap this];rfl
    have hSD:(Builtin.unsafeSliceData_ #[63] 122 #[.slice (some ⟨g,0,none⟩) l.length cap]).run Tryz.prog w.drew = .ok (.pointer (some ⟨g,0,none⟩)) w.drew:=
     Lib.run_unsafeSliceData_row _ _ _ _ _ _ (by omega)
    have hUS:(Builtin.unsafeString_ #[122,3] 9 #[.pointer (some ⟨g,0,none⟩),.int .i64 (l.length:Int)]).run Tryz.prog w.drew = .ok (.string ⟨l.toArray⟩) (w.drew.freeze ⟨g,0,none⟩ l.length):=by
     refine Lib.run_unsafeString_row w.drew 122 3 9 5 Tryz.lays169.t127 (Tryz.Builder_Extra_169).cellsByte g cur.size (by have hg':w.drew.heap[g]? = some (.cells cur 5 fz):=hg;simp [World.shape?,hg']) l h0 (by omega) (by unfold maxLen at hcm;omega) ?_
     intro j x hx
     exact hown.cells (g:=g) rfl j (.int .u8 x.toNat) (by simp [Lib.byteCells,hx])
    clear hbk hown hne hg hfz hnc hcm hcs htake
    go_enter Tryz.func26,Tryz.ntmps26
    go_wp2_with fail
    go_region_o
    all_goals (go_wp2_with fail;go_ret;exact ⟨rfl,Lib.below_freeze (Below.drew (Below.refl B w)) (p:=⟨g,0,none⟩) hbg _⟩)
 rcases h with h | h
 ·exact one _ h
 ·exact one _ h
def renB:Go.Shelf.Ren:=⟨fun | 26=>140 | 33=>155 | 34=>156 | 38=>182 | n=>n,fun | 0=>0 | 3=>3 | 4=>4 | 9=>9 | 24=>23 | 40=>177 | n=>n,fun n=>n⟩
set_option maxRecDepth 100000 in
theorem laysB:Go.Proofs.Lays2.n26 Tryz.prog renB:={
 mixed:=by kernel_rfl
 f26:=Tryz.func140.trans (congrArg some (by kernel_rfl))
 f33:=Tryz.func155.trans (congrArg some (by kernel_rfl))
 f34:=Tryz.func156.trans (congrArg some (by kernel_rfl))
 f38:=Tryz.func182.trans (congrArg some (by kernel_rfl))
 t0:=Tryz.underlying0
 a0:=Tryz.isAgg0
 z0:=Tryz.sizeOf0
 v0:=Tryz.zeroValue0
 t3:=Tryz.underlying3
 a3:=Tryz.isAgg3
 z3:=Tryz.sizeOf3
 v3:=Tryz.zeroValue3
 t4:=Tryz.underlying4
 a4:=Tryz.isAgg4
 z4:=Tryz.sizeOf4
 v4:=Tryz.zeroValue4
 t9:=Tryz.underlying9
 a9:=Tryz.isAgg9
 z9:=Tryz.sizeOf9
 v9:=Tryz.zeroValue9
 t24:=Tryz.underlying23
 a24:=Tryz.isAgg23
 z24:=Tryz.sizeOf23
 v24:=Tryz.zeroValue23
 t40:=Tryz.underlying177
 a40:=Tryz.isAgg177
 z40:=Tryz.sizeOf177
 v40:=Tryz.zeroValue177 }
structure LX (w:World):Prop extends LW w where
 asc:Lib.TabIs Tryz.prog w "strings.asciiSpace" .u8 Lib.asciiSpaceTab
theorem LX.later {w w':World} (h:LX w) (hb:Below w.heap.size w w'):LX w':=⟨h.toLW.later hb,var_later h.asc hb⟩
def StrsAt (A:Nat) (l:List (List UInt8)) (w:World):Prop:=∀ (j:Nat) x,l[j]? = some x→w.cell? ⟨A,j,none⟩=some (str x)
theorem cell_new (w:World) (l:List Value) (T:TypeId) (j:Nat) (v:Value) (h:l[j]? = some v):(w.alloc (.cells l.toArray T)).cell? ⟨w.heap.size,j,none⟩=some v:=by
 unfold World.cell?
 rw [heap_alloc_new]
 simp [h]
abbrev wordsS:ByteArray:=⟨#[65,78,68,32,65,83,32,66,69,71,73,78,32,66,76,79,66,32,66,89,32,67,79,77,77,73,84,32,67,79,85,78,84,32,67,82,69,65,84,69,32,68,69,76,69,84,69,32,68,69,83,67,32,68,82,79,80,32,70,82,79,77,32,71,82,79,85,80,32,72,65,86,73,78,71,32,73,78,68,69,88,32,73,78,83,69,82,84,32,73,78,84,69,71,69,82,32,73,78,84,79,32,73,83,32,74,79,73,78,32,75,69,89,32,76,73,77,73,84,32,77,65,88,32,77,73,78,32,78,79,84,32,78,85,76,76,32,79,78,32,79,82,32,79,82,68,69,82,32,80,82,73,77,65,82,89,32,82,69,76,69,65,83,69,32,82,79,76,76,66,65,67,75,32,83,65,86,69,80,79,73,78,84,32,83,69,76,69,67,84,32,83,69,84,32,83,85,77,32,84,65,66,76,69,32,84,69,88,84,32,84,79,32,85,78,73,81,85,69,32,85,80,68,65,84,69,32,86,65,76,85,69,83,32,87,72,69,82,69]⟩
set_option maxRecDepth 100000 in
theorem words_fields:Lib.fields wordsS.data.toList=wordsL:=by kernel_rfl
set_option maxRecDepth 100000 in
theorem words_ascii:∀ b ∈ wordsS.data.toList,b.toNat < 128:=by decide +kernel
set_option maxRecDepth 100000 in
theorem fieldsAt (w:World) (hw:LX w):Calls Tryz.prog 157 #[.string wordsS] w fun e w'=>e = .returned (.slice (some ⟨w.heap.size,0,none⟩) 43 43)∧StrsAt w.heap.size wordsL w'∧Below w.heap.size w w':=by
 refine (Tryz.strings_Fields_laid wordsS w (by decide) (fun j b h=>words_ascii b (List.mem_of_getElem? h)) hw.asc).mono fun e w' h=>?_
 obtain ⟨rfl,rfl⟩:=h
 rw [words_fields]
 refine ⟨rfl,fun j x hx=>?_,(Below.refl _ _).alloc (Nat.le_refl _) _⟩
 exact cell_new w _ _ j _ (by rw [List.getElem?_map,hx];rfl)
set_option maxRecDepth 100000 in
theorem wordsW (w:World) (hw:LX w):Calls Tryz.prog 141 #[] w fun e w'=>∃ A,e = .returned (.slice (some ⟨A,0,none⟩) 43 43)∧StrsAt A wordsL w'∧Below w.heap.size w w':=by
 have HF:=Lib.hid (fieldsAt w hw)
 clear hw
 go_enter Tryz.func141,Tryz.ntmps141
 go_wp2_with fail
 refine HF.out.mono ?_
 rintro e w1 ⟨rfl,h1,h2⟩
 have H1:=Lib.hid h1
 have H2:=Lib.hid h2
 clear h1 h2
 go_wp2_with fail
 go_ret
 exact ⟨_,rfl,H1.out,H2.out⟩
set_option maxRecDepth 100000 in
theorem words_sorted:∀ k:Fin 43,Lib.bsGo (fun t=>Op.bytesLess (wordsL.getD t []) (wordsL.getD k.val [])) 43 0 43=k.val:=by decide +kernel
theorem words_len:wordsL.length=43:=by decide +kernel
theorem findW (A:Nat) (x:ByteArray) (w:World) (h:StrsAt A wordsL w) :
 Calls Tryz.prog 140 #[.slice (some ⟨A,0,none⟩) 43 43,.string x] w fun e w'=>∃ I:Int,e = .returned (.tuple #[.int .i64 I,.bool (decide (x.data.toList ∈ wordsL))])∧Below w.heap.size w w':=by
 have hc:∀ j,j < 43→w.cell? ⟨A,0 + j,none⟩=some (.string (⟨(wordsL.getD j []).toArray⟩:ByteArray)):=fun j hj=>by
  have hl:wordsL[j]? = some (wordsL.getD j []):=by rw [List.getD_eq_getElem?_getD,List.getElem?_eq_getElem (by rw [words_len];exact hj)];rfl
  have:=h j _ hl
  rwa [Nat.zero_add]
 refine (Any2.slices_BinarySearch_string laysB A 0 43 43 (fun j=>⟨(wordsL.getD j []).toArray⟩) x w (by decide) hc).mono fun e w' h'=>?_
 obtain ⟨rfl,q,rfl⟩:=h'
 have hfun:(fun t=>Op.bytesLess (ByteArray.mk (wordsL.getD t []).toArray).toList x.toList)=fun t=>Op.bytesLess (wordsL.getD t []) x.data.toList:=by
  funext t
  rw [ByteArray.toList_eq,ByteArray.toList_eq]
 rw [hfun]
 obtain ⟨I,hI⟩:∃ I,I=Lib.bsGo (fun t=>Op.bytesLess (wordsL.getD t []) x.data.toList) 43 0 43:=⟨_,rfl⟩
 rw [← hI]
 have hd:decide (I < 43∧(ByteArray.mk (wordsL.getD I []).toArray)=x)=decide (x.data.toList ∈ wordsL):=by
  refine decide_eq_decide.2 ⟨fun ⟨h1,h2⟩=>?_,fun hx=>?_⟩
  ·have e:=congrArg (fun b:ByteArray=>b.data.toList) h2
   simp only at e
   rw [← e,List.getD_eq_getElem?_getD,List.getElem?_eq_getElem (by rw [words_len];exact h1)]
   exact List.getElem_mem _
  ·obtain ⟨k,hk,he⟩:=List.getElem_of_mem hx
   rw [words_len] at hk
   have hg:wordsL.getD k []=x.data.toList:=by rw [List.getD_eq_getElem?_getD,List.getElem?_eq_getElem (by rw [words_len];exact hk),← he];rfl
   have hs:=words_sorted ⟨k,hk⟩
   rw [hg,← hI] at hs
   simp only at hs
   rw [hs]
   exact ⟨hk,by rw [hg]⟩
 exact ⟨(I:Int),by rw [hd],drewN_below (Below.refl _ _) _⟩
def Tk.val (t:Tk):Value:=.agg #[.int .u8 (t.k:Int),.string t.s,.int .u64 (t.n:Int),.int .i64 t.a]
def T0:Tk:=⟨0,ByteArray.empty,0,0⟩
structure TBox (b:Nat) (w:World):Prop where
 c0:w.cell? ⟨b,0,none⟩=some (.int .u8 0)
 c1:w.cell? ⟨b,1,none⟩=some (.string ⟨#[]⟩)
 c2:w.cell? ⟨b,2,none⟩=some (.int .u64 0)
 c3:w.cell? ⟨b,3,none⟩=some (.int .i64 0)
 f0:w.frozen? ⟨b,0,none⟩=false
 f1:w.frozen? ⟨b,1,none⟩=false
 f2:w.frozen? ⟨b,2,none⟩=false
 f3:w.frozen? ⟨b,3,none⟩=false
theorem TBox.lt {b:Nat} {w:World} (h:TBox b w):b < w.heap.size:=cell_lt h.c0
theorem TBox.later {b:Nat} {w w':World} (h:TBox b w) (hb:Below w.heap.size w w'):TBox b w':=
 ⟨(hb.cell h.lt).trans h.c0,(hb.cell h.lt).trans h.c1,(hb.cell h.lt).trans h.c2,(hb.cell h.lt).trans h.c3,(hb.frozen h.lt).trans h.f0,(hb.frozen h.lt).trans h.f1,(hb.frozen h.lt).trans h.f2,(hb.frozen h.lt).trans h.f3⟩
theorem TBox.grown {b r:Nat} {w w':World} (h:TBox b w) (g:w.grownBy w' (some r)) (hne:b ≠ r):TBox b w':=by
 have c:∀ i,w'.cell? ⟨b,i,none⟩=w.cell? ⟨b,i,none⟩:=fun i=>cell_grown g h.lt (fun e=>hne (Option.some.inj e).symm) i
 have f:∀ i,w'.frozen? ⟨b,i,none⟩=w.frozen? ⟨b,i,none⟩:=fun i=>by
  unfold World.frozen?
  rw [g.block b h.lt (fun e=>hne (Option.some.inj e))]
 exact ⟨(c 0).trans h.c0,(c 1).trans h.c1,(c 2).trans h.c2,(c 3).trans h.c3,(f 0).trans h.f0,(f 1).trans h.f1,(f 2).trans h.f2,(f 3).trans h.f3⟩
theorem TBox.else {b r i:Nat} {u:Value} {w:World} (h:TBox b w) (hne:b ≠ r):TBox b (w.setCell ⟨r,i,none⟩ u):=h.grown (grown_set w r i u) hne
theorem tBox_new (w:World) (t:TypeId):TBox w.heap.size (w.alloc (.cells #[.int .u8 0,.string ⟨#[]⟩,.int .u64 0,.int .i64 0] t)):=by
 constructor <;> go_simp
theorem filled4 (w:World) (b:Nat) (x y z u:Value) (h:TBox b w):∀ W,W=((((w.setCell ⟨b,0,none⟩ x).setCell ⟨b,1,none⟩ y).setCell ⟨b,2,none⟩ z).setCell ⟨b,3,none⟩ u) →
 W.cell? ⟨b,0,none⟩=some x∧W.cell? ⟨b,1,none⟩=some y∧W.cell? ⟨b,2,none⟩=some z∧W.cell? ⟨b,3,none⟩=some u:=by
 rintro W rfl
 have s0:=set_same3 w ⟨b,0,none⟩ x _ h.c0
 have s1:=set_same3 (w.setCell ⟨b,0,none⟩ x) ⟨b,1,none⟩ y _ ((set_else3 w b 0 1 x (by decide)).trans h.c1)
 have s2:=set_same3 ((w.setCell ⟨b,0,none⟩ x).setCell ⟨b,1,none⟩ y) ⟨b,2,none⟩ z _ ((set_else3 _ b 1 2 y (by decide)).trans ((set_else3 w b 0 2 x (by decide)).trans h.c2))
 have s3:=set_same3 (((w.setCell ⟨b,0,none⟩ x).setCell ⟨b,1,none⟩ y).setCell ⟨b,2,none⟩ z) ⟨b,3,none⟩ u _ ((set_else3 _ b 2 3 z (by decide)).trans ((set_else3 _ b 1 3 y (by decide)).trans ((set_else3 w b 0 3 x (by decide)).trans h.c3)))
 exact ⟨(set_else3 _ b 3 0 u (by decide)).trans ((set_else3 _ b 2 0 z (by decide)).trans ((set_else3 _ b 1 0 y (by decide)).trans s0)),(set_else3 _ b 3 1 u (by decide)).trans ((set_else3 _ b 2 1 z (by decide)).trans s1),(set_else3 _ b 3 2 u (by decide)).trans s2,s3⟩
theorem RD.else {r:Nat} {s:ByteArray} {k:Nat} {w:World} (h:RD r s k w) {b i:Nat} {u:Value} (hb:b ≠ r):RD r s k (w.setCell ⟨b,i,none⟩ u):=by
 refine ⟨(set_other w r b i 0 u (fun e=>hb e.1)).trans h.c0,(set_other w r b i 1 u (fun e=>hb e.1)).trans h.c1,?_⟩
 have:=h.f1
 simpa using this
theorem RD.box {r:Nat} {s:ByteArray} {k:Nat} {w:World} (h:RD r s k w) {b:Nat} (x y z u:Value) (hb:b ≠ r):RD r s k ((((w.setCell ⟨b,0,none⟩ x).setCell ⟨b,1,none⟩ y).setCell ⟨b,2,none⟩ z).setCell ⟨b,3,none⟩ u):=
 (((h.else hb).else hb).else hb).else hb
theorem grown_new {w W:World} {r:Nat} (h:w.grownBy W (some r)) {b i:Nat} {u:Value} (hb:w.heap.size ≤ b):w.grownBy (W.setCell ⟨b,i,none⟩ u) (some r):=by
 have g:=grown_set W b i u
 refine ⟨g.os.trans h.os,g.tape.trans h.tape,g.output.trans h.output,Nat.le_trans h.size g.size,fun k hk hn=>?_⟩
 exact (g.block k (Nat.lt_of_lt_of_le hk h.size) (fun e=>by cases e;omega)).trans (h.block k hk hn)
theorem grown_box {w W:World} {r:Nat} (h:w.grownBy W (some r)) {b:Nat} (x y z u:Value) (hb:w.heap.size ≤ b):w.grownBy ((((W.setCell ⟨b,0,none⟩ x).setCell ⟨b,1,none⟩ y).setCell ⟨b,2,none⟩ z).setCell ⟨b,3,none⟩ u) (some r):=
 grown_new (grown_new (grown_new (grown_new h hb) hb) hb) hb
structure Env (w0:World) (r:Nat) (w:World):Prop where
 hw:LX w0
 hb:Below w0.heap.size w0 w
 hr:w0.heap.size ≤ r
theorem Env.grown {w0 w w':World} {r:Nat} (h:Env w0 r w) (g:w.grownBy w' (some r)):Env w0 r w':=⟨h.hw,grown_below h.hb h.hr g h.hb.size,h.hr⟩
theorem Env.lx {w0 w:World} {r:Nat} (h:Env w0 r w):LX w:=h.hw.later h.hb
def outV:One→Value
 | .tok k s n _=>.tuple #[Tk.val ⟨k,⟨s.toArray⟩,n,0⟩,.int .i64 0]
 | .bad e _=>.tuple #[T0.val,.int .i64 (e:Int)]
def lenO:One→Nat
 | .tok _ _ _ m=>m
 | .bad _ m=>m
def Tk.cells (t:Tk):List Value:=[.int .u8 (t.k:Int),.string t.s,.int .u64 (t.n:Int),.int .i64 t.a]
abbrev TksAt (w:World) (v:Value) (l:List Tk):Prop:=SlAt 4 Tk.cells w v l
theorem at4 {w:World} {a:Option Addr} {n c k:Nat} {l:List Tk} {y:Tk} (h:TksAt w (.slice a n c) l) (hk:l[k]? = some y) :
 ∃ b o,a=some ⟨b,o,none⟩∧b < w.heap.size∧w.cell? ⟨b,o + k * 4,none⟩=some (.int .u8 (y.k:Int))∧w.cell? ⟨b,o + k * 4 + 1,none⟩=some (.string y.s)∧w.cell? ⟨b,o + k * 4 + 2,none⟩=some (.int .u64 (y.n:Int))∧w.cell? ⟨b,o + k * 4 + 3,none⟩=some (.int .i64 y.a):=by
 obtain ⟨a',c',e,_,h⟩:=h
 simp only [Value.slice.injEq] at e
 obtain ⟨rfl,_,_⟩:=e
 obtain ⟨b,o,rfl,h'⟩:=h k y hk
 have h0:=h' 0 _ rfl
 exact ⟨b,o,rfl,cell_lt h0,h0,h' 1 _ rfl,h' 2 _ rfl,h' 3 _ rfl⟩
theorem elT:By.Elem Tryz.prog 72 128 4 40 where
 slice:=by kernel_rfl
 info:=by
  have h:(Tryz.prog.info? 128).map (fun i=>(i.zero,i.size,i.bytes))=some (some (.agg #[.int .u8 0,.string ⟨#[]⟩,.int .u64 0,.int .i64 0]),4,40):=by kernel_rfl
  obtain ⟨i,hi,h1,h2,h3⟩:=info_parts h
  exact ⟨i,_,hi,h1,h2,h3,rfl⟩
 pos:=by decide
def tCells (l:List Tk):List Value:=l.flatMap Tk.cells
theorem tCells_get (l:List Tk):∀ (i:Nat) (x:Tk),l[i]? = some x→∀ j u,x.cells[j]? = some u→(tCells l)[i * 4 + j]? = some u:=by
 induction l with
 | nil=>intro i x h;simp at h
 | cons y l ih=>
  intro i x h j u hu
  have hj:j < 4:=(List.getElem?_eq_some_iff.1 hu).1
  have e:tCells (y :: l)=y.cells ++ tCells l:=rfl
  rcases i with _ | i
  ·simp at h;subst h
   rw [e,List.getElem?_append_left (by show 0 * 3 + j < 4;omega),Nat.zero_mul,Nat.zero_add]
   exact hu
  ·rw [e,List.getElem?_append_right (by show 4 ≤ _;omega),show (i + 1) * 4 + j - y.cells.length=i * 4 + j by show _ - 4=_;omega]
   exact ih i x (by simpa using h) j u hu
def OwnT (w:World) (base:Nat) (v:Value) (l:List Tk):Prop:=w.ownsRow base 128 4 v l.length (tCells l)
theorem OwnT.nil (w:World) (base:Nat):OwnT w base (.slice none 0 0) []:=World.ownsRow_nil _ _ _ _
theorem OwnT.shape {w:World} {base:Nat} {v:Value} {l:List Tk} (h:OwnT w base v l):∃ a c,v = .slice a l.length c:=by
 rcases h.2 with ⟨rfl,hn⟩ | ⟨g,cap,cur,rfl,_⟩
 ·exact ⟨none,0,by rw [hn]⟩
 ·exact ⟨_,_,rfl⟩
theorem OwnT.at_ {w:World} {base:Nat} {v:Value} {l:List Tk} (h:OwnT w base v l):TksAt w v l:=by
 rcases h.2 with ⟨rfl,hn⟩ | ⟨g,cap,cur,rfl,hg,hh,hn,hcap,hsz,ht⟩
 ·obtain rfl:l = []:=List.eq_nil_of_length_eq_zero hn
  exact SlAt.nil _ _ _
 ·refine ⟨_,cap,rfl,hn,fun i x hx=>⟨g,0,rfl,fun j u hu=>?_⟩⟩
  have:=World.ownsRow.cells h rfl (i * 4 + j) u (tCells_get l i x hx j u hu)
  rw [Addr.add_lit,← Nat.add_assoc] at this
  exact this
theorem OwnT.below {w w':World} {base:Nat} {v:Value} {l:List Tk} (h:OwnT w base v l) (hb:Below w.heap.size w w'):OwnT w' base v l:=
 World.ownsRow.kept (row:=none) h ⟨hb.os,hb.tape,hb.output,hb.size,fun i hi _=>hb.block i hi⟩ (by cases v.ownBlock <;> simp)
theorem OwnT.snoc {w:World} {base:Nat} {v:Value} {l:List Tk} {x:Tk} (h:w.ownsRow base 128 4 v (l.length + 1) (tCells l ++ [.int .u8 (x.k:Int),.string x.s,.int .u64 (x.n:Int),.int .i64 x.a])):OwnT w base v (l ++ [x]):=by
 unfold OwnT
 rw [List.length_append]
 have e:tCells (l ++ [x])=tCells l ++ [.int .u8 (x.k:Int),.string x.s,.int .u64 (x.n:Int),.int .i64 x.a]:=by simp [tCells,Tk.cells]
 rw [e]
 exact h
theorem reads_T (w:World) (base:Nat) (x:Tk) (hb:base ≤ w.heap.size) (k:Nat) (hk:w.heap.size=k) :
 Reads (w.alloc (.cells #[.int .u8 (x.k:Int),.string x.s,.int .u64 (x.n:Int),.int .i64 x.a] 128)) 4 (.slice (some ⟨k,0,none⟩) 1 1) 1 [.int .u8 (x.k:Int),.string x.s,.int .u64 (x.n:Int),.int .i64 x.a]:=by
 subst hk
 exact reads_of_owns (World.ownsRow_lit w #[.int .u8 (x.k:Int),.string x.s,.int .u64 (x.n:Int),.int .i64 x.a] 1 hb (by unfold maxLen;omega) rfl)
end Go.Proofs.YtmdogmpcmkfjpaaGreatDoor.Dt
