import Derived.ArgAppend
import Derived.Deep.Onto
import Derived.Lib.SlBytesConst
import Derived.Test.YtmdogmpcmkfjpaaGreatDoorBj11
import Derived.Test.YtmdogmpcmkfjpaaGreatDoorBj01
import Derived.Test.YtmdogmpcmkfjpaaGreatDoorBj12
import Derived.Test.YtmdogmpcmkfjpaaGreatDoorBj14
import Derived.Test.YtmdogmpcmkfjpaaGreatDoorBj15
/- Part of the proof (merged). -/
namespace Go.Proofs.YtmdogmpcmkfjpaaGreatDoor.By
open Go.RowKit
theorem OwnB.below {w w':World} {base:Nat} {e:TypeId} {v:Value} {l:List UInt8} (h:OwnB w base e v l) (hb:Below w.heap.size w w'):OwnB w' base e v l:=
 World.ownsRow.kept (row:=none) h ⟨hb.os,hb.tape,hb.output,hb.size,fun i hi _=>hb.block i hi⟩ (by cases v.ownBlock <;> simp)
def OwnX (w:World) (base:Nat) (e:TypeId) (v:Value) (l:List UInt8):Prop:=
 OwnB w base e v l ∨ ∃ g,v = .slice (some ⟨g,0,none⟩) l.length l.length∧∀ i (h:i < l.length),w.cell? ⟨g,i,none⟩=some (byte l[i])
theorem OwnX.below {w w':World} {base:Nat} {e:TypeId} {v:Value} {l:List UInt8} (h:OwnX w base e v l) (hb:Below w.heap.size w w'):OwnX w' base e v l:=by
 rcases h with h | ⟨g,rfl,h⟩
 ·exact .inl (h.below hb)
 ·exact .inr ⟨g,rfl,fun i hi=>(hb.cell (cell_lt (h i hi))).trans (h i hi)⟩
theorem OwnX.shape {w:World} {base:Nat} {e:TypeId} {v:Value} {l:List UInt8} (h:OwnX w base e v l):∃ a c,v = .slice a l.length c:=by
 rcases h with h | ⟨g,rfl,h⟩
 ·exact h.shape
 ·exact ⟨_,_,rfl⟩
theorem convX {P:Program} {w:World} (src e dst:TypeId) (hs:P.underlying src=some (.slice e)) (he:P.underlying e=some (.int .u8)) (hd:P.underlying dst=some .string)
 {base:Nat} {v:Value} {l:List UInt8} (h:OwnX w base e v l):(convert src dst v).run P w = .ok (str l) w:=by
 rcases h with h | ⟨g,rfl,h⟩
 ·exact conv_own src e dst hs he hd h
 ·exact conv_at w src e dst hs he hd g 0 l.length l.length l rfl (fun i hi=>by rw [Nat.zero_add];exact h i hi)
theorem bytes_get (l:List UInt8) {j:Nat} {u:Value} (h:(l.map byte)[j]? = some u):∃ hj:j < l.length,u=byte l[j]:=by
 rw [List.getElem?_map] at h
 cases hj:l[j]? with
 | none=>rw [hj] at h;cases h
 | some b=>
  rw [hj] at h
  obtain ⟨hk,rfl⟩:=List.getElem?_eq_some_iff.1 hj
  exact ⟨hk,(Option.some.inj h).symm⟩
theorem wpList_append_x {P:Program} {w:World} {ops:Array Oper} {rest:List Oper} {o:Oper} {a:Act} {Q:Exit→Act→World→Prop} (hgd:o.guard=none) (s x:Operand) (t:TypeId)
 (ho:o.op = .call { callee:=.builtin .append,args:=#[s,x],argTypes:=#[t,t] })
 (base:Nat) (e:TypeId) (E:Elem P t e 1 1)
 (v:Value) (l:List UInt8) (hs:a.eval s=v) (hown:OwnX w base e v l)
 (sv:Value) (news:List UInt8) (hx:a.eval x=sv) (hr:Reads w 1 sv news.length (news.map byte)) (hm:0 < news.length)
 (h63:l.length + news.length ≤ 140737488355328) (hbase:base ≤ w.heap.size)
 (h:∀ v' w',OwnB w' base e v' (l ++ news)→Below base w w'→wpList P ops Q rest (a.put o.dst v') w'):wpList P ops Q (o :: rest) a w:=by
 have h1:∀ u ∈ news.map byte,u.oneCell'=true:=oneCell_bytes news
 rcases hown with hown | ⟨g,rfl,hc⟩
 ·exact wpList_append_reads hgd s x t ho base e 1 1 E v l.length (l.map byte) hs hown sv news.length (news.map byte) hx hr h1 (by unfold maxLen;omega) (by omega) hbase
   (fun v' w' h2 _ h4=>h v' w' (ownB_of h2 (by simp) (by simp)) h4)
 ·rcases hr.2 with ⟨_,hn⟩ | ⟨ad,c,rfl,hcn⟩
  ·omega
  ·obtain ⟨i,z,hi,hz,hsize,hby,hzs⟩:=E.info
   refine wpList_append_grows w hgd s x t ho e i z 1 1 E.slice hi hz hsize hby hzs E.pos (some ⟨g,0,none⟩) l.length l.length (l.map byte) hs (fun h=>by cases h) (by simp) (fun b hb j u hu=>?_) ad news.length c (news.map byte) hx (by simp) hcn h1 (by omega) (by unfold maxLen;omega) (by omega) (fun v' w' h2 h3=>h v' w' (ownB_of (h2.mono hbase) (by simp) (by simp)) ?_)
   ·obtain rfl:=Option.some.inj hb
    obtain ⟨hj,rfl⟩:=bytes_get l hu
    have:(⟨g,0,none⟩:Addr).add j=⟨g,j,none⟩:=by rw [Addr.add_lit,Nat.zero_add]
    rw [this]
    exact hc j hj
   ·exact (Below.refl base w).grown h3 hbase (fun k hk=>by cases hk)
theorem reads_cells {w:World} (b:Nat) (news:List UInt8) (h:∀ i (hi:i < news.length),w.cell? ⟨b,i,none⟩=some (byte news[i])):Reads w 1 (.slice (some ⟨b,0,none⟩) news.length news.length) news.length (news.map byte):=by
 refine ⟨by simp,.inr ⟨_,_,rfl,fun j u hu=>?_⟩⟩
 obtain ⟨hj,rfl⟩:=bytes_get news hu
 rw [Addr.add_lit,Nat.zero_add]
 exact h j hj
end Go.Proofs.YtmdogmpcmkfjpaaGreatDoor.By
namespace Go.Proofs.YtmdogmpcmkfjpaaGreatDoor.Dt
open Go.RowKit Go.Proofs.YtmdogmpcmkfjpaaGreatDoor.By
theorem wrapI (x:Int) (h0:0 ≤ x) (h1:x ≤ 2000000):wrap64 x=x:=by unfold wrap64;omega
theorem wrapK (x:Int) (h0:0 ≤ x) (h1:x ≤ 2000000):IntKind.i64.wrap x=x:=by rw [IntKind.wrap_i64];omega
structure QS (w:World) (r b:Nat) (s:ByteArray) (p:Nat) (v:Value) (O:List UInt8) (W:World):Prop where
 rd:RD r s p W
 bx:TBox b W
 own:OwnB W (b + 1) 5 v O
 gr:w.grownBy W (some r)
 sz:b + 1 ≤ W.heap.size
theorem QS.later {w:World} {r b:Nat} {s:ByteArray} {p:Nat} {v:Value} {O:List UInt8} {W W':World} (h:QS w r b s p v O W) (hb:Below W.heap.size W W'):QS w r b s p v O W':=
 ⟨h.rd.later hb,h.bx.later hb,h.own.below hb,grown_trans h.gr (below_grown hb),Nat.le_trans h.sz hb.size⟩
theorem QS.set {w:World} {r b:Nat} {s:ByteArray} {p:Nat} {v:Value} {O:List UInt8} {W:World} (h:QS w r b s p v O W) (hr:r < b) (q:Nat) (x:Int) (hx:x=(q:Int)):QS w r b s q v O (W.setCell ⟨r,1,none⟩ (.int .i64 x)):=by
 subst hx
 exact ⟨h.rd.set q,h.bx.else (by omega),ownsRow_setCell_below h.own (by show r < b + 1;omega) _,grown_trans h.gr (grown_set _ _ _ _),by rw [World.size_setCell];exact h.sz⟩
theorem QS.app {w:World} {r b:Nat} {s:ByteArray} {p:Nat} {v v':Value} {O O':List UInt8} {W W':World} (h:QS w r b s p v O W) (hr:r < b) (hb:Below (b + 1) W W') (ho:OwnB W' (b + 1) 5 v' O') (hz:W.heap.size ≤ W'.heap.size) (hwb:w.heap.size ≤ b):QS w r b s p v' O' W':=by
 have hc:∀ j i,j < b + 1→W'.cell? ⟨j,i,none⟩=W.cell? ⟨j,i,none⟩:=fun j i hj=>hb.cell (p:=⟨j,i,none⟩) hj
 have hf:∀ j i,j < b + 1→W'.frozen? ⟨j,i,none⟩=W.frozen? ⟨j,i,none⟩:=fun j i hj=>hb.frozen (p:=⟨j,i,none⟩) hj
 have hr1:r < b + 1:=by omega
 have hb1:b < b + 1:=by omega
 refine ⟨⟨(hc _ _ hr1).trans h.rd.c0,(hc _ _ hr1).trans h.rd.c1,(hf _ _ hr1).trans h.rd.f1⟩,
  ⟨(hc _ _ hb1).trans h.bx.c0,(hc _ _ hb1).trans h.bx.c1,(hc _ _ hb1).trans h.bx.c2,(hc _ _ hb1).trans h.bx.c3,(hf _ _ hb1).trans h.bx.f0,(hf _ _ hb1).trans h.bx.f1,(hf _ _ hb1).trans h.bx.f2,(hf _ _ hb1).trans h.bx.f3⟩,ho,?_,Nat.le_trans h.sz hz⟩
 exact ⟨hb.os.trans h.gr.os,hb.tape.trans h.gr.tape,hb.output.trans h.gr.output,Nat.le_trans h.gr.size hz,fun k hk hn=>(hb.block k (by omega)).trans (h.gr.block k hk hn)⟩
theorem QS.new {w:World} {r:Nat} {s:ByteArray} {k:Nat} (h:RD r s k w) (t:TypeId):QS w r w.heap.size s k (.slice none 0 0) [] (w.alloc (.cells #[.int .u8 0,.string ⟨#[]⟩,.int .u64 0,.int .i64 0] t)):=
 ⟨h.later ((Below.refl _ _).alloc (Nat.le_refl _) _),tBox_new _ _,OwnB.nil _ _ _,below_grown ((Below.refl _ _).alloc (Nat.le_refl _) _),by simp⟩
theorem drop_cons (s:ByteArray) {p:Nat} (h:p < s.size):s.data.toList.drop p=s[p] :: s.data.toList.drop (p + 1):=by
 rw [List.drop_eq_getElem_cons (by simpa using h)];rfl
theorem drop_end (s:ByteArray) {p:Nat} (h:s.size ≤ p):s.data.toList.drop p = []:=List.drop_eq_nil_iff.2 (by rw [bytes_list];exact h)
theorem qscan_other {c:UInt8} (h:c ≠ 39) (l:List UInt8):qscan (c :: l)=(qscan l).map fun x=>(c :: x.1,x.2 + 1):=by
 cases l with
 | nil=>simp [qscan,h]
 | cons d l=>rw [qscan,if_neg h]
theorem qscan_two (l:List UInt8):qscan (39 :: 39 :: l)=(qscan l).map fun x=>(39 :: x.1,x.2 + 2):=by rw [qscan,if_pos rfl,if_pos rfl]
theorem qscan_stop {l:List UInt8} (h:topB l ≠ 39):qscan (39 :: l)=some ([],1):=by
 cases l with
 | nil=>simp [qscan]
 | cons d l=>rw [qscan,if_pos rfl,if_neg (show ¬ d=39 from h)]
def textR (n:Nat):Option (List UInt8 × Nat)→One
 | none=>.bad 6 n
 | some (t,m)=>if 1000 < t.length then .bad 3 0 else .tok 4 t 0 (m + 1)
theorem textOne_eq (l:List UInt8):textOne l=textR l.length (qscan (l.drop 1)):=by
 unfold textOne
 cases qscan (l.drop 1) with
 | none=>rfl
 | some x=>rfl
theorem textR_long {n m:Nat} {t:List UInt8} (h:1000 < t.length):textR n (some (t,m)) = .bad 3 0:=by show (if _ then _ else _)=_;rw [if_pos h]
theorem textR_ok {n m:Nat} {t:List UInt8} (h:¬ 1000 < t.length):textR n (some (t,m)) = .tok 4 t 0 (m + 1):=by show (if _ then _ else _)=_;rw [if_neg h]
def blobR:Nat ⊕ (List UInt8 × Nat)→One
 | .inl e=>.bad 6 (e + 2)
 | .inr (t,m)=>if 1000 < t.length then .bad 3 0 else .tok 5 t 0 (m + 2)
theorem blobOne_eq (l:List UInt8):blobOne l=blobR (bscan (l.drop 2)):=by
 unfold blobOne
 cases bscan (l.drop 2) with
 | inl e=>rfl
 | inr x=>rfl
theorem blobR_long {m:Nat} {t:List UInt8} (h:1000 < t.length):blobR (.inr (t,m)) = .bad 3 0:=by show (if _ then _ else _)=_;rw [if_pos h]
theorem blobR_ok {m:Nat} {t:List UInt8} (h:¬ 1000 < t.length):blobR (.inr (t,m)) = .tok 5 t 0 (m + 2):=by show (if _ then _ else _)=_;rw [if_neg h]
theorem wrap_k (k:Nat) (h:k ≤ 1000000):wrap64 (k:Int)=(k:Int):=by unfold wrap64;omega
set_option maxRecDepth 100000 in
set_option maxHeartbeats 8000000 in
theorem wordW (w0:World) (r:Nat) (s:ByteArray) (k:Nat) (w:World) (hx:Env w0 r w) (h:RD r s k w) (hs:s.size ≤ 1000000) (hk:k ≤ s.size) :
 Calls Tryz.prog 117 #[.pointer (some ⟨r,0,none⟩)] w fun e w'=>e = .returned (outV (wordOne (s.data.toList.drop k)))∧RD r s (k + lenO (wordOne (s.data.toList.drop k))) w'∧w.grownBy w' (some r):=by
 obtain ⟨l,hl⟩:∃ l,l=s.data.toList.drop k:=⟨_,rfl⟩
 have hll:l.length=s.size - k:=by rw [hl,List.length_drop,bytes_list]
 have hne:w.heap.size ≠ r:=by have:=h.lt;omega
 have HP0:Hid (∀ W,RD r s k W→Calls Tryz.prog 111 #[.pointer (some ⟨r,0,none⟩),.int .i64 0] W fun e w'=>e = .returned (byte (topB l))∧Below W.heap.size W w'):=Lib.hid (fun W h=>by rw [hl];exact peek0 r s k W h hs hk)
 have HWW:Hid (∀ W,RD r s k W→Calls Tryz.prog 109 #[.pointer (some ⟨r,0,none⟩),.func (.func 73) #[] #[]] W fun e w'=>e = .returned (str (l.take (runL wordB l)))∧RD r s (k + runL wordB l) w'∧W.grownBy w' (some r)):=Lib.hid (fun W h=>by rw [hl];exact whileW wordB 73 (fun _ _=>by kernel_rfl) inWordW r s k W h hs hk)
 have HWN:Hid (∀ W,RD r s k W→Calls Tryz.prog 109 #[.pointer (some ⟨r,0,none⟩),.func (.func 142) #[] #[]] W fun e w'=>e = .returned (str (l.take (runL nameB l)))∧RD r s (k + runL nameB l) w'∧W.grownBy w' (some r)):=Lib.hid (fun W h=>by rw [hl];exact whileW nameB 142 (fun _ _=>by kernel_rfl) nameW r s k W h hs hk)
 have HPN:Hid (∀ W,RD r s (k + runL nameB l) W→Calls Tryz.prog 111 #[.pointer (some ⟨r,0,none⟩),.int .i64 0] W fun e w'=>e = .returned (byte (topB (l.drop (runL nameB l))))∧Below W.heap.size W w'):=Lib.hid (fun W h=>by
  have h1:=runL_le nameB l
  have h2:=peek0 r s (k + runL nameB l) W h hs (by omega)
  rw [← List.drop_drop,← hl] at h2
  exact h2)
 rw [← hl]
 have HL:=Lib.hid hll
 have HNE:=Lib.hid hne
 have HX:=Lib.hid hx
 have HS:=Lib.hid hs
 have HK:=Lib.hid hk
 have HG0:Hid (w.grownBy (w.alloc (.cells #[.int .u8 0,.string ⟨#[]⟩,.int .u64 0,.int .i64 0] 128)) (some r)):=Lib.hid (below_grown ((Below.refl _ _).alloc (Nat.le_refl _) _))
 have HR0:Hid (RD r s k (w.alloc (.cells #[.int .u8 0,.string ⟨#[]⟩,.int .u64 0,.int .i64 0] 128))):=Lib.hid (h.later ((Below.refl _ _).alloc (Nat.le_refl _) _))
 have HB0:Hid (TBox w.heap.size (w.alloc (.cells #[.int .u8 0,.string ⟨#[]⟩,.int .u64 0,.int .i64 0] 128))):=Lib.hid (tBox_new _ _)
 clear hl hll hne hx h hs hk
 go_enter Tryz.func117,Tryz.ntmps117
 go_wp2_with fail
 generalize w.alloc (.cells #[.int .u8 0,.string ⟨#[]⟩,.int .u64 0,.int .i64 0] 128)=w1 at *
 refine (HP0.out _ HR0.out).mono ?_
 rintro e w2 ⟨rfl,hb2⟩
 have HR2:=Lib.hid (HR0.out.later hb2)
 have HB2:=Lib.hid (HB0.out.later hb2)
 have HG2:=Lib.hid (grown_trans HG0.out (below_grown hb2))
 clear hb2
 obtain ⟨b,hb⟩:∃ b,b=w.heap.size:=⟨_,rfl⟩
 rw [← hb] at HB2 HNE ⊢
 have HBE:=Lib.hid (Nat.le_of_eq hb.symm)
 clear hb HB0 HR0 HG0
 by_cases hc:capB (topB l)=true
 ·have HC1:Hid (∀ W,Calls Tryz.prog 116 #[byte (topB l)] W fun e w'=>e = .returned (.bool true)∧W=w'):=Lib.hid (fun W=>by have:=capW (topB l) W;rwa [hc] at this)
  obtain ⟨m,hm⟩:∃ m,m=runL wordB l:=⟨_,rfl⟩
  obtain ⟨t,ht⟩:∃ t,t=l.take m:=⟨_,rfl⟩
  rw [← hm,← ht] at HWW
  have HONE:Hid (wordOne l=if t ∈ wordsL then .tok 1 t 0 m else .bad 6 0):=Lib.hid (by unfold wordOne;rw [if_pos hc,← hm,← ht])
  have htl:t.length=m:=by rw [ht,hm];exact take_len_le (runL_le wordB l)
  have hmb:k + m ≤ 1000000:=by
   have h1:=runL_le wordB l
   have h2:=HL.out
   have h3:=HS.out
   have h4:=HK.out
   rw [hm];omega
  have HTL:=Lib.hid htl
  have HMB:=Lib.hid hmb
  clear hm ht htl hmb hc
  go_wp2_with fail
  refine (HC1.out _).mono ?_
  rintro e w3 ⟨rfl,rfl⟩
  go_wp2_with fail
  refine (HWW.out _ HR2.out).mono ?_
  rintro e w3 ⟨rfl,hr3,hg3⟩
  have HR3:=Lib.hid hr3
  have HB3:=Lib.hid (HB2.out.grown hg3 HNE.out)
  have HG3:=Lib.hid (grown_trans HG2.out hg3)
  clear hr3 hg3
  go_wp2_with fail
  refine (wordsW w3 (HX.out.grown HG3.out).lx).mono ?_
  rintro e w4 ⟨A,rfl,ha,hb4⟩
  have HA:=Lib.hid ha
  have HR4:=Lib.hid (HR3.out.later hb4)
  have HB4:=Lib.hid (HB3.out.later hb4)
  have HG4:=Lib.hid (grown_trans HG3.out (below_grown hb4))
  clear ha hb4
  by_cases hmem:t ∈ wordsL
  ·have HF:Hid (∀ W,StrsAt A wordsL W→Calls Tryz.prog 140 #[.slice (some ⟨A,0,none⟩) 43 43,.string ⟨t.toArray⟩] W fun e w'=>∃ I:Int,e = .returned (.tuple #[.int .i64 I,.bool true])∧Below W.heap.size W w'):=Lib.hid (fun W h=>by
    have:=findW A ⟨t.toArray⟩ W h
    rwa [show decide ((⟨t.toArray⟩:ByteArray).data.toList ∈ wordsL)=true from decide_eq_true hmem] at this)
   have HONE:Hid (wordOne l = .tok 1 t 0 m):=Lib.hid (by rw [HONE.out,if_pos hmem])
   clear hmem
   go_wp2_with fail
   refine (HF.out _ HA.out).mono ?_
   rintro e w5 ⟨I,rfl,hb5⟩
   have HR5:=Lib.hid (HR4.out.later hb5)
   have HB5:=Lib.hid (HB4.out.later hb5)
   have HG5:=Lib.hid (grown_trans HG4.out (below_grown hb5))
   clear hb5
   obtain ⟨c0,c1,c2,c3,f0,f1,f2,f3⟩:=HB5.out
   go_wp2_with fail
   obtain ⟨q0,q1,q2,q3⟩:=filled4 w5 b (.int .u8 1) (.string ⟨t.toArray⟩) (.int .u64 0) (.int .i64 0) HB5.out _ rfl
   rw [HONE.out]
   refine bodyPost_ret (v:=.tuple #[Tk.val ⟨1,⟨t.toArray⟩,0,0⟩,.int .i64 0]) (by simp [results,Tryz.results117,go_sem,q0,q1,q2,q3,Tk.val]) rfl ⟨rfl,HR5.out.box _ _ _ _ HNE.out,grown_box HG5.out _ _ _ _ HBE.out⟩
  ·have HF:Hid (∀ W,StrsAt A wordsL W→Calls Tryz.prog 140 #[.slice (some ⟨A,0,none⟩) 43 43,.string ⟨t.toArray⟩] W fun e w'=>∃ I:Int,e = .returned (.tuple #[.int .i64 I,.bool false])∧Below W.heap.size W w'):=Lib.hid (fun W h=>by
    have:=findW A ⟨t.toArray⟩ W h
    rwa [show decide ((⟨t.toArray⟩:ByteArray).data.toList ∈ wordsL)=false from decide_eq_false hmem] at this)
   have HONE:Hid (wordOne l = .bad 6 0):=Lib.hid (by rw [HONE.out,if_neg hmem])
   clear hmem
   go_wp2_with fail
   refine (HF.out _ HA.out).mono ?_
   rintro e w5 ⟨I,rfl,hb5⟩
   have HR5:=Lib.hid (HR4.out.later hb5)
   have HB5:=Lib.hid (HB4.out.later hb5)
   have HG5:=Lib.hid (grown_trans HG4.out (below_grown hb5))
   clear hb5
   obtain ⟨c0,c1,c2,c3,f0,f1,f2,f3⟩:=HB5.out
   obtain ⟨d0,d1,g1⟩:=HR5.out
   have hz:(⟨t.toArray⟩:ByteArray).size=m:=HTL.out
   have hbk:=wrap_k k (by have:=HMB.out;omega)
   go_upto_region 6 with fail
   have HR6:=Lib.hid (HR5.out.set k)
   have HB6:=Lib.hid (HB5.out.else (r:=r) (i:=1) (u:=.int .i64 (k:Int)) HNE.out)
   have HG6:=Lib.hid (grown_trans HG5.out (grown_set w5 r 1 (.int .i64 (k:Int))))
   clear c0 c1 c2 c3 f0 f1 f2 f3 d0 d1 g1 hz hbk
   generalize w5.setCell ⟨r,1,none⟩ (.int .i64 (k:Int))=w6 at *
   obtain ⟨c0,c1,c2,c3,f0,f1,f2,f3⟩:=HB6.out
   go_wp2_with fail
   obtain ⟨q0,q1,q2,q3⟩:=filled4 w6 b (.int .u8 0) (.string ⟨#[]⟩) (.int .u64 0) (.int .i64 0) HB6.out _ rfl
   rw [HONE.out]
   refine bodyPost_ret (v:=.tuple #[T0.val,.int .i64 6]) (by simp [results,Tryz.results117,go_sem,q0,q1,q2,q3,Tk.val,T0];try rfl) rfl ⟨rfl,HR6.out.box _ _ _ _ HNE.out,grown_box HG6.out _ _ _ _ HBE.out⟩
 ·have HC1:Hid (∀ W,Calls Tryz.prog 116 #[byte (topB l)] W fun e w'=>e = .returned (.bool false)∧W=w'):=Lib.hid (fun W=>by have:=capW (topB l) W;rwa [show capB (topB l)=false by simpa using hc] at this)
  obtain ⟨m,hm⟩:∃ m,m=runL nameB l:=⟨_,rfl⟩
  obtain ⟨t,ht⟩:∃ t,t=l.take m:=⟨_,rfl⟩
  obtain ⟨c,hcc⟩:∃ c,c=topB (l.drop m):=⟨_,rfl⟩
  rw [← hm,← ht] at HWN
  rw [← hm,← hcc] at HPN
  have HONE:Hid (wordOne l=if capB c then .bad 6 m else if 32 < m then .bad 3 0 else .tok 2 t 0 m):=Lib.hid (by unfold wordOne;rw [if_neg hc,← hm,← ht,← hcc])
  have htl:t.length=m:=by rw [ht,hm];exact take_len_le (runL_le nameB l)
  have hmb:k + m ≤ 1000000:=by
   have h1:=runL_le nameB l
   have h2:=HL.out
   have h3:=HS.out
   have h4:=HK.out
   rw [hm];omega
  have HTL:=Lib.hid htl
  have HMB:=Lib.hid hmb
  clear hm ht htl hmb hc hcc
  go_wp2_with fail
  refine (HC1.out _).mono ?_
  rintro e w3 ⟨rfl,rfl⟩
  go_wp2_with fail
  refine (HWN.out _ HR2.out).mono ?_
  rintro e w3 ⟨rfl,hr3,hg3⟩
  have HR3:=Lib.hid hr3
  have HB3:=Lib.hid (HB2.out.grown hg3 HNE.out)
  have HG3:=Lib.hid (grown_trans HG2.out hg3)
  clear hr3 hg3
  go_wp2_with fail
  refine (HPN.out _ HR3.out).mono ?_
  rintro e w4 ⟨rfl,hb4⟩
  have HR4:=Lib.hid (HR3.out.later hb4)
  have HB4:=Lib.hid (HB3.out.later hb4)
  have HG4:=Lib.hid (grown_trans HG3.out (below_grown hb4))
  clear hb4
  have HC2:=Lib.hid (capW c)
  obtain ⟨c0,c1,c2,c3,f0,f1,f2,f3⟩:=HB4.out
  cases hcp:capB c with
  | true=>
   rw [hcp] at HC2 HONE
   have HONE:Hid (wordOne l = .bad 6 m):=Lib.hid (by rw [HONE.out,if_pos rfl])
   clear hcp
   go_wp2_with fail
   refine (HC2.out _).mono ?_
   rintro e w5 ⟨rfl,rfl⟩
   go_wp2_with fail
   obtain ⟨q0,q1,q2,q3⟩:=filled4 w4 b (.int .u8 0) (.string ⟨#[]⟩) (.int .u64 0) (.int .i64 0) HB4.out _ rfl
   rw [HONE.out]
   refine bodyPost_ret (v:=.tuple #[T0.val,.int .i64 6]) (by simp [results,Tryz.results117,go_sem,q0,q1,q2,q3,Tk.val,T0];try rfl) rfl ⟨rfl,HR4.out.box _ _ _ _ HNE.out,grown_box HG4.out _ _ _ _ HBE.out⟩
  | false=>
   rw [hcp] at HC2 HONE
   have hz:(⟨t.toArray⟩:ByteArray).size=m:=HTL.out
   clear hcp
   by_cases h32:32 < m
   ·have HONE:Hid (wordOne l = .bad 3 0):=Lib.hid (by rw [HONE.out,if_neg (by decide),if_pos h32])
    have i1:(32:Int) < (m:Int):=by omega
    have HR5:=HR4
    have HB5:=HB4
    have HG5:=HG4
    clear c0 c1 c2 c3 f0 f1 f2 f3 h32
    go_wp2_with fail
    refine (HC2.out _).mono ?_
    rintro e w5 ⟨rfl,rfl⟩
    obtain ⟨d0,d1,g1⟩:=HR5.out
    have c0:True:=trivial
    have c1:True:=trivial
    have c2:True:=trivial
    have c3:True:=trivial
    have f0:True:=trivial
    have f1:True:=trivial
    have f2:True:=trivial
    have f3:True:=trivial
    have hbk:=wrap_k k (by have:=HMB.out;omega)
    go_upto_region 13 with fail
    have HR6:=Lib.hid (HR5.out.set k)
    have HB6:=Lib.hid (HB5.out.else (r:=r) (i:=1) (u:=.int .i64 (k:Int)) HNE.out)
    have HG6:=Lib.hid (grown_trans HG5.out (grown_set w4 r 1 (.int .i64 (k:Int))))
    clear c0 c1 c2 c3 f0 f1 f2 f3 d0 d1 g1 hz hbk
    generalize w4.setCell ⟨r,1,none⟩ (.int .i64 (k:Int))=w6 at *
    obtain ⟨c0,c1,c2,c3,f0,f1,f2,f3⟩:=HB6.out
    go_wp2_with fail
    obtain ⟨q0,q1,q2,q3⟩:=filled4 w6 b (.int .u8 0) (.string ⟨#[]⟩) (.int .u64 0) (.int .i64 0) HB6.out _ rfl
    rw [HONE.out]
    refine bodyPost_ret (v:=.tuple #[T0.val,.int .i64 3]) (by simp [results,Tryz.results117,go_sem,q0,q1,q2,q3,Tk.val,T0];try rfl) rfl ⟨rfl,HR6.out.box _ _ _ _ HNE.out,grown_box HG6.out _ _ _ _ HBE.out⟩
   ·have HONE:Hid (wordOne l = .tok 2 t 0 m):=Lib.hid (by rw [HONE.out,if_neg (by decide),if_neg h32])
    have i1:¬ (32:Int) < (m:Int):=by omega
    clear h32
    go_wp2_with fail
    refine (HC2.out _).mono ?_
    rintro e w5 ⟨rfl,rfl⟩
    go_wp2_with fail
    obtain ⟨q0,q1,q2,q3⟩:=filled4 w4 b (.int .u8 2) (.string ⟨t.toArray⟩) (.int .u64 0) (.int .i64 0) HB4.out _ rfl
    rw [HONE.out]
    refine bodyPost_ret (v:=.tuple #[Tk.val ⟨2,⟨t.toArray⟩,0,0⟩,.int .i64 0]) (by simp [results,Tryz.results117,go_sem,q0,q1,q2,q3,Tk.val]) rfl ⟨rfl,HR4.out.box _ _ _ _ HNE.out,grown_box HG4.out _ _ _ _ HBE.out⟩
end Go.Proofs.YtmdogmpcmkfjpaaGreatDoor.Dt
