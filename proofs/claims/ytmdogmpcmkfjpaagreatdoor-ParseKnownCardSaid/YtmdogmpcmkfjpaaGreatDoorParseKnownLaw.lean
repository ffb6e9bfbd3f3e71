import Derived.Test.YtmdogmpcmkfjpaaGreatDoorTie
import Derived.Test.YtmdogmpcmkfjpaaGreatDoorCards
import Derived.SevenTiedAt
import Derived.Stop.Joined
import Derived.Deep.DeepCutAuto
import Derived.Test.YtmdogmpcmkfjpaaGreatDoorBn06
import Derived.Test.YtmdogmpcmkfjpaaGreatDoorBn42
import Derived.Test.YtmdogmpcmkfjpaaGreatDoorBn43
import Derived.Test.YtmdogmpcmkfjpaaGreatDoorBn44
/- ParseKnown: the law returns true at every input. -/
namespace Go.Proofs.YtmdogmpcmkfjpaaGreatDoor.ParseKnown
open Go.ChangeShapes Go.WideShapes Go.ChangeAt Go.RowKit Go.Proofs.YtmdogmpcmkfjpaaGreatDoor.By
set_option linter.unusedVariables false
open Go.Proofs.YtmdogmpcmkfjpaaGreatDoor.Dt Go.Proofs.YtmdogmpcmkfjpaaGreatDoor.By
set_option linter.unusedSimpArgs false
attribute [local go_sem ↓] veilLd_sm
theorem sp_size:(Tryz.prog.info? 39).map (·.size)=some 2:=by kernel_rfl
theorem veilSt_sp (a:Addr) (v:Value):storeVar 39 a v=veilSt 39 a v:=rfl
theorem sp_ok (a b:Int):(#[.int .i64 a,.int .i64 b]:Array Value).all (·.oneCell')=true:=by simp [Value.oneCell']
theorem run_spSt {W:World} {g:Nat} {a b c e:Int} (h:Row g 39 #[.int .i64 a,.int .i64 b] W):(veilSt 39 ⟨g,0,none⟩ (.agg #[.int .i64 c,.int .i64 e])).run Tryz.prog W = .ok () (W.setRow g #[.int .i64 c,.int .i64 e]):=
 run_veilSt sp_size W g _ _ 39 h rfl rfl (sp_ok c e)
theorem run_spNew (W:World) (c e:Int):(veilSt 39 ⟨W.heap.size,0,none⟩ (.agg #[.int .i64 c,.int .i64 e])).run Tryz.prog (W.alloc (.cells #[.int .i64 0,.int .i64 0] 39)) = .ok () (W.alloc (.cells #[.int .i64 c,.int .i64 e] 39)):=
 run_veilNew sp_size W _ _ 39 rfl rfl (sp_ok c e)
theorem new_set {n q:Nat} {ds:Array Value} {W W':World} {Q:World→Prop} (h:New n W Q) (hf:Fin1 q ds W W') (hq:q < n):New n W' Q:=Dep.step h hf.sz fun b h1 _=>⟨h1,hf.ot b (by omega)⟩
theorem set_row {W:World} {g k:Nat} {T:TypeId} {cs ds:Array Value} (h:Row k T cs W) (hk:k ≠ g):Row k T cs (W.setRow g ds):=(setRow_other W g k ds hk).trans h
theorem set_below {W:World} {n g:Nat} {ds:Array Value} (h:n ≤ g):Below n W (W.setRow g ds):=⟨rfl,rfl,rfl,by simp,fun b hb=>setRow_other W g b ds (by omega)⟩
def KnownKn (ka la:Option Addr) (kc lc:Nat):Nat→Value→World→Prop
 | 0,v,_=>v = .bool true
 | 1,v,_=>v = .bool false
 | 2,v,_=>v = .bool false
 | 3,v,_=>v = .agg #[.int .i64 0,.int .i64 0]
 | 4,v,_=>v = .agg #[.int .i64 0,.int .i64 0]
 | 5,v,_=>v = .bool false
 | 6,v,_=>v = .bool false
 | 7,v,_=>v = .bool false
 | 8,v,_=>v = .agg #[.int .i64 0,.int .i64 0]
 | 9,v,_=>v = .agg #[.int .i64 0,.int .i64 0]
 | 10,v,_=>v = .bool false
 | 11,v,_=>v = .bool false
 | 12,v,_=>v = .bool false
 | 13,v,_=>v = .agg #[.int .u8 6,.int .u8 0,.int .i64 0,.string ⟨#[]⟩,.string ⟨#[]⟩,.string ⟨#[]⟩,.int .i64 0,.slice ka 2 kc]
 | 14,v,_=>v = .agg #[.int .u8 1,.int .u8 1,.int .i64 1,.string ⟨#[]⟩,.string ⟨#[]⟩,.string ⟨#[]⟩,.int .i64 0,.slice none 0 0]
 | 15,v,_=>v = .agg #[.int .u8 1,.int .u8 1,.int .i64 2,.string ⟨#[]⟩,.string ⟨#[]⟩,.string ⟨#[]⟩,.int .i64 0,.slice none 0 0]
 | 16,v,_=>v = .agg #[.int .u8 1,.int .u8 1,.int .i64 3,.string ⟨#[]⟩,.string ⟨#[]⟩,.string ⟨#[]⟩,.int .i64 0,.slice none 0 0]
 | 17,v,w=>ExsR w v [(PE.val1 ⟨1,2,⟨#[]⟩⟩),(PE.val1 ⟨1,3,⟨#[]⟩⟩)]
 | 18,v,w=>ExV w v (.node 8 [(PE.val1 ⟨1,2,⟨#[]⟩⟩),(PE.val1 ⟨1,3,⟨#[]⟩⟩)])
 | 19,v,w=>ExsR w v [(PE.val1 ⟨1,1,⟨#[]⟩⟩),(PE.node 8 [(PE.val1 ⟨1,2,⟨#[]⟩⟩),(PE.val1 ⟨1,3,⟨#[]⟩⟩)])]
 | 20,v,w=>ExV w v (.node 6 [(PE.val1 ⟨1,1,⟨#[]⟩⟩),(PE.node 8 [(PE.val1 ⟨1,2,⟨#[]⟩⟩),(PE.val1 ⟨1,3,⟨#[]⟩⟩)])])
 | 21,v,_=>v = .bool true
 | 22,v,_=>v = .bool false
 | 23,v,_=>v = .bool false
 | 24,v,_=>v = .bool false
 | 25,v,_=>v = .agg #[.int .u8 8,.int .u8 0,.int .i64 0,.string ⟨#[]⟩,.string ⟨#[]⟩,.string ⟨#[]⟩,.int .i64 0,.slice la 2 lc]
 | 26,v,_=>v = .agg #[.int .u8 1,.int .u8 1,.int .i64 1,.string ⟨#[]⟩,.string ⟨#[]⟩,.string ⟨#[]⟩,.int .i64 0,.slice none 0 0]
 | 27,v,_=>v = .agg #[.int .u8 1,.int .u8 1,.int .i64 2,.string ⟨#[]⟩,.string ⟨#[]⟩,.string ⟨#[]⟩,.int .i64 0,.slice none 0 0]
 | 28,v,w=>ExsR w v [(PE.val1 ⟨1,1,⟨#[]⟩⟩),(PE.val1 ⟨1,2,⟨#[]⟩⟩)]
 | 29,v,w=>ExV w v (.node 6 [(PE.val1 ⟨1,1,⟨#[]⟩⟩),(PE.val1 ⟨1,2,⟨#[]⟩⟩)])
 | 30,v,_=>v = .agg #[.int .u8 1,.int .u8 1,.int .i64 3,.string ⟨#[]⟩,.string ⟨#[]⟩,.string ⟨#[]⟩,.int .i64 0,.slice none 0 0]
 | 31,v,w=>ExsR w v [(PE.node 6 [(PE.val1 ⟨1,1,⟨#[]⟩⟩),(PE.val1 ⟨1,2,⟨#[]⟩⟩)]),(PE.val1 ⟨1,3,⟨#[]⟩⟩)]
 | 32,v,w=>ExV w v (.node 8 [(PE.node 6 [(PE.val1 ⟨1,1,⟨#[]⟩⟩),(PE.val1 ⟨1,2,⟨#[]⟩⟩)]),(PE.val1 ⟨1,3,⟨#[]⟩⟩)])
 | 33,v,_=>v = .bool true
 | 34,v,_=>v = .bool false
 | 35,v,_=>v = .bool false
 | _,_,_=>True
theorem KnownKn.later {ka la:Option Addr} {kc lc:Nat} : ∀ (j:Nat) (v:Value) (w1 w2:World),KnownKn ka la kc lc j v w1→Below w1.heap.size w1 w2→KnownKn ka la kc lc j v w2
 | 0,_,_,_,h,_=>h
 | 1,_,_,_,h,_=>h
 | 2,_,_,_,h,_=>h
 | 3,_,_,_,h,_=>h
 | 4,_,_,_,h,_=>h
 | 5,_,_,_,h,_=>h
 | 6,_,_,_,h,_=>h
 | 7,_,_,_,h,_=>h
 | 8,_,_,_,h,_=>h
 | 9,_,_,_,h,_=>h
 | 10,_,_,_,h,_=>h
 | 11,_,_,_,h,_=>h
 | 12,_,_,_,h,_=>h
 | 13,_,_,_,h,_=>h
 | 14,_,_,_,h,_=>h
 | 15,_,_,_,h,_=>h
 | 16,_,_,_,h,_=>h
 | 17,v,w,w2,h,hb=>exsR_below h hb
 | 18,v,w,w2,h,hb=>exV_below h hb
 | 19,v,w,w2,h,hb=>exsR_below h hb
 | 20,v,w,w2,h,hb=>exV_below h hb
 | 21,_,_,_,h,_=>h
 | 22,_,_,_,h,_=>h
 | 23,_,_,_,h,_=>h
 | 24,_,_,_,h,_=>h
 | 25,_,_,_,h,_=>h
 | 26,_,_,_,h,_=>h
 | 27,_,_,_,h,_=>h
 | 28,v,w,w2,h,hb=>exsR_below h hb
 | 29,v,w,w2,h,hb=>exV_below h hb
 | 30,_,_,_,h,_=>h
 | 31,v,w,w2,h,hb=>exsR_below h hb
 | 32,v,w,w2,h,hb=>exV_below h hb
 | 33,_,_,_,h,_=>h
 | 34,_,_,_,h,_=>h
 | 35,_,_,_,h,_=>h
 | _ + 36,_,_,_,h,_=>h
set_option maxRecDepth 100000 in
set_option maxHeartbeats 64000000 in
theorem walk (w:World) (hw:LX w):Calls Tryz.prog 6 #[] w fun e w'=>e = .returned (.bool true)∧Below w.heap.size w w':=by
 have HW:=Lib.hid hw
 have h1:=exprTopB ⟨#[49,32,43,32,50,32,42,32,51]⟩ w hw (by decide)
 rw [kn_a] at h1
 have HT:=Lib.hid h1
 clear h1 hw
 go_enter Tryz.func6,Tryz.ntmps6
 go_wp2_with fail
 refine HT.out.mono ?_
 rintro e1 w1 ⟨⟨v,rfl,hn⟩,hb1⟩
 obtain ⟨kv,hv,hk⟩:=hn.here.open
 replace hv:v = .agg #[.int .u8 6,.int .u8 0,.int .i64 0,.string ⟨#[]⟩,.string ⟨#[]⟩,.string ⟨#[]⟩,.int .i64 0,kv]:=hv
 subst hv
 obtain ⟨ka,kc,hv,_⟩:=hk.shape
 replace hv:kv = .slice ka 2 kc:=hv
 subst hv
 have hba:Below w1.heap.size w1 ((w1.alloc (.cells #[.int .u8 6,.int .u8 0,.int .i64 0,.string ⟨#[]⟩,.string ⟨#[]⟩,.string ⟨#[]⟩,.int .i64 0,.slice ka 2 kc] 48)).alloc (.cells #[.int .i64 0,.int .i64 0] 39)):=((Below.refl _ _).alloc (Nat.le_refl _) _).alloc (by simp) _
 have hz:(w1.alloc (.cells #[.int .u8 6,.int .u8 0,.int .i64 0,.string ⟨#[]⟩,.string ⟨#[]⟩,.string ⟨#[]⟩,.int .i64 0,.slice ka 2 kc] 48)).heap.size=w1.heap.size + 1:=by simp
 have hr:=row_alloc (w1.alloc (.cells #[.int .u8 6,.int .u8 0,.int .i64 0,.string ⟨#[]⟩,.string ⟨#[]⟩,.string ⟨#[]⟩,.int .i64 0,.slice ka 2 kc] 48)) 39 #[.int .i64 0,.int .i64 0]
 rw [hz] at hr
 have HS2a:=Lib.hid hr
 have HX1a:=Lib.hid ((row_alloc w1 48 #[.int .u8 6,.int .u8 0,.int .i64 0,.string ⟨#[]⟩,.string ⟨#[]⟩,.string ⟨#[]⟩,.int .i64 0,.slice ka 2 kc]).later ((Below.refl _ _).alloc (Nat.le_refl _) (.cells #[.int .i64 0,.int .i64 0] 39)))
 have HKAa:Hid (ExsR ((w1.alloc (.cells #[.int .u8 6,.int .u8 0,.int .i64 0,.string ⟨#[]⟩,.string ⟨#[]⟩,.string ⟨#[]⟩,.int .i64 0,.slice ka 2 kc] 48)).alloc (.cells #[.int .i64 0,.int .i64 0] 39)) (.slice ka 2 kc) knA.kids):=Lib.hid (exsR_below hk hba)
 have HB2:=Lib.hid (next hb1 hba)
 have HG1:Hid (w.heap.size ≤ w1.heap.size):=Lib.hid hb1.size
 clear hn hb1 hba hz hr hk HT
 go_upto_region 2 with fail
 generalize (w1.alloc (.cells #[.int .u8 6,.int .u8 0,.int .i64 0,.string ⟨#[]⟩,.string ⟨#[]⟩,.string ⟨#[]⟩,.int .i64 0,.slice ka 2 kc] 48)).alloc (.cells #[.int .i64 0,.int .i64 0] 39)=w2 at *
 generalize w1.heap.size=q1 at *
 have h1:=exprTopB ⟨#[40,49,32,43,32,50,41,32,42,32,51]⟩ w2 (HW.out.later HB2.out) (by decide)
 rw [kn_b] at h1
 have HT:=Lib.hid h1
 clear h1
 go_wp2_with fail
 refine HT.out.mono ?_
 rintro e3 w3 ⟨⟨v,rfl,hn⟩,hb1⟩
 obtain ⟨kv,hv,hk⟩:=hn.here.open
 replace hv:v = .agg #[.int .u8 8,.int .u8 0,.int .i64 0,.string ⟨#[]⟩,.string ⟨#[]⟩,.string ⟨#[]⟩,.int .i64 0,kv]:=hv
 subst hv
 obtain ⟨la,lc,hv,_⟩:=hk.shape
 replace hv:kv = .slice la 2 lc:=hv
 subst hv
 have hba:Below w3.heap.size w3 ((w3.alloc (.cells #[.int .u8 8,.int .u8 0,.int .i64 0,.string ⟨#[]⟩,.string ⟨#[]⟩,.string ⟨#[]⟩,.int .i64 0,.slice la 2 lc] 48)).alloc (.cells #[.int .i64 0,.int .i64 0] 39)):=((Below.refl _ _).alloc (Nat.le_refl _) _).alloc (by simp) _
 have hz:(w3.alloc (.cells #[.int .u8 8,.int .u8 0,.int .i64 0,.string ⟨#[]⟩,.string ⟨#[]⟩,.string ⟨#[]⟩,.int .i64 0,.slice la 2 lc] 48)).heap.size=w3.heap.size + 1:=by simp
 have hr:=row_alloc (w3.alloc (.cells #[.int .u8 8,.int .u8 0,.int .i64 0,.string ⟨#[]⟩,.string ⟨#[]⟩,.string ⟨#[]⟩,.int .i64 0,.slice la 2 lc] 48)) 39 #[.int .i64 0,.int .i64 0]
 rw [hz] at hr
 have HS4:=Lib.hid hr
 have HX3:=Lib.hid ((row_alloc w3 48 #[.int .u8 8,.int .u8 0,.int .i64 0,.string ⟨#[]⟩,.string ⟨#[]⟩,.string ⟨#[]⟩,.int .i64 0,.slice la 2 lc]).later ((Below.refl _ _).alloc (Nat.le_refl _) (.cells #[.int .i64 0,.int .i64 0] 39)))
 have HKB:Hid (ExsR ((w3.alloc (.cells #[.int .u8 8,.int .u8 0,.int .i64 0,.string ⟨#[]⟩,.string ⟨#[]⟩,.string ⟨#[]⟩,.int .i64 0,.slice la 2 lc] 48)).alloc (.cells #[.int .i64 0,.int .i64 0] 39)) (.slice la 2 lc) knB.kids):=Lib.hid (exsR_below hk hba)
 have HKA:Hid (ExsR ((w3.alloc (.cells #[.int .u8 8,.int .u8 0,.int .i64 0,.string ⟨#[]⟩,.string ⟨#[]⟩,.string ⟨#[]⟩,.int .i64 0,.slice la 2 lc] 48)).alloc (.cells #[.int .i64 0,.int .i64 0] 39)) (.slice ka 2 kc) knA.kids):=Lib.hid (exsR_below HKAa.out (next hb1 hba))
 have HS2:=Lib.hid (HS2a.out.later (next hb1 hba))
 have HX1:=Lib.hid (HX1a.out.later (next hb1 hba))
 have HB:=Lib.hid (next HB2.out (next hb1 hba))
 have HG3:Hid (q1 + 1 < w3.heap.size):=Lib.hid (Nat.lt_of_lt_of_le HS2a.out.lt hb1.size)
 clear hn hb1 hba hz hr hk HT HS2a HX1a HKAa HB2
 go_upto_region 3 with fail
 generalize (w3.alloc (.cells #[.int .u8 8,.int .u8 0,.int .i64 0,.string ⟨#[]⟩,.string ⟨#[]⟩,.string ⟨#[]⟩,.int .i64 0,.slice la 2 lc] 48)).alloc (.cells #[.int .i64 0,.int .i64 0] 39)=w4 at *
 generalize w3.heap.size=q3 at *
 refine wp_region_kip (KnownKn ka la kc lc) 189 (by simp) (by kernel_rfl) (by kernel_rfl) KnownKn.later ?_ ?_
 ·intro i hi A W hother hbW hd
  match i,hi with
  | 0,hi=>
   clear hother hd hi
   exact kip_call rfl (wanted_none rfl) 8 #[] (by simp only [execOp];go_simp) ((worksL W (HW.out.later (next HB.out hbW))).mono fun e w2 hh=>⟨⟨_,hh.1,rfl⟩,hh.2⟩)
  | 1,hi=>
   have h23:=tmps_at ((hd _ rfl ⟨0,.data⟩ (by simp) rfl).eq (.bool true) (fun _ h=>h) 23 (by kernel_rfl) (by decide))
   clear hother hd hi
   exact kip_same rfl (wanted_none rfl) (.bool false) (by simp only [execOp];go_simp) rfl
  | 2,hi=>
   have h24:=tmps_at ((hd _ rfl ⟨1,.data⟩ (by simp) rfl).eq (.bool false) (fun _ h=>h) 24 (by kernel_rfl) (by decide))
   clear hother hd hi
   exact kip_same rfl (wanted_none rfl) (.bool false) (by simp only [execOp];go_simp) rfl
  | 3,hi=>
   have h2:=tmps_at (show A.eval (.tmp 2) = .pointer (some ⟨q1 + 1,0,none⟩) from hother 2 (by kernel_rfl))
   have hgd:=(hd _ rfl ⟨2,.guard⟩ (by simp) rfl).eq (.bool false) (fun _ h=>h) 25 (by kernel_rfl) (by decide)
   have z0:=(HS2.out.later hbW).cell (i:=0) (v:=.int .i64 0) rfl
   have z1:=(HS2.out.later hbW).cell (i:=1) (v:=.int .i64 0) rfl
   clear hother hd hi
   exact kip_same rfl (wanted_some rfl (by kernel_rfl) hgd) (.agg #[.int .i64 0,.int .i64 0]) (by simp only [execOp];go_simp) rfl
  | 4,hi=>
   have hgd:=(hd _ rfl ⟨2,.guard⟩ (by simp) rfl).eq (.bool false) (fun _ h=>h) 25 (by kernel_rfl) (by decide)
   clear hother hd hi
   exact kip_same rfl (wanted_some rfl (by kernel_rfl) hgd) (.agg #[.int .i64 0,.int .i64 0]) (by simp only [execOp];go_simp) rfl
  | 5,hi=>
   have h26:=tmps_at ((hd _ rfl ⟨3,.data⟩ (by simp) rfl).eq (.agg #[.int .i64 0,.int .i64 0]) (fun _ h=>h) 26 (by kernel_rfl) (by decide))
   have h27:=tmps_at ((hd _ rfl ⟨4,.data⟩ (by simp) rfl).eq (.agg #[.int .i64 0,.int .i64 0]) (fun _ h=>h) 27 (by kernel_rfl) (by decide))
   have hgd:=(hd _ rfl ⟨2,.guard⟩ (by simp) rfl).eq (.bool false) (fun _ h=>h) 25 (by kernel_rfl) (by decide)
   have hq:∀ W,(binOp .neq 39 (.agg #[.int .i64 0,.int .i64 0]) (.agg #[.int .i64 0,.int .i64 0])).run Tryz.prog W = .ok (.bool false) W:=fun W=>neq_toldS 0 0 0 0 false (by simp) W
   clear hother hd hi
   exact kip_same rfl (wanted_some rfl (by kernel_rfl) hgd) (.bool false) (by simp only [execOp];go_simp) rfl
  | 6,hi=>
   have h25:=tmps_at ((hd _ rfl ⟨2,.data⟩ (by simp) rfl).eq (.bool false) (fun _ h=>h) 25 (by kernel_rfl) (by decide))
   have h28:=tmps_at ((hd _ rfl ⟨5,.data⟩ (by simp) rfl).eq (.bool false) (fun _ h=>h) 28 (by kernel_rfl) (by decide))
   clear hother hd hi
   exact kip_same rfl (wanted_none rfl) (.bool false) (by simp only [execOp];go_simp) rfl
  | 7,hi=>
   have h29:=tmps_at ((hd _ rfl ⟨6,.data⟩ (by simp) rfl).eq (.bool false) (fun _ h=>h) 29 (by kernel_rfl) (by decide))
   clear hother hd hi
   exact kip_same rfl (wanted_none rfl) (.bool false) (by simp only [execOp];go_simp) rfl
  | 8,hi=>
   have h4:=tmps_at (show A.eval (.tmp 4) = .pointer (some ⟨q3 + 1,0,none⟩) from hother 4 (by kernel_rfl))
   have hgd:=(hd _ rfl ⟨7,.guard⟩ (by simp) rfl).eq (.bool false) (fun _ h=>h) 30 (by kernel_rfl) (by decide)
   have z0:=(HS4.out.later hbW).cell (i:=0) (v:=.int .i64 0) rfl
   have z1:=(HS4.out.later hbW).cell (i:=1) (v:=.int .i64 0) rfl
   clear hother hd hi
   exact kip_same rfl (wanted_some rfl (by kernel_rfl) hgd) (.agg #[.int .i64 0,.int .i64 0]) (by simp only [execOp];go_simp) rfl
  | 9,hi=>
   have hgd:=(hd _ rfl ⟨7,.guard⟩ (by simp) rfl).eq (.bool false) (fun _ h=>h) 30 (by kernel_rfl) (by decide)
   clear hother hd hi
   exact kip_same rfl (wanted_some rfl (by kernel_rfl) hgd) (.agg #[.int .i64 0,.int .i64 0]) (by simp only [execOp];go_simp) rfl
  | 10,hi=>
   have h31:=tmps_at ((hd _ rfl ⟨8,.data⟩ (by simp) rfl).eq (.agg #[.int .i64 0,.int .i64 0]) (fun _ h=>h) 31 (by kernel_rfl) (by decide))
   have h32:=tmps_at ((hd _ rfl ⟨9,.data⟩ (by simp) rfl).eq (.agg #[.int .i64 0,.int .i64 0]) (fun _ h=>h) 32 (by kernel_rfl) (by decide))
   have hgd:=(hd _ rfl ⟨7,.guard⟩ (by simp) rfl).eq (.bool false) (fun _ h=>h) 30 (by kernel_rfl) (by decide)
   have hq:∀ W,(binOp .neq 39 (.agg #[.int .i64 0,.int .i64 0]) (.agg #[.int .i64 0,.int .i64 0])).run Tryz.prog W = .ok (.bool false) W:=fun W=>neq_toldS 0 0 0 0 false (by simp) W
   clear hother hd hi
   exact kip_same rfl (wanted_some rfl (by kernel_rfl) hgd) (.bool false) (by simp only [execOp];go_simp) rfl
  | 11,hi=>
   have h30:=tmps_at ((hd _ rfl ⟨7,.data⟩ (by simp) rfl).eq (.bool false) (fun _ h=>h) 30 (by kernel_rfl) (by decide))
   have h33:=tmps_at ((hd _ rfl ⟨10,.data⟩ (by simp) rfl).eq (.bool false) (fun _ h=>h) 33 (by kernel_rfl) (by decide))
   clear hother hd hi
   exact kip_same rfl (wanted_none rfl) (.bool false) (by simp only [execOp];go_simp) rfl
  | 12,hi=>
   have h34:=tmps_at ((hd _ rfl ⟨11,.data⟩ (by simp) rfl).eq (.bool false) (fun _ h=>h) 34 (by kernel_rfl) (by decide))
   clear hother hd hi
   exact kip_same rfl (wanted_none rfl) (.bool false) (by simp only [execOp];go_simp) rfl
  | 13,hi=>
   have h1:=tmps_at (show A.eval (.tmp 1) = .pointer (some ⟨q1,0,none⟩) from hother 1 (by kernel_rfl))
   have hgd:=(hd _ rfl ⟨12,.guard⟩ (by simp) rfl).eq (.bool false) (fun _ h=>h) 35 (by kernel_rfl) (by decide)
   have z0:=(HX1.out.later hbW).cell (i:=0) (v:=.int .u8 6) rfl
   have z1:=(HX1.out.later hbW).cell (i:=1) (v:=.int .u8 0) rfl
   have z2:=(HX1.out.later hbW).cell (i:=2) (v:=.int .i64 0) rfl
   have z3:=(HX1.out.later hbW).cell (i:=3) (v:=.string ⟨#[]⟩) rfl
   have z4:=(HX1.out.later hbW).cell (i:=4) (v:=.string ⟨#[]⟩) rfl
   have z5:=(HX1.out.later hbW).cell (i:=5) (v:=.string ⟨#[]⟩) rfl
   have z6:=(HX1.out.later hbW).cell (i:=6) (v:=.int .i64 0) rfl
   have z7:=(HX1.out.later hbW).cell (i:=7) (v:=.slice ka 2 kc) rfl
   clear hother hd hi
   exact kip_same rfl (wanted_some rfl (by kernel_rfl) hgd) (.agg #[.int .u8 6,.int .u8 0,.int .i64 0,.string ⟨#[]⟩,.string ⟨#[]⟩,.string ⟨#[]⟩,.int .i64 0,.slice ka 2 kc]) (by simp only [execOp];go_simp) rfl
  | 14,hi=>
   have hgd:=(hd _ rfl ⟨12,.guard⟩ (by simp) rfl).eq (.bool false) (fun _ h=>h) 35 (by kernel_rfl) (by decide)
   clear hother hd hi
   exact kip_call rfl (wanted_some rfl (by kernel_rfl) hgd) 17 #[.int .i64 1] (by simp only [execOp];go_simp) ((numberL 1 W).mono fun e w2 hh=>⟨⟨_,hh.1,rfl⟩,hh.2⟩)
  | 15,hi=>
   have hgd:=(hd _ rfl ⟨12,.guard⟩ (by simp) rfl).eq (.bool false) (fun _ h=>h) 35 (by kernel_rfl) (by decide)
   clear hother hd hi
   exact kip_call rfl (wanted_some rfl (by kernel_rfl) hgd) 17 #[.int .i64 2] (by simp only [execOp];go_simp) ((numberL 2 W).mono fun e w2 hh=>⟨⟨_,hh.1,rfl⟩,hh.2⟩)
  | 16,hi=>
   have hgd:=(hd _ rfl ⟨12,.guard⟩ (by simp) rfl).eq (.bool false) (fun _ h=>h) 35 (by kernel_rfl) (by decide)
   clear hother hd hi
   exact kip_call rfl (wanted_some rfl (by kernel_rfl) hgd) 17 #[.int .i64 3] (by simp only [execOp];go_simp) ((numberL 3 W).mono fun e w2 hh=>⟨⟨_,hh.1,rfl⟩,hh.2⟩)
  | 17,hi=>
   have h38:=tmps_at ((hd _ rfl ⟨15,.data⟩ (by simp) rfl).eq (.agg #[.int .u8 1,.int .u8 1,.int .i64 2,.string ⟨#[]⟩,.string ⟨#[]⟩,.string ⟨#[]⟩,.int .i64 0,.slice none 0 0]) (fun _ h=>h) 38 (by kernel_rfl) (by decide))
   have h39:=tmps_at ((hd _ rfl ⟨16,.data⟩ (by simp) rfl).eq (.agg #[.int .u8 1,.int .u8 1,.int .i64 3,.string ⟨#[]⟩,.string ⟨#[]⟩,.string ⟨#[]⟩,.int .i64 0,.slice none 0 0]) (fun _ h=>h) 39 (by kernel_rfl) (by decide))
   have hgd:=(hd _ rfl ⟨12,.guard⟩ (by simp) rfl).eq (.bool false) (fun _ h=>h) 35 (by kernel_rfl) (by decide)
   clear hother hd hi
   exact kip_val rfl (wanted_some rfl (by kernel_rfl) hgd) (.slice (some ⟨W.heap.size,0,none⟩) 2 2) (W.alloc (.cells #[.int .u8 1,.int .u8 1,.int .i64 2,.string ⟨#[]⟩,.string ⟨#[]⟩,.string ⟨#[]⟩,.int .i64 0,.slice none 0 0,.int .u8 1,.int .u8 1,.int .i64 3,.string ⟨#[]⟩,.string ⟨#[]⟩,.string ⟨#[]⟩,.int .i64 0,.slice none 0 0] 48)) (by simp only [execOp];go_simp) ((Below.refl _ _).alloc (Nat.le_refl _) _) (exs_two W (PE.val1 ⟨1,2,⟨#[]⟩⟩) (PE.val1 ⟨1,3,⟨#[]⟩⟩) (.slice none 0 0) (.slice none 0 0) 48 (SlR.nil _ _ _) (SlR.nil _ _ _))
  | 18,hi=>
   obtain ⟨ov17,ok17,hx17⟩:=(hd _ rfl ⟨17,.data⟩ (by simp) rfl).get 40 (by kernel_rfl) (by decide)
   have hgd:=(hd _ rfl ⟨12,.guard⟩ (by simp) rfl).eq (.bool false) (fun _ h=>h) 35 (by kernel_rfl) (by decide)
   obtain ⟨ka,kc,hk,_⟩:=ok17.shape
   replace hk:ov17 = .slice ka 2 kc:=hk
   subst hk
   have h40:=tmps_at hx17
   clear hother hd hi
   exact kip_call rfl (wanted_some rfl (by kernel_rfl) hgd) 16 #[.int .u8 8,.slice ka 2 kc] (by simp only [execOp];go_simp) (ofL 8 ka kc [(PE.val1 ⟨1,2,⟨#[]⟩⟩),(PE.val1 ⟨1,3,⟨#[]⟩⟩)] W ok17)
  | 19,hi=>
   have h37:=tmps_at ((hd _ rfl ⟨14,.data⟩ (by simp) rfl).eq (.agg #[.int .u8 1,.int .u8 1,.int .i64 1,.string ⟨#[]⟩,.string ⟨#[]⟩,.string ⟨#[]⟩,.int .i64 0,.slice none 0 0]) (fun _ h=>h) 37 (by kernel_rfl) (by decide))
   obtain ⟨ov18,ok18,hx18⟩:=(hd _ rfl ⟨18,.data⟩ (by simp) rfl).get 41 (by kernel_rfl) (by decide)
   have hgd:=(hd _ rfl ⟨12,.guard⟩ (by simp) rfl).eq (.bool false) (fun _ h=>h) 35 (by kernel_rfl) (by decide)
   obtain ⟨kv,hk,hkv⟩:=ok18.open
   replace hk:ov18 = .agg #[.int .u8 8,.int .u8 0,.int .i64 0,.string ⟨#[]⟩,.string ⟨#[]⟩,.string ⟨#[]⟩,.int .i64 0,kv]:=hk
   subst hk
   have h41:=tmps_at hx18
   clear hother hd hi
   exact kip_val rfl (wanted_some rfl (by kernel_rfl) hgd) (.slice (some ⟨W.heap.size,0,none⟩) 2 2) (W.alloc (.cells #[.int .u8 1,.int .u8 1,.int .i64 1,.string ⟨#[]⟩,.string ⟨#[]⟩,.string ⟨#[]⟩,.int .i64 0,.slice none 0 0,.int .u8 8,.int .u8 0,.int .i64 0,.string ⟨#[]⟩,.string ⟨#[]⟩,.string ⟨#[]⟩,.int .i64 0,kv] 48)) (by simp only [execOp];go_simp) ((Below.refl _ _).alloc (Nat.le_refl _) _) (exs_two W (PE.val1 ⟨1,1,⟨#[]⟩⟩) (PE.node 8 [(PE.val1 ⟨1,2,⟨#[]⟩⟩),(PE.val1 ⟨1,3,⟨#[]⟩⟩)]) (.slice none 0 0) kv 48 (SlR.nil _ _ _) hkv)
  | 20,hi=>
   obtain ⟨ov19,ok19,hx19⟩:=(hd _ rfl ⟨19,.data⟩ (by simp) rfl).get 42 (by kernel_rfl) (by decide)
   have hgd:=(hd _ rfl ⟨12,.guard⟩ (by simp) rfl).eq (.bool false) (fun _ h=>h) 35 (by kernel_rfl) (by decide)
   obtain ⟨ka,kc,hk,_⟩:=ok19.shape
   replace hk:ov19 = .slice ka 2 kc:=hk
   subst hk
   have h42:=tmps_at hx19
   clear hother hd hi
   exact kip_call rfl (wanted_some rfl (by kernel_rfl) hgd) 16 #[.int .u8 6,.slice ka 2 kc] (by simp only [execOp];go_simp) (ofL 6 ka kc [(PE.val1 ⟨1,1,⟨#[]⟩⟩),(PE.node 8 [(PE.val1 ⟨1,2,⟨#[]⟩⟩),(PE.val1 ⟨1,3,⟨#[]⟩⟩)])] W ok19)
  | 21,hi=>
   have h36:=tmps_at ((hd _ rfl ⟨13,.data⟩ (by simp) rfl).eq (.agg #[.int .u8 6,.int .u8 0,.int .i64 0,.string ⟨#[]⟩,.string ⟨#[]⟩,.string ⟨#[]⟩,.int .i64 0,.slice ka 2 kc]) (fun _ h=>h) 36 (by kernel_rfl) (by decide))
   obtain ⟨ov20,ok20,hx20⟩:=(hd _ rfl ⟨20,.data⟩ (by simp) rfl).get 43 (by kernel_rfl) (by decide)
   have hgd:=(hd _ rfl ⟨12,.guard⟩ (by simp) rfl).eq (.bool false) (fun _ h=>h) 35 (by kernel_rfl) (by decide)
   obtain ⟨kv,hk,hkv⟩:=ok20.open
   replace hk:ov20 = .agg #[.int .u8 6,.int .u8 0,.int .i64 0,.string ⟨#[]⟩,.string ⟨#[]⟩,.string ⟨#[]⟩,.int .i64 0,kv]:=hk
   subst hk
   have h43:=tmps_at hx20
   clear hother hd hi
   exact kip_call rfl (wanted_some rfl (by kernel_rfl) hgd) 15 #[.agg #[.int .u8 6,.int .u8 0,.int .i64 0,.string ⟨#[]⟩,.string ⟨#[]⟩,.string ⟨#[]⟩,.int .i64 0,.slice ka 2 kc],.agg #[.int .u8 6,.int .u8 0,.int .i64 0,.string ⟨#[]⟩,.string ⟨#[]⟩,.string ⟨#[]⟩,.int .i64 0,kv]] (by simp only [execOp];go_simp) ((show Calls Tryz.prog 15 #[.agg #[.int .u8 6,.int .u8 0,.int .i64 0,.string ⟨#[]⟩,.string ⟨#[]⟩,.string ⟨#[]⟩,.int .i64 0,.slice ka 2 kc],.agg #[.int .u8 6,.int .u8 0,.int .i64 0,.string ⟨#[]⟩,.string ⟨#[]⟩,.string ⟨#[]⟩,.int .i64 0,kv]] W _ from sameEx kn_shA knA (.slice ka 2 kc) kv W (exsR_below HKA.out hbW) hkv).mono fun e w2 hh=>⟨⟨_,hh.1,by rw [eqB_self];rfl⟩,hh.2⟩)
  | 22,hi=>
   have h44:=tmps_at ((hd _ rfl ⟨21,.data⟩ (by simp) rfl).eq (.bool true) (fun _ h=>h) 44 (by kernel_rfl) (by decide))
   have hgd:=(hd _ rfl ⟨12,.guard⟩ (by simp) rfl).eq (.bool false) (fun _ h=>h) 35 (by kernel_rfl) (by decide)
   clear hother hd hi
   exact kip_same rfl (wanted_some rfl (by kernel_rfl) hgd) (.bool false) (by simp only [execOp];go_simp) rfl
  | 23,hi=>
   have h35:=tmps_at ((hd _ rfl ⟨12,.data⟩ (by simp) rfl).eq (.bool false) (fun _ h=>h) 35 (by kernel_rfl) (by decide))
   have h45:=tmps_at ((hd _ rfl ⟨22,.data⟩ (by simp) rfl).eq (.bool false) (fun _ h=>h) 45 (by kernel_rfl) (by decide))
   clear hother hd hi
   exact kip_same rfl (wanted_none rfl) (.bool false) (by simp only [execOp];go_simp) rfl
  | 24,hi=>
   have h46:=tmps_at ((hd _ rfl ⟨23,.data⟩ (by simp) rfl).eq (.bool false) (fun _ h=>h) 46 (by kernel_rfl) (by decide))
   clear hother hd hi
   exact kip_same rfl (wanted_none rfl) (.bool false) (by simp only [execOp];go_simp) rfl
  | 25,hi=>
   have h3:=tmps_at (show A.eval (.tmp 3) = .pointer (some ⟨q3,0,none⟩) from hother 3 (by kernel_rfl))
   have hgd:=(hd _ rfl ⟨24,.guard⟩ (by simp) rfl).eq (.bool false) (fun _ h=>h) 47 (by kernel_rfl) (by decide)
   have z0:=(HX3.out.later hbW).cell (i:=0) (v:=.int .u8 8) rfl
   have z1:=(HX3.out.later hbW).cell (i:=1) (v:=.int .u8 0) rfl
   have z2:=(HX3.out.later hbW).cell (i:=2) (v:=.int .i64 0) rfl
   have z3:=(HX3.out.later hbW).cell (i:=3) (v:=.string ⟨#[]⟩) rfl
   have z4:=(HX3.out.later hbW).cell (i:=4) (v:=.string ⟨#[]⟩) rfl
   have z5:=(HX3.out.later hbW).cell (i:=5) (v:=.string ⟨#[]⟩) rfl
   have z6:=(HX3.out.later hbW).cell (i:=6) (v:=.int .i64 0) rfl
   have z7:=(HX3.out.later hbW).cell (i:=7) (v:=.slice la 2 lc) rfl
   clear hother hd hi
   exact kip_same rfl (wanted_some rfl (by kernel_rfl) hgd) (.agg #[.int .u8 8,.int .u8 0,.int .i64 0,.string ⟨#[]⟩,.string ⟨#[]⟩,.string ⟨#[]⟩,.int .i64 0,.slice la 2 lc]) (by simp only [execOp];go_simp) rfl
  | 26,hi=>
   have hgd:=(hd _ rfl ⟨24,.guard⟩ (by simp) rfl).eq (.bool false) (fun _ h=>h) 47 (by kernel_rfl) (by decide)
   clear hother hd hi
   exact kip_call rfl (wanted_some rfl (by kernel_rfl) hgd) 17 #[.int .i64 1] (by simp only [execOp];go_simp) ((numberL 1 W).mono fun e w2 hh=>⟨⟨_,hh.1,rfl⟩,hh.2⟩)
  | 27,hi=>
   have hgd:=(hd _ rfl ⟨24,.guard⟩ (by simp) rfl).eq (.bool false) (fun _ h=>h) 47 (by kernel_rfl) (by decide)
   clear hother hd hi
   exact kip_call rfl (wanted_some rfl (by kernel_rfl) hgd) 17 #[.int .i64 2] (by simp only [execOp];go_simp) ((numberL 2 W).mono fun e w2 hh=>⟨⟨_,hh.1,rfl⟩,hh.2⟩)
  | 28,hi=>
   have h49:=tmps_at ((hd _ rfl ⟨26,.data⟩ (by simp) rfl).eq (.agg #[.int .u8 1,.int .u8 1,.int .i64 1,.string ⟨#[]⟩,.string ⟨#[]⟩,.string ⟨#[]⟩,.int .i64 0,.slice none 0 0]) (fun _ h=>h) 49 (by kernel_rfl) (by decide))
   have h50:=tmps_at ((hd _ rfl ⟨27,.data⟩ (by simp) rfl).eq (.agg #[.int .u8 1,.int .u8 1,.int .i64 2,.string ⟨#[]⟩,.string ⟨#[]⟩,.string ⟨#[]⟩,.int .i64 0,.slice none 0 0]) (fun _ h=>h) 50 (by kernel_rfl) (by decide))
   have hgd:=(hd _ rfl ⟨24,.guard⟩ (by simp) rfl).eq (.bool false) (fun _ h=>h) 47 (by kernel_rfl) (by decide)
   clear hother hd hi
   exact kip_val rfl (wanted_some rfl (by kernel_rfl) hgd) (.slice (some ⟨W.heap.size,0,none⟩) 2 2) (W.alloc (.cells #[.int .u8 1,.int .u8 1,.int .i64 1,.string ⟨#[]⟩,.string ⟨#[]⟩,.string ⟨#[]⟩,.int .i64 0,.slice none 0 0,.int .u8 1,.int .u8 1,.int .i64 2,.string ⟨#[]⟩,.string ⟨#[]⟩,.string ⟨#[]⟩,.int .i64 0,.slice none 0 0] 48)) (by simp only [execOp];go_simp) ((Below.refl _ _).alloc (Nat.le_refl _) _) (exs_two W (PE.val1 ⟨1,1,⟨#[]⟩⟩) (PE.val1 ⟨1,2,⟨#[]⟩⟩) (.slice none 0 0) (.slice none 0 0) 48 (SlR.nil _ _ _) (SlR.nil _ _ _))
  | 29,hi=>
   obtain ⟨ov28,ok28,hx28⟩:=(hd _ rfl ⟨28,.data⟩ (by simp) rfl).get 51 (by kernel_rfl) (by decide)
   have hgd:=(hd _ rfl ⟨24,.guard⟩ (by simp) rfl).eq (.bool false) (fun _ h=>h) 47 (by kernel_rfl) (by decide)
   obtain ⟨ka,kc,hk,_⟩:=ok28.shape
   replace hk:ov28 = .slice ka 2 kc:=hk
   subst hk
   have h51:=tmps_at hx28
   clear hother hd hi
   exact kip_call rfl (wanted_some rfl (by kernel_rfl) hgd) 16 #[.int .u8 6,.slice ka 2 kc] (by simp only [execOp];go_simp) (ofL 6 ka kc [(PE.val1 ⟨1,1,⟨#[]⟩⟩),(PE.val1 ⟨1,2,⟨#[]⟩⟩)] W ok28)
  | 30,hi=>
   have hgd:=(hd _ rfl ⟨24,.guard⟩ (by simp) rfl).eq (.bool false) (fun _ h=>h) 47 (by kernel_rfl) (by decide)
   clear hother hd hi
   exact kip_call rfl (wanted_some rfl (by kernel_rfl) hgd) 17 #[.int .i64 3] (by simp only [execOp];go_simp) ((numberL 3 W).mono fun e w2 hh=>⟨⟨_,hh.1,rfl⟩,hh.2⟩)
  | 31,hi=>
   obtain ⟨ov29,ok29,hx29⟩:=(hd _ rfl ⟨29,.data⟩ (by simp) rfl).get 52 (by kernel_rfl) (by decide)
   have h53:=tmps_at ((hd _ rfl ⟨30,.data⟩ (by simp) rfl).eq (.agg #[.int .u8 1,.int .u8 1,.int .i64 3,.string ⟨#[]⟩,.string ⟨#[]⟩,.string ⟨#[]⟩,.int .i64 0,.slice none 0 0]) (fun _ h=>h) 53 (by kernel_rfl) (by decide))
   have hgd:=(hd _ rfl ⟨24,.guard⟩ (by simp) rfl).eq (.bool false) (fun _ h=>h) 47 (by kernel_rfl) (by decide)
   obtain ⟨kv,hk,hkv⟩:=ok29.open
   replace hk:ov29 = .agg #[.int .u8 6,.int .u8 0,.int .i64 0,.string ⟨#[]⟩,.string ⟨#[]⟩,.string ⟨#[]⟩,.int .i64 0,kv]:=hk
   subst hk
   have h52:=tmps_at hx29
   clear hother hd hi
   exact kip_val rfl (wanted_some rfl (by kernel_rfl) hgd) (.slice (some ⟨W.heap.size,0,none⟩) 2 2) (W.alloc (.cells #[.int .u8 6,.int .u8 0,.int .i64 0,.string ⟨#[]⟩,.string ⟨#[]⟩,.string ⟨#[]⟩,.int .i64 0,kv,.int .u8 1,.int .u8 1,.int .i64 3,.string ⟨#[]⟩,.string ⟨#[]⟩,.string ⟨#[]⟩,.int .i64 0,.slice none 0 0] 48)) (by simp only [execOp];go_simp) ((Below.refl _ _).alloc (Nat.le_refl _) _) (exs_two W (PE.node 6 [(PE.val1 ⟨1,1,⟨#[]⟩⟩),(PE.val1 ⟨1,2,⟨#[]⟩⟩)]) (PE.val1 ⟨1,3,⟨#[]⟩⟩) kv (.slice none 0 0) 48 hkv (SlR.nil _ _ _))
  | 32,hi=>
   obtain ⟨ov31,ok31,hx31⟩:=(hd _ rfl ⟨31,.data⟩ (by simp) rfl).get 54 (by kernel_rfl) (by decide)
   have hgd:=(hd _ rfl ⟨24,.guard⟩ (by simp) rfl).eq (.bool false) (fun _ h=>h) 47 (by kernel_rfl) (by decide)
   obtain ⟨ka,kc,hk,_⟩:=ok31.shape
   replace hk:ov31 = .slice ka 2 kc:=hk
   subst hk
   have h54:=tmps_at hx31
   clear hother hd hi
   exact kip_call rfl (wanted_some rfl (by kernel_rfl) hgd) 16 #[.int .u8 8,.slice ka 2 kc] (by simp only [execOp];go_simp) (ofL 8 ka kc [(PE.node 6 [(PE.val1 ⟨1,1,⟨#[]⟩⟩),(PE.val1 ⟨1,2,⟨#[]⟩⟩)]),(PE.val1 ⟨1,3,⟨#[]⟩⟩)] W ok31)
  | 33,hi=>
   have h48:=tmps_at ((hd _ rfl ⟨25,.data⟩ (by simp) rfl).eq (.agg #[.int .u8 8,.int .u8 0,.int .i64 0,.string ⟨#[]⟩,.string ⟨#[]⟩,.string ⟨#[]⟩,.int .i64 0,.slice la 2 lc]) (fun _ h=>h) 48 (by kernel_rfl) (by decide))
   obtain ⟨ov32,ok32,hx32⟩:=(hd _ rfl ⟨32,.data⟩ (by simp) rfl).get 55 (by kernel_rfl) (by decide)
   have hgd:=(hd _ rfl ⟨24,.guard⟩ (by simp) rfl).eq (.bool false) (fun _ h=>h) 47 (by kernel_rfl) (by decide)
   obtain ⟨kv,hk,hkv⟩:=ok32.open
   replace hk:ov32 = .agg #[.int .u8 8,.int .u8 0,.int .i64 0,.string ⟨#[]⟩,.string ⟨#[]⟩,.string ⟨#[]⟩,.int .i64 0,kv]:=hk
   subst hk
   have h55:=tmps_at hx32
   clear hother hd hi
   exact kip_call rfl (wanted_some rfl (by kernel_rfl) hgd) 15 #[.agg #[.int .u8 8,.int .u8 0,.int .i64 0,.string ⟨#[]⟩,.string ⟨#[]⟩,.string ⟨#[]⟩,.int .i64 0,.slice la 2 lc],.agg #[.int .u8 8,.int .u8 0,.int .i64 0,.string ⟨#[]⟩,.string ⟨#[]⟩,.string ⟨#[]⟩,.int .i64 0,kv]] (by simp only [execOp];go_simp) ((show Calls Tryz.prog 15 #[.agg #[.int .u8 8,.int .u8 0,.int .i64 0,.string ⟨#[]⟩,.string ⟨#[]⟩,.string ⟨#[]⟩,.int .i64 0,.slice la 2 lc],.agg #[.int .u8 8,.int .u8 0,.int .i64 0,.string ⟨#[]⟩,.string ⟨#[]⟩,.string ⟨#[]⟩,.int .i64 0,kv]] W _ from sameEx kn_shB knB (.slice la 2 lc) kv W (exsR_below HKB.out hbW) hkv).mono fun e w2 hh=>⟨⟨_,hh.1,by rw [eqB_self];rfl⟩,hh.2⟩)
  | 34,hi=>
   have h56:=tmps_at ((hd _ rfl ⟨33,.data⟩ (by simp) rfl).eq (.bool true) (fun _ h=>h) 56 (by kernel_rfl) (by decide))
   have hgd:=(hd _ rfl ⟨24,.guard⟩ (by simp) rfl).eq (.bool false) (fun _ h=>h) 47 (by kernel_rfl) (by decide)
   clear hother hd hi
   exact kip_same rfl (wanted_some rfl (by kernel_rfl) hgd) (.bool false) (by simp only [execOp];go_simp) rfl
  | 35,hi=>
   have h47:=tmps_at ((hd _ rfl ⟨24,.data⟩ (by simp) rfl).eq (.bool false) (fun _ h=>h) 47 (by kernel_rfl) (by decide))
   have h57:=tmps_at ((hd _ rfl ⟨34,.data⟩ (by simp) rfl).eq (.bool false) (fun _ h=>h) 57 (by kernel_rfl) (by decide))
   clear hother hd hi
   exact kip_same rfl (wanted_none rfl) (.bool false) (by simp only [execOp];go_simp) rfl
  | n + 36,hi=>simp at hi;omega
 intro us w5 hb5 hh
 have h35:us 35 = .bool false:=hh 35 (by simp)
 have HB5:=Lib.hid (next HB.out hb5)
 have HS25:=Lib.hid (HS2.out.later hb5)
 have HS45:=Lib.hid (HS4.out.later hb5)
 clear hh hb5 HB HS2 HS4 HX1 HX3 HKA HKB
 simp only [List.length_cons,List.length_nil,Nat.zero_add,Nat.reduceAdd,putAll,dstOf,List.getElem?_toArray,List.getElem?_cons_zero,List.getElem?_cons_succ,Option.bind_some,Act.put,h35]
 clear h35
 simp only [List.setIfInBounds_toArray,List.set_cons_zero,List.set_cons_succ]
 go_wp2_with fail
 refine (numberL (-5) w5).mono ?_
 rintro e6 w6 ⟨rfl,hb6⟩
 have hp:Calls Tryz.prog 18 #[.agg #[.int .u8 1,.int .u8 1,.int .i64 (-5),.string ⟨#[]⟩,.string ⟨#[]⟩,.string ⟨#[]⟩,.int .i64 0,.slice none 0 0]] w6 (prPost w6 (printEL knX1)):=printEW knX1 (.slice none 0 0) w6 (HW.out.later (next HB5.out hb6)) (SlR.nil _ _ _) (fun u b hu=>(kn_ew (HW.out.later (next (next HB5.out hb6) hu))).1) kn_sh1 kn_l1
 rw [kn_w1] at hp
 have HP:=Lib.hid hp
 have HB6:=Lib.hid (next HB5.out hb6)
 have HS26:=Lib.hid (HS25.out.later hb6)
 have HS46:=Lib.hid (HS45.out.later hb6)
 clear hp hb6 HB5 HS25 HS45
 go_wp2_with fail
 refine HP.out.mono ?_
 rintro e7 w7 ⟨t,rfl,ht,hb7⟩
 obtain rfl:t=⟨#[45,32,53]⟩:=ByteArray.ext (Array.toList_inj.1 ht)
 have HB7:=Lib.hid (next HB6.out hb7)
 have HS27:=Lib.hid (HS26.out.later hb7)
 have HS47:=Lib.hid (HS46.out.later hb7)
 clear ht hb7 HP HB6 HS26 HS46
 go_wp2_with fail
 refine (numberL 5 w7).mono ?_
 rintro e8 w8 ⟨rfl,hb8⟩
 have HB8:=Lib.hid (next HB7.out hb8)
 have HS28:=Lib.hid (HS27.out.later hb8)
 have HS48:=Lib.hid (HS47.out.later hb8)
 clear hb8 HB7 HS27 HS47
 have hba:Below w8.heap.size w8 (w8.alloc (.cells #[.int .u8 1,.int .u8 1,.int .i64 5,.string ⟨#[]⟩,.string ⟨#[]⟩,.string ⟨#[]⟩,.int .i64 0,.slice none 0 0] 48)):=(Below.refl _ _).alloc (Nat.le_refl _) _
 have ho:Calls Tryz.prog 16 #[.int .u8 3,.slice (some ⟨w8.heap.size,0,none⟩) 1 1] (w8.alloc (.cells #[.int .u8 1,.int .u8 1,.int .i64 5,.string ⟨#[]⟩,.string ⟨#[]⟩,.string ⟨#[]⟩,.int .i64 0,.slice none 0 0] 48)) (fun e w'=>(∃ v,e = .returned v∧ExV w' v (.node 3 [(PE.val1 ⟨1,5,⟨#[]⟩⟩)]))∧Below (w8.alloc (.cells #[.int .u8 1,.int .u8 1,.int .i64 5,.string ⟨#[]⟩,.string ⟨#[]⟩,.string ⟨#[]⟩,.int .i64 0,.slice none 0 0] 48)).heap.size (w8.alloc (.cells #[.int .u8 1,.int .u8 1,.int .i64 5,.string ⟨#[]⟩,.string ⟨#[]⟩,.string ⟨#[]⟩,.int .i64 0,.slice none 0 0] 48)) w'):=ofL 3 (some ⟨w8.heap.size,0,none⟩) 1 [(PE.val1 ⟨1,5,⟨#[]⟩⟩)] _ (exs_one w8 (PE.val1 ⟨1,5,⟨#[]⟩⟩) (.slice none 0 0) 48 (SlR.nil _ _ _))
 have HO:=Lib.hid ho
 have HBA:=Lib.hid hba
 clear ho hba
 go_wp2_with fail
 refine HO.out.mono ?_
 rintro e9 w9 ⟨⟨v,rfl,hv⟩,hb⟩
 obtain ⟨kv9,hv2,hkv9⟩:=hv.open
 replace hv2:v = .agg #[.int .u8 3,.int .u8 0,.int .i64 0,.string ⟨#[]⟩,.string ⟨#[]⟩,.string ⟨#[]⟩,.int .i64 0,kv9]:=hv2
 subst hv2
 have hbb:=next HBA.out hb
 clear HO HBA hb hv
 have HBp:=Lib.hid (next HB8.out hbb)
 have hp:Calls Tryz.prog 18 #[.agg #[.int .u8 3,.int .u8 0,.int .i64 0,.string ⟨#[]⟩,.string ⟨#[]⟩,.string ⟨#[]⟩,.int .i64 0,kv9]] w9 (prPost w9 (printEL knX2)):=printEW knX2 kv9 w9 (HW.out.later HBp.out) hkv9 (fun u b hu=>(kn_ew (HW.out.later (next HBp.out hu))).2.1) kn_sh2 kn_l2
 rw [kn_w2] at hp
 have HP:=Lib.hid hp
 have HS2p:=Lib.hid (HS28.out.later hbb)
 have HS4p:=Lib.hid (HS48.out.later hbb)
 clear hp hbb hkv9 HB8 HS28 HS48
 go_wp2_with fail
 refine HP.out.mono ?_
 rintro e10 w10 ⟨t,rfl,ht,hb⟩
 obtain rfl:t=⟨#[45,32,40,32,53,32,41]⟩:=ByteArray.ext (Array.toList_inj.1 ht)
 have HB10:=Lib.hid (next HBp.out hb)
 have HS210:=Lib.hid (HS2p.out.later hb)
 have HS410:=Lib.hid (HS4p.out.later hb)
 clear ht hb HP HBp HS2p HS4p
 have hba:Below w10.heap.size w10 (w10.alloc (.cells #[.int .u8 2,.int .u8 0,.int .i64 0,.string ⟨#[]⟩,.string ⟨#[]⟩,.string ⟨#[97]⟩,.int .i64 0,.slice none 0 0] 48)):=(Below.refl _ _).alloc (Nat.le_refl _) _
 have ho:Calls Tryz.prog 16 #[.int .u8 3,.slice (some ⟨w10.heap.size,0,none⟩) 1 1] (w10.alloc (.cells #[.int .u8 2,.int .u8 0,.int .i64 0,.string ⟨#[]⟩,.string ⟨#[]⟩,.string ⟨#[97]⟩,.int .i64 0,.slice none 0 0] 48)) (fun e w'=>(∃ v,e = .returned v∧ExV w' v (.node 3 [(PE.mk 2 V00 ⟨#[]⟩ ⟨#[97]⟩ 0 [])]))∧Below (w10.alloc (.cells #[.int .u8 2,.int .u8 0,.int .i64 0,.string ⟨#[]⟩,.string ⟨#[]⟩,.string ⟨#[97]⟩,.int .i64 0,.slice none 0 0] 48)).heap.size (w10.alloc (.cells #[.int .u8 2,.int .u8 0,.int .i64 0,.string ⟨#[]⟩,.string ⟨#[]⟩,.string ⟨#[97]⟩,.int .i64 0,.slice none 0 0] 48)) w'):=ofL 3 (some ⟨w10.heap.size,0,none⟩) 1 [(PE.mk 2 V00 ⟨#[]⟩ ⟨#[97]⟩ 0 [])] _ (exs_one w10 (PE.mk 2 V00 ⟨#[]⟩ ⟨#[97]⟩ 0 []) (.slice none 0 0) 48 (SlR.nil _ _ _))
 have HO:=Lib.hid ho
 have HBA:=Lib.hid hba
 clear ho hba
 go_wp2_with fail
 refine HO.out.mono ?_
 rintro e11 w11 ⟨⟨v,rfl,hv⟩,hb⟩
 obtain ⟨kv11,hv2,hkv11⟩:=hv.open
 replace hv2:v = .agg #[.int .u8 3,.int .u8 0,.int .i64 0,.string ⟨#[]⟩,.string ⟨#[]⟩,.string ⟨#[]⟩,.int .i64 0,kv11]:=hv2
 subst hv2
 have hbb:=next HBA.out hb
 clear HO HBA hb hv
 have HB11:=Lib.hid (next HB10.out hbb)
 have HS211:=Lib.hid (HS210.out.later hbb)
 have HS411:=Lib.hid (HS410.out.later hbb)
 clear hbb HB10 HS210 HS410
 have hba:Below w11.heap.size w11 (w11.alloc (.cells #[.int .u8 3,.int .u8 0,.int .i64 0,.string ⟨#[]⟩,.string ⟨#[]⟩,.string ⟨#[]⟩,.int .i64 0,kv11] 48)):=(Below.refl _ _).alloc (Nat.le_refl _) _
 have ho:Calls Tryz.prog 16 #[.int .u8 3,.slice (some ⟨w11.heap.size,0,none⟩) 1 1] (w11.alloc (.cells #[.int .u8 3,.int .u8 0,.int .i64 0,.string ⟨#[]⟩,.string ⟨#[]⟩,.string ⟨#[]⟩,.int .i64 0,kv11] 48)) (fun e w'=>(∃ v,e = .returned v∧ExV w' v (.node 3 [(PE.node 3 [(PE.mk 2 V00 ⟨#[]⟩ ⟨#[97]⟩ 0 [])])]))∧Below (w11.alloc (.cells #[.int .u8 3,.int .u8 0,.int .i64 0,.string ⟨#[]⟩,.string ⟨#[]⟩,.string ⟨#[]⟩,.int .i64 0,kv11] 48)).heap.size (w11.alloc (.cells #[.int .u8 3,.int .u8 0,.int .i64 0,.string ⟨#[]⟩,.string ⟨#[]⟩,.string ⟨#[]⟩,.int .i64 0,kv11] 48)) w'):=ofL 3 (some ⟨w11.heap.size,0,none⟩) 1 [(PE.node 3 [(PE.mk 2 V00 ⟨#[]⟩ ⟨#[97]⟩ 0 [])])] _ (exs_one w11 (PE.node 3 [(PE.mk 2 V00 ⟨#[]⟩ ⟨#[97]⟩ 0 [])]) (kv11) 48 (hkv11))
 have HO:=Lib.hid ho
 have HBA:=Lib.hid hba
 clear ho hba
 go_wp2_with fail
 refine HO.out.mono ?_
 rintro e12 w12 ⟨⟨v,rfl,hv⟩,hb⟩
 obtain ⟨kv12,hv2,hkv12⟩:=hv.open
 replace hv2:v = .agg #[.int .u8 3,.int .u8 0,.int .i64 0,.string ⟨#[]⟩,.string ⟨#[]⟩,.string ⟨#[]⟩,.int .i64 0,kv12]:=hv2
 subst hv2
 have hbb:=next HBA.out hb
 clear HO HBA hb hv
 have HBp:=Lib.hid (next HB11.out hbb)
 have hp:Calls Tryz.prog 18 #[.agg #[.int .u8 3,.int .u8 0,.int .i64 0,.string ⟨#[]⟩,.string ⟨#[]⟩,.string ⟨#[]⟩,.int .i64 0,kv12]] w12 (prPost w12 (printEL knX3)):=printEW knX3 kv12 w12 (HW.out.later HBp.out) hkv12 (fun u b hu=>(kn_ew (HW.out.later (next HBp.out hu))).2.2) kn_sh3 kn_l3
 rw [kn_w3] at hp
 have HP:=Lib.hid hp
 have HS2p:=Lib.hid (HS211.out.later hbb)
 have HS4p:=Lib.hid (HS411.out.later hbb)
 clear hp hbb hkv12 HB11 HS211 HS411
 go_wp2_with fail
 refine HP.out.mono ?_
 rintro e13 w13 ⟨t,rfl,ht,hb⟩
 obtain rfl:t=⟨#[45,32,40,32,45,32,97,32,41]⟩:=ByteArray.ext (Array.toList_inj.1 ht)
 have HB13:=Lib.hid (next HBp.out hb)
 have HS213:=Lib.hid (HS2p.out.later hb)
 have HS413:=Lib.hid (HS4p.out.later hb)
 clear ht hb HP HBp HS2p HS4p
 clear hkv11
 have hx:=exprTopB ⟨#[97,32,73,83,32,78,79,84,32,78,85,76,76,32,61,32,49]⟩ w13 (HW.out.later HB13.out) (by decide)
 rw [kn_e1] at hx
 have HT:=Lib.hid hx
 clear hx
 go_wp2_with fail
 refine HT.out.mono ?_
 rintro e14 u14 ⟨he,hb⟩
 have he:e14 = .returned (.tuple #[.agg #[.int .u8 0,.int .u8 0,.int .i64 0,.string ⟨#[]⟩,.string ⟨#[]⟩,.string ⟨#[]⟩,.int .i64 0,.slice none 0 0],.agg #[.int .i64 6,.int .i64 14]]):=he
 subst he
 have hr:=HS213.out.later hb
 have c0:=hr.cell (i:=0) (v:=.int .i64 0) rfl
 have c1:=hr.cell (i:=1) (v:=.int .i64 0) rfl
 have f0:u14.frozen? ⟨q1 + 1,0,none⟩=false:=frz hr 0
 have f1:u14.frozen? ⟨q1 + 1,1,none⟩=false:=frz hr 1
 have hf:=fin_1 (a:=.int .i64 6) (b:=.int .i64 14) hr
 have HS214:=Lib.hid hf.r1
 have HS414:Hid (Row (q3 + 1) 39 #[.int .i64 0,.int .i64 0] ((u14.setCell ⟨q1 + 1,0,none⟩ (.int .i64 6)).setCell ⟨q1 + 1,1,none⟩ (.int .i64 14))):=Lib.hid ((hf.ot (q3 + 1) (by have:=HG3.out;omega)).trans (HS413.out.later hb))
 have HB14:=Lib.hid ((next HB13.out hb).trans (hf.bl w.heap.size (by have:=HG3.out;have:=HG1.out;omega)))
 clear hb hr hf HT HB13 HS213 HS413
 go_upto_region 11 with fail
 clear c0 c1 f0 f1
 generalize (u14.setCell ⟨q1 + 1,0,none⟩ (.int .i64 6)).setCell ⟨q1 + 1,1,none⟩ (.int .i64 14)=w14 at *
 have hx:=exprTopB ⟨#[49,32,61,32,50,32,61,32,51]⟩ w14 (HW.out.later HB14.out) (by decide)
 rw [kn_e2] at hx
 have HT:=Lib.hid hx
 clear hx
 go_wp2_with fail
 refine HT.out.mono ?_
 rintro e15 u15 ⟨he,hb⟩
 have he:e15 = .returned (.tuple #[.agg #[.int .u8 0,.int .u8 0,.int .i64 0,.string ⟨#[]⟩,.string ⟨#[]⟩,.string ⟨#[]⟩,.int .i64 0,.slice none 0 0],.agg #[.int .i64 6,.int .i64 6]]):=he
 subst he
 have hr:=HS414.out.later hb
 have c0:=hr.cell (i:=0) (v:=.int .i64 0) rfl
 have c1:=hr.cell (i:=1) (v:=.int .i64 0) rfl
 have f0:u15.frozen? ⟨q3 + 1,0,none⟩=false:=frz hr 0
 have f1:u15.frozen? ⟨q3 + 1,1,none⟩=false:=frz hr 1
 have hf:=fin_1 (a:=.int .i64 6) (b:=.int .i64 6) hr
 have HS415:=Lib.hid hf.r1
 have HS215:Hid (Row (q1 + 1) 39 #[.int .i64 6,.int .i64 14] ((u15.setCell ⟨q3 + 1,0,none⟩ (.int .i64 6)).setCell ⟨q3 + 1,1,none⟩ (.int .i64 6))):=Lib.hid ((hf.ot (q1 + 1) (by have:=HG3.out;omega)).trans (HS214.out.later hb))
 have HB15:=Lib.hid ((next HB14.out hb).trans (hf.bl w.heap.size (by have:=HG3.out;have:=HG1.out;omega)))
 clear hb hr hf HT HB14 HS214 HS414
 go_upto_region 12 with fail
 clear c0 c1 f0 f1
 generalize (u15.setCell ⟨q3 + 1,0,none⟩ (.int .i64 6)).setCell ⟨q3 + 1,1,none⟩ (.int .i64 6)=w15 at *
 have hx:=exprTopB ⟨#[57,50,50,51,51,55,50,48,51,54,56,53,52,55,55,53,56,48,56]⟩ w15 (HW.out.later HB15.out) (by decide)
 rw [kn_e3] at hx
 have HT:=Lib.hid hx
 clear hx
 go_wp2_with fail
 refine HT.out.mono ?_
 rintro e16 u16 ⟨he,hb⟩
 have he:e16 = .returned (.tuple #[.agg #[.int .u8 0,.int .u8 0,.int .i64 0,.string ⟨#[]⟩,.string ⟨#[]⟩,.string ⟨#[]⟩,.int .i64 0,.slice none 0 0],.agg #[.int .i64 5,.int .i64 0]]):=he
 subst he
 have hba:Below u16.heap.size u16 ((u16.alloc (.cells #[.int .u8 0,.int .u8 0,.int .i64 0,.string ⟨#[]⟩,.string ⟨#[]⟩,.string ⟨#[]⟩,.int .i64 0,.slice none 0 0] 48)).alloc (.cells #[.int .i64 5,.int .i64 0] 39)):=((Below.refl _ _).alloc (Nat.le_refl _) _).alloc (by simp) _
 have hz:(u16.alloc (.cells #[.int .u8 0,.int .u8 0,.int .i64 0,.string ⟨#[]⟩,.string ⟨#[]⟩,.string ⟨#[]⟩,.int .i64 0,.slice none 0 0] 48)).heap.size=u16.heap.size + 1:=by simp
 have hr:=row_alloc (u16.alloc (.cells #[.int .u8 0,.int .u8 0,.int .i64 0,.string ⟨#[]⟩,.string ⟨#[]⟩,.string ⟨#[]⟩,.int .i64 0,.slice none 0 0] 48)) 39 #[.int .i64 5,.int .i64 0]
 rw [hz] at hr
 have HS616:=Lib.hid hr
 have HS216:=Lib.hid (HS215.out.later (next hb hba))
 have HS416:=Lib.hid (HS415.out.later (next hb hba))
 have HB16:=Lib.hid (next HB15.out (next hb hba))
 have HG6:Hid (q3 + 1 < u16.heap.size):=Lib.hid (Nat.lt_of_lt_of_le HS415.out.lt hb.size)
 clear hb hba hz hr HT HB15 HS215 HS415
 go_upto_region 13 with fail
 generalize (u16.alloc (.cells #[.int .u8 0,.int .u8 0,.int .i64 0,.string ⟨#[]⟩,.string ⟨#[]⟩,.string ⟨#[]⟩,.int .i64 0,.slice none 0 0] 48)).alloc (.cells #[.int .i64 5,.int .i64 0] 39)=w16 at *
 generalize u16.heap.size=q6 at *
 have c2:=HS216.out.cell (i:=0) (v:=.int .i64 6) rfl
 have d2:=HS216.out.cell (i:=1) (v:=.int .i64 14) rfl
 have c4:=HS416.out.cell (i:=0) (v:=.int .i64 6) rfl
 have d4:=HS416.out.cell (i:=1) (v:=.int .i64 6) rfl
 have c6:=HS616.out.cell (i:=0) (v:=.int .i64 5) rfl
 have d6:=HS616.out.cell (i:=1) (v:=.int .i64 0) rfl
 have hq2:∀ W,(binOp .neq 39 (.agg #[.int .i64 6,.int .i64 14]) (.agg #[.int .i64 6,.int .i64 14])).run Tryz.prog W = .ok (.bool false) W:=fun W=>neq_toldS 6 6 14 14 false (by simp) W
 have hq4:∀ W,(binOp .neq 39 (.agg #[.int .i64 6,.int .i64 6]) (.agg #[.int .i64 6,.int .i64 6])).run Tryz.prog W = .ok (.bool false) W:=fun W=>neq_toldS 6 6 6 6 false (by simp) W
 have hq6:∀ W,(binOp .neq 39 (.agg #[.int .i64 5,.int .i64 0]) (.agg #[.int .i64 5,.int .i64 0])).run Tryz.prog W = .ok (.bool false) W:=fun W=>neq_toldS 5 5 0 0 false (by simp) W
 have hs:=scriptB ⟨#[66,69,71,73,78,59]⟩ w16 (HW.out.later HB16.out) (by decide)
 rw [kn_s1] at hs
 have HT:=Lib.hid hs
 clear hs
 go_wp2_with fail
 refine HT.out.mono ?_
 rintro e17 u17 ⟨⟨v,rfl,hn⟩,hb⟩
 clear c2 d2 c4 d4 c6 d6 hq2 hq4 hq6 HT
 obtain ⟨va,vc,hv,_⟩:=hn.here.shape
 replace hv:v = .slice va 1 vc:=hv
 subst hv
 have hr:=HS216.out.later hb
 have hlt:=HS216.out.lt
 have c0:=hr.cell (i:=0) (v:=.int .i64 6) rfl
 have c1:=hr.cell (i:=1) (v:=.int .i64 14) rfl
 have f0:u17.frozen? ⟨q1 + 1,0,none⟩=false:=frz hr 0
 have f1:u17.frozen? ⟨q1 + 1,1,none⟩=false:=frz hr 1
 have hf:=fin_1 (a:=.int .i64 0) (b:=.int .i64 0) hr
 have HS217:=Lib.hid hf.r1
 have HS417:Hid (Row (q3 + 1) 39 #[.int .i64 6,.int .i64 6] ((u17.setCell ⟨q1 + 1,0,none⟩ (.int .i64 0)).setCell ⟨q1 + 1,1,none⟩ (.int .i64 0))):=Lib.hid ((hf.ot (q3 + 1) (by have:=HG3.out;have:=HG6.out;omega)).trans (HS416.out.later hb))
 have HS617:Hid (Row (q6 + 1) 39 #[.int .i64 5,.int .i64 0] ((u17.setCell ⟨q1 + 1,0,none⟩ (.int .i64 0)).setCell ⟨q1 + 1,1,none⟩ (.int .i64 0))):=Lib.hid ((hf.ot (q6 + 1) (by have:=HG3.out;have:=HG6.out;omega)).trans (HS616.out.later hb))
 have HB17:=Lib.hid ((next HB16.out hb).trans (hf.bl w.heap.size (by have:=HG6.out;have:=HG3.out;have:=HG1.out;omega)))
 have HGN:Hid (q6 + 1 < w16.heap.size):=Lib.hid HS616.out.lt
 have HL17:=Lib.hid (new_set hn hf (by have:=HGN.out;have:=HG3.out;have:=HG6.out;omega))
 clear hb hr hf hlt HB16 HS216 HS416 HS616 hn
 go_upto_region 16 with fail
 clear c0 c1 f0 f1
 generalize (u17.setCell ⟨q1 + 1,0,none⟩ (.int .i64 0)).setCell ⟨q1 + 1,1,none⟩ (.int .i64 0)=w17 at *
 have hs:=scriptB ⟨#[59]⟩ w17 (HW.out.later HB17.out) (by decide)
 rw [kn_s2] at hs
 have HT:=Lib.hid hs
 clear hs
 go_wp2_with fail
 refine HT.out.mono ?_
 rintro e18 u18 ⟨he,hb⟩
 have he:e18 = .returned (.tuple #[.slice none 0 0,.agg #[.int .i64 6,.int .i64 0]]):=he
 subst he
 have hr:=HS417.out.later hb
 have hlt:=HS417.out.lt
 have c0:=hr.cell (i:=0) (v:=.int .i64 6) rfl
 have c1:=hr.cell (i:=1) (v:=.int .i64 6) rfl
 have f0:u18.frozen? ⟨q3 + 1,0,none⟩=false:=frz hr 0
 have f1:u18.frozen? ⟨q3 + 1,1,none⟩=false:=frz hr 1
 have hf:=fin_1 (a:=.int .i64 6) (b:=.int .i64 0) hr
 have HS418:=Lib.hid hf.r1
 have HS218:Hid (Row (q1 + 1) 39 #[.int .i64 0,.int .i64 0] ((u18.setCell ⟨q3 + 1,0,none⟩ (.int .i64 6)).setCell ⟨q3 + 1,1,none⟩ (.int .i64 0))):=Lib.hid ((hf.ot (q1 + 1) (by have:=HG3.out;have:=HG6.out;omega)).trans (HS217.out.later hb))
 have HS618:Hid (Row (q6 + 1) 39 #[.int .i64 5,.int .i64 0] ((u18.setCell ⟨q3 + 1,0,none⟩ (.int .i64 6)).setCell ⟨q3 + 1,1,none⟩ (.int .i64 0))):=Lib.hid ((hf.ot (q6 + 1) (by have:=HG3.out;have:=HG6.out;omega)).trans (HS617.out.later hb))
 have HB18:=Lib.hid ((next HB17.out hb).trans (hf.bl w.heap.size (by have:=HG6.out;have:=HG3.out;have:=HG1.out;omega)))
 have HL18:=Lib.hid (new_set (New.below HL17.out hb) hf (by have:=HGN.out;have:=HG3.out;have:=HG6.out;omega))
 clear hb hr hf hlt HB17 HS217 HS417 HS617 HT HL17
 go_upto_region 17 with fail
 clear c0 c1 f0 f1
 generalize (u18.setCell ⟨q3 + 1,0,none⟩ (.int .i64 6)).setCell ⟨q3 + 1,1,none⟩ (.int .i64 0)=w18 at *
 have hs:=scriptB ⟨#[83,69,76,69,67,84,32,42,32,70,82,79,77,32,116,32,76,73,77,73,84,32,49,48,55,51,55,52,49,56,50,53]⟩ w18 (HW.out.later HB18.out) (by decide)
 rw [kn_s3] at hs
 have HT:=Lib.hid hs
 clear hs
 go_wp2_with fail
 refine HT.out.mono ?_
 rintro e19 u19 ⟨he,hb⟩
 have he:e19 = .returned (.tuple #[.slice none 0 0,.agg #[.int .i64 5,.int .i64 22]]):=he
 subst he
 have hr:=HS618.out.later hb
 have hlt:=HS618.out.lt
 have c0:=hr.cell (i:=0) (v:=.int .i64 5) rfl
 have c1:=hr.cell (i:=1) (v:=.int .i64 0) rfl
 have f0:u19.frozen? ⟨q6 + 1,0,none⟩=false:=frz hr 0
 have f1:u19.frozen? ⟨q6 + 1,1,none⟩=false:=frz hr 1
 have hf:=fin_1 (a:=.int .i64 5) (b:=.int .i64 22) hr
 have HS619:=Lib.hid hf.r1
 have HS219:Hid (Row (q1 + 1) 39 #[.int .i64 0,.int .i64 0] ((u19.setCell ⟨q6 + 1,0,none⟩ (.int .i64 5)).setCell ⟨q6 + 1,1,none⟩ (.int .i64 22))):=Lib.hid ((hf.ot (q1 + 1) (by have:=HG3.out;have:=HG6.out;omega)).trans (HS218.out.later hb))
 have HS419:Hid (Row (q3 + 1) 39 #[.int .i64 6,.int .i64 0] ((u19.setCell ⟨q6 + 1,0,none⟩ (.int .i64 5)).setCell ⟨q6 + 1,1,none⟩ (.int .i64 22))):=Lib.hid ((hf.ot (q3 + 1) (by have:=HG3.out;have:=HG6.out;omega)).trans (HS418.out.later hb))
 have HB19:=Lib.hid ((next HB18.out hb).trans (hf.bl w.heap.size (by have:=HG6.out;have:=HG3.out;have:=HG1.out;omega)))
 have HL19:=Lib.hid (new_set (New.below HL18.out hb) hf (by have:=HGN.out;have:=HG3.out;have:=HG6.out;omega))
 clear hb hr hf hlt HB18 HS218 HS418 HS618 HT HL18
 go_upto_region 18 with fail
 clear c0 c1 f0 f1
 generalize (u19.setCell ⟨q6 + 1,0,none⟩ (.int .i64 5)).setCell ⟨q6 + 1,1,none⟩ (.int .i64 22)=w19 at *
 obtain ⟨yb,yo,ycs,rfl,_,hst,hyc⟩:=HL19.out.here.get (k:=0) rfl
 obtain ⟨g4,g5,g6,g7,g8,g9,g10,g11,g12,g13,g14,hcs,_⟩:=hst
 have y0:=hyc 0 (.int .u8 9) (by rw [hcs];rfl)
 rw [Nat.zero_mul,Nat.add_zero] at y0
 clear hyc hcs HL19
 have c2:=HS219.out.cell (i:=0) (v:=.int .i64 0) rfl
 have d2:=HS219.out.cell (i:=1) (v:=.int .i64 0) rfl
 have c4:=HS419.out.cell (i:=0) (v:=.int .i64 6) rfl
 have d4:=HS419.out.cell (i:=1) (v:=.int .i64 0) rfl
 have c6:=HS619.out.cell (i:=0) (v:=.int .i64 5) rfl
 have d6:=HS619.out.cell (i:=1) (v:=.int .i64 22) rfl
 have hq2:∀ W,(binOp .neq 39 (.agg #[.int .i64 0,.int .i64 0]) (.agg #[.int .i64 0,.int .i64 0])).run Tryz.prog W = .ok (.bool false) W:=fun W=>neq_toldS 0 0 0 0 false (by simp) W
 have hq4:∀ W,(binOp .neq 39 (.agg #[.int .i64 6,.int .i64 0]) (.agg #[.int .i64 6,.int .i64 0])).run Tryz.prog W = .ok (.bool false) W:=fun W=>neq_toldS 6 6 0 0 false (by simp) W
 have hq6:∀ W,(binOp .neq 39 (.agg #[.int .i64 5,.int .i64 22]) (.agg #[.int .i64 5,.int .i64 22])).run Tryz.prog W = .ok (.bool false) W:=fun W=>neq_toldS 5 5 22 22 false (by simp) W
 have hs:=scriptB ⟨#[67,82,69,65,84,69,32,84,65,66,76,69,32,116,32,40,97,32,73,78,84,69,71,69,82,44,32,80,82,73,77,65,82,89,32,75,69,89,32,40,97,41,41]⟩ w19 (HW.out.later HB19.out) (by decide)
 rw [kn_s4] at hs
 have HT:=Lib.hid hs
 clear hs
 go_wp2_with fail
 refine HT.out.mono ?_
 rintro e20 u20 ⟨⟨v,rfl,hn⟩,hb⟩
 clear c2 d2 c4 d4 c6 d6 hq4 hq6 HT y0
 obtain ⟨la2,lc2,hv,_⟩:=hn.here.shape
 replace hv:v = .slice la2 1 lc2:=hv
 subst hv
 have hr:=HS219.out.later hb
 have hlt:=HS219.out.lt
 have c0:=hr.cell (i:=0) (v:=.int .i64 0) rfl
 have c1:=hr.cell (i:=1) (v:=.int .i64 0) rfl
 have f0:u20.frozen? ⟨q1 + 1,0,none⟩=false:=frz hr 0
 have f1:u20.frozen? ⟨q1 + 1,1,none⟩=false:=frz hr 1
 have hf:=fin_1 (a:=.int .i64 0) (b:=.int .i64 0) hr
 have HS220:=Lib.hid hf.r1
 have HS420:Hid (Row (q3 + 1) 39 #[.int .i64 6,.int .i64 0] ((u20.setCell ⟨q1 + 1,0,none⟩ (.int .i64 0)).setCell ⟨q1 + 1,1,none⟩ (.int .i64 0))):=Lib.hid ((hf.ot (q3 + 1) (by have:=HG3.out;have:=HG6.out;omega)).trans (HS419.out.later hb))
 have HS620:Hid (Row (q6 + 1) 39 #[.int .i64 5,.int .i64 22] ((u20.setCell ⟨q1 + 1,0,none⟩ (.int .i64 0)).setCell ⟨q1 + 1,1,none⟩ (.int .i64 0))):=Lib.hid ((hf.ot (q6 + 1) (by have:=HG3.out;have:=HG6.out;omega)).trans (HS619.out.later hb))
 have HB20:=Lib.hid ((next HB19.out hb).trans (hf.bl w.heap.size (by have:=HG6.out;have:=HG3.out;have:=HG1.out;omega)))
 have HL20:=Lib.hid (hn _ fun b h1 _=>hf.ot b (by omega))
 clear hb hr hf hlt HB19 HS219 HS419 HS619 hn
 go_upto_region 21 with fail
 clear c0 c1 f0 f1
 generalize (u20.setCell ⟨q1 + 1,0,none⟩ (.int .i64 0)).setCell ⟨q1 + 1,1,none⟩ (.int .i64 0)=w20 at *
 obtain ⟨zb,zo,zcs,rfl,h16,hst,hyc⟩:=HL20.out.get (k:=0) rfl
 have hl:=run_smLdAt w20 zb zo zcs h16 (fun j u hu=>by have h:=hyc j u hu;rw [Nat.zero_mul,Nat.add_zero] at h;exact h)
 have c2:=HS220.out.cell (i:=0) (v:=.int .i64 0) rfl
 have d2:=HS220.out.cell (i:=1) (v:=.int .i64 0) rfl
 have HPR:=Lib.hid (printC4 knS zcs w20 (HW.out.later HB20.out) hst (fun w3 b hb=>stwTb b knS rfl (by show (1:Nat) ≤ _;omega) (by show (1:Nat) ≤ _;omega) (fun c hc=>by obtain rfl:=List.mem_singleton.1 hc;show (1:Nat) < 256;omega)) (Nat.le_trans kn_ls (by decide)) _ kn_ps knS kn_shS kn_s5 true (eqB_self _) ((ByteArray.data ⟨#[67,82,69,65,84,69,32,84,65,66,76,69,32,116,32,40,32,97,32,73,78,84,69,71,69,82,32,44,32,80,82,73,77,65,82,89,32,75,69,89,32,40,32,97,32,41,32,41]⟩).toList,0) (Lib.hid (fun h=>Bool.noConfusion h)) (Lib.hid (fun _=>rfl)))
 clear hyc hst HL20
 go_wp2_with fail
 refine HPR.out.mono ?_
 rintro e21 w21 ⟨t,rfl,ht,hb21⟩
 obtain rfl:t=⟨#[67,82,69,65,84,69,32,84,65,66,76,69,32,116,32,40,32,97,32,73,78,84,69,71,69,82,32,44,32,80,82,73,77,65,82,89,32,75,69,89,32,40,32,97,32,41,32,41]⟩:=ByteArray.ext (Array.toList_inj.1 ht)
 have HB21:=Lib.hid (next HB20.out hb21)
 clear ht hb21 HPR hl c2 d2
 go_wp2_with fail
 go_ret
 exact ⟨rfl,HB21.out⟩
theorem own:ownKnob Tryz.prog.godebug=none:=by kernel_rfl
theorem laid:laidOutB Tryz.prog=true:=by kernel_rfl
def laidD:List (String × DataW Unit):=[("math/bits.deBruijn32tab",Rows.laid_math_bits_deBruijn32tab),("math/bits.deBruijn64tab",Rows.laid_math_bits_deBruijn64tab),("internal/strconv.uint64pow10",Rows.laid_internal_strconv_uint64pow10),("unicode/utf8.acceptRanges",Rows.laid_unicode_utf8_acceptRanges),("strconv.ErrRange",Rows.laid_strconv_ErrRange),("strconv.ErrSyntax",Rows.laid_strconv_ErrSyntax),("unicode.White_Space",Rows.laid_unicode_White_Space),("strings.asciiSpace",Rows.laid_strings_asciiSpace),("unicode/utf8.first",Rows.laid_unicode_utf8_first)]
set_option maxRecDepth 100000 in
theorem opened {H:Type} (enc:TypeId × Value→H) (W:World) (args:Array Value) (ds:List (DataW H)) (p:List MemPlace) (hsh:W.ShapedOpen Tryz.prog) (hL:laidMetH Tryz.prog laidD W) :
 Lift.Owes enc Tryz.prog 6 Tryz.f6.params.toList W args ds p:=by
 have HL:=Lib.hid hL
 clear hL
 intro hA hval hsz _
 rw [Tryz.params6] at hA hval hsz
 obtain ⟨rfl,rfl,rfl⟩:=trodAll_none hA
 exact walk  W (lx9 hsh HL.out)
set_option maxRecDepth 100000 in
theorem lifted (os:Os) (started:os.Started) (H:Type) (enc:TypeId × Value→H) :
 ReturnsInHanded {} Tryz.checked os 6 .any (fun w args=>(Rows.parseKnownSpec.pre enc Tryz.prog Tryz.f6 [] false w args∧laidMetH Tryz.prog laidD w)∧sizedMet enc Tryz.prog Tryz.f6 (OpenSpec.ofChange Rows.parseKnownSpec) false w args)
  (Rows.parseKnownSpec.post enc Tryz.prog Tryz.f6 false true false false):=by
 refine Lift.liftedD (C:=Tryz.checked) (X:=fun w _=>laidMetH Tryz.prog laidD w) (fun _ _ _ hh h=>h.of_heap hh) own started (by kernel_rfl) Tryz.func6
  (ChangeSpec.witness_shaped (enc:=enc) (C:=Tryz.checked) (os:=os) (X:=fun w _=>laidMetH Tryz.prog laidD w) false (World.laidAll Tryz.prog os laidD) #[] 8 (World.laidAll_os _ _ _)
   (World.shaped_of_ZipB (by kernel_rfl) (by kernel_rfl)) (by kernel_rfl) (by kernel_rfl) (by kernel_rfl)
   (by rw [MakeChecks.laidMetH_plain _ _ _ (by kernel_rfl)];exact laidMet_laidAll _ (by kernel_rfl) (by kernel_rfl)))
  laid (by rw [Tryz.params6];intro t ht;simp at ht;skip) rfl 4 rfl Tryz.underlying4
  (fun ds hds=>by match ds,hds with | [],_=>rfl) (fun W args ds p hsh hL=>opened enc W args ds p hsh hL)
theorem row_said:Rows.ParseKnownSaid:=
 OpenClaim.holds_of_wide 6 Tryz.f6 rfl rfl rfl rfl rfl rfl rfl ⟨rfl,rfl,rfl,rfl,rfl⟩ rfl rfl rfl rfl rfl (by kernel_rfl) Tryz.func6 (by kernel_rfl)
  (of_decide_eq_true (by kernel_rfl)) (by unfold Func.isWrapper;first | (rw [if_pos (by decide +kernel)];kernel_rfl) | (rw [if_neg (by decide +kernel)];exact ⟨rfl,rfl⟩))
  (fun os started H enc _=>lifted os started H enc)
theorem said:Rows.ParseKnownCardSaid:=
 Claim7.holds_tied_plain_at .later [] [.data,.data,.data,.data,.sentinel,.sentinel,.listed,.data,.pinned] true (true,"e206e580c90a220dfe92bca72650be5753380b0d5437542a0264290c58ef9a3d") true
  row_said (fun _ h=>by cases h) (by kernel_rfl) (fun _ h=>by cases h) parseKnown_row_tie rfl ⟨rfl,rfl⟩ (by kernel_rfl) rfl
  (fun f fn hf hfn=>by
   obtain rfl:f=6:=Option.some.inj ((show Tryz.prog.funcNamed "counterfoil/counterfoillaw14.ParseKnown" = some 6 by kernel_rfl).symm.trans hf) |>.symm
   obtain rfl:fn=Tryz.f6:=(Option.some.inj (Tryz.func6.symm.trans hfn)).symm
   exact ⟨by kernel_rfl,fun j t ht=>by
    rw [Tryz.params6] at ht
    simp at ht⟩)
  (by kernel_rfl)
#print axioms said
end Go.Proofs.YtmdogmpcmkfjpaaGreatDoor.ParseKnown
