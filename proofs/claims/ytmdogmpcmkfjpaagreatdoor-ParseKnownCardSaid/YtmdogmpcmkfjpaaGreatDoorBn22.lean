import Derived.Test.YtmdogmpcmkfjpaaGreatDoorBn21
/- Part of the proof (merged). -/
namespace Go.Proofs.YtmdogmpcmkfjpaaGreatDoor.Dt
open Go.RowKit Go.Proofs.YtmdogmpcmkfjpaaGreatDoor.By
attribute [local go_sem ↓] veilSt_ex veilLd_ex
attribute [local go_sem] run_exSt run_exNew run_exLd okRow8 Value.oneCell'
def fnOf:Md→FuncId
 | .expr=>31
 | .not=>87
 | .sum _=>129
 | .unary=>145
 | .prim=>160
def argsOf (r:Nat):Md→Array Value
 | .sum k=>#[.pointer (some ⟨r,0,none⟩),.int .i64 (k:Int)]
 | _=>#[.pointer (some ⟨r,0,none⟩)]
section
variable {w0:World} {r:Nat} {tv:Value} {L:List Tk} {en:Int} {s:PS}
def EX (w0:World) (r:Nat) (tv:Value) (L:List Tk) (en:Int) (m:Md) (s:PS):Prop:=∀ w,PB w0 r tv L en s w→Calls Tryz.prog (fnOf m) (argsOf r m) w fun e w'=>
 ∃ v,e = .returned v∧New w.heap.size w' (fun u=>ExV u v (exF L en FU m s).1)∧PB w0 r tv L en (exF L en FU m s).2 w'∧w.grownBy w' (some r)
theorem u8_row {g:Nat} {t:TypeId} {l:List Nat} {w:World} (h:Row g t (l.map fun (k:Nat)=>Value.int .u8 (k:Int)).toArray w):U8sAt w (.slice (some ⟨g,0,none⟩) l.length l.length) l:=
 ⟨_,_,rfl,Nat.le_refl _,fun i x hx=>⟨g,0,rfl,fun j u hu=>by
  match j,hu with
  | 0,hu=>
   simp [u8Cells] at hu
   subst hu
   exact h.cell (by simp [hx])
  | _ + 1,hu=>simp [u8Cells] at hu⟩⟩
theorem chainL_mono (ops:List (ByteArray × Nat)) (ho:∀ x ∈ ops,x.1 ≠ BSEMI∧x.1 ≠ BCLOSE) (m:Md) (s:PS):s.k ≤ (chainL L en ops (exF L en FU m) FU s).2.k:=((Sim.chainL (L:=L) (L':=L) (en:=en) (en':=en) (d:=0) ops ho (Sim.exF FU m) FU).mono s).1
theorem ex_mono (m:Md) (s:PS):s.k ≤ (exF L en FU m s).2.k:=((Sim.exF (L:=L) (L':=L) (en:=en) (en':=en) (d:=0) FU m).mono s).1
theorem exN_fin {n m g:Nat} {w:World} {c:Array Value} {x:PE} (h:ExN n w c x) (hg:g < n) (hm:m ≤ n) (d:Array Value):New m (w.setRow g d) fun u=>ExV u (.agg c) x:=
 ((ExD.set h (by omega)).step (Nat.le_refl _) fun b hb _=>⟨Nat.le_trans hm hb,rfl⟩).v
set_option maxRecDepth 100000 in
set_option maxHeartbeats 8000000 in
theorem expr1W (q:Nat) (w1:World) (k0:Nat) (hq:∀ w',w1.grownBy w' (some r)→w'.cell? ⟨q,0,none⟩=some (.pointer (some ⟨r,0,none⟩))) (H:∀ s',k0 ≤ s'.k→EX w0 r tv L en .not s') :
 PRun w0 r tv L en w1 k0 86 #[.pointer (some ⟨q,0,none⟩)] (chainL L en [(WAND,18)] (exF L en FU .not) FU) ExV:=by
 intro s w hk hg h
 have hq0:=hq w hg
 have hqs:=cell_lt hq0
 have hr:=h.lt
 have hb:Below w.heap.size w (((w.alloc (.cells exZ 48)).alloc (.cells #[.string WAND] 9)).alloc (.cells #[.int .u8 18] 5)):=by go_grown
 have hr0:Row (w.heap.size) 48 exZ (((w.alloc (.cells exZ 48)).alloc (.cells #[.string WAND] 9)).alloc (.cells #[.int .u8 18] 5)):=by
  have h1:=row_alloc w 48 exZ
  have h2:Below (w.alloc (.cells exZ 48)).heap.size (w.alloc (.cells exZ 48)) (((w.alloc (.cells exZ 48)).alloc (.cells #[.string WAND] 9)).alloc (.cells #[.int .u8 18] 5)):=by go_grown
  have h3:=h1.later h2
  simpa using h3
 have hr1:Row (w.heap.size + 1) 9 #[.string WAND] (((w.alloc (.cells exZ 48)).alloc (.cells #[.string WAND] 9)).alloc (.cells #[.int .u8 18] 5)):=by
  have h1:=row_alloc (w.alloc (.cells exZ 48)) 9 #[.string WAND]
  have h2:Below ((w.alloc (.cells exZ 48)).alloc (.cells #[.string WAND] 9)).heap.size ((w.alloc (.cells exZ 48)).alloc (.cells #[.string WAND] 9)) (((w.alloc (.cells exZ 48)).alloc (.cells #[.string WAND] 9)).alloc (.cells #[.int .u8 18] 5)):=by go_grown
  have h3:=h1.later h2
  simpa using h3
 have hr2:Row (w.heap.size + 1 + 1) 5 #[.int .u8 18] (((w.alloc (.cells exZ 48)).alloc (.cells #[.string WAND] 9)).alloc (.cells #[.int .u8 18] 5)):=by
  have h1:=row_alloc ((w.alloc (.cells exZ 48)).alloc (.cells #[.string WAND] 9)) 5 #[.int .u8 18]
  have h3:=h1
  simpa using h3
 have hq3:=(hb.cell hqs).trans hq0
 have HC:=Lib.hid (chainNot (L:=L) (en:=en) [(WAND,18)] (by simp) (.slice (some ⟨w.heap.size + 1,0,none⟩) 1 1) (.slice (some ⟨w.heap.size + 1 + 1,0,none⟩) 1 1) (ex_mono .not) (((w.alloc (.cells exZ 48)).alloc (.cells #[.string WAND] 9)).alloc (.cells #[.int .u8 18] 5)) k0
  (fun s' W hk' _ hP=>H s' hk' W hP) (fun W hW=>ssAt_row (ws:=[WAND]) (hr1.grown hW (by omega))) (fun W hW=>u8_row (l:=[18]) (hr2.grown hW (by omega))) s hk (h.later hb))
 have HN:Hid (w.heap.size < (((w.alloc (.cells exZ 48)).alloc (.cells #[.string WAND] 9)).alloc (.cells #[.int .u8 18] 5)).heap.size):=Lib.hid hr0.lt
 have HR0:=Lib.hid hr0
 have HB:=Lib.hid hb
 have HR:=Lib.hid hr
 clear hr0 hb hr1 hr2 h H hk hg hr
 go_enter Tryz.func86,Tryz.ntmps86
 go_wp2_with fail
 refine HC.out.mono ?_
 rintro e2 w2 ⟨v,rfl,hn,hp,hg2⟩
 obtain ⟨c,rfl,hx⟩:=ExN.of hn
 have HX:=Lib.hid hx
 have HP:=Lib.hid hp
 have HR2:=Lib.hid (HR0.out.grown hg2 (Nat.ne_of_gt HR.out))
 have hrb:=HR2.out.b (n:=8) rfl
 have hok:=hx.ok
 have HG:=Lib.hid (grown_trans (below_grown HB.out) hg2)
 clear hn hx hp hg2
 go_wp2_with fail
 exact bodyPost_ret (v:=.agg c) (res_row Tryz.results86 ex_struct ex_size _ _ w.heap.size _ c rfl (HR2.out.set c) HX.out.size) rfl ⟨_,rfl,exN_fin HX.out HN.out (Nat.le_of_lt HN.out) c,HP.out.other (grown_setRow _ _ c) HR.out,grown_fill HG.out (Nat.le_refl _) c⟩
set_option maxRecDepth 100000 in
set_option maxHeartbeats 8000000 in
theorem exprW (H:∀ s',s.k ≤ s'.k→EX w0 r tv L en .not s'):EX w0 r tv L en .expr s:=by
 intro w h
 have hr:=h.lt
 rw [fu_expr h.hk h.hl]
 have hb:Below w.heap.size w ((((w.alloc (.cells #[.pointer (some ⟨r,0,none⟩)] 75)).alloc (.cells exZ 48)).alloc (.cells #[.string WOR] 9)).alloc (.cells #[.int .u8 19] 5)):=by go_grown
 have hr0:Row (w.heap.size) 75 #[.pointer (some ⟨r,0,none⟩)] ((((w.alloc (.cells #[.pointer (some ⟨r,0,none⟩)] 75)).alloc (.cells exZ 48)).alloc (.cells #[.string WOR] 9)).alloc (.cells #[.int .u8 19] 5)):=by
  have h1:=row_alloc w 75 #[.pointer (some ⟨r,0,none⟩)]
  have h2:Below (w.alloc (.cells #[.pointer (some ⟨r,0,none⟩)] 75)).heap.size (w.alloc (.cells #[.pointer (some ⟨r,0,none⟩)] 75)) ((((w.alloc (.cells #[.pointer (some ⟨r,0,none⟩)] 75)).alloc (.cells exZ 48)).alloc (.cells #[.string WOR] 9)).alloc (.cells #[.int .u8 19] 5)):=by go_grown
  have h3:=h1.later h2
  simpa using h3
 have hr1:Row (w.heap.size + 1) 48 exZ ((((w.alloc (.cells #[.pointer (some ⟨r,0,none⟩)] 75)).alloc (.cells exZ 48)).alloc (.cells #[.string WOR] 9)).alloc (.cells #[.int .u8 19] 5)):=by
  have h1:=row_alloc (w.alloc (.cells #[.pointer (some ⟨r,0,none⟩)] 75)) 48 exZ
  have h2:Below ((w.alloc (.cells #[.pointer (some ⟨r,0,none⟩)] 75)).alloc (.cells exZ 48)).heap.size ((w.alloc (.cells #[.pointer (some ⟨r,0,none⟩)] 75)).alloc (.cells exZ 48)) ((((w.alloc (.cells #[.pointer (some ⟨r,0,none⟩)] 75)).alloc (.cells exZ 48)).alloc (.cells #[.string WOR] 9)).alloc (.cells #[.int .u8 19] 5)):=by go_grown
  have h3:=h1.later h2
  simpa using h3
 have hr2:Row (w.heap.size + 1 + 1) 9 #[.string WOR] ((((w.alloc (.cells #[.pointer (some ⟨r,0,none⟩)] 75)).alloc (.cells exZ 48)).alloc (.cells #[.string WOR] 9)).alloc (.cells #[.int .u8 19] 5)):=by
  have h1:=row_alloc ((w.alloc (.cells #[.pointer (some ⟨r,0,none⟩)] 75)).alloc (.cells exZ 48)) 9 #[.string WOR]
  have h2:Below (((w.alloc (.cells #[.pointer (some ⟨r,0,none⟩)] 75)).alloc (.cells exZ 48)).alloc (.cells #[.string WOR] 9)).heap.size (((w.alloc (.cells #[.pointer (some ⟨r,0,none⟩)] 75)).alloc (.cells exZ 48)).alloc (.cells #[.string WOR] 9)) ((((w.alloc (.cells #[.pointer (some ⟨r,0,none⟩)] 75)).alloc (.cells exZ 48)).alloc (.cells #[.string WOR] 9)).alloc (.cells #[.int .u8 19] 5)):=by go_grown
  have h3:=h1.later h2
  simpa using h3
 have hr3:Row (w.heap.size + 1 + 1 + 1) 5 #[.int .u8 19] ((((w.alloc (.cells #[.pointer (some ⟨r,0,none⟩)] 75)).alloc (.cells exZ 48)).alloc (.cells #[.string WOR] 9)).alloc (.cells #[.int .u8 19] 5)):=by
  have h1:=row_alloc (((w.alloc (.cells #[.pointer (some ⟨r,0,none⟩)] 75)).alloc (.cells exZ 48)).alloc (.cells #[.string WOR] 9)) 5 #[.int .u8 19]
  have h3:=h1
  simpa using h3
 have hq:∀ w',((((w.alloc (.cells #[.pointer (some ⟨r,0,none⟩)] 75)).alloc (.cells exZ 48)).alloc (.cells #[.string WOR] 9)).alloc (.cells #[.int .u8 19] 5)).grownBy w' (some r)→w'.cell? ⟨w.heap.size,0,none⟩=some (.pointer (some ⟨r,0,none⟩)):=fun w' g=>(hr0.grown g (by omega)).cell rfl
 have hq0:=hq _ (World.grownBy.refl _ _)
 have HC:=Lib.hid (chainExpr (L:=L) (en:=en) w.heap.size [(WOR,19)] (by simp) (.slice (some ⟨w.heap.size + 1 + 1,0,none⟩) 1 1) (.slice (some ⟨w.heap.size + 1 + 1 + 1,0,none⟩) 1 1) (chainL_mono [(WAND,18)] (by decide) .not) ((((w.alloc (.cells #[.pointer (some ⟨r,0,none⟩)] 75)).alloc (.cells exZ 48)).alloc (.cells #[.string WOR] 9)).alloc (.cells #[.int .u8 19] 5)) s.k
  (expr1W w.heap.size _ s.k hq H) (fun W hW=>ssAt_row (ws:=[WOR]) (hr2.grown hW (by omega))) (fun W hW=>u8_row (l:=[19]) (hr3.grown hW (by omega))) s (Nat.le_refl _) (h.later hb))
 have HN:Hid (w.heap.size + 1 < ((((w.alloc (.cells #[.pointer (some ⟨r,0,none⟩)] 75)).alloc (.cells exZ 48)).alloc (.cells #[.string WOR] 9)).alloc (.cells #[.int .u8 19] 5)).heap.size):=Lib.hid hr1.lt
 have HR0:=Lib.hid hr1
 have HB:=Lib.hid hb
 have HR:=Lib.hid hr
 clear hr0 hb hr1 hr2 hr3 h H hr hq
 show Calls _ 31 #[.pointer (some ⟨r,0,none⟩)] _ _
 go_enter Tryz.func31,Tryz.ntmps31
 go_wp2_with fail
 refine HC.out.mono ?_
 rintro e2 w2 ⟨v,rfl,hn,hp,hg2⟩
 obtain ⟨c,rfl,hx⟩:=ExN.of hn
 have HX:=Lib.hid hx
 have HP:=Lib.hid hp
 have HR2:=Lib.hid (HR0.out.grown hg2 (by have:=HR.out;omega))
 have hrb:=HR2.out.b (n:=8) rfl
 have hok:=hx.ok
 have HG:=Lib.hid (grown_trans (below_grown HB.out) hg2)
 clear hn hx hp hg2 hq0
 go_wp2_with fail
 exact bodyPost_ret (v:=.agg c) (res_row Tryz.results31 ex_struct ex_size _ _ (w.heap.size + 1) _ c rfl (HR2.out.set c) HX.out.size) rfl ⟨_,rfl,exN_fin HX.out HN.out (Nat.le_of_succ_le (Nat.le_of_lt HN.out)) c,HP.out.other (grown_setRow _ _ c) (by have:=HR.out;omega),grown_fill HG.out (Nat.le_succ _) c⟩
set_option maxRecDepth 100000 in
set_option maxHeartbeats 8000000 in
theorem sum1W (q q3 k:Nat) (hk3:k ≤ 3) (w1:World) (k0:Nat) (hq:∀ w',w1.grownBy w' (some r)→w'.cell? ⟨q,0,none⟩=some (.pointer (some ⟨r,0,none⟩))) (hq3:∀ w',w1.grownBy w' (some r)→w'.cell? ⟨q3,0,none⟩=some (.int .i64 (k:Int))) (H:∀ s',k0 ≤ s'.k→EX w0 r tv L en (.sum (k + 1)) s') :
 PRun w0 r tv L en w1 k0 146 #[.pointer (some ⟨q,0,none⟩),.pointer (some ⟨q3,0,none⟩)] (exF L en FU (.sum (k + 1))) ExV:=by
 intro s w hk hg h
 have hr:=h.lt
 have hb:Below w.heap.size w (w.alloc (.cells exZ 48)):=by go_grown
 have hr0:Row (w.heap.size) 48 exZ (w.alloc (.cells exZ 48)):=by
  have h1:=row_alloc w 48 exZ
  have h3:=h1
  simpa using h3
 have hb':=hb
 have hx0:=(hb.cell (cell_lt (hq w hg))).trans (hq w hg)
 have hx1:=(hb.cell (cell_lt (hq3 w hg))).trans (hq3 w hg)
 have hc:=H s hk _ (h.later hb)
 unfold fnOf argsOf at hc
 have e1:((k + 1:Nat):Int)=(k:Int) + 1:=by omega
 simp only [e1] at hc
 have HC:=Lib.hid hc
 have i0:(0:Int) ≤ (k:Int):=by omega
 have i3:(k:Int) ≤ 3:=by omega
 have HN:Hid (w.heap.size < (w.alloc (.cells exZ 48)).heap.size):=Lib.hid hr0.lt
 have HR0:=Lib.hid hr0
 have HB:=Lib.hid hb
 have HR:=Lib.hid hr
 clear hr0 hb hb' h H hk hg hr hq hq3 hc e1 hk3
 go_enter Tryz.func146,Tryz.ntmps146
 go_wp2_with fail
 refine HC.out.mono ?_
 rintro e2 w2 ⟨v,rfl,hn,hp,hg2⟩
 obtain ⟨c,rfl,hx⟩:=ExN.of hn
 have HX:=Lib.hid hx
 have HP:=Lib.hid hp
 have HR2:=Lib.hid (HR0.out.grown hg2 (Nat.ne_of_gt HR.out))
 have hrb:=HR2.out.b (n:=8) rfl
 have hok:=hx.ok
 have HG:=Lib.hid (grown_trans (below_grown HB.out) hg2)
 clear hn hx hp hg2 hx0 hx1
 go_wp2_with fail
 exact bodyPost_ret (v:=.agg c) (res_row Tryz.results146 ex_struct ex_size _ _ w.heap.size _ c rfl (HR2.out.set c) HX.out.size) rfl ⟨_,rfl,exN_fin HX.out HN.out (Nat.le_of_lt HN.out) c,HP.out.other (grown_setRow _ _ c) HR.out,grown_fill HG.out (Nat.le_refl _) c⟩
theorem ssN {n g:Nat} {t:TypeId} {ws:List ByteArray} {w:World} (h:Row g t (ws.map Value.string).toArray w) (hg:n ≤ g):New n w fun u=>SsAt u (.slice (some ⟨g,0,none⟩) ws.length ws.length) ws:=
 fun _ hu=>ssAt_row ((hu g hg h.lt).trans h)
theorem u8N {n g:Nat} {t:TypeId} {l:List Nat} {w:World} (h:Row g t (l.map fun (k:Nat)=>Value.int .u8 (k:Int)).toArray w) (hg:n ≤ g):New n w fun u=>U8sAt u (.slice (some ⟨g,0,none⟩) l.length l.length) l:=
 fun _ hu=>u8_row ((hu g hg h.lt).trans h)
def isAr:TypeDesc→Bool
 | .array _ _=>true
 | _=>false
theorem ar_of {P:Program} {T:TypeId} (h:(P.underlying T).map isAr=some true):∃ n e,P.underlying T=some (.array n e):=by
 cases hq:P.underlying T with
 | none=>rw [hq] at h;cases h
 | some d=>
  rw [hq] at h
  cases d with
  | array n e=>exact ⟨n,e,rfl⟩
  | _=>cases h
theorem res_arr {fn:Func} {p:Tmp} {ty:TypeId} {n:Nat} (h:fn.results = #[.cell p ty]) (hs:∃ m e,Tryz.prog.underlying ty=some (.array m e)) (hi:(Tryz.prog.info? ty).map (·.size)=some n) (tmps:Array Value) (w:World) (g:Nat) (t:TypeId) (cs:Array Value)
 (hp:tmps.getD p undef = .pointer (some ⟨g,0,none⟩)) (hg:Row g t cs w) (hc:cs.size=n):(results fn tmps).run Tryz.prog w = .ok (.agg cs) w:=by
 obtain ⟨m,e,hu⟩:=hs
 exact results_cell_row h tmps w g t cs (0,0) _ hp hg hu rfl (by rw [hi,hc])
def LvN (n:Nat) (w:World) (a:Nat→Value):Prop:=∀ k,k < 3→New n w fun u=>SsAt u (a (2 * k)) ((opsOf k).map (·.1))∧U8sAt u (a (2 * k + 1)) ((opsOf k).map (·.2))
theorem lv_size:(Tryz.prog.info? 185).map (·.size)=some 6:=by kernel_rfl
theorem lv_array:∃ m e,Tryz.prog.underlying 185=some (.array m e):=ar_of (by kernel_rfl)
set_option maxRecDepth 100000 in
set_option maxHeartbeats 8000000 in
theorem levelsW (w:World):Calls Tryz.prog 144 #[] w fun e w'=>∃ a:Nat→Value,e = .returned (.agg #[a 0,a 1,a 2,a 3,a 4,a 5])∧LvN w.heap.size w' a∧Below w.heap.size w w':=by
 have hb:Below w.heap.size w (((((((w.alloc (.cells #[.slice (some ⟨w.heap.size + 1,0,none⟩) 1 1,.slice (some ⟨w.heap.size + 1 + 1,0,none⟩) 1 1,.slice (some ⟨w.heap.size + 1 + 1 + 1,0,none⟩) 2 2,.slice (some ⟨w.heap.size + 1 + 1 + 1 + 1,0,none⟩) 2 2,.slice (some ⟨w.heap.size + 1 + 1 + 1 + 1 + 1,0,none⟩) 3 3,.slice (some ⟨w.heap.size + 1 + 1 + 1 + 1 + 1 + 1,0,none⟩) 3 3] 185)).alloc (.cells #[.string BJOIN] 9)).alloc (.cells #[.int .u8 11] 5)).alloc (.cells #[.string BPLUS,.string BMINUS] 9)).alloc (.cells #[.int .u8 6,.int .u8 7] 5)).alloc (.cells #[.string BSTAR,.string BDIV,.string BMOD] 9)).alloc (.cells #[.int .u8 8,.int .u8 9,.int .u8 10] 5)):=by go_grown
 have hr0:Row (w.heap.size) 185 #[.slice (some ⟨w.heap.size + 1,0,none⟩) 1 1,.slice (some ⟨w.heap.size + 1 + 1,0,none⟩) 1 1,.slice (some ⟨w.heap.size + 1 + 1 + 1,0,none⟩) 2 2,.slice (some ⟨w.heap.size + 1 + 1 + 1 + 1,0,none⟩) 2 2,.slice (some ⟨w.heap.size + 1 + 1 + 1 + 1 + 1,0,none⟩) 3 3,.slice (some ⟨w.heap.size + 1 + 1 + 1 + 1 + 1 + 1,0,none⟩) 3 3] (((((((w.alloc (.cells #[.slice (some ⟨w.heap.size + 1,0,none⟩) 1 1,.slice (some ⟨w.heap.size + 1 + 1,0,none⟩) 1 1,.slice (some ⟨w.heap.size + 1 + 1 + 1,0,none⟩) 2 2,.slice (some ⟨w.heap.size + 1 + 1 + 1 + 1,0,none⟩) 2 2,.slice (some ⟨w.heap.size + 1 + 1 + 1 + 1 + 1,0,none⟩) 3 3,.slice (some ⟨w.heap.size + 1 + 1 + 1 + 1 + 1 + 1,0,none⟩) 3 3] 185)).alloc (.cells #[.string BJOIN] 9)).alloc (.cells #[.int .u8 11] 5)).alloc (.cells #[.string BPLUS,.string BMINUS] 9)).alloc (.cells #[.int .u8 6,.int .u8 7] 5)).alloc (.cells #[.string BSTAR,.string BDIV,.string BMOD] 9)).alloc (.cells #[.int .u8 8,.int .u8 9,.int .u8 10] 5)):=by
  have h1:=row_alloc w 185 #[.slice (some ⟨w.heap.size + 1,0,none⟩) 1 1,.slice (some ⟨w.heap.size + 1 + 1,0,none⟩) 1 1,.slice (some ⟨w.heap.size + 1 + 1 + 1,0,none⟩) 2 2,.slice (some ⟨w.heap.size + 1 + 1 + 1 + 1,0,none⟩) 2 2,.slice (some ⟨w.heap.size + 1 + 1 + 1 + 1 + 1,0,none⟩) 3 3,.slice (some ⟨w.heap.size + 1 + 1 + 1 + 1 + 1 + 1,0,none⟩) 3 3]
  have h2:Below (w.alloc (.cells #[.slice (some ⟨w.heap.size + 1,0,none⟩) 1 1,.slice (some ⟨w.heap.size + 1 + 1,0,none⟩) 1 1,.slice (some ⟨w.heap.size + 1 + 1 + 1,0,none⟩) 2 2,.slice (some ⟨w.heap.size + 1 + 1 + 1 + 1,0,none⟩) 2 2,.slice (some ⟨w.heap.size + 1 + 1 + 1 + 1 + 1,0,none⟩) 3 3,.slice (some ⟨w.heap.size + 1 + 1 + 1 + 1 + 1 + 1,0,none⟩) 3 3] 185)).heap.size (w.alloc (.cells #[.slice (some ⟨w.heap.size + 1,0,none⟩) 1 1,.slice (some ⟨w.heap.size + 1 + 1,0,none⟩) 1 1,.slice (some ⟨w.heap.size + 1 + 1 + 1,0,none⟩) 2 2,.slice (some ⟨w.heap.size + 1 + 1 + 1 + 1,0,none⟩) 2 2,.slice (some ⟨w.heap.size + 1 + 1 + 1 + 1 + 1,0,none⟩) 3 3,.slice (some ⟨w.heap.size + 1 + 1 + 1 + 1 + 1 + 1,0,none⟩) 3 3] 185)) (((((((w.alloc (.cells #[.slice (some ⟨w.heap.size + 1,0,none⟩) 1 1,.slice (some ⟨w.heap.size + 1 + 1,0,none⟩) 1 1,.slice (some ⟨w.heap.size + 1 + 1 + 1,0,none⟩) 2 2,.slice (some ⟨w.heap.size + 1 + 1 + 1 + 1,0,none⟩) 2 2,.slice (some ⟨w.heap.size + 1 + 1 + 1 + 1 + 1,0,none⟩) 3 3,.slice (some ⟨w.heap.size + 1 + 1 + 1 + 1 + 1 + 1,0,none⟩) 3 3] 185)).alloc (.cells #[.string BJOIN] 9)).alloc (.cells #[.int .u8 11] 5)).alloc (.cells #[.string BPLUS,.string BMINUS] 9)).alloc (.cells #[.int .u8 6,.int .u8 7] 5)).alloc (.cells #[.string BSTAR,.string BDIV,.string BMOD] 9)).alloc (.cells #[.int .u8 8,.int .u8 9,.int .u8 10] 5)):=by go_grown
  have h3:=h1.later h2
  simpa using h3
 have hr1:Row (w.heap.size + 1) 9 #[.string BJOIN] (((((((w.alloc (.cells #[.slice (some ⟨w.heap.size + 1,0,none⟩) 1 1,.slice (some ⟨w.heap.size + 1 + 1,0,none⟩) 1 1,.slice (some ⟨w.heap.size + 1 + 1 + 1,0,none⟩) 2 2,.slice (some ⟨w.heap.size + 1 + 1 + 1 + 1,0,none⟩) 2 2,.slice (some ⟨w.heap.size + 1 + 1 + 1 + 1 + 1,0,none⟩) 3 3,.slice (some ⟨w.heap.size + 1 + 1 + 1 + 1 + 1 + 1,0,none⟩) 3 3] 185)).alloc (.cells #[.string BJOIN] 9)).alloc (.cells #[.int .u8 11] 5)).alloc (.cells #[.string BPLUS,.string BMINUS] 9)).alloc (.cells #[.int .u8 6,.int .u8 7] 5)).alloc (.cells #[.string BSTAR,.string BDIV,.string BMOD] 9)).alloc (.cells #[.int .u8 8,.int .u8 9,.int .u8 10] 5)):=by
  have h1:=row_alloc (w.alloc (.cells #[.slice (some ⟨w.heap.size + 1,0,none⟩) 1 1,.slice (some ⟨w.heap.size + 1 + 1,0,none⟩) 1 1,.slice (some ⟨w.heap.size + 1 + 1 + 1,0,none⟩) 2 2,.slice (some ⟨w.heap.size + 1 + 1 + 1 + 1,0,none⟩) 2 2,.slice (some ⟨w.heap.size + 1 + 1 + 1 + 1 + 1,0,none⟩) 3 3,.slice (some ⟨w.heap.size + 1 + 1 + 1 + 1 + 1 + 1,0,none⟩) 3 3] 185)) 9 #[.string BJOIN]
  have h2:Below ((w.alloc (.cells #[.slice (some ⟨w.heap.size + 1,0,none⟩) 1 1,.slice (some ⟨w.heap.size + 1 + 1,0,none⟩) 1 1,.slice (some ⟨w.heap.size + 1 + 1 + 1,0,none⟩) 2 2,.slice (some ⟨w.heap.size + 1 + 1 + 1 + 1,0,none⟩) 2 2,.slice (some ⟨w.heap.size + 1 + 1 + 1 + 1 + 1,0,none⟩) 3 3,.slice (some ⟨w.heap.size + 1 + 1 + 1 + 1 + 1 + 1,0,none⟩) 3 3] 185)).alloc (.cells #[.string BJOIN] 9)).heap.size ((w.alloc (.cells #[.slice (some ⟨w.heap.size + 1,0,none⟩) 1 1,.slice (some ⟨w.heap.size + 1 + 1,0,none⟩) 1 1,.slice (some ⟨w.heap.size + 1 + 1 + 1,0,none⟩) 2 2,.slice (some ⟨w.heap.size + 1 + 1 + 1 + 1,0,none⟩) 2 2,.slice (some ⟨w.heap.size + 1 + 1 + 1 + 1 + 1,0,none⟩) 3 3,.slice (some ⟨w.heap.size + 1 + 1 + 1 + 1 + 1 + 1,0,none⟩) 3 3] 185)).alloc (.cells #[.string BJOIN] 9)) (((((((w.alloc (.cells #[.slice (some ⟨w.heap.size + 1,0,none⟩) 1 1,.slice (some ⟨w.heap.size + 1 + 1,0,none⟩) 1 1,.slice (some ⟨w.heap.size + 1 + 1 + 1,0,none⟩) 2 2,.slice (some ⟨w.heap.size + 1 + 1 + 1 + 1,0,none⟩) 2 2,.slice (some ⟨w.heap.size + 1 + 1 + 1 + 1 + 1,0,none⟩) 3 3,.slice (some ⟨w.heap.size + 1 + 1 + 1 + 1 + 1 + 1,0,none⟩) 3 3] 185)).alloc (.cells #[.string BJOIN] 9)).alloc (.cells #[.int .u8 11] 5)).alloc (.cells #[.string BPLUS,.string BMINUS] 9)).alloc (.cells #[.int .u8 6,.int .u8 7] 5)).alloc (.cells #[.string BSTAR,.string BDIV,.string BMOD] 9)).alloc (.cells #[.int .u8 8,.int .u8 9,.int .u8 10] 5)):=by go_grown
  have h3:=h1.later h2
  simpa using h3
 have hr2:Row (w.heap.size + 1 + 1) 5 #[.int .u8 11] (((((((w.alloc (.cells #[.slice (some ⟨w.heap.size + 1,0,none⟩) 1 1,.slice (some ⟨w.heap.size + 1 + 1,0,none⟩) 1 1,.slice (some ⟨w.heap.size + 1 + 1 + 1,0,none⟩) 2 2,.slice (some ⟨w.heap.size + 1 + 1 + 1 + 1,0,none⟩) 2 2,.slice (some ⟨w.heap.size + 1 + 1 + 1 + 1 + 1,0,none⟩) 3 3,.slice (some ⟨w.heap.size + 1 + 1 + 1 + 1 + 1 + 1,0,none⟩) 3 3] 185)).alloc (.cells #[.string BJOIN] 9)).alloc (.cells #[.int .u8 11] 5)).alloc (.cells #[.string BPLUS,.string BMINUS] 9)).alloc (.cells #[.int .u8 6,.int .u8 7] 5)).alloc (.cells #[.string BSTAR,.string BDIV,.string BMOD] 9)).alloc (.cells #[.int .u8 8,.int .u8 9,.int .u8 10] 5)):=by
  have h1:=row_alloc ((w.alloc (.cells #[.slice (some ⟨w.heap.size + 1,0,none⟩) 1 1,.slice (some ⟨w.heap.size + 1 + 1,0,none⟩) 1 1,.slice (some ⟨w.heap.size + 1 + 1 + 1,0,none⟩) 2 2,.slice (some ⟨w.heap.size + 1 + 1 + 1 + 1,0,none⟩) 2 2,.slice (some ⟨w.heap.size + 1 + 1 + 1 + 1 + 1,0,none⟩) 3 3,.slice (some ⟨w.heap.size + 1 + 1 + 1 + 1 + 1 + 1,0,none⟩) 3 3] 185)).alloc (.cells #[.string BJOIN] 9)) 5 #[.int .u8 11]
  have h2:Below (((w.alloc (.cells #[.slice (some ⟨w.heap.size + 1,0,none⟩) 1 1,.slice (some ⟨w.heap.size + 1 + 1,0,none⟩) 1 1,.slice (some ⟨w.heap.size + 1 + 1 + 1,0,none⟩) 2 2,.slice (some ⟨w.heap.size + 1 + 1 + 1 + 1,0,none⟩) 2 2,.slice (some ⟨w.heap.size + 1 + 1 + 1 + 1 + 1,0,none⟩) 3 3,.slice (some ⟨w.heap.size + 1 + 1 + 1 + 1 + 1 + 1,0,none⟩) 3 3] 185)).alloc (.cells #[.string BJOIN] 9)).alloc (.cells #[.int .u8 11] 5)).heap.size (((w.alloc (.cells #[.slice (some ⟨w.heap.size + 1,0,none⟩) 1 1,.slice (some ⟨w.heap.size + 1 + 1,0,none⟩) 1 1,.slice (some ⟨w.heap.size + 1 + 1 + 1,0,none⟩) 2 2,.slice (some ⟨w.heap.size + 1 + 1 + 1 + 1,0,none⟩) 2 2,.slice (some ⟨w.heap.size + 1 + 1 + 1 + 1 + 1,0,none⟩) 3 3,.slice (some ⟨w.heap.size + 1 + 1 + 1 + 1 + 1 + 1,0,none⟩) 3 3] 185)).alloc (.cells #[.string BJOIN] 9)).alloc (.cells #[.int .u8 11] 5)) (((((((w.alloc (.cells #[.slice (some ⟨w.heap.size + 1,0,none⟩) 1 1,.slice (some ⟨w.heap.size + 1 + 1,0,none⟩) 1 1,.slice (some ⟨w.heap.size + 1 + 1 + 1,0,none⟩) 2 2,.slice (some ⟨w.heap.size + 1 + 1 + 1 + 1,0,none⟩) 2 2,.slice (some ⟨w.heap.size + 1 + 1 + 1 + 1 + 1,0,none⟩) 3 3,.slice (some ⟨w.heap.size + 1 + 1 + 1 + 1 + 1 + 1,0,none⟩) 3 3] 185)).alloc (.cells #[.string BJOIN] 9)).alloc (.cells #[.int .u8 11] 5)).alloc (.cells #[.string BPLUS,.string BMINUS] 9)).alloc (.cells #[.int .u8 6,.int .u8 7] 5)).alloc (.cells #[.string BSTAR,.string BDIV,.string BMOD] 9)).alloc (.cells #[.int .u8 8,.int .u8 9,.int .u8 10] 5)):=by go_grown
  have h3:=h1.later h2
  simpa using h3
 have hr3:Row (w.heap.size + 1 + 1 + 1) 9 #[.string BPLUS,.string BMINUS] (((((((w.alloc (.cells #[.slice (some ⟨w.heap.size + 1,0,none⟩) 1 1,.slice (some ⟨w.heap.size + 1 + 1,0,none⟩) 1 1,.slice (some ⟨w.heap.size + 1 + 1 + 1,0,none⟩) 2 2,.slice (some ⟨w.heap.size + 1 + 1 + 1 + 1,0,none⟩) 2 2,.slice (some ⟨w.heap.size + 1 + 1 + 1 + 1 + 1,0,none⟩) 3 3,.slice (some ⟨w.heap.size + 1 + 1 + 1 + 1 + 1 + 1,0,none⟩) 3 3] 185)).alloc (.cells #[.string BJOIN] 9)).alloc (.cells #[.int .u8 11] 5)).alloc (.cells #[.string BPLUS,.string BMINUS] 9)).alloc (.cells #[.int .u8 6,.int .u8 7] 5)).alloc (.cells #[.string BSTAR,.string BDIV,.string BMOD] 9)).alloc (.cells #[.int .u8 8,.int .u8 9,.int .u8 10] 5)):=by
  have h1:=row_alloc (((w.alloc (.cells #[.slice (some ⟨w.heap.size + 1,0,none⟩) 1 1,.slice (some ⟨w.heap.size + 1 + 1,0,none⟩) 1 1,.slice (some ⟨w.heap.size + 1 + 1 + 1,0,none⟩) 2 2,.slice (some ⟨w.heap.size + 1 + 1 + 1 + 1,0,none⟩) 2 2,.slice (some ⟨w.heap.size + 1 + 1 + 1 + 1 + 1,0,none⟩) 3 3,.slice (some ⟨w.heap.size + 1 + 1 + 1 + 1 + 1 + 1,0,none⟩) 3 3] 185)).alloc (.cells #[.string BJOIN] 9)).alloc (.cells #[.int .u8 11] 5)) 9 #[.string BPLUS,.string BMINUS]
  have h2:Below ((((w.alloc (.cells #[.slice (some ⟨w.heap.size + 1,0,none⟩) 1 1,.slice (some ⟨w.heap.size + 1 + 1,0,none⟩) 1 1,.slice (some ⟨w.heap.size + 1 + 1 + 1,0,none⟩) 2 2,.slice (some ⟨w.heap.size + 1 + 1 + 1 + 1,0,none⟩) 2 2,.slice (some ⟨w.heap.size + 1 + 1 + 1 + 1 + 1,0,none⟩) 3 3,.slice (some ⟨w.heap.size + 1 + 1 + 1 + 1 + 1 + 1,0,none⟩) 3 3] 185)).alloc (.cells #[.string BJOIN] 9)).alloc (.cells #[.int .u8 11] 5)).alloc (.cells #[.string BPLUS,.string BMINUS] 9)).heap.size ((((w.alloc (.cells #[.slice (some ⟨w.heap.size + 1,0,none⟩) 1 1,.slice (some ⟨w.heap.size + 1 + 1,0,none⟩) 1 1,.slice (some ⟨w.heap.size + 1 + 1 + 1,0,none⟩) 2 2,.slice (some ⟨w.heap.size + 1 + 1 + 1 + 1,0,none⟩) 2 2,.slice (some ⟨w.heap.size + 1 + 1 + 1 + 1 + 1,0,none⟩) 3 3,.slice (some ⟨w.heap.size + 1 + 1 + 1 + 1 + 1 + 1,0,none⟩) 3 3] 185)).alloc (.cells #[.string BJOIN] 9)).alloc (.cells #[.int .u8 11] 5)).alloc (.cells #[.string BPLUS,.string BMINUS] 9)) (((((((w.alloc (.cells #[.slice (some ⟨w.heap.size + 1,0,none⟩) 1 1,.slice (some ⟨w.heap.size + 1 + 1,0,none⟩) 1 1,.slice (some ⟨w.heap.size + 1 + 1 + 1,0,none⟩) 2 2,.slice (some ⟨w.heap.size + 1 + 1 + 1 + 1,0,none⟩) 2 2,.slice (some ⟨w.heap.size + 1 + 1 + 1 + 1 + 1,0,none⟩) 3 3,.slice (some ⟨w.heap.size + 1 + 1 + 1 + 1 + 1 + 1,0,none⟩) 3 3] 185)).alloc (.cells #[.string BJOIN] 9)).alloc (.cells #[.int .u8 11] 5)).alloc (.cells #[.string BPLUS,.string BMINUS] 9)).alloc (.cells #[.int .u8 6,.int .u8 7] 5)).alloc (.cells #[.string BSTAR,.string BDIV,.string BMOD] 9)).alloc (.cells #[.int .u8 8,.int .u8 9,.int .u8 10] 5)):=by go_grown
  have h3:=h1.later h2
  simpa using h3
 have hr4:Row (w.heap.size + 1 + 1 + 1 + 1) 5 #[.int .u8 6,.int .u8 7] (((((((w.alloc (.cells #[.slice (some ⟨w.heap.size + 1,0,none⟩) 1 1,.slice (some ⟨w.heap.size + 1 + 1,0,none⟩) 1 1,.slice (some ⟨w.heap.size + 1 + 1 + 1,0,none⟩) 2 2,.slice (some ⟨w.heap.size + 1 + 1 + 1 + 1,0,none⟩) 2 2,.slice (some ⟨w.heap.size + 1 + 1 + 1 + 1 + 1,0,none⟩) 3 3,.slice (some ⟨w.heap.size + 1 + 1 + 1 + 1 + 1 + 1,0,none⟩) 3 3] 185)).alloc (.cells #[.string BJOIN] 9)).alloc (.cells #[.int .u8 11] 5)).alloc (.cells #[.string BPLUS,.string BMINUS] 9)).alloc (.cells #[.int .u8 6,.int .u8 7] 5)).alloc (.cells #[.string BSTAR,.string BDIV,.string BMOD] 9)).alloc (.cells #[.int .u8 8,.int .u8 9,.int .u8 10] 5)):=by
  have h1:=row_alloc ((((w.alloc (.cells #[.slice (some ⟨w.heap.size + 1,0,none⟩) 1 1,.slice (some ⟨w.heap.size + 1 + 1,0,none⟩) 1 1,.slice (some ⟨w.heap.size + 1 + 1 + 1,0,none⟩) 2 2,.slice (some ⟨w.heap.size + 1 + 1 + 1 + 1,0,none⟩) 2 2,.slice (some ⟨w.heap.size + 1 + 1 + 1 + 1 + 1,0,none⟩) 3 3,.slice (some ⟨w.heap.size + 1 + 1 + 1 + 1 + 1 + 1,0,none⟩) 3 3] 185)).alloc (.cells #[.string BJOIN] 9)).alloc (.cells #[.int .u8 11] 5)).alloc (.cells #[.string BPLUS,.string BMINUS] 9)) 5 #[.int .u8 6,.int .u8 7]
  have h2:Below (((((w.alloc (.cells #[.slice (some ⟨w.heap.size + 1,0,none⟩) 1 1,.slice (some ⟨w.heap.size + 1 + 1,0,none⟩) 1 1,.slice (some ⟨w.heap.size + 1 + 1 + 1,0,none⟩) 2 2,.slice (some ⟨w.heap.size + 1 + 1 + 1 + 1,0,none⟩) 2 2,.slice (some ⟨w.heap.size + 1 + 1 + 1 + 1 + 1,0,none⟩) 3 3,.slice (some ⟨w.heap.size + 1 + 1 + 1 + 1 + 1 + 1,0,none⟩) 3 3] 185)).alloc (.cells #[.string BJOIN] 9)).alloc (.cells #[.int .u8 11] 5)).alloc (.cells #[.string BPLUS,.string BMINUS] 9)).alloc (.cells #[.int .u8 6,.int .u8 7] 5)).heap.size (((((w.alloc (.cells #[.slice (some ⟨w.heap.size + 1,0,none⟩) 1 1,.slice (some ⟨w.heap.size + 1 + 1,0,none⟩) 1 1,.slice (some ⟨w.heap.size + 1 + 1 + 1,0,none⟩) 2 2,.slice (some ⟨w.heap.size + 1 + 1 + 1 + 1,0,none⟩) 2 2,.slice (some ⟨w.heap.size + 1 + 1 + 1 + 1 + 1,0,none⟩) 3 3,.slice (some ⟨w.heap.size + 1 + 1 + 1 + 1 + 1 + 1,0,none⟩) 3 3] 185)).alloc (.cells #[.string BJOIN] 9)).alloc (.cells #[.int .u8 11] 5)).alloc (.cells #[.string BPLUS,.string BMINUS] 9)).alloc (.cells #[.int .u8 6,.int .u8 7] 5)) (((((((w.alloc (.cells #[.slice (some ⟨w.heap.size + 1,0,none⟩) 1 1,.slice (some ⟨w.heap.size + 1 + 1,0,none⟩) 1 1,.slice (some ⟨w.heap.size + 1 + 1 + 1,0,none⟩) 2 2,.slice (some ⟨w.heap.size + 1 + 1 + 1 + 1,0,none⟩) 2 2,.slice (some ⟨w.heap.size + 1 + 1 + 1 + 1 + 1,0,none⟩) 3 3,.slice (some ⟨w.heap.size + 1 + 1 + 1 + 1 + 1 + 1,0,none⟩) 3 3] 185)).alloc (.cells #[.string BJOIN] 9)).alloc (.cells #[.int .u8 11] 5)).alloc (.cells #[.string BPLUS,.string BMINUS] 9)).alloc (.cells #[.int .u8 6,.int .u8 7] 5)).alloc (.cells #[.string BSTAR,.string BDIV,.string BMOD] 9)).alloc (.cells #[.int .u8 8,.int .u8 9,.int .u8 10] 5)):=by go_grown
  have h3:=h1.later h2
  simpa using h3
 have hr5:Row (w.heap.size + 1 + 1 + 1 + 1 + 1) 9 #[.string BSTAR,.string BDIV,.string BMOD] (((((((w.alloc (.cells #[.slice (some ⟨w.heap.size + 1,0,none⟩) 1 1,.slice (some ⟨w.heap.size + 1 + 1,0,none⟩) 1 1,.slice (some ⟨w.heap.size + 1 + 1 + 1,0,none⟩) 2 2,.slice (some ⟨w.heap.size + 1 + 1 + 1 + 1,0,none⟩) 2 2,.slice (some ⟨w.heap.size + 1 + 1 + 1 + 1 + 1,0,none⟩) 3 3,.slice (some ⟨w.heap.size + 1 + 1 + 1 + 1 + 1 + 1,0,none⟩) 3 3] 185)).alloc (.cells #[.string BJOIN] 9)).alloc (.cells #[.int .u8 11] 5)).alloc (.cells #[.string BPLUS,.string BMINUS] 9)).alloc (.cells #[.int .u8 6,.int .u8 7] 5)).alloc (.cells #[.string BSTAR,.string BDIV,.string BMOD] 9)).alloc (.cells #[.int .u8 8,.int .u8 9,.int .u8 10] 5)):=by
  have h1:=row_alloc (((((w.alloc (.cells #[.slice (some ⟨w.heap.size + 1,0,none⟩) 1 1,.slice (some ⟨w.heap.size + 1 + 1,0,none⟩) 1 1,.slice (some ⟨w.heap.size + 1 + 1 + 1,0,none⟩) 2 2,.slice (some ⟨w.heap.size + 1 + 1 + 1 + 1,0,none⟩) 2 2,.slice (some ⟨w.heap.size + 1 + 1 + 1 + 1 + 1,0,none⟩) 3 3,.slice (some ⟨w.heap.size + 1 + 1 + 1 + 1 + 1 + 1,0,none⟩) 3 3] 185)).alloc (.cells #[.string BJOIN] 9)).alloc (.cells #[.int .u8 11] 5)).alloc (.cells #[.string BPLUS,.string BMINUS] 9)).alloc (.cells #[.int .u8 6,.int .u8 7] 5)) 9 #[.string BSTAR,.string BDIV,.string BMOD]
  have h2:Below ((((((w.alloc (.cells #[.slice (some ⟨w.heap.size + 1,0,none⟩) 1 1,.slice (some ⟨w.heap.size + 1 + 1,0,none⟩) 1 1,.slice (some ⟨w.heap.size + 1 + 1 + 1,0,none⟩) 2 2,.slice (some ⟨w.heap.size + 1 + 1 + 1 + 1,0,none⟩) 2 2,.slice (some ⟨w.heap.size + 1 + 1 + 1 + 1 + 1,0,none⟩) 3 3,.slice (some ⟨w.heap.size + 1 + 1 + 1 + 1 + 1 + 1,0,none⟩) 3 3] 185)).alloc (.cells #[.string BJOIN] 9)).alloc (.cells #[.int .u8 11] 5)).alloc (.cells #[.string BPLUS,.string BMINUS] 9)).alloc (.cells #[.int .u8 6,.int .u8 7] 5)).alloc (.cells #[.string BSTAR,.string BDIV,.string BMOD] 9)).heap.size ((((((w.alloc (.cells #[.slice (some ⟨w.heap.size + 1,0,none⟩) 1 1,.slice (some ⟨w.heap.size + 1 + 1,0,none⟩) 1 1,.slice (some ⟨w.heap.size + 1 + 1 + 1,0,none⟩) 2 2,.slice (some ⟨w.heap.size + 1 + 1 + 1 + 1,0,none⟩) 2 2,.slice (some ⟨w.heap.size + 1 + 1 + 1 + 1 + 1,0,none⟩) 3 3,.slice (some ⟨w.heap.size + 1 + 1 + 1 + 1 + 1 + 1,0,none⟩) 3 3] 185)).alloc (.cells #[.string BJOIN] 9)).alloc (.cells #[.int .u8 11] 5)).alloc (.cells #[.string BPLUS,.string BMINUS] 9)).alloc (.cells #[.int .u8 6,.int .u8 7] 5)).alloc (.cells #[.string BSTAR,.string BDIV,.string BMOD] 9)) (((((((w.alloc (.cells #[.slice (some ⟨w.heap.size + 1,0,none⟩) 1 1,.slice (some ⟨w.heap.size + 1 + 1,0,none⟩) 1 1,.slice (some ⟨w.heap.size + 1 + 1 + 1,0,none⟩) 2 2,.slice (some ⟨w.heap.size + 1 + 1 + 1 + 1,0,none⟩) 2 2,.slice (some ⟨w.heap.size + 1 + 1 + 1 + 1 + 1,0,none⟩) 3 3,.slice (some ⟨w.heap.size + 1 + 1 + 1 + 1 + 1 + 1,0,none⟩) 3 3] 185)).alloc (.cells #[.string BJOIN] 9)).alloc (.cells #[.int .u8 11] 5)).alloc (.cells #[.string BPLUS,.string BMINUS] 9)).alloc (.cells #[.int .u8 6,.int .u8 7] 5)).alloc (.cells #[.string BSTAR,.string BDIV,.string BMOD] 9)).alloc (.cells #[.int .u8 8,.int .u8 9,.int .u8 10] 5)):=by go_grown
  have h3:=h1.later h2
  simpa using h3
 have hr6:Row (w.heap.size + 1 + 1 + 1 + 1 + 1 + 1) 5 #[.int .u8 8,.int .u8 9,.int .u8 10] (((((((w.alloc (.cells #[.slice (some ⟨w.heap.size + 1,0,none⟩) 1 1,.slice (some ⟨w.heap.size + 1 + 1,0,none⟩) 1 1,.slice (some ⟨w.heap.size + 1 + 1 + 1,0,none⟩) 2 2,.slice (some ⟨w.heap.size + 1 + 1 + 1 + 1,0,none⟩) 2 2,.slice (some ⟨w.heap.size + 1 + 1 + 1 + 1 + 1,0,none⟩) 3 3,.slice (some ⟨w.heap.size + 1 + 1 + 1 + 1 + 1 + 1,0,none⟩) 3 3] 185)).alloc (.cells #[.string BJOIN] 9)).alloc (.cells #[.int .u8 11] 5)).alloc (.cells #[.string BPLUS,.string BMINUS] 9)).alloc (.cells #[.int .u8 6,.int .u8 7] 5)).alloc (.cells #[.string BSTAR,.string BDIV,.string BMOD] 9)).alloc (.cells #[.int .u8 8,.int .u8 9,.int .u8 10] 5)):=by
  have h1:=row_alloc ((((((w.alloc (.cells #[.slice (some ⟨w.heap.size + 1,0,none⟩) 1 1,.slice (some ⟨w.heap.size + 1 + 1,0,none⟩) 1 1,.slice (some ⟨w.heap.size + 1 + 1 + 1,0,none⟩) 2 2,.slice (some ⟨w.heap.size + 1 + 1 + 1 + 1,0,none⟩) 2 2,.slice (some ⟨w.heap.size + 1 + 1 + 1 + 1 + 1,0,none⟩) 3 3,.slice (some ⟨w.heap.size + 1 + 1 + 1 + 1 + 1 + 1,0,none⟩) 3 3] 185)).alloc (.cells #[.string BJOIN] 9)).alloc (.cells #[.int .u8 11] 5)).alloc (.cells #[.string BPLUS,.string BMINUS] 9)).alloc (.cells #[.int .u8 6,.int .u8 7] 5)).alloc (.cells #[.string BSTAR,.string BDIV,.string BMOD] 9)) 5 #[.int .u8 8,.int .u8 9,.int .u8 10]
  have h3:=h1
  simpa using h3
 have HR0:=Lib.hid hr0
 have HB:=Lib.hid hb
 have HL:Hid (LvN w.heap.size (((((((w.alloc (.cells #[.slice (some ⟨w.heap.size + 1,0,none⟩) 1 1,.slice (some ⟨w.heap.size + 1 + 1,0,none⟩) 1 1,.slice (some ⟨w.heap.size + 1 + 1 + 1,0,none⟩) 2 2,.slice (some ⟨w.heap.size + 1 + 1 + 1 + 1,0,none⟩) 2 2,.slice (some ⟨w.heap.size + 1 + 1 + 1 + 1 + 1,0,none⟩) 3 3,.slice (some ⟨w.heap.size + 1 + 1 + 1 + 1 + 1 + 1,0,none⟩) 3 3] 185)).alloc (.cells #[.string BJOIN] 9)).alloc (.cells #[.int .u8 11] 5)).alloc (.cells #[.string BPLUS,.string BMINUS] 9)).alloc (.cells #[.int .u8 6,.int .u8 7] 5)).alloc (.cells #[.string BSTAR,.string BDIV,.string BMOD] 9)).alloc (.cells #[.int .u8 8,.int .u8 9,.int .u8 10] 5)) fun i=>((#[.slice (some ⟨w.heap.size + 1,0,none⟩) 1 1,.slice (some ⟨w.heap.size + 1 + 1,0,none⟩) 1 1,.slice (some ⟨w.heap.size + 1 + 1 + 1,0,none⟩) 2 2,.slice (some ⟨w.heap.size + 1 + 1 + 1 + 1,0,none⟩) 2 2,.slice (some ⟨w.heap.size + 1 + 1 + 1 + 1 + 1,0,none⟩) 3 3,.slice (some ⟨w.heap.size + 1 + 1 + 1 + 1 + 1 + 1,0,none⟩) 3 3]:Array Value)[i]?).getD undef):=Lib.hid (by
  intro k hk
  rcases (by omega:k=0 ∨ k=1 ∨ k=2) with rfl | rfl | rfl
  ·exact Dep.imp2 (ssN (ws:=[BJOIN]) hr1 (by omega)) (u8N (l:=[11]) hr2 (by omega)) fun u h1 h2=>⟨h1,h2⟩
  ·exact Dep.imp2 (ssN (ws:=[BPLUS,BMINUS]) hr3 (by omega)) (u8N (l:=[6,7]) hr4 (by omega)) fun u h1 h2=>⟨h1,h2⟩
  ·exact Dep.imp2 (ssN (ws:=[BSTAR,BDIV,BMOD]) hr5 (by omega)) (u8N (l:=[8,9,10]) hr6 (by omega)) fun u h1 h2=>⟨h1,h2⟩)
 clear hr0 hr1 hr2 hr3 hr4 hr5 hr6 hb
 go_enter Tryz.func144,Tryz.ntmps144
 go_wp2_with fail
 exact bodyPost_ret (v:=.agg #[.slice (some ⟨w.heap.size + 1,0,none⟩) 1 1,.slice (some ⟨w.heap.size + 1 + 1,0,none⟩) 1 1,.slice (some ⟨w.heap.size + 1 + 1 + 1,0,none⟩) 2 2,.slice (some ⟨w.heap.size + 1 + 1 + 1 + 1,0,none⟩) 2 2,.slice (some ⟨w.heap.size + 1 + 1 + 1 + 1 + 1,0,none⟩) 3 3,.slice (some ⟨w.heap.size + 1 + 1 + 1 + 1 + 1 + 1,0,none⟩) 3 3]) (res_arr Tryz.results144 lv_array lv_size _ _ w.heap.size _ _ rfl HR0.out rfl) rfl ⟨_,rfl,HL.out,HB.out⟩
theorem lv_index0 (a b c d e f:Value) (W:World):(Instr.index 185 (.agg #[a,b,c,d,e,f]) (.int .i64 0)).run Tryz.prog W = .ok (.agg #[a,b]) W:=by kernel_rfl
theorem lv_index1 (a b c d e f:Value) (W:World):(Instr.index 185 (.agg #[a,b,c,d,e,f]) (.int .i64 1)).run Tryz.prog W = .ok (.agg #[c,d]) W:=by kernel_rfl
theorem lv_index2 (a b c d e f:Value) (W:World):(Instr.index 185 (.agg #[a,b,c,d,e,f]) (.int .i64 2)).run Tryz.prog W = .ok (.agg #[e,f]) W:=by kernel_rfl
theorem lv_index (a:Nat→Value) (k:Nat) (hk:k < 3) (W:World):(Instr.index 185 (.agg #[a 0,a 1,a 2,a 3,a 4,a 5]) (.int .i64 (k:Int))).run Tryz.prog W = .ok (.agg #[a (2 * k),a (2 * k + 1)]) W:=by
 rcases (by omega:k=0 ∨ k=1 ∨ k=2) with rfl | rfl | rfl
 ·exact lv_index0 _ _ _ _ _ _ W
 ·exact lv_index1 _ _ _ _ _ _ W
 ·exact lv_index2 _ _ _ _ _ _ W
def SumKn1 (k:Nat) (j:Nat) (v:Value) (_:World):Prop:=match j with
 | 0=>v = .int .i64 (k:Int)
 | 1=>True
 | 2=>v = .int .i64 3
 | _=>v = .bool (decide (k=3))
def SumKn3 (r q q3 k n:Nat) (x:PE) (j:Nat) (v:Value) (W:World):Prop:=match j with
 | 0=>v = .pointer (some ⟨r,0,none⟩)
 | 1=>∃ a:Nat→Value,v = .agg #[a 0,a 1,a 2,a 3,a 4,a 5]∧LvN n W a
 | 2=>v = .int .i64 (k:Int)
 | 3=>∃ sv ov,v = .agg #[sv,ov]∧New n W fun u=>SsAt u sv ((opsOf k).map (·.1))∧U8sAt u ov ((opsOf k).map (·.2))
 | 4=>v = .func (.func 146) #[] #[.pointer (some ⟨q,0,none⟩),.pointer (some ⟨q3,0,none⟩)]
 | _=>∃ d,v = .agg d∧ExN n W d x
theorem SumKn3.later {r q q3 k n:Nat} {x:PE} (hr:r < n) (w0:World) (j:Nat) (v:Value) (w1 w2:World) (h:SumKn3 r q q3 k n x j v w1) (_:w0.grownBy w1 (some r)) (g:w1.grownBy w2 (some r)):SumKn3 r q q3 k n x j v w2:=by
 match j,h with
 | 0,h=>exact h
 | 1,⟨a,e,h⟩=>exact ⟨a,e,fun k hk=>(h k hk).grown g hr⟩
 | 2,h=>exact h
 | 3,⟨sv,ov,e,h⟩=>exact ⟨sv,ov,e,h.grown g hr⟩
 | 4,h=>exact h
 | _ + 5,⟨d,e,h⟩=>exact ⟨d,e,h.grown g hr⟩
theorem ops_len (k:Nat):(opsOf k).length ≤ 1000:=by
 unfold opsOf
 split <;> simp
set_option maxRecDepth 100000 in
set_option maxHeartbeats 8000000 in
theorem sumW (k:Nat) (hk:k ≤ 3) (H:∀ s',s.k ≤ s'.k→k < 3→EX w0 r tv L en (.sum (k + 1)) s') (HU:k=3→EX w0 r tv L en .unary s):EX w0 r tv L en (.sum k) s:=by
 intro w h
 have hr:=h.lt
 rw [fu_sum h.hk h.hl hk]
 obtain ⟨Z,hZ⟩:∃ Z,Z=(if k=3 then exF L en FU .unary else chainL L en (opsOf k) (exF L en FU (.sum (k + 1))) FU) s:=⟨_,rfl⟩
 have HZ3:Hid (k=3→Z=exF L en FU .unary s):=Lib.hid (fun e=>by rw [hZ,if_pos e])
 have HZN:Hid (k ≠ 3→Z=chainL L en (opsOf k) (exF L en FU (.sum (k + 1))) FU s):=Lib.hid (fun e=>by rw [hZ,if_neg e])
 rw [← hZ]
 clear hZ
 have hb:Below w.heap.size w (((w.alloc (.cells #[.pointer (some ⟨r,0,none⟩)] 75)).alloc (.cells #[.int .i64 (k:Int)] 3)).alloc (.cells exZ 48)):=by go_grown
 have hr0:Row (w.heap.size) 75 #[.pointer (some ⟨r,0,none⟩)] (((w.alloc (.cells #[.pointer (some ⟨r,0,none⟩)] 75)).alloc (.cells #[.int .i64 (k:Int)] 3)).alloc (.cells exZ 48)):=by
  have h1:=row_alloc w 75 #[.pointer (some ⟨r,0,none⟩)]
  have h2:Below (w.alloc (.cells #[.pointer (some ⟨r,0,none⟩)] 75)).heap.size (w.alloc (.cells #[.pointer (some ⟨r,0,none⟩)] 75)) (((w.alloc (.cells #[.pointer (some ⟨r,0,none⟩)] 75)).alloc (.cells #[.int .i64 (k:Int)] 3)).alloc (.cells exZ 48)):=by go_grown
  have h3:=h1.later h2
  simpa using h3
 have hr1:Row (w.heap.size + 1) 3 #[.int .i64 (k:Int)] (((w.alloc (.cells #[.pointer (some ⟨r,0,none⟩)] 75)).alloc (.cells #[.int .i64 (k:Int)] 3)).alloc (.cells exZ 48)):=by
  have h1:=row_alloc (w.alloc (.cells #[.pointer (some ⟨r,0,none⟩)] 75)) 3 #[.int .i64 (k:Int)]
  have h2:Below ((w.alloc (.cells #[.pointer (some ⟨r,0,none⟩)] 75)).alloc (.cells #[.int .i64 (k:Int)] 3)).heap.size ((w.alloc (.cells #[.pointer (some ⟨r,0,none⟩)] 75)).alloc (.cells #[.int .i64 (k:Int)] 3)) (((w.alloc (.cells #[.pointer (some ⟨r,0,none⟩)] 75)).alloc (.cells #[.int .i64 (k:Int)] 3)).alloc (.cells exZ 48)):=by go_grown
  have h3:=h1.later h2
  simpa using h3
 have hr2:Row (w.heap.size + 1 + 1) 48 exZ (((w.alloc (.cells #[.pointer (some ⟨r,0,none⟩)] 75)).alloc (.cells #[.int .i64 (k:Int)] 3)).alloc (.cells exZ 48)):=by
  have h1:=row_alloc ((w.alloc (.cells #[.pointer (some ⟨r,0,none⟩)] 75)).alloc (.cells #[.int .i64 (k:Int)] 3)) 48 exZ
  have h3:=h1
  simpa using h3
 have HR0:=Lib.hid hr0
 have HR1:=Lib.hid hr1
 have HR2:=Lib.hid hr2
 have HB:=Lib.hid hb
 have HR:=Lib.hid hr
 have HP:=Lib.hid (h.later hb)
 have hc1:=hr1.cell (i:=0) (v:=.int .i64 (k:Int)) rfl
 have HSZ:Hid ((((w.alloc (.cells #[.pointer (some ⟨r,0,none⟩)] 75)).alloc (.cells #[.int .i64 (k:Int)] 3)).alloc (.cells exZ 48)).heap.size=w.heap.size + 3):=Lib.hid (by simp)
 have e3:((k:Int) == 3)=decide (k=3):=by rw [Bool.eq_iff_iff];simp;omega
 have HE3:=Lib.hid e3
 have HH:=Lib.hid H
 have HHU:=Lib.hid HU
 have HK:=Lib.hid hk
 clear hr0 hr1 hr2 hb hr h H HU e3 hk
 show Calls _ 129 #[.pointer (some ⟨r,0,none⟩),.int .i64 (k:Int)] _ _
 go_enter Tryz.func129,Tryz.ntmps129
 go_upto_region 1 with fail
 generalize (((w.alloc (.cells #[.pointer (some ⟨r,0,none⟩)] 75)).alloc (.cells #[.int .i64 (k:Int)] 3)).alloc (.cells exZ 48))=w1 at *
 refine wp_region_kip (SumKn1 k) 17 rfl (by kernel_rfl) (by kernel_rfl) (fun j v w1 w2 h _=>h) ?_ ?_
 ·intro i hi A W hother hbW hd
  match i,hi with
  | 0,hi=>
   have h0:=tmps_at (show A.eval (.tmp 3) = .pointer (some ⟨w.heap.size + 1,0,none⟩) from hother 3 (by kernel_rfl))
   have hc:=(hbW.cell (cell_lt hc1)).trans hc1
   clear hother hd hi hc1
   exact kip_same rfl (wanted_none rfl) (.int .i64 (k:Int)) (by simp only [execOp];go_simp) rfl
  | 1,hi=>
   clear hother hd hi
   refine kip_call rfl (wanted_none rfl) 144 #[] (by simp only [execOp];go_simp) ((levelsW W).mono ?_)
   rintro e w' ⟨a,rfl,_,hb⟩
   exact ⟨⟨_,rfl,trivial⟩,hb⟩
  | 2,hi=>
   clear hother hd hi
   exact kip_same rfl (wanted_none rfl) (.int .i64 3) (by simp only [execOp];go_simp) rfl
  | 3,hi=>
   have h0:=tmps_at ((hd _ rfl ⟨0,.data⟩ (by simp) rfl).eq (.int .i64 (k:Int)) (fun _ h=>h) 5 (by kernel_rfl) (by decide))
   have h1:=tmps_at ((hd _ rfl ⟨2,.data⟩ (by simp) rfl).eq (.int .i64 3) (fun _ h=>h) 7 (by kernel_rfl) (by decide))
   have e3:=HE3.out
   clear hother hd hi
   exact kip_same rfl (wanted_none rfl) (.bool (decide (k=3))) (by simp only [execOp];go_simp) rfl
  | i + 4,hi=>exact absurd hi (by simp)
 intro us W hbW hk
 have e8:us 3 = .bool (decide (k=3)):=hk 3 (by decide)
 replace HR0:=Lib.hid (HR0.out.later hbW)
 replace HR1:=Lib.hid (HR1.out.later hbW)
 replace HR2:=Lib.hid (HR2.out.later hbW)
 replace HP:=Lib.hid (HP.out.later hbW)
 replace HB:=Lib.hid (next HB.out hbW)
 replace HSZ:Hid (w.heap.size + 3 ≤ W.heap.size):=Lib.hid (by have:=HSZ.out;have:=hbW.size;omega)
 clear hk hbW hc1
 simp only [putAll,dstOf,Act.put,List.getElem?_toArray,List.getElem?_cons_zero,List.getElem?_cons_succ,Option.bind_some,List.length_cons,List.length_nil]
 simp only [List.setIfInBounds_toArray,List.set_cons_zero,List.set_cons_succ]
 rw [e8]
 by_cases h3:k=3
 ·rw [decide_eq_true h3]
  replace HZ3:=Lib.hid (HZ3.out h3)
  have HHU3:=Lib.hid (HHU.out h3)
  clear h3
  have hc0:=HR0.out.cell (i:=0) (v:=.pointer (some ⟨r,0,none⟩)) rfl
  have HC:Hid (Calls Tryz.prog 145 #[.pointer (some ⟨r,0,none⟩)] W _):=Lib.hid (HHU3.out W HP.out)
  go_wp2_with fail
  refine HC.out.mono ?_
  rintro e2 w2 ⟨v,rfl,hn,hp,hg2⟩
  obtain ⟨c,rfl,hx⟩:=ExN.of hn
  have HX:=Lib.hid hx
  have HP:=Lib.hid hp
  have HR3:=Lib.hid (HR2.out.grown hg2 (by have:=HR.out;omega))
  have hrb:=HR3.out.b (n:=8) rfl
  have hok:=hx.ok
  have HG:=Lib.hid (grown_trans (below_grown HB.out) hg2)
  clear hn hx hp hg2 hc0
  go_wp2_with fail
  exact bodyPost_ret (v:=.agg c) (res_row Tryz.results129 ex_struct ex_size _ _ (w.heap.size + 1 + 1) _ c rfl (HR3.out.set c) HX.out.size) rfl ⟨_,rfl,by rw [HZ3.out];exact exN_fin HX.out (by have:=HSZ.out;omega) (by have:=HSZ.out;omega) c,by rw [HZ3.out];exact HP.out.other (grown_setRow _ _ c) (by have:=HR.out;omega),grown_fill HG.out (by omega) c⟩
 ·rw [decide_eq_false h3]
  have HZ:=Lib.hid (HZN.out h3)
  have hk3:k < 3:=by have:=HK.out;omega
  have HK3:=Lib.hid hk3
  clear h3
  go_upto_region 3 with fail
  obtain ⟨⟨x,s2⟩,hx⟩:∃ z,chainL L en (opsOf k) (exF L en FU (.sum (k + 1))) FU s=z:=⟨_,rfl⟩
  have HZ2:Hid (Z=(x,s2)):=Lib.hid (HZ.out.trans hx)
  have HX:=Lib.hid hx
  clear hx
  have hrn:r < w.heap.size + 3:=by have:=HR.out;omega
  refine wp_region_kig 6 r (SumKn3 r w.heap.size (w.heap.size + 1) k (w.heap.size + 3) x) (fun dn W=>PB w0 r tv L en (if dn 5 then s2 else s) W) 17 rfl (by kernel_rfl) (by kernel_rfl) (SumKn3.later hrn W) ?_ ?_ ?_ ?_
  ·intro dn dn' W hdd hst
   rw [← hdd 5 (by decide)]
   exact hst
  ·exact HP.out.later (Below.drew (Below.refl _ _))
  ·intro j hj dn A W2 hother hgW hst hdj hd
   match j,hj with
   | 0,hj=>
    have h0:=tmps_at (show A.eval (.tmp 2) = .pointer (some ⟨w.heap.size,0,none⟩) from hother 2 (by kernel_rfl))
    have hc:=(HR0.out.grown hgW (Nat.ne_of_gt HR.out)).cell (i:=0) (v:=.pointer (some ⟨r,0,none⟩)) rfl
    clear hother hd hj
    exact kig_same rfl rfl (.pointer (some ⟨r,0,none⟩)) (by simp only [execOp];go_simp) rfl hst
   | 1,hj=>
    clear hother hd hj
    refine kig_call rfl rfl 144 #[] (by simp only [execOp];go_simp) ((levelsW W2).mono ?_)
    rintro e w' ⟨a,rfl,hl,hb⟩
    exact ⟨_,rfl,below_grown hb,⟨a,rfl,fun i hi=>(hl i hi).mono (Nat.le_trans HSZ.out hgW.size)⟩,hst.later hb⟩
   | 2,hj=>
    have h0:=tmps_at (show A.eval (.tmp 3) = .pointer (some ⟨w.heap.size + 1,0,none⟩) from hother 3 (by kernel_rfl))
    have hc:=(HR1.out.grown hgW (by have:=HR.out;omega)).cell (i:=0) (v:=.int .i64 (k:Int)) rfl
    clear hother hd hj
    exact kig_same rfl rfl (.int .i64 (k:Int)) (by simp only [execOp];go_simp) rfl hst
   | 3,hj=>
    obtain ⟨v1,⟨a,e1,hl⟩,h1⟩:=(hd _ rfl ⟨1,.data⟩ (by simp) rfl).2.get 12 (by kernel_rfl) (by decide)
    subst e1
    have h0:=tmps_at h1
    have h2:=tmps_at ((hd _ rfl ⟨2,.data⟩ (by simp) rfl).2.eq (.int .i64 (k:Int)) (fun _ h=>h) 13 (by kernel_rfl) (by decide))
    have hix:=lv_index a k HK3.out W2
    clear hother hd hj
    exact kig_same rfl rfl (.agg #[a (2 * k),a (2 * k + 1)]) (by simp only [execOp];go_simp) ⟨_,_,rfl,hl k HK3.out⟩ hst
   | 4,hj=>
    have h0:=tmps_at (show A.eval (.tmp 2) = .pointer (some ⟨w.heap.size,0,none⟩) from hother 2 (by kernel_rfl))
    have h1:=tmps_at (show A.eval (.tmp 3) = .pointer (some ⟨w.heap.size + 1,0,none⟩) from hother 3 (by kernel_rfl))
    clear hother hd hj
    exact kig_same rfl rfl (.func (.func 146) #[] #[.pointer (some ⟨w.heap.size,0,none⟩),.pointer (some ⟨w.heap.size + 1,0,none⟩)]) (by simp only [execOp];go_simp) rfl hst
   | 5,hj=>
    obtain ⟨v3,⟨sv,ov,e3,hs⟩,h3⟩:=(hd _ rfl ⟨3,.data⟩ (by simp) rfl).2.get 14 (by kernel_rfl) (by decide)
    subst e3
    have h0:=tmps_at h3
    have h1:=tmps_at ((hd _ rfl ⟨0,.data⟩ (by simp) rfl).2.eq (.pointer (some ⟨r,0,none⟩)) (fun _ h=>h) 11 (by kernel_rfl) (by decide))
    have h2:=tmps_at ((hd _ rfl ⟨4,.data⟩ (by simp) rfl).2.eq (.func (.func 146) #[] #[.pointer (some ⟨w.heap.size,0,none⟩),.pointer (some ⟨w.heap.size + 1,0,none⟩)]) (fun _ h=>h) 15 (by kernel_rfl) (by decide))
    have hst5:PB w0 r tv L en s W2:=by have h:=hst;simp only [hdj] at h;exact h
    have hcall:=chainSum (L:=L) (en:=en) w.heap.size (w.heap.size + 1) (opsOf k) (ops_len k) sv ov (ex_mono (.sum (k + 1))) W2 s.k
     (sum1W w.heap.size (w.heap.size + 1) k HK.out W2 s.k (fun w' g=>((HR0.out.grown hgW (Nat.ne_of_gt HR.out)).grown g (Nat.ne_of_gt HR.out)).cell rfl) (fun w' g=>((HR1.out.grown hgW (by have:=HR.out;omega)).grown g (by have:=HR.out;omega)).cell rfl) (fun s' hs'=>HH.out s' hs' HK3.out))
     (fun w' g=>(hs.stay g hrn).1) (fun w' g=>(hs.stay g hrn).2) s (Nat.le_refl _) hst5
    rw [HX.out] at hcall
    clear hother hd hj hs
    refine kig_call rfl rfl 85 #[.pointer (some ⟨r,0,none⟩),.agg #[sv,ov],.func (.func 146) #[] #[.pointer (some ⟨w.heap.size,0,none⟩),.pointer (some ⟨w.heap.size + 1,0,none⟩)]] (by simp only [execOp];go_simp) (hcall.mono ?_)
    rintro e7 w7 ⟨v7,rfl,hn7,hp7,hg7⟩
    obtain ⟨d,rfl,hx7⟩:=ExN.of hn7
    exact ⟨_,rfl,hg7,⟨d,rfl,hx7.mono (Nat.le_trans HSZ.out hgW.size)⟩,hp7⟩
   | i + 6,hj=>omega
  ·intro us W2 hgW hst hk
   obtain ⟨d,e5,hx5⟩:=hk 5 (by decide)
   have HR3:=Lib.hid (HR2.out.grown hgW (by have:=HR.out;omega))
   have hrb:=HR3.out.b (n:=8) rfl
   have hok:=hx5.ok
   have HX5:=Lib.hid hx5
   have HP5:Hid (PB w0 r tv L en s2 W2):=Lib.hid hst
   have HG:=Lib.hid (grown_trans (below_grown HB.out) hgW)
   clear hk hst hgW hx5
   simp only [List.drop_succ_cons,List.drop_zero,putAll,dstOf,Act.put,List.getElem?_toArray,List.getElem?_cons_zero,List.getElem?_cons_succ,Option.bind_some]
   simp only [List.setIfInBounds_toArray,List.set_cons_zero,List.set_cons_succ]
   rw [e5]
   go_wp2_with fail
   exact bodyPost_ret (v:=.agg d) (res_row Tryz.results129 ex_struct ex_size _ _ (w.heap.size + 1 + 1) _ d rfl (HR3.out.set d) HX5.out.size) rfl ⟨_,rfl,by rw [HZ2.out];exact exN_fin HX5.out (by omega) (by omega) d,by rw [HZ2.out];exact HP5.out.other (grown_setRow _ _ d) (by have:=HR.out;omega),grown_fill HG.out (by omega) d⟩
end
end Go.Proofs.YtmdogmpcmkfjpaaGreatDoor.Dt
