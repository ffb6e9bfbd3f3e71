import Derived.Test.YtmdogmpcmkfjpaaGreatDoorBq16
set_option maxRecDepth 100000
set_option maxHeartbeats 64000000
/- Part. -/
namespace Go.Proofs.YtmdogmpcmkfjpaaGreatDoor.Dt
open Go.RowKit Go.Proofs.YtmdogmpcmkfjpaaGreatDoor.By
attribute [local go_sem ↓] Zbv Zcb
attribute [local go_sem] Zc6 Zbx Zc7 Zfg Value.oneCell'
def fnOf:Md→FuncId
 | .expr=>31
 | .not=>87
 | .sum _=>129
 | .unary=>145
 | .prim=>160
def argsOf (r:Nat):Md→Array Value
 | .sum k=>#[pV r,.int .i64 (k:Int)]
 | _=>#[pV r]
section
variable {w0:World} {r:Nat} {tv:Value} {L:List Tk} {en:Int} {s:PS}
def EX (w0:World) (r:Nat) (tv:Value) (L:List Tk) (en:Int) (m:Md) (s:PS):Prop:=∀ w,PB w0 r tv L en s w→Calls Tryz.prog (fnOf m) (argsOf r m) w fun e w'=>
 ∃ v,e = .returned v∧New w.heap.size w' (fun u=>ExV u v (exF L en FU m s).1)∧PB w0 r tv L en (exF L en FU m s).2 w'∧w.grownBy w' (some r)
theorem Ztq {g:Nat} {t:TypeId} {l:List Nat} {w:World} (h:Row g t (l.map fun (k:Nat)=>Value.int .u8 (k:Int)).toArray w):Zoy w (.slice (some ⟨g,0,none⟩) l.length l.length) l:=
 ⟨_,_,rfl,Nat.le_refl _,fun i x hx=>⟨g,0,rfl,fun j u hu=>by
  match j,hu with
  | 0,hu=>
   simp [Zpk] at hu
   subst hu
   exact h.cell kb66
  | _ + 1,hu=>simp [Zpk] at hu⟩⟩
theorem Zp9 (ops:List (ByteArray × Nat)) (ho:∀ x ∈ ops,x.1 ≠ Za4∧x.1 ≠ Zp) (m:Md) (s:PS):s.k ≤ (chainL L en ops (exF L en FU m) FU s).2.k:=((Sim.chainL (L:=L) (L':=L) (en:=en) (en':=en) (d:=0) ops ho (Sim.exF FU m) FU).mono s).1
theorem Zp5 (m:Md) (s:PS):s.k ≤ (exF L en FU m s).2.k:=((Sim.exF (L:=L) (L':=L) (en:=en) (en':=en) (d:=0) FU m).mono s).1
theorem Zgg {n m g:Nat} {w:World} {c:Array Value} {x:PE} (h:ExN n w c x) (hg:g < n) (hm:m ≤ n) (d:Array Value):New m (w.setRow g d) fun u=>ExV u (.agg c) x:=
 ((ExD.set h kW).step (Nat.le_refl _) fun b hb _=>⟨Nat.le_trans hm hb,rfl⟩).v
theorem expr1W (q:Nat) (w1:World) (k0:Nat) (hq:∀ w',w1.grownBy w' (some r)→w'.cell? ⟨q,0,none⟩=some (pV r)) (H:∀ s',k0 ≤ s'.k→EX w0 r tv L en .not s') :
 Zks w0 r tv L en w1 k0 86 #[pV q] (chainL L en [(Zf6,18)] (exF L en FU .not) FU) ExV:=by
 intro s w hk hg h
 have hq0:=hq w hg
 have hqs:=Zd hq0
 have hr:=h.lt
 have hb:Below w.heap.size w (((w.alloc (.cells exZ 48)).alloc (.cells #[.string Zf6] 9)).alloc (.cells #[.int .u8 18] 5)):=by go_grown
 have hr0:Row (w.heap.size) 48 exZ (((w.alloc (.cells exZ 48)).alloc (.cells #[.string Zf6] 9)).alloc (.cells #[.int .u8 18] 5)):=by
  have h1:=Zc w 48 exZ
  have h2:Below (w.alloc (.cells exZ 48)).heap.size (w.alloc (.cells exZ 48)) (((w.alloc (.cells exZ 48)).alloc (.cells #[.string Zf6] 9)).alloc (.cells #[.int .u8 18] 5)):=by go_grown
  have h3:=h1.later h2
  simpa using h3
 have hr1:Row (w.heap.size + 1) 9 #[.string Zf6] (((w.alloc (.cells exZ 48)).alloc (.cells #[.string Zf6] 9)).alloc (.cells #[.int .u8 18] 5)):=by
  have h1:=Zc (w.alloc (.cells exZ 48)) 9 #[.string Zf6]
  have h2:Below ((w.alloc (.cells exZ 48)).alloc (.cells #[.string Zf6] 9)).heap.size ((w.alloc (.cells exZ 48)).alloc (.cells #[.string Zf6] 9)) (((w.alloc (.cells exZ 48)).alloc (.cells #[.string Zf6] 9)).alloc (.cells #[.int .u8 18] 5)):=by go_grown
  have h3:=h1.later h2
  simpa using h3
 have hr2:Row (w.heap.size + 1 + 1) 5 #[.int .u8 18] (((w.alloc (.cells exZ 48)).alloc (.cells #[.string Zf6] 9)).alloc (.cells #[.int .u8 18] 5)):=by
  have h1:=Zc ((w.alloc (.cells exZ 48)).alloc (.cells #[.string Zf6] 9)) 5 #[.int .u8 18]
  have h3:=h1
  simpa using h3
 have hq3:=(hb.cell hqs).trans hq0
 have HC:=Lh (chainNot (L:=L) (en:=en) [(Zf6,18)] kY (.slice (some ⟨w.heap.size + 1,0,none⟩) 1 1) (.slice (some ⟨w.heap.size + 1 + 1,0,none⟩) 1 1) (Zp5 .not) (((w.alloc (.cells exZ 48)).alloc (.cells #[.string Zf6] 9)).alloc (.cells #[.int .u8 18] 5)) k0
  (fun s' W hk' _ hP=>H s' hk' W hP) (fun W hW=>Zi4 (ws:=[Zf6]) (hr1.grown hW kW)) (fun W hW=>Ztq (l:=[18]) (hr2.grown hW kW)) s hk (h.later hb))
 have HN:Hid (w.heap.size < (((w.alloc (.cells exZ 48)).alloc (.cells #[.string Zf6] 9)).alloc (.cells #[.int .u8 18] 5)).heap.size):=Lh hr0.lt
 have HR0:=Lh hr0
 have HB:=Lh hb
 have HR:=Lh hr
 clear hr0 hb hr1 hr2 h H hk hg hr
 go_enter Tryz.func86,Tryz.ntmps86
 go_wp2_with fail
 refine HC.out.mono ?_
 rintro e2 w2 ⟨v,rfl,hn,hp,hg2⟩
 obtain ⟨c,rfl,hx⟩:=ExN.of hn
 have HX:=Lh hx
 have HP:=Lh hp
 have HR2:=Lh (HR0.out.grown hg2 (Nat.ne_of_gt HR.out))
 have hrb:=HR2.out.b (n:=8) rfl
 have hok:=hx.ok
 have HG:=Lh (Za (below_grown HB.out) hg2)
 clear hn hx hp hg2
 go_wp2_with fail
 exact bodyPost_ret (v:=.agg c) (Zq Tryz.results86 Zz Zaq _ _ w.heap.size _ c rfl (HR2.out.set c) HX.out.size) rfl ⟨_,rfl,Zgg HX.out HN.out (Nat.le_of_lt HN.out) c,HP.out.other (Zi _ _ c) HR.out,Zn HG.out (Nat.le_refl _) c⟩
theorem exprW (H:∀ s',s.k ≤ s'.k→EX w0 r tv L en .not s'):EX w0 r tv L en .expr s:=by
 intro w h
 have hr:=h.lt
 rw [fu_expr h.hk h.hl]
 have hb:Below w.heap.size w ((((w.alloc (.cells #[pV r] 75)).alloc (.cells exZ 48)).alloc (.cells #[.string WOR] 9)).alloc (.cells #[.int .u8 19] 5)):=by go_grown
 have hr0:Row (w.heap.size) 75 #[pV r] ((((w.alloc (.cells #[pV r] 75)).alloc (.cells exZ 48)).alloc (.cells #[.string WOR] 9)).alloc (.cells #[.int .u8 19] 5)):=by
  have h1:=Zc w 75 #[pV r]
  have h2:Below (w.alloc (.cells #[pV r] 75)).heap.size (w.alloc (.cells #[pV r] 75)) ((((w.alloc (.cells #[pV r] 75)).alloc (.cells exZ 48)).alloc (.cells #[.string WOR] 9)).alloc (.cells #[.int .u8 19] 5)):=by go_grown
  have h3:=h1.later h2
  simpa using h3
 have hr1:Row (w.heap.size + 1) 48 exZ ((((w.alloc (.cells #[pV r] 75)).alloc (.cells exZ 48)).alloc (.cells #[.string WOR] 9)).alloc (.cells #[.int .u8 19] 5)):=by
  have h1:=Zc (w.alloc (.cells #[pV r] 75)) 48 exZ
  have h2:Below ((w.alloc (.cells #[pV r] 75)).alloc (.cells exZ 48)).heap.size ((w.alloc (.cells #[pV r] 75)).alloc (.cells exZ 48)) ((((w.alloc (.cells #[pV r] 75)).alloc (.cells exZ 48)).alloc (.cells #[.string WOR] 9)).alloc (.cells #[.int .u8 19] 5)):=by go_grown
  have h3:=h1.later h2
  simpa using h3
 have hr2:Row (w.heap.size + 1 + 1) 9 #[.string WOR] ((((w.alloc (.cells #[pV r] 75)).alloc (.cells exZ 48)).alloc (.cells #[.string WOR] 9)).alloc (.cells #[.int .u8 19] 5)):=by
  have h1:=Zc ((w.alloc (.cells #[pV r] 75)).alloc (.cells exZ 48)) 9 #[.string WOR]
  have h2:Below (((w.alloc (.cells #[pV r] 75)).alloc (.cells exZ 48)).alloc (.cells #[.string WOR] 9)).heap.size (((w.alloc (.cells #[pV r] 75)).alloc (.cells exZ 48)).alloc (.cells #[.string WOR] 9)) ((((w.alloc (.cells #[pV r] 75)).alloc (.cells exZ 48)).alloc (.cells #[.string WOR] 9)).alloc (.cells #[.int .u8 19] 5)):=by go_grown
  have h3:=h1.later h2
  simpa using h3
 have hr3:Row (w.heap.size + 1 + 1 + 1) 5 #[.int .u8 19] ((((w.alloc (.cells #[pV r] 75)).alloc (.cells exZ 48)).alloc (.cells #[.string WOR] 9)).alloc (.cells #[.int .u8 19] 5)):=by
  have h1:=Zc (((w.alloc (.cells #[pV r] 75)).alloc (.cells exZ 48)).alloc (.cells #[.string WOR] 9)) 5 #[.int .u8 19]
  have h3:=h1
  simpa using h3
 have hq:∀ w',((((w.alloc (.cells #[pV r] 75)).alloc (.cells exZ 48)).alloc (.cells #[.string WOR] 9)).alloc (.cells #[.int .u8 19] 5)).grownBy w' (some r)→w'.cell? ⟨w.heap.size,0,none⟩=some (pV r):=fun w' g=>(hr0.grown g kW).cell rfl
 have hq0:=hq _ (World.grownBy.refl _ _)
 have HC:=Lh (Zwp (L:=L) (en:=en) w.heap.size [(WOR,19)] kY (.slice (some ⟨w.heap.size + 1 + 1,0,none⟩) 1 1) (.slice (some ⟨w.heap.size + 1 + 1 + 1,0,none⟩) 1 1) (Zp9 [(Zf6,18)] kD .not) ((((w.alloc (.cells #[pV r] 75)).alloc (.cells exZ 48)).alloc (.cells #[.string WOR] 9)).alloc (.cells #[.int .u8 19] 5)) s.k
  (expr1W w.heap.size _ s.k hq H) (fun W hW=>Zi4 (ws:=[WOR]) (hr2.grown hW kW)) (fun W hW=>Ztq (l:=[19]) (hr3.grown hW kW)) s (Nat.le_refl _) (h.later hb))
 have HN:Hid (w.heap.size + 1 < ((((w.alloc (.cells #[pV r] 75)).alloc (.cells exZ 48)).alloc (.cells #[.string WOR] 9)).alloc (.cells #[.int .u8 19] 5)).heap.size):=Lh hr1.lt
 have HR0:=Lh hr1
 have HB:=Lh hb
 have HR:=Lh hr
 clear hr0 hb hr1 hr2 hr3 h H hr hq
 show Calls _ 31 #[pV r] _ _
 go_enter Tryz.func31,Tryz.ntmps31
 go_wp2_with fail
 refine HC.out.mono ?_
 rintro e2 w2 ⟨v,rfl,hn,hp,hg2⟩
 obtain ⟨c,rfl,hx⟩:=ExN.of hn
 have HX:=Lh hx
 have HP:=Lh hp
 have HR2:=Lh (HR0.out.grown hg2 Zs5)
 have hrb:=HR2.out.b (n:=8) rfl
 have hok:=hx.ok
 have HG:=Lh (Za (below_grown HB.out) hg2)
 clear hn hx hp hg2 hq0
 go_wp2_with fail
 exact bodyPost_ret (v:=.agg c) (Zq Tryz.results31 Zz Zaq _ _ (w.heap.size + 1) _ c rfl (HR2.out.set c) HX.out.size) rfl ⟨_,rfl,Zgg HX.out HN.out (Nat.le_of_succ_le (Nat.le_of_lt HN.out)) c,HP.out.other (Zi _ _ c) Zs5,Zn HG.out (Nat.le_succ _) c⟩
theorem sum1W (q q3 k:Nat) (hk3:k ≤ 3) (w1:World) (k0:Nat) (hq:∀ w',w1.grownBy w' (some r)→w'.cell? ⟨q,0,none⟩=some (pV r)) (hq3:∀ w',w1.grownBy w' (some r)→w'.cell? ⟨q3,0,none⟩=some (.int .i64 (k:Int))) (H:∀ s',k0 ≤ s'.k→EX w0 r tv L en (.sum (k + 1)) s') :
 Zks w0 r tv L en w1 k0 146 #[pV q,pV q3] (exF L en FU (.sum (k + 1))) ExV:=by
 intro s w hk hg h
 have hr:=h.lt
 have hb:Below w.heap.size w (w.alloc (.cells exZ 48)):=by go_grown
 have hr0:Row (w.heap.size) 48 exZ (w.alloc (.cells exZ 48)):=by
  have h1:=Zc w 48 exZ
  have h3:=h1
  simpa using h3
 have hb':=hb
 have hx0:=(hb.cell (Zd (hq w hg))).trans (hq w hg)
 have hx1:=(hb.cell (Zd (hq3 w hg))).trans (hq3 w hg)
 have hc:=H s hk _ (h.later hb)
 unfold fnOf argsOf at hc
 have e1:((k + 1:Nat):Int)=(k:Int) + 1:=kW
 simp only [e1] at hc
 have HC:=Lh hc
 have i0:(0:Int) ≤ (k:Int):=kW
 have i3:(k:Int) ≤ 3:=kW
 have HN:Hid (w.heap.size < (w.alloc (.cells exZ 48)).heap.size):=Lh hr0.lt
 have HR0:=Lh hr0
 have HB:=Lh hb
 have HR:=Lh hr
 clear hr0 hb hb' h H hk hg hr hq hq3 hc e1 hk3
 go_enter Tryz.func146,Tryz.ntmps146
 go_wp2_with fail
 refine HC.out.mono ?_
 rintro e2 w2 ⟨v,rfl,hn,hp,hg2⟩
 obtain ⟨c,rfl,hx⟩:=ExN.of hn
 have HX:=Lh hx
 have HP:=Lh hp
 have HR2:=Lh (HR0.out.grown hg2 (Nat.ne_of_gt HR.out))
 have hrb:=HR2.out.b (n:=8) rfl
 have hok:=hx.ok
 have HG:=Lh (Za (below_grown HB.out) hg2)
 clear hn hx hp hg2 hx0 hx1
 go_wp2_with fail
 exact bodyPost_ret (v:=.agg c) (Zq Tryz.results146 Zz Zaq _ _ w.heap.size _ c rfl (HR2.out.set c) HX.out.size) rfl ⟨_,rfl,Zgg HX.out HN.out (Nat.le_of_lt HN.out) c,HP.out.other (Zi _ _ c) HR.out,Zn HG.out (Nat.le_refl _) c⟩
theorem ssN {n g:Nat} {t:TypeId} {ws:List ByteArray} {w:World} (h:Row g t (ws.map Value.string).toArray w) (hg:n ≤ g):New n w fun u=>Zs6 u (.slice (some ⟨g,0,none⟩) ws.length ws.length) ws:=
 fun _ hu=>Zi4 ((hu g hg h.lt).trans h)
theorem u8N {n g:Nat} {t:TypeId} {l:List Nat} {w:World} (h:Row g t (l.map fun (k:Nat)=>Value.int .u8 (k:Int)).toArray w) (hg:n ≤ g):New n w fun u=>Zoy u (.slice (some ⟨g,0,none⟩) l.length l.length) l:=
 fun _ hu=>Ztq ((hu g hg h.lt).trans h)
def isAr:TypeDesc→Bool
 | .array _ _=>true
 | _=>false
theorem ar_of {P:Program} {T:TypeId} (h:(P.underlying T).map isAr=some true):∃ n e,P.underlying T=some (.array n e):=by
 cases hq:P.underlying T with
 | none=>rw [hq] at h;cases h
 | some d=>
  rw [hq] at h
  cases d with
  | array n e=>exact ⟨n,e,rfl⟩
  | _=>cases h
theorem res_arr {fn:Func} {p:Tmp} {ty:TypeId} {n:Nat} (h:fn.results = #[.cell p ty]) (hs:∃ m e,Tryz.prog.underlying ty=some (.array m e)) (hi:(Tryz.prog.info? ty).map (·.size)=some n) (tmps:Array Value) (w:World) (g:Nat) (t:TypeId) (cs:Array Value)
 (hp:tmps.getD p undef = pV g) (hg:Row g t cs w) (hc:cs.size=n):(results fn tmps).run Tryz.prog w = .ok (.agg cs) w:=by
 obtain ⟨m,e,hu⟩:=hs
 exact results_cell_row h tmps w g t cs (0,0) _ hp hg hu rfl (by rw [hi,hc])
def LvN (n:Nat) (w:World) (a:Nat→Value):Prop:=∀ k,k < 3→New n w fun u=>Zs6 u (a (2 * k)) ((opsOf k).map (·.1))∧Zoy u (a (2 * k + 1)) ((opsOf k).map (·.2))
theorem lv_size:(Tryz.prog.info? 185).map (·.size)=some 6:=kR
theorem lv_array:∃ m e,Tryz.prog.underlying 185=some (.array m e):=ar_of kR
abbrev lvA (w:World):Array Value:=#[.slice (some ⟨w.heap.size + 1,0,none⟩) 1 1,.slice (some ⟨w.heap.size + 1 + 1,0,none⟩) 1 1,.slice (some ⟨w.heap.size + 1 + 1 + 1,0,none⟩) 2 2,.slice (some ⟨w.heap.size + 1 + 1 + 1 + 1,0,none⟩) 2 2,.slice (some ⟨w.heap.size + 1 + 1 + 1 + 1 + 1,0,none⟩) 3 3,.slice (some ⟨w.heap.size + 1 + 1 + 1 + 1 + 1 + 1,0,none⟩) 3 3]
abbrev lvW (w:World):World:=(((((((w.alloc (.cells (lvA w) 185)).alloc (.cells #[.string Zcf] 9)).alloc (.cells #[.int .u8 11] 5)).alloc (.cells #[.string Zdf,.string Zad] 9)).alloc (.cells #[.int .u8 6,.int .u8 7] 5)).alloc (.cells #[.string Zao,.string Zih,.string Zig] 9)).alloc (.cells #[.int .u8 8,.int .u8 9,.int .u8 10] 5))
theorem Zva (w:World):Calls Tryz.prog 144 #[] w fun e w'=>∃ a:Nat→Value,e = .returned (.agg #[a 0,a 1,a 2,a 3,a 4,a 5])∧LvN w.heap.size w' a∧Below w.heap.size w w':=by
 have hb:Below w.heap.size w (lvW w):=by go_grown
 have hr0:Row (w.heap.size) 185 (lvA w) (lvW w):=by
  have h1:=Zc w 185 (lvA w)
  have h2:Below (w.alloc (.cells (lvA w) 185)).heap.size (w.alloc (.cells (lvA w) 185)) (lvW w):=by go_grown
  have h3:=h1.later h2
  simpa using h3
 have hr1:Row (w.heap.size + 1) 9 #[.string Zcf] (lvW w):=by
  have h1:=Zc (w.alloc (.cells (lvA w) 185)) 9 #[.string Zcf]
  have h2:Below ((w.alloc (.cells (lvA w) 185)).alloc (.cells #[.string Zcf] 9)).heap.size ((w.alloc (.cells (lvA w) 185)).alloc (.cells #[.string Zcf] 9)) (lvW w):=by go_grown
  have h3:=h1.later h2
  simpa using h3
 have hr2:Row (w.heap.size + 1 + 1) 5 #[.int .u8 11] (lvW w):=by
  have h1:=Zc ((w.alloc (.cells (lvA w) 185)).alloc (.cells #[.string Zcf] 9)) 5 #[.int .u8 11]
  have h2:Below (((w.alloc (.cells (lvA w) 185)).alloc (.cells #[.string Zcf] 9)).alloc (.cells #[.int .u8 11] 5)).heap.size (((w.alloc (.cells (lvA w) 185)).alloc (.cells #[.string Zcf] 9)).alloc (.cells #[.int .u8 11] 5)) (lvW w):=by go_grown
  have h3:=h1.later h2
  simpa using h3
 have hr3:Row (w.heap.size + 1 + 1 + 1) 9 #[.string Zdf,.string Zad] (lvW w):=by
  have h1:=Zc (((w.alloc (.cells (lvA w) 185)).alloc (.cells #[.string Zcf] 9)).alloc (.cells #[.int .u8 11] 5)) 9 #[.string Zdf,.string Zad]
  have h2:Below ((((w.alloc (.cells (lvA w) 185)).alloc (.cells #[.string Zcf] 9)).alloc (.cells #[.int .u8 11] 5)).alloc (.cells #[.string Zdf,.string Zad] 9)).heap.size ((((w.alloc (.cells (lvA w) 185)).alloc (.cells #[.string Zcf] 9)).alloc (.cells #[.int .u8 11] 5)).alloc (.cells #[.string Zdf,.string Zad] 9)) (lvW w):=by go_grown
  have h3:=h1.later h2
  simpa using h3
 have hr4:Row (w.heap.size + 1 + 1 + 1 + 1) 5 #[.int .u8 6,.int .u8 7] (lvW w):=by
  have h1:=Zc ((((w.alloc (.cells (lvA w) 185)).alloc (.cells #[.string Zcf] 9)).alloc (.cells #[.int .u8 11] 5)).alloc (.cells #[.string Zdf,.string Zad] 9)) 5 #[.int .u8 6,.int .u8 7]
  have h2:Below (((((w.alloc (.cells (lvA w) 185)).alloc (.cells #[.string Zcf] 9)).alloc (.cells #[.int .u8 11] 5)).alloc (.cells #[.string Zdf,.string Zad] 9)).alloc (.cells #[.int .u8 6,.int .u8 7] 5)).heap.size (((((w.alloc (.cells (lvA w) 185)).alloc (.cells #[.string Zcf] 9)).alloc (.cells #[.int .u8 11] 5)).alloc (.cells #[.string Zdf,.string Zad] 9)).alloc (.cells #[.int .u8 6,.int .u8 7] 5)) (lvW w):=by go_grown
  have h3:=h1.later h2
  simpa using h3
 have hr5:Row (w.heap.size + 1 + 1 + 1 + 1 + 1) 9 #[.string Zao,.string Zih,.string Zig] (lvW w):=by
  have h1:=Zc (((((w.alloc (.cells (lvA w) 185)).alloc (.cells #[.string Zcf] 9)).alloc (.cells #[.int .u8 11] 5)).alloc (.cells #[.string Zdf,.string Zad] 9)).alloc (.cells #[.int .u8 6,.int .u8 7] 5)) 9 #[.string Zao,.string Zih,.string Zig]
  have h2:Below ((((((w.alloc (.cells (lvA w) 185)).alloc (.cells #[.string Zcf] 9)).alloc (.cells #[.int .u8 11] 5)).alloc (.cells #[.string Zdf,.string Zad] 9)).alloc (.cells #[.int .u8 6,.int .u8 7] 5)).alloc (.cells #[.string Zao,.string Zih,.string Zig] 9)).heap.size ((((((w.alloc (.cells (lvA w) 185)).alloc (.cells #[.string Zcf] 9)).alloc (.cells #[.int .u8 11] 5)).alloc (.cells #[.string Zdf,.string Zad] 9)).alloc (.cells #[.int .u8 6,.int .u8 7] 5)).alloc (.cells #[.string Zao,.string Zih,.string Zig] 9)) (lvW w):=by go_grown
  have h3:=h1.later h2
  simpa using h3
 have hr6:Row (w.heap.size + 1 + 1 + 1 + 1 + 1 + 1) 5 #[.int .u8 8,.int .u8 9,.int .u8 10] (lvW w):=by
  have h1:=Zc ((((((w.alloc (.cells (lvA w) 185)).alloc (.cells #[.string Zcf] 9)).alloc (.cells #[.int .u8 11] 5)).alloc (.cells #[.string Zdf,.string Zad] 9)).alloc (.cells #[.int .u8 6,.int .u8 7] 5)).alloc (.cells #[.string Zao,.string Zih,.string Zig] 9)) 5 #[.int .u8 8,.int .u8 9,.int .u8 10]
  have h3:=h1
  simpa using h3
 have HR0:=Lh hr0
 have HB:=Lh hb
 have HL:Hid (LvN w.heap.size (lvW w) fun i=>(((lvA w):Array Value)[i]?).getD undef):=Lh (by
  intro k hk
  rcases (by omega:k=0 ∨ k=1 ∨ k=2) with rfl | rfl | rfl
  ·exact Dep.imp2 (ssN (ws:=[Zcf]) hr1 kW) (u8N (l:=[11]) hr2 kW) fun u h1 h2=>⟨h1,h2⟩
  ·exact Dep.imp2 (ssN (ws:=[Zdf,Zad]) hr3 kW) (u8N (l:=[6,7]) hr4 kW) fun u h1 h2=>⟨h1,h2⟩
  ·exact Dep.imp2 (ssN (ws:=[Zao,Zih,Zig]) hr5 kW) (u8N (l:=[8,9,10]) hr6 kW) fun u h1 h2=>⟨h1,h2⟩)
 clear hr0 hr1 hr2 hr3 hr4 hr5 hr6 hb
 go_enter Tryz.func144,Tryz.ntmps144
 go_wp2_with fail
 exact bodyPost_ret (v:=.agg (lvA w)) (res_arr Tryz.results144 lv_array lv_size _ _ w.heap.size _ _ rfl HR0.out rfl) rfl ⟨_,rfl,HL.out,HB.out⟩
theorem Zu6 (a b c d e f:Value) (W:World):(Instr.index 185 (.agg #[a,b,c,d,e,f]) (iZ)).run Tryz.prog W = .ok (.agg #[a,b]) W:=kR
theorem Zu5 (a b c d e f:Value) (W:World):(Instr.index 185 (.agg #[a,b,c,d,e,f]) (.int .i64 1)).run Tryz.prog W = .ok (.agg #[c,d]) W:=kR
theorem Zu4 (a b c d e f:Value) (W:World):(Instr.index 185 (.agg #[a,b,c,d,e,f]) (.int .i64 2)).run Tryz.prog W = .ok (.agg #[e,f]) W:=kR
theorem lv_index (a:Nat→Value) (k:Nat) (hk:k < 3) (W:World):(Instr.index 185 (.agg #[a 0,a 1,a 2,a 3,a 4,a 5]) (.int .i64 (k:Int))).run Tryz.prog W = .ok (.agg #[a (2 * k),a (2 * k + 1)]) W:=by
 rcases (by omega:k=0 ∨ k=1 ∨ k=2) with rfl | rfl | rfl
 ·exact Zu6 _ _ _ _ _ _ W
 ·exact Zu5 _ _ _ _ _ _ W
 exact Zu4 _ _ _ _ _ _ W
def SumKn1 (k:Nat) (j:Nat) (v:Value) (_:World):Prop:=match j with
 | 0=>v = .int .i64 (k:Int)
 | 1=>True
 | 2=>v = .int .i64 3
 | _=>v = .bool (decide (k=3))
def Zo0 (r q q3 k n:Nat) (x:PE) (j:Nat) (v:Value) (W:World):Prop:=match j with
 | 0=>v = pV r
 | 1=>∃ a:Nat→Value,v = .agg #[a 0,a 1,a 2,a 3,a 4,a 5]∧LvN n W a
 | 2=>v = .int .i64 (k:Int)
 | 3=>∃ sv ov,v = .agg #[sv,ov]∧New n W fun u=>Zs6 u sv ((opsOf k).map (·.1))∧Zoy u ov ((opsOf k).map (·.2))
 | 4=>v = .func (.func 146) #[] #[pV q,pV q3]
 | _=>∃ d,v = .agg d∧ExN n W d x
theorem Zo0.later {r q q3 k n:Nat} {x:PE} (hr:r < n) (w0:World) (j:Nat) (v:Value) (w1 w2:World) (h:Zo0 r q q3 k n x j v w1) (_:w0.grownBy w1 (some r)) (g:w1.grownBy w2 (some r)):Zo0 r q q3 k n x j v w2:=by
 match j,h with
 | 0,h=>exact h
 | 1,⟨a,e,h⟩=>exact ⟨a,e,fun k hk=>(h k hk).grown g hr⟩
 | 2,h=>exact h
 | 3,⟨sv,ov,e,h⟩=>exact ⟨sv,ov,e,h.grown g hr⟩
 | 4,h=>exact h
 | _ + 5,⟨d,e,h⟩=>exact ⟨d,e,h.grown g hr⟩
theorem ops_len (k:Nat):(opsOf k).length ≤ 1000:=by
 unfold opsOf
 split <;> simp
theorem sumW (k:Nat) (hk:k ≤ 3) (H:∀ s',s.k ≤ s'.k→k < 3→EX w0 r tv L en (.sum (k + 1)) s') (HU:k=3→EX w0 r tv L en .unary s):EX w0 r tv L en (.sum k) s:=by
 intro w h
 have hr:=h.lt
 rw [fu_sum h.hk h.hl hk]
 obtain ⟨Z,hZ⟩:∃ Z,Z=(if k=3 then exF L en FU .unary else chainL L en (opsOf k) (exF L en FU (.sum (k + 1))) FU) s:=⟨_,rfl⟩
 have HZ3:Hid (k=3→Z=exF L en FU .unary s):=Lh (fun e=>by rw [hZ,if_pos e])
 have HZN:Hid (k ≠ 3→Z=chainL L en (opsOf k) (exF L en FU (.sum (k + 1))) FU s):=Lh (fun e=>by rw [hZ,if_neg e])
 rw [← hZ]
 clear hZ
 have hb:Below w.heap.size w (((w.alloc (.cells #[pV r] 75)).alloc (.cells #[.int .i64 (k:Int)] 3)).alloc (.cells exZ 48)):=by go_grown
 have hr0:Row (w.heap.size) 75 #[pV r] (((w.alloc (.cells #[pV r] 75)).alloc (.cells #[.int .i64 (k:Int)] 3)).alloc (.cells exZ 48)):=by
  have h1:=Zc w 75 #[pV r]
  have h2:Below (w.alloc (.cells #[pV r] 75)).heap.size (w.alloc (.cells #[pV r] 75)) (((w.alloc (.cells #[pV r] 75)).alloc (.cells #[.int .i64 (k:Int)] 3)).alloc (.cells exZ 48)):=by go_grown
  have h3:=h1.later h2
  simpa using h3
 have hr1:Row (w.heap.size + 1) 3 #[.int .i64 (k:Int)] (((w.alloc (.cells #[pV r] 75)).alloc (.cells #[.int .i64 (k:Int)] 3)).alloc (.cells exZ 48)):=by
  have h1:=Zc (w.alloc (.cells #[pV r] 75)) 3 #[.int .i64 (k:Int)]
  have h2:Below ((w.alloc (.cells #[pV r] 75)).alloc (.cells #[.int .i64 (k:Int)] 3)).heap.size ((w.alloc (.cells #[pV r] 75)).alloc (.cells #[.int .i64 (k:Int)] 3)) (((w.alloc (.cells #[pV r] 75)).alloc (.cells #[.int .i64 (k:Int)] 3)).alloc (.cells exZ 48)):=by go_grown
  have h3:=h1.later h2
  simpa using h3
 have hr2:Row (w.heap.size + 1 + 1) 48 exZ (((w.alloc (.cells #[pV r] 75)).alloc (.cells #[.int .i64 (k:Int)] 3)).alloc (.cells exZ 48)):=by
  have h1:=Zc ((w.alloc (.cells #[pV r] 75)).alloc (.cells #[.int .i64 (k:Int)] 3)) 48 exZ
  have h3:=h1
  simpa using h3
 have HR0:=Lh hr0
 have HR1:=Lh hr1
 have HR2:=Lh hr2
 have HB:=Lh hb
 have HR:=Lh hr
 have HP:=Lh (h.later hb)
 have hc1:=hr1.cell (i:=0) (v:=.int .i64 (k:Int)) rfl
 have HSZ:Hid ((((w.alloc (.cells #[pV r] 75)).alloc (.cells #[.int .i64 (k:Int)] 3)).alloc (.cells exZ 48)).heap.size=w.heap.size + 3):=Lh kY
 have e3:((k:Int) == 3)=decide (k=3):=by rw [Bool.eq_iff_iff];simp;omega
 have HE3:=Lh e3
 have HH:=Lh H
 have HHU:=Lh HU
 have HK:=Lh hk
 clear hr0 hr1 hr2 hb hr h H HU e3 hk
 show Calls _ 129 #[pV r,.int .i64 (k:Int)] _ _
 go_enter Tryz.func129,Tryz.ntmps129
 go_upto_region 1 with fail
 generalize (((w.alloc (.cells #[pV r] 75)).alloc (.cells #[.int .i64 (k:Int)] 3)).alloc (.cells exZ 48))=w1 at *
 refine Zdn (SumKn1 k) 17 rfl kR kR (fun j v w1 w2 h _=>h) ?_ ?_
 ·intro i hi A W hother hbW hd
  match i,hi with
  | 0,hi=>
   have h0:=Zt (show A.eval (.tmp 3) = .pointer (some ⟨w.heap.size + 1,0,none⟩) from hother 3 kR)
   have hc:=(hbW.cell (Zd hc1)).trans hc1
   clear hother hd hi hc1
   exact Zh rfl (Zf rfl) (.int .i64 (k:Int)) kb0 rfl
  | 1,hi=>
   clear hother hd hi
   refine Zct rfl (Zf rfl) 144 #[] kb0 ((Zva W).mono ?_)
   rintro e w' ⟨a,rfl,_,hb⟩
   exact ⟨⟨_,rfl,trivial⟩,hb⟩
  | 2,hi=>
   clear hother hd hi
   exact Zh rfl (Zf rfl) (.int .i64 3) kb0 rfl
  | 3,hi=>
   have h0:=(hd _ rfl ⟨0,.data⟩ kY rfl).t (.int .i64 (k:Int)) 5
   have h1:=(hd _ rfl ⟨2,.data⟩ kY rfl).t (.int .i64 3) 7
   have e3:=HE3.out
   clear hother hd hi
   exact Zh rfl (Zf rfl) (.bool (decide (k=3))) kb0 rfl
  | i + 4,hi=>exact absurd hi kY
 intro us W hbW hk
 have e8:us 3 = .bool (decide (k=3)):=hk 3 kD
 replace HR0:=Lh (HR0.out.later hbW)
 replace HR1:=Lh (HR1.out.later hbW)
 replace HR2:=Lh (HR2.out.later hbW)
 replace HP:=Lh (HP.out.later hbW)
 replace HB:=Lh (next HB.out hbW)
 replace HSZ:Hid (w.heap.size + 3 ≤ W.heap.size):=Lh (by have:=HSZ.out;have:=hbW.size;omega)
 clear hk hbW hc1
 simp only [Z1,Z7,Act.put,List.getElem?_toArray,List.getElem?_cons_zero,List.getElem?_cons_succ,Option.bind_some,List.length_cons,List.length_nil]
 simp only [List.setIfInBounds_toArray,List.set_cons_zero,List.set_cons_succ]
 rw [e8]
 by_cases h3:k=3
 ·rw [decide_eq_true h3]
  replace HZ3:=Lh (HZ3.out h3)
  have HHU3:=Lh (HHU.out h3)
  clear h3
  have hc0:=HR0.out.cell (i:=0) (v:=pV r) rfl
  have HC:Hid (Calls Tryz.prog 145 #[pV r] W _):=Lh (HHU3.out W HP.out)
  go_wp2_with fail
  refine HC.out.mono ?_
  rintro e2 w2 ⟨v,rfl,hn,hp,hg2⟩
  obtain ⟨c,rfl,hx⟩:=ExN.of hn
  have HX:=Lh hx
  have HP:=Lh hp
  have HR3:=Lh (HR2.out.grown hg2 Zs5)
  have hrb:=HR3.out.b (n:=8) rfl
  have hok:=hx.ok
  have HG:=Lh (Za (below_grown HB.out) hg2)
  clear hn hx hp hg2 hc0
  go_wp2_with fail
  exact bodyPost_ret (v:=.agg c) (Zq Tryz.results129 Zz Zaq _ _ (w.heap.size + 1 + 1) _ c rfl (HR3.out.set c) HX.out.size) rfl ⟨_,rfl,by rw [HZ3.out];exact Zgg HX.out kb39 kb39 c,by rw [HZ3.out];exact HP.out.other (Zi _ _ c) Zs5,Zn HG.out kW c⟩
 rw [decide_eq_false h3]
 have HZ:=Lh (HZN.out h3)
 have hk3:k < 3:=by have:=HK.out;omega
 have HK3:=Lh hk3
 clear h3
 go_upto_region 3 with fail
 obtain ⟨⟨x,s2⟩,hx⟩:∃ z,chainL L en (opsOf k) (exF L en FU (.sum (k + 1))) FU s=z:=⟨_,rfl⟩
 have HZ2:Hid (Z=(x,s2)):=Lh (HZ.out.trans hx)
 have HX:=Lh hx
 clear hx
 have hrn:r < w.heap.size + 3:=by have:=HR.out;omega
 refine Zcr 6 r (Zo0 r w.heap.size (w.heap.size + 1) k (w.heap.size + 3) x) (fun dn W=>PB w0 r tv L en (if dn 5 then s2 else s) W) 17 rfl kR kR (Zo0.later hrn W) ?_ ?_ ?_ ?_
 ·intro dn dn' W hdd hst
  rw [← hdd 5 kD]
  exact hst
 ·exact HP.out.later (Below.drew (Below.refl _ _))
 ·intro j hj dn A W2 hother hgW hst hdj hd
  match j,hj with
  | 0,hj=>
   have h0:=Zt (show A.eval (.tmp 2) = .pointer (some ⟨w.heap.size,0,none⟩) from hother 2 kR)
   have hc:=(HR0.out.grown hgW (Nat.ne_of_gt HR.out)).cell (i:=0) (v:=pV r) rfl
   clear hother hd hj
   exact Zam rfl rfl (pV r) kb0 rfl hst
  | 1,hj=>
   clear hother hd hj
   refine Zew rfl rfl 144 #[] kb0 ((Zva W2).mono ?_)
   rintro e w' ⟨a,rfl,hl,hb⟩
   exact ⟨_,rfl,below_grown hb,⟨a,rfl,fun i hi=>(hl i hi).mono (Nat.le_trans HSZ.out hgW.size)⟩,hst.later hb⟩
  | 2,hj=>
   have h0:=Zt (show A.eval (.tmp 3) = .pointer (some ⟨w.heap.size + 1,0,none⟩) from hother 3 kR)
   have hc:=(HR1.out.grown hgW Zs5).cell (i:=0) (v:=.int .i64 (k:Int)) rfl
   clear hother hd hj
   exact Zam rfl rfl (.int .i64 (k:Int)) kb0 rfl hst
  | 3,hj=>
   obtain ⟨v1,⟨a,e1,hl⟩,h1⟩:=(hd _ rfl ⟨1,.data⟩ kY rfl).2.get 12 kR kD
   subst e1
   have h0:=Zt h1
   have h2:=(hd _ rfl ⟨2,.data⟩ kY rfl).2.t (.int .i64 (k:Int)) 13
   have hix:=lv_index a k HK3.out W2
   clear hother hd hj
   exact Zam rfl rfl (.agg #[a (2 * k),a (2 * k + 1)]) kb0 ⟨_,_,rfl,hl k HK3.out⟩ hst
  | 4,hj=>
   have h0:=Zt (show A.eval (.tmp 2) = .pointer (some ⟨w.heap.size,0,none⟩) from hother 2 kR)
   have h1:=Zt (show A.eval (.tmp 3) = .pointer (some ⟨w.heap.size + 1,0,none⟩) from hother 3 kR)
   clear hother hd hj
   exact Zam rfl rfl (.func (.func 146) #[] #[.pointer (some ⟨w.heap.size,0,none⟩),.pointer (some ⟨w.heap.size + 1,0,none⟩)]) kb0 rfl hst
  | 5,hj=>
   obtain ⟨v3,⟨sv,ov,e3,hs⟩,h3⟩:=(hd _ rfl ⟨3,.data⟩ kY rfl).2.get 14 kR kD
   subst e3
   have h0:=Zt h3
   have h1:=(hd _ rfl ⟨0,.data⟩ kY rfl).2.t (pV r) 11
   have h2:=(hd _ rfl ⟨4,.data⟩ kY rfl).2.t (.func (.func 146) #[] #[.pointer (some ⟨w.heap.size,0,none⟩),.pointer (some ⟨w.heap.size + 1,0,none⟩)]) 15
   have hst5:PB w0 r tv L en s W2:=by have h:=hst;simp only [hdj] at h;exact h
   have hcall:=chainSum (L:=L) (en:=en) w.heap.size (w.heap.size + 1) (opsOf k) (ops_len k) sv ov (Zp5 (.sum (k + 1))) W2 s.k
    (sum1W w.heap.size (w.heap.size + 1) k HK.out W2 s.k (fun w' g=>((HR0.out.grown hgW (Nat.ne_of_gt HR.out)).grown g (Nat.ne_of_gt HR.out)).cell rfl) (fun w' g=>((HR1.out.grown hgW Zs5).grown g Zs5).cell rfl) (fun s' hs'=>HH.out s' hs' HK3.out))
    (fun w' g=>(hs.stay g hrn).1) (fun w' g=>(hs.stay g hrn).2) s (Nat.le_refl _) hst5
   rw [HX.out] at hcall
   clear hother hd hj hs
   refine Zew rfl rfl 85 #[pV r,.agg #[sv,ov],.func (.func 146) #[] #[.pointer (some ⟨w.heap.size,0,none⟩),.pointer (some ⟨w.heap.size + 1,0,none⟩)]] kb0 (hcall.mono ?_)
   rintro e7 w7 ⟨v7,rfl,hn7,hp7,hg7⟩
   obtain ⟨d,rfl,hx7⟩:=ExN.of hn7
   exact ⟨_,rfl,hg7,⟨d,rfl,hx7.mono (Nat.le_trans HSZ.out hgW.size)⟩,hp7⟩
  | i + 6,hj=>omega
 intro us W2 hgW hst hk
 obtain ⟨d,e5,hx5⟩:=hk 5 kD
 have HR3:=Lh (HR2.out.grown hgW Zs5)
 have hrb:=HR3.out.b (n:=8) rfl
 have hok:=hx5.ok
 have HX5:=Lh hx5
 have HP5:Hid (PB w0 r tv L en s2 W2):=Lh hst
 have HG:=Lh (Za (below_grown HB.out) hgW)
 clear hk hst hgW hx5
 simp only [List.drop_succ_cons,List.drop_zero,Z1,Z7,Act.put,List.getElem?_toArray,List.getElem?_cons_zero,List.getElem?_cons_succ,Option.bind_some]
 simp only [List.setIfInBounds_toArray,List.set_cons_zero,List.set_cons_succ]
 rw [e5]
 go_wp2_with fail
 exact bodyPost_ret (v:=.agg d) (Zq Tryz.results129 Zz Zaq _ _ (w.heap.size + 1 + 1) _ d rfl (HR3.out.set d) HX5.out.size) rfl ⟨_,rfl,by rw [HZ2.out];exact Zgg HX5.out kW kW d,by rw [HZ2.out];exact HP5.out.other (Zi _ _ d) Zs5,Zn HG.out kW d⟩
end
end Go.Proofs.YtmdogmpcmkfjpaaGreatDoor.Dt
