import Derived.Test.YtmdogmpcmkfjpaaGreatDoorBq21
set_option maxRecDepth 100000
set_option maxHeartbeats 64000000
/- Part. -/
namespace Go.Proofs.YtmdogmpcmkfjpaaGreatDoor.Dt
open Go.RowKit Go.Proofs.YtmdogmpcmkfjpaaGreatDoor.By
attribute [local go_sem ↓] Zhe Ze5 Zhg Zhi
attribute [local go_sem] Zmf Zhw Zej Zcd Zj5 Value.oneCell' Zi7 Zhy Zi8
section
variable {w0:World} {r:Nat} {tv:Value} {L:List Tk} {en:Int} {s:PS}
structure SP (w0:World) (r:Nat) (tv:Value) (L:List Tk) (en:Int) (w:World) (s:PS) (W:World):Prop where
 pb:PB w0 r tv L en s W
 gr:w.grownBy W (some r)
 bx:Row w.heap.size 75 #[pV r] W
 rs:Row (w.heap.size + 1) 31 stZ W
 hr:r < w.heap.size
section
variable {w W W':World} {s':PS}
theorem SP.grown (h:SP w0 r tv L en w s W) (k:W.grownBy W' (some r)) (hp:PB w0 r tv L en s' W'):SP w0 r tv L en w s' W':=by
 have h1:=h.hr
 exact ⟨hp,Za h.gr k,h.bx.grown k kW,h.rs.grown k kW,h1⟩
theorem SP.cell (h:SP w0 r tv L en w s W):W.cell? ⟨w.heap.size,0,none⟩=some (pV r):=h.bx.cell rfl
theorem SP.rb (h:SP w0 r tv L en w s W):Zj1 16 W (w.heap.size + 1)=true:=h.rs.b rfl
theorem SP.fin {S:Nat→Prop} {cs:Array Value} {x:PSt} (h:SP w0 r tv L en w s W) (hx:Dep S W fun u=>StR u cs.toList x) (hS:∀ b,S b→w.heap.size ≤ b∧b ≠ w.heap.size + 1) :
 New w.heap.size (W.setRow (w.heap.size + 1) cs) (fun u=>AgV StR u (.agg cs) x)∧PB w0 r tv L en s (W.setRow (w.heap.size + 1) cs)∧w.grownBy (W.setRow (w.heap.size + 1) cs) (some r):=
 ⟨Zlv hx (fun h=>(hS _ h).2 rfl) (fun b h=>(hS b h).1),h.pb.other (Zi _ _ _) (by have:=h.hr;omega),Zn h.gr kW _⟩
theorem SP.st (h:SP w0 r tv L en w s W) (k:Nat) (t m:ByteArray) (b:Bool) (li:Int):ST w0 r tv L en true w (w.heap.size + 1) W.heap.size s #[.int .u8 (k:Int),.string t,.string m,.bool b,nS,nS,nS,nS,nS,nS,nS,nS,nS,nS,nS,.int .i64 li]
 { kind:=k,table:=t,name:=m,uniq:=b,limit:=li } (W.alloc (.cells #[.int .u8 (k:Int),.string t,.string m,.bool b,nS,nS,nS,nS,nS,nS,nS,nS,nS,nS,nS,.int .i64 li] 31)):=by
 have hb:=(Below.refl _ W).alloc (Nat.le_refl _) (.cells #[.int .u8 (k:Int),.string t,.string m,.bool b,nS,nS,nS,nS,nS,nS,nS,nS,nS,nS,nS,.int .i64 li] 31)
 have hl:=h.rs.lt
 exact ⟨h.pb.later hb,Za h.gr (below_grown hb),fun _=>h.bx.later hb,h.rs.later hb,sg_new W k t m b li kW,h.hr,by omega,hl,fun _=>by omega⟩
theorem ST.q {q g:Nat} {cs:Array Value} {x:PSt} (h:ST w0 r tv L en true w q g s' cs x W):∀ w',W.grownBy w' (some r)→w'.cell? ⟨w.heap.size,0,none⟩=some (pV r):=fun _ k=>((h.bx rfl).grown k (Nat.ne_of_gt h.hr)).cell rfl
end
theorem Zgz:restM L en s=(bnd (isM L en Zgj) fun b=>if b then ret { kind:=9 }
 else bnd (isM L en Zd6) fun b=>if b then ret { kind:=10 }
 else bnd (isM L en Zay) fun b=>if b then rollM L en
 else bnd (isM L en Za9) fun b=>if b then saveM L en 12
 else bnd (isM L en Zcv) fun b=>if b then saveM L en 14
 else bnd (failM L en 6) fun _=>ret {}) s:=rfl
theorem stmtW_of (hall:Zbs L) (hch:∀ (w:World) (s:PS),PB w0 r tv L en s w→Calls Tryz.prog 84 #[pV r] w fun e w'=>
      ∃ v,e = .returned v∧New w.heap.size w' (fun u=>AgV StR u v (chooseM L en s).1)∧PB w0 r tv L en (chooseM L en s).2 w'∧w.grownBy w' (some r))
 (w:World) (h:PB w0 r tv L en s w):Calls Tryz.prog 29 #[pV r] w fun e w'=>
 ∃ v,e = .returned v∧New w.heap.size w' (fun u=>AgV StR u v (stmtM L en s).1)∧PB w0 r tv L en (stmtM L en s).2 w'∧w.grownBy w' (some r):=by
 obtain ⟨Z,hZ⟩:∃ Z,Z=stmtM L en s:=⟨_,rfl⟩
 rw [← hZ]
 unfold stmtM at hZ
 have HZ:=Lh hZ
 have HA:=Lh hall
 have HCH:=Lh hch
 have hb:Below w.heap.size w ((w.alloc (.cells #[pV r] 75)).alloc (.cells stZ 31)):=by go_grown
 have HP0:Hid (SP w0 r tv L en w s ((w.alloc (.cells #[pV r] 75)).alloc (.cells stZ 31))):=Lh ⟨h.later hb,below_grown hb,(Zc _ _ _).later (bA),by
  have:=Zc (w.alloc (.cells #[pV r] 75)) 31 stZ
  simpa using this,h.lt⟩
 clear h hb hZ hall hch
 go_enter Tryz.func29,Tryz.ntmps29
 go_upto_region 1 with fail
 generalize (w.alloc (.cells #[pV r] 75)).alloc (.cells stZ 31)=w0x at *
 have HI1:=Lh (isW Zau w0x HP0.out.pb)
 obtain ⟨B1,hB1⟩:∃ B,isB L en Zau (s)=B:=⟨_,rfl⟩
 rw [Z2,hB1] at HI1
 have HB1:=Lh hB1
 have hq:=HP0.out.cell
 clear hB1
 cases B1
 ·go_wp2_with fail
  refine HI1.out.mono ?_
  rintro e1 w1 ⟨rfl,hp1,hg1⟩
  have HP1:Hid (SP w0 r tv L en w (s) w1):=Lh (HP0.out.grown hg1 hp1)
  clear hp1 hg1 HI1 hq
  have HI2:=Lh (isW Zf5 w1 HP1.out.pb)
  obtain ⟨B2,hB2⟩:∃ B,isB L en Zf5 (s)=B:=⟨_,rfl⟩
  rw [Z2,hB2] at HI2
  have HB2:=Lh hB2
  have hq:=HP1.out.cell
  clear hB2
  cases B2
  ·go_wp2_with fail
   refine HI2.out.mono ?_
   rintro e2 w2 ⟨rfl,hp2,hg2⟩
   have HP2:Hid (SP w0 r tv L en w (s) w2):=Lh (HP1.out.grown hg2 hp2)
   clear hp2 hg2 HI2 hq
   have HI3:=Lh (isW Zcq w2 HP2.out.pb)
   obtain ⟨B3,hB3⟩:∃ B,isB L en Zcq (s)=B:=⟨_,rfl⟩
   rw [Z2,hB3] at HI3
   have HB3:=Lh hB3
   have hq:=HP2.out.cell
   clear hB3
   cases B3
   ·go_wp2_with fail
    refine HI3.out.mono ?_
    rintro e3 w3 ⟨rfl,hp3,hg3⟩
    have HP3:Hid (SP w0 r tv L en w (s) w3):=Lh (HP2.out.grown hg3 hp3)
    clear hp3 hg3 HI3 hq
    have HI4:=Lh (isW Zdd w3 HP3.out.pb)
    obtain ⟨B4,hB4⟩:∃ B,isB L en Zdd (s)=B:=⟨_,rfl⟩
    rw [Z2,hB4] at HI4
    have HB4:=Lh hB4
    have hq:=HP3.out.cell
    clear hB4
    cases B4
    ·go_wp2_with fail
     refine HI4.out.mono ?_
     rintro e4 w4 ⟨rfl,hp4,hg4⟩
     have HP4:Hid (SP w0 r tv L en w (s) w4):=Lh (HP3.out.grown hg4 hp4)
     clear hp4 hg4 HI4 hq
     have HI5:=Lh (isW Zdw w4 HP4.out.pb)
     obtain ⟨B5,hB5⟩:∃ B,isB L en Zdw (s)=B:=⟨_,rfl⟩
     rw [Z2,hB5] at HI5
     have HB5:=Lh hB5
     have hq:=HP4.out.cell
     clear hB5
     cases B5
     ·go_wp2_with fail
      refine HI5.out.mono ?_
      rintro e5 w5 ⟨rfl,hp5,hg5⟩
      have HP5:Hid (SP w0 r tv L en w (s) w5):=Lh (HP4.out.grown hg5 hp5)
      clear hp5 hg5 HI5 hq
      have HI6:=Lh (isW Zb9 w5 HP5.out.pb)
      obtain ⟨B6,hB6⟩:∃ B,isB L en Zb9 (s)=B:=⟨_,rfl⟩
      rw [Z2,hB6] at HI6
      have HB6:=Lh hB6
      have hq:=HP5.out.cell
      clear hB6
      cases B6
      ·go_wp2_with fail
       refine HI6.out.mono ?_
       rintro e6 w6 ⟨rfl,hp6,hg6⟩
       have HP6:Hid (SP w0 r tv L en w (s) w6):=Lh (HP5.out.grown hg6 hp6)
       clear hp6 hg6 HI6 hq
       have HI7:=Lh (isW Zgj w6 HP6.out.pb)
       obtain ⟨B7,hB7⟩:∃ B,isB L en Zgj (s)=B:=⟨_,rfl⟩
       rw [Z2,hB7] at HI7
       have HB7:=Lh hB7
       have hq:=HP6.out.cell
       clear hB7
       cases B7
       ·go_wp2_with fail
        refine HI7.out.mono ?_
        rintro e7 w7 ⟨rfl,hp7,hg7⟩
        have HP7:Hid (SP w0 r tv L en w (s) w7):=Lh (HP6.out.grown hg7 hp7)
        clear hp7 hg7 HI7 hq
        have HI8:=Lh (isW Zd6 w7 HP7.out.pb)
        obtain ⟨B8,hB8⟩:∃ B,isB L en Zd6 (s)=B:=⟨_,rfl⟩
        rw [Z2,hB8] at HI8
        have HB8:=Lh hB8
        have hq:=HP7.out.cell
        clear hB8
        cases B8
        ·go_wp2_with fail
         refine HI8.out.mono ?_
         rintro e8 w8 ⟨rfl,hp8,hg8⟩
         have HP8:Hid (SP w0 r tv L en w (s) w8):=Lh (HP7.out.grown hg8 hp8)
         clear hp8 hg8 HI8 hq
         have HI9:=Lh (isW Zay w8 HP8.out.pb)
         obtain ⟨B9,hB9⟩:∃ B,isB L en Zay (s)=B:=⟨_,rfl⟩
         rw [Z2,hB9] at HI9
         have HB9:=Lh hB9
         have hq:=HP8.out.cell
         clear hB9
         cases B9
         ·go_wp2_with fail
          refine HI9.out.mono ?_
          rintro e9 w9 ⟨rfl,hp9,hg9⟩
          have HP9:Hid (SP w0 r tv L en w (s) w9):=Lh (HP8.out.grown hg9 hp9)
          clear hp9 hg9 HI9 hq
          have HI10:=Lh (isW Za9 w9 HP9.out.pb)
          obtain ⟨B10,hB10⟩:∃ B,isB L en Za9 (s)=B:=⟨_,rfl⟩
          rw [Z2,hB10] at HI10
          have HB10:=Lh hB10
          have hq:=HP9.out.cell
          clear hB10
          cases B10
          ·go_wp2_with fail
           refine HI10.out.mono ?_
           rintro e10 w10 ⟨rfl,hp10,hg10⟩
           have HP10:Hid (SP w0 r tv L en w (s) w10):=Lh (HP9.out.grown hg10 hp10)
           clear hp10 hg10 HI10 hq
           have HI11:=Lh (isW Zcv w10 HP10.out.pb)
           obtain ⟨B11,hB11⟩:∃ B,isB L en Zcv (s)=B:=⟨_,rfl⟩
           rw [Z2,hB11] at HI11
           have HB11:=Lh hB11
           have hq:=HP10.out.cell
           clear hB11
           cases B11
           ·go_wp2_with fail
            refine HI11.out.mono ?_
            rintro e11 w11 ⟨rfl,hp11,hg11⟩
            have HP11:Hid (SP w0 r tv L en w (s) w11):=Lh (HP10.out.grown hg11 hp11)
            clear hp11 hg11 HI11 hq
            have HF:=Lh (Zol w11 6 HP11.out.pb)
            have hq:=HP11.out.cell
            go_wp2_with fail
            refine HF.out.mono ?_
            rintro e12 w12 ⟨rfl,hp12,hg12⟩
            have HP12:=Lh (HP11.out.grown hg12 hp12)
            clear hp12 hg12 hq HF
            have HZZ:Hid (Z=({ kind:=0,table:=⟨#[]⟩,name:=⟨#[]⟩ },_)):=Lh (by rw [HZ.out,isN HB1.out,if_neg bF,isN HB2.out,if_neg bF,isN HB3.out,if_neg bF,isN HB4.out,if_neg bF,isN HB5.out,if_neg bF,isN HB6.out,if_neg bF,Zgz,isN HB7.out,if_neg bF,isN HB8.out,if_neg bF,isN HB9.out,if_neg bF,isN HB10.out,if_neg bF,isN HB11.out,if_neg bF];rfl)
            have hrb:=HP12.out.rb
            have hok:Zav 16 #[.int .u8 0,eS,eS,.bool false,nS,nS,nS,nS,nS,nS,nS,nS,nS,nS,nS,iZ]=true:=by rw [Zcd];rfl
            go_wp2_with fail
            exact bodyPost_ret (v:=.agg #[.int .u8 0,eS,eS,.bool false,nS,nS,nS,nS,nS,nS,nS,nS,nS,nS,nS,iZ]) (Zq Tryz.results29 Zar Zbh _ _ (w.heap.size + 1) _ _ rfl (HP12.out.rs.set _) rfl) rfl ⟨_,rfl,by rw [HZZ.out];exact HP12.out.fin (S:=fun _=>False) (Zhq 0 ⟨#[]⟩ ⟨#[]⟩ false 0) (fun b h=>h.elim)⟩
           go_wp2_with fail
           refine HI11.out.mono ?_
           rintro e11 w11 ⟨rfl,hp11,hg11⟩
           have HP11:Hid (SP w0 r tv L en w ((s).next) w11):=Lh (HP10.out.grown hg11 hp11)
           clear hp11 hg11 HI11 hq
           obtain ⟨⟨m21,s21⟩,h21⟩:∃ z,nameM L en (s.next)=z:=⟨_,rfl⟩
           have hc21:=Zdp w11 HP11.out.pb
           rw [h21] at hc21
           have HC21:=Lh hc21
           have HE21:=Lh h21
           have hq:=HP11.out.cell
           clear h21 hc21
           go_wp2_with fail
           refine HC21.out.mono ?_
           rintro e21 w21 ⟨rfl,hp21,hg21⟩
           have HP21:Hid (SP w0 r tv L en w s21 w21):=Lh (HP11.out.grown hg21 hp21)
           clear hp21 hg21 HC21 hq
           have HZZ:Hid (Z=({ kind:=14,table:=⟨#[]⟩,name:=m21 },_)):=Lh (by rw [HZ.out,isN HB1.out,if_neg bF,isN HB2.out,if_neg bF,isN HB3.out,if_neg bF,isN HB4.out,if_neg bF,isN HB5.out,if_neg bF,isN HB6.out,if_neg bF,Zgz,isN HB7.out,if_neg bF,isN HB8.out,if_neg bF,isN HB9.out,if_neg bF,isN HB10.out,if_neg bF,isY HB11.out,if_pos rfl];unfold saveM;rw [Za1 HE21.out];rfl)
           have hrb:=HP21.out.rb
           have hok:Zav 16 #[.int .u8 14,eS,.string m21,.bool false,nS,nS,nS,nS,nS,nS,nS,nS,nS,nS,nS,iZ]=true:=by rw [Zcd];rfl
           go_wp2_with fail
           exact bodyPost_ret (v:=.agg #[.int .u8 14,eS,.string m21,.bool false,nS,nS,nS,nS,nS,nS,nS,nS,nS,nS,nS,iZ]) (Zq Tryz.results29 Zar Zbh _ _ (w.heap.size + 1) _ _ rfl (HP21.out.rs.set _) rfl) rfl ⟨_,rfl,by rw [HZZ.out];exact HP21.out.fin (S:=fun _=>False) (Zhq 14 ⟨#[]⟩ m21 false 0) (fun b h=>h.elim)⟩
          go_wp2_with fail
          refine HI10.out.mono ?_
          rintro e10 w10 ⟨rfl,hp10,hg10⟩
          have HP10:Hid (SP w0 r tv L en w ((s).next) w10):=Lh (HP9.out.grown hg10 hp10)
          clear hp10 hg10 HI10 hq
          obtain ⟨⟨m21,s21⟩,h21⟩:∃ z,nameM L en (s.next)=z:=⟨_,rfl⟩
          have hc21:=Zdp w10 HP10.out.pb
          rw [h21] at hc21
          have HC21:=Lh hc21
          have HE21:=Lh h21
          have hq:=HP10.out.cell
          clear h21 hc21
          go_wp2_with fail
          refine HC21.out.mono ?_
          rintro e21 w21 ⟨rfl,hp21,hg21⟩
          have HP21:Hid (SP w0 r tv L en w s21 w21):=Lh (HP10.out.grown hg21 hp21)
          clear hp21 hg21 HC21 hq
          have HZZ:Hid (Z=({ kind:=12,table:=⟨#[]⟩,name:=m21 },_)):=Lh (by rw [HZ.out,isN HB1.out,if_neg bF,isN HB2.out,if_neg bF,isN HB3.out,if_neg bF,isN HB4.out,if_neg bF,isN HB5.out,if_neg bF,isN HB6.out,if_neg bF,Zgz,isN HB7.out,if_neg bF,isN HB8.out,if_neg bF,isN HB9.out,if_neg bF,isY HB10.out,if_pos rfl];unfold saveM;rw [Za1 HE21.out];rfl)
          have hrb:=HP21.out.rb
          have hok:Zav 16 #[.int .u8 12,eS,.string m21,.bool false,nS,nS,nS,nS,nS,nS,nS,nS,nS,nS,nS,iZ]=true:=by rw [Zcd];rfl
          go_wp2_with fail
          exact bodyPost_ret (v:=.agg #[.int .u8 12,eS,.string m21,.bool false,nS,nS,nS,nS,nS,nS,nS,nS,nS,nS,nS,iZ]) (Zq Tryz.results29 Zar Zbh _ _ (w.heap.size + 1) _ _ rfl (HP21.out.rs.set _) rfl) rfl ⟨_,rfl,by rw [HZZ.out];exact HP21.out.fin (S:=fun _=>False) (Zhq 12 ⟨#[]⟩ m21 false 0) (fun b h=>h.elim)⟩
         go_wp2_with fail
         refine HI9.out.mono ?_
         rintro e9 w9 ⟨rfl,hp9,hg9⟩
         have HP9:Hid (SP w0 r tv L en w ((s).next) w9):=Lh (HP8.out.grown hg9 hp9)
         clear hp9 hg9 HI9 hq
         have HI20:=Lh (isW WTO w9 HP9.out.pb)
         obtain ⟨B20,hB20⟩:∃ B,isB L en WTO (s.next)=B:=⟨_,rfl⟩
         rw [Z2,hB20] at HI20
         have HB20:=Lh hB20
         have hq:=HP9.out.cell
         clear hB20
         cases B20
         ·go_wp2_with fail
          refine HI20.out.mono ?_
          rintro e20 w20 ⟨rfl,hp20,hg20⟩
          have HP20:Hid (SP w0 r tv L en w (s.next) w20):=Lh (HP9.out.grown hg20 hp20)
          clear hp20 hg20 HI20 hq
          have HZZ:Hid (Z=({ kind:=11,table:=⟨#[]⟩,name:=⟨#[]⟩ },_)):=Lh (by rw [HZ.out,isN HB1.out,if_neg bF,isN HB2.out,if_neg bF,isN HB3.out,if_neg bF,isN HB4.out,if_neg bF,isN HB5.out,if_neg bF,isN HB6.out,if_neg bF,Zgz,isN HB7.out,if_neg bF,isN HB8.out,if_neg bF,isY HB9.out,if_pos rfl];unfold rollM;rw [isN HB20.out,if_neg bF];rfl)
          have hrb:=HP20.out.rb
          have hok:Zav 16 #[.int .u8 11,eS,eS,.bool false,nS,nS,nS,nS,nS,nS,nS,nS,nS,nS,nS,iZ]=true:=by rw [Zcd];rfl
          go_wp2_with fail
          exact bodyPost_ret (v:=.agg #[.int .u8 11,eS,eS,.bool false,nS,nS,nS,nS,nS,nS,nS,nS,nS,nS,nS,iZ]) (Zq Tryz.results29 Zar Zbh _ _ (w.heap.size + 1) _ _ rfl (HP20.out.rs.set _) rfl) rfl ⟨_,rfl,by rw [HZZ.out];exact HP20.out.fin (S:=fun _=>False) (Zhq 11 ⟨#[]⟩ ⟨#[]⟩ false 0) (fun b h=>h.elim)⟩
         go_wp2_with fail
         refine HI20.out.mono ?_
         rintro e20 w20 ⟨rfl,hp20,hg20⟩
         have HP20:Hid (SP w0 r tv L en w ((s.next).next) w20):=Lh (HP9.out.grown hg20 hp20)
         clear hp20 hg20 HI20 hq
         obtain ⟨⟨m21,s21⟩,h21⟩:∃ z,nameM L en (s.next.next)=z:=⟨_,rfl⟩
         have hc21:=Zdp w20 HP20.out.pb
         rw [h21] at hc21
         have HC21:=Lh hc21
         have HE21:=Lh h21
         have hq:=HP20.out.cell
         clear h21 hc21
         go_wp2_with fail
         refine HC21.out.mono ?_
         rintro e21 w21 ⟨rfl,hp21,hg21⟩
         have HP21:Hid (SP w0 r tv L en w s21 w21):=Lh (HP20.out.grown hg21 hp21)
         clear hp21 hg21 HC21 hq
         have HZZ:Hid (Z=({ kind:=13,table:=⟨#[]⟩,name:=m21 },_)):=Lh (by rw [HZ.out,isN HB1.out,if_neg bF,isN HB2.out,if_neg bF,isN HB3.out,if_neg bF,isN HB4.out,if_neg bF,isN HB5.out,if_neg bF,isN HB6.out,if_neg bF,Zgz,isN HB7.out,if_neg bF,isN HB8.out,if_neg bF,isY HB9.out,if_pos rfl];unfold rollM;rw [isY HB20.out,if_pos rfl,Za1 HE21.out];rfl)
         have hrb:=HP21.out.rb
         have hok:Zav 16 #[.int .u8 13,eS,.string m21,.bool false,nS,nS,nS,nS,nS,nS,nS,nS,nS,nS,nS,iZ]=true:=by rw [Zcd];rfl
         go_wp2_with fail
         exact bodyPost_ret (v:=.agg #[.int .u8 13,eS,.string m21,.bool false,nS,nS,nS,nS,nS,nS,nS,nS,nS,nS,nS,iZ]) (Zq Tryz.results29 Zar Zbh _ _ (w.heap.size + 1) _ _ rfl (HP21.out.rs.set _) rfl) rfl ⟨_,rfl,by rw [HZZ.out];exact HP21.out.fin (S:=fun _=>False) (Zhq 13 ⟨#[]⟩ m21 false 0) (fun b h=>h.elim)⟩
        go_wp2_with fail
        refine HI8.out.mono ?_
        rintro e8 w8 ⟨rfl,hp8,hg8⟩
        have HP8:Hid (SP w0 r tv L en w ((s).next) w8):=Lh (HP7.out.grown hg8 hp8)
        clear hp8 hg8 HI8 hq
        have HZZ:Hid (Z=({ kind:=10,table:=⟨#[]⟩,name:=⟨#[]⟩ },_)):=Lh (by rw [HZ.out,isN HB1.out,if_neg bF,isN HB2.out,if_neg bF,isN HB3.out,if_neg bF,isN HB4.out,if_neg bF,isN HB5.out,if_neg bF,isN HB6.out,if_neg bF,Zgz,isN HB7.out,if_neg bF,isY HB8.out,if_pos rfl];rfl)
        have hrb:=HP8.out.rb
        have hok:Zav 16 #[.int .u8 10,eS,eS,.bool false,nS,nS,nS,nS,nS,nS,nS,nS,nS,nS,nS,iZ]=true:=by rw [Zcd];rfl
        go_wp2_with fail
        exact bodyPost_ret (v:=.agg #[.int .u8 10,eS,eS,.bool false,nS,nS,nS,nS,nS,nS,nS,nS,nS,nS,nS,iZ]) (Zq Tryz.results29 Zar Zbh _ _ (w.heap.size + 1) _ _ rfl (HP8.out.rs.set _) rfl) rfl ⟨_,rfl,by rw [HZZ.out];exact HP8.out.fin (S:=fun _=>False) (Zhq 10 ⟨#[]⟩ ⟨#[]⟩ false 0) (fun b h=>h.elim)⟩
       go_wp2_with fail
       refine HI7.out.mono ?_
       rintro e7 w7 ⟨rfl,hp7,hg7⟩
       have HP7:Hid (SP w0 r tv L en w ((s).next) w7):=Lh (HP6.out.grown hg7 hp7)
       clear hp7 hg7 HI7 hq
       have HZZ:Hid (Z=({ kind:=9,table:=⟨#[]⟩,name:=⟨#[]⟩ },_)):=Lh (by rw [HZ.out,isN HB1.out,if_neg bF,isN HB2.out,if_neg bF,isN HB3.out,if_neg bF,isN HB4.out,if_neg bF,isN HB5.out,if_neg bF,isN HB6.out,if_neg bF,Zgz,isY HB7.out,if_pos rfl];rfl)
       have hrb:=HP7.out.rb
       have hok:Zav 16 #[.int .u8 9,eS,eS,.bool false,nS,nS,nS,nS,nS,nS,nS,nS,nS,nS,nS,iZ]=true:=by rw [Zcd];rfl
       go_wp2_with fail
       exact bodyPost_ret (v:=.agg #[.int .u8 9,eS,eS,.bool false,nS,nS,nS,nS,nS,nS,nS,nS,nS,nS,nS,iZ]) (Zq Tryz.results29 Zar Zbh _ _ (w.heap.size + 1) _ _ rfl (HP7.out.rs.set _) rfl) rfl ⟨_,rfl,by rw [HZZ.out];exact HP7.out.fin (S:=fun _=>False) (Zhq 9 ⟨#[]⟩ ⟨#[]⟩ false 0) (fun b h=>h.elim)⟩
      go_wp2_with fail
      refine HI6.out.mono ?_
      rintro e6 w6 ⟨rfl,hp6,hg6⟩
      have HP6:Hid (SP w0 r tv L en w ((s).next) w6):=Lh (HP5.out.grown hg6 hp6)
      clear hp6 hg6 HI6 hq
      obtain ⟨⟨x30,s30⟩,h30⟩:∃ z,chooseM L en (s.next)=z:=⟨_,rfl⟩
      have hc30:=HCH.out w6 s.next HP6.out.pb
      rw [h30] at hc30
      have HC30:=Lh hc30
      have HZZ:Hid (Z=(x30,s30)):=Lh (by rw [HZ.out,isN HB1.out,if_neg bF,isN HB2.out,if_neg bF,isN HB3.out,if_neg bF,isN HB4.out,if_neg bF,isN HB5.out,if_neg bF,isY HB6.out,if_pos rfl];exact h30)
      have HLT:Hid (w.heap.size + 1 < w6.heap.size):=Lh HP6.out.rs.lt
      have hq:=HP6.out.cell
      clear h30 hc30
      go_wp2_with fail
      refine HC30.out.mono ?_
      rintro e30 w30 ⟨v,rfl,hn30,hp30,hg30⟩
      have HP30:Hid (SP w0 r tv L en w s30 w30):=Lh (HP6.out.grown hg30 hp30)
      obtain ⟨c,rfl,_,_,hok,hcn⟩:=heB Zeq _ _ _ _ hn30
      have HCN:=Lh hcn
      have hrb:=HP30.out.rb
      clear hp30 hg30 HC30 hn30 hcn hq
      go_wp2_with fail
      exact bodyPost_ret (v:=.agg c.toArray) (Zq Tryz.results29 Zar Zbh _ _ (w.heap.size + 1) _ _ rfl (HP30.out.rs.set _) (Zo.1 hok).1) rfl ⟨_,rfl,by rw [HZZ.out];exact HP30.out.fin (S:=fun b=>w6.heap.size ≤ b) (HCN.out.imp fun u hu=>by simpa using hu) (fun b h=>by have:=HLT.out;omega)⟩
     go_wp2_with fail
     refine HI5.out.mono ?_
     rintro e5 w5 ⟨rfl,hp5,hg5⟩
     have HP5:Hid (SP w0 r tv L en w ((s).next) w5):=Lh (HP4.out.grown hg5 hp5)
     clear hp5 hg5 HI5 hq
     obtain ⟨s21,h21⟩:∃ z,(mustM L en [Zck] (s.next)).2=z:=⟨_,rfl⟩
     have hc21:=Zaw Zck w5 HP5.out.pb
     rw [h21] at hc21
     have HC21:=Lh hc21
     have HE21:Hid (mustM L en [Zck] (s.next)=((),s21)):=Lh (by rw [← h21])
     have hq:=HP5.out.cell
     clear h21 hc21
     go_wp2_with fail
     refine HC21.out.mono ?_
     rintro e21 w21 ⟨rfl,hp21,hg21⟩
     have HP21:Hid (SP w0 r tv L en w s21 w21):=Lh (HP5.out.grown hg21 hp21)
     clear hp21 hg21 HC21 hq
     obtain ⟨⟨m22,s22⟩,h22⟩:∃ z,nameM L en (s21)=z:=⟨_,rfl⟩
     have hc22:=Zdp w21 HP21.out.pb
     rw [h22] at hc22
     have HC22:=Lh hc22
     have HE22:=Lh h22
     have hq:=HP21.out.cell
     clear h22 hc22
     go_wp2_with fail
     refine HC22.out.mono ?_
     rintro e22 w22 ⟨rfl,hp22,hg22⟩
     have HP22:Hid (SP w0 r tv L en w s22 w22):=Lh (HP21.out.grown hg22 hp22)
     clear hp22 hg22 HC22 hq
     obtain ⟨cs23,hcs23,HT23⟩:∃ z,z = #[.int .u8 7,.string m22,eS,.bool false,nS,nS,nS,nS,nS,nS,nS,nS,nS,nS,nS,iZ]∧Hid (ST w0 r tv L en true w (w.heap.size + 1) w22.heap.size s22 z { kind:=7,table:=m22 } (w22.alloc (.cells z 31))):=⟨_,rfl,Lh (HP22.out.st 7 m22 ⟨#[]⟩ false 0)⟩
     have hok:Zav 16 #[.int .u8 7,.string m22,eS,.bool false,nS,nS,nS,nS,nS,nS,nS,nS,nS,nS,nS,iZ]=true:=by rw [Zcd];rfl
     go_upto_region 24 with fail
     rw [← hcs23]
     clear hok hcs23
     generalize w22.alloc (.cells cs23 31)=w23 at *
     generalize w22.heap.size=g at *
     obtain ⟨⟨l26,s26⟩,h26⟩:∃ z,maybeM L en Z6 (s22)=z:=⟨_,rfl⟩
     have hc26:=Zq7 HA.out Z6 w23 HT23.out.pb
     rw [h26] at hc26
     have HC26:=Lh hc26
     have HE26:=Lh h26
     clear h26 hc26
     have hq:=HT23.out.cell
     go_wp2_with fail
     refine HC26.out.mono ?_
     rintro e26 v26 ⟨u26,rfl,hn26,hp26,hg26⟩
     obtain ⟨a26,b26,rfl,_⟩:=hn26.here.shape
     have hS26:=HT23.out.grown hg26 hp26
     have hd26:=HT23.out.dep hn26 HT23.out.lt
     clear hn26
     obtain ⟨o26,c26⟩:=hS26.sg.cell 11 kD
     have f26:=hS26.sg.row.free 11
     have hT26:=hS26.lay (hS26.sg.put_wh _ l26 hd26)
     clear hd26 hp26 hg26 HC26 hS26 hq
     have HT26:=Lh hT26
     clear hT26
     go_upto_region 25 with fail
     clear c26 f26
     generalize v26.setCell ⟨g,11,none⟩ (.slice a26 l26.length b26)=w26 at *
     generalize cs23.setIfInBounds 11 (.slice a26 l26.length b26)=cs26 at *
     have HZZ:Hid (Z=({ kind:=7,table:=m22,wh:=l26 },s26)):=Lh (by rw [HZ.out,isN HB1.out,if_neg bF,isN HB2.out,if_neg bF,isN HB3.out,if_neg bF,isN HB4.out,if_neg bF,isY HB5.out,if_pos rfl];unfold deleteM;rw [Za1 HE21.out,Za1 HE22.out,Za1 HE26.out];rfl)
     exact ks22
    go_wp2_with fail
    refine HI4.out.mono ?_
    rintro e4 w4 ⟨rfl,hp4,hg4⟩
    have HP4:Hid (SP w0 r tv L en w ((s).next) w4):=Lh (HP3.out.grown hg4 hp4)
    clear hp4 hg4 HI4 hq
    obtain ⟨⟨m22,s22⟩,h22⟩:∃ z,nameM L en (s.next)=z:=⟨_,rfl⟩
    have hc22:=Zdp w4 HP4.out.pb
    rw [h22] at hc22
    have HC22:=Lh hc22
    have HE22:=Lh h22
    have hq:=HP4.out.cell
    clear h22 hc22
    go_wp2_with fail
    refine HC22.out.mono ?_
    rintro e22 w22 ⟨rfl,hp22,hg22⟩
    have HP22:Hid (SP w0 r tv L en w s22 w22):=Lh (HP4.out.grown hg22 hp22)
    clear hp22 hg22 HC22 hq
    obtain ⟨cs23,hcs23,HT23⟩:∃ z,z = #[.int .u8 6,.string m22,eS,.bool false,nS,nS,nS,nS,nS,nS,nS,nS,nS,nS,nS,iZ]∧Hid (ST w0 r tv L en true w (w.heap.size + 1) w22.heap.size s22 z { kind:=6,table:=m22 } (w22.alloc (.cells z 31))):=⟨_,rfl,Lh (HP22.out.st 6 m22 ⟨#[]⟩ false 0)⟩
    have hok:Zav 16 #[.int .u8 6,.string m22,eS,.bool false,nS,nS,nS,nS,nS,nS,nS,nS,nS,nS,nS,iZ]=true:=by rw [Zcd];rfl
    go_upto_region 17 with fail
    rw [← hcs23]
    clear hok hcs23
    generalize w22.alloc (.cells cs23 31)=w23 at *
    generalize w22.heap.size=g at *
    obtain ⟨s24,h24⟩:∃ z,(mustM L en [Zpa] (s22)).2=z:=⟨_,rfl⟩
    have hc24:=Zaw Zpa w23 HT23.out.pb
    rw [h24] at hc24
    have HC24:=Lh hc24
    have HE24:Hid (mustM L en [Zpa] (s22)=((),s24)):=Lh (by rw [← h24])
    clear h24 hc24
    have hq:=HT23.out.cell
    go_wp2_with fail
    refine HC24.out.mono ?_
    rintro e24 w24 ⟨rfl,hp24,hg24⟩
    have HT24:=Lh (HT23.out.grown hg24 hp24)
    clear hp24 hg24 HC24 hq
    obtain ⟨⟨l25,s25⟩,h25⟩:∃ z,listM L en (setM L en) FU (s24)=z:=⟨_,rfl⟩
    have hc25:=listSet (L:=L) (en:=en) (fun s=>(Sim.setM (L:=L) (L':=L) (en:=en) (en':=en) (d:=0)).mono s |>.1) _ w.heap.size rfl w24 s24.k (setRun HA.out w.heap.size w24 s24.k HT24.out.q) s24 (Nat.le_refl _) HT24.out.pb
    rw [h25] at hc25
    have HC25:=Lh hc25
    have HE25:=Lh h25
    clear h25 hc25
    have hq:=HT24.out.cell
    go_wp2_with fail
    refine HC25.out.mono ?_
    rintro e25 v25 ⟨u25,rfl,hn25,hp25,hg25⟩
    obtain ⟨a25,b25,rfl,_⟩:=hn25.here.shape
    have hS25:=HT24.out.grown hg25 hp25
    have hd25:=HT24.out.dep hn25 HT24.out.lt
    clear hn25
    obtain ⟨o25,c25⟩:=hS25.sg.cell 8 kD
    have f25:=hS25.sg.row.free 8
    have hT25:=hS25.lay (hS25.sg.put_sets _ l25 hd25)
    clear hd25 hp25 hg25 HC25 hS25 hq
    have HT25:=Lh hT25
    clear hT25
    go_upto_region 19 with fail
    clear c25 f25
    generalize v25.setCell ⟨g,8,none⟩ (.slice a25 l25.length b25)=w25 at *
    generalize cs23.setIfInBounds 8 (.slice a25 l25.length b25)=cs25 at *
    obtain ⟨⟨l26,s26⟩,h26⟩:∃ z,maybeM L en Z6 (s25)=z:=⟨_,rfl⟩
    have hc26:=Zq7 HA.out Z6 w25 HT25.out.pb
    rw [h26] at hc26
    have HC26:=Lh hc26
    have HE26:=Lh h26
    clear h26 hc26
    have hq:=HT25.out.cell
    go_wp2_with fail
    refine HC26.out.mono ?_
    rintro e26 v26 ⟨u26,rfl,hn26,hp26,hg26⟩
    obtain ⟨a26,b26,rfl,_⟩:=hn26.here.shape
    have hS26:=HT25.out.grown hg26 hp26
    have hd26:=HT25.out.dep hn26 HT25.out.lt
    clear hn26
    obtain ⟨o26,c26⟩:=hS26.sg.cell 11 kD
    have f26:=hS26.sg.row.free 11
    have hT26:=hS26.lay (hS26.sg.put_wh _ l26 hd26)
    clear hd26 hp26 hg26 HC26 hS26 hq
    have HT26:=Lh hT26
    clear hT26
    go_upto_region 20 with fail
    clear c26 f26
    generalize v26.setCell ⟨g,11,none⟩ (.slice a26 l26.length b26)=w26 at *
    generalize cs25.setIfInBounds 11 (.slice a26 l26.length b26)=cs26 at *
    have HZZ:Hid (Z=({ kind:=6,table:=m22,sets:=l25,wh:=l26 },s26)):=Lh (by rw [HZ.out,isN HB1.out,if_neg bF,isN HB2.out,if_neg bF,isN HB3.out,if_neg bF,isY HB4.out,if_pos rfl];unfold updateM;rw [Za1 HE22.out,Za1 HE24.out,Za1 HE25.out,Za1 HE26.out];rfl)
    exact ks22
   go_wp2_with fail
   refine HI3.out.mono ?_
   rintro e3 w3 ⟨rfl,hp3,hg3⟩
   have HP3:Hid (SP w0 r tv L en w ((s).next) w3):=Lh (HP2.out.grown hg3 hp3)
   clear hp3 hg3 HI3 hq
   obtain ⟨s21,h21⟩:∃ z,(mustM L en [Zf4] (s.next)).2=z:=⟨_,rfl⟩
   have hc21:=Zaw Zf4 w3 HP3.out.pb
   rw [h21] at hc21
   have HC21:=Lh hc21
   have HE21:Hid (mustM L en [Zf4] (s.next)=((),s21)):=Lh (by rw [← h21])
   have hq:=HP3.out.cell
   clear h21 hc21
   go_wp2_with fail
   refine HC21.out.mono ?_
   rintro e21 w21 ⟨rfl,hp21,hg21⟩
   have HP21:Hid (SP w0 r tv L en w s21 w21):=Lh (HP3.out.grown hg21 hp21)
   clear hp21 hg21 HC21 hq
   obtain ⟨⟨m22,s22⟩,h22⟩:∃ z,nameM L en (s21)=z:=⟨_,rfl⟩
   have hc22:=Zdp w21 HP21.out.pb
   rw [h22] at hc22
   have HC22:=Lh hc22
   have HE22:=Lh h22
   have hq:=HP21.out.cell
   clear h22 hc22
   go_wp2_with fail
   refine HC22.out.mono ?_
   rintro e22 w22 ⟨rfl,hp22,hg22⟩
   have HP22:Hid (SP w0 r tv L en w s22 w22):=Lh (HP21.out.grown hg22 hp22)
   clear hp22 hg22 HC22 hq
   obtain ⟨cs23,hcs23,HT23⟩:∃ z,z = #[.int .u8 5,.string m22,eS,.bool false,nS,nS,nS,nS,nS,nS,nS,nS,nS,nS,nS,iZ]∧Hid (ST w0 r tv L en true w (w.heap.size + 1) w22.heap.size s22 z { kind:=5,table:=m22 } (w22.alloc (.cells z 31))):=⟨_,rfl,Lh (HP22.out.st 5 m22 ⟨#[]⟩ false 0)⟩
   have hok:Zav 16 #[.int .u8 5,.string m22,eS,.bool false,nS,nS,nS,nS,nS,nS,nS,nS,nS,nS,nS,iZ]=true:=by rw [Zcd];rfl
   go_upto_region 11 with fail
   rw [← hcs23]
   clear hok hcs23
   generalize w22.alloc (.cells cs23 31)=w23 at *
   generalize w22.heap.size=g at *
   obtain ⟨⟨l24,s24⟩,h24⟩:∃ z,namesM L en (s22)=z:=⟨_,rfl⟩
   have hc24:=Zuw w23 HT23.out.pb
   rw [h24] at hc24
   have HC24:=Lh hc24
   have HE24:=Lh h24
   clear h24 hc24
   have hq:=HT23.out.cell
   go_wp2_with fail
   refine HC24.out.mono ?_
   rintro e24 v24 ⟨u24,rfl,hn24,hp24,hg24⟩
   obtain ⟨a24,b24,rfl,_⟩:=hn24.here.shape
   have hS24:=HT23.out.grown hg24 hp24
   have hd24:=HT23.out.dep hn24 HT23.out.lt
   clear hn24
   obtain ⟨o24,c24⟩:=hS24.sg.cell 6 kD
   have f24:=hS24.sg.row.free 6
   have hT24:=hS24.lay (hS24.sg.put_names _ l24 hd24)
   clear hd24 hp24 hg24 HC24 hS24 hq
   have HT24:=Lh hT24
   clear hT24
   go_upto_region 12 with fail
   clear c24 f24
   generalize v24.setCell ⟨g,6,none⟩ (.slice a24 l24.length b24)=w24 at *
   generalize cs23.setIfInBounds 6 (.slice a24 l24.length b24)=cs24 at *
   obtain ⟨s25,h25⟩:∃ z,(mustM L en [Zcy] (s24)).2=z:=⟨_,rfl⟩
   have hc25:=Zaw Zcy w24 HT24.out.pb
   rw [h25] at hc25
   have HC25:=Lh hc25
   have HE25:Hid (mustM L en [Zcy] (s24)=((),s25)):=Lh (by rw [← h25])
   clear h25 hc25
   have hq:=HT24.out.cell
   go_wp2_with fail
   refine HC25.out.mono ?_
   rintro e25 w25 ⟨rfl,hp25,hg25⟩
   have HT25:=Lh (HT24.out.grown hg25 hp25)
   clear hp25 hg25 HC25 hq
   obtain ⟨⟨l26,s26⟩,h26⟩:∃ z,listM L en (insideM L en (exprM L en) FU) FU (s25)=z:=⟨_,rfl⟩
   have hc26:=listRow (L:=L) (en:=en) (fun s=>(Sim.insideM (L:=L) (L':=L) (en:=en) (en':=en) (d:=0) Sim.exprM FU).mono s |>.1) _ w.heap.size rfl w25 s25.k (rowRun HA.out w.heap.size w25 s25.k HT25.out.q) s25 (Nat.le_refl _) HT25.out.pb
   rw [h26] at hc26
   have HC26:=Lh hc26
   have HE26:=Lh h26
   clear h26 hc26
   have hq:=HT25.out.cell
   go_wp2_with fail
   refine HC26.out.mono ?_
   rintro e26 v26 ⟨u26,rfl,hn26,hp26,hg26⟩
   obtain ⟨a26,b26,rfl,_⟩:=hn26.here.shape
   have hS26:=HT25.out.grown hg26 hp26
   have hd26:=HT25.out.dep hn26 HT25.out.lt
   clear hn26
   obtain ⟨o26,c26⟩:=hS26.sg.cell 7 kD
   have f26:=hS26.sg.row.free 7
   have hT26:=hS26.lay (hS26.sg.put_rows _ l26 hd26)
   clear hd26 hp26 hg26 HC26 hS26 hq
   have HT26:=Lh hT26
   clear hT26
   go_upto_region 14 with fail
   clear c26 f26
   generalize v26.setCell ⟨g,7,none⟩ (.slice a26 l26.length b26)=w26 at *
   generalize cs24.setIfInBounds 7 (.slice a26 l26.length b26)=cs26 at *
   have HZZ:Hid (Z=({ kind:=5,table:=m22,names:=l24,rows:=l26 },s26)):=Lh (by rw [HZ.out,isN HB1.out,if_neg bF,isN HB2.out,if_neg bF,isY HB3.out,if_pos rfl];unfold insertM;rw [Za1 HE21.out,Za1 HE22.out,Za1 HE24.out,Za1 HE25.out,Za1 HE26.out];rfl)
   exact ks22
  go_wp2_with fail
  refine HI2.out.mono ?_
  rintro e2 w2 ⟨rfl,hp2,hg2⟩
  have HP2:Hid (SP w0 r tv L en w ((s).next) w2):=Lh (HP1.out.grown hg2 hp2)
  clear hp2 hg2 HI2 hq
  have HI20:=Lh (isW Zcj w2 HP2.out.pb)
  obtain ⟨B20,hB20⟩:∃ B,isB L en Zcj (s.next)=B:=⟨_,rfl⟩
  rw [Z2,hB20] at HI20
  have HB20:=Lh hB20
  have hq:=HP2.out.cell
  clear hB20
  cases B20
  ·go_wp2_with fail
   refine HI20.out.mono ?_
   rintro e20 w20 ⟨rfl,hp20,hg20⟩
   have HP20:Hid (SP w0 r tv L en w (s.next) w20):=Lh (HP2.out.grown hg20 hp20)
   clear hp20 hg20 HI20 hq
   obtain ⟨s21,h21⟩:∃ z,(mustM L en [Zbo] (s.next)).2=z:=⟨_,rfl⟩
   have hc21:=Zaw Zbo w20 HP20.out.pb
   rw [h21] at hc21
   have HC21:=Lh hc21
   have HE21:Hid (mustM L en [Zbo] (s.next)=((),s21)):=Lh (by rw [← h21])
   have hq:=HP20.out.cell
   clear h21 hc21
   go_wp2_with fail
   refine HC21.out.mono ?_
   rintro e21 w21 ⟨rfl,hp21,hg21⟩
   have HP21:Hid (SP w0 r tv L en w s21 w21):=Lh (HP20.out.grown hg21 hp21)
   clear hp21 hg21 HC21 hq
   obtain ⟨⟨m22,s22⟩,h22⟩:∃ z,nameM L en (s21)=z:=⟨_,rfl⟩
   have hc22:=Zdp w21 HP21.out.pb
   rw [h22] at hc22
   have HC22:=Lh hc22
   have HE22:=Lh h22
   have hq:=HP21.out.cell
   clear h22 hc22
   go_wp2_with fail
   refine HC22.out.mono ?_
   rintro e22 w22 ⟨rfl,hp22,hg22⟩
   have HP22:Hid (SP w0 r tv L en w s22 w22):=Lh (HP21.out.grown hg22 hp22)
   clear hp22 hg22 HC22 hq
   have HZZ:Hid (Z=({ kind:=4,table:=⟨#[]⟩,name:=m22 },_)):=Lh (by rw [HZ.out,isN HB1.out,if_neg bF,isY HB2.out,if_pos rfl];unfold dropM;rw [isN HB20.out,if_neg bF,Za1 HE21.out,Za1 HE22.out];rfl)
   have hrb:=HP22.out.rb
   have hok:Zav 16 #[.int .u8 4,eS,.string m22,.bool false,nS,nS,nS,nS,nS,nS,nS,nS,nS,nS,nS,iZ]=true:=by rw [Zcd];rfl
   go_wp2_with fail
   exact bodyPost_ret (v:=.agg #[.int .u8 4,eS,.string m22,.bool false,nS,nS,nS,nS,nS,nS,nS,nS,nS,nS,nS,iZ]) (Zq Tryz.results29 Zar Zbh _ _ (w.heap.size + 1) _ _ rfl (HP22.out.rs.set _) rfl) rfl ⟨_,rfl,by rw [HZZ.out];exact HP22.out.fin (S:=fun _=>False) (Zhq 4 ⟨#[]⟩ m22 false 0) (fun b h=>h.elim)⟩
  go_wp2_with fail
  refine HI20.out.mono ?_
  rintro e20 w20 ⟨rfl,hp20,hg20⟩
  have HP20:Hid (SP w0 r tv L en w ((s.next).next) w20):=Lh (HP2.out.grown hg20 hp20)
  clear hp20 hg20 HI20 hq
  obtain ⟨⟨m21,s21⟩,h21⟩:∃ z,nameM L en (s.next.next)=z:=⟨_,rfl⟩
  have hc21:=Zdp w20 HP20.out.pb
  rw [h21] at hc21
  have HC21:=Lh hc21
  have HE21:=Lh h21
  have hq:=HP20.out.cell
  clear h21 hc21
  go_wp2_with fail
  refine HC21.out.mono ?_
  rintro e21 w21 ⟨rfl,hp21,hg21⟩
  have HP21:Hid (SP w0 r tv L en w s21 w21):=Lh (HP20.out.grown hg21 hp21)
  clear hp21 hg21 HC21 hq
  have HZZ:Hid (Z=({ kind:=2,table:=m21,name:=⟨#[]⟩ },_)):=Lh (by rw [HZ.out,isN HB1.out,if_neg bF,isY HB2.out,if_pos rfl];unfold dropM;rw [isY HB20.out,if_pos rfl,Za1 HE21.out];rfl)
  have hrb:=HP21.out.rb
  have hok:Zav 16 #[.int .u8 2,.string m21,eS,.bool false,nS,nS,nS,nS,nS,nS,nS,nS,nS,nS,nS,iZ]=true:=by rw [Zcd];rfl
  go_wp2_with fail
  exact bodyPost_ret (v:=.agg #[.int .u8 2,.string m21,eS,.bool false,nS,nS,nS,nS,nS,nS,nS,nS,nS,nS,nS,iZ]) (Zq Tryz.results29 Zar Zbh _ _ (w.heap.size + 1) _ _ rfl (HP21.out.rs.set _) rfl) rfl ⟨_,rfl,by rw [HZZ.out];exact HP21.out.fin (S:=fun _=>False) (Zhq 2 m21 ⟨#[]⟩ false 0) (fun b h=>h.elim)⟩
 go_wp2_with fail
 refine HI1.out.mono ?_
 rintro e1 w1 ⟨rfl,hp1,hg1⟩
 have HP1:Hid (SP w0 r tv L en w ((s).next) w1):=Lh (HP0.out.grown hg1 hp1)
 clear hp1 hg1 HI1 hq
 obtain ⟨⟨x30,s30⟩,h30⟩:∃ z,createM L en (s.next)=z:=⟨_,rfl⟩
 have hc30:=createW w1 HP1.out.pb
 rw [h30] at hc30
 have HC30:=Lh hc30
 have HZZ:Hid (Z=(x30,s30)):=Lh (by rw [HZ.out,isY HB1.out,if_pos rfl];exact h30)
 have HLT:Hid (w.heap.size + 1 < w1.heap.size):=Lh HP1.out.rs.lt
 have hq:=HP1.out.cell
 clear h30 hc30
 go_wp2_with fail
 refine HC30.out.mono ?_
 rintro e30 w30 ⟨v,rfl,hn30,hp30,hg30⟩
 have HP30:Hid (SP w0 r tv L en w s30 w30):=Lh (HP1.out.grown hg30 hp30)
 obtain ⟨c,rfl,_,_,hok,hcn⟩:=heB Zeq _ _ _ _ hn30
 have HCN:=Lh hcn
 have hrb:=HP30.out.rb
 clear hp30 hg30 HC30 hn30 hcn hq
 go_wp2_with fail
 exact bodyPost_ret (v:=.agg c.toArray) (Zq Tryz.results29 Zar Zbh _ _ (w.heap.size + 1) _ _ rfl (HP30.out.rs.set _) (Zo.1 hok).1) rfl ⟨_,rfl,by rw [HZZ.out];exact HP30.out.fin (S:=fun b=>w1.heap.size ≤ b) (HCN.out.imp fun u hu=>by simpa using hu) (fun b h=>by have:=HLT.out;omega)⟩
end
end Go.Proofs.YtmdogmpcmkfjpaaGreatDoor.Dt
