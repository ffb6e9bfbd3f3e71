import Derived.Test.YtmdogmpcmkfjpaaGreatDoorBn26
/- Part of the proof (merged). -/
namespace Go.Proofs.YtmdogmpcmkfjpaaGreatDoor.Dt
open Go.RowKit Go.Proofs.YtmdogmpcmkfjpaaGreatDoor.By
theorem okRow16 (a b c d e f g h i j k l m n o p:Value):okRow 16 #[a,b,c,d,e,f,g,h,i,j,k,l,m,n,o,p]=(a.oneCell' && (b.oneCell' && (c.oneCell' && (d.oneCell' && (e.oneCell' && (f.oneCell' && (g.oneCell' && (h.oneCell' && (i.oneCell' && (j.oneCell' && (k.oneCell' && (l.oneCell' && (m.oneCell' && (n.oneCell' && (o.oneCell' && p.oneCell'))))))))))))))):=by simp [okRow]
section
variable {w0:World} {r:Nat} {tv:Value} {L:List Tk} {en:Int}
structure ST (w0:World) (r:Nat) (tv:Value) (L:List Tk) (en:Int) (B:Bool) (w:World) (q g:Nat) (s:PS) (cs:Array Value) (x:PSt) (W:World):Prop where
 pb:PB w0 r tv L en s W
 gr:w.grownBy W (some r)
 bx:B=true→Row w.heap.size 75 #[.pointer (some ⟨r,0,none⟩)] W
 rs:Row q 31 stZ W
 sg:SG (fun b=>w.heap.size < b∧b ≠ q∧b ≠ g) g cs x W
 hr:r < w.heap.size
 hq:w.heap.size ≤ q
 hqg:q < g
 hB:B=true→w.heap.size < q
variable {B:Bool} {w:World} {q g:Nat} {s s':PS} {cs:Array Value} {x:PSt} {W W':World}
theorem ST.grown (h:ST w0 r tv L en B w q g s cs x W) (k:W.grownBy W' (some r)) (hp:PB w0 r tv L en s' W'):ST w0 r tv L en B w q g s' cs x W':=by
 have h1:=h.hr
 have h2:=h.hq
 have h3:=h.hqg
 exact ⟨hp,grown_trans h.gr k,fun e=>(h.bx e).grown k (by omega),h.rs.grown k (by omega),h.sg.grown k (by omega) (by omega),h1,h2,h3,h.hB⟩
theorem ST.later (h:ST w0 r tv L en B w q g s cs x W) (k:Below W.heap.size W W'):ST w0 r tv L en B w q g s cs x W':=h.grown (below_grown k) (h.pb.later k)
theorem ST.cell (h:ST w0 r tv L en true w q g s cs x W):W.cell? ⟨w.heap.size,0,none⟩=some (.pointer (some ⟨r,0,none⟩)):=(h.bx rfl).cell rfl
theorem ST.rb (h:ST w0 r tv L en B w q g s cs x W):rowB 16 W q=true:=h.rs.b rfl
theorem ST.fin (h:ST w0 r tv L en B w q g s cs x W):New w.heap.size (W.setRow q cs) (fun u=>AgV StR u (.agg cs) x)∧PB w0 r tv L en s (W.setRow q cs)∧w.grownBy (W.setRow q cs) (some r):=
 ⟨ag_fin h.sg.st (by omega) (fun b h=>by omega),h.pb.other (grown_setRow _ _ _) (by have:=h.hr;have:=h.hq;omega),grown_fill h.gr h.hq _⟩
theorem ST.lay (h:ST w0 r tv L en B w q g s cs x W) {i:Nat} {v:Value} {y:PSt} (hs:SG (fun b=>w.heap.size < b∧b ≠ q∧b ≠ g) g (cs.setIfInBounds i v) y (W.setCell ⟨g,i,none⟩ v)):ST w0 r tv L en B w q g s (cs.setIfInBounds i v) y (W.setCell ⟨g,i,none⟩ v):=by
 have h1:=h.hr
 have h2:=h.hq
 have h3:=h.hqg
 have e:=setCell_eq_setRow W g i cs _ _ v h.sg.row
 rw [e] at hs ⊢
 exact ⟨h.pb.other (grown_setRow _ _ _) (by omega),grown_fill h.gr (by omega) _,fun e=>(setRow_other W g _ _ (by omega)).trans (h.bx e),(setRow_other W g _ _ (by omega)).trans h.rs,hs,h1,h2,h3,h.hB⟩
theorem ST.dep (h:ST w0 r tv L en B w q g s cs x W) {n:Nat} {P:World→Prop} (hP:New n W' P) (hn:g < n):Dep (fun b=>w.heap.size < b∧b ≠ q∧b ≠ g) W' P:=
 hP.step (Nat.le_refl _) fun b hb _=>⟨by have:=h.hq;have:=h.hqg;omega,rfl⟩
theorem ST.lt (h:ST w0 r tv L en B w q g s cs x W):g < W.heap.size:=h.sg.row.lt
theorem sg_new {S:Nat→Prop} (W:World) (k:Nat) (t m:ByteArray) (u:Bool) (li:Int) (hS:¬ S W.heap.size):SG S W.heap.size #[.int .u8 (k:Int),.string t,.string m,.bool u,.slice none 0 0,.slice none 0 0,.slice none 0 0,.slice none 0 0,.slice none 0 0,.slice none 0 0,.slice none 0 0,.slice none 0 0,.slice none 0 0,.slice none 0 0,.slice none 0 0,.int .i64 li]
 { kind:=k,table:=t,name:=m,uniq:=u,limit:=li } (W.alloc (.cells #[.int .u8 (k:Int),.string t,.string m,.bool u,.slice none 0 0,.slice none 0 0,.slice none 0 0,.slice none 0 0,.slice none 0 0,.slice none 0 0,.slice none 0 0,.slice none 0 0,.slice none 0 0,.slice none 0 0,.slice none 0 0,.int .i64 li] 31)):=
 ⟨row_alloc _ _ _,fun _ _=>⟨_,_,_,_,_,_,_,_,_,_,_,rfl,SlR.nil _ _ _,SlR.nil _ _ _,SlR.nil _ _ _,SlR.nil _ _ _,SlR.nil _ _ _,SlR.nil _ _ _,SlR.nil _ _ _,SlR.nil _ _ _,SlR.nil _ _ _,SlR.nil _ _ _,SlR.nil _ _ _⟩,hS⟩
theorem st_val {S:Nat→Prop} {W:World} (k:Nat) (t m:ByteArray) (u:Bool) (li:Int):Dep S W fun v=>StR v (#[.int .u8 (k:Int),.string t,.string m,.bool u,.slice none 0 0,.slice none 0 0,.slice none 0 0,.slice none 0 0,.slice none 0 0,.slice none 0 0,.slice none 0 0,.slice none 0 0,.slice none 0 0,.slice none 0 0,.slice none 0 0,.int .i64 li]:Array Value).toList
 { kind:=k,table:=t,name:=m,uniq:=u,limit:=li } :=fun _ _=>⟨_,_,_,_,_,_,_,_,_,_,_,rfl,SlR.nil _ _ _,SlR.nil _ _ _,SlR.nil _ _ _,SlR.nil _ _ _,SlR.nil _ _ _,SlR.nil _ _ _,SlR.nil _ _ _,SlR.nil _ _ _,SlR.nil _ _ _,SlR.nil _ _ _,SlR.nil _ _ _⟩
def colsLeft (L:List Tk) (s:PS):Nat:=if s.e=0 then L.length + 2 - s.k else 1
theorem must1 {t:ByteArray} {s:PS} : ((mustM L en [t] s).2.e=0∧s.e=0∧(mustM L en [t] s).2.k=s.k + 1) ∨ (mustM L en [t] s).2.e ≠ 0:=by
 cases hb:isB L en t s with
 | true=>
  rw [must_yes hb]
  have:=(isB_iff.1 hb).1
  exact .inl ⟨this,this,rfl⟩
 | false=>
  rw [must_no hb]
  exact .inr (failP_k (L:=L) (en:=en) 6 s (by decide)).2
theorem cols_step {f:Nat} {cs:List PCol} {s:PS} (he:s.e=0):colsM L en (f + 1) cs s=(bnd (if cs.isEmpty then ret false else isM L en WPRIMARY) fun b=>if b then ret cs else bnd (colM L en) fun c=>bnd (mustM L en [BCOMMA]) fun _=>colsM L en f (cs ++ [c])) s:=by
 show bnd okM _ s=_
 rw [okY he,if_pos rfl]
theorem cols_bad {f:Nat} {cs:List PCol} {s:PS} (he:s.e ≠ 0):colsM L en (f + 1) cs s=(cs,s):=by
 show bnd okM _ s=_
 rw [okN he,if_neg Bool.false_ne_true];rfl
theorem col_mono (s:PS):s.k ≤ (colM L en s).2.k:=((Sim.colM (L:=L) (L':=L) (en:=en) (en':=en) (d:=0)).mono s).1
end
end Go.Proofs.YtmdogmpcmkfjpaaGreatDoor.Dt
