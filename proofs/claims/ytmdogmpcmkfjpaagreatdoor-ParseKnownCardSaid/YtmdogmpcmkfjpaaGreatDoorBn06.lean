import Derived.Test.YtmdogmpcmkfjpaaGreatDoorRows
import Derived.WalkKit
import Derived.ProofKit
import Derived.OpenShut
import Derived.SizedLaws
import Derived.LaidMore
import Derived.Lay
/- Part of the proof (merged). -/
namespace Go.Proofs.YtmdogmpcmkfjpaaGreatDoor.Lift
open Go.ChangeShapes Go.WideShapes Go.ChangeAt Go.RowKit
theorem trodAll_stays {H:Type} {enc:TypeId × Value→H} {P:Program} (hl:laidOutB P=true) {W W':World} (hb:Below W.heap.size W W') :
 ∀ {ts:List TypeId} {vs:List Value} {ds:List (DataW H)} {ps:List MemPlace},(∀ t ∈ ts,P.readableRec t=true∧t < P.types.size) →
   DataW.TrodAll enc P W 0 (fun _=>true) true ts vs ds ps→(∀ x ∈ ps,x.block < W.heap.size) →
   DataW.TrodAll enc P W' 0 (fun b=>decide (b < W.heap.size)) true ts vs ds ps
 | [],_,_,_,_,h,_=>by
  obtain ⟨rfl,rfl,rfl⟩:=trodAll_nil h
  exact trodAll_mk0
 | t :: ts,_,_,_,hr,h,hlt=>by
  obtain ⟨v,vs1,d,ds1,a,b,rfl,rfl,rfl,h1,h2⟩:=trodAll_cons h
  have h0:=hr t (by simp)
  exact ⟨a,b,Below.trod hl h0.1 h0.2 h1 hb (fun x hx=>hlt x (by simp [hx])),
   trodAll_stays hl hb (fun t' ht'=>hr t' (by simp [ht'])) h2 (fun x hx=>hlt x (by simp [hx])),rfl⟩
theorem trodAll_ds_length {H:Type} {enc:TypeId × Value→H} {P:Program} {W:World} {base:Nat} {sp:Nat→Bool} {held:Bool} :
 ∀ {ts:List TypeId} {vs:List Value} {ds:List (DataW H)} {ps:List MemPlace},DataW.TrodAll enc P W base sp held ts vs ds ps→ds.length=ts.length
 | [],_,_,_,h=>by obtain ⟨rfl,rfl,rfl⟩:=trodAll_nil h;rfl
 | _ :: _,_,_,_,h=>by
  obtain ⟨v,vs1,d,ds1,a,b,rfl,rfl,rfl,h1,h2⟩:=trodAll_cons h
  simp [trodAll_ds_length h2]
def Owes {H:Type} (enc:TypeId × Value→H) (P:Program) (f:FuncId) (ts:List TypeId) (W:World) (args:Array Value) (ds:List (DataW H)) (p:List MemPlace):Prop:=
 DataW.TrodAll enc P W 0 (fun _=>true) true ts args.toList ds p →
 (∀ (j:Nat) t v,ts[j]? = some t→args[j]? = some v→∃ base,Value.okWide P W .any base t v) →
 (DataW.weightsEach P ts ds).all (· ≤ reachBytes)=true →
 (∀ x ∈ p,x.block < W.heap.size) →
 Calls P f args W fun e W'=>e = .returned (.bool true)∧Below W.heap.size W W'
theorem lifted {C:Checked} {os:Os} {f:FuncId} {fn:Func} {s:ChangeSpec} {apart:Bool} {H:Type} {enc:TypeId × Value→H}
 (own:ownKnob C.prog.godebug=none) (started:os.Started) (noInit:C.prog.inits.idxOf? f=none) (hfn:C.prog.funcs[f]? = some fn)
 (witness:∃ (w:World) (tape:Tape) (i:Input),w.os=os∧(w.forCall tape i).Shaped C.prog∧i.vars = []∧Input.okWide C.prog (w.forCall tape i) .any w.heap.size f i ∧
  s.pre6 enc C.prog fn [] apart (w.forCall tape i).memory i.args∧({} : Assume).holds C.prog (lone (Frame.enter C.prog f i.args .normal) [] (w.forCall tape i)))
 (hl:laidOutB C.prog=true) (hr:∀ t ∈ fn.params.toList,C.prog.readableRec t=true∧t < C.prog.types.size)
 (hvars:s.vars = []) (tb:TypeId) (hres:fn.resultTypes = #[tb]) (hb:C.prog.underlying tb=some .bool)
 (hs:∀ ds:List (DataW H),ds.length=fn.params.toList.length→s.fn H ds = { results:=[.lit (.bool true)],args:=ds })
 (walk:∀ (W:World) (args:Array Value) (ds:List (DataW H)) (p:List MemPlace),Owes enc C.prog f fn.params.toList W args ds p) :
 ReturnsInHanded {} C os f .any (s.pre6 enc C.prog fn [] apart) (s.post enc C.prog fn apart true false false):=by
 refine returnsInHanded_of_change_sized own started noInit hfn witness ?_
 intro W base args ds gs before hval hW _ hsz _
 have hW':=hW
 obtain ⟨p,q,hA,hV,rfl,_,_⟩:=hW
 rw [hvars] at hV
 obtain ⟨rfl,rfl⟩:=trodVars_none hV
 have hlen:=trodAll_ds_length hA
 have hlt:∀ x ∈ p,x.block < W.heap.size:=fun x hx=>by simpa using hW'.lt x (by simp [hx])
 have hvt:s.plain.varTypes C.prog = []:=by
  simp [ChangeSpec.plain,DataSpec.varTypes,hvars]
 rw [hvt] at hsz
 simp only [List.append_nil] at hsz
 refine (walk W args ds p hA (fun j t v ht hv=>⟨base,hval j t v (by simpa using ht) hv⟩) hsz hlt).mono fun e W' ⟨he,hbel⟩=>?_
 subst he
 refine ⟨_,rfl,ds,[],p ++ [],[],p,[],hW',?_,?_,?_,hbel.frame _,fun h=>by cases h⟩
 ·simp only [List.append_nil]
  rw [hs ds hlen,hres]
  exact trodAll_mk1 (shut_bool hb true)
 ·simp only [List.append_nil]
  rw [hs ds hlen]
  exact trodAll_stays hl hbel hr hA hlt
 ·simp only [List.append_nil]
  rw [hs ds hlen,hvars]
  exact rfl
end Go.Proofs.YtmdogmpcmkfjpaaGreatDoor.Lift
namespace Go.Proofs.YtmdogmpcmkfjpaaGreatDoor.Lift
open Go.ChangeShapes Go.WideShapes Go.ChangeAt Go.RowKit
theorem liftedD {C:Checked} {os:Os} {f:FuncId} {fn:Func} {s:ChangeSpec} {apart:Bool} {H:Type} {enc:TypeId × Value→H} {X:World→Array Value→Prop}
 (hX:∀ (w w':World) (args:Array Value),w.heap=w'.heap→X w args→X w' args)
 (own:ownKnob C.prog.godebug=none) (started:os.Started) (noInit:C.prog.inits.idxOf? f=none) (hfn:C.prog.funcs[f]? = some fn)
 (witness:∃ (w:World) (tape:Tape) (i:Input),w.os=os∧(w.forCall tape i).Shaped C.prog∧i.vars = []∧Input.okWide C.prog (w.forCall tape i) .any w.heap.size f i ∧
  ((s.pre enc C.prog fn [] apart (w.forCall tape i).memory i.args∧X (w.forCall tape i).memory i.args)∧sizedMet enc C.prog fn (OpenSpec.ofChange s) apart (w.forCall tape i).memory i.args)∧({} : Assume).holds C.prog (lone (Frame.enter C.prog f i.args .normal) [] (w.forCall tape i)))
 (hl:laidOutB C.prog=true) (hr:∀ t ∈ fn.params.toList,C.prog.readableRec t=true∧t < C.prog.types.size)
 (hvars:s.vars = []) (tb:TypeId) (hres:fn.resultTypes = #[tb]) (hb:C.prog.underlying tb=some .bool)
 (hs:∀ ds:List (DataW H),ds.length=fn.params.toList.length→s.fn H ds = { results:=[.lit (.bool true)],args:=ds })
 (walk:∀ (W:World) (args:Array Value) (ds:List (DataW H)) (p:List MemPlace),W.ShapedOpen C.prog→X W args→Owes enc C.prog f fn.params.toList W args ds p) :
 ReturnsInHanded {} C os f .any (fun w args=>(s.pre enc C.prog fn [] apart w args∧X w args)∧sizedMet enc C.prog fn (OpenSpec.ofChange s) apart w args) (s.post enc C.prog fn apart true false false):=by
 refine returnsInHanded_of_calls own started noInit witness ?_
 intro w tape i _ hsh _ hok hpre _
 obtain ⟨_,_,_,fn',hfn',_,_,_,_,hval⟩:=hok
 have e:fn'=fn:=Option.some.inj (hfn'.symm.trans hfn)
 subst e
 obtain ⟨⟨⟨ds,gs,before,hw,hc⟩,hx⟩,hz⟩:=hpre
 have hw':=DataW.Whole.of_heap (w':=w.forCall tape i) (by rfl) hw
 have hsz:(DataW.weightsEach C.prog (fn'.params.toList ++ s.plain.varTypes C.prog) (ds ++ gs)).all (· ≤ reachBytes)=true:=hz.weights hw
 have hx':X (w.forCall tape i) i.args:=hX _ _ _ (by rfl) hx
 obtain ⟨p,q,hA,hV,rfl,_,_⟩:=hw'
 have hW':=DataW.Whole.of_heap (w':=w.forCall tape i) (by rfl) hw
 rw [hvars] at hV
 obtain ⟨rfl,rfl⟩:=trodVars_none hV
 have hlen:=trodAll_ds_length hA
 have hlt:∀ x ∈ p,x.block < (w.forCall tape i).heap.size:=fun x hx=>by simpa using hW'.lt x (by simp [hx])
 have hvt:s.plain.varTypes C.prog = []:=by
  simp [ChangeSpec.plain,DataSpec.varTypes,hvars]
 rw [hvt] at hsz
 simp only [List.append_nil] at hsz
 refine (walk (w.forCall tape i) i.args ds p hsh hx' hA (fun j t v ht hv=>⟨w.heap.size,hval j t v (by simpa using ht) hv⟩) hsz hlt).mono fun e W' ⟨he,hbel⟩=>?_
 subst he
 refine ChangeSpec.post_blind ⟨ds,[],p ++ [],[],p,[],hW',?_,?_,?_,hbel.frame _,fun h=>by cases h⟩
 ·simp only [List.append_nil]
  rw [hs ds hlen,hres]
  exact trodAll_mk1 (shut_bool hb true)
 ·simp only [List.append_nil]
  rw [hs ds hlen]
  exact trodAll_stays hl hbel hr hA hlt
 ·simp only [List.append_nil]
  rw [hs ds hlen,hvars]
  exact rfl
end Go.Proofs.YtmdogmpcmkfjpaaGreatDoor.Lift
