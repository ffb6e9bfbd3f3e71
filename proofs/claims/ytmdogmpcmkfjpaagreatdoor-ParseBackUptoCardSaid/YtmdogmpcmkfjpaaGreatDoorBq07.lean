import Derived.Test.YtmdogmpcmkfjpaaGreatDoorRows
import Derived.OpenShut
import Derived.SizedLaws
import Derived.Deep.DeepHandedRow
import Derived.LaidMore
import Derived.Lay
import Derived.Shelf.Strings.Builder1
import Derived.Shelf.Strings.Builder2
import Derived.Shelf.Strings.OnBuilder
import Derived.Shelf.Small.Strs
import Derived.Shelf.Strings.BuilderF
import Derived.Shelf.Strings.BuilderK
import Derived.Shelf.Strings.Builder2Cap
import Derived.Shelf.Strconv.Itoa0
import Derived.Shelf.Strconv.Itoa1
import Derived.Shelf.LaysM
import Derived.Shelf.Strconv.Itoa2
import Derived.Shelf.Strconv.Itoa3
import Derived.Shelf.Strconv.Itoa4
import Derived.Shelf.Strconv.Clone
import Derived.Shelf.Strconv.SyntaxError
import Derived.Shelf.LaysC
import Derived.Shelf.Strconv.ToError
import Derived.Shelf.Strconv.Lower
import Derived.Shelf.Strconv.ParseUint10
import Derived.Shelf.Strconv.ParseUint10Empty
import Derived.Shelf.Strconv.ParseUint10Any
import Derived.Shelf.Strconv.RangeError
import Derived.Shelf.Strconv.ToErrorRange
import Derived.Shelf.Strconv.ParseUintEmpty
import Derived.Shelf.Strconv.ParseUint10b64
import Derived.Shelf.Strconv.ParseUint10b32
import Derived.Shelf.Strconv.ParseUint10b16
import Derived.Shelf.Strconv.ParseUint10b8
import Derived.Shelf.Strconv.ParseUint10At
import Derived.Ground.MpProg
import Derived.Shelf.Pu.ParseUintPublic10
import Derived.Shelf.Pu.ErrVarParseUint
import Derived.Shelf.Strings.Search1
import Derived.Shelf.Strings.Search2
import Derived.Shelf.Strings.Search3
import Derived.Shelf.Strings.Count
import Derived.Shelf.Strings.Shaped
import Derived.Shelf.Strings.Prefix
import Derived.Shelf.Strings.Split
import Derived.Shelf.Strings.Fields
import Derived.Shelf.Strings.Replace
import Derived.Shelf.Strings.SplitShaped
import Derived.Test.YtmdogmpcmkfjpaaGreatDoorProg
import Derived.WalkLawsBesides
import Derived.Laws.BytesArg
import Derived.Laws.IdiomStrings
import Derived.Laws.Bits64
import Derived.Test.YtmdogmpcmkfjpaaGreatDoorBq00
set_option maxRecDepth 100000
set_option maxHeartbeats 64000000
/- Part. -/
namespace Go.Proofs.YtmdogmpcmkfjpaaGreatDoor.Lift
open Go.ChangeShapes Go.WideShapes Go.ChangeAt Go.RowKit
theorem Zfn {H:Type} {enc:TypeId × Value→H} {P:Program} (hl:laidOutB P=true) {W W':World} (hb:Below W.heap.size W W') :
 ∀ {ts:List TypeId} {vs:List Value} {ds:List (DataW H)} {ps:List MemPlace},(∀ t ∈ ts,P.readableRec t=true∧t < P.types.size) →
   DataW.TrodAll enc P W 0 (fun _=>true) true ts vs ds ps→(∀ x ∈ ps,x.block < W.heap.size) →
   DataW.TrodAll enc P W' 0 (fun b=>decide (b < W.heap.size)) true ts vs ds ps
 | [],_,_,_,_,h,_=>by
  obtain ⟨rfl,rfl,rfl⟩:=trodAll_nil h
  exact trodAll_mk0
 | t :: ts,_,_,_,hr,h,hlt=>by
  obtain ⟨v,vs1,d,ds1,a,b,rfl,rfl,rfl,h1,h2⟩:=trodAll_cons h
  have h0:=hr t kY
  exact ⟨a,b,Below.trod hl h0.1 h0.2 h1 hb (fun x hx=>hlt x kb66),
   Zfn hl hb (fun t' ht'=>hr t' (by simp [ht'])) h2 (fun x hx=>hlt x kb66),rfl⟩
theorem Zd1 {H:Type} {enc:TypeId × Value→H} {P:Program} {W:World} {base:Nat} {sp:Nat→Bool} {held:Bool} :
 ∀ {ts:List TypeId} {vs:List Value} {ds:List (DataW H)} {ps:List MemPlace},DataW.TrodAll enc P W base sp held ts vs ds ps→ds.length=ts.length
 | [],_,_,_,h=>by obtain ⟨rfl,rfl,rfl⟩:=trodAll_nil h;rfl
 | _ :: _,_,_,_,h=>by
  obtain ⟨v,vs1,d,ds1,a,b,rfl,rfl,rfl,h1,h2⟩:=trodAll_cons h
  simp [Zd1 h2]
def Owes {H:Type} (enc:TypeId × Value→H) (P:Program) (f:FuncId) (ts:List TypeId) (W:World) (args:Array Value) (ds:List (DataW H)) (p:List MemPlace):Prop:=
 DataW.TrodAll enc P W 0 (fun _=>true) true ts args.toList ds p →
 (∀ (j:Nat) t v,ts[j]? = some t→args[j]? = some v→∃ base,Value.okWide P W .any base t v) →
 (DataW.weightsEach P ts ds).all (· ≤ reachBytes)=true →
 (∀ x ∈ p,x.block < W.heap.size) →
 Calls P f args W fun e W'=>e = .returned (.bool true)∧Below W.heap.size W W'
theorem lifted {C:Checked} {os:Os} {f:FuncId} {fn:Func} {s:ChangeSpec} {apart:Bool} {H:Type} {enc:TypeId × Value→H}
 (own:ownKnob C.prog.godebug=none) (started:os.Started) (noInit:C.prog.inits.idxOf? f=none) (hfn:C.prog.funcs[f]? = some fn)
 (witness:∃ (w:World) (tape:Tape) (i:Input),w.os=os∧(w.forCall tape i).Shaped C.prog∧i.vars = []∧Input.okWide C.prog (w.forCall tape i) .any w.heap.size f i ∧
  s.pre6 enc C.prog fn [] apart (w.forCall tape i).memory i.args∧({} : Assume).holds C.prog (lone (Frame.enter C.prog f i.args .normal) [] (w.forCall tape i)))
 (hl:laidOutB C.prog=true) (hr:∀ t ∈ fn.params.toList,C.prog.readableRec t=true∧t < C.prog.types.size)
 (hvars:s.vars = []) (tb:TypeId) (hres:fn.resultTypes = #[tb]) (hb:C.prog.underlying tb=some .bool)
 (hs:∀ ds:List (DataW H),ds.length=fn.params.toList.length→s.fn H ds = { results:=[.lit (.bool true)],args:=ds })
 (walk:∀ (W:World) (args:Array Value) (ds:List (DataW H)) (p:List MemPlace),Owes enc C.prog f fn.params.toList W args ds p) :
 ReturnsInHanded {} C os f .any (s.pre6 enc C.prog fn [] apart) (s.post enc C.prog fn apart true false false):=by
 refine returnsInHanded_of_change_sized own started noInit hfn witness ?_
 intro W base args ds gs before hval hW _ hsz _
 have hW':=hW
 obtain ⟨p,q,hA,hV,rfl,_,_⟩:=hW
 rw [hvars] at hV
 obtain ⟨rfl,rfl⟩:=trodVars_none hV
 have hlen:=Zd1 hA
 have hlt:∀ x ∈ p,x.block < W.heap.size:=fun x hx=>by simpa using hW'.lt x kb66
 have hvt:s.plain.varTypes C.prog = []:=by
  simp [ChangeSpec.plain,DataSpec.varTypes,hvars]
 rw [hvt] at hsz
 simp only [List.append_nil] at hsz
 refine (walk W args ds p hA (fun j t v ht hv=>⟨base,hval j t v kb79 hv⟩) hsz hlt).mono fun e W' ⟨he,hbel⟩=>?_
 subst he
 refine ⟨_,rfl,ds,[],p ++ [],[],p,[],hW',?_,?_,?_,hbel.frame _,fun h=>by cases h⟩
 ·simp only [List.append_nil]
  rw [hs ds hlen,hres]
  exact trodAll_mk1 (shut_bool hb true)
 ·simp only [List.append_nil]
  rw [hs ds hlen]
  exact Zfn hl hbel hr hA hlt
 simp only [List.append_nil]
 rw [hs ds hlen,hvars]
 exact rfl
end Go.Proofs.YtmdogmpcmkfjpaaGreatDoor.Lift
namespace Go.Proofs.YtmdogmpcmkfjpaaGreatDoor.Lift
open Go.ChangeShapes Go.WideShapes Go.ChangeAt Go.RowKit
theorem witness_rowZ {H:Type} {enc:TypeId × Value→H} {C:Checked} {os:Os} {f:FuncId} {fn:Func} {S:OpenSpec} {conds:List PathCond} {apart:Bool} {laid:List (String × DataW Unit)} (modest:Bool) (w0:World) (args:Array Value) (hos:w0.os=os)
 (hsh:(w0.forCall (fun _ _=>0) ⟨#[],args,[]⟩).Shaped C.prog) (hok:Input.okWideB C.prog (w0.forCall (fun _ _=>0) ⟨#[],args,[]⟩) f ⟨#[],args,[]⟩=true)
 (hrow:S.preRow enc C.prog fn conds apart laid (w0.forCall (fun _ _=>0) ⟨#[],args,[]⟩).memory args) :
 ∃ (w:World) (tape:Tape) (i:Input),w.os=os∧(w.forCall tape i).Shaped C.prog∧i.vars = []∧Input.okWide C.prog (w.forCall tape i) .any w.heap.size f i ∧
   S.preRow enc C.prog fn conds apart laid (w.forCall tape i).memory i.args∧({ modest:=modest } : Assume).holds C.prog (lone (Frame.enter C.prog f i.args .normal) [] (w.forCall tape i)):=
 ⟨w0,fun _ _=>0,⟨#[],args,[]⟩,hos,hsh,(Input.okWide_of_okWideB (base:=0) hok).1,(Input.okWide_of_okWideB hok).2,hrow,by
  simp only [Assume.holds]
  exact ⟨by simp,by simp,fun _=>Modest.zero,by simp,by simp⟩⟩
theorem liftedU {C:Checked} {os:Os} {f:FuncId} {fn:Func} {s:ChangeSpec} {S:OpenSpec} {k:(H:Type)→List (DataW H)→Bool} {F:Stop.Interp} {apart:Bool} {H:Type} {enc:TypeId × Value→H} {laid:List (String × DataW Unit)}
 (hSv:S.vars=s.vars) (hSk:S.cond=some k) (hSt:S.bare.plain.varTypes C.prog = [])
 (hSp:∀ (W:World) (args:Array Value) (v:Value) (W':World),s.post enc C.prog fn apart true false false W args v W'→(S.at F).post enc C.prog fn apart true false false W args v W')
 (own:ownKnob C.prog.godebug=none) (started:os.Started) (noInit:C.prog.inits.idxOf? f=none) (hfn:C.prog.funcs[f]? = some fn)
 (witness:∃ (w:World) (tape:Tape) (i:Input),w.os=os∧(w.forCall tape i).Shaped C.prog∧i.vars = []∧Input.okWide C.prog (w.forCall tape i) .any w.heap.size f i ∧
  S.preRow enc C.prog fn [] apart laid (w.forCall tape i).memory i.args∧({} : Assume).holds C.prog (lone (Frame.enter C.prog f i.args .normal) [] (w.forCall tape i)))
 (hl:laidOutB C.prog=true) (hr:∀ t ∈ fn.params.toList,C.prog.readableRec t=true∧t < C.prog.types.size)
 (hvars:s.vars = []) (tb:TypeId) (hres:fn.resultTypes = #[tb]) (hb:C.prog.underlying tb=some .bool)
 (hs:∀ ds:List (DataW H),ds.length=fn.params.toList.length→s.fn H ds = { results:=[.lit (.bool true)],args:=ds })
 (walk:∀ (W:World) (args:Array Value) (ds:List (DataW H)) (p:List MemPlace),W.ShapedOpen C.prog→laidMetH C.prog laid W→k H ds=true→Owes enc C.prog f fn.params.toList W args ds p) :
 ReturnsInHanded {} C os f .any (S.preRow enc C.prog fn [] apart laid) ((S.at F).post enc C.prog fn apart true false false):=by
 refine returnsInHanded_of_row own started noInit hfn witness ?_
 intro W base args ds gs before hval hW _ hcond hsz hL hsh _
 rw [hSv] at hW
 have hW':=hW
 obtain ⟨p,q,hA,hV,rfl,_,_⟩:=hW
 rw [hvars] at hV
 obtain ⟨rfl,rfl⟩:=trodVars_none hV
 have hlen:=Zd1 hA
 have hlt:∀ x ∈ p,x.block < W.heap.size:=fun x hx=>by simpa using hW'.lt x kb66
 rw [hSt] at hsz
 simp only [List.append_nil] at hsz
 have hk:=hcond k hSk
 simp only [List.append_nil] at hk
 refine (walk W args ds p hsh hL hk hA (fun j t v ht hv=>⟨base,hval j t v kb79 hv⟩) hsz hlt).mono fun e W' ⟨he,hbel⟩=>?_
 subst he
 refine ⟨_,rfl,hSp _ _ _ _ ?_⟩
 refine ⟨ds,[],p ++ [],[],p,[],hW',?_,?_,?_,hbel.frame _,fun h=>by cases h⟩
 ·simp only [List.append_nil]
  rw [hs ds hlen,hres]
  exact trodAll_mk1 (shut_bool hb true)
 ·simp only [List.append_nil]
  rw [hs ds hlen]
  exact Zfn hl hbel hr hA hlt
 simp only [List.append_nil]
 rw [hs ds hlen,hvars]
 exact rfl
end Go.Proofs.YtmdogmpcmkfjpaaGreatDoor.Lift
namespace Go.Proofs
open Go.Shelf
def Tryz.lays169_ren:Go.Shelf.Ren:=⟨fun | 169=>26 | n=>n,fun | 70=>62 | 9=>9 | 0=>0 | 72=>65 | 37=>63 | 127=>122 | 3=>3 | 5=>5 | n=>n,fun | n=>n⟩
theorem Tryz.lays169:Go.Proofs.Lays.n169 Tryz.prog Tryz.lays169_ren:={
 mixed:=kR
 f169:=Tryz.func26.trans kC
 t0:=Tryz.underlying0
 a0:=Tryz.isAgg0
 z0:=Tryz.sizeOf0
 v0:=Tryz.zeroValue0
 t3:=Tryz.underlying3
 a3:=Tryz.isAgg3
 z3:=Tryz.sizeOf3
 v3:=Tryz.zeroValue3
 t9:=Tryz.underlying9
 a9:=Tryz.isAgg9
 z9:=Tryz.sizeOf9
 v9:=Tryz.zeroValue9
 t37:=Tryz.underlying63
 a37:=Tryz.isAgg63
 z37:=Tryz.sizeOf63
 v37:=Tryz.zeroValue63
 t70:=Tryz.underlying62
 a70:=Tryz.isAgg62
 z70:=Tryz.sizeOf62
 v70:=Tryz.zeroValue62
 t72:=Tryz.underlying65
 a72:=Tryz.isAgg65
 z72:=Tryz.sizeOf65
 v72:=Tryz.zeroValue65
 t127:=Tryz.underlying122
 a127:=Tryz.isAgg122
 z127:=Tryz.sizeOf122
 v127:=Tryz.zeroValue122 }
theorem Tryz.Builder_Extra_169:Builder.Extra Tryz.prog Tryz.lays169_ren:={
 sizeBuilder:=kR
 liesBuilder:=kR
 t5:=Tryz.underlying5
 a5:=Tryz.isAgg5
 z5:=Tryz.sizeOf5
 v5:=Tryz.zeroValue5
 infoByte:=kR
 cellsByte:=kR
 sizeByte:=kR
 neB5:=by decide }
def Tryz.lays156_ren:Go.Shelf.Ren:=⟨fun | 156=>108 | 165=>137 | 166=>96 | 169=>26 | 240=>133 | 241=>153 | 276=>151 | 277=>180 | n=>n,fun | 31=>23 | 9=>9 | 3=>3 | 4=>4 | 0=>0 | 20=>20 | 72=>65 | 76=>152 | 70=>62 | 37=>63 | 75=>151 | 127=>122 | 164=>190 | 5=>5 | 80=>71 | n=>n,fun | n=>n⟩
theorem Tryz.lays156:Go.Proofs.Lays.n156 Tryz.prog Tryz.lays156_ren:={
 mixed:=kR
 f156:=Tryz.func108.trans kC
 f165:=Tryz.func137.trans kC
 f166:=Tryz.func96.trans kC
 f169:=Tryz.func26.trans kC
 f240:=Tryz.func133.trans kC
 f241:=Tryz.func153.trans kC
 f276:=Tryz.func151.trans kC
 f277:=Tryz.func180.trans kC
 t0:=Tryz.underlying0
 a0:=Tryz.isAgg0
 z0:=Tryz.sizeOf0
 v0:=Tryz.zeroValue0
 t3:=Tryz.underlying3
 a3:=Tryz.isAgg3
 z3:=Tryz.sizeOf3
 v3:=Tryz.zeroValue3
 t4:=Tryz.underlying4
 a4:=Tryz.isAgg4
 z4:=Tryz.sizeOf4
 v4:=Tryz.zeroValue4
 t9:=Tryz.underlying9
 a9:=Tryz.isAgg9
 z9:=Tryz.sizeOf9
 v9:=Tryz.zeroValue9
 t20:=Tryz.underlying20
 a20:=Tryz.isAgg20
 z20:=Tryz.sizeOf20
 v20:=Tryz.zeroValue20
 t31:=Tryz.underlying23
 a31:=Tryz.isAgg23
 z31:=Tryz.sizeOf23
 v31:=Tryz.zeroValue23
 t37:=Tryz.underlying63
 a37:=Tryz.isAgg63
 z37:=Tryz.sizeOf63
 v37:=Tryz.zeroValue63
 t70:=Tryz.underlying62
 a70:=Tryz.isAgg62
 z70:=Tryz.sizeOf62
 v70:=Tryz.zeroValue62
 t72:=Tryz.underlying65
 a72:=Tryz.isAgg65
 z72:=Tryz.sizeOf65
 v72:=Tryz.zeroValue65
 t75:=Tryz.underlying151
 a75:=Tryz.isAgg151
 z75:=Tryz.sizeOf151
 v75:=Tryz.zeroValue151
 t76:=Tryz.underlying152
 a76:=Tryz.isAgg152
 z76:=Tryz.sizeOf152
 v76:=Tryz.zeroValue152
 t127:=Tryz.underlying122
 a127:=Tryz.isAgg122
 z127:=Tryz.sizeOf122
 v127:=Tryz.zeroValue122
 t164:=Tryz.underlying190
 a164:=Tryz.isAgg190
 z164:=Tryz.sizeOf190
 v164:=Tryz.zeroValue190 }
theorem Tryz.Builder_Extra_156:Builder.Extra Tryz.prog Tryz.lays156_ren:={
 sizeBuilder:=kR
 liesBuilder:=kR
 t5:=Tryz.underlying5
 a5:=Tryz.isAgg5
 z5:=Tryz.sizeOf5
 v5:=Tryz.zeroValue5
 infoByte:=kR
 cellsByte:=kR
 sizeByte:=kR
 neB5:=by decide }
open Go.RowKit in
theorem Tryz.strings_Join_none (a:Option Addr) (c:Nat) (sep:ByteArray) (w:World) :
 Calls Tryz.prog 108 #[.slice a 0 c,.string sep] w fun e w'=>e = .returned (eS)∧w'=w:=Any.strings_Join_none Tryz.lays156 Tryz.Builder_Extra_156 a c sep w
open Go.RowKit in
theorem Tryz.strings_Join (bk o c:Nat) (xs:List ByteArray) (sep:ByteArray) (w:World) (hcells:∀ (j:Nat) x,xs[j]? = some x→w.cell? ⟨bk,o + j,none⟩=some (.string x)) (hbk:bk < w.heap.size) (hN:xs.length ≤ 140737488355328) (hcap:xs.length ≤ c) (hlen:(Lib.join (xs.map (·.data.toList)) sep.data.toList).length ≤ 140737488355328) :
 Calls Tryz.prog 108 #[.slice (some ⟨bk,o,none⟩) xs.length c,.string sep] w fun e w'=>e = .returned (.string ⟨(Lib.join (xs.map (·.data.toList)) sep.data.toList).toArray⟩)∧Below w.heap.size w w':=Any.strings_Join Tryz.lays156 Tryz.Builder_Extra_156 bk o c xs sep w hcells hbk hN hcap hlen
def Tryz.lays137_ren:Go.Shelf.Ren:=⟨fun | 137=>138 | 217=>154 | 266=>181 | n=>n,fun | 9=>9 | 5=>5 | 3=>3 | n=>n,fun | n=>n⟩
theorem Tryz.lays137:Go.Proofs.Lays.n137 Tryz.prog Tryz.lays137_ren:={
 mixed:=kR
 f137:=Tryz.func138.trans kC
 f217:=Tryz.func154.trans kC
 f266:=Tryz.func181.trans kC
 t3:=Tryz.underlying3
 a3:=Tryz.isAgg3
 z3:=Tryz.sizeOf3
 v3:=Tryz.zeroValue3
 t5:=Tryz.underlying5
 a5:=Tryz.isAgg5
 z5:=Tryz.sizeOf5
 v5:=Tryz.zeroValue5
 t9:=Tryz.underlying9
 a9:=Tryz.isAgg9
 z9:=Tryz.sizeOf9
 v9:=Tryz.zeroValue9 }
open Go.RowKit in
theorem Tryz.strings_IndexByte (s:ByteArray) (c:Int) (w:World) :
 Calls Tryz.prog 138 #[.string s,.int .u8 c] w fun e w'=>e = .returned (.int .i64 (Lib.indexByte s.data.toList c.toNat.toUInt8))∧w'=w:=Any.strings_IndexByte Tryz.lays137 s c w
def Tryz.lays283_ren:Go.Shelf.Ren:=⟨fun | 283=>161 | n=>n,fun | 3=>3 | 9=>9 | 4=>4 | n=>n,fun | n=>n⟩
theorem Tryz.lays283:Go.Proofs.Lays.n283 Tryz.prog Tryz.lays283_ren:={
 mixed:=kR
 f283:=Tryz.func161.trans kC
 t3:=Tryz.underlying3
 a3:=Tryz.isAgg3
 z3:=Tryz.sizeOf3
 v3:=Tryz.zeroValue3
 t4:=Tryz.underlying4
 a4:=Tryz.isAgg4
 z4:=Tryz.sizeOf4
 v4:=Tryz.zeroValue4
 t9:=Tryz.underlying9
 a9:=Tryz.isAgg9
 z9:=Tryz.sizeOf9
 v9:=Tryz.zeroValue9 }
open Go.Lib in
theorem Tryz.internal_strconv_small (i:Nat) (h:i < 100) (w:World) :
 Calls Tryz.prog 161 #[.int .i64 i] w fun e w'=>e = .returned (.string ⟨(Lib.decDigits i).toArray⟩)∧w'=w:=Any.internal_strconv_small Tryz.lays283 i h w
def Tryz.laysM284_ren:Go.Shelf.Ren:=⟨fun | 284=>162 | 129=>193 | 317=>192 | 318=>194 | n=>n,fun | 53=>126 | 3=>3 | 212=>218 | 0=>0 | 4=>4 | 46=>177 | 5=>5 | 9=>9 | n=>n,fun | 17=>1 | n=>n⟩
theorem Tryz.laysM284:Go.Proofs.LaysM.n284 Tryz.prog Tryz.laysM284_ren:={
 mixed:=kR
 f129:=Tryz.func193.trans kC
 f284:=Tryz.func162.trans kC
 f317:=Tryz.func192.trans kC
 f318:=Tryz.func194.trans kC
 t0:=Tryz.underlying0
 a0:=Tryz.isAgg0
 z0:=Tryz.sizeOf0
 v0:=Tryz.zeroValue0
 t3:=Tryz.underlying3
 a3:=Tryz.isAgg3
 z3:=Tryz.sizeOf3
 v3:=Tryz.zeroValue3
 t4:=Tryz.underlying4
 a4:=Tryz.isAgg4
 z4:=Tryz.sizeOf4
 v4:=Tryz.zeroValue4
 t5:=Tryz.underlying5
 a5:=Tryz.isAgg5
 z5:=Tryz.sizeOf5
 v5:=Tryz.zeroValue5
 t9:=Tryz.underlying9
 a9:=Tryz.isAgg9
 z9:=Tryz.sizeOf9
 v9:=Tryz.zeroValue9
 t46:=Tryz.underlying177
 a46:=Tryz.isAgg177
 z46:=Tryz.sizeOf177
 v46:=Tryz.zeroValue177
 t53:=Tryz.underlying126
 a53:=Tryz.isAgg126
 z53:=Tryz.sizeOf126
 v53:=Tryz.zeroValue126
 t212:=Tryz.underlying218
 a212:=Tryz.isAgg218
 z212:=Tryz.sizeOf218
 v212:=Tryz.zeroValue218
 g17:=kR
 i0:=kR
 i3:=kR
 i4:=kR
 i5:=kR
 i9:=kR
 i46:=kR
 i53:=kR
 i212:=kR
 m17:=by kernel_rfl }
open Go.Lib in
theorem Tryz.internal_strconv_numDigits (u:Nat) (h1:1 ≤ u) (h2:u < 18446744073709551616) (w:World) (htab:Lib.TabIs Tryz.prog w "internal/strconv.uint64pow10" .u64 Lib.pow10Tab) :
 Calls Tryz.prog 162 #[.int .u64 u] w fun e w'=>e = .returned (.int .i64 (Lib.nDigits u))∧w'=w:=Any.internal_strconv_numDigits Tryz.laysM284 u h1 h2 w htab
def Tryz.lays285_ren:Go.Shelf.Ren:=⟨fun | 285=>163 | n=>n,fun | 37=>63 | 53=>126 | 3=>3 | 4=>4 | 51=>219 | 9=>9 | 5=>5 | 0=>0 | n=>n,fun | n=>n⟩
theorem Tryz.lays285:Go.Proofs.Lays.n285 Tryz.prog Tryz.lays285_ren:={
 mixed:=kR
 f285:=Tryz.func163.trans kC
 t0:=Tryz.underlying0
 a0:=Tryz.isAgg0
 z0:=Tryz.sizeOf0
 v0:=Tryz.zeroValue0
 t3:=Tryz.underlying3
 a3:=Tryz.isAgg3
 z3:=Tryz.sizeOf3
 v3:=Tryz.zeroValue3
 t4:=Tryz.underlying4
 a4:=Tryz.isAgg4
 z4:=Tryz.sizeOf4
 v4:=Tryz.zeroValue4
 t5:=Tryz.underlying5
 a5:=Tryz.isAgg5
 z5:=Tryz.sizeOf5
 v5:=Tryz.zeroValue5
 t9:=Tryz.underlying9
 a9:=Tryz.isAgg9
 z9:=Tryz.sizeOf9
 v9:=Tryz.zeroValue9
 t37:=Tryz.underlying63
 a37:=Tryz.isAgg63
 z37:=Tryz.sizeOf63
 v37:=Tryz.zeroValue63
 t51:=Tryz.underlying219
 a51:=Tryz.isAgg219
 z51:=Tryz.sizeOf219
 v51:=Tryz.zeroValue219
 t53:=Tryz.underlying126
 a53:=Tryz.isAgg126
 z53:=Tryz.sizeOf126
 v53:=Tryz.zeroValue126 }
open Go.RowKit Go.Sort Go.Lib in
theorem Tryz.internal_strconv_formatBase10 (blk off cap:Nat) (u:Nat) (d:Array UInt8) (w:World) (hH:Holds (fun (b:UInt8)=>Value.int .u8 (b.toNat:Int)) w blk off d) (hu:u < 10 ^ d.size) (hu64:u < 18446744073709551616) (hsz:d.size < 4611686018427387904) :
 Calls Tryz.prog 163 #[.slice (some ⟨blk,off,none⟩) d.size cap,.int .u64 u] w fun e w'=>
  e = .returned (.tuple #[])∧∃ (n v':Nat) (dk:Array UInt8),w'=(putRow (fun (b:UInt8)=>Value.int .u8 (b.toNat:Int)) w blk off dk).drewN n∧FmtInv d.size u 0 v' dk:=Any.internal_strconv_formatBase10 Tryz.lays285 blk off cap u d w hH hu hu64 hsz
def Tryz.laysM171_ren:Go.Shelf.Ren:=⟨fun | 171=>105 | 243=>134 | 246=>147 | 283=>161 | 284=>162 | 285=>163 | 286=>164 | 129=>193 | 317=>192 | 318=>194 | 319=>195 | 320=>196 | 337=>209 | 338=>210 | n=>n,fun | 3=>3 | 9=>9 | 2=>2 | 4=>4 | 171=>194 | 0=>0 | 53=>126 | 37=>63 | 5=>5 | 173=>197 | 212=>218 | 51=>219 | 20=>20 | 213=>220 | 46=>177 | 232=>253 | 233=>254 | n=>n,fun | 17=>1 | 18=>8 | 19=>9 | n=>n⟩
theorem Tryz.laysM171:Go.Proofs.LaysM.n171 Tryz.prog Tryz.laysM171_ren:={
 mixed:=kR
 f129:=Tryz.func193.trans kC
 f171:=Tryz.func105.trans kC
 f243:=Tryz.func134.trans kC
 f246:=Tryz.func147.trans kC
 f283:=Tryz.func161.trans kC
 f284:=Tryz.func162.trans kC
 f285:=Tryz.func163.trans kC
 f286:=Tryz.func164.trans kC
 f317:=Tryz.func192.trans kC
 f318:=Tryz.func194.trans kC
 f319:=Tryz.func195.trans kC
 f320:=Tryz.func196.trans kC
 f337:=Tryz.func209.trans kC
 f338:=Tryz.func210.trans kC
 t0:=Tryz.underlying0
 a0:=Tryz.isAgg0
 z0:=Tryz.sizeOf0
 v0:=Tryz.zeroValue0
 t2:=Tryz.underlying2
 a2:=Tryz.isAgg2
 z2:=Tryz.sizeOf2
 v2:=Tryz.zeroValue2
 t3:=Tryz.underlying3
 a3:=Tryz.isAgg3
 z3:=Tryz.sizeOf3
 v3:=Tryz.zeroValue3
 t4:=Tryz.underlying4
 a4:=Tryz.isAgg4
 z4:=Tryz.sizeOf4
 v4:=Tryz.zeroValue4
 t5:=Tryz.underlying5
 a5:=Tryz.isAgg5
 z5:=Tryz.sizeOf5
 v5:=Tryz.zeroValue5
 t9:=Tryz.underlying9
 a9:=Tryz.isAgg9
 z9:=Tryz.sizeOf9
 v9:=Tryz.zeroValue9
 t20:=Tryz.underlying20
 a20:=Tryz.isAgg20
 z20:=Tryz.sizeOf20
 v20:=Tryz.zeroValue20
 t37:=Tryz.underlying63
 a37:=Tryz.isAgg63
 z37:=Tryz.sizeOf63
 v37:=Tryz.zeroValue63
 t46:=Tryz.underlying177
 a46:=Tryz.isAgg177
 z46:=Tryz.sizeOf177
 v46:=Tryz.zeroValue177
 t51:=Tryz.underlying219
 a51:=Tryz.isAgg219
 z51:=Tryz.sizeOf219
 v51:=Tryz.zeroValue219
 t53:=Tryz.underlying126
 a53:=Tryz.isAgg126
 z53:=Tryz.sizeOf126
 v53:=Tryz.zeroValue126
 t171:=Tryz.underlying194
 a171:=Tryz.isAgg194
 z171:=Tryz.sizeOf194
 v171:=Tryz.zeroValue194
 t173:=Tryz.underlying197
 a173:=Tryz.isAgg197
 z173:=Tryz.sizeOf197
 v173:=Tryz.zeroValue197
 t212:=Tryz.underlying218
 a212:=Tryz.isAgg218
 z212:=Tryz.sizeOf218
 v212:=Tryz.zeroValue218
 t213:=Tryz.underlying220
 a213:=Tryz.isAgg220
 z213:=Tryz.sizeOf220
 t232:=Tryz.underlying253
 a232:=Tryz.isAgg253
 z232:=Tryz.sizeOf253
 v232:=Tryz.zeroValue253
 t233:=Tryz.underlying254
 a233:=Tryz.isAgg254
 z233:=Tryz.sizeOf254
 v233:=Tryz.zeroValue254
 g17:=kR
 g18:=kR
 g19:=kR
 i0:=kR
 i2:=kR
 i3:=kR
 i4:=kR
 i5:=kR
 i9:=kR
 i20:=kR
 i37:=kR
 i46:=kR
 i51:=kR
 i53:=kR
 i171:=kR
 i173:=kR
 i212:=kR
 i232:=kR
 i233:=kR
 m17:=kR
 m18:=kR
 m19:=by kernel_rfl }
open Go.RowKit Go.Sort Go.Lib in
theorem Tryz.strconv_Itoa (n:Int) (h0:-9223372036854775808 ≤ n) (h1:n ≤ 9223372036854775807) (w:World) (htab:Lib.TabIs Tryz.prog w "internal/strconv.uint64pow10" .u64 Lib.pow10Tab) :
 Calls Tryz.prog 105 #[.int .i64 n] w fun e w'=>e = .returned (.string ⟨(Lib.itoa n).toArray⟩)∧∃ k os,w'=grow (w.drewN k) os:=Any.strconv_Itoa Tryz.laysM171 n h0 h1 w htab
def Tryz.laysM173_ren:Go.Shelf.Ren:=⟨fun | 173=>130 | 246=>147 | 283=>161 | 284=>162 | 285=>163 | 286=>164 | 129=>193 | 317=>192 | 318=>194 | 319=>195 | 320=>196 | 337=>209 | 338=>210 | n=>n,fun | 2=>2 | 3=>3 | 9=>9 | 4=>4 | 171=>194 | 0=>0 | 53=>126 | 37=>63 | 5=>5 | 173=>197 | 212=>218 | 51=>219 | 20=>20 | 213=>220 | 46=>177 | 232=>253 | 233=>254 | n=>n,fun | 17=>1 | 18=>8 | 19=>9 | n=>n⟩
theorem Tryz.laysM173:Go.Proofs.LaysM.n173 Tryz.prog Tryz.laysM173_ren:={
 mixed:=kR
 f129:=Tryz.func193.trans kC
 f173:=Tryz.func130.trans kC
 f246:=Tryz.func147.trans kC
 f283:=Tryz.func161.trans kC
 f284:=Tryz.func162.trans kC
 f285:=Tryz.func163.trans kC
 f286:=Tryz.func164.trans kC
 f317:=Tryz.func192.trans kC
 f318:=Tryz.func194.trans kC
 f319:=Tryz.func195.trans kC
 f320:=Tryz.func196.trans kC
 f337:=Tryz.func209.trans kC
 f338:=Tryz.func210.trans kC
 t0:=Tryz.underlying0
 a0:=Tryz.isAgg0
 z0:=Tryz.sizeOf0
 v0:=Tryz.zeroValue0
 t2:=Tryz.underlying2
 a2:=Tryz.isAgg2
 z2:=Tryz.sizeOf2
 v2:=Tryz.zeroValue2
 t3:=Tryz.underlying3
 a3:=Tryz.isAgg3
 z3:=Tryz.sizeOf3
 v3:=Tryz.zeroValue3
 t4:=Tryz.underlying4
 a4:=Tryz.isAgg4
 z4:=Tryz.sizeOf4
 v4:=Tryz.zeroValue4
 t5:=Tryz.underlying5
 a5:=Tryz.isAgg5
 z5:=Tryz.sizeOf5
 v5:=Tryz.zeroValue5
 t9:=Tryz.underlying9
 a9:=Tryz.isAgg9
 z9:=Tryz.sizeOf9
 v9:=Tryz.zeroValue9
 t20:=Tryz.underlying20
 a20:=Tryz.isAgg20
 z20:=Tryz.sizeOf20
 v20:=Tryz.zeroValue20
 t37:=Tryz.underlying63
 a37:=Tryz.isAgg63
 z37:=Tryz.sizeOf63
 v37:=Tryz.zeroValue63
 t46:=Tryz.underlying177
 a46:=Tryz.isAgg177
 z46:=Tryz.sizeOf177
 v46:=Tryz.zeroValue177
 t51:=Tryz.underlying219
 a51:=Tryz.isAgg219
 z51:=Tryz.sizeOf219
 v51:=Tryz.zeroValue219
 t53:=Tryz.underlying126
 a53:=Tryz.isAgg126
 z53:=Tryz.sizeOf126
 v53:=Tryz.zeroValue126
 t171:=Tryz.underlying194
 a171:=Tryz.isAgg194
 z171:=Tryz.sizeOf194
 v171:=Tryz.zeroValue194
 t173:=Tryz.underlying197
 a173:=Tryz.isAgg197
 z173:=Tryz.sizeOf197
 v173:=Tryz.zeroValue197
 t212:=Tryz.underlying218
 a212:=Tryz.isAgg218
 z212:=Tryz.sizeOf218
 v212:=Tryz.zeroValue218
 t213:=Tryz.underlying220
 a213:=Tryz.isAgg220
 z213:=Tryz.sizeOf220
 t232:=Tryz.underlying253
 a232:=Tryz.isAgg253
 z232:=Tryz.sizeOf253
 v232:=Tryz.zeroValue253
 t233:=Tryz.underlying254
 a233:=Tryz.isAgg254
 z233:=Tryz.sizeOf254
 v233:=Tryz.zeroValue254
 g17:=kR
 g18:=kR
 g19:=kR
 i0:=kR
 i2:=kR
 i3:=kR
 i4:=kR
 i5:=kR
 i9:=kR
 i20:=kR
 i37:=kR
 i46:=kR
 i51:=kR
 i53:=kR
 i171:=kR
 i173:=kR
 i212:=kR
 i232:=kR
 i233:=kR
 m17:=kR
 m18:=kR
 m19:=by kernel_rfl }
open Go.RowKit Go.Sort Go.Lib in
theorem Tryz.strconv_FormatInt_10 (n:Int) (h0:-9223372036854775808 ≤ n) (h1:n ≤ 9223372036854775807) (w:World) (htab:Lib.TabIs Tryz.prog w "internal/strconv.uint64pow10" .u64 Lib.pow10Tab) :
 Calls Tryz.prog 130 #[.int .i64 n,.int .i64 10] w fun e w'=>e = .returned (.string ⟨(Lib.itoa n).toArray⟩)∧∃ k os,w'=grow (w.drewN k) os:=Any.strconv_FormatInt_10 Tryz.laysM173 n h0 h1 w htab
def Tryz.laysPu14_ren:Go.Shelf.Ren:=⟨fun | 14=>143 | 16=>158 | 17=>159 | 19=>185 | 20=>186 | 21=>187 | 22=>188 | 23=>189 | 24=>190 | 25=>207 | 27=>105 | 26=>208 | 28=>134 | 29=>147 | 30=>161 | 31=>162 | 32=>163 | 33=>164 | 35=>193 | 34=>192 | 36=>194 | 37=>195 | 38=>196 | 39=>209 | 40=>210 | n=>n,fun | 9=>9 | 3=>3 | 22=>126 | 24=>151 | 25=>182 | 4=>4 | 34=>210 | 5=>5 | 36=>177 | 37=>63 | 0=>0 | 39=>212 | 21=>21 | 44=>233 | 47=>122 | 50=>252 | 48=>250 | 2=>2 | 52=>194 | 55=>197 | 59=>218 | 60=>219 | 20=>20 | 61=>220 | 65=>253 | 66=>254 | 67=>71 | n=>n,fun | 0=>4 | 1=>5 | 2=>1 | 3=>8 | 4=>9 | n=>n⟩
theorem Tryz.laysPu14:Go.Proofs.LaysPu.n14 Tryz.prog Tryz.laysPu14_ren:={
 mixed:=kR
 f14:=Tryz.func143.trans kC
 f16:=Tryz.func158.trans kC
 f17:=Tryz.func159.trans kC
 f19:=Tryz.func185.trans kC
 f20:=Tryz.func186.trans kC
 f21:=Tryz.func187.trans kC
 f22:=Tryz.func188.trans kC
 f23:=Tryz.func189.trans kC
 f24:=Tryz.func190.trans kC
 f25:=Tryz.func207.trans kC
 f26:=Tryz.func208.trans kC
 f27:=Tryz.func105.trans kC
 f28:=Tryz.func134.trans kC
 f29:=Tryz.func147.trans kC
 f30:=Tryz.func161.trans kC
 f31:=Tryz.func162.trans kC
 f32:=Tryz.func163.trans kC
 f33:=Tryz.func164.trans kC
 f34:=Tryz.func192.trans kC
 f35:=Tryz.func193.trans kC
 f36:=Tryz.func194.trans kC
 f37:=Tryz.func195.trans kC
 f38:=Tryz.func196.trans kC
 f39:=Tryz.func209.trans kC
 f40:=Tryz.func210.trans kC
 t0:=Tryz.underlying0
 a0:=Tryz.isAgg0
 z0:=Tryz.sizeOf0
 v0:=Tryz.zeroValue0
 i0:=kR
 t2:=Tryz.underlying2
 a2:=Tryz.isAgg2
 z2:=Tryz.sizeOf2
 v2:=Tryz.zeroValue2
 i2:=kR
 t3:=Tryz.underlying3
 a3:=Tryz.isAgg3
 z3:=Tryz.sizeOf3
 v3:=Tryz.zeroValue3
 i3:=kR
 t4:=Tryz.underlying4
 a4:=Tryz.isAgg4
 z4:=Tryz.sizeOf4
 v4:=Tryz.zeroValue4
 i4:=kR
 t5:=Tryz.underlying5
 a5:=Tryz.isAgg5
 z5:=Tryz.sizeOf5
 v5:=Tryz.zeroValue5
 i5:=kR
 t9:=Tryz.underlying9
 a9:=Tryz.isAgg9
 z9:=Tryz.sizeOf9
 v9:=Tryz.zeroValue9
 i9:=kR
 t20:=Tryz.underlying20
 a20:=Tryz.isAgg20
 z20:=Tryz.sizeOf20
 v20:=Tryz.zeroValue20
 i20:=kR
 t21:=Tryz.underlying21
 a21:=Tryz.isAgg21
 z21:=Tryz.sizeOf21
 v21:=Tryz.zeroValue21
 i21:=kR
 t22:=Tryz.underlying126
 a22:=Tryz.isAgg126
 z22:=Tryz.sizeOf126
 v22:=Tryz.zeroValue126
 i22:=kR
 t24:=Tryz.underlying151
 a24:=Tryz.isAgg151
 z24:=Tryz.sizeOf151
 v24:=Tryz.zeroValue151
 i24:=kR
 t25:=Tryz.underlying182
 a25:=Tryz.isAgg182
 z25:=Tryz.sizeOf182
 v25:=Tryz.zeroValue182
 i25:=kR
 t34:=Tryz.underlying210
 a34:=Tryz.isAgg210
 z34:=Tryz.sizeOf210
 v34:=Tryz.zeroValue210
 i34:=kR
 c34:=kR
 t36:=Tryz.underlying177
 a36:=Tryz.isAgg177
 z36:=Tryz.sizeOf177
 v36:=Tryz.zeroValue177
 i36:=kR
 t37:=Tryz.underlying63
 a37:=Tryz.isAgg63
 z37:=Tryz.sizeOf63
 v37:=Tryz.zeroValue63
 i37:=kR
 t39:=Tryz.underlying212
 a39:=Tryz.isAgg212
 z39:=Tryz.sizeOf212
 v39:=Tryz.zeroValue212
 i39:=kR
 t44:=Tryz.underlying233
 a44:=Tryz.isAgg233
 z44:=Tryz.sizeOf233
 v44:=Tryz.zeroValue233
 i44:=kR
 t47:=Tryz.underlying122
 a47:=Tryz.isAgg122
 z47:=Tryz.sizeOf122
 v47:=Tryz.zeroValue122
 i47:=kR
 t48:=Tryz.underlying250
 a48:=Tryz.isAgg250
 z48:=Tryz.sizeOf250
 v48:=Tryz.zeroValue250
 i48:=kR
 t50:=Tryz.underlying252
 a50:=Tryz.isAgg252
 z50:=Tryz.sizeOf252
 v50:=Tryz.zeroValue252
 i50:=kR
 t52:=Tryz.underlying194
 a52:=Tryz.isAgg194
 z52:=Tryz.sizeOf194
 v52:=Tryz.zeroValue194
 i52:=kR
 t55:=Tryz.underlying197
 a55:=Tryz.isAgg197
 z55:=Tryz.sizeOf197
 v55:=Tryz.zeroValue197
 i55:=kR
 t59:=Tryz.underlying218
 a59:=Tryz.isAgg218
 z59:=Tryz.sizeOf218
 v59:=Tryz.zeroValue218
 i59:=kR
 t60:=Tryz.underlying219
 a60:=Tryz.isAgg219
 z60:=Tryz.sizeOf219
 v60:=Tryz.zeroValue219
 i60:=kR
 t61:=Tryz.underlying220
 a61:=Tryz.isAgg220
 z61:=Tryz.sizeOf220
 t65:=Tryz.underlying253
 a65:=Tryz.isAgg253
 z65:=Tryz.sizeOf253
 v65:=Tryz.zeroValue253
 i65:=kR
 t66:=Tryz.underlying254
 a66:=Tryz.isAgg254
 z66:=Tryz.sizeOf254
 v66:=Tryz.zeroValue254
 i66:=kR
 t67:=Tryz.underlying71
 a67:=Tryz.isAgg71
 z67:=Tryz.sizeOf71
 v67:=Tryz.zeroValue71
 i67:=kR
 g0:=kR
 m0:=kR
 g1:=kR
 m1:=kR
 g2:=kR
 m2:=kR
 g3:=kR
 m3:=kR
 g4:=kR
 m4:=by kernel_rfl }
open Go.RowKit in
theorem Tryz.strconv_ParseUint_10_at64_ok (s:ByteArray) (hmax:s.size ≤ 9223372036854775806) (u:Nat) (h:Lib.parseUintB 64 s.data.toList = .ok u) (w:World) :
 Calls Tryz.prog 143 #[.string s,.int .i64 10,.int .i64 64] w fun e w'=>e = .returned (.tuple #[.int .u64 u,.nilIface])∧(w'=w ∨ w'=Lib.bytesWorld w 5 s):=Any.strconv_ParseUint_10_at64_ok Tryz.laysPu14 s hmax u h w
open Go.RowKit in
theorem Tryz.strconv_ParseUint_10_at64_syntax_var (s:ByteArray) (hlim:s.size ≤ 281474976710656) (h:Lib.parseUintB 64 s.data.toList=Lib.NumEnd.syntax) (tp:TypeId) (p:Value) (w:World) (hvar:w.var? Tryz.prog "strconv.ErrSyntax" = some #[.iface tp p]) :
 Calls Tryz.prog 143 #[.string s,.int .i64 10,.int .i64 64] w fun e w'=>∃ N,e = .returned (.tuple #[.int .u64 0,.iface 212 (pV N)])∧w.heap.size ≤ N∧w'.heap[N]? = some (.cells #[.string ⟨#[80,97,114,115,101,85,105,110,116]⟩,.string s,.iface tp p] 233 (0,0))∧Below w.heap.size w w':=Any.strconv_ParseUint_10_at64_syntax_var Tryz.laysPu14 s hlim h tp p w hvar
open Go.RowKit in
theorem Tryz.strconv_ParseUint_10_at64_range_var (s:ByteArray) (hlim:s.size ≤ 281474976710656) (h:Lib.parseUintB 64 s.data.toList = .range) (tp:TypeId) (p:Value) (w:World) (hvar:w.var? Tryz.prog "strconv.ErrRange" = some #[.iface tp p]) :
 Calls Tryz.prog 143 #[.string s,.int .i64 10,.int .i64 64] w fun e w'=>∃ N,e = .returned (.tuple #[.int .u64 18446744073709551615,.iface 212 (pV N)])∧w.heap.size ≤ N∧w'.heap[N]? = some (.cells #[.string ⟨#[80,97,114,115,101,85,105,110,116]⟩,.string s,.iface tp p] 233 (0,0))∧Below w.heap.size w w':=Any.strconv_ParseUint_10_at64_range_var Tryz.laysPu14 s hlim h tp p w hvar
def Tryz.lays102_ren:Go.Shelf.Ren:=⟨fun | 102=>69 | 209=>106 | 207=>135 | n=>n,fun | 9=>9 | 4=>4 | 3=>3 | n=>n,fun | n=>n⟩
theorem Tryz.lays102:Go.Proofs.Lays.n102 Tryz.prog Tryz.lays102_ren:={
 mixed:=kR
 f102:=Tryz.func69.trans kC
 f207:=Tryz.func135.trans kC
 f209:=Tryz.func106.trans kC
 t3:=Tryz.underlying3
 a3:=Tryz.isAgg3
 z3:=Tryz.sizeOf3
 v3:=Tryz.zeroValue3
 t4:=Tryz.underlying4
 a4:=Tryz.isAgg4
 z4:=Tryz.sizeOf4
 v4:=Tryz.zeroValue4
 t9:=Tryz.underlying9
 a9:=Tryz.isAgg9
 z9:=Tryz.sizeOf9
 v9:=Tryz.zeroValue9 }
open Go.RowKit Go.Lib in
theorem Tryz.strings_TrimSuffix (s p:ByteArray) (w:World) (hs:s.size ≤ 9223372036854775807) :
 Calls Tryz.prog 69 #[.string s,.string p] w fun e w'=>e = .returned (.string ⟨(Lib.trimSuffix s.data.toList p.data.toList).toArray⟩)∧w'=w:=Any.strings_TrimSuffix Tryz.lays102 s p w hs
def Tryz.lays155_ren:Go.Shelf.Ren:=⟨fun | 155=>131 | 154=>148 | 138=>165 | 165=>137 | 143=>166 | 166=>96 | 197=>167 | 169=>26 | 195=>197 | 218=>198 | 240=>133 | 241=>153 | 219=>199 | 260=>200 | 276=>151 | 277=>180 | 217=>154 | 225=>211 | 224=>212 | 267=>213 | 266=>181 | 314=>216 | n=>n,fun | 9=>9 | 3=>3 | 4=>4 | 72=>65 | 0=>0 | 76=>152 | 105=>200 | 21=>21 | 5=>5 | 70=>62 | 20=>20 | 37=>63 | 75=>151 | 127=>122 | 164=>190 | 46=>177 | 119=>207 | 139=>238 | 138=>237 | 146=>255 | 51=>219 | 80=>71 | n=>n,fun | 1=>2 | 3=>6 | 4=>7 | n=>n⟩
theorem Tryz.lays155:Go.Proofs.Lays.n155 Tryz.prog Tryz.lays155_ren:={
 mixed:=kR
 f138:=Tryz.func165.trans kC
 f143:=Tryz.func166.trans kC
 f154:=Tryz.func148.trans kC
 f155:=Tryz.func131.trans kC
 f165:=Tryz.func137.trans kC
 f166:=Tryz.func96.trans kC
 f169:=Tryz.func26.trans kC
 f195:=Tryz.func197.trans kC
 f197:=Tryz.func167.trans kC
 f217:=Tryz.func154.trans kC
 f218:=Tryz.func198.trans kC
 f219:=Tryz.func199.trans kC
 f224:=Tryz.func212.trans kC
 f225:=Tryz.func211.trans kC
 f240:=Tryz.func133.trans kC
 f241:=Tryz.func153.trans kC
 f260:=Tryz.func200.trans kC
 f266:=Tryz.func181.trans kC
 f267:=Tryz.func213.trans kC
 f276:=Tryz.func151.trans kC
 f277:=Tryz.func180.trans kC
 f314:=Tryz.func216.trans kC
 t0:=Tryz.underlying0
 a0:=Tryz.isAgg0
 z0:=Tryz.sizeOf0
 v0:=Tryz.zeroValue0
 t3:=Tryz.underlying3
 a3:=Tryz.isAgg3
 z3:=Tryz.sizeOf3
 v3:=Tryz.zeroValue3
 t4:=Tryz.underlying4
 a4:=Tryz.isAgg4
 z4:=Tryz.sizeOf4
 v4:=Tryz.zeroValue4
 t5:=Tryz.underlying5
 a5:=Tryz.isAgg5
 z5:=Tryz.sizeOf5
 v5:=Tryz.zeroValue5
 t9:=Tryz.underlying9
 a9:=Tryz.isAgg9
 z9:=Tryz.sizeOf9
 v9:=Tryz.zeroValue9
 t20:=Tryz.underlying20
 a20:=Tryz.isAgg20
 z20:=Tryz.sizeOf20
 v20:=Tryz.zeroValue20
 t21:=Tryz.underlying21
 a21:=Tryz.isAgg21
 z21:=Tryz.sizeOf21
 v21:=Tryz.zeroValue21
 t37:=Tryz.underlying63
 a37:=Tryz.isAgg63
 z37:=Tryz.sizeOf63
 v37:=Tryz.zeroValue63
 t46:=Tryz.underlying177
 a46:=Tryz.isAgg177
 z46:=Tryz.sizeOf177
 v46:=Tryz.zeroValue177
 t51:=Tryz.underlying219
 a51:=Tryz.isAgg219
 z51:=Tryz.sizeOf219
 v51:=Tryz.zeroValue219
 t70:=Tryz.underlying62
 a70:=Tryz.isAgg62
 z70:=Tryz.sizeOf62
 v70:=Tryz.zeroValue62
 t72:=Tryz.underlying65
 a72:=Tryz.isAgg65
 z72:=Tryz.sizeOf65
 v72:=Tryz.zeroValue65
 t75:=Tryz.underlying151
 a75:=Tryz.isAgg151
 z75:=Tryz.sizeOf151
 v75:=Tryz.zeroValue151
 t76:=Tryz.underlying152
 a76:=Tryz.isAgg152
 z76:=Tryz.sizeOf152
 v76:=Tryz.zeroValue152
 t105:=Tryz.underlying200
 a105:=Tryz.isAgg200
 z105:=Tryz.sizeOf200
 v105:=Tryz.zeroValue200
 t119:=Tryz.underlying207
 a119:=Tryz.isAgg207
 z119:=Tryz.sizeOf207
 t127:=Tryz.underlying122
 a127:=Tryz.isAgg122
 z127:=Tryz.sizeOf122
 v127:=Tryz.zeroValue122
 t138:=Tryz.underlying237
 a138:=Tryz.isAgg237
 z138:=Tryz.sizeOf237
 v138:=Tryz.zeroValue237
 t139:=Tryz.underlying238
 a139:=Tryz.isAgg238
 z139:=Tryz.sizeOf238
 v139:=Tryz.zeroValue238
 t146:=Tryz.underlying255
 a146:=Tryz.isAgg255
 z146:=Tryz.sizeOf255
 v146:=Tryz.zeroValue255
 t164:=Tryz.underlying190
 a164:=Tryz.isAgg190
 z164:=Tryz.sizeOf190
 v164:=Tryz.zeroValue190
 g1:=kR
 g3:=kR
 g4:=by kernel_rfl }
theorem Tryz.Builder_Extra_155:Builder.Extra Tryz.prog Tryz.lays155_ren:={
 sizeBuilder:=kR
 liesBuilder:=kR
 t5:=Tryz.underlying5
 a5:=Tryz.isAgg5
 z5:=Tryz.sizeOf5
 v5:=Tryz.zeroValue5
 infoByte:=kR
 cellsByte:=kR
 sizeByte:=kR
 neB5:=by decide }
open Go.RowKit Go.Lib in
theorem Tryz.strings_ReplaceAll (s old new:ByteArray) (m:Int) (w:World) (hs:s.size < 4294967281) (hm:w.cell? ⟨2,0,none⟩=some (.int .i64 m)) (h1:1 ≤ old.size) (hlen:s.size + Lib.countB s old * new.size ≤ 140737488355328) :
 Calls Tryz.prog 131 #[.string s,.string old,.string new] w fun e w'=>
  e = .returned (.string ⟨(Lib.replaceAll s.data.toList old.data.toList new.data.toList).toArray⟩)∧Below w.heap.size w w':=Any.strings_ReplaceAll Tryz.lays155 Tryz.Builder_Extra_155 s old new m w hs hm h1 hlen
def Tryz.laysM157_ren:Go.Shelf.Ren:=⟨fun | 157=>157 | 229=>183 | 199=>184 | 261=>206 | 311=>214 | 312=>215 | n=>n,fun | 9=>9 | 31=>23 | 3=>3 | 5=>5 | 4=>4 | 119=>207 | 0=>0 | 40=>209 | 152=>226 | 21=>21 | 154=>228 | 51=>219 | 141=>230 | 196=>242 | 193=>239 | 198=>245 | 49=>243 | 194=>240 | 201=>248 | 226=>257 | 46=>177 | 227=>258 | n=>n,fun | 0=>0 | 6=>3 | n=>n⟩
theorem Tryz.laysM157:Go.Proofs.LaysM.n157 Tryz.prog Tryz.laysM157_ren:={
 mixed:=kR
 f157:=Tryz.func157.trans kC
 f199:=Tryz.func184.trans kC
 f229:=Tryz.func183.trans kC
 f261:=Tryz.func206.trans kC
 f311:=Tryz.func214.trans kC
 f312:=Tryz.func215.trans kC
 t0:=Tryz.underlying0
 a0:=Tryz.isAgg0
 z0:=Tryz.sizeOf0
 v0:=Tryz.zeroValue0
 t3:=Tryz.underlying3
 a3:=Tryz.isAgg3
 z3:=Tryz.sizeOf3
 v3:=Tryz.zeroValue3
 t4:=Tryz.underlying4
 a4:=Tryz.isAgg4
 z4:=Tryz.sizeOf4
 v4:=Tryz.zeroValue4
 t5:=Tryz.underlying5
 a5:=Tryz.isAgg5
 z5:=Tryz.sizeOf5
 v5:=Tryz.zeroValue5
 t9:=Tryz.underlying9
 a9:=Tryz.isAgg9
 z9:=Tryz.sizeOf9
 v9:=Tryz.zeroValue9
 t21:=Tryz.underlying21
 a21:=Tryz.isAgg21
 z21:=Tryz.sizeOf21
 v21:=Tryz.zeroValue21
 t31:=Tryz.underlying23
 a31:=Tryz.isAgg23
 z31:=Tryz.sizeOf23
 v31:=Tryz.zeroValue23
 t40:=Tryz.underlying209
 a40:=Tryz.isAgg209
 z40:=Tryz.sizeOf209
 v40:=Tryz.zeroValue209
 t46:=Tryz.underlying177
 a46:=Tryz.isAgg177
 z46:=Tryz.sizeOf177
 v46:=Tryz.zeroValue177
 t49:=Tryz.underlying243
 a49:=Tryz.isAgg243
 z49:=Tryz.sizeOf243
 v49:=Tryz.zeroValue243
 t51:=Tryz.underlying219
 a51:=Tryz.isAgg219
 z51:=Tryz.sizeOf219
 v51:=Tryz.zeroValue219
 t119:=Tryz.underlying207
 a119:=Tryz.isAgg207
 z119:=Tryz.sizeOf207
 t141:=Tryz.underlying230
 a141:=Tryz.isAgg230
 z141:=Tryz.sizeOf230
 v141:=Tryz.zeroValue230
 t152:=Tryz.underlying226
 a152:=Tryz.isAgg226
 z152:=Tryz.sizeOf226
 v152:=Tryz.zeroValue226
 t154:=Tryz.underlying228
 a154:=Tryz.isAgg228
 z154:=Tryz.sizeOf228
 v154:=Tryz.zeroValue228
 t193:=Tryz.underlying239
 a193:=Tryz.isAgg239
 z193:=Tryz.sizeOf239
 v193:=Tryz.zeroValue239
 t194:=Tryz.underlying240
 a194:=Tryz.isAgg240
 z194:=Tryz.sizeOf240
 v194:=Tryz.zeroValue240
 t196:=Tryz.underlying242
 a196:=Tryz.isAgg242
 z196:=Tryz.sizeOf242
 v196:=Tryz.zeroValue242
 t198:=Tryz.underlying245
 a198:=Tryz.isAgg245
 z198:=Tryz.sizeOf245
 v198:=Tryz.zeroValue245
 t201:=Tryz.underlying248
 a201:=Tryz.isAgg248
 z201:=Tryz.sizeOf248
 v201:=Tryz.zeroValue248
 t226:=Tryz.underlying257
 a226:=Tryz.isAgg257
 z226:=Tryz.sizeOf257
 v226:=Tryz.zeroValue257
 t227:=Tryz.underlying258
 a227:=Tryz.isAgg258
 z227:=Tryz.sizeOf258
 v227:=Tryz.zeroValue258
 g0:=kR
 g6:=kR
 i0:=kR
 i3:=kR
 i4:=kR
 i5:=kR
 i9:=kR
 i21:=kR
 i31:=kR
 i40:=kR
 i46:=kR
 i49:=kR
 i51:=kR
 i141:=kR
 i152:=kR
 i154:=kR
 i193:=kR
 i194:=kR
 i196:=kR
 i198:=kR
 i201:=kR
 i226:=kR
 i227:=kR
 m0:=kR
 m6:=by kernel_rfl }
open Go.RowKit Go.Lib in
theorem Tryz.strings_Fields_laid (s:ByteArray) (w:World) (hs:s.size < 4294967281) (hascii:∀ (j:Nat) b,s.data.toList[j]? = some b→b.toNat < 128) (htab:Lib.TabIs Tryz.prog w "strings.asciiSpace" .u8 Lib.asciiSpaceTab) :
 Calls Tryz.prog 157 #[.string s] w fun e w'=>
  e = .returned (.slice (some ⟨w.heap.size,0,none⟩) (Lib.fields s.data.toList).length (Lib.fields s.data.toList).length)∧w'=w.alloc (.cells ((Lib.fields s.data.toList).map fun l=>Value.string ⟨l.toArray⟩).toArray 9):=Any.strings_Fields_laid Tryz.laysM157 s w hs hascii htab
def Tryz.laysM155_ren:Go.Shelf.Ren:=⟨fun | 155=>131 | 154=>148 | 138=>165 | 165=>137 | 143=>166 | 166=>96 | 197=>167 | 169=>26 | 195=>197 | 218=>198 | 240=>133 | 241=>153 | 219=>199 | 260=>200 | 276=>151 | 277=>180 | 217=>154 | 225=>211 | 224=>212 | 267=>213 | 266=>181 | 314=>216 | n=>n,fun | 9=>9 | 3=>3 | 4=>4 | 72=>65 | 0=>0 | 76=>152 | 105=>200 | 21=>21 | 5=>5 | 70=>62 | 20=>20 | 37=>63 | 75=>151 | 127=>122 | 164=>190 | 46=>177 | 119=>207 | 139=>238 | 138=>237 | 146=>255 | 51=>219 | 80=>71 | n=>n,fun | 1=>2 | 3=>6 | 4=>7 | n=>n⟩
theorem Tryz.laysM155:Go.Proofs.LaysM.n155 Tryz.prog Tryz.laysM155_ren:={
 mixed:=kR
 f138:=Tryz.func165.trans kC
 f143:=Tryz.func166.trans kC
 f154:=Tryz.func148.trans kC
 f155:=Tryz.func131.trans kC
 f165:=Tryz.func137.trans kC
 f166:=Tryz.func96.trans kC
 f169:=Tryz.func26.trans kC
 f195:=Tryz.func197.trans kC
 f197:=Tryz.func167.trans kC
 f217:=Tryz.func154.trans kC
 f218:=Tryz.func198.trans kC
 f219:=Tryz.func199.trans kC
 f224:=Tryz.func212.trans kC
 f225:=Tryz.func211.trans kC
 f240:=Tryz.func133.trans kC
 f241:=Tryz.func153.trans kC
 f260:=Tryz.func200.trans kC
 f266:=Tryz.func181.trans kC
 f267:=Tryz.func213.trans kC
 f276:=Tryz.func151.trans kC
 f277:=Tryz.func180.trans kC
 f314:=Tryz.func216.trans kC
 t0:=Tryz.underlying0
 a0:=Tryz.isAgg0
 z0:=Tryz.sizeOf0
 v0:=Tryz.zeroValue0
 t3:=Tryz.underlying3
 a3:=Tryz.isAgg3
 z3:=Tryz.sizeOf3
 v3:=Tryz.zeroValue3
 t4:=Tryz.underlying4
 a4:=Tryz.isAgg4
 z4:=Tryz.sizeOf4
 v4:=Tryz.zeroValue4
 t5:=Tryz.underlying5
 a5:=Tryz.isAgg5
 z5:=Tryz.sizeOf5
 v5:=Tryz.zeroValue5
 t9:=Tryz.underlying9
 a9:=Tryz.isAgg9
 z9:=Tryz.sizeOf9
 v9:=Tryz.zeroValue9
 t20:=Tryz.underlying20
 a20:=Tryz.isAgg20
 z20:=Tryz.sizeOf20
 v20:=Tryz.zeroValue20
 t21:=Tryz.underlying21
 a21:=Tryz.isAgg21
 z21:=Tryz.sizeOf21
 v21:=Tryz.zeroValue21
 t37:=Tryz.underlying63
 a37:=Tryz.isAgg63
 z37:=Tryz.sizeOf63
 v37:=Tryz.zeroValue63
 t46:=Tryz.underlying177
 a46:=Tryz.isAgg177
 z46:=Tryz.sizeOf177
 v46:=Tryz.zeroValue177
 t51:=Tryz.underlying219
 a51:=Tryz.isAgg219
 z51:=Tryz.sizeOf219
 v51:=Tryz.zeroValue219
 t70:=Tryz.underlying62
 a70:=Tryz.isAgg62
 z70:=Tryz.sizeOf62
 v70:=Tryz.zeroValue62
 t72:=Tryz.underlying65
 a72:=Tryz.isAgg65
 z72:=Tryz.sizeOf65
 v72:=Tryz.zeroValue65
 t75:=Tryz.underlying151
 a75:=Tryz.isAgg151
 z75:=Tryz.sizeOf151
 v75:=Tryz.zeroValue151
 t76:=Tryz.underlying152
 a76:=Tryz.isAgg152
 z76:=Tryz.sizeOf152
 v76:=Tryz.zeroValue152
 t105:=Tryz.underlying200
 a105:=Tryz.isAgg200
 z105:=Tryz.sizeOf200
 v105:=Tryz.zeroValue200
 t119:=Tryz.underlying207
 a119:=Tryz.isAgg207
 z119:=Tryz.sizeOf207
 t127:=Tryz.underlying122
 a127:=Tryz.isAgg122
 z127:=Tryz.sizeOf122
 v127:=Tryz.zeroValue122
 t138:=Tryz.underlying237
 a138:=Tryz.isAgg237
 z138:=Tryz.sizeOf237
 v138:=Tryz.zeroValue237
 t139:=Tryz.underlying238
 a139:=Tryz.isAgg238
 z139:=Tryz.sizeOf238
 v139:=Tryz.zeroValue238
 t146:=Tryz.underlying255
 a146:=Tryz.isAgg255
 z146:=Tryz.sizeOf255
 v146:=Tryz.zeroValue255
 t164:=Tryz.underlying190
 a164:=Tryz.isAgg190
 z164:=Tryz.sizeOf190
 v164:=Tryz.zeroValue190
 g1:=kR
 g3:=kR
 g4:=kR
 t80:=Tryz.underlying71
 a80:=Tryz.isAgg71
 z80:=Tryz.sizeOf71
 v80:=Tryz.zeroValue71
 i0:=kR
 i3:=kR
 i4:=kR
 i5:=kR
 i9:=kR
 i20:=kR
 i21:=kR
 i37:=kR
 i46:=kR
 i51:=kR
 i70:=kR
 i72:=kR
 i75:=kR
 i76:=kR
 i80:=kR
 i105:=kR
 i127:=kR
 i138:=kR
 i139:=kR
 i146:=kR
 i164:=kR
 m1:=kR
 s1_3:=fun w h=>Go.Proofs.cell_of_shapedOpen_int (zero:=#[iZ]) (t:=3) h (of_decide_eq_true kR) kR rfl kR kR Tryz.underlying3
 m3:=kR
 m4:=by kernel_rfl }
end Go.Proofs
namespace Go.Proofs.YtmdogmpcmkfjpaaGreatDoor.By
open Go.RowKit
abbrev str (l:List UInt8):Value:=.string ⟨l.toArray⟩
abbrev byte (b:UInt8):Value:=.int .u8 (b.toNat:Int)
theorem strOfNums_bytes (l:List UInt8):strOfNums (l.map fun b=>(b.toNat:Int))=⟨l.toArray⟩:=by
 have h:((fun n:Int=>UInt8.ofNat n.toNat) ∘ fun b:UInt8=>(b.toNat:Int))=id:=by
  funext b;simp
 simp [strOfNums,h]
theorem Zp6 {P:Program} (w:World) (src e dst:TypeId) (hs:P.underlying src=some (.slice e)) (he:P.underlying e=some (.int .u8)) (hd:P.underlying dst=some .string)
 (b off len cap:Nat) (l:List UInt8) (hlen:l.length=len) (hcell:∀ i (h:i < l.length),w.cell? ⟨b,off + i,none⟩=some (byte l[i])) :
 (convert src dst (.slice (some ⟨b,off,none⟩) len cap)).run P w = .ok (str l) w:=by
 rw [run_convert_bytes_arg w src e hs he b off len cap (l.map fun b=>(b.toNat:Int)) (by simp [hlen]) (fun i hi=>by
  have hi':i < l.length:=kW
  rw [hcell i hi']
  simp [hi']) dst hd,strOfNums_bytes]
theorem conv_new {P:Program} (w:World) (src e dst:TypeId) (hs:P.underlying src=some (.slice e)) (he:P.underlying e=some (.int .u8)) (hd:P.underlying dst=some .string)
 (cs:Array Value) (t:TypeId) (off len cap:Nat) (l:List UInt8) (hlen:l.length=len) (hcell:∀ i (h:i < l.length),cs[off + i]? = some (byte l[i])) :
 (convert src dst (.slice (some ⟨w.heap.size,off,none⟩) len cap)).run P (w.alloc (.cells cs t)) = .ok (str l) (w.alloc (.cells cs t)):=
 Zp6 _ src e dst hs he hd _ off len cap l hlen (fun i h=>by rw [World.cell?_alloc_at _ _ _ _ rfl];exact hcell i h)
end Go.Proofs.YtmdogmpcmkfjpaaGreatDoor.By
