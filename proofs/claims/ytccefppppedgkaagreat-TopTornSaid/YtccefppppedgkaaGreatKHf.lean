/- Joined: XLD, XTEnc, XTData. -/
import Derived.Deep.Slices
import Derived.SizedLaws
import Derived.Carry
import Derived.ChangeSame
import Derived.Handed
import Derived.JoinedOf
import Derived.ProofKit
import Derived.OpenShut
import Derived.JoinedCond
import Derived.Deep.CondSized
import Derived.Lib.SmallJoins
import Derived.Test.YtccefppppedgkaaGreatKHe
set_option linter.unusedVariables false
set_option linter.unusedSimpArgs false
set_option linter.unnecessarySimpa false
set_option maxRecDepth 100000
set_option maxHeartbeats 64000000
namespace Go.Proofs.YtccefppppedgkaaGreat
open Go.RowKit Go.ChangeShapes Go.WideShapes
def BP {H:Type} (enc:TypeId × Value→H) (P:Program) (w:World) (t:TypeId) {α:Type} (f:α→List Tr) (s:α→Prop) (bk:α→Nat):Prop :=
 ∀(n:Nat) (cs:List Value) (x:DataW H × List MemPlace),DataW.trod enc P w 0 (fun _=>true) true n t cs=some x →
  ∃a,cs.length=(f a).length∧((∀m∈x.1.weights P t,m≤reachBytes)→s a)∧bk a≤Rows.uptoBulk x.1 ∧ ∀(j:Nat) tr u,(f a)[j]? = some tr→cs[j]? = some u→Frz w (fun b=>b<w.heap.size) tr u
variable {H:Type} {P:Program} {w:World} {t:TypeId}
theorem BP.int {enc:TypeId × Value→H} {k:IntKind} (ht:P.underlying t=some (.int k)):BP enc P w t (fun x:Int=>[.v (.int k x)]) (fun x=>(Lit.int k x).wf=true) (fun _=>1):=by
 intro n cs x h
 obtain ⟨a,rfl,rfl,hw⟩:=DataW.trod_int ht h
 refine ⟨a,rfl,fun _=>hw,fV _,fun j tr u hj hu=>?_⟩
 cases j with
 |zero=>simp at hj hu;subst hj hu;exact .v rfl
 |succ j=>simp at hj
theorem BP.bool {enc:TypeId × Value→H} (ht:P.underlying t=some .bool):BP enc P w t (fun x:Bool=>[.v (.bool x)]) (fun _=>True) (fun _=>1):=by
 intro n cs x h
 obtain ⟨a,rfl,rfl⟩:=DataW.trod_bool ht h
 refine ⟨a,rfl,fun _=>trivial,fV _,fun j tr u hj hu=>?_⟩
 cases j with
 |zero=>simp at hj hu;subst hj hu;exact .v rfl
 |succ j=>simp at hj
theorem BP.map {enc:TypeId × Value→H} {α β:Type} {f:α→List Tr} {s:α→Prop} {bk:α→Nat} (h:BP enc P w t f s bk) (e:α→β) {f':β→List Tr} {s':β→Prop} {bk':β→Nat} (hf : ∀a,f' (e a)=f a) (hs : ∀a,s a→s' (e a)) (hb : ∀a,bk' (e a)≤bk a):BP enc P w t f' s' bk':=by
 intro n cs x hx
 obtain ⟨a,h1,h2,h3,h4⟩:=h n cs x hx
 exact ⟨e a,by rw [hf];exact h1,fun hw=>hs _ (h2 hw),jA (hb a) h3,by rw [hf];exact h4⟩
theorem KE {H:Type} {P:Program} {e:TypeId} {d:DataW H} {m:Nat} : ∀ {l:List (DataW H)},d∈l→m∈d.weights P e→m∈DataW.weightsAll P e l
 |x::l,h,hm=>by
  simp only [DataW.weightsAll,gQ]
  rcases iH.1 h with h|h
  ·subst h;exact .inl hm
  ·exact .inr (KE h hm)
theorem PO {H:Type} {α:Type} {bk:α→Nat} : ∀ {l:List (DataW H)} {m:List α},m.length=l.length→(∀(i:Nat) (a:α) (y:DataW H),m[i]? = some a→l[i]? = some y→bk a≤Rows.uptoBulk y)→(m.map bk).sum≤Rows.uptoBulkAll l
 | [],[],_,_=>by simp [Rows.uptoBulkAll]
 | [],_::_,h,_=>by simp at h
 |_::_,[],h,_=>by simp at h
 |y::l,a::m,hl,h=>by
  have h0:=h 0 a y rfl rfl
  have h1:=PO (l:=l) (m:=m) (by simpa using hl) (fun i a y h1 h2=>h (i+1) a y (by simpa using h1) (by simpa using h2))
  simp only [Rows.uptoBulkAll,gO,List.sum_cons]
  omega
theorem BP.slice {enc:TypeId × Value→H} {t e:TypeId} {α:Type} [Inhabited α] {f:α→List Tr} {q:α→Prop} {bk:α→Nat} {s by_:Nat} (ht:P.underlying t=some (.slice e)) (hs:P.cellsOf e=s) (hy:P.bytesOf e=by_) (hf : ∀a,(f a).length=s) (h:BP enc P w e f q bk) :
  BP enc P w t (fun l:List α=>[.lst (l.map f)]) (fun l=>l.length*by_≤reachBytes ∧ ∀a∈l,q a) (fun l=>(l.map bk).sum+1):=by
 intro n cs x hx
 rcases Go.Deep.open_slice ht hx with ⟨rfl,rfl⟩|⟨a,len,cap,m,n',D,Pl,rfl,_,hl,hm,hmm,rfl,hel⟩
 ·refine ⟨[],rfl,fun _=>⟨by simp,by simp⟩,by simp [Rows.uptoBulk],fun j tr u hj hu=>?_⟩
  cases j with
  |zero=>simp at hj hu;subst hj hu;exact .lst (size:=s) (xs:=[]) ⟨fV _,fX _,fun _=>⟨rfl,rfl⟩,by simp,fun j u hj=>by simp at hj⟩ (fun h=>absurd rfl h) rfl (fun _ h=>by simp at h) (fun i cs j x u hi=>by simp at hi)
  |succ j=>simp at hj
 ·have hmm':m=cap:=by simpa using hmm
  subst hmm'
  obtain ⟨A,hA⟩:=Go.Deep.choose_lt (α:=α) (n:=m) (p:=fun i b=>∃cs',w.cells? 0 (a.add (i*P.cellsOf e)) (P.cellsOf e)=some cs'∧cs'.length=(f b).length∧(((∀m∈(D i).weights P e,m≤reachBytes)→q b)∧bk b≤Rows.uptoBulk (D i)) ∧ ∀(j:Nat) tr u,(f b)[j]? = some tr→cs'[j]? = some u→Frz w (fun b=>b<w.heap.size) tr u) (fun i hi=>by
   obtain ⟨cs',h1,h2⟩:=hel i hi
   obtain ⟨b,q1,q2,q2',q3⟩:=h _ _ _ h2
   exact ⟨b,cs',h1,q1,⟨q2,q2'⟩,q3⟩)
  have cell : ∀i j,i<len→j<s → ∃u,w.cell? (a.add (i*s+j))=some u ∧ ∀tr,(f (A i))[j]? = some tr→Frz w (fun b=>b<w.heap.size) tr u:=fun i j hi hj=>by
   obtain ⟨cs',h1,h2,_,h3⟩:=hA i (by omega)
   rw [hs] at h1
   obtain ⟨_,c2,c3⟩:=World.cells?_some h1
   have hlt:j<cs'.length:=by omega
   refine ⟨cs'[j],?_,fun tr htr=>h3 j tr _ htr (ZgE hlt)⟩
   rw [←Go.Deep.add_add,c3 j (by omega),ZgE hlt]
  let xs:List Value:=(List.range (len*s)).map fun q=>(w.cell? (a.add q)).getD (.bool false)
  have hxl:xs.length=len*s:=by simp [xs]
  have hget : ∀i j,i<len→j<s → ∃u,xs[i*s+j]? = some u∧w.cell? (a.add (i*s+j))=some u ∧ ∀tr,(f (A i))[j]? = some tr→Frz w (fun b=>b<w.heap.size) tr u:=fun i j hi hj=>by
   obtain ⟨u,h1,h2⟩:=cell i j hi hj
   refine ⟨u,?_,h1,h2⟩
   simp only [xs,gP,jW (AeZ hi hj),kS,h1,jK]
  have hdiv : ∀q,q<len*s → ∃i j,i<len∧j<s∧q=i*s+j:=fun q hq=>by
   have hs0:0<s:=by
    rcases Nat.eq_zero_or_pos s with e|e
    ·rw [e] at hq;omega
    ·exact e
   exact ⟨q/s,q%s,(Nat.div_lt_iff_lt_mul hs0).2 hq,Nat.mod_lt _ hs0,by rw [lU];exact (Nat.div_add_mod q s).symm⟩
  have hlr:((List.range len).map A).length=len:=by simp
  refine ⟨(List.range len).map A,rfl,fun hw=>⟨?_,fun b hb=>?_⟩,?_,fun j tr u hj hu=>?_⟩
  ·have:=hw ((((List.range len).map D).length+((List.range (m-len)).map fun j=>D (len+j)).length)*P.bytesOf e) (by simp only [DataW.weights,ht];exact kH ..)
   simp only [fN,lE,hy] at this ⊢
   exact jA (iE _ (Nat.le_add_right _ _)) this
  ·obtain ⟨i,hi,rfl⟩:=iW.1 hb
   have hi':i<len:=by simpa using hi
   obtain ⟨_,_,_,qq,_⟩:=hA i (by omega)
   refine qq.1 fun k hk=>hw k ?_
   simp only [DataW.weights,ht]
   exact kY _ (iZ _ (KE (iW.2 ⟨i,hi,rfl⟩) hk))
  ·have:=PO (l:=(List.range len).map D) (m:=(List.range len).map A) (bk:=bk) (by simp) (fun i a y h1 h2=>by
    have hi:i<len:=by have:=get_lt h1;simpa using this
    simp only [gP,jW hi,kS,mN] at h1 h2
    subst h1 h2
    obtain ⟨_,_,_,qq,_⟩:=hA i (by omega)
    exact qq.2)
   simp only [Rows.uptoBulk]
   omega
  ·cases j with
   |succ j=>simp at hj
   | zero =>
    simp at hj hu
    subst hj hu
    refine .lst (size:=s) (xs:=xs) ⟨hl,hm,fun h=>(by cases h),hxl,fun q u hq=>?_⟩ (fun hne=>?_) (by simp) (fun cs hcs=>?_) (fun i cs j x u hi hj hu=>?_)
    ·have hq':=get_lt hq
     rw [hxl] at hq'
     obtain ⟨i,j,hi,hj,rfl⟩:=hdiv q hq'
     obtain ⟨u',h1,h2,_⟩:=hget i j hi hj
     rw [h1] at hq;cases hq
     exact h2
    ·have hpos:0<xs.length:=lI.2 hne
     rw [hxl] at hpos
     obtain ⟨i,j,hi,hj,he⟩:=hdiv 0 hpos
     obtain ⟨u',_,h2,_⟩:=hget i j hi hj
     have:=World.block_lt_of_cell? w _ h2
     rw [DL] at this
     exact this
    ·simp at hcs
     obtain ⟨i,_,rfl⟩:=hcs
     exact hf _
    ·have hi':i<len:=by have:=get_lt hi;simpa using this
     simp only [gP,lW,jW hi',kS,mN,Function.comp] at hi
     subst hi
     have hj':=get_lt hj
     rw [hf] at hj'
     obtain ⟨u',h1,_,h3⟩:=hget i j hi' hj'
     rw [h1] at hu;cases hu
     exact h3 x hj
def BJ {H:Type} (enc:TypeId × Value→H) (P:Program) (w:World) (fs:List Field) (off:Nat) {α:Type} (f:α→List Tr) (s:α→Prop) (bk:α→Nat):Prop :=
 ∀(n:Nat) (cs:List Value) (ys:List (DataW H × List MemPlace)),ys.length=fs.length→(∀(i:Nat) (fd:Field),fs[i]? = some fd→DataW.trod enc P w 0 (fun _=>true) true n fd.type ((cs.drop fd.offset).take (P.cellsOf fd.type))=ys[i]?) →
  ∃a,((∀m∈DataW.weightsEach P (fs.map (·.type)) (ys.map (·.1)),m≤reachBytes)→s a)∧bk a≤Rows.uptoBulkAll (ys.map (·.1)) ∧ ∀(j:Nat) tr u,(f a)[j]? = some tr→cs[off+j]? = some u→Frz w (fun b=>b<w.heap.size) tr u
theorem BJ.nil {enc:TypeId × Value→H} {off:Nat}:BJ enc P w [] off (fun _:Unit=>[]) (fun _=>True) (fun _=>0) :=
 fun n cs ys _ _=>⟨(),fun _=>trivial,fX _,fun j tr u hj=>by simp at hj⟩
theorem BJ.cons {H:Type} {enc:TypeId × Value→H} {P:Program} {w:World} {off s:Nat} {fd:Field} {fs:List Field} {α β:Type} {f:α→List Tr} {f':β→List Tr} {q:α→Prop} {q':β→Prop} {bk:α→Nat} {bk':β→Nat} {t:TypeId}
  (htt:fd.type=t) (ho:fd.offset=off) (hs:P.cellsOf t=s) (hf : ∀a,(f a).length=s) (h:BP enc P w t f q bk) (k:BJ enc P w fs (off+s) f' q' bk') :
  BJ enc P w (fd::fs) off (fun p:α × β=>f p.1++f' p.2) (fun p=>q p.1∧q' p.2) (fun p=>bk p.1+bk' p.2):=by
 subst htt
 intro n cs ys hl hy
 cases ys with
 |nil=>simp at hl
 | cons y ys =>
  have h0:=hy 0 fd rfl
  obtain ⟨a,q1,q2,q2',q3⟩:=h _ _ _ h0
  obtain ⟨b,r2,r2',r3⟩:=k n cs ys (by simpa using hl) (fun i fd' h1=>by have:=hy (i+1) fd' (by simpa using h1);simpa using this)
  rw [hs,hf,ho,fY,gJ] at q1
  refine ⟨(a,b),fun hw=>⟨q2 fun m hm=>hw m (by simp only [gO,DataW.weightsEach,gQ];exact .inl hm),r2 fun m hm=>hw m (by simp only [gO,DataW.weightsEach,gQ];exact .inr hm)⟩,by simp only [gO,Rows.uptoBulkAll];omega,fun j tr u hj hu=>?_⟩
  by_cases hjs:j<s
  ·rw [gH (by rw [hf];exact hjs)] at hj
   refine q3 j tr u hj ?_
   rw [hs,ho,gN,fR hjs,gK]
   exact hu
  ·rw [gD (by rw [hf];omega),hf] at hj
   refine r3 (j-s) tr u hj ?_
   rw [←hu];congr 1;omega
theorem BP.struct {enc:TypeId × Value→H} {fs:List Field} {n:Nat} {α:Type} {f:α→List Tr} {q:α→Prop} {bk:α→Nat} (ht:P.underlying t=some (.struct fs.toArray)) (hn:P.cellsOf t=n) (hf : ∀a,(f a).length=n) (h:BJ enc P w fs 0 f q bk):BP enc P w t f q bk:=by
 intro m cs x hx
 obtain ⟨xs,m',rfl,rfl,h1,h2,h3⟩:=DataW.trod_struct ht hx
 obtain ⟨a,q1,q2,q3⟩:=h m' cs xs (by simpa using h2) (fun i fd hi=>h3 i fd eX)
 refine ⟨a,by rw [hf,h1,hn],fun hw=>q1 fun k hk=>hw k ?_,?_,fun j tr u hj hu=>q3 j tr u hj eW⟩
 ·simp only [DataW.weights,ht]
  simpa using hk
 ·simp only [Rows.uptoBulk];omega
def AoM:Tr→AV
 |.v x=>.t (.v x)
 |.lst els=>.ln els
theorem i7_ {Kn:Nat→Nat→Prop} {ρ:Rho} {Z Y:Nat→Prop} (hy : ∀b,Z b→Y b) {x:Tr} {v:Value} (h:Frz w Z x v):Val Kn ρ w Z Y (AoM x) v:=by
 cases x with
 |v x=>exact .t h
 |lst els =>
  obtain ⟨a,c,size,xs,rfl,hr,hz,he⟩:=h.open
  exact .ln hr (fun hne=>hy _ (hz hne)) rfl he
def AxC (agg:Bool) (l:List Tr):AV:=bif agg then .agg (l.map AoM) else match l with
 | [x]=>AoM x
 |_=>.any
def isAgg (P:Program) (t:TypeId):Option Bool:=match P.underlying t with
 |some (.struct _)=>some true
 |some (.int _)|some .bool|some .string|some (.slice _)=>some false
 |_=>none
theorem XX (h:isAgg P t=some true) : ∃fs,P.underlying t=some (.struct fs):=by
 unfold isAgg at h
 split at h
 ·rename_i fs ht;exact ⟨fs,ht⟩
 all_goals cases h
theorem l7_ (h:isAgg P t=some false) {r:Reach} {b0:Nat} {v:Value} (hv:Value.okWide P w r b0 t v):v.cells.toList=[v]:=by
 unfold isAgg at h
 split at h
 ·cases h
 ·rename_i ht;obtain ⟨n,rfl⟩:=okWide_int ht hv;rfl
 ·rename_i ht;obtain ⟨n,rfl⟩:=okWide_bool ht hv;rfl
 ·rename_i ht;obtain ⟨n,rfl⟩:=okWide_string ht hv;rfl
 ·rename_i ht;obtain ⟨a,l,c,rfl⟩:=okWide_slice ht hv;rfl
 ·cases h
theorem BP.arg {enc:TypeId × Value→H} {α:Type} {f:α→List Tr} {s:α→Prop} {bk:α→Nat} (h:BP enc P w t f s bk) {b:Bool} (hb:isAgg P t=some b) (h1:b=false → ∀a,(f a).length=1)
  {r:Reach} {b0:Nat} {v:Value} {d:DataW H} {ps:List MemPlace} (hv:Value.okWide P w r b0 t v) (hd:DataW.Trod enc P w 0 (fun _=>true) true t v d ps) :
  ∃a,((∀m∈d.weights P t,m≤reachBytes)→s a)∧bk a≤Rows.uptoBulk d ∧ ∀(Kn:Nat→Nat→Prop) (ρ:Rho),Val Kn ρ w (fun b=>b<w.heap.size) (fun b=>b<w.heap.size) (AxC b (f a)) v:=by
 obtain ⟨fuel,hd⟩:=hd
 obtain ⟨a,q1,q2,q3,q4⟩:=h _ _ _ hd
 refine ⟨a,q2,q3,fun Kn ρ=>?_⟩
 cases b with
 | true =>
  obtain ⟨fs,ht⟩:=XX hb
  obtain ⟨cs,rfl,hsz⟩:=okWide_struct ht hv
  have e:cs=cs.toList.toArray:=by simp
  rw [e]
  simp only [Value.cells] at q1 q4
  refine .agg (by simpa using q1.symm) (fun u hu=>?_) (fun j x u hj hu=>?_)
  ·obtain ⟨j,hj⟩:=jN hu
   have hl:=get_lt hj
   rw [q1] at hl
   exact (q4 j _ u (ZgE hl) hj).one
  ·simp only [gP,Option.map_eq_some_iff] at hj
   obtain ⟨y,hy,rfl⟩:=hj
   exact i7_ (fun _ h=>h) (q4 j y u hy hu)
 | false =>
  have hl:=h1 rfl a
  match hfa:f a,hl with
  | [x],_ =>
   rw [hfa] at q1 q4
   show Val Kn ρ w _ _ (AoM x) v
   have hna:=l7_ hb hv
   rw [hna] at q4
   exact i7_ (fun _ h=>h) (q4 0 x v rfl rfl)
end Go.Proofs.YtccefppppedgkaaGreat
namespace Go.Proofs.YtccefppppedgkaaGreat
open Go.ChangeShapes Go.WideShapes Go.ChangeAt Go.RowKit
theorem VA {H:Type} {enc:TypeId × Value→H} {P:Program} (hl:laidOutB P=true) {W W':World} (hb:Below W.heap.size W W') {sp:Nat→Bool} :
  ∀(ts:List TypeId) (vs:List Value) (ds:List (DataW H)) (ps:List MemPlace),(∀t∈ts,P.readableRec t=true∧t<P.types.size)→DataW.TrodAll enc P W 0 (fun _=>true) true ts vs ds ps →
   (∀x∈ps,x.block<W.heap.size)→(∀x∈ps,sp x.block=true)→DataW.TrodAll enc P W' 0 sp true ts vs ds ps:=by
 intro ts
 induction ts with
 |nil =>
  intro vs ds ps _ h _ _
  obtain ⟨rfl,rfl,rfl⟩:=trodAll_nil h
  exact rfl
 |cons t ts ih =>
  intro vs ds ps hr h hlt hsp
  obtain ⟨v,vs,d,ds,p,q,rfl,rfl,rfl,h1,h2⟩:=trodAll_cons h
  refine ⟨p,q,?_,ih vs ds q (fun t ht=>hr t (kY _ ht)) h2 (fun x hx=>hlt x (iR _ hx)) (fun x hx=>hsp x (iR _ hx)),rfl⟩
  exact WideElems.Trod_stays hl (hr t (kH ..)).1 (hr t (kH ..)).2 h1 (fun x hx=>hb.same (hlt x (iZ _ hx))) (fun x hx=>hsp x (iZ _ hx))
theorem MM {H:Type} {enc:TypeId × Value→H} {P:Program} {f:Func} {s:ChangeSpec} {apart fresh handsOn again:Bool} {W W':World} {args:Array Value} {ds gs:List (DataW H)} {before:List MemPlace} {tb:TypeId}
  (hl:laidOutB P=true) (hr : ∀t∈f.params.toList,P.readableRec t=true∧t<P.types.size) (hres:f.resultTypes = #[tb]) (htb:P.underlying tb=some .bool) (hvars:s.vars=[])
  (hW:DataW.Whole enc P f.params.toList s.vars apart W args.toList ds gs before)
  (hfn:(s.fn H (ds++gs)).results=[.lit (.bool true)]∧(s.fn H (ds++gs)).args=ds∧(s.fn H (ds++gs)).vars=[])
  (hb:Below W.heap.size W W'):s.post enc P f apart fresh handsOn again W args (.bool true) W':=by
 have hlt : ∀p∈before,p.block<W.heap.size:=fun p hp=>hW.lt p hp
 have hold : ∀p∈before,(fun b=>decide (b<W.heap.size)) p.block=true:=fun p hp=>by simpa using hlt p hp
 have hW':=hW
 obtain ⟨p,q,hA,hV,hps,hz,hn⟩:=hW
 rw [hvars] at hV
 obtain ⟨rfl,rfl⟩:=trodVars_none hV
 have hpb:before=p:=by simpa using hps
 subst hpb
 have hres' : ∀(b:Nat) (sp:Nat→Bool) (hd:Bool),DataW.TrodAll enc P W' b sp hd f.resultTypes.toList ((Value.bool true).resultList f.resultTypes.size) [.lit (.bool true)] []:=fun b sp hd=>by
  rw [hres]
  exact trodAll_mk1 (shut_bool htb _)
 have hargs : ∀sp:Nat→Bool,(∀p∈before,sp p.block=true)→DataW.TrodAll enc P W' 0 sp true f.params.toList args.toList ds before:=fun sp hsp=>VA hl hb _ _ _ _ hr hA hlt hsp
 have hvs : ∀sp:Nat→Bool,DataW.TrodVars enc P W' sp s.vars [] []:=fun sp=>by rw [hvars];exact rfl
 refine ⟨ds,[],before,[],before,[],hW',?_,?_,?_,World.keptBut_mono (fun p hp=>⟨hp,Or.inr (Or.inl hp)⟩) (hb.frame (· ∈ before)),fun _=>?_⟩
 ·rw [hfn.1];exact hres' _ _ _
 ·rw [hfn.2.1];exact hargs _ hold
 ·rw [hfn.2.2];exact hvs _
 ·refine ⟨ok_one hres rfl (okWide_bool_mk htb _),[.lit (.bool true)]++ds,[],[]++before++[],⟨[]++before,[],trodAll_append (hargs _ (fun _ _=>rfl)) (hres' _ _ _),hvs _,rfl,?_,?_⟩,?_⟩
  ·intro b off hp
   have hin:MemPlace.cell b off∈before:=by simpa using hp
   rw [hb.frozen (hlt _ hin)]
   exact hz b off hin
  ·intro ha
   simpa using hn ha
  ·intro p hp _
   simpa using hp
#print axioms MM
end Go.Proofs.YtccefppppedgkaaGreat
namespace Go.Proofs.YtccefppppedgkaaGreat
open Go.RowKit Go.ChangeShapes Go.WideShapes Go.ChangeAt Go.Joins Go.Deep
theorem own:ownKnob Tryz.prog.godebug=none:=by kernel_rfl
theorem XZ:laidOutB Tryz.prog=true:=by kernel_rfl
def JY (W:World):Env:={ W:=W,D:=fun b=>W.heap.size≤b,H:=[],ρ:=fun _ _=>⟨none,0,0⟩,Z:=fun b=>b<W.heap.size,Y:=fun b=>b<W.heap.size,big:=fun _ h=>h,yd:=fun b h1 h2=>by omega }
theorem Cd.law {P:Program} {f:FuncId} {args:List AV} (h:Cd P f args (.t (.v (.bool true))) []) {W:World} {vs:List Value} (hv:AVs (Val (Kn []) (JY W).ρ W (JY W).Z (JY W).Y) args vs) :
  Calls P f vs.toArray W fun e W'=>e = .returned (.bool true)∧Below W.heap.size W W':=by
 refine (h (JY W) vs rfl ⟨fun i o hi=>by simp [JY] at hi,fun i j o o' b hi=>by simp [JY] at hi,fun i o b hi=>by simp [JY] at hi,fun b h=>h,fun b h=>h⟩ (fun i o b hi=>by simp at hi) hv).mono ?_
 rintro en w' ⟨v,r,heap,ρ,Z,Y,rfl,⟨rfl,rfl⟩,hok,hval⟩
 have e:v = .bool true:=by
  cases hval with
  |t h=>cases h;rfl
 subst e
 exact ⟨rfl,hok.os,hok.tape,hok.output,hok.size,fun k hk=>hok.keep k (by simp only [JY];omega)⟩
theorem AVs.nil {R:AV→Value→Prop}:AVs R [] []:=⟨rfl,fun j x u h=>by simp at h⟩
theorem AVs.cons {R:AV→Value→Prop} {x:AV} {v:Value} {l:List AV} {us:List Value} (h:R x v) (k:AVs R l us):AVs R (x::l) (v::us):=by
 refine ⟨by simp [k.len],fun j y u hj hu=>?_⟩
 cases j with
 |zero=>simp at hj hu;subst hj hu;exact h
 |succ j=>exact k.at_ j y u cU eW
theorem QJ {H:Type} {P:Program} {ts us:List TypeId} {ds gs:List (DataW H)} (h:(DataW.weightsEach P (ts++us) (ds++gs)).all (· ≤ reachBytes)=true) {j:Nat} {t:TypeId} {d:DataW H} (ht:ts[j]? = some t) (hd:ds[j]? = some d) : ∀m∈d.weights P t,m≤reachBytes:=fun m hm=>by
 have h1:(ts++us)[j]? = some t:=by rw [gH (get_lt ht)];exact ht
 have h2:(ds++gs)[j]? = some d:=by rw [gH (get_lt hd)];exact hd
 have:=iI.1 h _ (DataW.weights_mem_each h1 h2 m hm)
 simpa using this
theorem AsF {x:Int} (h:(Lit.int .i64 x).wf=true) : -9223372036854775808≤x∧x≤9223372036854775807:=by have:=bounds_i64 h;omega
inductive Wa:AV→AV→Prop
 |any (x:AV):Wa x .any
 |refl (x:AV):Wa x x
 |agg {l l':List AV} (h1:l.length=l'.length) (h : ∀(j:Nat) x y,l[j]? = some x→l'[j]? = some y→Wa x y):Wa (.agg l) (.agg l')
inductive WaL:List AV→List AV→Prop
 |nil:WaL [] []
 |cons {x y:AV} {l l':List AV} (h:Wa x y) (k:WaL l l'):WaL (x::l) (y::l')
theorem WaL.get {l l':List AV} (h:WaL l l'):l.length=l'.length ∧ ∀(j:Nat) x y,l[j]? = some x→l'[j]? = some y→Wa x y:=by
 induction h with
 |nil=>exact ⟨rfl,fun j x y h=>by simp at h⟩
 | @cons x y l l' h k ih =>
  refine ⟨by simp [ih.1],fun j a b ha hb=>?_⟩
  cases j with
  |zero=>simp at ha hb;subst ha hb;exact h
  |succ j=>exact ih.2 j a b (by simpa using ha) (by simpa using hb)
theorem Wa.aggL {l l':List AV} (h:WaL l l'):Wa (.agg l) (.agg l'):=.agg h.get.1 h.get.2
theorem Wa.val {Kn:Nat→Nat→Prop} {ρ:Rho} {w:World} {Z Y:Nat→Prop} {x y:AV} (h:Wa x y) : ∀ {v:Value},Val Kn ρ w Z Y x v→Val Kn ρ w Z Y y v:=by
 induction h with
 |any x=>intro v _;exact .any v
 |refl x=>intro v h;exact h
 | @agg l l' h1 h ih =>
  intro v hv
  cases hv with
  | @agg _ us e ho hu =>
   refine .agg (h1.symm.trans e) ho fun j y u hj hu'=>?_
   have hl:=get_lt hj
   rw [←h1] at hl
   exact ih j _ y (ZgE hl) hj (hu j _ u (ZgE hl) hu')
theorem Cd.weak {P:Program} {f:FuncId} {args args':List AV} {r:AV} {L:List Ob} (h:Cd P f args' r L) (hw:WaL args args'):Cd P f args r L:=fun e vs h1 h2 h3 h4=>by
 obtain ⟨l1,l2⟩:=hw.get
 refine h e vs h1 h2 h3 ⟨l1.symm.trans h4.len,fun j y u hj hu=>?_⟩
 have hl:=get_lt hj
 rw [←l1] at hl
 exact (l2 j _ y (ZgE hl) hj).val (h4.at_ j _ u (ZgE hl) hu)
theorem headD {α:Type} {l:List α} {x:α} (h:l.head? = some x) : ∃r,l=x::r:=by
 cases l with
 |nil=>cases h
 |cons y r=>cases h;exact ⟨r,rfl⟩
theorem WR (rest : List (List Char)) : stripLifts liftWords ("cut".toList :: rest) = ([], "cut".toList :: rest) := by
 simp [stripLifts,liftWords]
theorem YE {P : Program} (h : (behindMainWord (wordsSigns P.initOrder.toList)).head? = some "cut".toList) (h1 : P.laysLater = false) (h2 : P.bearsReflect = false) (h3 : P.doorFits [] = true) : P.mayEnter = true := by
 obtain ⟨rest,hr⟩:=headD h
 unfold Program.mayEnter
 rw [hr]
 simp only [WR,h1,h2,h3]
 simp
theorem SW {P : Program} (h : (behindMainWord (wordsSigns P.initOrder.toList)).head? = some "cut".toList) : P.liftsFinal = false := by
 obtain ⟨rest,hr⟩:=headD h
 unfold Program.liftsFinal Program.headLifts
 rw [hr]
 simp only [WR]
 simp
theorem AgA {P : Program} (h : (behindMainWord (wordsSigns P.initOrder.toList)).head? = some "cut".toList) : P.make = some .cut := by
 obtain ⟨rest,hr⟩:=headD h
 unfold Program.make
 rw [hr]
 simp
set_option maxRecDepth 100000 in
theorem XQ : (behindMainWord (wordsSigns Tryz.prog.initOrder.toList)).head? = some "cut".toList := by
 have h:=(congrArg String.toList (rfl:Tryz.prog.initOrder=String.ofList _)).trans String.toList_ofList
 rw [h]
 decide +kernel
theorem JW:Tryz.prog.mayEnter=true:=YE XQ bG bG bG
theorem HE:Tryz.prog.liftsFinal=false:=SW XQ
theorem YD:Tryz.prog.make=some .cut:=AgA XQ
theorem k_ {a b:Bool} (h:a=true) (k:b=true):(a&&b)=true:=by simp [h,k]
end Go.Proofs.YtccefppppedgkaaGreat
namespace Go.Proofs.YtccefppppedgkaaGreat
open Go.RowKit
section
attribute [local irreducible] AL AW RG Fin C Cd Cio AI AF AO
theorem mixed:Tryz.prog.follows .mixedOrders=true:=by kernel_rfl
abbrev bo (b:Bool):AV:=.t (.v (.bool b))
abbrev i64 (x:Int):AV:=.t (.v (.int .i64 x))
def tI (x:Int):List Tr:=[.v (.int .i64 x)]
def tU (x:Int):List Tr:=[.v (.int .u64 x)]
structure Rst where
 seq:Int
 cas:Int
 code:Int
 value:Int
 deriving DecidableEq,Inhabited
def tR (r:Rst):List Tr:=[.v (.int .i64 r.seq),.v (.int .i64 r.cas),.v (.int .i64 r.code),.v (.int .i64 r.value)]
def JN (d:List Rst) (t:Int) (r:Rst):List Rst:=if 0≤t∧t<d.length then d.set t.toNat r else d
theorem h3_ {d:List Rst} {t:Int} {r:Rst} (h0:0≤t) (h:t<d.length):JN d t r=d.set t.toNat r:=fR ⟨h0,h⟩
theorem RH {d:List Rst} {t:Int} {r:Rst} (h : ¬(0≤t∧t<d.length)):JN d t r=d:=fT h
theorem EX (d:List Rst) (t:Int) (r:Rst):(JN d t r).length=d.length:=by unfold JN;split<;>simp
set_option maxRecDepth 100000 in
theorem AR (l:List Int) (h:l.length≤17592186044416):Cd Tryz.prog 82 [.ln (l.map tI)] (.sl 0 0 l.length) [.row 0 3 1 (l.map tI)]:=by
 refine Cd.enter' Tryz.func82 rfl Tryz.ntmps82 rfl ?_
 repeat' (first|((with_reducible refine kAL ?_);(first|(refine kL 1 rfl ?_;(first|refine A_move rfl rfl _ (.inr rfl) (y:=.sl _ _ _) rfl ?_|refine A_move rfl rfl _ (.inr rfl) (y:=.nl) rfl ?_))|refine A_move rfl rfl _ (.inl rfl) (y:=.ln _) rfl ?_|(refine kL 713 rfl ?_;(refine EF rfl rfl 22 _ _ rfl ud22 rfl (fun b hb=>?_)))|(refine kL 719 rfl ?_;refine AcI rfl rfl 22 rfl ud22 inf3 ?_)|(refine kL 12 rfl ?_;(refine BD rfl rfl _ _ 22 rfl ud22 inf3 rfl rfl (by exact .ln (by exact each_map (fun _=>rfl))) qB qB (by exact qN) (.push qL qN) qS ?_))|refine AL.nil ?_))|with_reducible refine AW.at_region _ ?_|(with_reducible (first|refine wk0 ?_|refine wk2 ?_|refine wk3 ?_|refine wk9 ?_|refine wkb ?_|refine wkd ?_))|refine kcc rfl (fun hc=>?_) (fun hc=>?_))
 ·have hl:l=[]:=by simpa using hb hc
  subst hl
  refine Fin.wk (Wk.own 2 rfl 3 1 (.push rfl rfl)) ?_
  exact Fin.q Tryz.results82 (.cons (.tmp rfl) .nil) [0]
 ·exact Fin.q Tryz.results82 (.cons (.tmp rfl) .nil) [0]
end
section
open Go.ChangeShapes Go.WideShapes
def sI (x:Int):Prop := -9223372036854775808≤x∧x≤9223372036854775807
def sB (_:Bool):Prop:=True
def tB (x:Bool):List Tr:=[.v (.bool x)]
def b1 {α:Type} (_:α):Nat:=1
def sL {α:Type} (s:α→Prop) (k:Nat) (l:List α):Prop:=l.length*k≤reachBytes ∧ ∀a∈l,s a
def bL {α:Type} (b:α→Nat) (l:List α):Nat:=(l.map b).sum+1
def tL {α:Type} (f:α→List Tr) (l:List α):List Tr:=[.lst (l.map f)]
section
variable {H:Type} {enc:TypeId × Value→H} {W:World}
theorem EA:BP enc Tryz.prog W 3 tI sI b1:=BP.map (BP.int Tryz.underlying3) id (fun _=>rfl) (fun _ h=>AsF h) (fun _=>fV _)
theorem AtO:BP enc Tryz.prog W 4 tB sB b1:=BP.map (BP.bool Tryz.underlying4) id (fun _=>rfl) (fun _ h=>trivial) (fun _=>fV _)
theorem AhA:BP enc Tryz.prog W 22 (tL tI) (sL sI 8) (bL b1):=BP.slice Tryz.underlying22 bG bG (fun _=>rfl) EA
end
structure HA where
 index:Int
 tag:Int
 deriving DecidableEq,Inhabited
def tRf (x:HA):List Tr:=tI x.index++tI x.tag
structure CR where
 index:Int
 tag:Int
 deriving DecidableEq,Inhabited
def tSl (x:CR):List Tr:=tI x.index++tI x.tag
structure CD where
 ref:HA
 stamp:Int
 deriving DecidableEq,Inhabited
def tOd (x:CD):List Tr:=tRf x.ref++tI x.stamp
structure BF where
 dir:Int
 handle:Int
 value:Int
 deriving DecidableEq,Inhabited
def tCs (x:BF):List Tr:=tI x.dir++tI x.handle++tI x.value
def sCs (x:BF):Prop:=sI x.dir∧sI x.handle∧sI x.value
def bCs (x:BF):Nat:=b1 x.dir+b1 x.handle+b1 x.value
theorem BeU {H:Type} {enc:TypeId × Value→H} {W:World}:BP enc Tryz.prog W 141 tCs sCs bCs:=by
 refine BP.map (BP.struct (n:=3) Tryz.underlying141 bG (fun _=>rfl) (BJ.cons (s:=1) rfl rfl bG (fun _=>rfl) EA (BJ.cons (s:=1) rfl rfl bG (fun _=>rfl) EA (BJ.cons (s:=1) rfl rfl bG (fun _=>rfl) EA BJ.nil)))) (fun (p:Int × Int × Int × Unit)=>⟨p.1,p.2.1,p.2.2.1⟩) (fun p=>?_) (fun p h=>?_) (fun p=>?_)
 ·simp [tCs,iC,tI,tL]
 ·obtain ⟨h0,h1,h2,_⟩:=h;exact ⟨h0,h1,h2⟩
 ·exact Nat.le_of_eq (by simp only [bCs,lZ,iT])
theorem BaK {H:Type} {enc:TypeId × Value→H} {W:World}:BP enc Tryz.prog W 30 (tL tCs) (sL sCs 24) (bL bCs):=BP.slice (s:=3) Tryz.underlying30 bG bG (fun _=>rfl) BeU
structure AU where
 kind:Int
 arg:Int
 value:Int
 dflt:Bool
 cases:List BF
 deriving DecidableEq,Inhabited
def tRq (x:AU):List Tr:=tI x.kind++tI x.arg++tI x.value++tB x.dflt++tL tCs x.cases
def sRq (x:AU):Prop:=sI x.kind∧sI x.arg∧sI x.value∧sB x.dflt∧(sL sCs 24) x.cases
def bRq (x:AU):Nat:=b1 x.kind+b1 x.arg+b1 x.value+b1 x.dflt+(bL bCs) x.cases
theorem BeW {H:Type} {enc:TypeId × Value→H} {W:World}:BP enc Tryz.prog W 32 tRq sRq bRq:=by
 refine BP.map (BP.struct (n:=5) Tryz.underlying32 bG (fun _=>rfl) (BJ.cons (s:=1) rfl rfl bG (fun _=>rfl) EA (BJ.cons (s:=1) rfl rfl bG (fun _=>rfl) EA (BJ.cons (s:=1) rfl rfl bG (fun _=>rfl) EA (BJ.cons (s:=1) rfl rfl bG (fun _=>rfl) AtO (BJ.cons (s:=1) rfl rfl bG (fun _=>rfl) BaK BJ.nil)))))) (fun (p:Int × Int × Int × Bool × List BF × Unit)=>⟨p.1,p.2.1,p.2.2.1,p.2.2.2.1,p.2.2.2.2.1⟩) (fun p=>?_) (fun p h=>?_) (fun p=>?_)
 ·simp [tRq,iC,tB,tCs,tI,tL]
 ·obtain ⟨h0,h1,h2,h3,h4,_⟩:=h;exact ⟨h0,h1,h2,h3,h4⟩
 ·exact Nat.le_of_eq (by simp only [bRq,lZ,iT])
structure CO where
 cap:Int
 list:List Int
 done:List Rst
 deriving DecidableEq,Inhabited
structure HK where
 thread:Int
 result:Rst
 deriving DecidableEq,Inhabited
def tTd (x:HK):List Tr:=tI x.thread++tR x.result
structure AH where
 on:Bool
 ticket:Int
 seq:Int
 cases:List BF
 deriving DecidableEq,Inhabited
def tWt (x:AH):List Tr:=tB x.on++tI x.ticket++tI x.seq++tL tCs x.cases
structure AY where
 gen:Int
 cap:Int
 used:Bool
 closed:Bool
 buf:List Int
 deriving DecidableEq,Inhabited
def tCh (x:AY):List Tr:=tI x.gen++tI x.cap++tB x.used++tB x.closed++tL tI x.buf
structure DOp where
 thread:Int
 seq:Int
 phase:Int
 req:AU
 deriving DecidableEq,Inhabited
def tOp (x:DOp):List Tr:=tI x.thread++tI x.seq++tI x.phase++tRq x.req
structure JP where
 kind:Int
 thread:Int
 seq:Int
 time:Int
 req:AU
 result:Rst
 deriving DecidableEq,Inhabited
def tNt (x:JP):List Tr:=tI x.kind++tI x.thread++tI x.seq++tI x.time++tRq x.req++tR x.result
structure CP where
 time:Int
 thread:Int
 ops:List DOp
 deriving DecidableEq,Inhabited
def tTn (x:CP):List Tr:=tI x.time++tI x.thread++tL tOp x.ops
structure AM where
 ticket:Int
 chans:List AY
 waits:List AH
 done:List Rst
 deriving DecidableEq,Inhabited
structure AB where
 kind:Int
 threads:Int
 chans:Int
 cap:Int
 nodes:Int
 retire:Int
 patience:Int
 tags:Int
 seqs:Int
 gens:Int
 start:List Int
 deriving DecidableEq,Inhabited
def tCf (x:AB):List Tr:=tI x.kind++tI x.threads++tI x.chans++tI x.cap++tI x.nodes++tI x.retire++tI x.patience++tI x.tags++tI x.seqs++tI x.gens++tL tI x.start
def sCf (x:AB):Prop:=sI x.kind∧sI x.threads∧sI x.chans∧sI x.cap∧sI x.nodes∧sI x.retire∧sI x.patience∧sI x.tags∧sI x.seqs∧sI x.gens∧(sL sI 8) x.start
def bCf (x:AB):Nat:=b1 x.kind+b1 x.threads+b1 x.chans+b1 x.cap+b1 x.nodes+b1 x.retire+b1 x.patience+b1 x.tags+b1 x.seqs+b1 x.gens+(bL b1) x.start
theorem AtN {H:Type} {enc:TypeId × Value→H} {W:World}:BP enc Tryz.prog W 24 tCf sCf bCf:=by
 refine BP.map (BP.struct (n:=11) Tryz.underlying24 bG (fun _=>rfl) (BJ.cons (s:=1) rfl rfl bG (fun _=>rfl) EA (BJ.cons (s:=1) rfl rfl bG (fun _=>rfl) EA (BJ.cons (s:=1) rfl rfl bG (fun _=>rfl) EA (BJ.cons (s:=1) rfl rfl bG (fun _=>rfl) EA (BJ.cons (s:=1) rfl rfl bG (fun _=>rfl) EA (BJ.cons (s:=1) rfl rfl bG (fun _=>rfl) EA (BJ.cons (s:=1) rfl rfl bG (fun _=>rfl) EA (BJ.cons (s:=1) rfl rfl bG (fun _=>rfl) EA (BJ.cons (s:=1) rfl rfl bG (fun _=>rfl) EA (BJ.cons (s:=1) rfl rfl bG (fun _=>rfl) EA (BJ.cons (s:=1) rfl rfl bG (fun _=>rfl) AhA BJ.nil)))))))))))) (fun (p:Int × Int × Int × Int × Int × Int × Int × Int × Int × Int × List Int × Unit)=>⟨p.1,p.2.1,p.2.2.1,p.2.2.2.1,p.2.2.2.2.1,p.2.2.2.2.2.1,p.2.2.2.2.2.2.1,p.2.2.2.2.2.2.2.1,p.2.2.2.2.2.2.2.2.1,p.2.2.2.2.2.2.2.2.2.1,p.2.2.2.2.2.2.2.2.2.2.1⟩) (fun p=>?_) (fun p h=>?_) (fun p=>?_)
 ·simp [tCf,iC,tI,tL]
 ·obtain ⟨h0,h1,h2,h3,h4,h5,h6,h7,h8,h9,h10,_⟩:=h;exact ⟨h0,h1,h2,h3,h4,h5,h6,h7,h8,h9,h10⟩
 ·exact Nat.le_of_eq (by simp only [bCf,lZ,iT])
structure BV where
 own:HA
 free:List CR
 old:List CD
 spent:Int
 deriving DecidableEq,Inhabited
structure FO where
 on:Bool
 shut:Bool
 over:Bool
 inn:Int
 outs:List Int
 at_:Int
 value:Int
 deriving DecidableEq,Inhabited
end
end Go.Proofs.YtccefppppedgkaaGreat
