/- Joined: XLC. -/
import Derived.Test.YtccefppppedgkaaGreatKHc
set_option linter.unusedVariables false
set_option linter.unusedSimpArgs false
set_option linter.unnecessarySimpa false
set_option maxRecDepth 100000
set_option maxHeartbeats 64000000
namespace Go.Proofs.YtccefppppedgkaaGreat
open Go.RowKit
def AfU (size:Nat):Nat→List (Nat × List AV)→Option (List (List Tr))
 |_,[]=>some []
 |k,(i,cs)::r=>match i1_ cs,AfU size (k+1) r with
  |some ts,some m=>bif Nat.beq i k&&Nat.beq ts.length size then some (ts::m) else none
  |_,_=>none
theorem b2_ {size:Nat} : ∀(ps:List (Nat × Value)) (vss:List (List Value)) (k:Nat) (cells:List Value),ps.length=vss.length→(∀(j:Nat) i v vs,ps[j]? = some (i,v)→vss[j]? = some vs→i=k+j∧v.cells=vs.toArray∧vs.length=size)→cells.length=(k+vss.length)*size →
  Instr.fill (fun i=>some (i*size,size)) cells.toArray ps=some (cells.take (k*size)++vss.flatten).toArray
 | [],[],k,cells,_,_,hc=>by
  simp only [gI,iT] at hc
  simp [Instr.fill, ←hc]
 | [],_::_,_,_,h,_,_=>by simp at h
 |_::_,[],_,_,h,_,_=>by simp at h
 | (i,v)::ps,vs::vss,k,cells,hl,hp,hc=>by
  obtain ⟨e1,e2,e3⟩:=hp 0 i v vs rfl rfl
  have e1:i=k:=by omega
  subst e1
  simp only [gF] at hc
  have hle:i*size+size≤cells.length:=by
   rw [hc, ←kF]
   exact iE _ (by omega)
  unfold Instr.fill
  simp only [e2,kZ,e3]
  rw [fT bA]
  have hf:=SJ vs 0 (i*size) cells.toArray bA
  have ee:vs.toArray.zipIdx.foldl (fun cs (x:Value × Nat)=>cs.setIfInBounds (i*size+x.2) x.1) cells.toArray=(cells.take (i*size)++vs++cells.drop (i*size+size)).toArray:=by
   apply kU.1
   rw [←Array.foldl_toList,Array.toList_zipIdx]
   simpa [e3] using hf
  have ih:=b2_ ps vss (i+1) (cells.take (i*size)++vs++cells.drop (i*size+size)) (by simpa using hl) (fun j i' v' vs' h1 h2=>by
   obtain ⟨a,b,c⟩:=hp (j+1) i' v' vs' (by simpa using h1) (by simpa using h2)
   exact ⟨by omega,b,c⟩) (by
   simp only [fP,fY,gJ,e3]
   rw [show (i+1+vss.length)*size=(i+(vss.length+1))*size by congr 1;omega, ←hc]
   omega)
  have h5:(cells.take (i*size)++vs++cells.drop (i*size+size)).take ((i+1)*size)=cells.take (i*size)++vs:=by
   rw [kF]
   refine List.take_left' ?_
   rw [fP,fY,e3];omega
  rw [h5] at ih
  rw [List.flatten_cons, ←gC, ←ih]
  exact congrArg (fun c=>Instr.fill (fun i=>some (i*size,size)) c ps) ee
variable {size:Nat}
theorem AfV {e:Env} {n:Fr} {T:Nat→AV} {heap:List Ob} {a:Act} {w:World} {ρ:Rho} {Z Y:Nat→Prop} (hR:Rp e ⟨n,T,heap⟩ a w ρ Z Y) {ps:List (Nat × Operand)} {qs:List (Nat × List AV)} (hp:Parts n T ps qs) :
  ∀ {k:Nat} {els:List (List Tr)},AfU size k qs=some els → ∃vss:List (List Value),vss.length=els.length∧ps.length=vss.length∧(∀(j:Nat) i v vs,(ps.map (fun x=>(x.1,a.eval x.2)))[j]? = some (i,v)→vss[j]? = some vs→i=k+j∧v.cells=vs.toArray∧vs.length=size)∧BM (Frz w Z) size els vss.flatten:=by
 induction hp with
 |nil=>intro k els h;cases h;exact ⟨[],rfl,rfl,fun j i v vs h=>by simp at h,.nil⟩
 | @cons i x cs ps qs h k ih =>
  intro kk els hl
  unfold AfU at hl
  split at hl
  ·rename_i ts m h1 h2
   cases hb:(Nat.beq i kk&&Nat.beq ts.length size) with
   |false=>rw [hb] at hl;cases hl
   | true =>
    rw [hb] at hl
    cases hl
    rw [gG] at hb
    have b1:=jB hb.1
    have b2:=jB hb.2
    subst b1
    obtain ⟨ws,g1,g2,g3⟩:=(hR.eval x).flat h
    obtain ⟨q1,q2⟩:=PJ h1 g2
    obtain ⟨vss,v1,v2,v3,v4⟩:=ih h2
    refine ⟨ws::vss,by simp [v1],by simp [v2],fun j i' v vs hj hv=>?_,?_⟩
    ·cases j with
     |zero=>simp at hj hv;obtain ⟨rfl,rfl⟩:=hj;subst hv;exact ⟨rfl,g1,by omega⟩
     |succ j =>
      obtain ⟨a1,a2,a3⟩:=v3 j i' v vs cU (by simpa using hv)
      exact ⟨by omega,a2,a3⟩
    ·rw [List.flatten_cons]
     have h6:BM (Frz w Z) size [ts] ws:=⟨by simp;omega,fun c hc=>by simp at hc;rw [hc];exact b2,fun i' c j y u hi hj hu=>by
      cases i' with
      |zero=>simp at hi;subst hi;exact q2 j y u hj eW
      |succ i'=>simp at hi⟩
     exact h6.append v4
  ·cases hl
variable {bytes:Nat} {els:List (List Tr)}
section
variable {P:Program} {ops:Array Oper} {Q:QS} {rest:List Oper} {o:Oper} {n:Fr} {T:Nat→AV} {heap:List Ob} {d:Nat}
theorem AcI (hw:AD n T ops o=true) (hd:o.dst=some d) (t:TypeId) (ho:o.op = .buildSlice t 0 #[]) {e:TypeId} (ht:P.underlying t=some (.slice e)) {z:Option Value} (hI:(P.info? e).map (fun i=>(i.zero,i.size,i.bytes))=some (z,size,bytes))
  (k:AL P ops Q rest n (pu T d .nl) heap):AL P ops Q (o::rest) n T heap:=by
 refine AL.act hw hd (fun en a w ρ Z Y hR=>?_) k
 have hrep:=hR.ok.rep
 have hsame : ∀b,b<w.heap.size→(w.alloc (.cells #[] e)).heap[b]? = w.heap[b]? := fun b hb=>Below.heap_alloc w _ b hb
 have hm : ∀x v,Val (Kn heap) ρ w Z Y x v→Val (Kn heap) ρ (w.alloc (.cells #[] e)) Z Y x v:=fun x v hv=>hrep.val (fun j k hj=>⟨hj,rfl⟩) (fun _ h=>h) (fun b hb=>⟨hb,hsame b (hrep.ylt b hb)⟩) hv
 refine ⟨.slice (some ⟨w.heap.size,0,none⟩) 0 0,w.alloc (.cells #[] e),ρ,Z,Y,?_,?_,hm,.nl _⟩
 ·refine BU (s:=Instr.buildSlice t 0 #[]) (by unfold execOp;rw [ho];simp) ?_
  obtain ⟨inf,hin,_,hs,_⟩:=FU hI
  simp [Instr.buildSlice,run_underlying ht,sizeOf,typeInfo,hin,Result.andThen,Instr.fill,newRow]
  exact congrArg (fun c=>w.alloc (Obj.cells c e)) (Array.eq_empty_of_size_eq_zero (by simp))
 ·have:=hR.ok.push (N:=heap.length) (L:=[]) (heap':=heap) (w':=w.alloc (.cells #[] e)) (ρ':=ρ) (Z':=Z) (Y':=Y) (.push rfl (by simp)) (fun _ _ _=>rfl) ⟨rfl,rfl,rfl⟩ (by simp) hsame (fun _ h=>h) (fun _ h=>h) hrep.zy (fun b hb=>.inl hb) (fun b hb=>.inl hb) (fun q o hq=>by simp at hq) (fun q r o o' b hq=>by simp at hq) (fun q o b hq=>by simp at hq)
  exact this
theorem A_lit (hw:AD n T ops o=true) (hd:o.dst=some d) (t:TypeId) (len:Nat) (parts:Array (Nat × Operand)) (ho:o.op = .buildSlice t len parts) {e:TypeId} (ht:P.underlying t=some (.slice e)) {z:Value} (hI:(P.info? e).map (fun i=>(i.zero,i.size,i.bytes))=some (some z,size,bytes))
  {qs:List (Nat × List AV)} (hq:Parts n T parts.toList qs) (he:AfU size 0 qs=some els) {els':List (List Tr)} (he':els=els') (hlen:els'.length=len) (h0:len*size≠0) (hm:len*size≤16777216) (hn:len≤16777216)
  {heap':List Ob} {N:Nat} (hat:AtL heap N [.row 0 e size els'] heap') (k:AL P ops Q rest n (pu T d (.sl N 0 len)) heap'):AL P ops Q (o::rest) n T heap:=by
 subst he'
 refine AL.act hw hd (fun en a w ρ Z Y hR=>?_) k
 have hrep:=hR.ok.rep
 obtain ⟨vss,v1,v2,v3,v4⟩:=AfV hR hq he
 obtain ⟨inf,hin,hz,hs,hb⟩:=FU hI
 have hlen':vss.flatten.length=len*size:=by rw [v4.len,hlen]
 have hfill:=b2_ (size:=size) (parts.toList.map (fun x=>(x.1,a.eval x.2))) vss 0 ((Array.range (len*size)).map (z.cells[· % z.cells.size]!)).toList (by simpa using v2) v3 (by simp [v1,hlen])
 have hsame : ∀b,b<w.heap.size→(w.alloc (.cells vss.flatten.toArray e)).heap[b]? = w.heap[b]? := fun b hb=>Below.heap_alloc w _ b hb
 have hzz : ∀b,Z b→Z b∧(w.alloc (.cells vss.flatten.toArray e)).heap[b]? = w.heap[b]? := fun b hb=>⟨hb,hsame b (hrep.ylt b (hrep.zy b hb))⟩
 have hrow:(w.alloc (.cells vss.flatten.toArray e)).ownsRow 0 e size (.slice (some ⟨w.heap.size,0,none⟩) len len) len vss.flatten:=by
  have:=World.ownsRow_lit (base:=0) (e:=e) (size:=size) w vss.flatten.toArray len (fX _) (by simp only [maxLen];omega) (by simpa using hlen')
  simpa using this
 have hl0:len≠0:=fun h=>h0 (by rw [h];simp)
 obtain ⟨ρ',k1,k2,k3,k4⟩:=hR.ok.push1 (o:=.row 0 e size els) hat (w':=w.alloc (.cells vss.flatten.toArray e)) (pl:=⟨some ⟨w.heap.size,0,none⟩,len,size⟩) ⟨rfl,rfl,rfl⟩ (by simp) hsame
  (fun ρ' hN hρ=>⟨by rw [hN],_,v4.mono fun _ _ h=>Frz.mono hzz h,by rw [hN,hlen];exact .inr ⟨by show 0<len;omega,hrow⟩⟩)
  (fun b hb _=>by simp at hb;subst hb;simp)
 refine ⟨.slice (some ⟨w.heap.size,0,none⟩) len len,_,ρ',Z,Y,?_,k1,k2,?_⟩
 ·refine BU (s:=Instr.buildSlice t len (parts.map (fun (i,x)=>(i,a.eval x)))) bD ?_
  have e1:(sizeOf e).run P w = .ok size w:=by simp [sizeOf,typeInfo,hin,hs]
  have e2:(zeroValue e).run P w = .ok z w:=by simp [zeroValue,typeInfo,hin,hz]
  have hm' : ¬(len*size>2^24):=by omega
  have e5:(parts.map (fun (i,x)=>(i,a.eval x))).toList=parts.toList.map (fun x=>(x.1,a.eval x.2)):=by simp
  simp only [Nat.zero_mul,jS,gU] at hfill
  simp only [Instr.buildSlice,Sem.run_bind,run_underlying ht,Result.andThen_ok,e1,fT hm',fT h0,e2,Sem.run_pure,e5]
  simp only [Array.toArray_toList] at hfill
  simp only [hfill]
  simp [newRow,Result.andThen]
 ·have:=Val.sl (Kn:=Kn heap') (ρ:=ρ') (w:=w.alloc (.cells vss.flatten.toArray e)) (Z:=Z) (Y:=Y) (i:=N) (k:=0) (n:=len) ⟨_,hat.one,fV _⟩ (by rw [k3];exact fV _) (by rw [k3];intro e;cases e)
  rw [k3] at this
  exact this
inductive Args (n:Fr) (T:Nat→AV):List Operand→List AV→Prop
 |nil:Args n T [] []
 |cons {x:Operand} {y:AV} {l:List Operand} {m:List AV} (h:evA n T x=y) (k:Args n T l m):Args n T (x::l) (y::m)
theorem Args.get {l:List Operand} {m:List AV} (h:Args n T l m):m=l.map (evA n T):=by
 induction h with
 |nil=>rfl
 |cons h k ih=>rw [ih, ←h];rfl
theorem BbV (hw:AD n T ops o=true) (hd:o.dst=some d) (f:Fn) (first cap:Array Operand) (ho:o.op = .makeFunc f first cap) {us vs:List AV} (hf:Args n T first.toList us) (hc:Args n T cap.toList vs) (k:AL P ops Q rest n (pu T d (.fn f us vs)) heap):AL P ops Q (o::rest) n T heap:=by
 refine AL.val hw hd (fun en a w ρ Z Y hR=>?_) k
 have e1:=hf.get
 have e2:=hc.get
 subst e1 e2
 refine ⟨.func f (first.toList.map a.eval).toArray (cap.toList.map a.eval).toArray,BU (s:=Instr.makeFunc f (first.map a.eval) (cap.map a.eval)) bD ?_,.fn (by simp) (by simp) (fun j x u hj hu=>?_) (fun j x u hj hu=>?_)⟩
 ·have q1:first.map a.eval=(first.toList.map a.eval).toArray:=by apply kU.1;simp
  have q2:cap.map a.eval=(cap.toList.map a.eval).toArray:=by apply kU.1;simp
  rw [q1,q2];rfl
 ·rw [gP] at hj hu
  cases hx:first.toList[j]? with
  |none=>rw [hx] at hj;cases hj
  |some y=>rw [hx] at hj hu;cases hj;cases hu;exact hR.eval y
 ·rw [gP] at hj hu
  cases hx:cap.toList[j]? with
  |none=>rw [hx] at hj;cases hj
  |some y=>rw [hx] at hj hu;cases hj;cases hu;exact hR.eval y
theorem XE (hw:AD n T ops o=true) (hd:o.dst=some d) (c x y:Operand) (ho:o.op = .pick c x y) {b:Bool} (hc:evA n T c = .t (.v (.bool b))) {u v:AV} (hx:evA n T x=u) (hy:evA n T y=v) {r:AV} (hr:(bif b then u else v)=r) (k:AL P ops Q rest n (pu T d r) heap):AL P ops Q (o::rest) n T heap:=by
 subst hx hy hr
 refine AL.val hw hd (fun en a w ρ Z Y hR=>?_) k
 have e1:=ET (u:=.bool b) (by rw [hc];rfl) (hR.eval c)
 refine ⟨if b then a.eval x else a.eval y,?_,?_⟩
 ·unfold execOp
  simp only [ho,e1]
  cases b<;>simp [asBool,Result.andThen]
 ·cases b
  ·exact hR.eval y
  ·exact hR.eval x
end
inductive FzR (i k:Nat) (els:List (List Tr)):AV→AV→Prop
 |all {m:Nat} (hm:els.length=m):FzR i k els (.sl i k m) (.t (.lst els))
 |sl {m:Nat} (hm:m≤els.length):FzR i k els (.sl i k m) (.t (.lst (els.take m)))
 |sub {off m:Nat} (hm:off+m≤els.length):FzR i k els (.sub i k off m) (.t (.lst ((els.drop off).take m)))
 |nlt:FzR i k els .nl (.t (.lst []))
 |same (x:AV):FzR i k els x x
 |agg {l l':List AV} (h1:l.length=l'.length) (h : ∀(j:Nat) x y,l[j]? = some x→l'[j]? = some y→FzR i k els x y):FzR i k els (.agg l) (.agg l')
inductive FzL (i k:Nat) (els:List (List Tr)):List AV→List AV→Prop
 |nil:FzL i k els [] []
 |cons {x y:AV} {l l':List AV} (h:FzR i k els x y) (g:FzL i k els l l'):FzL i k els (x::l) (y::l')
variable {i k:Nat}
theorem FzL.get {l l':List AV} (h:FzL i k els l l'):l.length=l'.length ∧ ∀(j:Nat) x y,l[j]? = some x→l'[j]? = some y→FzR i k els x y:=by
 induction h with
 |nil=>exact ⟨rfl,fun j x y h=>by simp at h⟩
 |cons h k ih =>
  refine ⟨by simp [ih.1],fun j x y hj hy=>?_⟩
  cases j with
  |zero=>simp at hj hy;subst hj hy;exact h
  |succ j=>exact ih.2 j x y cU (by simpa using hy)
theorem FzR.aggL {l l':List AV} (h:FzL i k els l l'):FzR i k els (.agg l) (.agg l'):=.agg h.get.1 h.get.2
variable {s:Nat}
theorem SL {w:World} {Z:Nat→Prop} {a:Option Addr} {c m:Nat} {xs:List Value} (hr:Rs w s a els.length c xs) (he:BM (Frz w Z) s els xs) (hz:xs≠[]→Z (adr a).block) (hm:m≤els.length):Frz w Z (.lst (els.take m)) (.slice a m c) :=
 .shut (by rw [fY];omega) (RD hr hm) (fun hne=>hz fun e=>by rw [e] at hne;simp at hne) (he.take m)
theorem FzR.val {Kn:Nat→Nat→Prop} {ρ:Rho} {w:World} {Z Y:Nat→Prop} (hf : ∀m,m≤els.length→Frz w Z (.lst (els.take m)) (.slice (ρ i k).a m (ρ i k).c)) (hg : ∀(off m:Nat) (a:Option Addr) (c:Nat),m≤c→c≤maxLen→(a = .none→m=0∧c=0)→(m≠0→a=some ((adr (ρ i k).a).add (off*(ρ i k).s)))→off+m≤els.length→Frz w Z (.lst ((els.drop off).take m)) (.slice a m c)) {x y:AV} (h:FzR i k els x y) : ∀ {v:Value},Val Kn ρ w Z Y x v→Val Kn ρ w Z Y y v:=by
 induction h with
 | all hm =>
  intro v hv
  cases hv with
  |sl hk hc h0 =>
   have:=hf els.length (fV _)
   rw [jQ] at this
   subst hm
   exact .t this
 |sl hm =>
  intro v hv
  cases hv with
  |sl hk hc h0=>exact .t (hf _ hm)
 |sub hm =>
  intro v hv
  cases hv with
  |sub hk hn' hmx h0 ha=>exact .t (hg _ _ _ _ hn' hmx h0 ha hm)
 |nlt =>
  intro v hv
  cases hv with
  |nl sa=>exact .t (.lst (size:=0) (xs:=[]) ⟨fV _,fX _,fun _=>⟨rfl,rfl⟩,by simp,fun j u hj=>by simp at hj⟩ (fun h=>absurd rfl h) rfl (fun _ h=>by simp at h) (fun i cs j x u hi=>by simp at hi))
 |same x=>intro v hv;exact hv
 | agg h1 h ih =>
  intro v hv
  cases hv with
  |agg e1 ho hu =>
   refine .agg (by rw [←h1];exact e1) ho (fun j y u hj hu'=>?_)
   have hlt:=get_lt hj
   rw [←h1] at hlt
   exact ih j _ y (ZgE hlt) hj (hu j _ u (ZgE hlt) hu')
theorem Wk.freeze {n:Fr} {T:Nat→AV} {heap:List Ob} (i:Nat) {E:TypeId} (hi:heap[i]? = some (.row k E s els)) (d:Nat) {x y:AV} (hd:evA n T (.tmp d)=x) (hr:FzR i k els x y) {heap':List Ob} (hh:heap.set i (.gone k)=heap'):Wk n T heap (pu T d y) heap':=by
 subst hh hd
 rintro e a w ⟨ρ,Z,Y,hR⟩
 have hrep:=hR.ok.rep
 obtain ⟨h1,xs,h2,h3,h4⟩:=hrep.row hi
 have hz : ∀b,Z b→(Z b∨(Ob.row k E s els).blk ρ i=some b)∧w.heap[b]? = w.heap[b]? := fun b hb=>⟨.inl hb,rfl⟩
 have hy : ∀b,Y b→(Y b∨(Ob.row k E s els).blk ρ i=some b)∧w.heap[b]? = w.heap[b]? := fun b hb=>⟨.inl hb,rfl⟩
 have hm : ∀x v,Val (Kn heap) ρ w Z Y x v→Val (Kn (heap.set i (.gone k))) ρ w (fun b=>Z b∨(Ob.row k E s els).blk ρ i=some b) (fun b=>Y b∨(Ob.row k E s els).blk ρ i=some b) x v:=fun x v hv =>
  hv.mono (fun j q hj=>⟨hj.set hi (fV _),rfl⟩) hz hy
 have hok:Ok e (heap.set i (.gone k)) w ρ (fun b=>Z b∨(Ob.row k E s els).blk ρ i=some b) (fun b=>Y b∨(Ob.row k E s els).blk ρ i=some b):=by
  refine hR.ok.mono (hrep.freeze hi) (fun j q hj=>⟨hj.set hi (fV _),rfl⟩) ⟨rfl,rfl,rfl⟩ (fV _) (fun j p b hj hp=>?_) (fun b hb=>.inl hb) (fun b hb=>.inl hb) (fun b hb=>hb.elim .inl fun hb=>.inr (hR.ok.dom i _ b hi hb)) (fun _ _ _=>rfl)
  rw [gY] at hj
  split at hj
  ·split at hj<;>cases hj
   cases hp
  ·exact hR.ok.dom j p b hj hp
 have hblk:xs≠[]→Z (adr (ρ i k).a).block∨(Ob.row k E s els).blk ρ i=some (adr (ρ i k).a).block:=fun hne=>.inr (by
  rcases h3 with ⟨_,_,e⟩|⟨hc,hh⟩
  ·exact absurd e hne
  ·simp only [Ob.blk]
   rw [fT (by omega)]
   cases ha:(ρ i k).a with
   |some b=>rfl
   |none =>
    rw [ha] at hh
    rcases hh.2 with ⟨e,_⟩|⟨g,cap,cur,e,_⟩
    ·simp only [Value.slice.injEq] at e;omega
    ·simp at e)
 have hfz : ∀m,m≤els.length→Frz w (fun b=>Z b∨(Ob.row k E s els).blk ρ i=some b) (.lst (els.take m)) (.slice (ρ i k).a m (ρ i k).c):=fun m hm =>
  SL h4 (h2.mono fun _ _ h=>Frz.mono hz h) hblk hm
 have hgz : ∀(off m:Nat) (a:Option Addr) (c:Nat),m≤c→c≤maxLen→(a = .none→m=0∧c=0)→(m≠0→a=some ((adr (ρ i k).a).add (off*(ρ i k).s)))→off+m≤els.length→Frz w (fun b=>Z b∨(Ob.row k E s els).blk ρ i=some b) (.lst ((els.drop off).take m)) (.slice a m c):=by
  intro off m a c hn' hmx h0 ha hle
  have e:((els.drop off).take m).length=m:=by rw [fY,gJ];omega
  have hm0 : ∀ {q:List Value},q=(xs.drop (off*s)).take (m*s)→q≠[]→m≠0:=fun e1 hne e2=>hne (by rw [e1,e2];simp)
  have hE:=(((h2.mono fun _ _ h=>Frz.mono hz h).drop off).take m)
  refine .shut (xs:=(xs.drop (off*s)).take (m*s)) (size:=s) e ⟨hn',hmx,h0,?_,fun j u hj=>?_⟩ (fun hne=>?_) hE
  ·have:=hE.len
   rw [e] at this;exact this
  ·have hne:=hm0 rfl (fun e=>by rw [e] at hj;simp at hj)
   rw [gN] at hj
   split at hj
   ·rw [ha hne,gK] at *
    show w.cell? (Addr.add ((adr (ρ i k).a).add _) j)=_
    rw [add_add,h1]
    exact h4.cells _ u hj
   ·cases hj
  ·have hne':=hm0 rfl hne
   rw [ha hne']
   show Z (Addr.add _ _).block∨_=some (Addr.add _ _).block
   rw [DL]
   exact hblk (fun e=>by rw [e] at hne;simp at hne)
 have hv:=hR.eval (.tmp d)
 have h5:=hR.move hok hm
 have h6:=FzR.val hfz hgz hr (hm _ _ hv)
 refine ⟨ρ,_,_,h5.ok,h5.defers,h5.n,h5.hl,fun t v ht=>?_⟩
 by_cases c:t=d
 ·subst c
  show Val _ _ _ _ _ (pu T t y t) v
  simp only [pu,kX,kC]
  simp only [Act.eval,iY,ht,jK] at h6
  exact h6
 ·show Val _ _ _ _ _ (pu T d y t) v
  have h1:Nat.beq t d=false:=by
   cases hb:Nat.beq t d
   ·rfl
   ·exact absurd (jB hb) c
  simp only [pu,h1,jX]
  exact h5.at_ t v ht
end Go.Proofs.YtccefppppedgkaaGreat
namespace Go.Proofs.YtccefppppedgkaaGreat
open Go.RowKit
def l5_:AV→List Nat
 |.sl i _ _=>[i]
 |.sub i _ _ _=>[i]
 |_=>[]
variable {s m l N size bytes i off k' idx m':Nat} {els els':List (List Tr)} {F:List Dl→(Nat→AV)→List Ob→Prop} {acc:List Dl} {cs us' cs' us:List AV} {heap':List Ob} {ds:TypeDesc} {t' E e:TypeId} {u:AV} {kd k k2:IntKind} {I a b c:Int}
section
variable {P:Program} {ops:Array Oper} {rest:List Oper} {o:Oper} {n:Fr} {T T':Nat→AV} {heap h':List Ob} {d:Nat}
theorem ev_eq (hT : ∀t∈o.looksAt ops,T' t=T t) {x:Operand} (hx:x∈o.op.operands.toList):evA n T' x=evA n T x:=by
 cases x with
 |tmp t =>
  have:t∈o.looksAt ops:=iZ _ (List.mem_filterMap.2 ⟨.tmp t,hx,rfl⟩)
  simp only [evA,hT t this]
 |_=>rfl
theorem wanted_eqA (hT : ∀t∈o.looksAt ops,T' t=T t):AD n T' ops o=AD n T ops o:=by
 unfold AD
 cases hg:o.guard with
 |none=>rfl
 | some q =>
  obtain ⟨j,want⟩:=q
  simp only
  cases hd:(ops[j]?).bind (·.dst) with
  |none=>rfl
  |some d =>
   have:d∈o.looksAt ops:=iR _ (by simp [hg,hd])
   simp only [evA,hT d this]
theorem AiL (hT : ∀t∈o.looksAt ops,T' t=T t):LS n T' ops o=LS n T ops o:=by
 unfold LS
 cases hg:o.guard with
 |none=>rfl
 | some q =>
  obtain ⟨j,want⟩:=q
  simp only
  cases hd:(ops[j]?).bind (·.dst) with
  |none=>rfl
  |some d =>
   have:d∈o.looksAt ops:=iR _ (by simp [hg,hd])
   simp only [evA,hT d this]
theorem Rd.agree {x:AV} (hh : ∀i∈l5_ x,h'[i]? = heap[i]?) (h:Rd heap s x els):Rd h' s x els:=by
 cases h with
 |ln h=>exact .ln h
 |lst h=>exact .lst h
 |nl=>exact .nl
 |sl hi hm=>exact .sl (by rw [hh _ (by simp [l5_])];exact hi) hm
 |all hi hm=>exact .all (by rw [hh _ (by simp [l5_])];exact hi) hm
 |sub hi hm=>exact .sub (by rw [hh _ (by simp [l5_])];exact hi) hm
theorem Parts.agree (hT : ∀t∈o.looksAt ops,T' t=T t) {ps:List (Nat × Operand)} {qs:List (Nat × List AV)} (hp : ∀y,(∃i,(i,y)∈ps)→y∈o.op.operands.toList) (h:Parts n T ps qs):Parts n T' ps qs:=by
 induction h with
 |nil=>exact .nil
 | @cons i x cs ps qs h k ih=>exact .cons (by rw [ev_eq hT (hp x ⟨i,by simp⟩)];exact h) (ih fun y ⟨j,hy⟩=>hp y ⟨j,kY _ hy⟩)
theorem Args.agree (hT : ∀t∈o.looksAt ops,T' t=T t) {l:List Operand} {m:List AV} (hy : ∀x∈l,x∈o.op.operands.toList) (h:Args n T l m):Args n T' l m:=by
 induction h with
 |nil=>exact .nil
 | @cons x y l m h k ih=>exact .cons (by rw [ev_eq hT (hy x (kH ..))];exact h) (ih fun y h=>hy y (kY _ h))
theorem Bd.agree (hT : ∀t∈o.looksAt ops,T' t=T t) {y:Option Operand} (hy : ∀x,y=some x→x∈o.op.operands.toList) (h:Bd n T y m l):Bd n T' y m l:=by
 cases h with
 |no=>exact .no _
 |yes h h0 hl=>exact .yes (by rw [ev_eq hT (hy _ rfl)];exact h) h0 hl
theorem II {o:Ob} (h:heap[N]? = some .hole) : ∀q,q<[o].length→heap[N+q]? = some .hole:=fun q hq=>by
 have:q=0:=by simpa using hq
 subst this;exact h
theorem FF {o:Ob} (h:heap[N]? = some .hole):JD heap N [o]=heap.set N o:=by
 apply iO
 intro j
 rw [JE (II h),gY]
 simp only [gT]
 by_cases e:N=j
 ·subst e
  rw [fR ⟨by omega,by omega⟩,fR rfl,fR (get_lt h)];simp
 ·rw [fT (by omega),fT e]
theorem ArF (hw:LS n T ops o=true) (hd:o.dst=some d) (k:RG P ops n F rest (acc++[⟨some d,.tup [],[],[]⟩]) (pu T d (.tup [])) heap):RG P ops n F (o::rest) acc T heap :=
 RG.cons hd.symm (fun T' h' hT hH hlen_=>AL.skip (by rw [AiL hT];exact hw) hd (AL.nil ⟨rfl,rfl,rfl⟩)) rfl rfl k
theorem BZ (hw:AD n T ops o=true) (hd:o.dst=some d) (x:Operand) (ho:o.op = .move x∨o.op = .assign x) {y:AV} (hx:evA n T x=y) (k:RG P ops n F rest (acc++[⟨some d,y,[],[]⟩]) (pu T d y) heap):RG P ops n F (o::rest) acc T heap:=by
 exact RG.cons hd.symm (fun T' h' hT hH hlen_=>A_move aM hd x ho (by rw [ev_eq hT (by rcases ho with ho|ho<;>simp [ho,Op.operands])];exact hx) (AL.nil ⟨rfl,rfl,rfl⟩)) rfl aO k
theorem AwL (hw:AD n T ops o=true) (hd:o.dst=some d) (t:TypeId) (x:Operand) (ho:o.op = .box t x) (hx:(evA n T x).flat=some cs) (hat:heap[N]? = some .hole) (hh:heap.set N (.box t cs)=heap') (k:RG P ops n F rest (acc++[⟨some d,(.ptr N 0),[(N,.box t cs)],[N]⟩]) (pu T d (.ptr N 0)) heap'):RG P ops n F (o::rest) acc T heap:=by
 exact RG.cons hd.symm (fun T' h' hT hH hlen_=>ApE aM hd t x ho dC (.fill (II bN) (FF bN)) (AL.nil ⟨rfl,rfl,rfl⟩)) rfl aO k
theorem AjT (hw:AD n T ops o=true) (hd:o.dst=some d) (t:TypeId) (ho:o.op = .alloc t) {z:Value} (hI:(P.info? t).map (fun i=>(i.zero,i.size,i.bytes))=some (some z,size,bytes)) (hx:(DE z).flat=some cs) (hat:heap[N]? = some .hole) (hh:heap.set N (.box t cs)=heap') (k:RG P ops n F rest (acc++[⟨some d,(.ptr N 0),[(N,.box t cs)],[N]⟩]) (pu T d (.ptr N 0)) heap'):RG P ops n F (o::rest) acc T heap:=by
 exact RG.cons hd.symm (fun T' h' hT hH hlen_=>p4_ aM hd t ho hI hx (.fill (II bN) (FF bN)) (AL.nil ⟨rfl,rfl,rfl⟩)) rfl aO k
theorem AjW (hw:AD n T ops o=true) (hd:o.dst=some d) (t:TypeId) (x:Operand) (f:Nat) (ho:o.op = .fieldAddr t x f) {fs:Array Field} (hu:P.underlying t=some (.struct fs)) {fd:Field} (hf:fs[f]? = some fd) {z:Option Value} (hI:(P.info? fd.type).map (fun i=>(i.zero,i.size,i.bytes))=some (z,size,bytes)) (hs:size≠0) (m:Nat) (hm:fd.offset=m) {y:AV} (hy:PC m (evA n T x)=some y) (k:RG P ops n F rest (acc++[⟨some d,y,[],[]⟩]) (pu T d y) heap):RG P ops n F (o::rest) acc T heap:=by
 exact RG.cons hd.symm (fun T' h' hT hH hlen_=>p9_ aM hd t x f ho hu hf hI hs m hm dH (AL.nil ⟨rfl,rfl,rfl⟩)) rfl aO k
theorem ArC (hw:AD n T ops o=true) (hd:o.dst=some d) (t:TypeId) (x:Operand) (ho:o.op = .load t x) (hu:P.underlying t=some ds) (hds:(match ds with|.struct _|.array _ _=>true|_=>false)=false) (hx:evA n T x = .ptr i off) (hi:heap[i]? = some (.box t' cs)) (hc:cs[off]? = some u) (k:RG P ops n F rest (acc++[⟨some d,u,[],[i]⟩]) (pu T d u) heap):RG P ops n F (o::rest) acc T heap:=by
 exact RG.cons hd.symm (fun T' h' hT hH hlen_=>AcJ aM hd t x ho hu hds dC dO hc (AL.nil ⟨rfl,rfl,rfl⟩)) rfl aO k
theorem j6_ (hw:AD n T ops o=true) (hd:o.dst=some d) (t:TypeId) (x:Operand) (ho:o.op = .load t x) (hu:P.underlying t=some ds) (hds:(match ds with|.struct _|.array _ _=>true|_=>false)=true) {z:Option Value} (hI:(P.info? t).map (fun i=>(i.zero,i.size,i.bytes))=some (z,size,bytes)) (hx:evA n T x = .ptr i off) (hi:heap[i]? = some (.box t' cs)) (hc:(cs.drop off).take size=us') (hl:us'.length=size) (k:RG P ops n F rest (acc++[⟨some d,(.agg us'),[],[i]⟩]) (pu T d (.agg us')) heap):RG P ops n F (o::rest) acc T heap:=by
 exact RG.cons hd.symm (fun T' h' hT hH hlen_=>RN aM hd t x ho hu hds hI dC dO hc hl (AL.nil ⟨rfl,rfl,rfl⟩)) rfl aO k
theorem y7_ (hw:AD n T ops o=true) (hd:o.dst=some d) (t:TypeId) (x:Operand) (ho:o.op = .load t x) (hu:P.underlying t=some ds) (hds:(match ds with|.struct _|.array _ _=>true|_=>false)=false) (hx:evA n T x = .lp cs) (hc:cs[0]? = some u) (k:RG P ops n F rest (acc++[⟨some d,u,[],[]⟩]) (pu T d u) heap):RG P ops n F (o::rest) acc T heap:=by
 exact RG.cons hd.symm (fun T' h' hT hH hlen_=>VC aM hd t x ho hu hds dC hc (AL.nil ⟨rfl,rfl,rfl⟩)) rfl aO k
theorem HL (hw:AD n T ops o=true) (hd:o.dst=some d) (t:TypeId) (x:Operand) (ho:o.op = .load t x) (hu:P.underlying t=some ds) (hds:(match ds with|.struct _|.array _ _=>true|_=>false)=false) (hx:evA n T x = .rp i k' idx off) (hi:heap[i]? = some (.row k' E s els)) {cs:List Tr} (he:els[idx]? = some cs) {u:Tr} (hc:cs[off]? = some u) (k:RG P ops n F rest (acc++[⟨some d,(.t u),[],[i]⟩]) (pu T d (.t u)) heap):RG P ops n F (o::rest) acc T heap:=by
 exact RG.cons hd.symm (fun T' h' hT hH hlen_=>EL aM hd t x ho hu hds dC dO he hc (AL.nil ⟨rfl,rfl,rfl⟩)) rfl aO k
theorem UT (hw:AD n T ops o=true) (hd:o.dst=some d) (t:TypeId) (x:Operand) (ho:o.op = .load t x) (hu:P.underlying t=some ds) (hds:(match ds with|.struct _|.array _ _=>true|_=>false)=true) {z:Option Value} (hI:(P.info? t).map (fun i=>(i.zero,i.size,i.bytes))=some (z,size,bytes)) (hx:evA n T x = .rp i k' idx off) (hi:heap[i]? = some (.row k' E s els)) {cs:List Tr} (he:els[idx]? = some cs) (hc:((cs.drop off).take size).map .t=us') (hl:us'.length=size) (k:RG P ops n F rest (acc++[⟨some d,(.agg us'),[],[i]⟩]) (pu T d (.agg us')) heap):RG P ops n F (o::rest) acc T heap:=by
 exact RG.cons hd.symm (fun T' h' hT hH hlen_=>KW aM hd t x ho hu hds hI dC dO he hc hl (AL.nil ⟨rfl,rfl,rfl⟩)) rfl aO k
theorem AcU (hw:AD n T ops o=true) (hd:o.dst=some d) (t:TypeId) (x ix:Operand) (ho:o.op = .indexAddr t x ix) (ht:P.underlying t=some (.slice e)) {z:Option Value} (hI:(P.info? e).map (fun i=>(i.zero,i.size,i.bytes))=some (z,size,bytes)) (hsz:size≠0) (hx:evA n T x = .ln els∨evA n T x = .t (.lst els)) (hix:evA n T ix = .t (.v (.int kd I))) (h0I:0≤I) (J:Nat) (hJ:I.toNat=J) {cs:List Tr} (he:els[J]? = some cs) (hs:cs.length=size) (hc:cs.map .t=cs') (k:RG P ops n F rest (acc++[⟨some d,(.lp cs'),[],[]⟩]) (pu T d (.lp cs')) heap):RG P ops n F (o::rest) acc T heap:=by
 exact RG.cons hd.symm (fun T' h' hT hH hlen_=>q_ aM hd t x ix ho ht hI hsz dC (by rw [ev_eq hT aH];exact hix) h0I J hJ he hs hc (AL.nil ⟨rfl,rfl,rfl⟩)) rfl aO k
theorem AcV (hw:AD n T ops o=true) (hd:o.dst=some d) (t:TypeId) (x ix:Operand) (ho:o.op = .indexAddr t x ix) (ht:P.underlying t=some (.slice e)) {z:Option Value} (hI:(P.info? e).map (fun i=>(i.zero,i.size,i.bytes))=some (z,size,bytes)) (hx:evA n T x = .sl i k' m) (hi:heap[i]? = some (.row k' E size els)) (hm:m≤els.length) (hix:evA n T ix = .t (.v (.int kd I))) (h0I:0≤I) (J:Nat) (hJ:I.toNat=J) (hlt:J<m) (k:RG P ops n F rest (acc++[⟨some d,(.rp i k' J 0),[],[i]⟩]) (pu T d (.rp i k' J 0)) heap):RG P ops n F (o::rest) acc T heap:=by
 exact RG.cons hd.symm (fun T' h' hT hH hlen_=>ZM aM hd t x ix ho ht hI dC dO hm (by rw [ev_eq hT aH];exact hix) h0I J hJ hlt (AL.nil ⟨rfl,rfl,rfl⟩)) rfl aO k
theorem AjX (hw:AD n T ops o=true) (hd:o.dst=none) (t:TypeId) (x y:Operand) (ho:o.op = .store t x y) {z:Option Value} (hI:(P.info? t).map (fun i=>(i.zero,i.size,i.bytes))=some (z,size,bytes)) (hx:evA n T x = .ptr i off) (hi:heap[i]? = some (.box t' cs)) (hy:(evA n T y).flat=some us) (hl:us.length=size) (hf:off+us.length≤cs.length) (hc:cs.take off++us++cs.drop (off+us.length)=cs') (hh:heap.set i (.box t' cs')=heap') (k:RG P ops n F rest (acc++[⟨none,.any,[(i,.box t' cs')],[i]⟩]) T heap'):RG P ops n F (o::rest) acc T heap:=by
 exact RG.cons hd.symm (fun T' h' hT hH hlen_=>q1_ aM hd t x y ho hI dC dO dH hl hf hc rfl (AL.nil ⟨rfl,rfl,rfl⟩)) rfl aO k
theorem R_store_rp (hw:AD n T ops o=true) (hd:o.dst=none) (t:TypeId) (x y:Operand) (ho:o.op = .store t x y) {z:Option Value} {tsize bytes:Nat} (hI:(P.info? t).map (fun i=>(i.zero,i.size,i.bytes))=some (z,tsize,bytes)) (ht0:tsize≠0) (hx:evA n T x = .rp i k' idx off) (hi:heap[i]? = some (.row k' E s els)) {cs:List Tr} (he:els[idx]? = some cs) (hy:(evA n T y).flat=some us) (hl:us.length=tsize) {ts:List Tr} (hts:i1_ us=some ts) (hf:off+ts.length≤s) (hc:els.set idx (cs.take off++ts++cs.drop (off+ts.length))=els') (hh:heap.set i (.row k' E s els')=heap') (k:RG P ops n F rest (acc++[⟨none,.any,[(i,.row k' E s els')],[i]⟩]) T heap'):RG P ops n F (o::rest) acc T heap:=by
 exact RG.cons hd.symm (fun T' h' hT hH hlen_=>A_store_rp aM hd t x y ho hI ht0 dC dO he dH hl hts hf hc rfl (AL.nil ⟨rfl,rfl,rfl⟩)) rfl aO k
theorem AwO (hw:AD n T ops o=true) (hd:o.dst=some d) (t:TypeId) (x:Operand) (ho:o.op = .call { callee:=.builtin .len,args := #[x],argTypes := #[t]}) (ht:P.underlying t=some (.slice e)) (hx:YB (evA n T x)=some m) (k:RG P ops n F rest (acc++[⟨some d,(.t (.v (.int .i64 (m:Int)))),[],[]⟩]) (pu T d (.t (.v (.int .i64 (m:Int))))) heap):RG P ops n F (o::rest) acc T heap:=by
 exact RG.cons hd.symm (fun T' h' hT hH hlen_=>ApH aM hd t x ho ht dC (AL.nil ⟨rfl,rfl,rfl⟩)) rfl aO k
theorem R_append (hw:AD n T ops o=true) (hd:o.dst=some d) (s x:Operand) (t:TypeId) (ho:o.op = .call { callee:=.builtin .append,args := #[s,x],argTypes := #[t,t]}) (ht:P.underlying t=some (.slice e)) {z:Value} (hI:(P.info? e).map (fun i=>(i.zero,i.size,i.bytes))=some (some z,size,bytes)) (hzs:z.cells.size=size) (hs:evA n T s = .sl i k' m) (hi:heap[i]? = some (.row k' e size els)) (hm:m≤els.length) {news:List (List Tr)} (hx:Rd heap size (evA n T x) news) (b1:m+news.length≤maxLen) (b2:(m+news.length)*bytes≤140737488355328) (he:els.take m++news=els') (hh:heap.set i (.row (k'+1) e size els')=heap') (hm':m+news.length=m') (k:RG P ops n F rest (acc++[⟨some d,(.sl i (k'+1) m'),[(i,.row (k'+1) e size els')],(i::l5_ (evA n T x))⟩]) (pu T d (.sl i (k'+1) m')) heap'):RG P ops n F (o::rest) acc T heap:=by
 exact RG.cons hd.symm (fun T' h' hT hH hlen_=>CN aM hd s x t ho ht hI hzs (by rw [ev_eq hT aH];exact hs) dO hm (Rd.agree (fun i hi=>hH i (by rw [ev_eq hT aH] at hi;simp [hi])) dC) b1 b2 he rfl hm' (AL.nil ⟨rfl,rfl,rfl⟩)) rfl aO k
theorem CX (hw:AD n T ops o=true) (hd:o.dst=some d) (s x:Operand) (t:TypeId) (ho:o.op = .call { callee:=.builtin .append,args := #[s,x],argTypes := #[t,t]}) (ht:P.underlying t=some (.slice e)) {z:Value} (hI:(P.info? e).map (fun i=>(i.zero,i.size,i.bytes))=some (some z,size,bytes)) (hzs:z.cells.size=size) (hs:evA n T s = .nl) {news:List (List Tr)} (hx:Rd heap size (evA n T x) news) (b1:news.length≤maxLen) (b2:news.length*bytes≤140737488355328) (he:news=els') (hat:heap[N]? = some .hole) (hh:heap.set N (.row 0 e size els')=heap') (hm':news.length=m') (k:RG P ops n F rest (acc++[⟨some d,(.sl N 0 m'),[(N,.row 0 e size els')],(N::l5_ (evA n T x))⟩]) (pu T d (.sl N 0 m')) heap'):RG P ops n F (o::rest) acc T heap:=by
 exact RG.cons hd.symm (fun T' h' hT hH hlen_=>BD aM hd s x t ho ht hI hzs (by rw [ev_eq hT aH];exact hs) (Rd.agree (fun i hi=>hH i (by rw [ev_eq hT aH] at hi;simp [hi])) dC) b1 b2 he (.fill (II bN) (FF bN)) hm' (AL.nil ⟨rfl,rfl,rfl⟩)) rfl aO k
theorem R_make (hw:AD n T ops o=true) (hd:o.dst=some d) (t:TypeId) (l c:Operand) (ho:o.op = .makeSlice t l c) (ht:P.underlying t=some (.slice e)) {z:Value} (hI:(P.info? e).map (fun i=>(i.zero,i.size,i.bytes))=some (some z,size,bytes)) (hzs:z.cells.size=size) {zs:List Tr} (hz:((DE z).flat.bind i1_)=some zs) {kl kc:IntKind} {L C:Int} (hl:evA n T l = .t (.v (.int kl L))) (hc:evA n T c = .t (.v (.int kc C))) (m:Nat) (hL:L=(m:Int)) (hC:C=(m:Int)) (b2:bytes*m≤281474976710656) (b3:m≤maxLen) (he:List.replicate m zs=els') (hat:heap[N]? = some .hole) (hh:heap.set N (.row 0 e size els')=heap') (k:RG P ops n F rest (acc++[⟨some d,(.sl N 0 m),[(N,.row 0 e size els')],[N]⟩]) (pu T d (.sl N 0 m)) heap'):RG P ops n F (o::rest) acc T heap:=by
 exact RG.cons hd.symm (fun T' h' hT hH hlen_=>XD aM hd t l c ho ht hI hzs hz (by rw [ev_eq hT aH];exact hl) (by rw [ev_eq hT aH];exact hc) m hL hC b2 b3 he (.fill (II bN) (FF bN)) (AL.nil ⟨rfl,rfl,rfl⟩)) rfl aO k
theorem AjU (hw:AD n T ops o=true) (hd:o.dst=some d) (t:TypeId) (parts:Array (Nat × Operand)) (ho:o.op = .build t parts) {fs:Array Field} (hu:P.underlying t=some (.struct fs)) {z:Value} (hI:(P.info? t).map (fun i=>(i.zero,i.size,i.bytes))=some (some z,size,bytes)) (places:List (Nat × Nat)) (hp:fs.toList.map (fun f=>(f.offset,(P.info? f.type).map (·.size)))=places.map (fun x=>(x.1,some x.2))) {zs:List AV} (hz:(DE z).flat=some zs) {qs:List (Nat × List AV)} (hq:Parts n T parts.toList qs) (hf:SD places zs qs=some cs) (k:RG P ops n F rest (acc++[⟨some d,(.agg cs),[],[]⟩]) (pu T d (.agg cs)) heap):RG P ops n F (o::rest) acc T heap:=by
 exact RG.cons hd.symm (fun T' h' hT hH hlen_=>p5_ aM hd t parts ho hu hI places hp hz (Parts.agree hT (fun y hy=>by rw [ho];simpa [Op.operands] using hy) hq) hf (AL.nil ⟨rfl,rfl,rfl⟩)) rfl aO k
theorem AwN (hw:AD n T ops o=true) (hd:o.dst=some d) (t:TypeId) (x:Operand) (f:Nat) (ho:o.op = .field t x f) {fs:Array Field} (hu:P.underlying t=some (.struct fs)) {fd:Field} (hf:fs[f]? = some fd) (ha:(match ds with|.struct _|.array _ _=>true|_=>false)=false) (hds:P.underlying fd.type=some ds) (hm:fd.offset=m) {l:List AV} (hx:evA n T x = .agg l) (hc:l[m]? = some u) (k:RG P ops n F rest (acc++[⟨some d,u,[],[]⟩]) (pu T d u) heap):RG P ops n F (o::rest) acc T heap:=by
 exact RG.cons hd.symm (fun T' h' hT hH hlen_=>ApG aM hd t x f ho hu hf ha hds hm dC hc (AL.nil ⟨rfl,rfl,rfl⟩)) rfl aO k
theorem y6_ (hw:AD n T ops o=true) (hd:o.dst=some d) (x:Operand) (f:Nat) (ho:o.op = .extract x f) {l:List AV} (hx:evA n T x = .tup l) (hc:l[f]? = some u) (k:RG P ops n F rest (acc++[⟨some d,u,[],[]⟩]) (pu T d u) heap):RG P ops n F (o::rest) acc T heap:=by
 exact RG.cons hd.symm (fun T' h' hT hH hlen_=>VB aM hd x f ho dC hc (AL.nil ⟨rfl,rfl,rfl⟩)) rfl aO k
theorem AwM (hw:AD n T ops o=true) (hd:o.dst=some d) (t:TypeId) (x:Operand) (lo hi:Option Operand) (ho:o.op = .slice t x lo hi none) (ht:P.underlying t=some (.slice e)) {z:Option Value} (hI:(P.info? e).map (fun i=>(i.zero,i.size,i.bytes))=some (z,size,bytes)) (hx:evA n T x = .ln els) (hs : ∀cs∈els,cs.length=size) {m l h:Nat} (hm:els.length=m) (hl:Bd n T lo 0 l) (hh:Bd n T hi m h) (h1:l≤h) (h2:h≤m) (he:(els.drop l).take (h-l)=els') (k:RG P ops n F rest (acc++[⟨some d,(.ln els'),[],[]⟩]) (pu T d (.ln els')) heap):RG P ops n F (o::rest) acc T heap:=by
 exact RG.cons hd.symm (fun T' h' hT hH hlen_=>ApF aM hd t x lo hi ho ht hI dC hs hm (Bd.agree hT (fun y hy=>by rw [ho];simp [Op.operands,hy]) hl) (Bd.agree hT (fun y hy=>by rw [ho];simp [Op.operands,hy]) hh) h1 h2 he (AL.nil ⟨rfl,rfl,rfl⟩)) rfl aO k
theorem AwK (hw:AD n T ops o=true) (hd:o.dst=some d) (xt yt:TypeId) (x y:Operand) (ho:o.op = .binOp .add xt x y yt) (hx:evA n T x = .t (.v (.int k a))) (hy:evA n T y = .t (.v (.int k b))) (hc:k.wrap (a+b)=c) (k':RG P ops n F rest (acc++[⟨some d,(.t (.v (.int k c))),[],[]⟩]) (pu T d (.t (.v (.int k c)))) heap):RG P ops n F (o::rest) acc T heap:=by
 exact RG.cons hd.symm (fun T' h' hT hH hlen_=>ApD aM hd xt yt x y ho dC dH hc (AL.nil ⟨rfl,rfl,rfl⟩)) rfl aO k'
theorem AwX (hw:AD n T ops o=true) (hd:o.dst=some d) (xt yt:TypeId) (x y:Operand) (ho:o.op = .binOp .sub xt x y yt) (hx:evA n T x = .t (.v (.int k a))) (hy:evA n T y = .t (.v (.int k b))) (hc:k.wrap (a-b)=c) (k':RG P ops n F rest (acc++[⟨some d,(.t (.v (.int k c))),[],[]⟩]) (pu T d (.t (.v (.int k c)))) heap):RG P ops n F (o::rest) acc T heap:=by
 exact RG.cons hd.symm (fun T' h' hT hH hlen_=>ApO aM hd xt yt x y ho dC dH hc (AL.nil ⟨rfl,rfl,rfl⟩)) rfl aO k'
theorem AwR (hw:AD n T ops o=true) (hd:o.dst=some d) (xt yt:TypeId) (x y:Operand) (ho:o.op = .binOp .mul xt x y yt) (hx:evA n T x = .t (.v (.int k a))) (hy:evA n T y = .t (.v (.int k b))) (hc:k.wrap (a*b)=c) (k':RG P ops n F rest (acc++[⟨some d,(.t (.v (.int k c))),[],[]⟩]) (pu T d (.t (.v (.int k c)))) heap):RG P ops n F (o::rest) acc T heap:=by
 exact RG.cons hd.symm (fun T' h' hT hH hlen_=>ApK aM hd xt yt x y ho dC dH hc (AL.nil ⟨rfl,rfl,rfl⟩)) rfl aO k'
theorem AwV (hw:AD n T ops o=true) (hd:o.dst=some d) (xt yt:TypeId) (x y:Operand) (ho:o.op = .binOp .quo xt x y yt) (hx:evA n T x = .t (.v (.int k a))) (hy:evA n T y = .t (.v (.int k b))) (hb:b≠0) (hc:k.wrap (a.tdiv b)=c) (k':RG P ops n F rest (acc++[⟨some d,(.t (.v (.int k c))),[],[]⟩]) (pu T d (.t (.v (.int k c)))) heap):RG P ops n F (o::rest) acc T heap:=by
 exact RG.cons hd.symm (fun T' h' hT hH hlen_=>ApM aM hd xt yt x y ho dC dH hb hc (AL.nil ⟨rfl,rfl,rfl⟩)) rfl aO k'
theorem AwW (hw:AD n T ops o=true) (hd:o.dst=some d) (xt yt:TypeId) (x y:Operand) (ho:o.op = .binOp .rem xt x y yt) (hx:evA n T x = .t (.v (.int k a))) (hy:evA n T y = .t (.v (.int k b))) (hb:b≠0) (hc:a.tmod b=c) (k':RG P ops n F rest (acc++[⟨some d,(.t (.v (.int k c))),[],[]⟩]) (pu T d (.t (.v (.int k c)))) heap):RG P ops n F (o::rest) acc T heap:=by
 exact RG.cons hd.symm (fun T' h' hT hH hlen_=>ApN aM hd xt yt x y ho dC dH hb hc (AL.nil ⟨rfl,rfl,rfl⟩)) rfl aO k'
theorem AcS (hw:AD n T ops o=true) (hd:o.dst=some d) (op:BinOp) (xt yt:TypeId) (x y:Operand) (ho:o.op = .binOp op xt x y yt) (hx:evA n T x = .t (.v (.int k a))) (hy:evA n T y = .t (.v (.int k b))) {c:Bool} (hc:ArR op a b=some c) (k':RG P ops n F rest (acc++[⟨some d,(.t (.v (.bool c))),[],[]⟩]) (pu T d (.t (.v (.bool c)))) heap):RG P ops n F (o::rest) acc T heap:=by
 exact RG.cons hd.symm (fun T' h' hT hH hlen_=>p8_ aM hd op xt yt x y ho dC dH hc (AL.nil ⟨rfl,rfl,rfl⟩)) rfl aO k'
theorem R_bits (hw:AD n T ops o=true) (hd:o.dst=some d) (op:BinOp) (xt yt:TypeId) (x y:Operand) (ho:o.op = .binOp op xt x y yt) (hop:AdF op=true) (hx:evA n T x = .t (.v (.int k a))) (hy:evA n T y = .t (.v (.int k b))) (hc:bits op k a b=c) (k':RG P ops n F rest (acc++[⟨some d,(.t (.v (.int k c))),[],[]⟩]) (pu T d (.t (.v (.int k c)))) heap):RG P ops n F (o::rest) acc T heap:=by
 exact RG.cons hd.symm (fun T' h' hT hH hlen_=>A_bits aM hd op xt yt x y ho hop dC dH hc (AL.nil ⟨rfl,rfl,rfl⟩)) rfl aO k'
theorem R_shl (hw:AD n T ops o=true) (hd:o.dst=some d) (xt yt:TypeId) (x y:Operand) (ho:o.op = .binOp .shl xt x y yt) (hx:evA n T x = .t (.v (.int k a))) (hy:evA n T y = .t (.v (.int k2 b))) (hb:0≤b) (hc:k.wrap (a*2^(min b.toNat k.bits))=c) (k':RG P ops n F rest (acc++[⟨some d,(.t (.v (.int k c))),[],[]⟩]) (pu T d (.t (.v (.int k c)))) heap):RG P ops n F (o::rest) acc T heap:=by
 exact RG.cons hd.symm (fun T' h' hT hH hlen_=>A_shl aM hd xt yt x y ho dC dH hb hc (AL.nil ⟨rfl,rfl,rfl⟩)) rfl aO k'
theorem R_shr (hw:AD n T ops o=true) (hd:o.dst=some d) (xt yt:TypeId) (x y:Operand) (ho:o.op = .binOp .shr xt x y yt) (hx:evA n T x = .t (.v (.int k a))) (hy:evA n T y = .t (.v (.int k2 b))) (hb:0≤b) (hc:a.fdiv (2^(min b.toNat k.bits))=c) (k':RG P ops n F rest (acc++[⟨some d,(.t (.v (.int k c))),[],[]⟩]) (pu T d (.t (.v (.int k c)))) heap):RG P ops n F (o::rest) acc T heap:=by
 exact RG.cons hd.symm (fun T' h' hT hH hlen_=>A_shr aM hd xt yt x y ho dC dH hb hc (AL.nil ⟨rfl,rfl,rfl⟩)) rfl aO k'
theorem AwS (hw:AD n T ops o=true) (hd:o.dst=some d) (xt:TypeId) (x:Operand) (ho:o.op = .unOp .not xt x) {a:Bool} (hx:evA n T x = .t (.v (.bool a))) (k':RG P ops n F rest (acc++[⟨some d,(.t (.v (.bool (!a)))),[],[]⟩]) (pu T d (.t (.v (.bool (!a))))) heap):RG P ops n F (o::rest) acc T heap:=by
 exact RG.cons hd.symm (fun T' h' hT hH hlen_=>ApL aM hd xt x ho dC (AL.nil ⟨rfl,rfl,rfl⟩)) rfl aO k'
theorem AqZ (hw:AD n T ops o=true) (hd:o.dst=some d) (s t:TypeId) (x:Operand) (ho:o.op = .convert s t x) (hs:P.underlying s=some ds) (ht:P.underlying t=some (.int kd)) (hx:evA n T x = .t (.v (.int k a))) (hc:kd.wrap a=c) (k':RG P ops n F rest (acc++[⟨some d,(.t (.v (.int kd c))),[],[]⟩]) (pu T d (.t (.v (.int kd c)))) heap):RG P ops n F (o::rest) acc T heap:=by
 exact RG.cons hd.symm (fun T' h' hT hH hlen_=>AcG aM hd s t x ho hs ht dC hc (AL.nil ⟨rfl,rfl,rfl⟩)) rfl aO k'
theorem AwP (hw:AD n T ops o=true) (hd:o.dst=some d) (tys:Array TypeId) (x y:Operand) (ho:o.op = .call { callee:=.builtin .max,args := #[x,y],argTypes:=tys }) (hx:evA n T x = .t (.v (.int k a))) (hy:evA n T y = .t (.v (.int k2 b))) (k':RG P ops n F rest (acc++[⟨some d,(.t (.v (.int k (max a b)))),[],[]⟩]) (pu T d (.t (.v (.int k (max a b))))) heap):RG P ops n F (o::rest) acc T heap:=by
 exact RG.cons hd.symm (fun T' h' hT hH hlen_=>ApI aM hd tys x y ho dC dH (AL.nil ⟨rfl,rfl,rfl⟩)) rfl aO k'
theorem AwQ (hw:AD n T ops o=true) (hd:o.dst=some d) (tys:Array TypeId) (x y:Operand) (ho:o.op = .call { callee:=.builtin .min,args := #[x,y],argTypes:=tys }) (hx:evA n T x = .t (.v (.int k a))) (hy:evA n T y = .t (.v (.int k2 b))) (k':RG P ops n F rest (acc++[⟨some d,(.t (.v (.int k (min a b)))),[],[]⟩]) (pu T d (.t (.v (.int k (min a b))))) heap):RG P ops n F (o::rest) acc T heap:=by
 exact RG.cons hd.symm (fun T' h' hT hH hlen_=>ApJ aM hd tys x y ho dC dH (AL.nil ⟨rfl,rfl,rfl⟩)) rfl aO k'
theorem R_lit (hw:AD n T ops o=true) (hd:o.dst=some d) (t:TypeId) (len:Nat) (parts:Array (Nat × Operand)) (ho:o.op = .buildSlice t len parts) (ht:P.underlying t=some (.slice e)) {z:Value} (hI:(P.info? e).map (fun i=>(i.zero,i.size,i.bytes))=some (some z,size,bytes)) {qs:List (Nat × List AV)} (hq:Parts n T parts.toList qs) (he:AfU size 0 qs=some els) (he':els=els') (hlen:els'.length=len) (h0:len*size≠0) (hm:len*size≤16777216) (hn:len≤16777216) (hat:heap[N]? = some .hole) (hh:heap.set N (.row 0 e size els')=heap') (k:RG P ops n F rest (acc++[⟨some d,(.sl N 0 len),[(N,.row 0 e size els')],[N]⟩]) (pu T d (.sl N 0 len)) heap'):RG P ops n F (o::rest) acc T heap:=by
 exact RG.cons hd.symm (fun T' h' hT hH hlen_=>A_lit aM hd t len parts ho ht hI (Parts.agree hT (fun y hy=>by rw [ho];simpa [Op.operands] using hy) hq) he he' hlen h0 hm hn (.fill (II bN) (FF bN)) (AL.nil ⟨rfl,rfl,rfl⟩)) rfl aO k
theorem j7_ (hw:AD n T ops o=true) (hd:o.dst=some d) (c x y:Operand) (ho:o.op = .pick c x y) {b:Bool} (hc:evA n T c = .t (.v (.bool b))) {u v:AV} (hx:evA n T x=u) (hy:evA n T y=v) {r:AV} (hr:(bif b then u else v)=r) (k:RG P ops n F rest (acc++[⟨some d,r,[],[]⟩]) (pu T d r) heap):RG P ops n F (o::rest) acc T heap:=by
 exact RG.cons hd.symm (fun T' h' hT hH hlen_=>XE aM hd c x y ho (by rw [ev_eq hT aH];exact hc) dC dH hr (AL.nil ⟨rfl,rfl,rfl⟩)) rfl aO k
end
end Go.Proofs.YtccefppppedgkaaGreat
namespace Go.Proofs.YtccefppppedgkaaGreat
open Go.RowKit
section
variable {P:Program} {Q:QS} {K:(Nat→AV)→List Ob→Prop} {n:Fr} {T:Nat→AV} {heap:List Ob} {id i:Nat} {fn:Func} {R:AV→List Ob→Prop}
theorem AoK (h:K T heap):AI K Q .normal T heap:=h
theorem AoL (h:Q .ret T heap):AI K Q .ret T heap:=h
theorem AoJ (h:Q (.exit i) T heap):AI K Q (.exit i) T heap:=h
theorem AdG (h:Q .normal T heap):AF id Q .normal T heap:=h
theorem AdH (h:Q .ret T heap):AF id Q .ret T heap:=h
theorem z2_ (h:Q .normal T heap):AF id Q (.exit id) T heap:=by
 show (bif Nat.beq id id then Q .normal T heap else _)
 rw [kX];exact h
theorem AuG (h:Fin P fn R n T heap):AO P fn R n .ret T heap:=h
theorem AuF (h:Fin P fn R n T heap):AO P fn R n .normal T heap:=h
theorem AW.at_region (id:Nat) {l:List Oper} (h:AL P l.toArray Q l n T heap):AW P (.region id l.toArray false) Q n T heap:=AW.region h
theorem AW.at_draw (id:Nat) {l:List Oper} (hm:P.follows .mixedOrders=true) (m:Nat) (A:List (List Nat)) {h1:List Ob} (hh:heap++List.replicate m .hole=h1) (hr:RG P l.toArray n (fun Ds T2 h2=>AdQ l A (W_ Ds)=true∧Q .normal T2 h2) l [] T h1):AW P (.region id l.toArray true) Q n T heap:=by
 obtain ⟨Ds,T2,h2,h3,h4,h5⟩:=hr
 exact AW.draw hm m hh h3 A h4 h5
end
theorem map_get {α β:Type} {l:List α} {f:α→β} {k:Nat} {x:α} (h:l[k]? = some x):(l.map f)[k]? = some (f x):=by rw [gP,h];rfl
variable {α:Type} {s:Nat}
theorem each_map {l:List α} {f:α→List Tr} (h : ∀x,(f x).length=s) : ∀cs∈l.map f,cs.length=s:=fun cs hc=>by
 obtain ⟨x,_,rfl⟩:=iW.1 hc;exact h x
theorem map_set {l:List α} {f:α→List Tr} {i:Nat} {x:α}:(l.map f).set i (f x)=(l.set i x).map f:=by rw [List.map_set]
variable {m:Nat}
theorem app_map {l l':List α} {f:α→List Tr} (h:m=l.length):(l.map f).take m++l'.map f=(l++l').map f:=by
 subst h;rw [iP,jE (by simp)]
theorem app_one {l:List α} {f:α→List Tr} {x:α} (h:m=l.length):(l.map f).take m++[f x]=(l++[x]).map f:=by
 subst h;rw [iP,jE (by simp)];rfl
theorem rep_map {f:α→List Tr} {x:α}:List.replicate m (f x)=(List.replicate m x).map f:=by rw [List.map_replicate]
def Cd (P:Program) (f:FuncId) (args:List AV) (r:AV) (L:List Ob):Prop:=C P f args [] (fun r' L'=>r'=r∧L'=L)
variable {args:List AV} {r:AV} {L:List Ob} {N:Nat}
theorem Cd.enter {P:Program} {f:FuncId} {fn:Func} {c:Code} (hf:P.funcs[f]? = some fn) (hb:fn.body=some c) (hN:max args.length fn.ntmps=N) (h:AW P c (AO P fn (fun r' L'=>r'=r∧L'=L) ⟨N,0⟩) ⟨N,0⟩ (ZY args) []):Cd P f args r L :=
 C.enter hf hb hN h
theorem Cd.enter' {P:Program} {f:FuncId} {fn:Func} {c:Code} (hf:P.funcs[f]? = some fn) (hb:fn.body=some c) (hn:fn.ntmps=N) (hle:Nat.ble args.length N=true) (h:AW P c (AO P fn (fun r' L'=>r'=r∧L'=L) ⟨N,0⟩) ⟨N,0⟩ (ZY args) []):Cd P f args r L :=
 C.enter hf hb (by rw [hn];exact Nat.max_eq_right (ZbT hle)) h
theorem C.enter' {P:Program} {f:FuncId} {fn:Func} {c:Code} (hf:P.funcs[f]? = some fn) (hb:fn.body=some c) {H:List Ob} {R:AV→List Ob→Prop} (hn:fn.ntmps=N) (hle:Nat.ble args.length N=true) {M:Nat} (hM:H.length=M) (h:AW P c (AO P fn R ⟨N,M⟩) ⟨N,M⟩ (ZY args) H):C P f args H R:=by
 subst hM
 exact C.enter hf hb (by rw [hn];exact Nat.max_eq_right (ZbT hle)) h
variable {off:Nat}
theorem take_drop_map {f:α→List Tr} {l:List α} (h:l.length≤off+m):((l.map f).drop off).take m=(l.drop off).map f:=by
 rw [←iU,jE bA]
theorem take_drop_map' {f:α→List Tr} {l:List α} :((l.map f).drop off).take m=((l.drop off).take m).map f:=by
 rw [←iU, ←List.map_take]
theorem BH.subE {heap:List Ob} {sel:List Nat} {i k off m:Nat} {E:TypeId} {els els':List (List Tr)} (hi:heap[i]? = some (.row k E s els)) (hn:sel.contains i=false) (he:(els.drop off).take m=els') (hm:off+m≤els.length):BH heap sel (.sub i k off m) (.ln els'):=by
 subst he
 exact .sub hi hn hm
theorem get_D {l:List α} {i:Nat} {x:α} (h:i<l.length):l[i]? = some (l.getD i x):=by
 rw [fQ,ZgE h];rfl
theorem AW.loopP {P:Program} {Q:QS} {n:Fr} {T:Nat→AV} {heap:List Ob} {c:Code} {ι:Type} (I:ι→Prop) (S:ι→Nat→AV) (H:ι→List Ob) (m:ι→Nat) (i0:ι) (hi:I i0) (h0:Wk n T heap (S i0) (H i0))
  (hr : ∀i,I i→AW P c (AI (fun T' h'=>∃j,I j∧m j<m i∧Wk n T' h' (S j) (H j)) Q) n (S i) (H i)):AW P (.loop c) Q n T heap :=
 AW.loop (ι:={i:ι // I i}) (fun i=>S i.1) (fun i=>H i.1) (fun i=>m i.1) ⟨i0,hi⟩ h0 fun i=>by
  have:=hr i.1 i.2
  intro e a w hR b k cs
  obtain ⟨ex,a',w',h1,h2⟩:=this e a w hR b k cs
  refine ⟨ex,a',w',?_,h2⟩
  obtain ⟨T',h',q1,q2⟩:=h1
  refine ⟨T',h',?_,q2⟩
  cases ex<;>first|exact q1|(obtain ⟨j,j1,j2,j3⟩:=q1;exact ⟨⟨j,j1⟩,j2,j3⟩)
theorem j9_ {a b:List α} {z:α} (hl:a.length=b.length) (h : ∀j,j<a.length→a.getD j z=b.getD j z):a=b:=by
 apply iO
 intro j
 by_cases hj:j<a.length
 ·rw [get_D (x:=z) hj,get_D (x:=z) (by omega),h j hj]
 ·rw [gS (by omega),gS (by omega)]
def AaJ:Nat→AV→List Nat
 |0,_=>[]
 |k+1,x=>match x with
  |.sl i _ _=>[i]
  |.sub i _ _ _=>[i]
  |.ptr i _=>[i]
  |.mv i=>[i]
  |.cl _=>[]
  |.rp i _ _ _=>[i]
  |.fn _ a b=>a.flatMap (AaJ k)++b.flatMap (AaJ k)
  |.agg l=>l.flatMap (AaJ k)
  |.tup l=>l.flatMap (AaJ k)
  |.lp l=>l.flatMap (AaJ k)
  |_=>[]
def PY (l:List AV):List Nat:=l.flatMap (AaJ 5)
def AxF:Option Ob→List AV
 |some (.box _ cs)=>cs
 |_=>[]
def a7_ (heap:List Ob):Nat→List Nat→List Nat
 |0,l=>l
 |k+1,l=>l++a7_ heap k (l.flatMap fun i=>PY (AxF heap[i]?))
def AfP:Option Ob→Bool
 |some .hole=>true
 |_=>false
variable {heap':List Ob}
section
variable {P:Program} {ops:Array Oper} {Q:QS} {rest:List Oper} {o:Oper} {n:Fr} {T:Nat→AV} {heap:List Ob} {d:Nat}
theorem AL.split (d:Nat) {b:Bool} (hd:evA n T (.tmp d) = .t (.v (.bool b))) (ht:b=true→AL P ops Q rest n (pu T d (.t (.v (.bool true)))) heap) (hf:b=false→AL P ops Q rest n (pu T d (.t (.v (.bool false)))) heap):AL P ops Q rest n T heap:=by
 rintro e a w ⟨ρ,Z,Y,hR⟩
 have hv:=hR.eval (.tmp d)
 rw [hd] at hv
 have key : ∀(t:Nat) (v:Value),a.tmps[t]? = some v→Val (Kn heap) ρ w Z Y (pu T d (.t (.v (.bool b))) t) v:=fun t v hx=>by
  by_cases e:t=d
  ·subst e
   have e2:a.eval (.tmp t)=v:=by simp only [Act.eval,iY,hx,jK]
   rw [e2] at hv
   simp only [pu,kX,kC]
   exact hv
  ·simp only [pu,k4_ e,jX]
   exact hR.at_ t v hx
 cases b with
 |true=>exact ht rfl e a w ⟨ρ,Z,Y,hR.ok,hR.defers,hR.n,hR.hl,key⟩
 |false=>exact hf rfl e a w ⟨ρ,Z,Y,hR.ok,hR.defers,hR.n,hR.hl,key⟩
theorem p6_ (hw : AD n T ops o = true) (hd : o.dst = some d) {f : FuncId} {fn : Func} (hf : P.funcs[f]? = some fn) (hn : (fn.name == "runtime.NumGoroutine") = false) (hb : fn.body.isNone = false) {args : Array Operand} {tys : Array TypeId}
  (ho:o.op = .call { callee:=.value (.func f),args:=args,argTypes:=tys }) {xs:List AV} (hc:Cd P f xs r L) (hp:CJ heap [] (args.toList.map (evA n T)) xs) (hN:heap.length=N) {r':AV} (hr:upA (BC N) r=r') {L':List Ob} (hL:L.map (upO (BC N))=L') (hh:heap++L'=heap')
  (k:AL P ops Q rest n (pu T d r') heap'):AL P ops Q (o::rest) n T heap:=by
 subst hr hL
 refine AcF hw hd hf hn hb ho hp hc N ?_
 rintro _ _ ⟨rfl,rfl⟩
 exact ⟨heap',.push hN hh,k⟩
theorem WP : ∀(L:List Ob) (heap:List Ob) (N:Nat),N+L.length≤heap.length→BI heap ((L.zipIdx N).map (fun p=>(p.2,p.1)))=JD heap N L
 | [],heap,N,_=>by simp [BI,JD]
 | o::L,heap,N,h=>by
  simp only [gF] at h
  rw [List.zipIdx_cons,gO,BI,WP L _ (N+1) bA]
  unfold JD
  simp only [gF]
  rw [List.drop_set_of_lt (by omega),List.take_set]
  have e1:(heap.take (N+1)).set N o=heap.take N++[o]:=by
   rw [List.take_succ_eq_append_getElem (by omega),List.set_append_right _ _ bA]
   simp [kQ (show N≤heap.length by omega)]
  rw [e1,show N+1+L.length=N+(L.length+1) by omega]
  simp
theorem AjV (hw : AD n T ops o = true) (hd : o.dst = some d) {f : FuncId} {fn : Func} (hf : P.funcs[f]? = some fn) (hn : (fn.name == "runtime.NumGoroutine") = false) (hb : fn.body.isNone = false) {args : Array Operand} {tys : Array TypeId}
  (ho:o.op = .call { callee:=.value (.func f),args:=args,argTypes:=tys }) {xs:List AV} (hc:Cd P f xs r L) {acc:List Nat} (ha:a7_ heap 3 (PY (args.toList.map (evA n T)))=acc) (hp : ∀h',(∀i,acc.contains i=true→h'[i]? = heap[i]?)→CJ h' [] (args.toList.map (evA n T)) xs)
  (N:Nat) (hN:(L.zipIdx N).all (fun p=>AfP heap[p.2]?)=true) {r':AV} (hr:upA (BC N) r=r') {L':List Ob} (hL:L.map (upO (BC N))=L') (hh:BI heap ((L'.zipIdx N).map (fun p=>(p.2,p.1)))=heap')
  {F:List Dl→(Nat→AV)→List Ob→Prop} {ac:List Dl} (k:RG P ops n F rest (ac++[⟨some d,r',(L'.zipIdx N).map (fun p=>(p.2,p.1)),(L'.zipIdx N).map (·.2)++acc⟩]) (pu T d r') heap'):RG P ops n F (o::rest) ac T heap:=by
 subst hr hL
 have hlk : ∀x∈args.toList,x∈o.op.operands.toList:=fun x hx=>by rw [ho];simp only [Op.operands,Call.operands,lH];exact iR _ hx
 have hole : ∀q,q<L.length→heap[N+q]? = some .hole:=fun q hq=>by
  have:=iI.1 hN (L[q],N+q) (fO (i:=q) (by rw [List.getElem?_zipIdx,ZgE hq];rfl))
  simp only at this
  cases hx:heap[N+q]? with
  |none=>rw [hx] at this;cases this
  |some p=>rw [hx] at this;cases p<;>first|rfl|(cases this;done)
 have hlen : ∀h':List Ob,h'.length=heap.length→(L.map (upO (BC N)))=[]∨N+(L.map (upO (BC N))).length≤h'.length:=fun h' hl=>by
  by_cases h0:L.length=0
  ·exact .inl (by rw [iA h0];rfl)
  ·have:=get_lt (hole (L.length-1) (by omega))
   exact .inr bA
 refine RG.cons (D:=⟨some d,_,((L.map (upO (BC N))).zipIdx N).map (fun p=>(p.2,p.1)),((L.map (upO (BC N))).zipIdx N).map (·.2)++acc⟩) hd.symm (fun T' h' hT hH hl=>?_) rfl hh k
 have hargs:args.toList.map (evA n T')=args.toList.map (evA n T):=jR fun x hx=>ev_eq hT (hlk x hx)
 refine AcF aM hd hf hn hb ho (by rw [hargs];exact hp h' fun i hi=>hH i (iR _ eX)) hc N ?_
 rintro r1 L1 ⟨hr1,hL1⟩
 rw [hr1,hL1]
 refine ⟨JD h' N (L.map (upO (BC N))),.fill (fun q hq=>?_) rfl,AL.nil ⟨rfl,rfl,?_⟩⟩
 ·rw [hH (N+q) (iZ _ ?_)]
  ·exact hole q (by simpa using hq)
  ·refine iW.2 ⟨((L.map (upO (BC N)))[q],N+q),fO (i:=q) ?_,rfl⟩
   rw [List.getElem?_zipIdx,ZgE hq];rfl
 ·show _=BI h' _
  rcases hlen h' hl with h0|h0
  ·rw [h0];simp [BI,JD]
  ·rw [WP _ _ _ h0]
end
end Go.Proofs.YtccefppppedgkaaGreat
namespace Go.Proofs.YtccefppppedgkaaGreat
open Go.RowKit
def upK (g:Nat→Option Nat):Nat→AV→AV
 |0,_=>.any
 |k+1,x=>match x with
  |.t x=>.t x
  |.nl=>.nl
  |.sl i k n=>match g i with|some j=>.sl j k n|none=>.any
  |.sub i k off n=>match g i with|some j=>.sub j k off n|none=>.any
  |.ptr i off=>match g i with|some j=>.ptr j off|none=>.any
  |.mv i=>match g i with|some j=>.mv j|none=>.any
  |.cl els=>.cl els
  |.rp i k idx off=>match g i with|some j=>.rp j k idx off|none=>.any
  |.fn f a b=>.fn f (a.map (upK g k)) (b.map (upK g k))
  |.agg l=>.agg (l.map (upK g k))
  |.tup l=>.tup (l.map (upK g k))
  |.any=>.any
  |.ln l=>.ln l
  |.lp l=>.lp (l.map (upK g k))
def upB (g:Nat→Option Nat) (x:AV):AV:=upK g 5 x
def upP (g:Nat→Option Nat):Ob→Ob
 |.box t cs=>.box t (cs.map (upB g))
 |.row k E s els=>.row k E s els
 |.gone k=>.gone k
 |.hole=>.hole
 |.mp es=>.mp es
theorem AoT {Kn Kn':Nat→Nat→Prop} {ρ ρ':Rho} {w:World} {Z Y:Nat→Prop} {g:Nat→Option Nat} (hk : ∀i k j,g i=some j→Kn i k→Kn' j k∧ρ' j k=ρ i k) : ∀(q:Nat) {x:AV} {v:Value},Val Kn ρ w Z Y x v→Val Kn' ρ' w Z Y (upK g q x) v:=by
 intro q
 induction q with
 |zero=>intro x v _;exact .any v
 | succ q ih =>
  have pw : ∀ {l:List AV} {us:List Value},l.length=us.length→(∀(j:Nat) x u,l[j]? = some x→us[j]? = some u→Val Kn ρ w Z Y x u)→(l.map (upK g q)).length=us.length ∧ ∀(j:Nat) x u,(l.map (upK g q))[j]? = some x→us[j]? = some u→Val Kn' ρ' w Z Y x u:=fun {l us} h1 h2=>by
   refine ⟨by simpa using h1,fun j x u hj hu=>?_⟩
   rw [gP] at hj
   cases hx:l[j]? with
   |none=>rw [hx] at hj;cases hj
   |some y=>rw [hx] at hj;cases hj;exact ih (h2 j y u hx hu)
  intro x v h
  cases h with
  |any v=>exact .any v
  |t h=>exact .t h
  |nl a=>exact .nl a
  |ln hr hz hn he=>exact .ln hr hz hn he
  |lp hl ho hc hv=>exact .lp (by simpa using hl) ho hc (pw hl hv).2
  | @sl i k n hk' hc h0 =>
   simp only [upK]
   cases hg:g i with
   |none=>exact .any _
   |some j =>
    obtain ⟨h1,h2⟩:=hk i k j hg hk'
    rw [←h2] at hc h0 ⊢
    exact .sl h1 hc h0
  | @sub i k off n a c hk' hn hm h0 ha =>
   simp only [upK]
   cases hg:g i with
   |none=>exact .any _
   |some j =>
    obtain ⟨h1,h2⟩:=hk i k j hg hk'
    exact .sub h1 hn hm h0 fC
  | @ptr i off b hk' ha =>
   simp only [upK]
   cases hg:g i with
   |none=>exact .any _
   |some j =>
    obtain ⟨h1,h2⟩:=hk i 0 j hg hk'
    exact .ptr h1 fC
  | @mv i b hk' ha =>
   simp only [upK]
   cases hg:g i with
   |none=>exact .any _
   |some j =>
    obtain ⟨h1,h2⟩:=hk i 0 j hg hk'
    exact .mv h1 fC
  |cl hr hz hn he=>exact .cl hr hz hn he
  | @rp i k idx off hk' =>
   simp only [upK]
   cases hg:g i with
   |none=>exact .any _
   |some j =>
    obtain ⟨h1,h2⟩:=hk i k j hg hk'
    rw [←h2]
    exact .rp h1
  |fn h1 h2 hu hv =>
   obtain ⟨a1,a2⟩:=pw h1 hu
   obtain ⟨b1,b2⟩:=pw h2 hv
   exact .fn a1 b1 a2 b2
  |agg h1 ho hu=>obtain ⟨a1,a2⟩:=pw h1 hu;exact .agg a1 ho a2
  |tup h1 hu=>obtain ⟨a1,a2⟩:=pw h1 hu;exact .tup a1 a2
theorem w9_ {Kn Kn':Nat→Nat→Prop} {ρ ρ':Rho} {w:World} {Z Y:Nat→Prop} {g:Nat→Option Nat} (hk : ∀i k j,g i=some j→Kn i k→Kn' j k∧ρ' j k=ρ i k) {x:AV} {v:Value} (h:Val Kn ρ w Z Y x v):Val Kn' ρ' w Z Y (upB g x) v:=AoT hk 5 h
theorem AbX {Kn Kn':Nat→Nat→Prop} {ρ ρ':Rho} {w:World} {Z Y:Nat→Prop} {g:Nat→Option Nat} (hk : ∀i k j,g i=some j→Kn i k→Kn' j k∧ρ' j k=ρ i k) {i j:Nat} {o:Ob} (hρ : ∀k,k<o.lim→ρ' j k=ρ i k) (h:o.holds (Val Kn ρ w Z Y) ρ w Z i) :
  (upP g o).holds (Val Kn' ρ' w Z Y) ρ' w Z j:=by
 cases o with
 |box t cs =>
  obtain ⟨b,us,h1,h2,h3,h4⟩:=h
  refine ⟨b,us,by rw [hρ 0 (fV _)];exact h1,h2,⟨by rw [fN];exact h3.len,fun q x u hj hu=>?_⟩,h4⟩
  rw [gP] at hj
  cases hx:cs[q]? with
  |none=>rw [hx] at hj;cases hj
  |some y=>rw [hx] at hj;cases hj;exact w9_ hk (h3.at_ q y u hx hu)
 |row k E s els =>
  obtain ⟨h1,xs,h2,h3⟩:=h
  have e:=hρ k (fV _)
  exact ⟨by rw [e];exact h1,xs,h2,by rw [e];exact h3⟩
 |gone=>trivial
 |hole=>trivial
 |mp es =>
  obtain ⟨b,arr,c,h1,h2,h3⟩:=h
  exact ⟨b,arr,c,by rw [hρ 0 (fV _)];exact h1,h2,h3⟩
theorem AoP {ρ ρ':Rho} {g:Nat→Option Nat} {i j:Nat} {o:Ob} (hρ : ∀k,k<o.lim→ρ' j k=ρ i k):(upP g o).blk ρ' j=o.blk ρ i:=by
 cases o with
 |box t cs=>simp only [upP,Ob.blk];rw [hρ 0 (fV _)]
 |row k E s els=>simp only [upP,Ob.blk];rw [hρ k (fV _)]
 |gone=>rfl
 |hole=>rfl
 |mp es=>simp only [upP,Ob.blk];rw [hρ 0 (fV _)]
theorem AoQ {g:Nat→Option Nat} (o:Ob):(upP g o).lim=o.lim:=by cases o<;>rfl
section
variable {P:Program} {Q:QS} {n:Fr} {T:Nat→AV} {heap:List Ob} {d:Nat}
theorem Ok.sel2 {e:Env} {w:World} {ρ:Rho} {Z Y:Nat→Prop} (h:Ok e heap w ρ Z Y) {heap':List Ob} (f:Nat→Nat) (g:Nat→Option Nat) (hinj : ∀i j,i<heap'.length→j<heap'.length→f i=f j→i=j)
  (hget : ∀(j:Nat) (o':Ob),heap'[j]? = some o' → ∃o,heap[f j]? = some o∧o'=upP g o) (hg : ∀i j,i<heap.length→g i=some j→f j=i∧j<heap'.length) (hH : ∀i,i<e.H.length→i<heap.length→i<heap'.length∧f i=i) :
  ∃ρ',Ok e heap' w ρ' Z Y ∧ ∀x v,Val (Kn heap) ρ w Z Y x v→Val (Kn heap') ρ' w Z Y (upB g x) v:=by
 let ρ':Rho:=fun j k=>ρ (f j) k
 have kn : ∀(j k:Nat),j<heap'.length→Kn heap (f j) k→Kn heap' j k:=fun j k hj ⟨o,ho,hk⟩=>by
  obtain ⟨o1,h1,h2⟩:=hget j _ (ZgE hj)
  rw [ho] at h1;cases h1
  exact ⟨_,ZgE hj,by rw [h2,AoQ];exact hk⟩
 have up : ∀i k j,g i=some j→Kn heap i k→Kn heap' j k∧ρ' j k=ρ i k:=fun i k j hj hk=>by
  have hlt:i<heap.length:=hk.elim fun _ h=>get_lt h.1
  obtain ⟨h1,h2⟩:=hg i j hlt hj
  subst h1
  exact ⟨kn j k h2 hk,rfl⟩
 have hval : ∀x v,Val (Kn heap) ρ w Z Y x v→Val (Kn heap') ρ' w Z Y (upB g x) v:=fun x v hv=>w9_ up hv
 have blk : ∀(j:Nat) (o:Ob),(upP g o).blk ρ' j=o.blk ρ (f j):=fun j o=>AoP fun k _=>rfl
 refine ⟨ρ',⟨⟨fun j o' hj=>?_,fun i j o o' b hi hj hp hq=>?_,fun j o' b hj hp=>?_,h.rep.zy,h.rep.ylt⟩,fun j o' b hj hp=>?_,h.zone,h.z0,h.y0,fun i k hk=>?_,h.os,h.tape,h.output,h.size,h.keep⟩,hval⟩
 ·obtain ⟨o,h1,rfl⟩:=hget j o' hj
  exact AbX up (fun k _=>rfl) (h.rep.obs _ o h1)
 ·obtain ⟨p,h1,rfl⟩:=hget i o hi
  obtain ⟨q,h2,rfl⟩:=hget j o' hj
  rw [blk] at hp hq
  exact hinj i j (get_lt hi) (get_lt hj) (h.rep.apart _ _ p q b h1 h2 hp hq)
 ·obtain ⟨o,h1,rfl⟩:=hget j o' hj
  rw [blk] at hp
  exact h.rep.own _ o b h1 hp
 ·obtain ⟨o,h1,rfl⟩:=hget j o' hj
  rw [blk] at hp
  exact h.dom _ o b h1 hp
 ·obtain ⟨h1,h2⟩:=h.rho i k hk
  have hi:i<e.H.length:=by obtain ⟨o,ho,_⟩:=hk;exact get_lt ho
  have hi':i<heap.length:=by obtain ⟨o,ho,_⟩:=h1;exact get_lt ho
  obtain ⟨h3,h4⟩:=hH i hi hi'
  refine ⟨kn i k h3 (by rw [h4];exact h1),?_⟩
  show ρ (f i) k=_
  rw [h4];exact h2
def Fk (g:Nat→Option Nat) (T T':Nat→AV):Prop:=∀t,T' t = .any∨T' t=upB g (T t)
theorem Fk.nil {g:Nat→Option Nat}:Fk g T (fun _=>.any):=fun _=>.inl rfl
theorem Fk.pu {g:Nat→Option Nat} {T':Nat→AV} {d:Nat} {x:AV} (hx:upB g (T d)=x) (k:Fk g T T'):Fk g T (pu T' d x):=fun t=>by
 cases hb:Nat.beq t d with
 |true =>
  have:=jB hb
  subst this
  simp only [Go.Proofs.YtccefppppedgkaaGreat.pu,kX,kC]
  exact .inr hx.symm
 |false =>
  simp only [Go.Proofs.YtccefppppedgkaaGreat.pu,hb,jX]
  exact k t
theorem Wk.cut2 {T':Nat→AV} {heap':List Ob} (m:Nat) (hm:n.h≤m) (hh:(heap.take m).map (upP (CM m))=heap') (hT:Fk (CM m) T T'):Wk n T heap T' heap':=by
 subst hh
 rintro e a w ⟨ρ,Z,Y,hR⟩
 have hlen:((heap.take m).map (upP (CM m))).length=min m heap.length:=by simp
 obtain ⟨ρ',k1,k2⟩:=Ok.sel2 (heap:=heap) hR.ok (heap':=(heap.take m).map (upP (CM m))) id (CM m) (fun i j _ _ h=>h) (fun j o' hj=>by
  rw [gP,gN] at hj
  split at hj
  ·cases hx:heap[j]? with
   |none=>rw [hx] at hj;cases hj
   |some o=>rw [hx] at hj;cases hj;exact ⟨o,hx,rfl⟩
  ·cases hj) (fun i j hi hj=>by
  obtain ⟨rfl,h2⟩:=m1_ hj
  exact ⟨rfl,by rw [hlen];omega⟩) (fun i h1 h2=>by
  have h3:e.H.length≤n.h:=hR.hl
  exact ⟨by rw [hlen];omega,rfl⟩)
 refine ⟨ρ',Z,Y,k1,hR.defers,hR.n,hR.hl,fun t v ht=>?_⟩
 rcases hT t with h|h
 ·show Val _ _ _ _ _ (T' t) _
  rw [h];exact .any _
 ·show Val _ _ _ _ _ (T' t) _
  rw [h];exact k2 _ _ (hR.at_ t v ht)
end
end Go.Proofs.YtccefppppedgkaaGreat
namespace Go.Proofs.YtccefppppedgkaaGreat
open Go.RowKit
def BT:List Ob→List Nat→List Ob→List Ob
 |heap,[],_=>heap
 |heap,_::_,[]=>heap
 |heap,i::sel,o::os=>BT (heap.set i o) sel os
def gIO (sel:List Nat) (N:Nat):Nat→Option Nat:=fun i=>match sel[i]? with
 |some j=>some j
 |none=>some (N+(i-sel.length))
theorem TZ : ∀(sel:List Nat) (os:List Ob) (heap:List Ob),(BT heap sel os).length=heap.length
 | [],_,_=>by rw [BT]
 |_::_,[],_=>by rw [BT]
 |i::sel,o::os,heap=>by rw [BT,TZ sel os];simp
theorem JB : ∀(sel:List Nat) (os:List Ob) (heap:List Ob) (j:Nat),j ∉ sel→(BT heap sel os)[j]? = heap[j]?
 | [],_,_,_,_=>by rw [BT]
 |_::_,[],_,_,_=>by rw [BT]
 |i::sel,o::os,heap,j,h=>by
  simp only [iH,not_or] at h
  rw [BT,JB sel os _ j h.2,gY,fT (Ne.symm h.1)]
theorem PA : ∀(sel:List Nat) (os:List Ob) (heap:List Ob) (p i:Nat) (o:Ob),sel.Nodup→sel[p]? = some i→os[p]? = some o→i<heap.length→(BT heap sel os)[i]? = some o
 | [],_,_,p,i,o,_,h,_,_=>by simp at h
 |_::_,[],_,p,i,o,_,_,h,_=>by simp at h
 |i0::sel,o0::os,heap,0,i,o,hn,h1,h2,hl=>by
  simp at h1 h2;subst h1 h2
  rw [BT,JB sel os _ i0 (lG.1 hn).1,gY,fR rfl,fR hl]
 |i0::sel,o0::os,heap,p+1,i,o,hn,h1,h2,hl=>by
  rw [BT]
  exact PA sel os _ p i o (lG.1 hn).2 (by simpa using h1) (by simpa using h2) (by simpa using hl)
inductive MA (heap:List Ob) (sel:List Nat):Ob→Ob→Prop
 |row {k:Nat} {E:TypeId} {s:Nat} {els:List (List Tr)}:MA heap sel (.row k E s els) (.row k E s els)
 |box {t:TypeId} {cs cs':List AV} (h:CJ heap sel cs cs'):MA heap sel (.box t cs) (.box t cs')
inductive FP (heap:List Ob) (sel:List Nat):List Nat→List Ob→Prop
 |nil:FP heap sel [] []
 |cons {i:Nat} {o o':Ob} {l:List Nat} {H:List Ob} (hi:heap[i]? = some o) (h:MA heap sel o o') (k:FP heap sel l H):FP heap sel (i::l) (o'::H)
variable {H:List Ob}
theorem FP.get {heap:List Ob} {sel l:List Nat} (h:FP heap sel l H):l.length=H.length ∧ ∀(p i:Nat),l[p]? = some i → ∃o o',heap[i]? = some o∧H[p]? = some o'∧MA heap sel o o':=by
 induction h with
 |nil=>exact ⟨rfl,fun p i h=>by simp at h⟩
 | @cons i o o' l H hi h k ih =>
  refine ⟨by simp [ih.1],fun p j hp=>?_⟩
  cases p with
  |zero=>simp at hp;subst hp;exact ⟨o,o',hi,rfl,h⟩
  |succ p=>exact ih.2 p j (by simpa using hp)
variable {sel:List Nat}
theorem MA.lim {heap:List Ob} {o o':Ob} (h:MA heap sel o o'):o'.lim=o.lim:=by cases h<;>rfl
theorem MA.blk {heap:List Ob} {o o':Ob} (h:MA heap sel o o') {ρ ρ':Rho} {i j:Nat} (hρ : ∀k,ρ' j k=ρ i k):o'.blk ρ' j=o.blk ρ i:=by
 cases h with
 |row=>simp only [Ob.blk,hρ]
 |box=>simp only [Ob.blk,hρ]
variable {heap':List Ob}
section
variable {P:Program} {ops:Array Oper} {Q:QS} {rest:List Oper} {o:Oper} {n:Fr} {T:Nat→AV} {heap:List Ob} {d:Nat}
def Dio (heap:List Ob) (sel:List Nat) (w:World) (ρ:Rho) (b:Nat):Prop:=(∃i o,i∈sel∧heap[i]? = some o∧o.blk ρ i=some b)∨w.heap.size≤b
def JT (heap:List Ob) (sel:List Nat) (H:List Ob) (w:World) (ρ:Rho) (Z:Nat→Prop):Env :=
 { W:=w,D:=Dio heap sel w ρ,H:=H,ρ:=fun p k=>ρ (sel.getD p 0) k,Z:=Z,Y:=fun b=>b<w.heap.size ∧ ¬Dio heap sel w ρ b,big:=fun _ h=>.inr h,yd:=fun b h1 h2=>h1.2 h2 }
theorem NJ {p i:Nat} (h:sel[p]? = some i):sel.getD p 0=i:=by rw [fQ,h];rfl
theorem AfM {w:World} {ρ:Rho} {Z Y:Nat→Prop} (h:EH heap w ρ Z Y) (hH:FP heap sel sel H) {x y:AV} (hp:BH heap sel x y) {v:Value} (hv:Val (Kn heap) ρ w Z Y x v) :
  Val (Kn H) (JT heap sel H w ρ Z).ρ w Z (JT heap sel H w ρ Z).Y y v:=by
 have q1 : ∀b,Y b→(JT heap sel H w ρ Z).Y b:=fun b hb=>⟨h.ylt b hb,by
  rintro (⟨i,o,hi,ho,hb'⟩|hge)
  ·exact (h.own i o b ho hb').2 hb
  ·have:=h.ylt b hb;omega⟩
 have q2 : ∀(i:Nat) (o:Ob) (b:Nat),heap[i]? = some o→sel.contains i=false→o.blk ρ i=some b→(JT heap sel H w ρ Z).Y b:=fun i o b hi hn hb=>⟨(h.own i o b hi hb).1,by
  rintro (⟨j,o',hj,ho',hb'⟩|hge)
  ·have:=h.apart i j o o' b hi ho' hb hb'
   subst this
   simp at hn
   exact hn hj
  ·have:=(h.own i o b hi hb).1;omega⟩
 refine i6_ h q1 (fun p i k hpi hk=>?_) q2 hp hv
 obtain ⟨o,o',h1,h2,h3⟩:=hH.get.2 p i hpi
 obtain ⟨o1,h4,h5⟩:=hk
 rw [h1] at h4;cases h4
 exact ⟨⟨o',h2,by rw [h3.lim];exact h5⟩,by show ρ (sel.getD p 0) k=_;rw [NJ hpi]⟩
theorem AsX {w:World} {ρ:Rho} {Z Y:Nat→Prop} (h:EH heap w ρ Z Y) (hnd:sel.Nodup) (hH:FP heap sel sel H):EH H w (JT heap sel H w ρ Z).ρ Z (JT heap sel H w ρ Z).Y ∧
  ∀(p:Nat) (o:Ob) (b:Nat),H[p]? = some o→o.blk (JT heap sel H w ρ Z).ρ p=some b→(JT heap sel H w ρ Z).D b:=by
 obtain ⟨hl,hg⟩:=hH.get
 have get : ∀(p:Nat) (o':Ob),H[p]? = some o' → ∃i o,sel[p]? = some i∧heap[i]? = some o∧MA heap sel o o':=fun p o' hp=>by
  have hlt:=get_lt hp
  obtain ⟨o,o1,h1,h2,h3⟩:=hg p _ (ZgE (by omega))
  rw [hp] at h2;cases h2
  exact ⟨_,o,ZgE (by omega),h1,h3⟩
 have ρe : ∀ {p i:Nat},sel[p]? = some i → ∀k,(JT heap sel H w ρ Z).ρ p k=ρ i k:=fun {p i} hp k=>by show ρ (sel.getD p 0) k=_;rw [NJ hp]
 refine ⟨⟨fun p o' hp=>?_,fun p q o1 o2 b hp hq hb hb'=>?_,fun p o' b hp hb=>?_,fun b hb=>⟨h.ylt b (h.zy b hb),?_⟩,fun b hb=>hb.1⟩,fun p o' b hp hb=>?_⟩
 ·obtain ⟨i,o,h1,h2,h3⟩:=get p o' hp
  have ho:=h.obs i o h2
  cases h3 with
  |row =>
   obtain ⟨a1,xs,a2,a3⟩:=ho
   refine ⟨by rw [ρe h1];exact a1,xs,a2,?_⟩
   rw [ρe h1];exact a3
  | @box t cs cs' hL =>
   obtain ⟨b,us,a1,a2,a3,a4⟩:=ho
   obtain ⟨l1,l2⟩:=hL.get
   refine ⟨b,us,by rw [ρe h1];exact a1,a2,⟨by rw [←l1];exact a3.len,fun j y u hj hu=>?_⟩,a4⟩
   have hlt:=get_lt hj
   rw [←l1] at hlt
   exact AfM h hH (l2 j _ y (ZgE hlt) hj) (a3.at_ j _ u (ZgE hlt) hu)
 ·obtain ⟨i,oi,a1,a2,a3⟩:=get p o1 hp
  obtain ⟨j,oj,b1,b2,b3⟩:=get q o2 hq
  rw [a3.blk (ρe a1)] at hb
  rw [b3.blk (ρe b1)] at hb'
  have hij:=h.apart i j oi oj b a2 b2 hb hb'
  subst hij
  have c1:=get_lt a1
  have c2:=get_lt b1
  rw [ZgE c1] at a1
  rw [ZgE c2] at b1
  rcases mO p q with c|c|c
  ·exact absurd ((kB a1).trans (kB b1).symm) (kT.1 hnd p q c1 c2 c)
  ·exact c
  ·exact absurd ((kB b1).trans (kB a1).symm) (kT.1 hnd q p c2 c1 c)
 ·obtain ⟨i,oi,a1,a2,a3⟩:=get p o' hp
  rw [a3.blk (ρe a1)] at hb
  exact ⟨(h.own i oi b a2 hb).1,fun hy=>hy.2 (.inl ⟨i,oi,fO a1,a2,hb⟩)⟩
 ·rintro (⟨i,o,hi,ho,hb'⟩|hge)
  ·exact (h.own i o b ho hb').2 (h.zy b hb)
  ·have:=h.ylt b (h.zy b hb);omega
 ·obtain ⟨i,oi,a1,a2,a3⟩:=get p o' hp
  rw [a3.blk (ρe a1)] at hb
  exact .inl ⟨i,oi,fO a1,a2,hb⟩
theorem Ok.backio {e:Env} {w w':World} {ρ ρ1:Rho} {Z Y Z1 Y1:Nat→Prop} (h:Ok e heap w ρ Z Y) (hnd:sel.Nodup) (hH:FP heap sel sel H) {hp:List Ob} (k:Ok (JT heap sel H w ρ Z) hp w' ρ1 Z1 Y1) 
  (hh:BT heap sel (hp.map (upO (gIO sel heap.length)))++(hp.drop sel.length).map (upO (gIO sel heap.length))=heap') :
  ∃ρ',Ok e heap' w' ρ' Z1 (fun b=>Y b∨Z1 b)∧(∀x v,Val (Kn heap) ρ w Z Y x v→Val (Kn heap') ρ' w' Z1 (fun b=>Y b∨Z1 b) x v) ∧ ∀x v,Val (Kn hp) ρ1 w' Z1 Y1 x v→Val (Kn heap') ρ' w' Z1 (fun b=>Y b∨Z1 b) (upA (gIO sel heap.length) x) v:=by
 obtain ⟨hl,hg⟩:=hH.get
 have hsellt : ∀ {p i:Nat},sel[p]? = some i→i<heap.length:=fun {p i} hp'=>by obtain ⟨o,_,h1,_⟩:=hg p i hp';exact get_lt h1
 -- the objects that were handed over are still there
 have hph:sel.length≤hp.length:=by
  rcases Nat.lt_or_ge hp.length sel.length with c|c
  ·obtain ⟨o,o',h1,h2,h3⟩:=hg hp.length _ (ZgE c)
   have hlim:0<o'.lim:=by cases h3<;>simp [Ob.lim]
   obtain ⟨⟨p,hp',_⟩,_⟩:=k.rho hp.length 0 ⟨o',h2,hlim⟩
   have:=get_lt hp'
   omega
  ·exact c
 have hsz:w.heap.size≤w'.heap.size:=k.size
 have keep : ∀b,¬Dio heap sel w ρ b→w'.heap[b]? = w.heap[b]? := fun b hb=>k.keep b hb
 have hy : ∀b,Y b → ¬Dio heap sel w ρ b:=fun b hb=>by
  rintro (⟨i,o,hi,ho,hb'⟩|hge)
  ·exact (h.rep.own i o b ho hb').2 hb
  ·have:=h.rep.ylt b hb;omega
 have hrest : ∀ {j:Nat} {o:Ob} {b:Nat},heap[j]? = some o→j ∉ sel→o.blk ρ j=some b → ¬Dio heap sel w ρ b:=fun {j o b} hj hn hb=>by
  rintro (⟨i,o',hi,ho,hb'⟩|hge)
  ·have:=h.rep.apart j i o o' b hj ho hb hb'
   subst this;exact hn hi
  ·have:=(h.rep.own j o b hj hb).1;omega
 let g:=gIO sel heap.length
 let ρ':Rho:=fun j q=>match GP sel 0 j with
  |some p=>ρ1 p q
  |none=>if heap.length≤j then ρ1 (sel.length+(j-heap.length)) q else ρ j q
 have fnd : ∀ {p i:Nat},sel[p]? = some i→GP sel 0 i=some p:=fun {p i} hpi=>by
  have key : ∀(l:List Nat) (m p:Nat),l.Nodup→l[p]? = some i→GP l m i=some (m+p):=by
   intro l
   induction l with
   |nil=>intro m p _ h;simp at h
   | cons x l ih =>
    intro m p hn hx
    unfold GP
    cases p with
    |zero=>simp at hx;subst hx;rw [kX];rfl
    |succ p =>
     have hx':l[p]? = some i:=by simpa using hx
     have hne:x≠i:=fun e=>(lG.1 hn).1 (by rw [e];exact fO hx')
     rw [k4_ hne,jX,ih (m+1) p (lG.1 hn).2 hx']
     congr 1;omega
  have:=key sel 0 p hnd hpi
  simpa using this
 have fnone : ∀ {j:Nat},j ∉ sel→GP sel 0 j=none:=fun {j} hj=>by
  cases hf:GP sel 0 j with
  |none=>rfl
  |some p=>exact absurd (fO (by have:=(LF hf).2;simpa using this)) hj
 have ρs : ∀ {p i:Nat},sel[p]? = some i → ∀q,ρ' i q=ρ1 p q:=fun {p i} hpi q=>by show (match GP sel 0 i with|some p=>ρ1 p q|none=>_)=_;rw [fnd hpi]
 have ρn : ∀i q,ρ' (heap.length+i) q=ρ1 (sel.length+i) q:=fun i q=>by
  show (match GP sel 0 (heap.length+i) with|some p=>ρ1 p q|none=>if heap.length≤heap.length+i then ρ1 (sel.length+(heap.length+i-heap.length)) q else _)=_
  rw [fnone fun hm=>by obtain ⟨p,hp'⟩:=jN hm;have:=hsellt hp';omega,fR (by omega),jP]
 have ρo : ∀j q,Kn heap j q→ρ' j q=ρ j q:=fun j q hk=>by
  by_cases hj:j∈sel
  ·obtain ⟨p,hp'⟩:=jN hj
   obtain ⟨o,o',h1,h2,h3⟩:=hg p j hp'
   obtain ⟨o1,h4,h5⟩:=hk
   rw [h1] at h4;cases h4
   rw [ρs hp']
   have:=(k.rho p q ⟨o',h2,by rw [h3.lim];exact h5⟩).2
   rw [this]
   show ρ (sel.getD p 0) q=_
   rw [NJ hp']
  ·show (match GP sel 0 j with|some p=>ρ1 p q|none=>if heap.length≤j then _ else ρ j q)=_
   obtain ⟨o,h1,_⟩:=hk
   have:=get_lt h1
   rw [fnone hj,fT (by omega)]
 have hlen:(BT heap sel (hp.map (upO g))).length=heap.length:=TZ _ _ _
 have part : ∀(j:Nat) (o:Ob),heap'[j]? = some o→(∃p o1,sel[p]? = some j∧hp[p]? = some o1∧o=upO g o1)∨(∃q o1,j=heap.length+q∧hp[sel.length+q]? = some o1∧o=upO g o1)∨(j ∉ sel∧heap[j]? = some o):=fun j o hj=>by
  rw [←hh] at hj
  by_cases c:j<heap.length
  ·rw [gH (by rw [hlen];exact c)] at hj
   by_cases hs:j∈sel
   ·obtain ⟨p,hp'⟩:=jN hs
    have hpl:=get_lt hp'
    have h1:hp[p]? = some (hp[p]'(by omega)):=ZgE (by omega)
    rw [PA sel _ heap p j (upO g (hp[p]'(by omega))) hnd hp' (by rw [gP,h1];rfl) c] at hj
    cases hj
    exact .inl ⟨p,_,hp',h1,rfl⟩
   ·rw [JB sel _ heap j hs] at hj
    exact .inr (.inr ⟨hs,hj⟩)
  ·rw [gD (by rw [hlen];omega),hlen,gP,gK] at hj
   cases hx:hp[sel.length+(j-heap.length)]? with
   |none=>rw [hx] at hj;cases hj
   |some o1=>rw [hx] at hj;cases hj;exact .inr (.inl ⟨j-heap.length,o1,by omega,hx,rfl⟩)
 have getS : ∀ {p i:Nat} {o1:Ob},sel[p]? = some i→hp[p]? = some o1→heap'[i]? = some (upO g o1):=fun {p i o1} h1 h2=>by
  rw [←hh,gH (by rw [hlen];exact hsellt h1)]
  exact PA sel _ heap p i _ hnd h1 (by rw [gP,h2];rfl) (hsellt h1)
 have getN : ∀ {q:Nat} {o1:Ob},hp[sel.length+q]? = some o1→heap'[heap.length+q]? = some (upO g o1):=fun {q o1} h1=>by
  rw [←hh,gD (by rw [hlen];omega),hlen,jP,gP,gK,h1];rfl
 have up : ∀i q j,g i=some j→Kn hp i q→Kn heap' j q∧ρ' j q=ρ1 i q:=by
  rintro i q j hj ⟨o1,h1,h2⟩
  simp only [g,gIO] at hj
  cases hs:sel[i]? with
  |some i' =>
   rw [hs] at hj;cases hj
   exact ⟨⟨_,getS hs h1,by rw [NW];exact h2⟩,ρs hs q⟩
  | none =>
   rw [hs] at hj;cases hj
   have hge:sel.length≤i:=by
    rcases Nat.lt_or_ge i sel.length with c|c
    ·rw [ZgE c] at hs;cases hs
    ·exact c
   have e1:sel.length+(i-sel.length)=i:=by omega
   exact ⟨⟨_,getN (by rw [e1];exact h1),by rw [NW];exact h2⟩,by rw [ρn,e1]⟩
 have kn : ∀j q,Kn heap j q→Kn heap' j q:=fun j q hk=>by
  by_cases hj:j∈sel
  ·obtain ⟨p,hp'⟩:=jN hj
   obtain ⟨o,o',h1,h2,h3⟩:=hg p j hp'
   obtain ⟨o1,h4,h5⟩:=hk
   rw [h1] at h4;cases h4
   obtain ⟨⟨o2,h6,h7⟩,_⟩:=k.rho p q ⟨o',h2,by rw [h3.lim];exact h5⟩
   exact ⟨_,getS hp' h6,by rw [NW];exact h7⟩
  ·obtain ⟨o1,h4,h5⟩:=hk
   refine ⟨o1,?_,h5⟩
   rw [←hh,gH (by rw [hlen];exact get_lt h4),JB sel _ heap j hj]
   exact h4
 have hy' : ∀b,Y b→(Y b∨Z1 b)∧w'.heap[b]? = w.heap[b]? := fun b hb=>⟨.inl hb,keep b (hy b hb)⟩
 have hz' : ∀b,Z b→Z1 b∧w'.heap[b]? = w.heap[b]? := fun b hb=>⟨k.z0 b hb,keep b (hy b (h.rep.zy b hb))⟩
 have hkn : ∀j q,Kn heap j q→Kn heap' j q∧ρ' j q=ρ j q:=fun j q hk=>⟨kn j q hk,ρo j q hk⟩
 have z1 : ∀b,Z1 b→Z b∨Dio heap sel w ρ b:=fun b hb=>k.zone b hb
 have blkS : ∀ {p i:Nat} {o1:Ob},sel[p]? = some i→(upO g o1).blk ρ' i=o1.blk ρ1 p:=fun {p i o1} hpi=>RK fun m _=>ρs hpi m
 have blkN : ∀ {q:Nat} {o1:Ob},(upO g o1).blk ρ' (heap.length+q)=o1.blk ρ1 (sel.length+q):=fun {q o1}=>RK fun m _=>ρn q m
 have blkR : ∀ {j:Nat} {o1:Ob},heap[j]? = some o1→o1.blk ρ' j=o1.blk ρ j:=fun {j o1} hj=>Ob.blk_mono fun m hm=>ρo j m ⟨o1,hj,hm⟩
 -- each object of the new list: one that came back (at its number there),or one of the rest
 have view : ∀(j:Nat) (o:Ob) (b:Nat),heap'[j]? = some o→o.blk ρ' j=some b→(∃i o1,hp[i]? = some o1∧o1.blk ρ1 i=some b∧g i=some j)∨(j ∉ sel∧heap[j]? = some o∧o.blk ρ j=some b):=fun j o b hj hb=>by
  rcases part j o hj with ⟨p,o1,h1,h2,rfl⟩|⟨q,o1,rfl,h2,rfl⟩|⟨h1,h2⟩
  ·rw [blkS h1] at hb
   exact .inl ⟨p,o1,h2,hb,by show gIO sel heap.length p=_;simp only [gIO,h1]⟩
  ·rw [blkN] at hb
   refine .inl ⟨sel.length+q,o1,h2,hb,?_⟩
   show gIO sel heap.length _=_
   simp only [gIO]
   rw [gS (by omega)]
   simp
  ·rw [blkR h2] at hb
   exact .inr ⟨h1,h2,hb⟩
 have hDD : ∀b,Dio heap sel w ρ b→e.D b:=by
  rintro b (⟨i,o,hi,ho,hb⟩|hge)
  ·exact h.dom i o b ho hb
  ·exact e.big b (jA h.size hge)
 have hrep:EH heap' w' ρ' Z1 (fun b=>Y b∨Z1 b):=by
  refine ⟨fun j o hj=>?_,fun i j o o' b hi hj hb hb'=>?_,fun j o b hj hb=>?_,fun b hb=>.inr hb,fun b hb=>?_⟩
  ·rcases part j o hj with ⟨p,o1,h1,h2,rfl⟩|⟨q,o1,rfl,h2,rfl⟩|⟨h1,h2⟩
   ·exact KP up (fun m _=>ρs h1 m) (k.rep.obs p o1 h2)
   ·exact KP up (fun m _=>ρn q m) (k.rep.obs _ o1 h2)
   ·exact Ob.holds_mono (fun x v hx=>hx.mono hkn hz' hy') (fun m hm=>ρo j m ⟨o,h2,hm⟩) hz' (fun b hb=>keep b (hrest h2 h1 hb)) (h.rep.obs j o h2)
  ·rcases view i o b hi hb with ⟨p,o1,h1,h2,h3⟩|⟨h1,h2,h3⟩<;>rcases view j o' b hj hb' with ⟨q,o2,g1,g2,g3⟩|⟨g1,g2,g3⟩
   ·have:=k.rep.apart p q o1 o2 b h1 g1 h2 g2
    subst this
    rw [h3] at g3;exact kB g3
   ·exact absurd (k.dom p o1 b h1 h2) (hrest g2 g1 g3)
   ·exact absurd (k.dom q o2 b g1 g2) (hrest h2 h1 h3)
   ·exact h.rep.apart i j o o' b h2 g2 h3 g3
  ·rcases view j o b hj hb with ⟨p,o1,h1,h2,h3⟩|⟨h1,h2,h3⟩
   ·have a1:=k.rep.own p o1 b h1 h2
    have a2:=k.dom p o1 b h1 h2
    refine ⟨a1.1,fun hb'=>?_⟩
    rcases hb' with hb'|hb'
    ·exact hy b hb' a2
    ·exact a1.2 (k.rep.zy b hb')
   ·have a1:=h.rep.own j o b h2 h3
    refine ⟨jV a1.1 hsz,fun hb'=>?_⟩
    rcases hb' with hb'|hb'
    ·exact a1.2 hb'
    ·rcases z1 b hb' with c|c
     ·exact a1.2 (h.rep.zy b c)
     ·exact hrest h2 h1 h3 c
  ·rcases hb with hb|hb
   ·exact jV (h.rep.ylt b hb) hsz
   ·exact k.rep.ylt b (k.rep.zy b hb)
 refine ⟨ρ',h.mono hrep hkn ⟨k.os,k.tape,k.output⟩ hsz (fun j o b hj hb=>?_) (fun b hb=>k.z0 b hb) (fun b hb=>.inl hb) (fun b hb=>(z1 b hb).elim .inl fun hd=>.inr (hDD b hd)) (fun b _ hd=>keep b fun hd'=>hd (hDD b hd')),fun x v hv=>h.rep.val hkn (fun b hb=>k.z0 b hb) hy' hv,fun x v hv=>ZH up hv⟩
 rcases view j o b hj hb with ⟨p,o1,h1,h2,h3⟩|⟨h1,h2,h3⟩
 ·exact hDD b (k.dom p o1 b h1 h2)
 ·exact h.dom j o b h2 h3
def Cio (P:Program) (f:FuncId) (args:List AV) (H:List Ob) (r:AV) (L:List Ob):Prop:=C P f args H (fun r' L'=>r'=r∧L'=L)
theorem Cio.enter' {f:FuncId} {fn:Func} {c:Code} (hf:P.funcs[f]? = some fn) (hb:fn.body=some c) {args:List AV} {r:AV} {L:List Ob} {N:Nat} (hn:fn.ntmps=N) (hle:Nat.ble args.length N=true) {M:Nat} (hM:H.length=M) (h:AW P c (AO P fn (fun r' L'=>r'=r∧L'=L) ⟨N,M⟩) ⟨N,M⟩ (ZY args) H):Cio P f args H r L :=
 C.enter' hf hb hn hle hM h
theorem RM (hw : AD n T ops o = true) (hd : o.dst = some d) {f : FuncId} {fn : Func} (hf : P.funcs[f]? = some fn) (hn : (fn.name == "runtime.NumGoroutine") = false) (hb : fn.body.isNone = false) {args : Array Operand} {tys : Array TypeId}
  (ho:o.op = .call { callee:=.value (.func f),args:=args,argTypes:=tys }) (sel:List Nat) (hnd:sel.Nodup) {xs:List AV} {r:AV} {L:List Ob} (hc:Cio P f xs H r L) (hH:FP heap sel sel H) (hp:CJ heap sel (args.toList.map (evA n T)) xs)
  {N:Nat} (hN:heap.length=N) {r':AV} (hr:upA (gIO sel N) r=r') (hh:BT heap sel (L.map (upO (gIO sel N)))++(L.drop sel.length).map (upO (gIO sel N))=heap') (k:AL P ops Q rest n (pu T d r') heap'):AL P ops Q (o::rest) n T heap:=by
 subst hN hr
 rintro e a w ⟨ρ,Z,Y,hR⟩
 have hrep:=hR.ok.rep
 obtain ⟨hl,hg⟩:=hp.get
 obtain ⟨i1,i2⟩:=AsX hrep hnd hH
 refine IF (hR.wanted hw) fun K hK=>?_
 unfold Oper.wp
 rw [v6_ hf hn hb ho (args.toList.map a.eval) rfl w]
 refine Calls.mono (hc (JT heap sel H w ρ Z) (args.toList.map a.eval) rfl i1 i2 ⟨by simp at hl ⊢;omega,fun j x u hj hu=>?_⟩) ?_
 ·rw [gP] at hu
  cases hx:args.toList[j]? with
  |none=>rw [hx] at hu;cases hu
  |some y =>
   rw [hx] at hu;cases hu
   exact AfM hrep hH (hg j (evA n T y) x (by rw [gP,hx];rfl) hj) (hR.eval y)
 ·rintro en w' ⟨v,r1,L1,ρ1,Z1,Y1,rfl,⟨rfl,rfl⟩,hok,hv⟩
  obtain ⟨ρ',k1,k2,k3⟩:=Ok.backio (heap:=heap) hR.ok hnd hH hok hh
  refine hK _ _ (k e _ _ ⟨ρ',Z1,fun b=>Y b∨Z1 b,?_⟩)
  rw [hd]
  exact (hR.move k1 k2).put d (k3 _ v hv)
end
end Go.Proofs.YtccefppppedgkaaGreat
namespace Go.Proofs.YtccefppppedgkaaGreat
open Go.RowKit
inductive VR (heap:List Ob) (h:Nat) (K:List Nat):AV→AV→Prop
 |any (x:AV):VR heap h K x .any
 |t {x y:Tr} (he:x=y):VR heap h K (.t x) (.t y)
 |nl:VR heap h K .nl .nl
 |old {i k n n':Nat} (hi:Nat.blt i h=true) (hn:n=n'):VR heap h K (.sl i k n) (.sl i k n')
 |new {i j k n n':Nat} {E:TypeId} {s:Nat} {els:List (List Tr)} (hj:Nat.ble h j=true) (hq:K[j-h]? = some i) (hi:heap[i]? = some (.row k E s els)) (hn:n=n'):VR heap h K (.sl i k n) (.sl j 0 n')
 |optr {i off:Nat} (hi:Nat.blt i h=true):VR heap h K (.ptr i off) (.ptr i off)
 |nptr {i j off:Nat} {t:TypeId} {cs:List AV} (hj:Nat.ble h j=true) (hq:K[j-h]? = some i) (hi:heap[i]? = some (.box t cs)):VR heap h K (.ptr i off) (.ptr j off)
 |agg {l l':List AV} (h1:l.length=l'.length) (hp : ∀(j:Nat) x y,l[j]? = some x→l'[j]? = some y→VR heap h K x y):VR heap h K (.agg l) (.agg l')
 |tup {l l':List AV} (h1:l.length=l'.length) (hp : ∀(j:Nat) x y,l[j]? = some x→l'[j]? = some y→VR heap h K x y):VR heap h K (.tup l) (.tup l')
inductive VRL (heap:List Ob) (h:Nat) (K:List Nat):List AV→List AV→Prop
 |nil:VRL heap h K [] []
 |cons {x y:AV} {l l':List AV} (hx:VR heap h K x y) (k:VRL heap h K l l'):VRL heap h K (x::l) (y::l')
theorem VRL.get {heap:List Ob} {h:Nat} {K:List Nat} {l l':List AV} (hl:VRL heap h K l l'):l.length=l'.length ∧ ∀(j:Nat) x y,l[j]? = some x→l'[j]? = some y→VR heap h K x y:=by
 induction hl with
 |nil=>exact ⟨rfl,fun j x y h=>by simp at h⟩
 |cons h k ih =>
  refine ⟨by simp [ih.1],fun j x y hj hy=>?_⟩
  cases j with
  |zero=>simp at hj hy;subst hj hy;exact h
  |succ j=>exact ih.2 j x y cU (by simpa using hy)
theorem VR.aggL {heap:List Ob} {h:Nat} {K:List Nat} {l l':List AV} (hl:VRL heap h K l l'):VR heap h K (.agg l) (.agg l'):=.agg hl.get.1 hl.get.2
theorem VR.tupL {heap:List Ob} {h:Nat} {K:List Nat} {l l':List AV} (hl:VRL heap h K l l'):VR heap h K (.tup l) (.tup l'):=.tup hl.get.1 hl.get.2
inductive VO (heap:List Ob) (h:Nat) (K:List Nat):Bool→Ob→Ob→Prop
 |row {k:Nat} {E:TypeId} {s:Nat} {els els':List (List Tr)} (he:els=els'):VO heap h K false (.row k E s els) (.row k E s els')
 |rset {k:Nat} {E:TypeId} {s:Nat} {els els':List (List Tr)} (he:els=els'):VO heap h K true (.row k E s els) (.row 0 E s els')
 |box {r:Bool} {t:TypeId} {cs cs':List AV} (hl:VRL heap h K cs cs'):VO heap h K r (.box t cs) (.box t cs')
 |gone {k:Nat}:VO heap h K false (.gone k) (.gone k)
inductive VH (heap:List Ob) (h:Nat) (K:List Nat):Bool→List Nat→List Ob→Prop
 |nil {r:Bool}:VH heap h K r [] []
 |cons {r:Bool} {i:Nat} {o o':Ob} {l:List Nat} {L:List Ob} (hi:heap[i]? = some o) (ho:VO heap h K r o o') (k:VH heap h K r l L):VH heap h K r (i::l) (o'::L)
theorem VH.get {heap:List Ob} {h:Nat} {K:List Nat} {r:Bool} {l:List Nat} {L:List Ob} (hl:VH heap h K r l L):l.length=L.length ∧ ∀(p i:Nat),l[p]? = some i → ∃o o',heap[i]? = some o∧L[p]? = some o'∧VO heap h K r o o':=by
 induction hl with
 |nil=>exact ⟨rfl,fun p i h=>by simp at h⟩
 | @cons i o o' l L hi ho k ih =>
  refine ⟨by simp [ih.1],fun p j hp=>?_⟩
  cases p with
  |zero=>simp at hp;subst hp;exact ⟨o,o',hi,rfl,ho⟩
  |succ p=>exact ih.2 p j (by simpa using hp)
section
variable {P:Program} {Q:QS} {n:Fr} {T:Nat→AV} {heap:List Ob}
theorem Ok.fin {e:Env} {w:World} {ρ:Rho} {Z Y:Nat→Prop} (hk:Ok e heap w ρ Z Y) {h:Nat} {K:List Nat} (he:e.H.length≤h) (hK:K.Nodup) (hK1 : ∀i∈K,h≤i) {L1 L2:List Ob} (h1:VH heap h K false (List.range h) L1) (h2:VH heap h K true K L2) :
  ∃ρ',Ok e (L1++L2) w ρ' Z Y ∧ ∀x y v,VR heap h K x y→Val (Kn heap) ρ w Z Y x v→Val (Kn (L1++L2)) ρ' w Z Y y v:=by
 obtain ⟨l1,g1⟩:=h1.get
 obtain ⟨l2,g2⟩:=h2.get
 simp only [lE] at l1
 let f:Nat→Nat:=fun j=>if j<h then j else K.getD (j-h) 0
 let ρ':Rho:=fun j k=>if j<h then ρ j k else match heap[K.getD (j-h) 0]? with
  |some o=>ρ (K.getD (j-h) 0) (o.lim-1)
  |none=>ρ 0 0
 have get : ∀(j:Nat) (o':Ob),(L1++L2)[j]? = some o' → ∃o,heap[f j]? = some o∧VO heap h K (decide (h≤j)) o o'∧(h≤j→K[j-h]? = some (f j)):=fun j o' hj=>by
  by_cases c:j<h
  ·rw [gH (by omega)] at hj
   obtain ⟨o,o1,a1,a2,a3⟩:=g1 j j (by rw [jW c])
   rw [hj] at a2;cases a2
   refine ⟨o,by simp only [f,fR c];exact a1,?_,fun c'=>by omega⟩
   rw [show decide (h≤j)=false by simp;omega];exact a3
  ·rw [gD (by omega), ←l1] at hj
   have hlt:=get_lt hj
   rw [←l2] at hlt
   obtain ⟨o,o1,a1,a2,a3⟩:=g2 (j-h) _ (ZgE hlt)
   rw [hj] at a2;cases a2
   have hf:f j=K[j-h]:=by simp only [f,fT c,fQ,ZgE hlt,jK]
   refine ⟨o,by rw [hf];exact a1,?_,fun _=>by rw [hf];exact ZgE hlt⟩
   rw [show decide (h≤j)=true by simp;omega];exact a3
 have ρl : ∀ {j:Nat},j<h → ∀k,ρ' j k=ρ j k:=fun {j} c k=>fR c
 have ρg : ∀ {j i:Nat} {o:Ob},h≤j→K[j-h]? = some i→heap[i]? = some o → ∀k,ρ' j k=ρ i (o.lim-1):=fun {j i o} c hi ho k=>by
  show (if j<h then ρ j k else match heap[K.getD (j-h) 0]? with|some o=>ρ (K.getD (j-h) 0) (o.lim-1)|none=>ρ 0 0)=_
  rw [fT (by omega),NJ hi,ho]
 have knl : ∀ {i k:Nat},i<h→Kn heap i k→Kn (L1++L2) i k:=fun {i k} c ⟨o,ho,hko⟩=>by
  obtain ⟨o1,o',a1,a2,a3⟩:=g1 i i (by rw [jW c])
  rw [ho] at a1;cases a1
  refine ⟨o',by rw [gH (by omega)];exact a2,?_⟩
  cases a3<;>exact hko
 have kng : ∀ {i j:Nat},h≤j→K[j-h]? = some i→Kn (L1++L2) j 0:=fun {i j} c hi=>by
  obtain ⟨o1,o',a1,a2,a3⟩:=g2 (j-h) i hi
  refine ⟨o',by rw [gD (by omega), ←l1];exact a2,?_⟩
  cases a3<;>simp [Ob.lim]
 have val : ∀ {x y:AV},VR heap h K x y → ∀ {v:Value},Val (Kn heap) ρ w Z Y x v→Val (Kn (L1++L2)) ρ' w Z Y y v:=by
  have pw : ∀ {l l':List AV} {us:List Value},l.length=l'.length→l.length=us.length→(∀(j:Nat) x y,l[j]? = some x→l'[j]? = some y → ∀ {v:Value},Val (Kn heap) ρ w Z Y x v→Val (Kn (L1++L2)) ρ' w Z Y y v)→(∀(j:Nat) x u,l[j]? = some x→us[j]? = some u→Val (Kn heap) ρ w Z Y x u) →
    ∀(j:Nat) y u,l'[j]? = some y→us[j]? = some u→Val (Kn (L1++L2)) ρ' w Z Y y u:=by
   intro l l' us e1 e2 ih hv j y u hj hu
   have hlt:=get_lt hj
   rw [←e1] at hlt
   exact ih j _ y (ZgE hlt) hj (hv j _ u (ZgE hlt) hu)
  intro x y hxy
  induction hxy with
  |any x=>intro v _;exact .any v
  |t he=>intro v hv;subst he;cases hv with|t h=>exact .t h
  |nl=>intro v hv;cases hv with|nl a=>exact .nl a
  | @old i k n n' hi hn =>
   intro v hv
   subst hn
   have c:i<h:=ZbT hi
   cases hv with
   |sl hk hc h0=>rw [←ρl c] at hc h0 ⊢;exact .sl (knl c hk) hc h0
  | @new i j k n n' E s els hj hq hi hn =>
   intro v hv
   subst hn
   have c:h≤j:=ZbT hj
   cases hv with
   |sl hk hc h0 =>
    have e:ρ' j 0=ρ i k:=ρg c hq hi 0
    rw [←e] at hc h0 ⊢
    exact .sl (kng c hq) hc h0
  | @optr i off hi =>
   intro v hv
   have c:i<h:=ZbT hi
   cases hv with
   |ptr hk ha=>exact .ptr (knl c hk) (by rw [ρl c];exact ha)
  | @nptr i j off t cs hj hq hi =>
   intro v hv
   have c:h≤j:=ZbT hj
   cases hv with
   |ptr hk ha=>exact .ptr (kng c hq) (by rw [ρg c hq hi 0];exact ha)
  |agg e1 hp ih=>intro v hv;cases hv with|agg a1 a2 a3=>exact .agg (by rw [←e1];exact a1) a2 (pw e1 a1 ih a3)
  |tup e1 hp ih=>intro v hv;cases hv with|tup a1 a3=>exact .tup (by rw [←e1];exact a1) (pw e1 a1 ih a3)
 have blk : ∀(j:Nat) (o' o:Ob),(L1++L2)[j]? = some o'→heap[f j]? = some o→VO heap h K (decide (h≤j)) o o'→(h≤j→K[j-h]? = some (f j))→o'.blk ρ' j=o.blk ρ (f j):=fun j o' o _ ho hv hK'=>by
  by_cases c:j<h
  ·have ef:f j=j:=by simp only [f,fR c]
   rw [ef] at ho ⊢
   rw [show decide (h≤j)=false by simp;omega] at hv
   cases hv with
   |row=>simp only [Ob.blk,ρl c]
   |box=>simp only [Ob.blk,ρl c]
   |gone=>rfl
  ·have hq:=hK' (by omega)
   rw [show decide (h≤j)=true by simp;omega] at hv
   cases hv with
   |rset=>simp only [Ob.blk,ρg (by omega) hq ho];rfl
   |box=>simp only [Ob.blk,ρg (by omega) hq ho];rfl
 have inj : ∀i j,i<(L1++L2).length→j<(L1++L2).length→f i=f j→i=j:=fun i j hi hj hf=>by
  simp only [fP] at hi hj
  have inK : ∀q,h≤q→q<L1.length+L2.length→K[q-h]? = some (f q):=fun q c1 c2=>by
   have hlt:q-h<K.length:=by omega
   simp only [f,fT (show ¬q<h by omega),fQ,ZgE hlt,jK]
  by_cases ci:i<h<;>by_cases cj:j<h
  ·simpa only [f,fR ci,fR cj] using hf
  ·have:=hK1 _ (fO (inK j (by omega) hj))
   rw [←hf] at this
   simp only [f,fR ci] at this;omega
  ·have:=hK1 _ (fO (inK i (by omega) hi))
   rw [hf] at this
   simp only [f,fR cj] at this;omega
  ·have e1:=inK i (by omega) hi
   have e2:=inK j (by omega) hj
   rw [←hf] at e2
   have key : ∀p q,p<q→K[p]? = some (f i)→K[q]? = some (f i)→False:=fun p q hpq h1 h2=>by
    have a1:=get_lt h1
    have a2:=get_lt h2
    rw [ZgE a1] at h1
    rw [ZgE a2] at h2
    exact kT.1 hK p q a1 a2 hpq ((kB h1).trans (kB h2).symm)
   rcases mO (i-h) (j-h) with c|c|c
   ·exact (key _ _ c e1 e2).elim
   ·omega
   ·exact (key _ _ c e2 e1).elim
 refine ⟨ρ',⟨⟨fun j o' hj=>?_,fun i j o o' b hi hj hp hq=>?_,fun j o' b hj hp=>?_,hk.rep.zy,hk.rep.ylt⟩,fun j o' b hj hp=>?_,hk.zone,hk.z0,hk.y0,fun i k hik=>?_,hk.os,hk.tape,hk.output,hk.size,hk.keep⟩,fun x y v hxy hv=>val hxy hv⟩
 ·obtain ⟨o,a1,a2,a3⟩:=get j o' hj
  have ho:=hk.rep.obs _ o a1
  by_cases c:j<h
  ·have ef:f j=j:=by simp only [f,fR c]
   rw [ef] at ho
   rw [show decide (h≤j)=false by simp;omega] at a2
   cases a2 with
   |row he=>subst he;obtain ⟨b1,xs,b2,b3⟩:=ho;exact ⟨by rw [ρl c];exact b1,xs,b2,by rw [ρl c];exact b3⟩
   |box hl =>
    obtain ⟨b,us,b1,b2,b3,b4⟩:=ho
    obtain ⟨c1,c2⟩:=hl.get
    refine ⟨b,us,by rw [ρl c];exact b1,b2,⟨by rw [←c1];exact b3.len,fun q y u hq hu=>?_⟩,b4⟩
    have hlt:=get_lt hq
    rw [←c1] at hlt
    exact val (c2 q _ y (ZgE hlt) hq) (b3.at_ q _ u (ZgE hlt) hu)
   |gone=>trivial
  ·have hq:=a3 (by omega)
   rw [show decide (h≤j)=true by simp;omega] at a2
   cases a2 with
   |rset he =>
    subst he
    obtain ⟨b1,xs,b2,b3⟩:=ho
    have e:=ρg (by omega) hq a1 0
    exact ⟨by rw [e];exact b1,xs,b2,by rw [e];exact b3⟩
   |box hl =>
    obtain ⟨b,us,b1,b2,b3,b4⟩:=ho
    obtain ⟨c1,c2⟩:=hl.get
    refine ⟨b,us,by rw [ρg (by omega) hq a1];exact b1,b2,⟨by rw [←c1];exact b3.len,fun q y u hq hu=>?_⟩,b4⟩
    have hlt:=get_lt hq
    rw [←c1] at hlt
    exact val (c2 q _ y (ZgE hlt) hq) (b3.at_ q _ u (ZgE hlt) hu)
 ·obtain ⟨p,a1,a2,a3⟩:=get i o hi
  obtain ⟨q,b1,b2,b3⟩:=get j o' hj
  rw [blk i o p hi a1 a2 a3] at hp
  rw [blk j o' q hj b1 b2 b3] at hq
  exact inj i j (get_lt hi) (get_lt hj) (hk.rep.apart _ _ p q b a1 b1 hp hq)
 ·obtain ⟨p,a1,a2,a3⟩:=get j o' hj
  rw [blk j o' p hj a1 a2 a3] at hp
  exact hk.rep.own _ p b a1 hp
 ·obtain ⟨p,a1,a2,a3⟩:=get j o' hj
  rw [blk j o' p hj a1 a2 a3] at hp
  exact hk.dom _ p b a1 hp
 ·obtain ⟨q1,q2⟩:=hk.rho i k hik
  have hi:i<e.H.length:=by obtain ⟨o,ho,_⟩:=hik;exact get_lt ho
  exact ⟨knl (by omega) q1,by rw [ρl (by omega)];exact q2⟩
theorem Fin.mkv {fn:Func} {r0:AV} {L0:List Ob} {rs:List ResultVar} (hrs:fn.results=rs.toArray) {xs:List AV} (hx:XG P n T heap rs xs) (K:List Nat) (hK:K.Nodup) (hK1:(K.all fun i=>Nat.ble n.h i)=true)
  (h1:VH heap n.h K false (List.range n.h) (L0.take n.h)) (h2:VH heap n.h K true K (L0.drop n.h)) (hr:VR heap n.h K (AuE xs) r0):Fin P fn (fun r L=>r=r0∧L=L0) n T heap:=by
 rintro e a w ⟨ρ,Z,Y,hR⟩
 obtain ⟨vs,q1,q2⟩:=hx.run hR
 obtain ⟨ρ',k1,k2⟩:=Ok.fin (heap:=heap) hR.ok (h:=n.h) hR.hl hK (fun i hi=>ZbT (iI.1 hK1 i hi)) h1 h2
 rw [jC] at k1 k2
 have hres:(results fn a.tmps).run P w = .ok (match vs with| [v]=>v|l=>.tuple l.toArray) w:=by
  rw [LP,hrs]
  have hm:((rs.toArray).mapM (KZ a.tmps)).run P w = .ok vs.toArray w:=by
   rw [List.mapM_toArray]
   simp only [nF,Sem.run_bind,q1,Result.andThen_ok,Sem.run_pure]
  simp only [Sem.run_bind,hm,Result.andThen_ok]
  match vs with
  | []=>rfl
  | [v]=>rfl
  |v::u::l=>simp
 refine ⟨_,_,_,ρ',Z,Y,hres,⟨rfl,rfl⟩,k1,k2 _ _ _ hr ?_⟩
 match xs,vs,q2 with
 | [],[],_=>exact .tup (us:=[]) rfl (fun j x u hj=>by simp at hj)
 | [x],[v],h2=>exact h2.at_ 0 x v rfl rfl
 |x::y::l,v::u::m,h2=>exact .tup h2.len h2.at_
 | [],_::_,h2=>have:=h2.len;simp at this
 | [_],[],h2=>have:=h2.len;simp at this
 | [_],_::_::_,h2=>have:=h2.len;simp at this
 |_::_::_,[],h2=>have:=h2.len;simp at this
 |_::_::_,[_],h2=>have:=h2.len;simp at this
end
end Go.Proofs.YtccefppppedgkaaGreat
namespace Go.Proofs.YtccefppppedgkaaGreat
open Go.RowKit
theorem AnT {P : Program} {o : Oper} {ev : Operand → Value} {x : Operand} {f : FuncId} {fn : Func} (hf : P.funcs[f]? = some fn) (hn : (fn.name == "runtime.NumGoroutine") = false) (hb : fn.body.isNone = false) {args : Array Operand} {tys : Array TypeId}
  (ho:o.op = .call { callee:=.value x,args:=args,argTypes:=tys }) {fi cap:Array Value} (hx:ev x = .func (.func f) fi cap) (vs:List Value) (hv:args.toList.map ev=vs) (w:World):(execOp ev o).run P w = .ok (.enter f (fi.toList++vs++cap.toList).toArray) w:=by
 have e:Array.map ev args=vs.toArray:=by rw [←hv];apply kU.1;simp
 have e2:fi++vs.toArray++cap=(fi.toList++vs++cap.toList).toArray:=by apply kU.1;simp
 unfold execOp
 simp only [ho,resolve,hx,Deferred.ofValue,Sem.run_bind,Sem.run_pure,Result.andThen_ok,invoke,callFunc]
 have hn' : ¬ fn.name = "runtime.NumGoroutine" := by simpa using hn
 have hb' : ¬fn.body=none:=fun h=>by rw [h] at hb;simp at hb
 simp [hf,hn',hb',Sem.run,e]
def CV (P:Program) (g:AV) (ys:List AV) (r:AV) (L:List Ob):Prop :=
 ∃ f fn fi cap, g = .fn (.func f) fi cap ∧ P.funcs[f]? = some fn ∧ (fn.name == "runtime.NumGoroutine") = false ∧ fn.body.isNone = false ∧ (∀ heap, CJ heap [] fi fi) ∧ (∀ heap, CJ heap [] cap cap) ∧ Cd P f (fi ++ ys ++ cap) r L
theorem CJ.append {heap:List Ob} {sel:List Nat} {a a' b b':List AV} (h:CJ heap sel a a') (k:CJ heap sel b b'):CJ heap sel (a++b) (a'++b'):=by
 induction h with
 |nil=>exact k
 |cons h _ ih=>exact .cons h ih
section
variable {P:Program} {ops:Array Oper} {Q:QS} {rest:List Oper} {o:Oper} {n:Fr} {T:Nat→AV} {heap:List Ob} {d:Nat}
theorem p7_ (hw:AD n T ops o=true) (hd:o.dst=some d) {x:Operand} {args:Array Operand} {tys:Array TypeId} (ho:o.op = .call { callee:=.value x,args:=args,argTypes:=tys }) {g:AV} (hx:evA n T x=g) {ys:List AV} {r:AV} {L:List Ob} (hc:CV P g ys r L)
  (hp:CJ heap [] (args.toList.map (evA n T)) ys) {N:Nat} (hN:heap.length=N) {r':AV} (hr:upA (BC N) r=r') {L':List Ob} (hL:L.map (upO (BC N))=L') {heap':List Ob} (hh:heap++L'=heap') (k:AL P ops Q rest n (pu T d r') heap'):AL P ops Q (o::rest) n T heap:=by
 subst hr hL
 obtain ⟨f,fn,fi,cap,rfl,hf,hn,hb,p1,p2,hc⟩:=hc
 rintro e a w ⟨ρ,Z,Y,hR⟩
 have hrep:=hR.ok.rep
 have hall:=((p1 heap).append hp).append (p2 heap)
 obtain ⟨hl,hg⟩:=hall.get
 have hv:=hR.eval x
 rw [hx] at hv
 obtain ⟨us,vs,hxv,a1,a2,b1,b2⟩ : ∃us vs:List Value,a.eval x = .func (.func f) us.toArray vs.toArray∧fi.length=us.length∧cap.length=vs.length∧(∀(j:Nat) x u,fi[j]? = some x→us[j]? = some u→Val (Kn heap) ρ w Z Y x u)∧(∀(j:Nat) x u,cap[j]? = some x→vs[j]? = some u→Val (Kn heap) ρ w Z Y x u):=by
  generalize a.eval x=v at hv
  cases hv with
  |fn h1 h2 hu hv=>exact ⟨_,_,rfl,h1,h2,hu,hv⟩
 refine IF (hR.wanted hw) fun K hK=>?_
 unfold Oper.wp
 rw [AnT hf hn hb ho hxv (args.toList.map a.eval) rfl w]
 have key:AVs (Val (Kn heap) ρ w Z Y) (fi++args.toList.map (evA n T)++cap) (us++args.toList.map a.eval++vs):=by
  refine ⟨by simp [a1,a2],fun j y u hj hu=>?_⟩
  by_cases c1:j<(us++args.toList.map a.eval).length
  ·rw [gH (by simpa [a1] using c1)] at hj
   rw [gH c1] at hu
   by_cases c2:j<us.length
   ·rw [gH (by omega)] at hj
    rw [gH c2] at hu
    exact b1 j y u hj hu
   ·rw [gD (by omega),a1,gP] at hj
    rw [gD (by omega),gP] at hu
    cases hq:args.toList[j-us.length]? with
    |none=>rw [hq] at hu;cases hu
    |some q=>rw [hq] at hu hj;cases hu;cases hj;exact hR.eval q
  ·rw [gD (by simpa [a1] using c1)] at hj
   rw [gD (by omega)] at hu
   refine b2 _ y u hj ?_
   rw [←hu];congr 1;simp [a1]
 refine Calls.mono (hc (QO w ρ Z) _ rfl (PP hrep) (fun i o b h=>by simp at h) ⟨by have:=key.len;simp at hl this ⊢;omega,fun j y u hj hu=>?_⟩) ?_
 ·have hlt:=get_lt hj
  rw [←hl] at hlt
  exact PQ hrep (hg j _ y (ZgE hlt) hj) (key.at_ j _ u (ZgE hlt) eW)
 ·rintro en w' ⟨v,r,L1,ρ1,Z1,Y1,rfl,⟨rfl,rfl⟩,hok,hv⟩
  obtain ⟨ρ',k1,k2,k3⟩:=Ok.back (heap:=heap) hR.ok (e1:=QO w ρ Z) rfl (fun b=>Iff.rfl) rfl hok (.push hN hh)
  refine hK _ _ (k e _ _ ⟨ρ',Z1,fun b=>Y b∨Z1 b,?_⟩)
  rw [hd]
  exact (hR.move k1 k2).put d (k3 _ v hv)
end
end Go.Proofs.YtccefppppedgkaaGreat
namespace Go.Proofs.YtccefppppedgkaaGreat
open Go.RowKit
theorem fdiv_lit {a b m:Int} {n:Nat} (h:(2:Int)^(min b.toNat n)=m) (hm:0≤m):a.fdiv ((2:Int)^(min b.toNat n))=a/m:=by rw [h];exact Int.fdiv_eq_ediv_of_nonneg _ hm
theorem shl_lit {a b m:Int} {n:Nat} {k:IntKind} (h:(2:Int)^(min b.toNat n)=m) (hw:k.wrap (a*m)=a*m):k.wrap (a*(2:Int)^(min b.toNat n))=a*m:=by rw [h];exact hw
end Go.Proofs.YtccefppppedgkaaGreat
namespace Go.Proofs.YtccefppppedgkaaGreat
open Go.RowKit
section
variable {P:Program} {ops:Array Oper} {Q:QS} {rest:List Oper} {o:Oper} {n:Fr} {T:Nat→AV} {heap:List Ob} {d:Nat}
theorem A_append_nlsub (hw:AD n T ops o=true) (hd:o.dst=some d) (s x:Operand) (t:TypeId) (ho:o.op = .call { callee:=.builtin .append,args := #[s,x],argTypes := #[t,t]})
  {e:TypeId} (ht:P.underlying t=some (.slice e)) {z:Value} {size bytes:Nat} (hI:(P.info? e).map (fun i=>(i.zero,i.size,i.bytes))=some (some z,size,bytes)) (hzs:z.cells.size=size)
  (hs:evA n T s = .nl) {i k off m:Nat} {E:TypeId} {els:List (List Tr)} (hx:evA n T x = .sub i k off m) (hi:heap[i]? = some (.row k E size els)) (hm:off+m=els.length) (b1:m≤maxLen) (b2:m*bytes≤140737488355328) {els':List (List Tr)} (he:els.drop off=els')
  {heap':List Ob} {N:Nat} (hat:AtL heap N [.row 0 e size els'] heap') (k':AL P ops Q rest n (pu T d (.sl N 0 m)) heap'):AL P ops Q (o::rest) n T heap:=by
 subst he
 have hr:Rd heap size (evA n T x) ((els.drop off).take m):=by rw [hx];exact .sub hi (by omega)
 have e1:(els.drop off).take m=els.drop off:=jE (by rw [gJ];omega)
 rw [e1] at hr
 have e2:(els.drop off).length=m:=by rw [gJ];omega
 exact BD hw hd s x t ho ht hI hzs hs hr (by rw [e2];exact b1) (by rw [e2];exact b2) rfl hat e2 k'
end
end Go.Proofs.YtccefppppedgkaaGreat
namespace Go.Proofs.YtccefppppedgkaaGreat
open Go.RowKit
def UU:List Nat→Nat→Option Nat
 | [],_=>none
 |a::K,i=>bif Nat.beq a i then some 0 else (UU K i).map (· + 1)
theorem VQ : ∀ {K:List Nat} {i j:Nat},UU K i=some j→K[j]? = some i
 | [],i,j,h=>by cases h
 | a::K,i,j,h=>by
  unfold UU at h
  cases hb:Nat.beq a i with
  |true=>rw [hb] at h;cases h;rw [jB hb];rfl
  |false =>
   rw [hb] at h
   simp only [jX,Option.map_eq_some_iff] at h
   obtain ⟨k,hk,rfl⟩:=h
   exact (jG).trans (VQ (K:=K) hk)
section
variable {P:Program} {Q:QS} {n:Fr} {T:Nat→AV} {heap:List Ob} {d:Nat}
theorem Wk.cut3 {T':Nat→AV} {heap':List Ob} (K:List Nat) (hn:K.Nodup) (hlt:K.all (fun i=>Nat.blt i heap.length)=true) (hb:(List.range n.h).all (fun i=>K[i]? == some i)=true) (hh:(K.map fun i=>upP (UU K) (heap.getD i .hole))=heap') (hT:Fk (UU K) T T'):Wk n T heap T' heap':=by
 subst hh
 rintro e a w ⟨ρ,Z,Y,hR⟩
 have hlen:(K.map fun i=>upP (UU K) (heap.getD i .hole)).length=K.length:=by simp
 have hK : ∀(j:Nat),j<K.length → ∃i,K[j]? = some i∧i<heap.length∧K.getD j 0=i:=fun j hj=>by
  refine ⟨K[j],ZgE hj,?_,?_⟩
  ·have:=iI.1 hlt K[j] (List.getElem_mem hj)
   exact ZbT this
  ·rw [fQ,ZgE hj];rfl
 obtain ⟨ρ',k1,k2⟩:=Ok.sel2 (heap:=heap) hR.ok (heap':=K.map fun i=>upP (UU K) (heap.getD i .hole)) (fun j=>K.getD j 0) (UU K) (fun i j hi hj h=>by
  rw [hlen] at hi hj
  obtain ⟨a1,ha,_,e1⟩:=hK i hi
  obtain ⟨b1,hb1,_,e2⟩:=hK j hj
  have h:K.getD i 0=K.getD j 0:=h
  rw [e1,e2] at h
  subst h
  exact (List.getElem?_inj hi hn).1 (ha.trans hb1.symm)) (fun j o' hj=>by
  rw [gP] at hj
  cases hx:K[j]? with
  |none=>rw [hx] at hj;cases hj
  |some i =>
   rw [hx] at hj;cases hj
   obtain ⟨i',h1,h2,h3⟩:=hK j (get_lt hx)
   rw [hx] at h1;cases h1
   exact ⟨heap.getD i .hole,by rw [h3,fQ,ZgE h2];rfl,rfl⟩) (fun i j hi hj=>by
  have h1:=VQ hj
  obtain ⟨i',h2,_,h3⟩:=hK j (get_lt h1)
  rw [h1] at h2;cases h2
  exact ⟨h3,by rw [hlen];exact get_lt h1⟩) (fun i h1 h2=>by
  have h3:e.H.length≤n.h:=hR.hl
  have h4:=iI.1 hb i (kN.2 (by omega))
  have h5:K[i]? = some i:=by simpa using h4
  obtain ⟨i',h6,_,h7⟩:=hK i (get_lt h5)
  rw [h5] at h6;cases h6
  exact ⟨by rw [hlen];exact get_lt h5,h7⟩)
 refine ⟨ρ',Z,Y,k1,hR.defers,hR.n,hR.hl,fun t v ht=>?_⟩
 rcases hT t with h|h
 ·show Val _ _ _ _ _ (T' t) _
  rw [h];exact .any _
 ·show Val _ _ _ _ _ (T' t) _
  rw [h];exact k2 _ _ (hR.at_ t v ht)
end
theorem Wk.freezeB {n:Fr} {T:Nat→AV} {heap:List Ob} (i:Nat) {k:Nat} {E:TypeId} {s:Nat} {els:List (List Tr)} (hi:heap[i]? = some (.row k E s els)) (j:Nat) {t:TypeId} {cs cs':List AV} (hj:heap[j]? = some (.box t cs)) (hr:FzL i k els cs cs') {heap':List Ob} (hh:(heap.set i (.gone k)).set j (.box t cs')=heap'):Wk n T heap T heap':=by
 subst hh
 rintro e a w ⟨ρ,Z,Y,hR⟩
 have hrep:=hR.ok.rep
 obtain ⟨h1,xs,h2,h3,h4⟩:=hrep.row hi
 have hz : ∀b,Z b→(Z b∨(Ob.row k E s els).blk ρ i=some b)∧w.heap[b]? = w.heap[b]? := fun b hb=>⟨.inl hb,rfl⟩
 have hy : ∀b,Y b→(Y b∨(Ob.row k E s els).blk ρ i=some b)∧w.heap[b]? = w.heap[b]? := fun b hb=>⟨.inl hb,rfl⟩
 have hm : ∀x v,Val (Kn heap) ρ w Z Y x v→Val (Kn (heap.set i (.gone k))) ρ w (fun b=>Z b∨(Ob.row k E s els).blk ρ i=some b) (fun b=>Y b∨(Ob.row k E s els).blk ρ i=some b) x v:=fun x v hv =>
  hv.mono (fun j q hj=>⟨hj.set hi (fV _),rfl⟩) hz hy
 have hok:Ok e (heap.set i (.gone k)) w ρ (fun b=>Z b∨(Ob.row k E s els).blk ρ i=some b) (fun b=>Y b∨(Ob.row k E s els).blk ρ i=some b):=by
  refine hR.ok.mono (hrep.freeze hi) (fun j q hj=>⟨hj.set hi (fV _),rfl⟩) ⟨rfl,rfl,rfl⟩ (fV _) (fun j p b hj hp=>?_) (fun b hb=>.inl hb) (fun b hb=>.inl hb) (fun b hb=>hb.elim .inl fun hb=>.inr (hR.ok.dom i _ b hi hb)) (fun _ _ _=>rfl)
  rw [gY] at hj
  split at hj
  ·split at hj<;>cases hj
   cases hp
  ·exact hR.ok.dom j p b hj hp
 have hblk:xs≠[]→Z (adr (ρ i k).a).block∨(Ob.row k E s els).blk ρ i=some (adr (ρ i k).a).block:=fun hne=>.inr (by
  rcases h3 with ⟨_,_,e⟩|⟨hc,hh⟩
  ·exact absurd e hne
  ·simp only [Ob.blk]
   rw [fT (by omega)]
   cases ha:(ρ i k).a with
   |some b=>rfl
   |none =>
    rw [ha] at hh
    rcases hh.2 with ⟨e,_⟩|⟨g,cap,cur,e,_⟩
    ·simp only [Value.slice.injEq] at e;omega
    ·simp at e)
 have hfz : ∀m,m≤els.length→Frz w (fun b=>Z b∨(Ob.row k E s els).blk ρ i=some b) (.lst (els.take m)) (.slice (ρ i k).a m (ρ i k).c):=fun m hm =>
  SL h4 (h2.mono fun _ _ h=>Frz.mono hz h) hblk hm
 have hgz : ∀(off m:Nat) (a:Option Addr) (c:Nat),m≤c→c≤maxLen→(a = .none→m=0∧c=0)→(m≠0→a=some ((adr (ρ i k).a).add (off*(ρ i k).s)))→off+m≤els.length→Frz w (fun b=>Z b∨(Ob.row k E s els).blk ρ i=some b) (.lst ((els.drop off).take m)) (.slice a m c):=by
  intro off m a c hn' hmx h0 ha hle
  have e:((els.drop off).take m).length=m:=by rw [fY,gJ];omega
  have hm0 : ∀ {q:List Value},q=(xs.drop (off*s)).take (m*s)→q≠[]→m≠0:=fun e1 hne e2=>hne (by rw [e1,e2];simp)
  have hE:=(((h2.mono fun _ _ h=>Frz.mono hz h).drop off).take m)
  refine .shut (xs:=(xs.drop (off*s)).take (m*s)) (size:=s) e ⟨hn',hmx,h0,?_,fun j u hj=>?_⟩ (fun hne=>?_) hE
  ·have:=hE.len
   rw [e] at this;exact this
  ·have hne:=hm0 rfl (fun e=>by rw [e] at hj;simp at hj)
   rw [gN] at hj
   split at hj
   ·rw [ha hne,gK] at *
    show w.cell? (Addr.add ((adr (ρ i k).a).add _) j)=_
    rw [add_add,h1]
    exact h4.cells _ u hj
   ·cases hj
  ·have hne':=hm0 rfl hne
   rw [ha hne']
   show Z (Addr.add _ _).block∨_=some (Addr.add _ _).block
   rw [DL]
   exact hblk (fun e=>by rw [e] at hne;simp at hne)
 have hij:i≠j:=fun e=>by subst e;rw [hi] at hj;cases hj
 have hj1:(heap.set i (.gone k))[j]? = some (.box t cs):=by rw [gY,fT hij];exact hj
 have h5:=hR.move hok hm
 obtain ⟨b,us,q1,q2,q3,q4⟩:=h5.ok.rep.obs j _ hj1
 obtain ⟨r1,r2⟩:=hr.get
 have hm2 : ∀x v,Val (Kn (heap.set i (.gone k))) ρ w (fun b=>Z b∨(Ob.row k E s els).blk ρ i=some b) (fun b=>Y b∨(Ob.row k E s els).blk ρ i=some b) x v→Val (Kn ((heap.set i (.gone k)).set j (.box t cs'))) ρ w (fun b=>Z b∨(Ob.row k E s els).blk ρ i=some b) (fun b=>Y b∨(Ob.row k E s els).blk ρ i=some b) x v:=fun x v hv =>
  hv.mono (fun j' q hj'=>⟨hj'.set hj1 (by exact fV _),rfl⟩) (fun b hb=>⟨hb,rfl⟩) (fun b hb=>⟨hb,rfl⟩)
 refine ⟨ρ,_,_,h5.ok.turn hj1 (fV _) (fun _ _ _=>rfl) ⟨rfl,rfl,rfl⟩ (fV _) (fun _ _ _=>rfl) ⟨b,us,q1,q2,⟨by rw [←r1];exact q3.len,fun q x u hq hu=>?_⟩,q4⟩ (fun b' hb'=>.inl hb'),h5.defers,h5.n,h5.hl,fun t v ht=>hm2 _ _ (h5.at_ t v ht)⟩
 have hlt:=get_lt hq
 rw [←r1] at hlt
 exact hm2 _ _ (FzR.val hfz hgz (r2 q _ x (ZgE hlt) hq) (q3.at_ q _ u (ZgE hlt) hu))
theorem Wk.cq3 {n:Fr} {T T':Nat→AV} {heap heap':List Ob} (K:List Nat) (hn:K.Nodup:=by first|decide|fail) (hlt:K.all (fun i=>Nat.blt i heap.length)=true:=by first|rfl|fail) (hb:(List.range n.h).all (fun i=>K[i]? == some i)=true:=by first|rfl|fail) (hh:(K.map fun i=>upP (UU K) (heap.getD i .hole))=heap':=by first|exact rfl|fail) (hT:Fk (UU K) T T':=by ((repeat' (first|exact Fk.nil|refine Fk.pu ?_ ?_|rfl|exact hup));(first|done|fail))):Wk n T heap T' heap':=Wk.cut3 K hn hlt hb hh hT
end Go.Proofs.YtccefppppedgkaaGreat
namespace Go.Proofs.YtccefppppedgkaaGreat
open Go.RowKit
inductive NzR:AV→AV→Prop
 |nlt:NzR .nl (.t (.lst []))
 |same (x:AV):NzR x x
 |agg {l l':List AV} (h1:l.length=l'.length) (h : ∀(j:Nat) x y,l[j]? = some x→l'[j]? = some y→NzR x y):NzR (.agg l) (.agg l')
inductive NzL:List AV→List AV→Prop
 |nil:NzL [] []
 |cons {x y:AV} {l l':List AV} (h:NzR x y) (g:NzL l l'):NzL (x::l) (y::l')
theorem NzL.get {l l':List AV} (h:NzL l l'):l.length=l'.length ∧ ∀(j:Nat) x y,l[j]? = some x→l'[j]? = some y→NzR x y:=by
 induction h with
 |nil=>exact ⟨rfl,fun j x y h=>by simp at h⟩
 |cons h k ih =>
  refine ⟨by simp [ih.1],fun j x y hj hy=>?_⟩
  cases j with
  |zero=>simp at hj hy;subst hj hy;exact h
  |succ j=>exact ih.2 j x y cU (by simpa using hy)
theorem NzR.aggL {l l':List AV} (h:NzL l l'):NzR (.agg l) (.agg l'):=.agg h.get.1 h.get.2
theorem NzR.val {Kn:Nat→Nat→Prop} {ρ:Rho} {w:World} {Z Y:Nat→Prop} {x y:AV} (h:NzR x y) : ∀ {v:Value},Val Kn ρ w Z Y x v→Val Kn ρ w Z Y y v:=by
 induction h with
 |nlt =>
  intro v hv
  cases hv with
  |nl sa=>exact .t (.lst (size:=0) (xs:=[]) ⟨fV _,fX _,fun _=>⟨rfl,rfl⟩,by simp,fun j u hj=>by simp at hj⟩ (fun h=>absurd rfl h) rfl (fun _ h=>by simp at h) (fun i cs j x u hi=>by simp at hi))
 |same x=>intro v hv;exact hv
 | agg h1 h ih =>
  intro v hv
  cases hv with
  |agg e1 ho hu =>
   refine .agg (by rw [←h1];exact e1) ho (fun j y u hj hu'=>?_)
   have hlt:=get_lt hj
   rw [←h1] at hlt
   exact ih j _ y (ZgE hlt) hj (hu j _ u (ZgE hlt) hu')
theorem Wk.nz {n:Fr} {T:Nat→AV} {heap:List Ob} (d:Nat) {x y:AV} (hd:evA n T (.tmp d)=x) (hr:NzR x y):Wk n T heap (pu T d y) heap:=by
 subst hd
 rintro e a w ⟨ρ,Z,Y,hR⟩
 have hv:=hR.eval (.tmp d)
 have h6:=NzR.val hr hv
 refine ⟨ρ,_,_,hR.ok,hR.defers,hR.n,hR.hl,fun t v ht=>?_⟩
 by_cases c:t=d
 ·subst c
  show Val _ _ _ _ _ (pu T t y t) v
  simp only [pu,kX,kC]
  simp only [Act.eval,iY,ht,jK] at h6
  exact h6
 ·show Val _ _ _ _ _ (pu T d y t) v
  have h1:Nat.beq t d=false:=by
   cases hb:Nat.beq t d
   ·rfl
   ·exact absurd (jB hb) c
  simp only [pu,h1,jX]
  exact hR.at_ t v ht
end Go.Proofs.YtccefppppedgkaaGreat
namespace Go.Proofs.YtccefppppedgkaaGreat
open Go.RowKit
variable {s:Nat}
theorem Ok.frz {e:Env} {heap:List Ob} {w:World} {ρ:Rho} {Z Y:Nat→Prop} (ok:Ok e heap w ρ Z Y) {i k:Nat} {E:TypeId} {els:List (List Tr)} (hi:heap[i]? = some (.row k E s els)) :
  ∃Z' Y',Ok e (heap.set i (.gone k)) w ρ Z' Y'∧(∀x v,Val (Kn heap) ρ w Z Y x v→Val (Kn (heap.set i (.gone k))) ρ w Z' Y' x v) ∧ ∀x y,FzR i k els x y → ∀v,Val (Kn heap) ρ w Z Y x v→Val (Kn (heap.set i (.gone k))) ρ w Z' Y' y v:=by
 have hrep:=ok.rep
 obtain ⟨h1,xs,h2,h3,h4⟩:=hrep.row hi
 have hz : ∀b,Z b→(Z b∨(Ob.row k E s els).blk ρ i=some b)∧w.heap[b]? = w.heap[b]? := fun b hb=>⟨.inl hb,rfl⟩
 have hy : ∀b,Y b→(Y b∨(Ob.row k E s els).blk ρ i=some b)∧w.heap[b]? = w.heap[b]? := fun b hb=>⟨.inl hb,rfl⟩
 have hm : ∀x v,Val (Kn heap) ρ w Z Y x v→Val (Kn (heap.set i (.gone k))) ρ w (fun b=>Z b∨(Ob.row k E s els).blk ρ i=some b) (fun b=>Y b∨(Ob.row k E s els).blk ρ i=some b) x v:=fun x v hv =>
  hv.mono (fun j q hj=>⟨hj.set hi (fV _),rfl⟩) hz hy
 have hok:Ok e (heap.set i (.gone k)) w ρ (fun b=>Z b∨(Ob.row k E s els).blk ρ i=some b) (fun b=>Y b∨(Ob.row k E s els).blk ρ i=some b):=by
  refine ok.mono (hrep.freeze hi) (fun j q hj=>⟨hj.set hi (fV _),rfl⟩) ⟨rfl,rfl,rfl⟩ (fV _) (fun j p b hj hp=>?_) (fun b hb=>.inl hb) (fun b hb=>.inl hb) (fun b hb=>hb.elim .inl fun hb=>.inr (ok.dom i _ b hi hb)) (fun _ _ _=>rfl)
  rw [gY] at hj
  split at hj
  ·split at hj<;>cases hj
   cases hp
  ·exact ok.dom j p b hj hp
 have hblk:xs≠[]→Z (adr (ρ i k).a).block∨(Ob.row k E s els).blk ρ i=some (adr (ρ i k).a).block:=fun hne=>.inr (by
  rcases h3 with ⟨_,_,e⟩|⟨hc,hh⟩
  ·exact absurd e hne
  ·simp only [Ob.blk]
   rw [fT (by omega)]
   cases ha:(ρ i k).a with
   |some b=>rfl
   |none =>
    rw [ha] at hh
    rcases hh.2 with ⟨e,_⟩|⟨g,cap,cur,e,_⟩
    ·simp only [Value.slice.injEq] at e;omega
    ·simp at e)
 have hfz : ∀m,m≤els.length→Frz w (fun b=>Z b∨(Ob.row k E s els).blk ρ i=some b) (.lst (els.take m)) (.slice (ρ i k).a m (ρ i k).c):=fun m hm =>
  SL h4 (h2.mono fun _ _ h=>Frz.mono hz h) hblk hm
 have hgz : ∀(off m:Nat) (a:Option Addr) (c:Nat),m≤c→c≤maxLen→(a = .none→m=0∧c=0)→(m≠0→a=some ((adr (ρ i k).a).add (off*(ρ i k).s)))→off+m≤els.length→Frz w (fun b=>Z b∨(Ob.row k E s els).blk ρ i=some b) (.lst ((els.drop off).take m)) (.slice a m c):=by
  intro off m a c hn' hmx h0 ha hle
  have e:((els.drop off).take m).length=m:=by rw [fY,gJ];omega
  have hm0 : ∀ {q:List Value},q=(xs.drop (off*s)).take (m*s)→q≠[]→m≠0:=fun e1 hne e2=>hne (by rw [e1,e2];simp)
  have hE:=(((h2.mono fun _ _ h=>Frz.mono hz h).drop off).take m)
  refine .shut (xs:=(xs.drop (off*s)).take (m*s)) (size:=s) e ⟨hn',hmx,h0,?_,fun j u hj=>?_⟩ (fun hne=>?_) hE
  ·have:=hE.len
   rw [e] at this;exact this
  ·have hne:=hm0 rfl (fun e=>by rw [e] at hj;simp at hj)
   rw [gN] at hj
   split at hj
   ·rw [ha hne,gK] at *
    show w.cell? (Addr.add ((adr (ρ i k).a).add _) j)=_
    rw [add_add,h1]
    exact h4.cells _ u hj
   ·cases hj
  ·have hne':=hm0 rfl hne
   rw [ha hne']
   show Z (Addr.add _ _).block∨_=some (Addr.add _ _).block
   rw [DL]
   exact hblk (fun e=>by rw [e] at hne;simp at hne)
 exact ⟨_,_,hok,hm,fun x y hr v hv=>FzR.val hfz hgz hr (hm _ _ hv)⟩
theorem Val.tup_map {Kn Kn':Nat→Nat→Prop} {ρ ρ':Rho} {w:World} {Z Y Z' Y':Nat→Prop} {l l':List AV} {v:Value} (hl:l.length=l'.length) (h : ∀(j:Nat) x y,l[j]? = some x→l'[j]? = some y → ∀u,Val Kn ρ w Z Y x u→Val Kn' ρ' w Z' Y' y u) (hv:Val Kn ρ w Z Y (.tup l) v):Val Kn' ρ' w Z' Y' (.tup l') v:=by
 cases hv with
 |tup e1 hu =>
  refine .tup (by rw [←hl];exact e1) (fun j y u hj hu'=>?_)
  have hlt:=get_lt hj
  rw [←hl] at hlt
  exact h j _ y (ZgE hlt) hj u (hu j _ u (ZgE hlt) hu')
variable {args:List AV}
theorem C.mono' {P:Program} {f:FuncId} {H:List Ob} {R R':AV→List Ob→Prop} (h:C P f args H R)
  (k : ∀(e:Env) (w:World) (ρ:Rho) (Z Y:Nat→Prop) r heap,e.H=H→R r heap→Ok e heap w ρ Z Y → ∃r' heap' ρ' Z' Y',R' r' heap'∧Ok e heap' w ρ' Z' Y' ∧ ∀v,Val (Kn heap) ρ w Z Y r v→Val (Kn heap') ρ' w Z' Y' r' v):C P f args H R':=fun e vs h1 h2 h3 h4=>by
 refine (h e vs h1 h2 h3 h4).mono fun en w' hq=>?_
 obtain ⟨v,r,heap,ρ,Z,Y,he,hr,ho,hv⟩:=hq
 obtain ⟨r',heap',ρ',Z',Y',k1,k2,k3⟩:=k e w' ρ Z Y r heap h1 hr ho
 exact ⟨v,r',heap',ρ',Z',Y',he,k1,k2,k3 v hv⟩
variable {k:Nat}
theorem Cd.frz {P:Program} {f:FuncId} {l l':List AV} {L:List Ob} (h:Cd P f args (.tup l) L) (i:Nat) {E:TypeId} {els:List (List Tr)} (hi:L[i]? = some (.row k E s els)) (hr:FzL i k els l l') {L':List Ob} (hL:L.set i (.gone k)=L'):Cd P f args (.tup l') L':=by
 subst hL
 refine C.mono' h fun e w ρ Z Y r heap _ hR ok=>?_
 obtain ⟨rfl,rfl⟩:=hR
 obtain ⟨Z',Y',k1,_,k3⟩:=ok.frz hi
 exact ⟨_,_,ρ,Z',Y',⟨rfl,rfl⟩,k1,fun v hv=>Val.tup_map hr.get.1 (fun j x y hx hy u hu=>k3 x y (hr.get.2 j x y hx hy) u hu) hv⟩
theorem Cd.frz1 {P:Program} {f:FuncId} {r r':AV} {L:List Ob} (h:Cd P f args r L) (i:Nat) {E:TypeId} {els:List (List Tr)} (hi:L[i]? = some (.row k E s els)) (hr:FzR i k els r r') {L':List Ob} (hL:L.set i (.gone k)=L'):Cd P f args r' L':=by
 subst hL
 refine C.mono' h fun e w ρ Z Y r heap _ hR ok=>?_
 obtain ⟨rfl,rfl⟩:=hR
 obtain ⟨Z',Y',k1,_,k3⟩:=ok.frz hi
 exact ⟨_,_,ρ,Z',Y',⟨rfl,rfl⟩,k1,fun v hv=>k3 _ _ hr v hv⟩
theorem Cd.drop {P:Program} {f:FuncId} {r r':AV} {L:List Ob} (h:Cd P f args r L) (hr:upA (fun _=>none) r=r'):Cd P f args r' []:=by
 subst hr
 refine C.mono' h fun e w ρ Z Y r heap hH hR ok=>?_
 obtain ⟨rfl,rfl⟩:=hR
 obtain ⟨ρ',k1,k2⟩:=ok.sel (heap':=[]) (fun i=>i) (fun _=>none) (fun i j hi=>by simp at hi) (fun j o' hj=>by simp at hj) (fun i j _ hj=>by cases hj) (fun i hi=>by rw [hH] at hi;simp at hi)
 exact ⟨_,_,ρ',Z,Y,⟨rfl,rfl⟩,k1,fun v hv=>k2 _ v hv⟩
end Go.Proofs.YtccefppppedgkaaGreat
namespace Go.Proofs.YtccefppppedgkaaGreat
open Go.RowKit
section
variable {P:Program} {n:Fr} {T:Nat→AV} {heap:List Ob}
theorem Wk.ownB (i j:Nat) {t:TypeId} {cs:List AV} (hi:heap[i]? = some (.box t cs)) (hj:cs[j]? = some .nl) (E:TypeId) (size:Nat) {heap1 heap':List Ob} {N:Nat} (hat:AtL heap N [.row 0 E size []] heap1) (hh:heap1.set i (.box t (cs.set j (.sl N 0 0)))=heap'):Wk n T heap T heap':=by
 subst hh
 rintro en a w ⟨ρ,Z,Y,hR⟩
 obtain ⟨b,us,q1,q2,q3,q4⟩:=hR.ok.rep.obs i _ hi
 have hl:=get_lt hj
 rw [q3.len] at hl
 have hv:=q3.at_ j .nl _ hj (ZgE hl)
 obtain ⟨sa,hsa⟩ : ∃sa,us[j] = .slice sa 0 0:=by
  generalize us[j]=v at hv
  cases hv with
  |nl sa=>exact ⟨sa,rfl⟩
 obtain ⟨ρ',k1,k2,k3,k4⟩:=hR.ok.push1 (o:=.row 0 E size []) hat (w':=w) (pl:=⟨sa,0,size⟩) ⟨rfl,rfl,rfl⟩ (fV _) (fun _ _=>rfl)
  (fun ρ' hN hρ=>⟨by rw [hN],[],.nil,by rw [hN];exact .inl ⟨rfl,rfl,rfl⟩⟩) (fun b _ hb=>by simp [Ob.blk] at hb)
 have hi1:heap1[i]? = some (.box t cs):=(hat.old hi (by simp [Ob.lim])).1
 have hp:=k2 _ _ (Val.ptr (Kn:=Kn heap) (ρ:=ρ) (w:=w) (Z:=Z) (Y:=Y) (i:=i) (off:=0) (b:=b) ⟨_,hi,by simp [Ob.lim]⟩ q1)
 have ha:(ρ' i 0).a=some ⟨b,0,none⟩:=by
  cases hp with
  |ptr _ ha=>exact ha
 have hm : ∀x v,Val (Kn heap1) ρ' w Z Y x v→Val (Kn (heap1.set i (.box t (cs.set j (.sl N 0 0))))) ρ' w Z Y x v:=fun x v hv =>
  hv.mono (fun j k hj=>⟨hj.set hi1 (by exact fV _),rfl⟩) (fun b hb=>⟨hb,rfl⟩) (fun b hb=>⟨hb,rfl⟩)
 refine ⟨ρ',Z,Y,k1.turn hi1 (fV _) (fun _ _ _=>rfl) ⟨rfl,rfl,rfl⟩ (fV _) (fun _ _ _=>rfl) ⟨b,us,ha,q2,⟨by rw [iS];exact q3.len,fun q x u hq hu=>?_⟩,q4⟩ (fun b' hb'=>.inl hb'),hR.defers,hR.n,hR.hl,fun t v ht=>hm _ _ (k2 _ _ (hR.at_ t v ht))⟩
 rw [gY] at hq
 by_cases e:j=q
 ·subst e
  rw [fR rfl,fR (get_lt hj)] at hq
  cases hq
  rw [ZgE hl,hsa] at hu
  cases hu
  refine hm _ _ ?_
  have:=Val.sl (Kn:=Kn heap1) (ρ:=ρ') (w:=w) (Z:=Z) (Y:=Y) (i:=N) (k:=0) (n:=0) ⟨_,hat.one,fV _⟩ (fX _) (by rw [k3];intro _;rfl)
  rw [k3] at this
  exact this
 ·rw [fT e] at hq
  exact hm _ _ (k2 _ _ (q3.at_ q x u hq hu))
end
end Go.Proofs.YtccefppppedgkaaGreat
namespace Go.Proofs.YtccefppppedgkaaGreat
open Go.RowKit
section
variable {P:Program} {ops:Array Oper} {rest:List Oper} {o:Oper} {n:Fr} {T:Nat→AV} {heap:List Ob} {d:Nat}
theorem CA (hw:AD n T ops o=true) (hd:o.dst=some d) {x:Operand} {args:Array Operand} {tys:Array TypeId} (ho:o.op = .call { callee:=.value x,args:=args,argTypes:=tys }) {g:AV} (hx:evA n T x=g) {ys:List AV} {r:AV} (hc:CV P g ys r [])
  {acc:List Nat} (ha:a7_ heap 3 (PY (args.toList.map (evA n T)))=acc) (hp : ∀h',(∀i,acc.contains i=true→h'[i]? = heap[i]?)→CJ h' [] (args.toList.map (evA n T)) ys) {N:Nat} (hN:heap.length=N) {r':AV} (hr:upA (BC N) r=r')
  {F:List Dl→(Nat→AV)→List Ob→Prop} {ac:List Dl} (k:RG P ops n F rest (ac++[⟨some d,r',[],acc⟩]) (pu T d r') heap):RG P ops n F (o::rest) ac T heap:=by
 subst hr hN
 have hlk : ∀x∈args.toList,x∈o.op.operands.toList:=fun x hx=>by rw [ho];simp only [Op.operands,Call.operands,lH];exact iR _ hx
 have hlx:x∈o.op.operands.toList:=by rw [ho];simp [Op.operands,Call.operands]
 refine RG.cons (D:=⟨some d,_,[],acc⟩) hd.symm (fun T' h' hT hH hl=>?_) rfl rfl k
 have hargs:args.toList.map (evA n T')=args.toList.map (evA n T):=jR fun x hx=>ev_eq hT (hlk x hx)
 refine p7_ aM hd ho (by rw [ev_eq hT hlx];exact hx) hc (by rw [hargs];exact hp h' fun i hi=>hH i eX) hl rfl rfl (iC _) (AL.nil ⟨rfl,rfl,rfl⟩)
end
end Go.Proofs.YtccefppppedgkaaGreat
namespace Go.Proofs.YtccefppppedgkaaGreat
open Go.RowKit
theorem qN {P:Prop} (h:P:=by (try simp only [jS,jI,iK,gW,gU,gZ,iC,gF,gI,iG,iL,gO,gX,kK,jM,gV,iT,Nat.reduceAdd,Nat.reduceSub]);rfl):P:=h
theorem qL {P:Prop} (h:P:=by (try simp only [gF,gI,gV,Nat.reduceAdd]);rfl):P:=h
theorem qS {P:Prop} (h:P:=by (try simp only [fN,gF,gI,gV,iT,Nat.reduceAdd]);rfl):P:=h
theorem qB {P:Prop} (h:P:=by (try simp only [fN,gF,gI,fP,maxLen]);omega):P:=h
theorem qR {P:Prop} (h:P:=by simp only [List.replicate_succ,List.replicate_zero,gZ,gU];rfl):P:=h
theorem qM {P:Prop} (h:P:=by simp only [gF,gI,gV,Nat.reduceAdd];rfl):P:=h
theorem wi {n:Int} (h : -9223372036854775808≤n∧n≤9223372036854775807:=by first|omega|fail):IntKind.i64.wrap n=n:=IntWalk.i64_in n h
theorem wu {n:Int} (h:0≤n∧n≤18446744073709551615:=by first|omega|fail):IntKind.u64.wrap n=n:=IntWalk.u64_in n h
section
variable {P:Program} {Q:QS} {n:Fr} {T:Nat→AV} {heap:List Ob}
theorem kct {c:Operand} {x y:Code} (hc:evA n T c = .t (.v (.bool true))) (k:AW P x Q n T heap):AW P (.cond c x y) Q n T heap:=AW.cond hc (fun _=>k) (fun h=>by cases h)
theorem kcf {c:Operand} {x y:Code} (hc:evA n T c = .t (.v (.bool false))) (k:AW P y Q n T heap):AW P (.cond c x y) Q n T heap:=AW.cond hc (fun h=>by cases h) (fun _=>k)
theorem kcp {c:Operand} {x y:Code} {p:Prop} {_:Decidable p} (hc:evA n T c = .t (.v (.bool (decide p)))) (ht:p→AW P x Q n T heap) (hf : ¬p→AW P y Q n T heap):AW P (.cond c x y) Q n T heap:=AW.cond hc (fun h=>ht (jO h)) (fun h=>hf (mV h))
theorem kcn {c:Operand} {x y:Code} {p:Prop} {_:Decidable p} (hc:evA n T c = .t (.v (.bool (!decide p)))) (ht : ¬p→AW P x Q n T heap) (hf:p→AW P y Q n T heap):AW P (.cond c x y) Q n T heap :=
 AW.cond hc (fun h=>ht (fun k=>by rw [fW k] at h;cases h)) (fun h=>hf (by
  by_cases k:p
  ·exact k
  ·rw [fZ k] at h;cases h))
theorem kcb {c:Operand} {x y:Code} {b:Bool} (hc:evA n T c = .t (.v (.bool (!b)))) (ht:b=false→AW P x Q n T heap) (hf:b=true→AW P y Q n T heap):AW P (.cond c x y) Q n T heap:=AW.cond hc (fun h=>ht fH) (fun h=>hf fH)
theorem kcc {c:Operand} {x y:Code} {b:Bool} (hc:evA n T c = .t (.v (.bool b))) (ht:b=true→AW P x Q n T heap) (hf:b=false→AW P y Q n T heap):AW P (.cond c x y) Q n T heap:=AW.cond hc ht hf
abbrev wk0 := @AW.seq
abbrev wk1 := @AW.block
abbrev wk2 := @AoK
abbrev wk3 := @AoL
abbrev wk4 := @AoJ
abbrev wk5 := @AdG
abbrev wk6 := @AdH
abbrev wk7 := @z2_
abbrev wk9 := @AuG
abbrev wka := @AuF
abbrev wkb := @AW.ret
abbrev wkc := @AW.exit
abbrev wkd := @AW.skip
theorem Fin.q {fn:Func} {r0:AV} {L0:List Ob} {rs:List ResultVar} (hrs:fn.results=rs.toArray) {xs:List AV} (hx:XG P n T heap rs xs) (K:List Nat) (hK:K.Nodup:=by first|decide|fail) (hK1:(K.all fun i=>Nat.ble n.h i)=true:=by first|exact rfl|fail)
  (h1:VH heap n.h K false (List.range n.h) (L0.take n.h):=by ((repeat' (first|exact .nil|refine .cons rfl ?_ ?_|refine .cons ?_ ?_|refine .row ?_|refine .rset ?_|refine .box ?_|exact .gone|refine .aggL ?_|refine .tupL ?_|refine .old rfl ?_|refine .new rfl rfl rfl ?_|exact .nl|exact .optr rfl|exact .nptr rfl rfl rfl|refine .t ?_|exact .any _|rfl));(first|done|fail))) (h2:VH heap n.h K true K (L0.drop n.h):=by ((repeat' (first|exact .nil|refine .cons rfl ?_ ?_|refine .cons ?_ ?_|refine .row ?_|refine .rset ?_|refine .box ?_|exact .gone|refine .aggL ?_|refine .tupL ?_|refine .old rfl ?_|refine .new rfl rfl rfl ?_|exact .nl|exact .optr rfl|exact .nptr rfl rfl rfl|refine .t ?_|exact .any _|rfl));(first|done|fail))) (hr:VR heap n.h K (AuE xs) r0:=by ((repeat' (first|exact .nil|refine .cons rfl ?_ ?_|refine .cons ?_ ?_|refine .row ?_|refine .rset ?_|refine .box ?_|exact .gone|refine .aggL ?_|refine .tupL ?_|refine .old rfl ?_|refine .new rfl rfl rfl ?_|exact .nl|exact .optr rfl|exact .nptr rfl rfl rfl|refine .t ?_|exact .any _|rfl));(first|done|fail))):Fin P fn (fun r L=>r=r0∧L=L0) n T heap:=Fin.mkv hrs hx K hK hK1 h1 h2 hr
theorem Wk.cq {T':Nat→AV} {heap':List Ob} (m:Nat) (hm:n.h≤m:=by first|exact (ZbT rfl)|fail) (hh:(heap.take m).map (upP (CM m))=heap':=by first|exact rfl|fail) (hT:Fk (CM m) T T':=by ((repeat' (first|exact Fk.nil|refine Fk.pu ?_ ?_|rfl|exact hup));(first|done|fail))):Wk n T heap T' heap':=Wk.cut2 m hm hh hT
end
section
variable {P:Program} {ops:Array Oper} {Q:QS} {rest:List Oper} {o:Oper} {n:Fr} {T:Nat→AV} {heap:List Ob} {d:Nat}
theorem BbW (hw:AD n T ops o=true) (hd:o.dst=some d) {x:Operand} (ho:o.op = .move x) {y:Tr} (hx:evA n T x = .t y) (k:AL P ops Q rest n (pu T d (.t y)) heap):AL P ops Q (o::rest) n T heap:=A_move hw hd x (.inl ho) hx k
theorem A_as (hw:AD n T ops o=true) (hd:o.dst=some d) {x:Operand} (ho:o.op = .assign x) {y:Tr} (hx:evA n T x = .t y) (k:AL P ops Q rest n (pu T d (.t y)) heap):AL P ops Q (o::rest) n T heap:=A_move hw hd x (.inr ho) hx k
theorem BbZ {F:List Dl→(Nat→AV)→List Ob→Prop} {acc:List Dl} (hw:AD n T ops o=true) (hd:o.dst=some d) {x:Operand} (ho:o.op = .move x) {y:Tr} (hx:evA n T x = .t y) (k:RG P ops n F rest (acc++[⟨some d,.t y,[],[]⟩]) (pu T d (.t y)) heap):RG P ops n F (o::rest) acc T heap:=BZ hw hd x (.inl ho) hx k
theorem BbY {F:List Dl→(Nat→AV)→List Ob→Prop} {acc:List Dl} (hw:AD n T ops o=true) (hd:o.dst=some d) {x:Operand} (ho:o.op = .assign x) {y:Tr} (hx:evA n T x = .t y) (k:RG P ops n F rest (acc++[⟨some d,.t y,[],[]⟩]) (pu T d (.t y)) heap):RG P ops n F (o::rest) acc T heap:=BZ hw hd x (.inr ho) hx k
theorem AjR (hw:AD n T ops o=true) (hd:o.dst=some d) {f:FuncId} {fn:Func} (hf:P.funcs[f]? = some fn) {args:Array Operand} {tys:Array TypeId}
  (ho:o.op = .call { callee:=.value (.func f),args:=args,argTypes:=tys }) {xs:List AV} {r:AV} {L:List Ob} (hc:Cd P f xs r L) {N:Nat} {r':AV} {L':List Ob} {heap':List Ob} (k:AL P ops Q rest n (pu T d r') heap')
  (hn : (fn.name == "runtime.NumGoroutine") = false := by first | kernel_rfl | fail) (hb : fn.body.isNone = false := by first | kernel_rfl | fail) (hp : CJ heap [] (args.toList.map (evA n T)) xs := by ((repeat' (first | exact .nil | refine .cons ?_ ?_ | exact .t _ | exact hps _ _ | refine .aggL ?_ | exact .any _ | exact .lst _ | exact .nl | exact .nln | exact .nlt | exact .ln _ | exact .all rfl rfl dD | exact .own rfl rfl cY | exact .subE rfl rfl aS cY | exact .ownE rfl rfl cY | refine .lpL ?_ | refine .boxL rfl rfl rfl ?_ | refine .fnL ?_ ?_)); (first | done | fail))) (hN : heap.length = N := by first | ((try simp only [gF, gI, gV, Nat.reduceAdd]); rfl) | fail) (hr : upA (BC N) r = r' := by first | ((try simp only [upA, upF, upO, BC, gO, gX, Nat.reduceAdd, gV, iT]); rfl) | fail) (hL : L.map (upO (BC N)) = L' := by first | ((try simp only [upA, upF, upO, BC, gO, gX, Nat.reduceAdd, gV, iT]); rfl) | fail) (hh : heap ++ L' = heap' := by first | ((try simp only [jS, jI, iK, gW, gU, gZ, iC, gF, gI, iG, iL, gO, gX, kK, jM, gV, iT, Nat.reduceAdd, Nat.reduceSub]); rfl) | fail) : AL P ops Q (o :: rest) n T heap :=
 p6_ hw hd hf hn hb ho hc hp hN hr hL hh k
def YO (o:Oper):Nat:=match o.op with
 |.move _=>0
 |.assign _=>1
 |.load t _=>2+32*t
 |.store t _ _=>3+32*t
 |.fieldAddr t _ _=>4+32*t
 |.field t _ _=>5+32*t
 |.indexAddr t _ _=>6+32*t
 |.box t _=>7+32*t
 |.alloc t=>8+32*t
 |.binOp _ t _ _ _=>9+32*t
 |.call c=>match c.callee with
  |.value (.func f)=>10+32*f
  |.value _=>11
  |_=>12
 |.slice t _ _ _ _=>13+32*t
 |.build t _=>14+32*t
 |.buildSlice t _ _=>15+32*t
 |.makeSlice t _ _=>16+32*t
 |.convert s _ _=>17+32*s
 |.extract _ _=>18
 |.pick _ _ _=>19
 |.unOp _ _ _=>20
 |.makeFunc _ _ _=>21
 |_=>31
theorem kAL (k:AL P ops Q rest n T heap):AL P ops Q rest n T heap:=k
theorem kL (c:Nat) (h:YO o=c) (k:AL P ops Q (o::rest) n T heap):AL P ops Q (o::rest) n T heap:=k
theorem kRG {F:List Dl→(Nat→AV)→List Ob→Prop} {ac:List Dl} (k:RG P ops n F rest ac T heap):RG P ops n F rest ac T heap:=k
theorem kR (c:Nat) (h:YO o=c) {F:List Dl→(Nat→AV)→List Ob→Prop} {ac:List Dl} (k:RG P ops n F (o::rest) ac T heap):RG P ops n F (o::rest) ac T heap:=k
end
end Go.Proofs.YtccefppppedgkaaGreat
