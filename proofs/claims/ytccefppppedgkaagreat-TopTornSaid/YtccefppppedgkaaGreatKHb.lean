/- Joined: XLA. -/
import Derived.Test.YtccefppppedgkaaGreatKHa
import Derived.OwnWalk
import Derived.ArgAppend
import Derived.Orders
import Derived.Laws.Slices
set_option linter.unusedVariables false
set_option linter.unusedSimpArgs false
set_option linter.unnecessarySimpa false
set_option maxRecDepth 100000
set_option maxHeartbeats 64000000
namespace Go.Proofs.YtccefppppedgkaaGreat
open Go.RowKit
def adr (a:Option Addr):Addr:=a.getD ⟨0,0,none⟩
structure Rs (w:World) (size:Nat) (a:Option Addr) (n c:Nat) (xs:List Value):Prop where
 cap:n≤c
 most:c≤maxLen
 none:a = .none→n=0∧c=0
 len:xs.length=n*size
 cells : ∀j u,xs[j]? = some u→w.cell? ((adr a).add j)=some u
theorem DL (a:Addr) (n:Nat):(a.add n).block=a.block:=by unfold Addr.add;split<;>rfl
variable {w w':World} {size n c:Nat}
theorem Rs.keep {a:Option Addr} {xs:List Value} (h:Rs w size a n c xs) (hk:xs≠[]→w'.heap[(adr a).block]? = w.heap[(adr a).block]?):Rs w' size a n c xs:=by
 refine ⟨h.cap,h.most,h.none,h.len,fun j u hj=>?_⟩
 have hne:xs≠[]:=fun e=>by rw [e] at hj;simp at hj
 rw [←h.cells j u hj]
 exact World.cell?_of_block (by rw [DL];exact hk hne)
theorem Rs.nil (w:World) (size:Nat):Rs w size .none 0 0 []:=⟨fV _,fX _,fun _=>⟨rfl,rfl⟩,by simp,fun j u h=>by simp at h⟩
inductive Res where
 |box (b:Nat) (T:TypeId) (cs:List Value)
 |row (a:Option Addr) (n c:Nat) (E:TypeId) (size:Nat) (xs:List Value)
def Res.blk:Res→Option Nat
 |.box b _ _=>some b
 |.row a _ c _ _ _=>if c=0 then none else a.map (·.block)
def Res.holds (B:Nat) (w:World):Res→Prop
 |.box b T cs=>w.heap[b]? = some (.cells cs.toArray T (0,0))
 |.row a n c E size xs=>(c=0∧n=0∧xs=[])∨(0<c∧w.ownsRow B E size (.slice a n c) n xs)
theorem IT {B B':Nat} {r:Res} (h:r.holds B w) (hb : ∀k,r.blk=some k→w'.heap[k]? = w.heap[k]? ∧ B'≤k):r.holds B' w':=by
 cases r with
 |box b T cs =>
  have:=(hb b rfl).1
  show w'.heap[b]? = _
  rw [this];exact h
 | row a n c E size xs =>
  rcases h with h|⟨hc,h1,h2⟩
  ·exact .inl h
  refine .inr ⟨hc,h1,?_⟩
  rcases h2 with h2|⟨g,cap,cur,hv,hg,hh,r⟩
  ·exact .inl h2
  ·simp only [Value.slice.injEq] at hv
   obtain ⟨rfl,_,rfl⟩:=hv
   have hk:=hb g (by simp [Res.blk];omega)
   exact .inr ⟨g,c,cur,rfl,hk.2,by rw [hk.1];exact hh,r⟩
structure Hp (lo hi:Nat) (w:World) (own:List Res) (ro:List (World→Prop)):Prop where
 ex : ∃Z:Nat→Prop,(∀k,Z k→lo≤k∧k<hi)∧(∀r∈own,r.holds lo w ∧ ∀k,r.blk=some k→lo≤k∧k<hi ∧ ¬Z k) ∧
  own.Pairwise (fun r s=>∀k,r.blk=some k→s.blk≠some k) ∧ ∀p∈ro,p w ∧ ∀w',(∀k,Z k→w'.heap[k]? = w.heap[k]?)→p w'
 le:lo≤hi∧hi≤w.heap.size
abbrev AcO (B:Nat) (w:World) (own:List Res) (ro:List (World→Prop)):Prop:=Hp B w.heap.size w own ro
theorem AcO.start (w:World):AcO w.heap.size w [] [] :=
 ⟨⟨fun _=>False,fun _ h=>h.elim,fun _ h=>by simp at h,List.Pairwise.nil,fun _ h=>by simp at h⟩,fV _,fV _⟩
variable {lo hi hi':Nat} {own:List Res} {ro:List (World→Prop)}
theorem Hp.keep (h:Hp lo hi w own ro) (hk : ∀k,lo≤k→k<hi→w'.heap[k]? = w.heap[k]?) (hh:hi≤hi') (hs:hi'≤w'.heap.size):Hp lo hi' w' own ro:=by
 obtain ⟨⟨Z,hZ,ho,hp,hr⟩,hl⟩:=h
 refine ⟨⟨Z,fun k h=>⟨(hZ k h).1,jV (hZ k h).2 hh⟩,fun r hr'=>?_,hp,fun p hp'=>?_⟩,jA hl.1 hh,hs⟩
 ·obtain ⟨h1,h2⟩:=ho r hr'
  exact ⟨IT h1 fun k hk'=>⟨hk k (h2 k hk').1 (h2 k hk').2.1,(h2 k hk').1⟩,fun k hk'=>⟨(h2 k hk').1,jV (h2 k hk').2.1 hh,(h2 k hk').2.2⟩⟩
 ·obtain ⟨_,h2⟩:=hr p hp'
  exact ⟨h2 w' fun k hk'=>hk k (hZ k hk').1 (hZ k hk').2,fun w'' hw=>h2 w'' fun k hk'=>(hw k hk').trans (hk k (hZ k hk').1 (hZ k hk').2)⟩
variable {own':List Res}
theorem Hp.join {lo hi lo' hi' B H:Nat} {ro ro':List (World→Prop)} (h:Hp lo hi w own ro) (h':Hp lo' hi' w own' ro') (hd : ∀k,lo≤k→k<hi→lo'≤k→k<hi'→False)
  (hs : ∀k,lo≤k→k<hi→B≤k∧k<H) (hs' : ∀k,lo'≤k→k<hi'→B≤k∧k<H) (hH:B≤H∧H≤w.heap.size):Hp B H w (own'++own) (ro'++ro):=by
 obtain ⟨⟨Z,hZ,ho,hp,hr⟩,hl⟩:=h
 obtain ⟨⟨Z',hZ',ho',hp',hr'⟩,hl'⟩:=h'
 refine ⟨⟨fun k=>Z k∨Z' k,?_,?_,?_,?_⟩,hH⟩
 ·rintro k (h|h)
  ·exact hs k (hZ k h).1 (hZ k h).2
  ·exact hs' k (hZ' k h).1 (hZ' k h).2
 ·intro r hr1
  rcases gQ.1 hr1 with h1|h1
  ·obtain ⟨a1,a2⟩:=ho' r h1
   refine ⟨IT a1 fun k hk=>⟨rfl,(hs' k (a2 k hk).1 (a2 k hk).2.1).1⟩,fun k hk=>?_⟩
   have:=a2 k hk
   refine ⟨(hs' k this.1 this.2.1).1,(hs' k this.1 this.2.1).2,?_⟩
   rintro (hz|hz)
   ·exact hd k (hZ k hz).1 (hZ k hz).2 this.1 this.2.1
   ·exact this.2.2 hz
  ·obtain ⟨a1,a2⟩:=ho r h1
   refine ⟨IT a1 fun k hk=>⟨rfl,(hs k (a2 k hk).1 (a2 k hk).2.1).1⟩,fun k hk=>?_⟩
   have:=a2 k hk
   refine ⟨(hs k this.1 this.2.1).1,(hs k this.1 this.2.1).2,?_⟩
   rintro (hz|hz)
   ·exact this.2.2 hz
   ·exact hd k this.1 this.2.1 (hZ' k hz).1 (hZ' k hz).2
 ·refine lT.2 ⟨hp',hp,fun r hr1 s hs1 k hk hk'=>?_⟩
  have h1:=(ho' r hr1).2 k hk
  have h2:=(ho s hs1).2 k hk'
  exact hd k h2.1 h2.2.1 h1.1 h1.2.1
 ·intro p hp1
  rcases gQ.1 hp1 with h1|h1
  ·exact ⟨(hr' p h1).1,fun w' hw=>(hr' p h1).2 w' fun k hk=>hw k (.inr hk)⟩
  ·exact ⟨(hr p h1).1,fun w' hw=>(hr p h1).2 w' fun k hk=>hw k (.inl hk)⟩
variable {B:Nat}
theorem AcO.call {ro ro':List (World→Prop)} (h:AcO B w own ro) (hb:Below w.heap.size w w') (h':Hp w.heap.size w'.heap.size w' own' ro'):AcO B w' (own'++own) (ro'++ro):=by
 have hk:Hp B w.heap.size w' own ro:=Hp.keep h (fun k _ h2=>hb.block k h2) (fV _) hb.size
 have h1:=h.le.1
 have h2:=hb.size
 exact Hp.join hk h' (fun k _ a b _=>by omega) (fun k a b=>⟨a,by omega⟩) (fun k a b=>⟨by omega,b⟩) ⟨by omega,fV _⟩
theorem Hp.sub {lo hi:Nat} {w:World} {own own':List Res} {ro ro':List (World→Prop)} (h:Hp lo hi w own ro) (hp:own'.Sublist own) (hr' : ∀p∈ro',p∈ro):Hp lo hi w own' ro':=by
 obtain ⟨⟨Z,hZ,ho,hpw,hr⟩,hl⟩:=h
 exact ⟨⟨Z,hZ,fun r hr'=>ho r (hp.subset hr'),hpw.sublist hp,fun p hp'=>hr p (hr' p hp')⟩,hl⟩
theorem Hp.holds (h:Hp lo hi w own ro) {r:Res} (i:Nat) (hi':own[i]? = some r):r.holds lo w ∧ ∀k,r.blk=some k→lo≤k∧k<hi:=by
 obtain ⟨⟨Z,hZ,ho,hp,hr⟩,hl⟩:=h
 have:=ho r (fO hi')
 exact ⟨this.1,fun k hk=>⟨(this.2 k hk).1,(this.2 k hk).2.1⟩⟩
theorem Hp.free (h:Hp lo hi w own ro) (i:Nat) {b:Nat} {T:TypeId} {cs:List Value} (hi':own[i]? = some (.box b T cs)) (j:Nat) :
  w.frozen? ⟨b,j,none⟩=false:=by
 have:=(h.holds i hi').1
 unfold Res.holds at this
 simp [World.frozen?,this]
theorem n9_ {a:Option Addr} {E:TypeId} {xs:List Value} (h:w.ownsRow B E size (.slice a n c) n xs):Rs w size a n c xs:=by
 obtain ⟨h1,h2⟩:=h
 rcases h2 with ⟨h2,h3⟩|⟨g,cap,cur,hv,hg,hh,hnc,hcm,hcs,ht⟩
 ·simp only [Value.slice.injEq] at h2
  obtain ⟨rfl,rfl,rfl⟩:=h2
  have:xs=[]:=iA (by simpa using h1)
  subst this
  exact Rs.nil w size
 ·simp only [Value.slice.injEq] at hv
  obtain ⟨rfl,_,rfl⟩:=hv
  refine ⟨hnc,hcm,(fun e=>by cases e),h1,fun j u hj=>?_⟩
  have hjl:j<xs.length:=(iJ.1 hj).1
  have e:(adr (some ⟨g,0,none⟩)).add j=⟨g,j,none⟩:=by
   unfold adr Addr.add;split<;>simp_all
  rw [e,cell_of_row w g j cur E (0,0) hh, ←hj, ←ht,gN,fR (by omega)]
  simp
theorem DH {a:Option Addr} {E:TypeId} {xs:List Value} (h:(Res.row a n c E size xs).holds B w):Rs w size a n c xs:=by
 rcases h with ⟨rfl,rfl,rfl⟩|⟨_,h⟩
 ·exact ⟨fV _,fX _,fun _=>⟨rfl,rfl⟩,by simp,fun j u h=>by simp at h⟩
 ·exact n9_ h
theorem Hp.row (h:Hp lo hi w own ro) (i:Nat) {a:Option Addr} {E:TypeId} {xs:List Value} (hi':own[i]? = some (.row a n c E size xs)):Rs w size a n c xs :=
 DH (h.holds i hi').1
def Hs (D:Nat→Prop) (w:World) (own:List Res) (ro:List (World→Prop)):Prop :=
 ∃Z:Nat→Prop,(∀k,Z k→D k)∧(∀r∈own,r.holds 0 w ∧ ∀k,r.blk=some k→D k ∧ ¬Z k) ∧
  own.Pairwise (fun r s=>∀k,r.blk=some k→s.blk≠some k) ∧ ∀p∈ro,p w ∧ ∀w',(∀k,Z k→w'.heap[k]? = w.heap[k]?)→p w'
theorem Hs.join {D D':Nat→Prop} {ro ro':List (World→Prop)} (h:Hs D w own ro) (h':Hs D' w own' ro') (hd : ∀k,D k→D' k→False):Hs (fun k=>D k∨D' k) w (own'++own) (ro'++ro):=by
 obtain ⟨Z,hZ,ho,hp,hr⟩:=h
 obtain ⟨Z',hZ',ho',hp',hr'⟩:=h'
 refine ⟨fun k=>Z k∨Z' k,?_,?_,?_,?_⟩
 ·rintro k (h|h)
  ·exact .inl (hZ k h)
  ·exact .inr (hZ' k h)
 ·intro r hr1
  rcases gQ.1 hr1 with h1|h1
  ·obtain ⟨a1,a2⟩:=ho' r h1
   refine ⟨a1,fun k hk=>⟨.inr (a2 k hk).1,?_⟩⟩
   rintro (hz|hz)
   ·exact hd k (hZ k hz) (a2 k hk).1
   ·exact (a2 k hk).2 hz
  ·obtain ⟨a1,a2⟩:=ho r h1
   refine ⟨a1,fun k hk=>⟨.inl (a2 k hk).1,?_⟩⟩
   rintro (hz|hz)
   ·exact (a2 k hk).2 hz
   ·exact hd k (a2 k hk).1 (hZ' k hz)
 ·exact lT.2 ⟨hp',hp,fun r hr1 s hs1 k hk hk'=>hd k ((ho s hs1).2 k hk').1 ((ho' r hr1).2 k hk).1⟩
 ·intro p hp1
  rcases gQ.1 hp1 with h1|h1
  ·exact ⟨(hr' p h1).1,fun w' hw=>(hr' p h1).2 w' fun k hk=>hw k (.inr hk)⟩
  ·exact ⟨(hr p h1).1,fun w' hw=>(hr p h1).2 w' fun k hk=>hw k (.inl hk)⟩
end Go.Proofs.YtccefppppedgkaaGreat
namespace Go.Proofs.YtccefppppedgkaaGreat
open Go.RowKit
inductive Tr where
 |v (x:Value)
 |lst (els:List (List Tr))
instance:Inhabited Tr:=⟨.lst []⟩
inductive AV where
 |any
 |t (x:Tr)
 |nl
 |ln (els:List (List Tr))
 |lp (cs:List AV)
 |sl (i k n:Nat)
 |sub (i k off n:Nat)
 |ptr (i off:Nat)
 |mv (i:Nat)
 |cl (els:List (List Tr))
 |rp (i k idx off:Nat)
 |fn (f:Fn) (first cap:List AV)
 |agg (l:List AV)
 |tup (l:List AV)
instance:Inhabited AV:=⟨.any⟩
inductive Ob where
 |box (T:TypeId) (cs:List AV)
 |row (k:Nat) (E:TypeId) (size:Nat) (els:List (List Tr))
 |gone (k:Nat)
 |hole
 |mp (es:List (Int × Int))
instance:Inhabited Ob:=⟨.gone 0⟩
def Ob.lim:Ob→Nat
 |.box _ _=>1
 |.row k _ _ _=>k+1
 |.gone k=>k+1
 |.hole=>0
 |.mp _=>1
inductive Frz (w:World) (Z:Nat→Prop):Tr→Value→Prop
 |v {x:Value} (h:x.oneCell'=true):Frz w Z (.v x) x
 | lst {els:List (List Tr)} {a:Option Addr} {n c size:Nat} {xs:List Value} (hr:Rs w size a n c xs) (hz:xs≠[]→Z (adr a).block) (hn:els.length=n)
   (hs : ∀cs∈els,cs.length=size) (hf : ∀(i:Nat) cs (j:Nat) x u,els[i]? = some cs→cs[j]? = some x→xs[i*size+j]? = some u→Frz w Z x u):Frz w Z (.lst els) (.slice a n c)
structure BM (R:Tr→Value→Prop) (size:Nat) (els:List (List Tr)) (xs:List Value):Prop where
 len:xs.length=els.length*size
 each : ∀cs∈els,cs.length=size
 at_ : ∀(i:Nat) cs (j:Nat) x u,els[i]? = some cs→cs[j]? = some x→xs[i*size+j]? = some u→R x u
variable {w:World} {Z:Nat→Prop}
theorem Frz.open {els:List (List Tr)} {v:Value} (h:Frz w Z (.lst els) v) :
  ∃a c size xs,v = .slice a els.length c∧Rs w size a els.length c xs∧(xs≠[]→Z (adr a).block)∧BM (Frz w Z) size els xs:=by
 cases h with
 |lst hr hz hn hs hf=>subst hn;exact ⟨_,_,_,_,rfl,hr,hz,hr.len,hs,hf⟩
theorem Frz.shut {els:List (List Tr)} {a:Option Addr} {n c size:Nat} {xs:List Value} (hn:els.length=n) (hr:Rs w size a n c xs) (hz:xs≠[]→Z (adr a).block) (he:BM (Frz w Z) size els xs):Frz w Z (.lst els) (.slice a n c) :=
 .lst hr hz hn he.each he.at_
theorem Frz.mono {w w':World} {Z Z':Nat→Prop} (hz : ∀b,Z b→Z' b∧w'.heap[b]? = w.heap[b]?) {x:Tr} {u:Value} (h:Frz w Z x u):Frz w' Z' x u:=by
 induction h with
 |v h=>exact .v h
 |lst hr hz' hn hs _ ih=>exact .lst (hr.keep fun hne=>(hz _ (hz' hne)).2) (fun hne=>(hz _ (hz' hne)).1) hn hs ih
theorem Frz.one {x:Tr} {u:Value} (h:Frz w Z x u):u.oneCell'=true:=by
 cases h with
 |v h=>exact h
 |lst=>rfl
theorem AeZ {i j n size:Nat} (hi:i<n) (hj:j<size):i*size+j<n*size:=by
 have:(i+1)*size≤n*size:=iE _ hi
 rw [kF] at this;omega
theorem get_lt {α:Type} {l:List α} {i:Nat} {x:α} (h:l[i]? = some x):i<l.length:=(iJ.1 h).1
section
variable {R R':Tr→Value→Prop} {size:Nat} {els els':List (List Tr)} {xs xs':List Value}
theorem BM.mono (h:BM R size els xs) (hr : ∀x u,R x u→R' x u):BM R' size els xs:=⟨h.len,h.each,fun i cs j x u a b c=>hr _ _ (h.at_ i cs j x u a b c)⟩
theorem BM.nil:BM R size [] []:=⟨by simp,fun _ h=>by simp at h,fun i cs j x u h=>by simp at h⟩
theorem BM.all (h:BM R size els xs) {q:Nat} {u:Value} (hq:xs[q]? = some u) : ∃i cs j x,els[i]? = some cs∧cs[j]? = some x∧q=i*size+j∧R x u:=by
 have h1:=get_lt hq
 rw [h.len] at h1
 have hs:0<size:=by
  rcases Nat.eq_zero_or_pos size with e|e
  ·rw [e] at h1;omega
  ·exact e
 have hi:q/size<els.length:=(Nat.div_lt_iff_lt_mul hs).2 h1
 have hj:q%size<size:=Nat.mod_lt _ hs
 have he:q/size*size+q%size=q:=by rw [lU];exact Nat.div_add_mod q size
 have hc:=h.each _ (List.getElem_mem hi)
 refine ⟨q/size,els[q/size],q%size,els[q/size][q%size]'(by rw [hc];exact hj),ZgE hi,ZgE _,he.symm,?_⟩
 exact h.at_ _ _ _ _ _ (ZgE hi) (ZgE (by rw [hc];exact hj)) (by rw [he];exact hq)
theorem BM.append (h:BM R size els xs) (h':BM R size els' xs'):BM R size (els++els') (xs++xs'):=by
 refine ⟨by rw [fP,fP,h.len,h'.len,mW],fun cs hc=>(gQ.1 hc).elim (h.each cs) (h'.each cs),fun i cs j x u hi hj hu=>?_⟩
 by_cases hlt:i<els.length
 ·rw [gH hlt] at hi
  have hjl:=get_lt hj
  rw [h.each cs (fO hi)] at hjl
  rw [gH (by rw [h.len];exact AeZ hlt hjl)] at hu
  exact h.at_ i cs j x u hi hj hu
 ·rw [gD (by omega)] at hi
  have hge:els.length*size≤i*size:=iE _ (by omega)
  rw [gD (by rw [h.len];omega),h.len] at hu
  refine h'.at_ (i-els.length) cs j x u hi hj ?_
  rw [←hu,Nat.sub_mul]
  congr 1
  omega
theorem BM.take (h:BM R size els xs) (n:Nat):BM R size (els.take n) (xs.take (n*size)):=by
 refine ⟨?_,fun cs hc=>h.each cs (iQ hc),fun i cs j x u hi hj hu=>?_⟩
 ·rw [fY,fY,h.len]
  rcases Nat.le_total n els.length with hn|hn
  ·rw [kQ hn,kQ (iE _ hn)]
  ·rw [Nat.min_eq_right hn,Nat.min_eq_right (iE _ hn)]
 ·rw [gN] at hi hu
  split at hi
  ·split at hu
   ·exact h.at_ i cs j x u hi hj hu
   ·cases hu
  ·cases hi
theorem BM.drop (h:BM R size els xs) (n:Nat):BM R size (els.drop n) (xs.drop (n*size)):=by
 refine ⟨by rw [gJ,gJ,h.len,Nat.sub_mul],fun cs hc=>h.each cs (iF hc),fun i cs j x u hi hj hu=>?_⟩
 rw [gK] at hi hu
 exact h.at_ (n+i) cs j x u hi hj (by rw [←hu,mW,lZ])
theorem BM.replicate {zs:List Tr} {us:List Value} (hz:zs.length=size) (hu:us.length=size) (hr : ∀(j:Nat) x u,zs[j]? = some x→us[j]? = some u→R x u) : ∀n,BM R size (List.replicate n zs) ((List.replicate n us).flatten)
 |0=>BM.nil
 | n+1=>by
  rw [List.replicate_succ,List.replicate_succ,List.flatten_cons]
  have h1:BM R size [zs] us:=⟨by simp [hu],fun cs hc=>by simp at hc;rw [hc];exact hz,fun i cs j x u hi hj hu=>by
   cases i with
   |zero=>simp at hi;subst hi;exact hr j x u hj eW
   |succ i=>simp at hi⟩
  exact h1.append (BM.replicate hz hu hr n)
theorem BM.set (h:BM R size els xs) {i f:Nat} {cs ts:List Tr} {vs:List Value} (hi:els[i]? = some cs) (hl:ts.length=vs.length) (hf:f+ts.length≤size) (hr : ∀(j:Nat) x u,ts[j]? = some x→vs[j]? = some u→R x u) :
  BM R size (els.set i (cs.take f++ts++cs.drop (f+ts.length))) (xs.take (i*size+f)++vs++xs.drop (i*size+f+vs.length)):=by
 have hil:=get_lt hi
 have hcs:=h.each cs (fO hi)
 have hm:i*size+size≤els.length*size:=by rw [←kF];exact iE _ hil
 have hxl:=h.len
 have hcl:(cs.take f++ts++cs.drop (f+ts.length)).length=size:=by
  simp only [fP,fY,gJ];omega
 refine ⟨?_,?_,?_⟩
 ·simp only [fP,fY,gJ,iS];omega
 ·intro c hc
  rcases iX hc with hc|hc
  ·exact h.each c hc
  ·rw [hc];exact hcl
 ·intro i' c j x u hi' hj hu
  rw [gY] at hi'
  have hxt:(xs.take (i*size+f)).length=i*size+f:=by rw [fY];omega
  by_cases e:i=i'
  ·subst e
   rw [fR rfl,fR hil] at hi'
   cases hi'
   have hjl:=get_lt hj
   rw [hcl] at hjl
   have hct:(cs.take f).length=f:=by rw [fY];omega
   by_cases hj1:j<f
   ·rw [gC,gH (by rw [hct];exact hj1),gN,fR hj1] at hj
    rw [gC,gH (by rw [hxt];omega),gN,fR (by omega)] at hu
    exact h.at_ i cs j x u hi hj hu
   ·by_cases hj2:j<f+ts.length
    ·rw [gC,gD (by rw [hct];omega),hct,gH (by omega)] at hj
     rw [gC,gD (by rw [hxt];omega),hxt,gH (by omega)] at hu
     refine hr (j-f) x u hj ?_
     rw [←hu];congr 1;omega
    ·rw [gD (by simp only [fP,hct];omega),fP,hct,gK] at hj
     rw [gD (by simp only [fP,hxt];omega),fP,hxt,gK] at hu
     refine h.at_ i cs j x u hi ?_ ?_
     ·rw [←hj];congr 1;omega
     ·rw [←hu];congr 1;omega
  ·rw [fT e] at hi'
   have hjl:=get_lt hj
   rw [h.each c (fO hi')] at hjl
   have hil':=get_lt hi'
   refine h.at_ i' c j x u hi' hj ?_
   rcases Nat.lt_or_gt_of_ne e with hlt|hlt
   ·have:(i+1)*size≤i'*size:=iE _ hlt
    rw [kF] at this
    rw [gD (by simp only [fP,hxt];omega),fP,hxt,gK] at hu
    rw [←hu];congr 1;omega
   ·have:(i'+1)*size≤i*size:=iE _ hlt
    rw [kF] at this
    rw [gC,gH (by rw [hxt];omega),gN,fR (by omega)] at hu
    exact hu
end
theorem BM.one {size:Nat} {els:List (List Tr)} {xs:List Value} (h:BM (Frz w Z) size els xs) : ∀u∈xs,u.oneCell'=true:=by
 intro u hu
 obtain ⟨q,hq⟩:=jN hu
 obtain ⟨i,cs,j,x,_,_,_,hr⟩:=h.all hq
 exact hr.one
structure Pl where
 a:Option Addr
 c:Nat
 s:Nat
abbrev Rho:=Nat→Nat→Pl
inductive Val (Kn:Nat→Nat→Prop) (ρ:Rho) (w:World) (Z Y:Nat→Prop):AV→Value→Prop
 |any (v:Value):Val Kn ρ w Z Y .any v
 |t {x:Tr} {v:Value} (h:Frz w Z x v):Val Kn ρ w Z Y (.t x) v
 |nl (a:Option Addr):Val Kn ρ w Z Y .nl (.slice a 0 0)
 |ln {els:List (List Tr)} {a:Option Addr} {n c size:Nat} {xs:List Value} (hr:Rs w size a n c xs) (hz:xs≠[]→Y (adr a).block) (hn:els.length=n) (he:BM (Frz w Z) size els xs):Val Kn ρ w Z Y (.ln els) (.slice a n c)
 |lp {cs:List AV} {p:Addr} {us:List Value} (hl:cs.length=us.length) (ho : ∀u∈us,u.oneCell'=true) (hc : ∀(j:Nat) u,us[j]? = some u→Y p.block∧w.cell? (p.add j)=some u) (hv : ∀(j:Nat) x u,cs[j]? = some x→us[j]? = some u→Val Kn ρ w Z Y x u):Val Kn ρ w Z Y (.lp cs) (.pointer (some p))
 |sl {i k n:Nat} (hk:Kn i k) (hc:n≤(ρ i k).c) (h0:(ρ i k).a = .none→(ρ i k).c=0):Val Kn ρ w Z Y (.sl i k n) (.slice (ρ i k).a n (ρ i k).c)
 |sub {i k off n:Nat} {a:Option Addr} {c:Nat} (hk:Kn i k) (hn:n≤c) (hm:c≤maxLen) (h0:a = .none→n=0∧c=0) (ha:n≠0→a=some ((adr (ρ i k).a).add (off*(ρ i k).s))):Val Kn ρ w Z Y (.sub i k off n) (.slice a n c)
 |ptr {i off b:Nat} (hk:Kn i 0) (ha:(ρ i 0).a=some ⟨b,0,none⟩):Val Kn ρ w Z Y (.ptr i off) (.pointer (some ⟨b,off,none⟩))
 |mv {i b:Nat} (hk:Kn i 0) (ha:(ρ i 0).a=some ⟨b,0,none⟩):Val Kn ρ w Z Y (.mv i) (.map (some b))
 |cl {els:List (List Tr)} {a:Option Addr} {n size:Nat} {xs:List Value} (hr:Rs w size a n n xs) (hz:xs≠[]→Z (adr a).block) (hn:els.length=n) (he:BM (Frz w Z) size els xs):Val Kn ρ w Z Y (.cl els) (.slice a n n)
 |rp {i k idx off:Nat} (hk:Kn i k):Val Kn ρ w Z Y (.rp i k idx off) (.pointer (some ((adr (ρ i k).a).add (idx*(ρ i k).s+off))))
 |fn {f:Fn} {first cap:List AV} {us vs:List Value} (h1:first.length=us.length) (h2:cap.length=vs.length) (hu : ∀(j:Nat) x u,first[j]? = some x→us[j]? = some u→Val Kn ρ w Z Y x u) (hv : ∀(j:Nat) x u,cap[j]? = some x→vs[j]? = some u→Val Kn ρ w Z Y x u):Val Kn ρ w Z Y (.fn f first cap) (.func f us.toArray vs.toArray)
 |agg {l:List AV} {us:List Value} (h1:l.length=us.length) (ho : ∀u∈us,u.oneCell'=true) (hu : ∀(j:Nat) x u,l[j]? = some x→us[j]? = some u→Val Kn ρ w Z Y x u):Val Kn ρ w Z Y (.agg l) (.agg us.toArray)
 |tup {l:List AV} {us:List Value} (h1:l.length=us.length) (hu : ∀(j:Nat) x u,l[j]? = some x→us[j]? = some u→Val Kn ρ w Z Y x u):Val Kn ρ w Z Y (.tup l) (.tuple us.toArray)
structure AVs (R:AV→Value→Prop) (l:List AV) (us:List Value):Prop where
 len:l.length=us.length
 at_ : ∀(j:Nat) x u,l[j]? = some x→us[j]? = some u→R x u
theorem Val.mono {Kn Kn':Nat→Nat→Prop} {ρ ρ':Rho} {w w':World} {Z Z' Y Y':Nat→Prop} (hk : ∀i k,Kn i k→Kn' i k∧ρ' i k=ρ i k) (hz : ∀b,Z b→Z' b∧w'.heap[b]? = w.heap[b]?) (hy : ∀b,Y b→Y' b∧w'.heap[b]? = w.heap[b]?)
  {x:AV} {v:Value} (h:Val Kn ρ w Z Y x v):Val Kn' ρ' w' Z' Y' x v:=by
 induction h with
 |any v=>exact .any v
 |t h=>exact .t (h.mono hz)
 |nl a=>exact .nl a
 |ln hr hz' hn he=>exact .ln (hr.keep fun hne=>(hy _ (hz' hne)).2) (fun hne=>(hy _ (hz' hne)).1) hn (he.mono fun _ _ h=>h.mono hz)
 |lp hl ho hc _ ih =>
  refine .lp hl ho (fun j u hj=>⟨(hy _ (hc j u hj).1).1,?_⟩) ih
  rw [←(hc j u hj).2]
  exact World.cell?_of_block (by rw [DL];exact (hy _ (hc j u hj).1).2)
 |sl hk' hc h0=>rw [←(hk _ _ hk').2] at hc h0 ⊢;exact .sl (hk _ _ hk').1 hc h0
 |sub hk' hn hm h0 ha=>exact .sub (hk _ _ hk').1 hn hm h0 (by rw [(hk _ _ hk').2];exact ha)
 |ptr hk' ha=>exact .ptr (hk _ _ hk').1 (by rw [(hk _ _ hk').2];exact ha)
 |mv hk' ha=>exact .mv (hk _ _ hk').1 (by rw [(hk _ _ hk').2];exact ha)
 |cl hr hz' hn he=>exact .cl (hr.keep fun hne=>(hz _ (hz' hne)).2) (fun hne=>(hz _ (hz' hne)).1) hn (he.mono fun _ _ h=>h.mono hz)
 |rp hk'=>rw [←(hk _ _ hk').2];exact .rp (hk _ _ hk').1
 |fn h1 h2 _ _ ih1 ih2=>exact .fn h1 h2 ih1 ih2
 |agg h1 ho _ ih=>exact .agg h1 ho ih
 |tup h1 _ ih=>exact .tup h1 ih
def AV.flat:AV→Option (List AV)
 |.any=>none
 |.tup _=>none
 |.agg l=>some l
 |.t x=>some [.t x]
 |.nl=>some [.nl]
 |.ln els=>some [.ln els]
 |.lp cs=>some [.lp cs]
 |.sl i k n=>some [.sl i k n]
 |.sub i k off n=>some [.sub i k off n]
 |.ptr i off=>some [.ptr i off]
 |.mv i=>some [.mv i]
 |.cl els=>some [.cl els]
 |.rp i k idx off=>some [.rp i k idx off]
 |.fn f a b=>some [.fn f a b]
theorem Val.flat {Kn:Nat→Nat→Prop} {ρ:Rho} {Z Y:Nat→Prop} {x:AV} {v:Value} (h:Val Kn ρ w Z Y x v) {cs:List AV} (hf:x.flat=some cs) :
  ∃us:List Value,v.cells=us.toArray∧AVs (Val Kn ρ w Z Y) cs us ∧ ∀u∈us,u.oneCell'=true:=by
 have one : ∀(x:AV) (v:Value),Val Kn ρ w Z Y x v→v.oneCell'=true → ∃us:List Value,v.cells=us.toArray∧AVs (Val Kn ρ w Z Y) [x] us ∧ ∀u∈us,u.oneCell'=true:=by
  intro x v h h1
  refine ⟨[v],?_,⟨rfl,fun j y u hj hu=>?_⟩,fun u hu=>by simp at hu;subst hu;exact h1⟩
  ·cases v<;>first|rfl|cases h1
  ·cases j with
   |zero=>simp at hj hu;subst hj hu;exact h
   |succ j=>simp at hj
 cases h with
 |any|tup=>cases hf
 |agg h1 ho hu=>cases hf;exact ⟨_,rfl,⟨h1,hu⟩,ho⟩
 |t h=>cases hf;exact one _ _ (.t h) h.one
 |nl a=>cases hf;exact one _ _ (.nl a) rfl
 |ln hr hz hn he=>cases hf;exact one _ _ (.ln hr hz hn he) rfl
 |lp hl ho hc hv=>cases hf;exact one _ _ (.lp hl ho hc hv) rfl
 |sl hk hc h0=>cases hf;exact one _ _ (.sl hk hc h0) rfl
 |sub hk hn hm h0 ha=>cases hf;exact one _ _ (.sub hk hn hm h0 ha) rfl
 |ptr hk ha=>cases hf;exact one _ _ (.ptr hk ha) rfl
 |mv hk ha=>cases hf;exact one _ _ (.mv hk ha) rfl
 |cl hr hz hn he=>cases hf;exact one _ _ (.cl hr hz hn he) rfl
 |rp hk=>cases hf;exact one _ _ (.rp hk) rfl
 |fn h1 h2 hu hv=>cases hf;exact one _ _ (.fn h1 h2 hu hv) rfl
end Go.Proofs.YtccefppppedgkaaGreat
namespace Go.Proofs.YtccefppppedgkaaGreat
open Go.RowKit
def Kn (heap:List Ob) (i k:Nat):Prop:=∃o,heap[i]? = some o∧k<o.lim
def Ob.blk (ρ:Rho) (i:Nat):Ob→Option Nat
 |.box _ _=>(ρ i 0).a.map (·.block)
 |.row k _ _ _=>if (ρ i k).c=0 then none else (ρ i k).a.map (·.block)
 |.gone _=>none
 |.hole=>none
 |.mp _=>(ρ i 0).a.map (·.block)
def Ob.holds (R:AV→Value→Prop) (ρ:Rho) (w:World) (Z:Nat→Prop) (i:Nat):Ob→Prop
 |.box T cs=>∃b us,(ρ i 0).a=some ⟨b,0,none⟩∧w.heap[b]? = some (.cells us.toArray T (0,0))∧AVs R cs us ∧ ∀u∈us,u.oneCell'=true
 |.row k E size els=>(ρ i k).s=size ∧ ∃xs,BM (Frz w Z) size els xs∧(Res.row (ρ i k).a els.length (ρ i k).c E size xs).holds 0 w
 |.gone _=>True
 |.hole=>True
 |.mp es=>∃b arr clock,(ρ i 0).a=some ⟨b,0,none⟩∧w.heap[b]? = some (.map arr clock)∧arr.toList.map (fun e=>(e.key,e.val))=es.map (fun p=>(Value.int .i64 p.1,Value.int .i64 p.2))
variable {i j:Nat} {o:Ob}
theorem Ob.holds_mono {R R':AV→Value→Prop} {ρ ρ':Rho} {w w':World} {Z Z':Nat→Prop} (hR : ∀x v,R x v→R' x v) (hρ : ∀k,k<o.lim→ρ' j k=ρ i k) (hz : ∀b,Z b→Z' b∧w'.heap[b]? = w.heap[b]?)
  (hb : ∀b,o.blk ρ i=some b→w'.heap[b]? = w.heap[b]?) (h:o.holds R ρ w Z i):o.holds R' ρ' w' Z' j:=by
 cases o with
 |box T cs =>
  obtain ⟨b,us,h1,h2,h3,h4⟩:=h
  refine ⟨b,us,by rw [hρ 0 (fV _)];exact h1,?_,⟨h3.len,fun j x u a b=>hR _ _ (h3.at_ j x u a b)⟩,h4⟩
  rw [hb b (by simp [Ob.blk,h1])];exact h2
 |row k E size els =>
  obtain ⟨h1,xs,h2,h3⟩:=h
  have e:=hρ k (fV _)
  refine ⟨by rw [e];exact h1,xs,h2.mono fun _ _ h=>h.mono hz,?_⟩
  rw [e]
  exact IT h3 fun b hb'=>⟨hb b (by simpa [Ob.blk,Res.blk] using hb'),fX _⟩
 |gone=>trivial
 |hole=>trivial
 |mp es =>
  obtain ⟨b,arr,c,h1,h2,h3⟩:=h
  exact ⟨b,arr,c,by rw [hρ 0 (fV _)];exact h1,by rw [hb b (by simp [Ob.blk,h1])];exact h2,h3⟩
theorem Ob.blk_mono {ρ ρ':Rho} (hρ : ∀k,k<o.lim→ρ' j k=ρ i k):o.blk ρ' j=o.blk ρ i:=by
 cases o with
 |box T cs=>simp only [Ob.blk];rw [hρ 0 (fV _)]
 |row k E size els=>simp only [Ob.blk];rw [hρ k (fV _)]
 |gone=>rfl
 |hole=>rfl
 |mp es=>simp only [Ob.blk];rw [hρ 0 (fV _)]
structure EH (heap:List Ob) (w:World) (ρ:Rho) (Z Y:Nat→Prop):Prop where
 obs : ∀(i:Nat) (o:Ob),heap[i]? = some o→o.holds (Val (Kn heap) ρ w Z Y) ρ w Z i
 apart : ∀(i j:Nat) (o o':Ob) (b:Nat),heap[i]? = some o→heap[j]? = some o'→o.blk ρ i=some b→o'.blk ρ j=some b→i=j
 own : ∀(i:Nat) (o:Ob) (b:Nat),heap[i]? = some o→o.blk ρ i=some b→b<w.heap.size ∧ ¬Y b
 zy : ∀b,Z b→Y b
 ylt : ∀b,Y b→b<w.heap.size
variable {k N:Nat} {L heap':List Ob}
section
variable {heap:List Ob} {w w':World} {ρ ρ':Rho} {Z Z' Y Y':Nat→Prop}
theorem EH.notin (h:EH heap w ρ Z Y) (hi:heap[i]? = some o) {b:Nat} (hy:Y b):o.blk ρ i≠some b:=fun e=>(h.own i o b hi e).2 hy
theorem Kn.set {o o':Ob} (hi:heap[i]? = some o) (hv:o.lim≤o'.lim) (h:Kn heap j k):Kn (heap.set i o') j k:=by
 obtain ⟨p,hp,hk⟩:=h
 by_cases e:i=j
 ·subst e
  rw [hi] at hp;cases hp
  exact ⟨o',by rw [gY,fR rfl,fR (get_lt hi)],jV hk hv⟩
 ·exact ⟨p,by rw [gY,fT e];exact hp,hk⟩
def JD (heap:List Ob) (N:Nat) (L:List Ob):List Ob:=heap.take N++L++heap.drop (N+L.length)
inductive AtL (heap:List Ob) (N:Nat) (L heap':List Ob):Prop
 |push (hN:heap.length=N) (hh:heap++L=heap')
 |fill (hl : ∀q,q<L.length→heap[N+q]? = some .hole) (hh:JD heap N L=heap')
theorem JE (hl : ∀q,q<L.length→heap[N+q]? = some .hole) (j:Nat):(JD heap N L)[j]? = if N≤j∧j<N+L.length then L[j-N]? else heap[j]? := by
 unfold JD
 by_cases h0:L.length=0
 ·have:L=[]:=iA h0
  subst this
  rw [fT (by simp only [gI];omega)]
  simp
 ·have h1:=get_lt (hl 0 (by omega))
  have h2:=get_lt (hl (L.length-1) (by omega))
  have e1:(heap.take N).length=N:=by rw [fY];omega
  by_cases c1:j<N
  ·rw [fT (by omega),gC,gH (by omega),gN,fR c1]
  ·by_cases c2:j<N+L.length
   ·rw [fR ⟨by omega,c2⟩,gC,gD (by omega),e1,gH (by omega)]
   ·rw [fT (by omega),gD (by simp only [fP];omega),fP,e1,gK]
    congr 1;omega
theorem AtL.new {N:Nat} {L heap':List Ob} (h:AtL heap N L heap') {q:Nat} {o:Ob} (hq:L[q]? = some o):heap'[N+q]? = some o:=by
 have:=get_lt hq
 cases h with
 |push hN hh=>subst hN hh;rw [gD (by omega),jP];exact hq
 |fill hl hh=>subst hh;rw [JE hl,fR ⟨by omega,by omega⟩,jP];exact hq
theorem AtL.old {N:Nat} {L heap':List Ob} (h:AtL heap N L heap') {j:Nat} {o:Ob} (hj:heap[j]? = some o) (ho:0<o.lim):heap'[j]? = some o ∧ ∀q,q<L.length→j≠N+q:=by
 cases h with
 |push hN hh=>subst hN hh;have:=get_lt hj;exact ⟨by rw [gH this];exact hj,fun q _=>by omega⟩
 | fill hl hh =>
  subst hh
  have hne : ∀q,q<L.length→j≠N+q:=fun q hq e=>by
   rw [e,hl q hq] at hj;cases hj;exact absurd ho (by simp [Ob.lim])
  refine ⟨?_,hne⟩
  rw [JE hl,fT (fun hc=>hne (j-N) (by omega) (by omega))]
  exact hj
theorem AtL.part (h:AtL heap N L heap') (hj:heap'[j]? = some o):(heap[j]? = some o ∧ ∀q,q<L.length→j≠N+q) ∨ ∃q,j=N+q∧L[q]? = some o:=by
 cases h with
 |push hN hh =>
  subst hN hh
  by_cases e:j<heap.length
  ·rw [gH e] at hj;exact .inl ⟨hj,fun q _=>by omega⟩
  ·rw [gD (by omega)] at hj;exact .inr ⟨j-heap.length,by omega,hj⟩
 |fill hl hh =>
  subst hh
  rw [JE hl] at hj
  split at hj
  ·rename_i hc;exact .inr ⟨j-N,by omega,hj⟩
  ·rename_i hc;exact .inl ⟨hj,fun q hq e=>hc (by omega)⟩
theorem AtL.kn (h:AtL heap N L heap') (hj:Kn heap j k):Kn heap' j k ∧ ∀q,q<L.length→j≠N+q:=by
 obtain ⟨o,ho,hk⟩:=hj
 obtain ⟨h1,h2⟩:=h.old ho (by omega)
 exact ⟨⟨o,h1,hk⟩,h2⟩
theorem AtL.one (h:AtL heap N [o] heap'):heap'[N]? = some o:=h.new (q:=0) rfl
theorem EH.val (h:EH heap w ρ Z Y) (hk : ∀i k,Kn heap i k→Kn heap' i k∧ρ' i k=ρ i k) (hz : ∀b,Z b→Z' b) (hy : ∀b,Y b→Y' b∧w'.heap[b]? = w.heap[b]?) {x:AV} {v:Value}
  (hv:Val (Kn heap) ρ w Z Y x v):Val (Kn heap') ρ' w' Z' Y' x v :=
 hv.mono hk (fun b hb=>⟨hz b hb,(hy b (h.zy b hb)).2⟩) hy
theorem EH.turn (h:EH heap w ρ Z Y) {o o':Ob} (hi:heap[i]? = some o) (hv:o.lim≤o'.lim) (hρ : ∀j k,Kn heap j k→ρ' j k=ρ j k) (hs:w.heap.size≤w'.heap.size)
  (hk : ∀b,b<w.heap.size→o.blk ρ i≠some b→w'.heap[b]? = w.heap[b]?) (hh:o'.holds (Val (Kn (heap.set i o')) ρ' w' Z Y) ρ' w' Z i)
  (hb : ∀b,o'.blk ρ' i=some b→o.blk ρ i=some b∨(w.heap.size≤b∧b<w'.heap.size)):EH (heap.set i o') w' ρ' Z Y:=by
 have hy : ∀b,Y b→Y b∧w'.heap[b]? = w.heap[b]? := fun b hb=>⟨hb,hk b (h.ylt b hb) (h.notin hi hb)⟩
 have hz : ∀b,Z b→Z b∧w'.heap[b]? = w.heap[b]? := fun b hb=>⟨hb,(hy b (h.zy b hb)).2⟩
 have hkn : ∀j k,Kn heap j k→Kn (heap.set i o') j k∧ρ' j k=ρ j k:=fun j k hj=>⟨hj.set hi hv,hρ j k hj⟩
 have old : ∀(j:Nat) (p:Ob),(heap.set i o')[j]? = some p→j≠i→heap[j]? = some p:=fun j p hj hne=>by rw [gY,fT (Ne.symm hne)] at hj;exact hj
 have new : ∀(p:Ob),(heap.set i o')[i]? = some p→p=o':=fun p hp=>by rw [gY,fR rfl,fR (get_lt hi)] at hp;cases hp;rfl
 have same : ∀(j:Nat) (p:Ob),heap[j]? = some p→p.blk ρ' j=p.blk ρ j:=fun j p hj=>Ob.blk_mono fun k hk'=>hρ j k ⟨p,hj,hk'⟩
 have newblk : ∀(j:Nat) (p:Ob) (b:Nat),heap[j]? = some p→j≠i→p.blk ρ j=some b→o'.blk ρ' i≠some b:=by
  intro j p b hj hne hpb ho
  rcases hb b ho with e|e
  ·exact hne (h.apart j i p o b hj hi hpb e)
  ·have:=(h.own j p b hj hpb).1;omega
 refine ⟨fun j p hj=>?_,fun j k p q b hj hk' hp hq=>?_,fun j p b hj hp=>?_,h.zy,fun b hb=>jV (h.ylt b hb) hs⟩
 ·by_cases e:j=i
  ·subst e;rw [new p hj];exact hh
  ·have hj':=old j p hj e
   exact Ob.holds_mono (fun x v hx=>hx.mono hkn hz hy) (fun k hk'=>hρ j k ⟨p,hj',hk'⟩) hz (fun b hb'=>hk b (h.own j p b hj' hb').1 fun e'=>e (h.apart j i p o b hj' hi hb' e')) (h.obs j p hj')
 ·by_cases e:j=i
  ·by_cases e':k=i
   ·rw [e,e']
   ·rw [e] at hj hp
    rw [new p hj] at hp
    have hk2:=old k q hk' e'
    rw [same k q hk2] at hq
    exact absurd hp (newblk k q b hk2 e' hq)
  ·have hj2:=old j p hj e
   rw [same j p hj2] at hp
   by_cases e':k=i
   ·rw [e'] at hk' hq
    rw [new q hk'] at hq
    exact absurd hq (newblk j p b hj2 e hp)
   ·have hk2:=old k q hk' e'
    rw [same k q hk2] at hq
    exact h.apart j k p q b hj2 hk2 hp hq
 ·by_cases e:j=i
  ·rw [e] at hj hp
   rw [new p hj] at hp
   rcases hb b hp with e'|e'
   ·have:=h.own i o b hi e'
    exact ⟨jV this.1 hs,this.2⟩
   ·exact ⟨e'.2,fun hy'=>by have:=h.ylt b hy';omega⟩
  ·have hj2:=old j p hj e
   rw [same j p hj2] at hp
   have:=h.own j p b hj2 hp
   exact ⟨jV this.1 hs,this.2⟩
theorem EH.push (h:EH heap w ρ Z Y) (hat:AtL heap N L heap') (hρ : ∀j k,Kn heap j k→ρ' j k=ρ j k) (hs:w.heap.size≤w'.heap.size) (hk : ∀b,b<w.heap.size→w'.heap[b]? = w.heap[b]?)
  (hz : ∀b,Z b→Z' b) (hy : ∀b,Y b→Y' b) (hzy : ∀b,Z' b→Y' b) (hyn : ∀b,Y' b→Y b∨(w.heap.size≤b∧b<w'.heap.size))
  (hL : ∀(q:Nat) (o:Ob),L[q]? = some o→o.holds (Val (Kn heap') ρ' w' Z' Y') ρ' w' Z' (N+q)) (ha : ∀(q r:Nat) (o o':Ob) (b:Nat),L[q]? = some o→L[r]? = some o'→o.blk ρ' (N+q)=some b→o'.blk ρ' (N+r)=some b→q=r)
  (ho : ∀(q:Nat) (o:Ob) (b:Nat),L[q]? = some o→o.blk ρ' (N+q)=some b→w.heap.size≤b∧b<w'.heap.size ∧ ¬Y' b):EH heap' w' ρ' Z' Y':=by
 have hy' : ∀b,Y b→Y' b∧w'.heap[b]? = w.heap[b]? := fun b hb=>⟨hy b hb,hk b (h.ylt b hb)⟩
 have hz' : ∀b,Z b→Z' b∧w'.heap[b]? = w.heap[b]? := fun b hb=>⟨hz b hb,(hy' b (h.zy b hb)).2⟩
 have hkn : ∀j k,Kn heap j k→Kn heap' j k∧ρ' j k=ρ j k:=fun j k hj=>⟨(hat.kn hj).1,hρ j k hj⟩
 have same : ∀(j:Nat) (p:Ob),heap[j]? = some p→p.blk ρ' j=p.blk ρ j:=fun j p hj=>Ob.blk_mono fun k hk'=>hρ j k ⟨p,hj,hk'⟩
 have part : ∀(j:Nat) (p:Ob),heap'[j]? = some p→(heap[j]? = some p)∨(∃q,j=N+q∧L[q]? = some p):=fun j p hj=>(hat.part hj).elim (fun h=>.inl h.1) .inr
 refine ⟨fun j p hj=>?_,fun j k p q b hj hk' hp hq=>?_,fun j p b hj hp=>?_,hzy,fun b hb=>?_⟩
 ·rcases part j p hj with hj|⟨q,rfl,hq⟩
  ·exact Ob.holds_mono (fun x v hx=>hx.mono hkn hz' hy') (fun k hk'=>hρ j k ⟨p,hj,hk'⟩) hz' (fun b hb'=>hk b (h.own j p b hj hb').1) (h.obs j p hj)
  ·exact hL q p hq
 ·rcases part j p hj with hj|⟨m,rfl,hm⟩<;>rcases part k q hk' with hk'|⟨n,rfl,hn⟩
  ·rw [same j p hj] at hp
   rw [same k q hk'] at hq
   exact h.apart j k p q b hj hk' hp hq
  ·rw [same j p hj] at hp
   have:=(h.own j p b hj hp).1
   have:=(ho n q b hn hq).1
   omega
  ·rw [same k q hk'] at hq
   have:=(h.own k q b hk' hq).1
   have:=(ho m p b hm hp).1
   omega
  ·rw [ha m n p q b hm hn hp hq]
 ·rcases part j p hj with hj|⟨q,rfl,hq⟩
  ·rw [same j p hj] at hp
   have h1:=h.own j p b hj hp
   refine ⟨jV h1.1 hs,fun hb=>?_⟩
   rcases hyn b hb with e|e
   ·exact h1.2 e
   ·omega
  ·exact (ho q p b hq hp).2
 ·rcases hyn b hb with e|e
  ·exact jV (h.ylt b e) hs
  ·exact e.2
theorem EH.freeze (h:EH heap w ρ Z Y) {E:TypeId} {size:Nat} {els:List (List Tr)} (hi:heap[i]? = some (.row k E size els)) :
  EH (heap.set i (.gone k)) w ρ (fun b=>Z b∨(Ob.row k E size els).blk ρ i=some b) (fun b=>Y b∨(Ob.row k E size els).blk ρ i=some b):=by
 have hkn : ∀j k',Kn heap j k'→Kn (heap.set i (.gone k)) j k'∧ρ j k'=ρ j k':=fun j k' hj=>⟨hj.set hi (fV _),rfl⟩
 have old : ∀(j:Nat) (p:Ob),(heap.set i (.gone k))[j]? = some p→(j≠i∧heap[j]? = some p)∨p = .gone k:=fun j p hj=>by
  rw [gY] at hj
  split at hj
  ·split at hj<;>cases hj
   exact .inr rfl
  ·rename_i e;exact .inl ⟨Ne.symm e,hj⟩
 refine ⟨fun j p hj=>?_,fun j m p q b hj hm hp hq=>?_,fun j p b hj hp=>?_,fun b hb=>hb.elim (fun h1=>.inl (h.zy b h1)) .inr,fun b hb=>hb.elim (h.ylt b) fun e=>(h.own i _ b hi e).1⟩
 ·rcases old j p hj with ⟨hne,hj⟩|rfl
  ·exact Ob.holds_mono (fun x v hx=>hx.mono hkn (fun b hb=>⟨.inl hb,rfl⟩) (fun b hb=>⟨.inl hb,rfl⟩)) (fun _ _=>rfl) (fun b hb=>⟨.inl hb,rfl⟩) (fun _ _=>rfl) (h.obs j p hj)
  ·trivial
 ·rcases old j p hj with ⟨_,hj⟩|rfl
  ·rcases old m q hm with ⟨_,hm⟩|rfl
   ·exact h.apart j m p q b hj hm hp hq
   ·cases hq
  ·cases hp
 ·rcases old j p hj with ⟨hne,hj⟩|rfl
  ·have h1:=h.own j p b hj hp
   refine ⟨h1.1,fun hb=>?_⟩
   rcases hb with hb|hb
   ·exact h1.2 hb
   ·exact hne (h.apart j i p _ b hj hi hp hb)
  ·cases hp
end
structure Env where
 W:World
 D:Nat→Prop
 H:List Ob
 ρ:Rho
 Z:Nat→Prop
 Y:Nat→Prop
 big : ∀b,W.heap.size≤b→D b
 yd : ∀b,Y b → ¬D b
structure Ok (e:Env) (heap:List Ob) (w:World) (ρ:Rho) (Z Y:Nat→Prop):Prop where
 rep:EH heap w ρ Z Y
 dom : ∀(i:Nat) (o:Ob) (b:Nat),heap[i]? = some o→o.blk ρ i=some b→e.D b
 zone : ∀b,Z b→e.Z b∨e.D b
 z0 : ∀b,e.Z b→Z b
 y0 : ∀b,e.Y b→Y b
 rho : ∀i k,Kn e.H i k→Kn heap i k∧ρ i k=e.ρ i k
 os:w.os=e.W.os
 tape:w.tape=e.W.tape
 output:w.output=e.W.output
 size:e.W.heap.size≤w.heap.size
 keep : ∀b,¬e.D b→w.heap[b]? = e.W.heap[b]?
structure Fr where
 n:Nat
 h:Nat
structure St where
 n:Fr
 tmps:Nat→AV
 heap:List Ob
structure Rp (e:Env) (α:St) (a:Act) (w:World) (ρ:Rho) (Z Y:Nat→Prop):Prop where
 ok:Ok e α.heap w ρ Z Y
 defers:a.defers=[]
 n:a.tmps.size=α.n.n
 hl:e.H.length≤α.n.h
 at_ : ∀(t:Nat) v,a.tmps[t]? = some v→Val (Kn α.heap) ρ w Z Y (α.tmps t) v
def Rep (e:Env) (α:St) (a:Act) (w:World):Prop:=∃ρ Z Y,Rp e α a w ρ Z Y
end Go.Proofs.YtccefppppedgkaaGreat
namespace Go.Proofs.YtccefppppedgkaaGreat
open Go.RowKit
inductive JQ where
 |val (c:Value)
 |any (p:Value→Prop) (R:Value→Nat→Nat→World→Prop)
def JQ.pure:JQ→Value→Prop
 |.val c,v=>v=c
 |.any p _,v=>p v
def JQ.fact:JQ→Value→Nat × Nat→World→Prop
 |.val _,_,_,_=>True
 |.any _ R,v,g,w=>R v g.1 g.2 w
def JQ.own:JQ→Nat × Nat→Nat→Prop
 |.val _,_,_=>False
 |.any _ _,g,k=>g.1≤k∧k<g.2
def JQ.good (S:JQ):Prop:=(∃v,S.pure v) ∧ ∀v g w w',Below w.heap.size w w'→S.fact v g w→S.fact v g w'
theorem JQ.good_val (c:Value):(JQ.val c).good:=⟨⟨c,rfl⟩,fun _ _ _ _ _ _=>trivial⟩
abbrev JI:=List (Option Tmp × Value × (Nat × Nat) × JQ)
def XH (P:Program) (ops:Array Oper) (w0:World) (o:Oper) (a:Act) (F:JI) (S:JQ):Prop :=
 ∀w,Below w0.heap.size w0 w→(∀x∈F,(∃t,x.1=some t∧t∈o.looksAt ops)→x.2.2.2.fact x.2.1 x.2.2.1 w) →
  if Region.wanted o (yielded ops a.tmps) then o.wp P a w (fun a' w'=>a'.defers=a.defers∧Below w.heap.size w w' ∧ ∃v,a'=a.put o.dst v∧S.pure v∧S.fact v (w.heap.size,w'.heap.size) w') (fun _ _ _=>False)
  else S.pure undef∧S.fact undef (w.heap.size,w.heap.size) w
def MB (P:Program) (ops:Array Oper) (o:Oper) (a:Act) (c:Value):Prop :=
 ∀w,if Region.wanted o (yielded ops a.tmps) then o.wp P a w (fun a' w'=>a'.defers=a.defers∧w'=w ∧ ∃v,a'=a.put o.dst v∧v=c) (fun _ _ _=>False) else c=undef
def MY (P:Program) (ops:Array Oper) (o:Oper) (a:Act):Value :=
 if Region.wanted o (yielded ops a.tmps) then (match (execOp a.eval o).run P default with|.ok (.value v) _=>v|_=>undef) else undef
def AcM (w0 w:World) (F:JI):Prop :=
 (∀x∈F,∀k,x.2.2.2.own x.2.2.1 k→w0.heap.size≤k∧k<w.heap.size) ∧ ∀x∈F,∀y∈F,x.1≠y.1 → ∀k,x.2.2.2.own x.2.2.1 k → ¬y.2.2.2.own y.2.2.1 k
inductive Cls where
 |head (S:JQ)
 |free
 |tail
def Cls.kind:Cls→Nat
 |.head _=>0
 |.free=>1
 |.tail=>2
def Cls.spec:Cls→JQ
 |.head S=>S
 |.free=>.val undef
 |.tail=>.val undef
def ZN (Q:Exit→Act→World→Prop):Exit→Act→World→Prop:=fun e a w=>e = .normal∧Q .normal a w
def DW (P:Program) (ops:Array Oper) (w0:World) (Q:Exit→Act→World→Prop):List Cls→List Oper→Act→JI→List Oper→Prop
 | [],[],a,F,T=>∀w,Below w0.heap.size w0 w→(∀x∈F,x.2.2.2.fact x.2.1 x.2.2.1 w)→AcM w0 w F→wpList P ops (ZN Q) T a w
 |.head S::Ss,o::rest,a,F,T=>S.good∧XH P ops w0 o a F S ∧ ∀v g,S.pure v→DW P ops w0 Q Ss rest (a.put o.dst v) ((o.dst,v,g,S)::F) T
 |.free::Ss,o::rest,a,F,T=>MB P ops o a (MY P ops o a) ∧ ∀g,DW P ops w0 Q Ss rest (a.put o.dst (MY P ops o a)) ((o.dst,MY P ops o a,g,.val (MY P ops o a))::F) T
 |.tail::Ss,o::rest,a,F,T=>DW P ops w0 Q Ss rest a F (T++[o])
 |_,_,_,_,_=>False
theorem u8_ (a:Act) (d:Option Tmp) (v:Value) (t:Nat):(a.put d v).tmps[t]? = if d=some t then (if t<a.tmps.size then some v else none) else a.tmps[t]? := by
 cases d with
 |none=>simp [Act.put]
 |some e =>
  by_cases h:e=t
  ·subst h;simp [Act.put,Array.getElem?_setIfInBounds]
  ·simp [Act.put,h]
theorem n3_ (a:Act) (d:Option Tmp) (v:Value):(a.put d v).defers=a.defers:=by cases d<;>rfl
section
variable {P:Program} {ops:Array Oper} {w0:World} {Q:Exit→Act→World→Prop} {Ss:List Cls} {o:Oper} {rest:List Oper} {a:Act} {F:JI} {T:List Oper}
theorem DW.skip {c:Value} (hw:Region.wanted o (yielded ops a.tmps)=false) (hc:c=undef)
  (k : ∀g,DW P ops w0 Q Ss rest (a.put o.dst c) ((o.dst,c,g,.val c)::F) T):DW P ops w0 Q (.head (.val c)::Ss) (o::rest) a F T:=by
 subst hc
 refine ⟨JQ.good_val _,fun w hb hx=>?_,fun v g hv=>by cases hv;exact k g⟩
 rw [hw]
 exact ⟨rfl,trivial⟩
theorem DW.loose (c:Value) (hw:Region.wanted o (yielded ops a.tmps)=true) (hr : ∀w,(execOp a.eval o).run P w = .ok (.value c) w)
  (k : ∀g,DW P ops w0 Q Ss rest (a.put o.dst c) ((o.dst,c,g,.val c)::F) T):DW P ops w0 Q (.free::Ss) (o::rest) a F T:=by
 have e:MY P ops o a=c:=by unfold MY;rw [fR hw,hr]
 refine ⟨fun w=>?_,by rw [e];exact k⟩
 rw [fR hw,e]
 unfold Oper.wp
 rw [hr]
 exact ⟨n3_ _ _ _,rfl,c,rfl,rfl⟩
end
def fr (a0:Act) (d:Nat→Option Tmp) (L:Nat→Bool) (vals:Nat→Value):Nat→Act
 |0=>a0
 |k+1=>if L k then (fr a0 d L vals k).put (d k) (vals k) else fr a0 d L vals k
section
variable {a0:Act} {d:Nat→Option Tmp} {L:Nat→Bool} {vals:Nat→Value}
end
def upd {α:Type} (f:Nat→α) (i:Nat) (v:α):Nat→α:=fun j=>if j=i then v else f j
def CB (o:Oper):List Nat:=(o.after.toList.filter (Region.binds .any ·)).map (·.on)
def BcC (ops:List Oper):List (List Nat) :=
 ops.foldl (fun acc o=>acc++[((CB o).flatMap fun j=>j::acc.getD j []).eraseDups]) []
def chk (ops:List Oper) (K:List Nat):Bool :=
  let A:=BcC ops
  let n:=ops.length
  let D:=ops.map (·.dst)
  let Ar:=ops.toArray
  let kd:=fun j=>K.getD j 2
  K.length==n&&(K.all (· < 3)) &&
  ((List.range n).all fun i=>match ops[i]? with
    |none=>true
    | some o =>
      (CB o).all (· < i) &&
      ((A.getD i []).all fun j=>(CB o).contains j||(CB o).any fun m=>m<i&&(A.getD m []).contains j) &&
      (match o.op with|.select _ _=>false|_=>true) &&
      (if kd i==2 then
        ((List.range n).all fun j=>j==i||(if kd j==0 then (A.getD i []).contains j else if kd j==2 then !(j<i)||(A.getD i []).contains j else
          match D.getD j none with
          |none=>true
          |some t => !(o.looksAt Ar).contains t||(j<i&&(A.getD i []).contains j)))
       else
        ((A.getD i []).all fun j=>kd j != 2) &&
        (match D.getD i none with|none=>true|some t => !(o.looksAt Ar).contains t) &&
        ((List.range n).all fun j=>j==i||match D.getD j none with
          |none=>true
          |some t=>D.getD i none != some t&&(!(o.looksAt Ar).contains t||(if kd j==2 then (A.getD j []).contains i else j<i&&(A.getD i []).contains j)))))
def UZ:List Cls→List Oper→List Oper
 |c::C,o::rest=>if c.kind=2 then o::UZ C rest else UZ C rest
 |_,_=>[]
def KT (C:List Cls) (j:Nat):Bool:=match C[j]? with
 |some c=>c.kind != 2
 |none=>false
section
variable {P:Program} {ops:Array Oper} {w0:World} {Q:Exit→Act→World→Prop}
def AwJ (P:Program) (ops:Array Oper) (C:List Cls) (rest:List Oper) (a:Act) (vals:Nat→Value):Prop :=
 ∀(i:Nat) (c:Cls) (o:Oper),C[i]? = some c→rest[i]? = some o→match c with
  |.head S=>S.pure (vals i)
  |.free=>vals i=MY P ops o (fr a (fun j=>(rest[j]?).bind (·.dst)) (KT C) vals i)
  |.tail=>True
def Cls.specOf (c:Cls) (v:Value):JQ:=match c with
 |.head S=>S
 |_=>.val v
theorem DW.steps : ∀(C:List Cls) (rest:List Oper) (a:Act) (F:JI) (T:List Oper),DW P ops w0 Q C rest a F T → ∀(vals:Nat→Value) (gh:Nat→Nat × Nat),AwJ P ops C rest a vals →
  (∀i (c:Cls),C[i]? = some c → ∃o,rest[i]? = some o∧(∀S,c = .head S→S.good ∧ ∃F':JI,XH P ops w0 o (fr a (fun j=>(rest[j]?).bind (·.dst)) (KT C) vals i) F' S ∧
   ∀x∈F',x∈F ∨ ∃j,∃c':Cls,j<i∧C[j]? = some c'∧c'.kind≠2∧x=((rest[j]?).bind (·.dst),vals j,gh j,c'.specOf (vals j))) ∧
   (c = .free→MB P ops o (fr a (fun j=>(rest[j]?).bind (·.dst)) (KT C) vals i) (vals i))) ∧
  (∃F':JI,(∀w,Below w0.heap.size w0 w→(∀x∈F',x.2.2.2.fact x.2.1 x.2.2.1 w)→AcM w0 w F'→wpList P ops (ZN Q) (T++UZ C rest) (fr a (fun j=>(rest[j]?).bind (·.dst)) (KT C) vals C.length) w) ∧
   ∀x∈F',x∈F ∨ ∃j,∃c':Cls,C[j]? = some c'∧c'.kind≠2∧x=((rest[j]?).bind (·.dst),vals j,gh j,c'.specOf (vals j))):=by
 intro C
 induction C with
 |nil =>
  intro rest a F T h vals gh hv
  match rest,h with
  | [],h=>exact ⟨fun i S hi=>by simp at hi,F,by intro w hw hx hap;unfold DW at h;simpa [UZ,fr] using h w hw hx hap,fun x hx=>.inl hx⟩
  |_::_,h=>exact h.elim
 | cons c C ih =>
  intro rest a F T h vals gh hv
  match rest,h with
  | [],h=>cases c<;>exact h.elim
  | o::rest,h =>
   -- what every case shares: the frame behind the first operation
   have hput : ∀(b:Bool),KT (c::C) 0=b → ∀k,fr (if b then a.put o.dst (vals 0) else a) (fun j=>(rest[j]?).bind (·.dst)) (KT C) (fun j=>vals (j+1)) k=fr a (fun j=>((o::rest)[j]?).bind (·.dst)) (KT (c::C)) vals (k+1):=by
    intro b hb k
    induction k with
    |zero=>simp only [fr,hb];rfl
    |succ k ihk =>
     rw [fr,ihk]
     conv=>rhs;rw [fr]
     have:KT (c::C) (k+1)=KT C k:=by simp [KT]
     rw [this];rfl
   have hv' : ∀(b:Bool),KT (c::C) 0=b→AwJ P ops C rest (if b then a.put o.dst (vals 0) else a) (fun j=>vals (j+1)):=by
    intro b hb i c' o' hi ho'
    have:=hv (i+1) c' o' eX (by simpa using ho')
    rw [hput b hb]
    exact this
   have main : ∀(a1:Act) (F1:JI) (T1:List Oper) (b:Bool),KT (c::C) 0=b→a1=(if b then a.put o.dst (vals 0) else a)→T1++UZ C rest=T++UZ (c::C) (o::rest) →
     (∀x∈F1,x∈F∨(c.kind≠2∧x=(o.dst,vals 0,gh 0,c.specOf (vals 0))))→DW P ops w0 Q C rest a1 F1 T1 →
     (∀S,c = .head S→S.good∧XH P ops w0 o a F S)→(c = .free→MB P ops o a (vals 0)) →
     (∀i (c':Cls),(c::C)[i]? = some c' → ∃o',(o::rest)[i]? = some o'∧(∀S,c' = .head S→S.good ∧ ∃F':JI,XH P ops w0 o' (fr a (fun j=>((o::rest)[j]?).bind (·.dst)) (KT (c::C)) vals i) F' S ∧
      ∀x∈F',x∈F ∨ ∃j,∃c'':Cls,j<i∧(c::C)[j]? = some c''∧c''.kind≠2∧x=(((o::rest)[j]?).bind (·.dst),vals j,gh j,c''.specOf (vals j))) ∧
      (c' = .free→MB P ops o' (fr a (fun j=>((o::rest)[j]?).bind (·.dst)) (KT (c::C)) vals i) (vals i))) ∧
     (∃F':JI,(∀w,Below w0.heap.size w0 w→(∀x∈F',x.2.2.2.fact x.2.1 x.2.2.1 w)→AcM w0 w F'→wpList P ops (ZN Q) (T++UZ (c::C) (o::rest)) (fr a (fun j=>((o::rest)[j]?).bind (·.dst)) (KT (c::C)) vals (c::C).length) w) ∧
      ∀x∈F',x∈F ∨ ∃j,∃c':Cls,(c::C)[j]? = some c'∧c'.kind≠2∧x=(((o::rest)[j]?).bind (·.dst),vals j,gh j,c'.specOf (vals j))):=by
    intro a1 F1 T1 b hb ha1 hT hF1 hch hs hf
    subst ha1
    obtain ⟨h1,F2,h2,h3⟩:=ih rest _ F1 T1 hch (fun j=>vals (j+1)) (fun j=>gh (j+1)) (hv' b hb)
    have lift : ∀x,(x∈F1 ∨ ∃j,∃c':Cls,C[j]? = some c'∧c'.kind≠2∧x=((rest[j]?).bind (·.dst),vals (j+1),gh (j+1),c'.specOf (vals (j+1)))) →
      x∈F ∨ ∃j,∃c':Cls,(c::C)[j]? = some c'∧c'.kind≠2∧x=(((o::rest)[j]?).bind (·.dst),vals j,gh j,c'.specOf (vals j)):=by
     rintro x (hx|⟨j,c',hj,hk,rfl⟩)
     ·rcases hF1 x hx with hx|⟨hk,rfl⟩
      ·exact .inl hx
      ·exact .inr ⟨0,c,rfl,hk,rfl⟩
     ·exact .inr ⟨j+1,c',by simpa using hj,hk,rfl⟩
    refine ⟨fun i c' hi=>?_,F2,fun w hw hx hap=>?_,fun x hx=>lift x (h3 x hx)⟩
    ·cases i with
     |zero =>
      simp at hi;subst hi
      refine ⟨o,rfl,fun S hS=>⟨(hs S hS).1,F,by simpa [fr] using (hs S hS).2,fun x hx=>.inl hx⟩,fun hv=>by simpa [fr] using hf hv⟩
     | succ i =>
      obtain ⟨o',ho',hg1,hg2⟩:=h1 i c' eX
      refine ⟨o',by simpa using ho',fun S hS=>?_,fun hv=>by rw [←hput b hb];exact hg2 hv⟩
      obtain ⟨hg,F',hst,hF'⟩:=hg1 S hS
      refine ⟨hg,F',by rw [←hput b hb];exact hst,fun x hx=>?_⟩
      rcases hF' x hx with hx|⟨j,c'',hlt,hj,hk,rfl⟩
      ·rcases hF1 x hx with hx|⟨hk,rfl⟩
       ·exact .inl hx
       ·exact .inr ⟨0,c,by omega,rfl,hk,rfl⟩
      ·exact .inr ⟨j+1,c'',by omega,by simpa using hj,hk,rfl⟩
    ·have:=h2 w hw hx hap
     rw [hput b hb,hT] at this
     exact this
   cases c with
   | head S =>
    obtain ⟨hg,hs,hk⟩:=h
    have hv0:S.pure (vals 0):=hv 0 (.head S) o rfl rfl
    exact main _ _ T true rfl rfl (by simp [UZ,Cls.kind]) (fun x hx=>by
     rcases iH.1 hx with rfl|hx
     ·exact .inr ⟨by simp [Cls.kind],rfl⟩
     ·exact .inl hx) (hk _ (gh 0) hv0) (fun S' hS'=>by cases hS';exact ⟨hg,hs⟩) (fun hv=>by cases hv)
   |free =>
    obtain ⟨hs,hk⟩:=h
    have hv0:vals 0=MY P ops o a:=hv 0 .free o rfl rfl
    rw [←hv0] at hs hk
    refine main _ _ T true rfl rfl (by simp [UZ,Cls.kind]) (fun x hx=>?_) (hk (gh 0)) (fun S' hS'=>by cases hS') (fun _=>hs)
    rcases iH.1 hx with rfl|hx
    ·exact .inr ⟨by simp [Cls.kind],rfl⟩
    ·exact .inl hx
   |tail =>
    exact main a F (T++[o]) false rfl rfl (by simp [UZ,Cls.kind]) (fun x hx=>.inl hx) h (fun S' hS'=>by cases hS') (fun hv=>by cases hv)
theorem DW.len : ∀(C:List Cls) (rest:List Oper) (a:Act) (F:JI) (T:List Oper),DW P ops w0 Q C rest a F T→(∀S,.head S∈C→S.good)
 | [],_,_,_,_,_,c,h=>by simp at h
 |.head S::C,[],_,_,_,h,_,_=>h.elim
 |.free::C,[],_,_,_,h,_,_=>h.elim
 |.tail::C,[],_,_,_,h,_,_=>h.elim
 |.head S::C,o::rest,a,F,T,h,S',hc=>by
  obtain ⟨hg,_,hk⟩:=h
  obtain ⟨v,hv⟩:=hg.1
  rcases iH.1 hc with e|hc
  ·cases e;exact hg
  ·exact DW.len C rest _ _ _ (hk v (0,0) hv) S' hc
 |.free::C,o::rest,a,F,T,h,S',hc=>by
  rcases iH.1 hc with e|hc
  ·cases e
  ·exact DW.len C rest _ _ _ (h.2 (0,0)) S' hc
 |.tail::C,o::rest,a,F,T,h,S',hc=>by
  rcases iH.1 hc with e|hc
  ·cases e
  ·exact DW.len C rest _ _ _ h S' hc
end
def comp (P:Program) (opl:List Oper) (C:List Cls) (a0:Act) (keep:Nat→Bool) (base:Nat→Value):Nat→Nat→Value
 |0=>base
 |k+1=>if keep k then comp P opl C a0 keep base k else upd (comp P opl C a0 keep base k) k (match opl[k]? with
  |some o=>MY P opl.toArray o (fr a0 (fun j=>(opl[j]?).bind (·.dst)) (KT C) (comp P opl C a0 keep base k) k)
  |none=>undef)
section
variable {P:Program} {opl:List Oper} {C:List Cls} {a0:Act} {keep:Nat→Bool} {base:Nat→Value}
end
theorem AkO (p q:Nat→Bool) (i:Nat) (hp:p i=true) (hq:q i=false) (h : ∀j,j≠i→p j=q j) : ∀n,i<n→(List.range n).countP p=(List.range n).countP q+1:=by
 have same : ∀n,n≤i→(List.range n).countP p=(List.range n).countP q:=by
  intro n hn
  exact List.countP_congr fun j hj=>by rw [h j (by have:=kN.1 hj;omega)]
 intro n hn
 induction n with
 |zero=>omega
 |succ n ih =>
  rw [kG,List.countP_append,List.countP_append]
  by_cases e:i=n
  ·subst e;rw [same i (fV _)];simp [hp,hq]
  ·rw [ih (by omega),List.countP_singleton,List.countP_singleton,h n (fun e'=>e e'.symm)];omega
theorem LH {listed:Array Bool} {n j:Nat} (hs:listed.size=n) (hj:j<n) (b:Bool):listed.getD j b=listed.getD j false:=by
 simp [Array.getD,hs,hj]
theorem ZA {listed:Array Bool} {n i:Nat} (hs:listed.size=n) (hi:i<n) (j:Nat):(listed.setIfInBounds i true).getD j false=upd (fun j=>listed.getD j false) i true j:=by
 unfold upd
 by_cases h:j=i
 ·subst h;simp [iY,hs,hi]
 ·simp [iY,h,Ne.symm h]
theorem n8_ {opl:List Oper} {listed:Array Bool} (hs:listed.size=opl.length) (hall : ∀j,j<opl.length→listed.getD j false=true):Region.ready .any opl.toArray listed=[]:=by
 rw [List.eq_nil_iff_forall_not_mem]
 intro j hj
 obtain ⟨h0,o,ho,_⟩:=mem_ready.1 hj
 have hj':j<opl.length:=by simpa using (Array.getElem?_eq_some_iff.1 ho).1
 rw [LH hs hj',hall j hj'] at h0
 simp at h0
section
variable {K:List Nat} {C:List Cls} {opl:List Oper}
end
theorem AbY {P:Program} {o:Oper} {a b:Act} {G K:Act→World→Prop} {Q Q':Exit→Act→World→Prop} {r:Result Next} (hd:a.defers=b.defers) (h:o.upon P a G (ZN Q) r)
  (hk : ∀D v w',G ({ a with defers:=D }.put o.dst v) w'→K ({ b with defers:=D }.put o.dst v) w'):o.upon P b K Q' r:=by
 have ea:{ a with defers:=a.defers }=a:=rfl
 have eb:{ b with defers:=a.defers }=b:=by rw [hd]
 cases r with
 |halt h' w'=>cases h'<;>first|exact h.elim|exact absurd h.1 (by simp)
 | ok n w' =>
  match n,h with
  |.value v,h=>have:=hk a.defers v w' h;rw [eb] at this;exact this
  |.skip,h=>have:=hk a.defers undef w' h;rw [eb] at this;exact this
  |.defer x,h=>have:=hk (x::a.defers) undef w' h;rw [hd] at this;exact this
  |.enter f args,h =>
   refine Calls.mono h ?_
   intro e w'' he
   cases e with
   |returned v=>have:=hk a.defers v w'' he;rw [eb] at this;exact this
   |panicked c=>exact absurd he.1 (by simp)
   |outgrown=>obtain ⟨_,_,hf⟩:=he;exact absurd hf.1 (by simp)
  |.row r' args,h=>exact Rows.mono h fun v w'' hv=>by have:=hk a.defers v w'' hv;rw [eb] at this;exact this
theorem y9_ {Q:Exit→Act→World→Prop} (h:LetsOut (ZN Q)):False:=by
 obtain ⟨_,_,h⟩:=h;exact absurd h.1 (by simp)
section
variable {P:Program} {opl:List Oper} {K:List Nat} {C:List Cls} {Q:Exit→Act→World→Prop} {a0:Act} {vals:Nat→Value}
end
section
variable {P:Program} {opl:List Oper} {K:List Nat} {C:List Cls} {Q:Exit→Act→World→Prop}
end
end Go.Proofs.YtccefppppedgkaaGreat
namespace Go.Proofs.YtccefppppedgkaaGreat
open Go.RowKit
variable {v:Value} {size bytes:Nat}
section
variable {P:Program} {ops:Array Oper} {Q:Exit→Act→World→Prop} {o:Oper} {rest:List Oper} {a:Act} {w:World} {B:Nat} {own:List Res} {ro:List (World→Prop)}
theorem IF (hw:Region.wanted o (yielded ops a.tmps)=true) (h : ∀K:Act→World→Prop,(∀a w,wpList P ops Q rest a w→K a w)→o.wp P a w K Q):wpList P ops Q (o::rest) a w :=
 wpList_step fun K hK=>by rw [fR hw];exact h K hK
theorem LX (hw:Region.wanted o (yielded ops a.tmps)=true) {w':World} (hr:(execOp a.eval o).run P w = .ok (.value v) w') (k:wpList P ops Q rest (a.put o.dst v) w'):wpList P ops Q (o::rest) a w :=
 IF hw fun K hK=>by unfold Oper.wp;rw [hr];exact hK _ _ k
theorem j2_ (hw:Region.wanted o (yielded ops a.tmps)=true) {w':World} (hr:(execOp a.eval o).run P w = .ok .skip w') (k:wpList P ops Q rest (a.put o.dst undef) w'):wpList P ops Q (o::rest) a w :=
 IF hw fun K hK=>by unfold Oper.wp;rw [hr];exact hK _ _ k
theorem BU {s:Sem Value} {o:Oper} {ρ:Operand→Value} {P:Program} {w w':World} (h:execOp ρ o=(do pure (.value (←s)))) (hr:s.run P w = .ok v w'):(execOp ρ o).run P w = .ok (.value v) w':=by
 rw [h];simp [Sem.run_bind,hr,Result.andThen]
theorem add_add (p:Addr) (m n:Nat):(p.add m).add n=p.add (m+n):=by
 unfold Addr.add
 by_cases hm:m=0<;>by_cases hn:n=0<;>simp [hm,hn,lZ]
theorem OA (b o n:Nat):(⟨b,o,none⟩:Addr).add n=⟨b,o+n,none⟩:=by
 unfold Addr.add;split<;>simp_all
theorem FZ {T:TypeId} {d:TypeDesc} (hu:P.underlying T=some d) (hd:(match d with|.struct _|.array _ _=>true|_=>false)=false) {p:Addr} {u:Value} (hc:w.cell? p=some u):(Instr.loadAt T (.pointer (some p))).run P w = .ok u w:=by
 have:(isAgg T).run P w = .ok false w:=by
  unfold isAgg
  rw [Sem.run_bind,run_underlying hu]
  cases d<;>simp_all [Result.andThen]
 simp [Instr.loadAt,Instr.sureAddr,loadVar,this,hc,Result.andThen,Sem.run,load]
theorem FY {T:TypeId} {d:TypeDesc} (hu:P.underlying T=some d) (hd:(match d with|.struct _|.array _ _=>true|_=>false)=true) {z:Option Value} (hI:(P.info? T).map (fun i=>(i.zero,i.size,i.bytes))=some (z,size,bytes)) {p:Addr} {us:List Value} (hl:us.length=size)
  (hc : ∀j u,us[j]? = some u→w.cell? (p.add j)=some u):(Instr.loadAt T (.pointer (some p))).run P w = .ok (.agg us.toArray) w:=by
 have h1:(isAgg T).run P w = .ok true w:=by
  unfold isAgg
  rw [Sem.run_bind,run_underlying hu]
  cases d<;>simp_all [Result.andThen]
 cases hi:P.info? T with
 |none=>rw [hi] at hI;simp at hI
 |some i =>
  rw [hi] at hI
  simp at hI
  have h2:(sizeOf T).run P w = .ok size w:=by simp [sizeOf,typeInfo,hi,hI.2.1]
  have h3:=run_loadCells_list (P:=P) w p us hc
  rw [hl] at h3
  simp [Instr.loadAt,Instr.sureAddr,loadVar,h1,h2,h3,Result.andThen]
theorem IN {t e:TypeId} (ht:P.underlying t=some (.slice e)):P.elem t=e:=by simp [Program.elem,ht]
theorem EW {e:TypeId} {z:Option Value} (hI:(P.info? e).map (fun i=>(i.zero,i.size,i.bytes))=some (z,size,bytes)):(sizeOf e).run P w = .ok size w:=by
 cases hin:P.info? e with
 |none=>rw [hin] at hI;simp at hI
 |some inf =>
  rw [hin] at hI
  simp at hI
  simp [sizeOf,typeInfo,hin,hI.2.1]
theorem AbM {sa:Option Addr} {n c:Nat} {xs:List Value} (hr:Rs w size sa n c xs) (l h:Nat) (h1:l≤h) (h2:h≤n) :
  Rs w size (if c=l then sa else sa.map (·.add (l*size))) (h-l) (c-l) ((xs.drop (l*size)).take ((h-l)*size)):=by
 have hc:=hr.cap
 have hlen:=hr.len
 have hm:=hr.most
 by_cases e:c=l
 ·rw [fR e]
  have e0:h-l=0:=by omega
  rw [e0]
  refine ⟨by omega,by omega,fun hn=>by have:=hr.none hn;omega,by simp,fun j u hj=>by simp at hj⟩
 ·rw [fT e]
  have hle:(h-l)*size≤(n-l)*size:=iE _ (by omega)
  have hsub:(n-l)*size=n*size-l*size:=Nat.sub_mul ..
  have hln:l*size≤n*size:=iE _ (by omega)
  cases sa with
  |none=>have:=hr.none rfl;omega
  | some b =>
   refine ⟨by omega,by omega,fun hn=>by simp at hn,by simp only [fY,gJ];omega,fun j u hj=>?_⟩
   rw [gN] at hj
   split at hj
   ·rw [gK] at hj
    have:=hr.cells _ u hj
    show w.cell? ((b.add (l*size)).add j)=some u
    rw [add_add];exact this
   ·cases hj
theorem AaM {α:Type} {enc:α→List Value} {z:Array Value} {x:α} (hz:z.toList=enc x) (hs:(enc x).length=size) (n:Nat):(madeCells z (n*size)).toList=(List.replicate n x).flatMap enc:=by
 have hzs:z.size=size:=by rw [←hs, ←hz];simp
 by_cases h0:size=0
 ·have:enc x=[]:=iA (by omega)
  subst h0
  have:(List.replicate n x).flatMap enc=[]:=by simp [this]
  rw [this];simp [madeCells]
 have key : ∀m,(List.range (m*size)).map (fun i=>z[i%z.size]!)=(List.replicate m x).flatMap enc:=by
  intro m
  induction m with
  |zero=>simp
  | succ m ih =>
   rw [lV,List.flatMap_append, ←ih,kF,List.range_add,iP,lW]
   congr 1
   rw [mM,nE,iC, ←hz]
   apply List.ext_getElem
   ·simp [hzs]
   ·intro i h1 h2
    have hi:i<size:=by simpa using h1
    simp only [List.getElem_map,List.getElem_range,Function.comp]
    rw [hzs,lU m size,Nat.mul_add_mod,Nat.mod_eq_of_lt hi,getElem!_pos z i (by omega)]
    simp
 rw [madeCells]
 simp only [Array.toList_map,Array.toList_range]
 exact key n
theorem TJ (w:World) : ∀(fs:List Field) (ps:List (Nat × Nat)),fs.map (fun f=>(f.offset,(P.info? f.type).map (·.size)))=ps.map (fun x=>(x.1,some x.2)) →
  (fs.mapM (fun f=>(do pure (f.offset, ←sizeOf f.type):Sem (Nat × Nat)))).run P w = .ok ps w
 | [],[],_=>rfl
 | [],_::_,h=>by simp at h
 |_::_,[],h=>by simp at h
 | f::fs,x::ps,h=>by
  simp only [gO,List.cons.injEq,Prod.mk.injEq] at h
  obtain ⟨⟨h1,h2⟩,h3⟩:=h
  have ih:=TJ w fs ps h3
  have hs:(sizeOf f.type).run P w = .ok x.2 w:=by
   cases hi:P.info? f.type with
   |none=>rw [hi] at h2;simp at h2
   |some i=>rw [hi] at h2;simp at h2;simp [sizeOf,typeInfo,hi,h2]
  rw [List.mapM_cons]
  simp only [Sem.run_bind,hs,Result.andThen_ok,Sem.run_pure,ih,h1]
def VP (places:List (Nat × Nat)):List Value→List (Nat × Value)→Option (List Value)
 |cells,[]=>some cells
 |cells,(i,v)::rest =>
  match places[i]? with
  |none=>none
  |some (off,size)=>if v.cells.toList.length=size∧off+v.cells.toList.length≤cells.length then VP places (cells.take off++v.cells.toList++cells.drop (off+v.cells.toList.length)) rest else none
theorem SJ : ∀(l:List Value) (k off:Nat) (cells:Array Value),off+k+l.length≤cells.size →
  ((l.zipIdx k).foldl (fun cs (x:Value × Nat)=>cs.setIfInBounds (off+x.2) x.1) cells).toList=cells.toList.take (off+k)++l++cells.toList.drop (off+k+l.length)
 | [],k,off,cells,h=>by simp
 | v::l,k,off,cells,h=>by
  simp only [gF] at h
  have ih:=SJ l (k+1) off (cells.setIfInBounds (off+k) v) bA
  rw [List.zipIdx_cons,lF,ih]
  simp only [Array.toList_setIfInBounds,gF]
  have hlt:off+k<cells.toList.length:=by simp;omega
  rw [List.take_set,List.drop_set_of_lt (by omega)]
  have e1:(cells.toList.take (off+(k+1))).set (off+k) v=cells.toList.take (off+k)++[v]:=by
   rw [show off+(k+1)=off+k+1 by omega,List.take_succ_eq_append_getElem hlt,List.set_append_right _ _ bA]
   simp [kQ (Nat.le_of_lt (by simpa using hlt))]
  rw [e1,show off+(k+1)+l.length=off+k+(l.length+1) by omega]
  simp
theorem r2_ {places:List (Nat × Nat)} : ∀(ps:List (Nat × Value)) (cells cs:List Value),VP places cells ps=some cs→Instr.fill (places.toArray[·]?) cells.toArray ps=some cs.toArray
 | [],cells,cs,h=>by simp [VP] at h;subst h;rfl
 | (i,v)::ps,cells,cs,h=>by
  unfold VP at h
  unfold Instr.fill
  cases hp:places[i]? with
  |none=>rw [hp] at h;cases h
  | some x =>
   obtain ⟨off,size⟩:=x
   rw [hp] at h
   simp only at h
   split at h
   ·rename_i hc
    have hc1:v.cells.size=size:=by simpa using hc.1
    have hc2:off+v.cells.size≤cells.length:=by simpa using hc.2
    simp only [List.getElem?_toArray,hp]
    rw [fT (by simp [hc1];omega)]
    have ih:=r2_ ps _ cs h
    have hf:=SJ v.cells.toList 0 off cells.toArray bA
    have e:v.cells.zipIdx.foldl (fun cs (x:Value × Nat)=>cs.setIfInBounds (off+x.2) x.1) cells.toArray=(cells.take off++v.cells.toList++cells.drop (off+v.cells.toList.length)).toArray:=by
     apply kU.1
     rw [←Array.foldl_toList,Array.toList_zipIdx]
     simpa using hf
    rw [←ih]
    simp only [List.getElem?_toArray]
    exact congrArg (fun c=>Instr.fill (places[·]?) c ps) e
   ·cases h
theorem v6_ {f : FuncId} {fn : Func} (hf : P.funcs[f]? = some fn) (hn : (fn.name == "runtime.NumGoroutine") = false) (hb : fn.body.isNone = false) {args : Array Operand} {tys : Array TypeId}
  (ho:o.op = .call { callee:=.value (.func f),args:=args,argTypes:=tys }) (vs:List Value) (hv:args.toList.map a.eval=vs) (w:World):(execOp a.eval o).run P w = .ok (.enter f vs.toArray) w:=by
 have e:Array.map a.eval args=vs.toArray:=by rw [←hv];apply kU.1;simp
 unfold execOp
 simp only [ho,resolve,Act.eval,Deferred.ofValue,Sem.run_bind,Sem.run_pure,Result.andThen_ok,invoke,callFunc]
 have hn' : ¬ fn.name = "runtime.NumGoroutine" := by simpa using hn
 have hb' : ¬fn.body=none:=fun h=>by rw [h] at hb;simp at hb
 simp [hf,hn',hb',Sem.run,e]
structure Shp (α:Type) where
 val:α→Value
 res:α→List Res
 ro:α→List (World→Prop):=fun _=>[]
theorem p3_ (hw:Region.wanted o (yielded ops a.tmps)=true) {K:Act→World→Prop} (h:wpList P ops (ZN fun _ a w=>K a w) [o] a w):o.wp P a w K (fun _ _ _=>False):=by
 unfold wpList at h
 rw [fR hw] at h
 rcases h with h|⟨_,h⟩
 ·unfold Oper.wp at h ⊢
  have:=AbY (P:=P) (o:=o) (a:=a) (b:=a) (G:=fun a w=>wpList P ops (ZN fun _ a w=>K a w) [] a w) (K:=K) (Q:=fun _ a w=>K a w) (Q':=fun _ _ _=>False) rfl h (fun D v w' hG=>by
   unfold wpList at hG;exact hG.2)
  exact this
 ·exact (y9_ h).elim
variable {w0:World} {Ss:List Cls} {F:JI} {T:List Oper}
def YP:Op→Bool
 |.move _|.pick _ _ _|.build _ _|.binOp _ _ _ _ _|.unOp _ _ _|.convert _ _ _|.slice _ _ _ _ _|.fieldAddr _ _ _|.field _ _ _|.indexAddr _ _ _|.index _ _ _|.extract _ _|.makeInterface _ _|.makeFunc _ _ _=>true
 |_=>false
theorem AaY {o:Oper} (h:YP o.op=true) (ρ:Operand→Value) (P:Program) (w:World):(∃v w',(execOp ρ o).run P w = .ok (.value v) w') ∨ ∃e w',(execOp ρ o).run P w = .halt e w':=by
 have key : ∀s:Sem Value,(∃v w',(do pure (Next.value (←s)):Sem Next).run P w = .ok (.value v) w') ∨ ∃e w',(do pure (Next.value (←s)):Sem Next).run P w = .halt e w':=by
  intro s
  simp only [Sem.run_bind]
  cases s.run P w with
  |ok v w'=>exact .inl ⟨v,w',by simp [Result.andThen]⟩
  |halt e w'=>exact .inr ⟨e,w',by simp [Result.andThen]⟩
 unfold execOp
 cases ho:o.op with
 |pick c x y =>
  simp only [Sem.run_bind]
  cases (asBool (ρ c)).run P w with
  |ok v w'=>exact .inl ⟨_,w',by simp [Result.andThen];rfl⟩
  |halt e w'=>exact .inr ⟨e,w',by simp [Result.andThen]⟩
 |move x=>exact .inl ⟨_,_,rfl⟩
 |build|binOp|unOp|convert|slice|fieldAddr|field|indexAddr|index|extract|makeInterface|makeFunc=>exact key _
 |_=>rw [ho] at h;exact absurd h (by simp [YP])
theorem AnA {a:Act} {t:Nat} {v c:Value} (ht:t<a.tmps.size) (h:a.put (some t) v=a.put (some t) c):v=c:=by
 have:=congrArg (fun x:Act=>x.tmps[t]?) h
 simp only [u8_,jU,ht] at this
 exact kB this
theorem DW.any (c:Value) (hw:Region.wanted o (yielded ops a.tmps)=true) (hp:YP o.op=true) {t:Nat} (hd:o.dst=some t) (ht:decide (t<a.tmps.size)=true)
  (h : ∀w,wpList P ops (ZN fun _ a' w'=>a'.defers=a.defers∧w'=w ∧ ∃v,a'=a.put o.dst v∧v=c) [o] a w)
  (k : ∀g,DW P ops w0 Q Ss rest (a.put o.dst c) ((o.dst,c,g,.val c)::F) T):DW P ops w0 Q (.free::Ss) (o::rest) a F T:=by
 refine DW.loose c hw (fun w=>?_) k
 have hh:=p3_ hw (h w)
 unfold Oper.wp at hh
 rcases AaY hp a.eval P w with ⟨v,w',e⟩|⟨x,w',e⟩
 ·rw [e] at hh ⊢
  obtain ⟨_,rfl,v',h1,rfl⟩:=hh
  rw [hd] at h1
  rw [AnA (by simpa using ht) h1]
 ·rw [e] at hh
  cases x<;>exact hh.elim
def BcA {α:Type} (S:Shp α) (v:Value):Prop:=∃x,v=S.val x
def BbX {α:Type} (S:Shp α) (v:Value) (lo hi:Nat) (w:World):Prop:=∃x,v=S.val x∧Hp lo hi w (S.res x) (S.ro x)
def Shp.spec {α:Type} (S:Shp α):JQ:=.any (BcA S) (BbX S)
theorem Shp.facts {α:Type} {S:Shp α} {g:Nat × Nat} {w:World} (h:S.spec.fact v g w) : ∃x,v=S.val x∧Hp g.1 g.2 w (S.res x) (S.ro x):=h
def KZ (tmps:Array Value) (r:ResultVar):Sem Value:=match r with
 |.tmp t=>pure (tmps.getD t undef)
 |.cell a t=>do loadVar t (←asAddr (tmps.getD a undef))
theorem AbK {tmps:Array Value} (t:Nat) (h:tmps.getD t undef=v):(KZ tmps (.tmp t)).run P w = .ok v w:=by simp [KZ,h]
theorem TW {tmps:Array Value} (x:Nat) {T:TypeId} {p:Addr} (h:tmps.getD x undef = .pointer (some p)) (hv:(Instr.loadAt T (.pointer (some p))).run P w = .ok v w):(KZ tmps (.cell x T)).run P w = .ok v w:=by
 have h2:(loadVar T p).run P w=(Instr.loadAt T (.pointer (some p))).run P w:=by simp [Instr.loadAt,Instr.sureAddr]
 simp [KZ,h,asAddr,h2,hv,Result.andThen]
theorem LP (fn:Func) (tmps:Array Value):results fn tmps=(do let vs ←fn.results.mapM (KZ tmps);pure (if h:vs.size=1 then vs[0] else .tuple vs)):=rfl
section
variable {fn:Func} {R:Ending→World→Prop} {r1 r2 r3 r4:ResultVar} {v1 v2 v3 v4:Value}
end
end
end Go.Proofs.YtccefppppedgkaaGreat
namespace Go.Proofs.YtccefppppedgkaaGreat
open Go.RowKit
abbrev QS:=Exit→(Nat→AV)→List Ob→Prop
def TC (v:Value):AV:=match v with
 |.slice a n c=>bif a.isNone&&(Nat.beq n 0&&Nat.beq c 0) then .nl else .t (.v v)
 |v=>.t (.v v)
def DE (v:Value):AV:=match v with
 |.agg cs=>bif cs.toList.all (·.oneCell') then .agg (cs.toList.map TC) else .any
 |.tuple vs=>bif vs.toList.isEmpty then .tup [] else .any
 |v=>TC v
def pu (T:Nat→AV) (d:Nat) (x:AV):Nat→AV:=fun t=>bif Nat.beq t d then x else T t
def evA (n:Fr) (T:Nat→AV):Operand→AV
 |.tmp t=>bif Nat.blt t n.n then T t else .any
 |.const v=>DE v
 |.global _=>.any
 |.func f=>.fn (.func f) [] []
def lift (e:Env) (n:Fr) (Q:QS):Exit→Act→World→Prop:=fun ex a w=>∃T heap,Q ex T heap∧Rep e ⟨n,T,heap⟩ a w
def AL (P:Program) (ops:Array Oper) (Q:QS) (rest:List Oper) (n:Fr) (T:Nat→AV) (heap:List Ob):Prop :=
 ∀e a w,Rep e ⟨n,T,heap⟩ a w→wpList P ops (lift e n Q) rest a w
theorem BQ {Kn:Nat→Nat→Prop} {ρ:Rho} {w:World} {Z Y:Nat→Prop} {v:Value} (h:v.oneCell'=true):Val Kn ρ w Z Y (TC v) v:=by
 cases v with
 | slice a n c =>
  simp only [TC]
  cases hb:(a.isNone&&(Nat.beq n 0&&Nat.beq c 0)) with
  |true =>
   simp at hb
   obtain ⟨rfl,rfl,rfl⟩:=hb
   exact .nl _
  |false=>exact .t (.v h)
 |_=>exact .t (.v h)
theorem GZ {Kn:Nat→Nat→Prop} {ρ:Rho} {w:World} {Z Y:Nat→Prop} (v:Value):Val Kn ρ w Z Y (DE v) v:=by
 cases v with
 | agg cs =>
  simp only [DE]
  cases hb:cs.toList.all (·.oneCell') with
  | true =>
   have h' : ∀u∈cs.toList,u.oneCell'=true:=iI.1 hb
   have:=Val.agg (Kn:=Kn) (ρ:=ρ) (w:=w) (Z:=Z) (Y:=Y) (l:=cs.toList.map TC) (us:=cs.toList) (by simp) h' (fun j x u hj hu=>by
    rw [gP,hu] at hj
    cases hj
    exact BQ (h' u (fO hu)))
   simpa using this
  |false=>exact .any _
 | tuple vs =>
  simp only [DE]
  cases hb:vs.toList.isEmpty with
  |true =>
   have:vs = #[]:=by simpa using hb
   subst this
   exact .tup (us:=[]) rfl (fun j x u hj=>by simp at hj)
  |false=>exact .any _
 |bool b=>exact BQ (v:=.bool b) rfl
 |int k i=>exact BQ (v:=.int k i) rfl
 |float k b=>exact BQ (v:=.float k b) rfl
 |complex k b c=>exact BQ (v:=.complex k b c) rfl
 |string b=>exact BQ (v:=.string b) rfl
 |pointer b=>exact BQ (v:=.pointer b) rfl
 |slice b c d=>exact BQ (v:=.slice b c d) rfl
 |map b=>exact BQ (v:=.map b) rfl
 |chan b=>exact BQ (v:=.chan b) rfl
 |func b c d=>exact BQ (v:=.func b c d) rfl
 |nilFunc=>exact BQ (v:=.nilFunc) rfl
 |iface b c=>exact BQ (v:=.iface b c) rfl
 |nilIface=>exact BQ (v:=.nilIface) rfl
variable {heap':List Ob}
section
variable {P:Program} {ops:Array Oper} {Q:QS} {rest:List Oper} {o:Oper} {n:Fr} {T:Nat→AV} {heap:List Ob} {e:Env} {a:Act} {w w':World} {ρ ρ':Rho} {Z Z' Y Y':Nat→Prop}
theorem Rp.eval (h:Rp e ⟨n,T,heap⟩ a w ρ Z Y) (x:Operand):Val (Kn heap) ρ w Z Y (evA n T x) (a.eval x):=by
 cases x with
 | tmp t =>
  have hn:a.tmps.size=n.n:=h.n
  by_cases ht:t<n.n
  ·have h1:Nat.blt t n.n=true:=mJ ht
   have h2:a.tmps[t]? = some (a.tmps[t]'(by rw [hn];exact ht)):=mS (by rw [hn];exact ht)
   have:=h.at_ t _ h2
   simp only [evA,h1,kC,Act.eval,iY,h2,jK]
   exact this
  ·have h1:Nat.blt t n.n=false:=by
    cases hb:Nat.blt t n.n
    ·rfl
    ·exact absurd (ZbT hb) ht
   simp only [evA,h1,jX]
   exact .any _
 |const v=>exact GZ v
 |global g=>exact .any _
 |func f=>exact .fn (us:=[]) (vs:=[]) rfl rfl (fun j x u hj=>by simp at hj) (fun j x u hj=>by simp at hj)
theorem Rp.put (h:Rp e ⟨n,T,heap⟩ a w ρ Z Y) (d:Nat) {x:AV} {v:Value} (hv:Val (Kn heap) ρ w Z Y x v):Rp e ⟨n,pu T d x,heap⟩ (a.put (some d) v) w ρ Z Y:=by
 refine ⟨h.ok,h.defers,?_,h.hl,fun t u ht=>?_⟩
 ·have:=h.n
  simpa [Act.put] using this
 ·rw [u8_] at ht
  by_cases e:d=t
  ·subst e
   rw [fR rfl] at ht
   split at ht
   ·cases ht
    simp only [pu,kX,kC]
    exact hv
   ·cases ht
  ·rw [fT (by simpa using e)] at ht
   have h1:Nat.beq t d=false:=by
    cases hb:Nat.beq t d
    ·rfl
    ·exact absurd (jB hb).symm e
   simp only [pu,h1,jX]
   exact h.at_ t u ht
theorem Rp.move (h:Rp e ⟨n,T,heap⟩ a w ρ Z Y) (hok:Ok e heap' w' ρ' Z' Y') (hm : ∀x v,Val (Kn heap) ρ w Z Y x v→Val (Kn heap') ρ' w' Z' Y' x v):Rp e ⟨n,T,heap'⟩ a w' ρ' Z' Y' :=
 ⟨hok,h.defers,h.n,h.hl,fun t v ht=>hm _ _ (h.at_ t v ht)⟩
structure q2_ (w w':World):Prop where
 os:w'.os=w.os
 tape:w'.tape=w.tape
 output:w'.output=w.output
theorem Ok.mono (h:Ok e heap w ρ Z Y) (hr:EH heap' w' ρ' Z' Y') (hρ : ∀j k,Kn heap j k→Kn heap' j k∧ρ' j k=ρ j k) (h3:q2_ w w') (hs:w.heap.size≤w'.heap.size)
  (hdom : ∀(i:Nat) (o:Ob) (b:Nat),heap'[i]? = some o→o.blk ρ' i=some b→e.D b) (hz : ∀b,Z b→Z' b) (hy : ∀b,Y b→Y' b) (hzz : ∀b,Z' b→Z b∨e.D b) (hk : ∀b,b<w.heap.size → ¬e.D b→w'.heap[b]? = w.heap[b]?):Ok e heap' w' ρ' Z' Y':=by
 refine ⟨hr,hdom,fun b hb=>?_,fun b hb=>hz b (h.z0 b hb),fun b hb=>hy b (h.y0 b hb),fun i k hk'=>?_,by rw [h3.os,h.os],by rw [h3.tape,h.tape],by rw [h3.output,h.output],jA h.size hs,fun b hb=>?_⟩
 ·rcases hzz b hb with h1|h1
  ·exact h.zone b h1
  ·exact .inr h1
 ·obtain ⟨h1,h2⟩:=h.rho i k hk'
  obtain ⟨h3,h4⟩:=hρ i k h1
  exact ⟨h3,h4.trans h2⟩
 ·have hlt:b<w.heap.size:=by
   have:=h.size
   rcases Nat.lt_or_ge b e.W.heap.size with h1|h1
   ·omega
   ·exact absurd (e.big b h1) hb
  rw [hk b hlt hb,h.keep b hb]
theorem Ok.turn (h:Ok e heap w ρ Z Y) {i:Nat} {o o':Ob} (hi:heap[i]? = some o) (hv:o.lim≤o'.lim) (hρ : ∀j k,Kn heap j k→ρ' j k=ρ j k) (h3:q2_ w w') (hs:w.heap.size≤w'.heap.size)
  (hk : ∀b,b<w.heap.size→o.blk ρ i≠some b→w'.heap[b]? = w.heap[b]?) (hh:o'.holds (Val (Kn (heap.set i o')) ρ' w' Z Y) ρ' w' Z i)
  (hb : ∀b,o'.blk ρ' i=some b→o.blk ρ i=some b∨(w.heap.size≤b∧b<w'.heap.size)):Ok e (heap.set i o') w' ρ' Z Y:=by
 refine h.mono (h.rep.turn hi hv hρ hs hk hh hb) (fun j k hj=>⟨hj.set hi hv,hρ j k hj⟩) h3 hs (fun j p b hj hp=>?_) (fun _ h=>h) (fun _ h=>h) (fun b hb=>.inl hb) (fun b hlt hD=>hk b hlt fun hb'=>hD (h.dom i o b hi hb'))
 rw [gY] at hj
 split at hj
 ·rename_i he
  subst he
  split at hj<;>cases hj
  rcases hb b hp with h1|h1
  ·exact h.dom i o b hi h1
  ·exact e.big b (jA h.size h1.1)
 ·rw [Ob.blk_mono fun k hk'=>hρ j k ⟨p,hj,hk'⟩] at hp
  exact h.dom j p b hj hp
theorem Ok.push (h:Ok e heap w ρ Z Y) {N:Nat} {L heap':List Ob} (hat:AtL heap N L heap') (hρ : ∀j k,Kn heap j k→ρ' j k=ρ j k) (h3:q2_ w w') (hs:w.heap.size≤w'.heap.size) (hk : ∀b,b<w.heap.size→w'.heap[b]? = w.heap[b]?)
  (hz : ∀b,Z b→Z' b) (hy : ∀b,Y b→Y' b) (hzy : ∀b,Z' b→Y' b) (hyn : ∀b,Y' b→Y b∨(w.heap.size≤b∧b<w'.heap.size)) (hzn : ∀b,Z' b→Z b∨(w.heap.size≤b∧b<w'.heap.size))
  (hL : ∀(q:Nat) (o:Ob),L[q]? = some o→o.holds (Val (Kn heap') ρ' w' Z' Y') ρ' w' Z' (N+q)) (ha : ∀(q r:Nat) (o o':Ob) (b:Nat),L[q]? = some o→L[r]? = some o'→o.blk ρ' (N+q)=some b→o'.blk ρ' (N+r)=some b→q=r)
  (ho : ∀(q:Nat) (o:Ob) (b:Nat),L[q]? = some o→o.blk ρ' (N+q)=some b→w.heap.size≤b∧b<w'.heap.size ∧ ¬Y' b):Ok e heap' w' ρ' Z' Y':=by
 refine h.mono (h.rep.push hat hρ hs hk hz hy hzy hyn hL ha ho) (fun j k hj=>⟨(hat.kn hj).1,hρ j k hj⟩) h3 hs (fun j p b hj hp=>?_) hz hy (fun b hb=>?_) (fun b hlt _=>hk b hlt)
 ·rcases hat.part hj with ⟨hj,_⟩|⟨q,rfl,hq⟩
  ·rw [Ob.blk_mono fun k hk'=>hρ j k ⟨p,hj,hk'⟩] at hp
   exact h.dom j p b hj hp
  ·exact e.big b (jA h.size (ho q p b hq hp).1)
 ·rcases hzn b hb with h1|h1
  ·exact .inl h1
  ·exact .inr (e.big b (jA h.size h1.1))
theorem Ok.push1 (h:Ok e heap w ρ Z Y) {o:Ob} {N:Nat} (hat:AtL heap N [o] heap') {pl:Pl} (h3:q2_ w w') (hs:w.heap.size≤w'.heap.size) (hk : ∀b,b<w.heap.size→w'.heap[b]? = w.heap[b]?)
  (hL : ∀ρ':Rho,(∀k,ρ' N k=pl)→(∀j k,Kn heap j k→ρ' j k=ρ j k)→o.holds (Val (Kn heap') ρ' w' Z Y) ρ' w' Z N)
  (ho : ∀b,pl.a.map (·.block)=some b→o.blk (fun _ _=>pl) 0=some b→w.heap.size≤b∧b<w'.heap.size) :
  ∃ρ':Rho,Ok e heap' w' ρ' Z Y∧(∀x v,Val (Kn heap) ρ w Z Y x v→Val (Kn heap') ρ' w' Z Y x v)∧(∀k,ρ' N k=pl) ∧ ∀j k,Kn heap j k→ρ' j k=ρ j k:=by
 let ρ':Rho:=fun j k=>if j=N then pl else ρ j k
 have hρ : ∀j k,Kn heap j k→ρ' j k=ρ j k:=fun j k hj=>fT ((hat.kn hj).2 0 (by simp))
 have hN : ∀k,ρ' N k=pl:=fun k=>fR rfl
 have hy' : ∀b,Y b→Y b∧w'.heap[b]? = w.heap[b]? := fun b hb=>⟨hb,hk b (h.rep.ylt b hb)⟩
 refine ⟨ρ',h.push hat hρ h3 hs hk (fun _ h=>h) (fun _ h=>h) h.rep.zy (fun b hb=>.inl hb) (fun b hb=>.inl hb) (fun q p hq=>?_) (fun q r p p' b hq hr _ _=>?_) (fun q p b hq hp=>?_),fun x v hv=>h.rep.val (fun j k hj=>⟨(hat.kn hj).1,hρ j k hj⟩) (fun _ h=>h) hy' hv,hN,hρ⟩
 ·cases q with
  |zero=>simp at hq;subst hq;exact hL ρ' hN hρ
  |succ q=>simp at hq
 ·have:=get_lt hq
  have:=get_lt hr
  simp at *
  omega
 ·cases q with
  | zero =>
   simp at hq;subst hq
   have e1:o.blk ρ' (N+0)=o.blk (fun _ _=>pl) 0:=Ob.blk_mono fun k _=>hN k
   rw [e1] at hp
   have e2:pl.a.map (·.block)=some b:=by
    cases o with
    |box=>exact hp
    |row=>simp only [Ob.blk] at hp;split at hp;cases hp;exact hp
    |gone=>cases hp
    |hole=>cases hp
    |mp=>exact hp
   have:=ho b e2 hp
   exact ⟨this.1,this.2,fun hy=>by have:=h.rep.ylt b hy;omega⟩
  |succ q=>simp at hq
def AD (n:Fr) (T:Nat→AV) (ops:Array Oper) (o:Oper):Bool :=
 match o.guard with
 |none=>true
 | some (j,want)=>match (ops[j]?).bind (·.dst) with
  |some d=>match evA n T (.tmp d) with
   |.t (.v (.bool b))=>b==want
   |_=>false
  |none=>false
def LS (n:Fr) (T:Nat→AV) (ops:Array Oper) (o:Oper):Bool :=
 match o.guard with
 |none=>false
 | some (j,want)=>match (ops[j]?).bind (·.dst) with
  |some d=>match evA n T (.tmp d) with
   |.t (.v (.bool b)) => !(b==want)
   |.tup []=>true
   |_=>false
  |none=>false
theorem Rp.wanted (h:Rp e ⟨n,T,heap⟩ a w ρ Z Y) (hw:AD n T ops o=true):Region.wanted o (yielded ops a.tmps)=true:=by
 unfold AD at hw
 unfold Region.wanted
 split at hw
 ·rename_i hg;rw [hg]
 ·rename_i j want hg
  rw [hg]
  split at hw
  ·rename_i d hd
   have hv:=h.eval (.tmp d)
   split at hw
   ·rename_i b hb
    rw [hb] at hv
    simp only [yielded,hd,Option.bind_some]
    cases ht:a.tmps[d]? with
    |none=>simp [Act.eval,iY,ht,undef] at hv;cases hv;rename_i h;cases h
    |some u =>
     simp only [Act.eval,iY,ht,jK] at hv
     cases hv;rename_i h;cases h
     have:b=want:=by simpa using hw
     subst this
     simp
   ·cases hw
  ·cases hw
theorem Rp.skips (h:Rp e ⟨n,T,heap⟩ a w ρ Z Y) (hw:LS n T ops o=true):Region.wanted o (yielded ops a.tmps)=false:=by
 unfold LS at hw
 unfold Region.wanted
 split at hw
 ·cases hw
 ·rename_i j want hg
  rw [hg]
  split at hw
  ·rename_i d hd
   have hv:=h.eval (.tmp d)
   split at hw
   ·rename_i b hb
    rw [hb] at hv
    simp only [yielded,hd,Option.bind_some]
    cases ht:a.tmps[d]? with
    |none=>simp
    |some u =>
     simp only [Act.eval,iY,ht,jK] at hv
     cases hv;rename_i h;cases h
     have:b≠want:=by simpa using hw
     simp [this]
   ·rename_i hb
    rw [hb] at hv
    simp only [yielded,hd,Option.bind_some]
    cases ht:a.tmps[d]? with
    |none=>simp
    |some u =>
     simp only [Act.eval,iY,ht,jK] at hv
     cases hv
     simp
   ·cases hw
  ·cases hw
theorem AL.val {d:Nat} {x:AV} (hw:AD n T ops o=true) (hd:o.dst=some d)
  (h : ∀e a w ρ Z Y,Rp e ⟨n,T,heap⟩ a w ρ Z Y → ∃v,(execOp a.eval o).run P w = .ok (.value v) w∧Val (Kn heap) ρ w Z Y x v) (k:AL P ops Q rest n (pu T d x) heap):AL P ops Q (o::rest) n T heap:=by
 rintro e a w ⟨ρ,Z,Y,hR⟩
 obtain ⟨v,h1,h2⟩:=h e a w ρ Z Y hR
 refine LX (hR.wanted hw) h1 (k e _ _ ⟨ρ,Z,Y,?_⟩)
 rw [hd]
 exact hR.put d h2
theorem AL.act {d:Nat} {x:AV} (hw:AD n T ops o=true) (hd:o.dst=some d)
  (h : ∀e a w ρ Z Y,Rp e ⟨n,T,heap⟩ a w ρ Z Y → ∃v w' ρ' Z' Y',(execOp a.eval o).run P w = .ok (.value v) w'∧Ok e heap' w' ρ' Z' Y'∧(∀x v,Val (Kn heap) ρ w Z Y x v→Val (Kn heap') ρ' w' Z' Y' x v)∧Val (Kn heap') ρ' w' Z' Y' x v)
  (k:AL P ops Q rest n (pu T d x) heap'):AL P ops Q (o::rest) n T heap:=by
 rintro e a w ⟨ρ,Z,Y,hR⟩
 obtain ⟨v,w',ρ',Z',Y',h1,h2,h3,h4⟩:=h e a w ρ Z Y hR
 refine LX (hR.wanted hw) h1 (k e _ _ ⟨ρ',Z',Y',?_⟩)
 rw [hd]
 exact (hR.move h2 h3).put d h4
theorem AL.unit (hw:AD n T ops o=true) (hd:o.dst=none)
  (h : ∀e a w ρ Z Y,Rp e ⟨n,T,heap⟩ a w ρ Z Y → ∃w' ρ' Z' Y',(execOp a.eval o).run P w = .ok .skip w'∧Ok e heap' w' ρ' Z' Y'∧(∀x v,Val (Kn heap) ρ w Z Y x v→Val (Kn heap') ρ' w' Z' Y' x v))
  (k:AL P ops Q rest n T heap'):AL P ops Q (o::rest) n T heap:=by
 rintro e a w ⟨ρ,Z,Y,hR⟩
 obtain ⟨w',ρ',Z',Y',h1,h2,h3⟩:=h e a w ρ Z Y hR
 refine j2_ (hR.wanted hw) h1 (k e _ _ ⟨ρ',Z',Y',?_⟩)
 rw [hd]
 exact hR.move h2 h3
theorem AL.skip {d:Nat} (hw:LS n T ops o=true) (hd:o.dst=some d) (k:AL P ops Q rest n (pu T d (.tup [])) heap):AL P ops Q (o::rest) n T heap:=by
 rintro e a w ⟨ρ,Z,Y,hR⟩
 unfold wpList
 rw [fT (by rw [hR.skips hw];simp),hd]
 exact k e _ _ ⟨ρ,Z,Y,hR.put d (.tup (us:=[]) rfl (fun j x u hj=>by simp at hj))⟩
theorem AL.nil (h:Q .normal T heap):AL P ops Q [] n T heap:=fun e a w hR=>⟨T,heap,h,hR⟩
end
end Go.Proofs.YtccefppppedgkaaGreat
namespace Go.Proofs.YtccefppppedgkaaGreat
open Go.RowKit
variable {size bytes n c tsize:Nat} {T:TypeId}
section
variable {P:Program} {w:World}
theorem FU {t:TypeId} {z:Option Value} (hI:(P.info? t).map (fun i=>(i.zero,i.size,i.bytes))=some (z,size,bytes)) : ∃inf,P.info? t=some inf∧inf.zero=z∧inf.size=size∧inf.bytes=bytes:=by
 cases hi:P.info? t with
 |none=>rw [hi] at hI;simp at hI
 |some i=>rw [hi] at hI;simp at hI;exact ⟨i,rfl,hI.1,hI.2.1,hI.2.2⟩
theorem KB (t ot:TypeId) {e:TypeId} (ht:P.underlying t=some (.slice e)) {inf:TypeInfo} (hin:P.info? e=some inf) {z:Value} (hz:inf.zero=some z) (hzs:z.cells.size=inf.size)
  {sa:Option Addr} {xs:List Value} (hown:(Res.row sa n c e inf.size xs).holds 0 w) (hrs:Rs w inf.size sa n c xs)
  (xa:Option Addr) (m xc:Nat) {news:List Value} (hr:Rs w inf.size xa m xc news) (h1 : ∀u∈news,u.oneCell'=true) (b1:n+m≤maxLen) (b2:(n+m)*inf.bytes≤140737488355328) :
  ∃a' c' w',(Builtin.append_ #[t,t] ot #[.slice sa n c,.slice xa m xc]).run P w = .ok (.slice a' (n+m) c') w'∧(Res.row a' (n+m) c' e inf.size (xs++news)).holds 0 w'∧w.grownBy w' (if c=0 then none else sa.map (·.block)) ∧
   (∀k,(Res.row a' (n+m) c' e inf.size (xs++news)).blk=some k→(if c=0 then none else sa.map (·.block))=some k∨(w.heap.size≤k∧k<w'.heap.size)):=by
 have hlen:(xs++news).length=(n+m)*inf.size:=by rw [fP,hrs.len,hr.len,mW]
 have hsmall:n+m≤9223372036854775807:=by simp only [maxLen] at b1;omega
 by_cases hm:m=0
 ·-- nothing is added
  subst hm
  have hn:news=[]:=iA (by simpa using hr.len)
  subst hn
  refine ⟨sa,c,w,?_,by simpa using hown,⟨rfl,rfl,rfl,fV _,fun _ _ _=>rfl⟩,fun k hk=>.inl hk⟩
  have hcap:=hrs.cap
  cases sa with
  |none =>
   obtain ⟨rfl,rfl⟩:=hrs.none rfl
   cases xa<;>simp [Builtin.append_,run_underlying ht,sizeOf,typeInfo,hin,Builtin.lenOf,Builtin.firstCells,loadCells,loadCellsFrom]
  |some b=>cases xa<;>simp [Builtin.append_,run_underlying ht,sizeOf,typeInfo,hin,Builtin.lenOf,Builtin.firstCells,hcap,storeCells,loadCells,loadCellsFrom]
 ·cases xa with
  |none=>exact absurd (hr.none rfl).1 hm
  | some ax =>
   have hnews : ∀j u,news[j]? = some u→w.cell? (ax.add j)=some u:=hr.cells
   have grown : ∀(old:Nat),old<n+m → ∀(row:Option Nat),
     (Res.row (some ⟨w.heap.size,0,none⟩) (n+m) (grownCap w (n+m) old e) e inf.size (xs++news)).holds 0 (w.drew.alloc (.cells (xs.toArray++news.toArray++Builtin.zeroCells z.cells (grownCap w (n+m) old e-(n+m))) e)) ∧
     w.grownBy (w.drew.alloc (.cells (xs.toArray++news.toArray++Builtin.zeroCells z.cells (grownCap w (n+m) old e-(n+m))) e)) row:=by
    intro old ho row
    have hge:=grownCap_ge w (n+m) old e
    have hcm:grownCap w (n+m) old e≤maxLen:=grownCap_le_maxLen w (n+m) old e b1
    refine ⟨.inr ⟨by omega,hlen,.inr ⟨w.heap.size,_,_,rfl,fX _,heap_alloc_new w.drew _,hge,hcm,?_,?_⟩⟩,⟨rfl,rfl,rfl,by simp,fun k hk _=>heap_alloc_old w.drew _ k hk⟩⟩
    ·simp only [Array.size_append,kZ,size_zeroCells,hzs,hrs.len,hr.len, ←mW]
     congr 1
     omega
    ·simp only [lH,gC]
     rw [←gC, ←hlen]
     exact lP
   have fresh : ∀(o:Obj) (nn cc:Nat) (yy:List Value) (k:Nat) (q:Option Nat),(Res.row (some ⟨w.heap.size,0,none⟩) nn cc e inf.size yy).blk=some k→q=some k∨(w.heap.size≤k∧k<(w.drew.alloc o).heap.size):=by
    intro o nn cc yy k q hk
    simp [Res.blk] at hk
    obtain ⟨_,hk⟩:=hk
    subst hk
    exact .inr ⟨fV _,by simp⟩
   cases sa with
   |none =>
    obtain ⟨rfl,rfl⟩:=hrs.none rfl
    have hxs:xs=[]:=iA (by simpa using hrs.len)
    subst hxs
    have hrun:=run_append_nil (P:=P) w t ot e inf z ht hin hz ax m xc news hr.len hnews (by omega) (by omega) (by have hb:=b2;simp only [gV] at hb;omega)
    have hgr:=grown 0 (by omega) none
    simp only [gV,gU,Array.empty_append] at hgr ⊢
    exact ⟨_,_,_,hrun,hgr.1,hgr.2,fun k hk=>fresh _ _ _ _ k _ hk⟩
   | some ab =>
    by_cases hroom:n+m≤c
    ·have hc0:c≠0:=by omega
     rcases hown with ⟨h0,_,_⟩|⟨hcp,hown⟩
     ·omega
     rcases hown.2 with ⟨he,_⟩|⟨g,cap,cur,he,hbg,hg,hnc,hcm,hcs,htake⟩
     ·simp at he
     simp only [Value.slice.injEq,mN] at he
     obtain ⟨rfl,_,rfl⟩:=he
     have hfit:n*inf.size+news.length≤cur.size:=by rw [hr.len,hcs, ←mW];exact iE _ hroom
     have hrun:=run_append_room (P:=P) w t ot e inf ht hin g n c cur hg ax m xc news hr.len hnews h1 hroom hfit
     refine ⟨_,_,_,hrun,.inr ⟨hcp,hlen,.inr ⟨g,c,_,rfl,hbg,setRow_heap w g cur _ e _ hg,hroom,hcm,?_,?_⟩⟩,⟨rfl,rfl,rfl,by simp,fun k _ hk=>setRow_other w g k _ (fun e=>hk (by simp [e,hc0]))⟩,fun k hk=>.inl (by simpa [Res.blk,hc0] using hk)⟩
     ·simp only [kZ,fP,fY,gJ,mA]
      omega
     ·rw [htake, ←hlen]
      exact lP
    ·have hrun:=run_append_grow (P:=P) w t ot e inf z ht hin hz ab n c xs hrs.len hrs.cells ax m xc news hr.len hnews (by omega) (by omega) (growslice_fits (by omega) b2)
     have hgr:=grown c (by omega) (if c=0 then none else Option.map (·.block) (some ab))
     exact ⟨_,_,_,hrun,hgr.1,hgr.2,fun k hk=>fresh _ _ _ _ k _ hk⟩
theorem g9_ (hs:(sizeOf T).run P w = .ok tsize w) {sa:Option Addr} {m:Nat} {v:Value} {vs:List Value} (hv:v.cells=vs.toArray) (hl:vs.length=tsize) (h1 : ∀u∈vs,u.oneCell'=true)
  {E:TypeId} {xs:List Value} (hown:(Res.row sa n c E size xs).holds 0 w) (hf:m+vs.length≤n*size) (hne:vs≠[]) :
  ∃w',(Instr.storeAt T (.pointer (some ((adr sa).add m))) v).run P w = .ok () w'∧(Res.row sa n c E size (xs.take m++vs++xs.drop (m+vs.length))).holds 0 w'∧w.grownBy w' (if c=0 then none else sa.map (·.block)):=by
 have hpos:0<vs.length:=lI.2 hne
 rcases hown with ⟨_,hn0,_⟩|⟨hcp,hown⟩
 ·rw [hn0,Nat.zero_mul] at hf;omega
 have hc0:c≠0:=by omega
 rcases hown.2 with ⟨he,hn0⟩|⟨g,cap,cur,he,hbg,hg,hnc,hcm,hcs,htake⟩
 ·rw [hn0,Nat.zero_mul] at hf;omega
 simp only [Value.slice.injEq] at he
 obtain ⟨rfl,_,rfl⟩:=he
 have hsz:n*size≤cur.size:=by rw [hcs];exact iE _ hnc
 have hxl:=hown.1
 have hst:=run_storeCells_at P g m E vs 0 cur w hg (by omega) h1
 simp only [iT] at hst
 have hadd:(adr (some ⟨g,0,none⟩)).add m=⟨g,m,none⟩:=by
  show (⟨g,0,none⟩:Addr).add m=_
  rw [OA];simp
 have hxs:xs=cur.toList.take (n*size):=htake.symm
 have hrow:(w.setRow g (cur.toList.take m++vs++cur.toList.drop (m+vs.length)).toArray).ownsRow 0 E size (.slice (some ⟨g,0,none⟩) n c) n (xs.take m++vs++xs.drop (m+vs.length)):=by
  refine ⟨by simp only [fP,fY,gJ];omega,.inr ⟨g,c,_,rfl,hbg,setRow_heap w g cur _ E _ hg,hnc,hcm,?_,?_⟩⟩
  ·simp only [kZ,fP,fY,gJ,mA]
   omega
  ·rw [hxs]
   apply iO
   intro i
   simp only [gN,List.getElem?_append,fP,fY,gK,mA]
   have e1:min m cur.size=m:=by omega
   have e2:min m (min (n*size) cur.size)=m:=by omega
   rw [e1,e2]
   repeat' split
   all_goals first|rfl|(exfalso;omega)|(congr 1;omega)
 refine ⟨w.setRow g (cur.toList.take m++vs++cur.toList.drop (m+vs.length)).toArray,?_,.inr ⟨hcp,hrow⟩,⟨rfl,rfl,rfl,by simp,fun k _ hk=>setRow_other w g k _ (fun e=>hk (by simp [e,hc0]))⟩⟩
 simp [Instr.storeAt,Instr.sureAddr,storeVar,hs,hv,hl,hadd,hst,Result.andThen]
theorem UY (hs:(sizeOf T).run P w = .ok tsize w) {b off:Nat} {v:Value} {vs:List Value} (hv:v.cells=vs.toArray) (hl:vs.length=tsize) (h1 : ∀u∈vs,u.oneCell'=true)
  {T':TypeId} {cs:List Value} (hh:w.heap[b]? = some (.cells cs.toArray T' (0,0))) (hf:off+vs.length≤cs.length) :
  ∃w',(Instr.storeAt T (.pointer (some ⟨b,off,none⟩)) v).run P w = .ok () w'∧w'.heap[b]? = some (.cells (cs.take off++vs++cs.drop (off+vs.length)).toArray T' (0,0))∧w.grownBy w' (some b):=by
 have hst:=run_storeCells_at P b off T' vs 0 cs.toArray w hh (by simpa using hf) h1
 simp only [iT] at hst
 refine ⟨w.setRow b (cs.take off++vs++cs.drop (off+vs.length)).toArray,?_,setRow_heap w b cs.toArray _ T' _ hh,⟨rfl,rfl,rfl,by simp,fun k _ hk=>setRow_other w b k _ (fun e=>hk (by rw [e]))⟩⟩
 simp [Instr.storeAt,Instr.sureAddr,storeVar,hs,hv,hl,hst,Result.andThen]
theorem g8_ {f:Nat} {fs:Array Field} (hu:P.underlying T=some (.struct fs)) {fd:Field} (hf:fs[f]? = some fd)
  {z:Option Value} (hI:(P.info? fd.type).map (fun i=>(i.zero,i.size,i.bytes))=some (z,size,bytes)) (hs:size≠0) (p:Addr):(Instr.fieldAt T (.pointer (some p)) f).run P w = .ok (.pointer (some (p.add fd.offset))) w:=by
 cases hin:P.info? fd.type with
 |none=>rw [hin] at hI;simp at hI
 |some inf =>
  rw [hin] at hI
  simp at hI
  simp [Instr.fieldAt,run_underlying hu,hf,Instr.sureAddr,fieldPlace,sizeOf,typeInfo,hin,hI.2.1,hs,Result.andThen]
theorem v7_ {t:TypeId} {e:TypeId} (ht:P.underlying t=some (.slice e)) {z:Option Value} (hI:(P.info? e).map (fun i=>(i.zero,i.size,i.bytes))=some (z,size,bytes))
  (sa:Option Addr) (n c:Nat) (kd:IntKind) (J:Nat) (h0:sa = .none→n=0) (h1:J<n):(Instr.indexAt t (.slice sa n c) (.int kd (J:Int))).run P w = .ok (.pointer (some ((adr sa).add (J*size)))) w:=by
 cases sa with
 |none=>have:=h0 rfl;omega
 |some b =>
  rw [run_indexAt_slice w t b n c kd J (by rw [IN ht];exact ht),fR ⟨by omega,by omega⟩,IN ht,EW hI]
  rfl
end
end Go.Proofs.YtccefppppedgkaaGreat
namespace Go.Proofs.YtccefppppedgkaaGreat
open Go.RowKit
inductive Rd (heap:List Ob) (s:Nat):AV→List (List Tr)→Prop
 |ln {els:List (List Tr)} (h : ∀cs∈els,cs.length=s):Rd heap s (.ln els) els
 |lst {els:List (List Tr)} (h : ∀cs∈els,cs.length=s):Rd heap s (.t (.lst els)) els
 |nl:Rd heap s .nl []
 |sl {i k m:Nat} {E:TypeId} {els:List (List Tr)} (hi:heap[i]? = some (.row k E s els)) (hm:m≤els.length):Rd heap s (.sl i k m) (els.take m)
 |all {i k m:Nat} {E:TypeId} {els:List (List Tr)} (hi:heap[i]? = some (.row k E s els)) (hm:els.length=m):Rd heap s (.sl i k m) els
 |sub {i k off m:Nat} {E:TypeId} {els:List (List Tr)} (hi:heap[i]? = some (.row k E s els)) (hm:off+m≤els.length):Rd heap s (.sub i k off m) ((els.drop off).take m)
def YB:AV→Option Nat
 |.ln els=>some els.length
 |.t (.lst els)=>some els.length
 |.nl=>some 0
 |.sl _ _ m=>some m
 |.sub _ _ _ m=>some m
 |_=>none
def PC (m:Nat):AV→Option AV
 |.ptr i off=>some (.ptr i (off+m))
 |.rp i k idx off=>some (.rp i k idx (off+m))
 |.lp cs=>some (.lp (cs.drop m))
 |_=>none
def trA:AV→Option Tr
 |.t x=>some x
 |.nl=>some (.lst [])
 |_=>none
def i1_:List AV→Option (List Tr)
 | []=>some []
 |x::l=>match trA x,i1_ l with
  |some y,some m=>some (y::m)
  |_,_=>none
variable {size i k s m:Nat} {E:TypeId} {els:List (List Tr)} {x y:AV} {v:Value}
section
variable {heap:List Ob} {w w':World} {ρ ρ':Rho} {Z Z' Y Y':Nat→Prop}
theorem RD {a:Option Addr} {n c m:Nat} {xs:List Value} (h:Rs w size a n c xs) (hm:m≤n):Rs w size a m c (xs.take (m*size)):=by
 have h1:=h.cap
 have h2:=h.len
 have h3:m*size≤n*size:=iE _ hm
 refine ⟨by omega,h.most,fun e=>⟨by have:=(h.none e).1;omega,(h.none e).2⟩,by rw [fY];omega,fun j u hj=>?_⟩
 rw [gN] at hj
 split at hj
 ·exact h.cells j u hj
 ·cases hj
theorem EH.row (h:EH heap w ρ Z Y) (hi:heap[i]? = some (.row k E s els)) :
  (ρ i k).s=s ∧ ∃xs,BM (Frz w Z) s els xs∧(Res.row (ρ i k).a els.length (ρ i k).c E s xs).holds 0 w∧Rs w s (ρ i k).a els.length (ρ i k).c xs:=by
 obtain ⟨h1,xs,h2,h3⟩:=h.obs i _ hi
 exact ⟨h1,xs,h2,h3,DH h3⟩
theorem YT {R:Tr→Value→Prop} {a:Option Addr} {c:Nat} {xs:List Value} (h : ∀cs∈els,cs.length=s) (hr:Rs w size a els.length c xs) (he:BM R size els xs):Rs w s a els.length c xs∧BM R s els xs:=by
 match els,h,hr,he with
 | [],h,hr,he =>
  have hx:xs=[]:=iA (by rw [he.len];simp)
  subst hx
  exact ⟨⟨hr.cap,hr.most,hr.none,by simp,hr.cells⟩,.nil⟩
 |e::els,h,hr,he =>
  have h1:=h e (kH ..)
  have h2:=he.each e (kH ..)
  rw [h1] at h2;subst h2
  exact ⟨hr,he⟩
theorem Rd.open (hr:EH heap w ρ Z Y) (h:Rd heap s x els) (hv:Val (Kn heap) ρ w Z Y x v) : ∃a c xs,v = .slice a els.length c∧Rs w s a els.length c xs∧BM (Frz w Z) s els xs:=by
 cases h with
 |ln h=>cases hv with
  |ln hr' hz hn he=>subst hn;obtain ⟨h1,h2⟩:=YT h hr' he;exact ⟨_,_,_,rfl,h1,h2⟩
 |lst h=>cases hv with
  |t h'=>obtain ⟨a,c,size,xs,h1,h2,_,h3⟩:=h'.open;obtain ⟨h4,h5⟩:=YT h h2 h3;exact ⟨a,c,xs,h1,h4,h5⟩
 |nl=>cases hv with
  |nl a=>exact ⟨a,0,[],rfl,⟨fV _,fX _,fun _=>⟨rfl,rfl⟩,by simp,fun j u h=>by simp at h⟩,.nil⟩
 | @sl i k m E els hi hm =>
  obtain ⟨h1,xs,h2,h3,h4⟩:=hr.row hi
  cases hv with
  |sl hk hc _ =>
   have e:(els.take m).length=m:=by rw [fY];omega
   rw [e]
   exact ⟨_,_,_,rfl,RD h4 hm,h2.take m⟩
 | @all i k m E els hi hm =>
  obtain ⟨h1,xs,h2,h3,h4⟩:=hr.row hi
  cases hv with
  |sl hk hc _=>subst hm;exact ⟨_,_,_,rfl,h4,h2⟩
 | @sub i k off m E els hi hm =>
  obtain ⟨h1,xs,h2,h3,h4⟩:=hr.row hi
  cases hv with
  | @sub _ _ _ _ a c hk hn hmx h0 ha =>
   have e:((els.drop off).take m).length=m:=by rw [fY,gJ];omega
   rw [e]
   refine ⟨_,_,_,rfl,⟨hn,hmx,h0,?_,fun j u hj=>?_⟩,(h2.drop off).take m⟩
   ·have:=((h2.drop off).take m).len
    rw [e] at this;exact this
   ·rw [gN] at hj
    split at hj
    ·rename_i hlt
     have hm0:m≠0:=by intro e;rw [e] at hlt;simp at hlt
     rw [ha hm0,gK] at *
     show w.cell? (Addr.add ((adr (ρ i k).a).add _) j)=_
     rw [add_add,h1]
     exact h4.cells _ u hj
    ·cases hj
theorem OK {Kn:Nat→Nat→Prop} (h:YB x=some m) (hv:Val Kn ρ w Z Y x v) : ∃a c,v = .slice a m c:=by
 cases hv<;>simp [YB] at h
 ·rename_i x h'
  cases x with
  |v=>cases h
  |lst els=>cases h;obtain ⟨a,c,_,_,e,_⟩:=h'.open;exact ⟨a,c,e⟩
 ·exact ⟨_,_,by rw [h]⟩
 ·rename_i hn _;exact ⟨_,_,by rw [←h,hn]⟩
 ·exact ⟨_,_,by rw [h]⟩
 ·exact ⟨_,_,by rw [h]⟩
theorem h5_ {Kn:Nat→Nat→Prop} (h:PC m x=some y) (hv:Val Kn ρ w Z Y x v) : ∃p,v = .pointer (some p)∧Val Kn ρ w Z Y y (.pointer (some (p.add m))):=by
 cases hv<;>simp [PC] at h<;>subst h
 ·rename_i cs p us hl ho hc hv
  refine ⟨_,rfl,.lp (us:=us.drop m) (by simp [hl]) (fun u hu=>ho u (iF hu)) (fun j u hj=>?_) (fun j x u hj hu=>?_)⟩
  ·rw [gK] at hj
   have:=hc _ u hj
   exact ⟨by rw [DL];exact this.1,by rw [add_add];exact this.2⟩
  ·rw [gK] at hj hu
   exact hv _ x u hj hu
 ·rename_i hk ha;exact ⟨_,rfl,by rw [OA];exact .ptr hk ha⟩
 ·rename_i hk;exact ⟨_,rfl,by rw [add_add,lZ];exact .rp hk⟩
theorem AjA {Kn:Nat→Nat→Prop} {y:Tr} (h:trA x=some y) (hv:Val Kn ρ w Z Y x v):Frz w Z y v:=by
 cases hv<;>simp [trA] at h<;>subst h
 ·assumption
 ·exact .shut (size:=0) (xs:=[]) rfl ⟨fV _,fX _,fun _=>⟨rfl,rfl⟩,rfl,fun j u h=>by simp at h⟩ (fun h=>absurd rfl h) .nil
theorem PJ {Kn:Nat→Nat→Prop} : ∀ {l:List AV} {ts:List Tr} {us:List Value},i1_ l=some ts→AVs (Val Kn ρ w Z Y) l us→ts.length=us.length ∧ ∀(j:Nat) x u,ts[j]? = some x→us[j]? = some u→Frz w Z x u:=by
 intro l
 induction l with
 |nil =>
  intro ts us h hv
  cases h
  have:=hv.len
  exact ⟨this,fun j x u hj=>by simp at hj⟩
 | cons x l ih =>
  intro ts us h hv
  unfold i1_ at h
  split at h
  ·rename_i y m hy hm
   cases h
   match us,hv with
   | [],hv=>have:=hv.len;simp at this
   |u::us,hv =>
    have h1:=ih hm ⟨by have:=hv.len;simpa using this,fun j x u hj hu=>hv.at_ (j+1) x u cU eW⟩
    refine ⟨by simp [h1.1],fun j z v hj hu=>?_⟩
    cases j with
    |zero=>simp at hj hu;subst hj hu;exact AjA hy (hv.at_ 0 x u rfl rfl)
    |succ j=>exact h1.2 j z v cU eW
  ·cases h
end
variable {cs us' cs' us:List AV} {heap':List Ob} {N bytes off idx k':Nat} {ds:TypeDesc} {t' e:TypeId}
section
variable {P:Program} {ops:Array Oper} {Q:QS} {rest:List Oper} {o:Oper} {n:Fr} {T:Nat→AV} {heap:List Ob} {d:Nat}
theorem WY {R R':AV→Value→Prop} {l:List AV} {us:List Value} (h:AVs R l us) (hm : ∀x v,R x v→R' x v):AVs R' l us:=⟨h.len,fun j x u a b=>hm _ _ (h.at_ j x u a b)⟩
theorem A_move (hw:AD n T ops o=true) (hd:o.dst=some d) (x:Operand) (ho:o.op = .move x∨o.op = .assign x) (hx:evA n T x=y) (k:AL P ops Q rest n (pu T d y) heap):AL P ops Q (o::rest) n T heap:=by
 subst hx
 exact AL.val hw hd (fun e a w ρ Z Y hR=>⟨a.eval x,by unfold execOp;rcases ho with ho|ho<;>rw [ho]<;>rfl,hR.eval x⟩) k
theorem ApE (hw:AD n T ops o=true) (hd:o.dst=some d) (t:TypeId) (x:Operand) (ho:o.op = .box t x) (hx:(evA n T x).flat=some cs) (hat:AtL heap N [.box t cs] heap')
  (k:AL P ops Q rest n (pu T d (.ptr N 0)) heap'):AL P ops Q (o::rest) n T heap:=by
 refine AL.act hw hd (fun e a w ρ Z Y hR=>?_) k
 obtain ⟨us,h1,h2,h3⟩:=(hR.eval x).flat hx
 obtain ⟨ρ',k1,k2,k3,k4⟩:=hR.ok.push1 (o:=.box t cs) hat (w':=w.alloc (.cells us.toArray t)) (pl:=⟨some ⟨w.heap.size,0,none⟩,0,0⟩) ⟨rfl,rfl,rfl⟩ (by simp) (fun b hb=>heap_alloc_old w _ b hb) (fun ρ' hN hρ=>⟨w.heap.size,us,by rw [hN],heap_alloc_new w _,WY h2 fun x v hv=>hR.ok.rep.val (fun j k hj=>⟨(hat.kn hj).1,hρ j k hj⟩) (fun _ h=>h) (fun b hb=>⟨hb,heap_alloc_old w _ b (hR.ok.rep.ylt b hb)⟩) hv,h3⟩) (fun b hb _=>by simp at hb;subst hb;simp)
 refine ⟨.pointer (some ⟨w.heap.size,0,none⟩),_,ρ',Z,Y,?_,k1,k2,.ptr ⟨_,hat.one,fV _⟩ (by rw [k3])⟩
 refine BU (s:=Instr.box t (a.eval x)) bD ?_
 simp [Instr.box,newVar,newRow,h1]
theorem p4_ (hw:AD n T ops o=true) (hd:o.dst=some d) (t:TypeId) (ho:o.op = .alloc t) {z:Value} (hI:(P.info? t).map (fun i=>(i.zero,i.size,i.bytes))=some (some z,size,bytes)) (hx:(DE z).flat=some cs)
  (hat:AtL heap N [.box t cs] heap') (k:AL P ops Q rest n (pu T d (.ptr N 0)) heap'):AL P ops Q (o::rest) n T heap:=by
 refine AL.act hw hd (fun e a w ρ Z Y hR=>?_) k
 obtain ⟨us,h1,h2,h3⟩:=(GZ (Kn:=Kn heap) (ρ:=ρ) (w:=w) (Z:=Z) (Y:=Y) z).flat hx
 obtain ⟨inf,hi,hz,_,_⟩:=FU hI
 obtain ⟨ρ',k1,k2,k3,k4⟩:=hR.ok.push1 (o:=.box t cs) hat (w':=w.alloc (.cells us.toArray t)) (pl:=⟨some ⟨w.heap.size,0,none⟩,0,0⟩) ⟨rfl,rfl,rfl⟩ (by simp) (fun b hb=>heap_alloc_old w _ b hb) (fun ρ' hN hρ=>⟨w.heap.size,us,by rw [hN],heap_alloc_new w _,WY h2 fun x v hv=>hR.ok.rep.val (fun j k hj=>⟨(hat.kn hj).1,hρ j k hj⟩) (fun _ h=>h) (fun b hb=>⟨hb,heap_alloc_old w _ b (hR.ok.rep.ylt b hb)⟩) hv,h3⟩) (fun b hb _=>by simp at hb;subst hb;simp)
 refine ⟨.pointer (some ⟨w.heap.size,0,none⟩),_,ρ',Z,Y,?_,k1,k2,.ptr ⟨_,hat.one,fV _⟩ (by rw [k3])⟩
 refine BU (s:=Instr.alloc t true (.tuple #[])) bD ?_
 simp [Instr.alloc,zeroValue,typeInfo,hi,hz,newVar,newRow,h1]
theorem p9_ (hw:AD n T ops o=true) (hd:o.dst=some d) (t:TypeId) (x:Operand) (f:Nat) (ho:o.op = .fieldAddr t x f) {fs:Array Field} (hu:P.underlying t=some (.struct fs)) {fd:Field} (hf:fs[f]? = some fd)
  {z:Option Value} (hI:(P.info? fd.type).map (fun i=>(i.zero,i.size,i.bytes))=some (z,size,bytes)) (hs:size≠0) (m:Nat) (hm:fd.offset=m) (hy:PC m (evA n T x)=some y) (k:AL P ops Q rest n (pu T d y) heap):AL P ops Q (o::rest) n T heap:=by
 subst hm
 refine AL.val hw hd (fun e a w ρ Z Y hR=>?_) k
 obtain ⟨p,h1,h2⟩:=h5_ hy (hR.eval x)
 exact ⟨_,BU (s:=Instr.fieldAt t (a.eval x) f) bD (by rw [h1];exact g8_ hu hf hI hs p),h2⟩
theorem EH.box {w:World} {ρ:Rho} {Z Y:Nat→Prop} (h:EH heap w ρ Z Y) {i:Nat} {t:TypeId} {cs:List AV} (hi:heap[i]? = some (.box t cs)) {off:Nat} {v:Value} (hv:Val (Kn heap) ρ w Z Y (.ptr i off) v) :
  ∃b us,v = .pointer (some ⟨b,off,none⟩)∧(ρ i 0).a=some ⟨b,0,none⟩∧w.heap[b]? = some (.cells us.toArray t (0,0))∧AVs (Val (Kn heap) ρ w Z Y) cs us ∧ ∀u∈us,u.oneCell'=true:=by
 obtain ⟨b,us,h1,h2,h3,h4⟩:=h.obs i _ hi
 cases hv with
 |ptr hk ha=>rw [h1] at ha;cases ha;exact ⟨b,us,rfl,h1,h2,h3,h4⟩
theorem AcJ (hw:AD n T ops o=true) (hd:o.dst=some d) (t:TypeId) (x:Operand) (ho:o.op = .load t x) (hu:P.underlying t=some ds) (hds:(match ds with|.struct _|.array _ _=>true|_=>false)=false)
  (hx:evA n T x = .ptr i off) (hi:heap[i]? = some (.box t' cs)) {u:AV} (hc:cs[off]? = some u) (k:AL P ops Q rest n (pu T d u) heap):AL P ops Q (o::rest) n T heap:=by
 refine AL.val hw hd (fun e a w ρ Z Y hR=>?_) k
 have hv:=hR.eval x
 rw [hx] at hv
 obtain ⟨b,us,h1,_,h2,h3,h4⟩:=hR.ok.rep.box hi hv
 have hlt:=get_lt hc
 rw [h3.len] at hlt
 refine ⟨us[off],BU (s:=Instr.loadAt t (a.eval x)) bD ?_,h3.at_ off u _ hc (ZgE hlt)⟩
 rw [h1]
 exact FZ hu hds (by rw [cell_of_row w b off _ _ _ h2];simp [ZgE hlt])
theorem RN (hw:AD n T ops o=true) (hd:o.dst=some d) (t:TypeId) (x:Operand) (ho:o.op = .load t x) (hu:P.underlying t=some ds) (hds:(match ds with|.struct _|.array _ _=>true|_=>false)=true)
  {z:Option Value} (hI:(P.info? t).map (fun i=>(i.zero,i.size,i.bytes))=some (z,size,bytes)) (hx:evA n T x = .ptr i off) (hi:heap[i]? = some (.box t' cs)) (hc:(cs.drop off).take size=us') (hl:us'.length=size)
  (k:AL P ops Q rest n (pu T d (.agg us')) heap):AL P ops Q (o::rest) n T heap:=by
 subst hc
 refine AL.val hw hd (fun e a w ρ Z Y hR=>?_) k
 have hv:=hR.eval x
 rw [hx] at hv
 obtain ⟨b,us,h1,_,h2,h3,h4⟩:=hR.ok.rep.box hi hv
 have hlen:((us.drop off).take size).length=size:=by
  rw [fY,gJ] at hl ⊢
  rw [h3.len] at hl;exact hl
 refine ⟨.agg ((us.drop off).take size).toArray,BU (s:=Instr.loadAt t (a.eval x)) bD ?_,.agg (by rw [hl,hlen]) (fun u hu=>h4 u (iF (iQ hu))) (fun j x u hj hu=>?_)⟩
 ·rw [h1]
  refine FY hu hds hI hlen fun j u hj=>?_
  rw [OA,cell_of_row w b _ _ _ _ h2]
  rw [gN] at hj
  split at hj
  ·rw [gK] at hj;simpa using hj
  ·cases hj
 ·rw [gN] at hj hu
  split at hj
  ·rename_i hlt
   rw [fR hlt] at hu
   rw [gK] at hj hu
   exact h3.at_ _ x u hj hu
  ·cases hj
theorem s5_ {Kn:Nat→Nat→Prop} {w:World} {ρ:Rho} {Z Y:Nat→Prop} (hv:Val Kn ρ w Z Y (.lp cs) v) : ∃p us,v = .pointer (some p)∧(∀(j:Nat) u,us[j]? = some u→Y p.block∧w.cell? (p.add j)=some u)∧AVs (Val Kn ρ w Z Y) cs us ∧ ∀u∈us,u.oneCell'=true:=by
 cases hv with
 |lp hl ho hc hv=>exact ⟨_,_,rfl,hc,⟨hl,hv⟩,ho⟩
theorem VC (hw:AD n T ops o=true) (hd:o.dst=some d) (t:TypeId) (x:Operand) (ho:o.op = .load t x) (hu:P.underlying t=some ds) (hds:(match ds with|.struct _|.array _ _=>true|_=>false)=false)
  (hx:evA n T x = .lp cs) {u:AV} (hc:cs[0]? = some u) (k:AL P ops Q rest n (pu T d u) heap):AL P ops Q (o::rest) n T heap:=by
 refine AL.val hw hd (fun e a w ρ Z Y hR=>?_) k
 have hv:=hR.eval x
 rw [hx] at hv
 obtain ⟨p,us,h1,h2,h3,h4⟩:=s5_ hv
 have hlt:=get_lt hc
 rw [h3.len] at hlt
 refine ⟨us[0],BU (s:=Instr.loadAt t (a.eval x)) bD ?_,h3.at_ 0 u _ hc (ZgE hlt)⟩
 rw [h1]
 have:=(h2 0 _ (ZgE hlt)).2
 exact FZ hu hds this
theorem UR (hw:AD n T ops o=true) (hd:o.dst=some d) (t:TypeId) (x:Operand) (ho:o.op = .load t x) (hu:P.underlying t=some ds) (hds:(match ds with|.struct _|.array _ _=>true|_=>false)=true)
  {z:Option Value} (hI:(P.info? t).map (fun i=>(i.zero,i.size,i.bytes))=some (z,size,bytes)) (hx:evA n T x = .lp cs) (hc:cs.take size=us') (hl:us'.length=size)
  (k:AL P ops Q rest n (pu T d (.agg us')) heap):AL P ops Q (o::rest) n T heap:=by
 subst hc
 refine AL.val hw hd (fun e a w ρ Z Y hR=>?_) k
 have hv:=hR.eval x
 rw [hx] at hv
 obtain ⟨p,us,h1,h2,h3,h4⟩:=s5_ hv
 have hlen:(us.take size).length=size:=by
  rw [fY] at hl ⊢
  rw [h3.len] at hl;exact hl
 refine ⟨.agg (us.take size).toArray,BU (s:=Instr.loadAt t (a.eval x)) bD ?_,.agg (by rw [hl,hlen]) (fun u hu=>h4 u (iQ hu)) (fun j x u hj hu=>?_)⟩
 ·rw [h1]
  refine FY hu hds hI hlen fun j u hj=>?_
  rw [gN] at hj
  split at hj
  ·exact (h2 j u hj).2
  ·cases hj
 ·rw [gN] at hj hu
  split at hj
  ·rename_i hlt
   rw [fR hlt] at hu
   exact h3.at_ _ x u hj hu
  ·cases hj
theorem EH.rowcell {w:World} {ρ:Rho} {Z Y:Nat→Prop} (h:EH heap w ρ Z Y) (hi:heap[i]? = some (.row k E s els)) {cs:List Tr} (he:els[idx]? = some cs) :
  ∃us:List Value,us.length=cs.length∧(∀(j:Nat) u,us[j]? = some u→w.cell? ((adr (ρ i k).a).add (idx*(ρ i k).s+j))=some u) ∧ ∀(j:Nat) x u,cs[j]? = some x→us[j]? = some u→Frz w Z x u:=by
 obtain ⟨h1,xs,h2,h3,h4⟩:=h.row hi
 have hcl:=h2.each cs (fO he)
 have hlt:=get_lt he
 have hle:idx*s+s≤xs.length:=by rw [h2.len, ←kF];exact iE _ hlt
 refine ⟨(xs.drop (idx*s)).take s,by rw [fY,gJ,hcl];omega,fun j u hj=>?_,fun j x u hj hu=>?_⟩
 ·rw [gN] at hj
  split at hj
  ·rw [gK] at hj
   rw [h1];exact h4.cells _ u hj
  ·cases hj
 ·rw [gN] at hu
  split at hu
  ·rw [gK] at hu
   exact h2.at_ idx cs j x u he hj hu
  ·cases hu
theorem EL (hw:AD n T ops o=true) (hd:o.dst=some d) (t:TypeId) (x:Operand) (ho:o.op = .load t x) (hu:P.underlying t=some ds) (hds:(match ds with|.struct _|.array _ _=>true|_=>false)=false)
  (hx:evA n T x = .rp i k' idx off) (hi:heap[i]? = some (.row k' E s els)) {cs:List Tr} (he:els[idx]? = some cs) {u:Tr} (hc:cs[off]? = some u) (k:AL P ops Q rest n (pu T d (.t u)) heap):AL P ops Q (o::rest) n T heap:=by
 refine AL.val hw hd (fun e a w ρ Z Y hR=>?_) k
 have hv:=hR.eval x
 rw [hx] at hv
 obtain ⟨us,h1,h2,h3⟩:=hR.ok.rep.rowcell hi he
 have hlt:=get_lt hc
 rw [←h1] at hlt
 have hq:=ZgE hlt
 generalize hav:a.eval x=v at hv
 cases hv with
 |rp hk =>
 refine ⟨us[off],BU (s:=Instr.loadAt t (a.eval x)) bD ?_,.t (h3 off u _ hc hq)⟩
 rw [hav]
 exact FZ hu hds (h2 off _ hq)
theorem KW (hw:AD n T ops o=true) (hd:o.dst=some d) (t:TypeId) (x:Operand) (ho:o.op = .load t x) (hu:P.underlying t=some ds) (hds:(match ds with|.struct _|.array _ _=>true|_=>false)=true)
  {z:Option Value} (hI:(P.info? t).map (fun i=>(i.zero,i.size,i.bytes))=some (z,size,bytes))
  (hx:evA n T x = .rp i k' idx off) (hi:heap[i]? = some (.row k' E s els)) {cs:List Tr} (he:els[idx]? = some cs) (hc:((cs.drop off).take size).map .t=us') (hl:us'.length=size)
  (k:AL P ops Q rest n (pu T d (.agg us')) heap):AL P ops Q (o::rest) n T heap:=by
 subst hc
 refine AL.val hw hd (fun e a w ρ Z Y hR=>?_) k
 have hv:=hR.eval x
 rw [hx] at hv
 obtain ⟨us,h1,h2,h3⟩:=hR.ok.rep.rowcell hi he
 have hlen:((us.drop off).take size).length=size:=by
  rw [fN,fY,gJ] at hl
  rw [fY,gJ]
  rw [←h1] at hl;exact hl
 have h4 : ∀u∈us,u.oneCell'=true:=fun u hu=>by
  obtain ⟨j,hj⟩:=jN hu
  have hlt:=get_lt hj
  rw [h1] at hlt
  exact (h3 j _ u (ZgE hlt) hj).one
 generalize hav:a.eval x=v at hv
 cases hv with
 |rp hk =>
 refine ⟨.agg ((us.drop off).take size).toArray,BU (s:=Instr.loadAt t (a.eval x)) bD ?_,.agg (by rw [hl,hlen]) (fun u hu=>h4 u (iF (iQ hu))) (fun j x u hj hu=>?_)⟩
 ·rw [hav]
  refine FY hu hds hI hlen fun j u hj=>?_
  rw [add_add,lZ]
  rw [gN] at hj
  split at hj
  ·rw [gK] at hj;exact h2 _ u hj
  ·cases hj
 ·rw [gP] at hj
  rw [gN] at hj hu
  split at hu
  ·rename_i hlt
   rw [fR hlt,gK] at hj
   rw [gK] at hu
   cases hc:cs[off+j]? with
   |none=>rw [hc] at hj;cases hj
   |some y=>rw [hc] at hj;cases hj;exact .t (h3 _ y u hc hu)
  ·cases hu
theorem v2_ {Kn:Nat→Nat→Prop} {w:World} {ρ:Rho} {Z Y:Nat→Prop} (hzy : ∀b,Z b→Y b) (hx:x = .ln els∨x = .t (.lst els)) (hv:Val Kn ρ w Z Y x v) :
  ∃a c s xs,v = .slice a els.length c∧Rs w s a els.length c xs∧(xs≠[]→Y (adr a).block)∧BM (Frz w Z) s els xs:=by
 rcases hx with rfl|rfl
 ·cases hv with
  |ln hr hz hn he=>subst hn;exact ⟨_,_,_,_,rfl,hr,hz,he⟩
 ·cases hv with
  |t h =>
   obtain ⟨a,c,s,xs,h1,h2,h3,h4⟩:=h.open
   exact ⟨a,c,s,xs,h1,h2,fun hne=>hzy _ (h3 hne),h4⟩
theorem q_ (hw:AD n T ops o=true) (hd:o.dst=some d) (t:TypeId) (x ix:Operand) (ho:o.op = .indexAddr t x ix) (ht:P.underlying t=some (.slice e)) {z:Option Value} (hI:(P.info? e).map (fun i=>(i.zero,i.size,i.bytes))=some (z,size,bytes)) (hsz:size≠0)
  (hx:evA n T x = .ln els∨evA n T x = .t (.lst els)) {kd:IntKind} {I:Int} (hix:evA n T ix = .t (.v (.int kd I))) (h0I:0≤I) (J:Nat) (hJ:I.toNat=J) {cs:List Tr} (he:els[J]? = some cs) (hs:cs.length=size)
  (hc:cs.map .t=cs') (k:AL P ops Q rest n (pu T d (.lp cs')) heap):AL P ops Q (o::rest) n T heap:=by
 subst hc
 obtain rfl:I=(J:Int):=by omega
 refine AL.val hw hd (fun en a w ρ Z Y hR=>?_) k
 obtain ⟨a',c,s,xs,h1,h2,h3,h4⟩:=v2_ hR.ok.rep.zy hx (hR.eval x)
 have hvi:=hR.eval ix
 rw [hix] at hvi
 generalize hai:a.eval ix=vi at hvi
 cases hvi with
 | t h=>cases h with
  |v h =>
  have hss:s=size:=by rw [←hs];exact (h4.each cs (fO he)).symm
  subst hss
  have hlt:=get_lt he
  have hle:J*s+s≤xs.length:=by rw [h4.len, ←kF];exact iE _ hlt
  have hY:=h3 (fun e=>by rw [e] at hle;simp at hle;omega)
  refine ⟨_,BU (s:=Instr.indexAt t (a.eval x) (a.eval ix)) bD (by rw [h1,hai];exact v7_ ht hI a' els.length c kd J (fun e=>(h2.none e).1) hlt),.lp (us:=(xs.drop (J*s)).take s) bA (fun u hu=>?_) (fun j u hj=>?_) (fun j y u hj hu=>?_)⟩
  ·exact h4.one u (iF (iQ hu))
  ·refine ⟨by rw [DL];exact hY,?_⟩
   rw [add_add]
   rw [gN] at hj
   split at hj
   ·rw [gK] at hj;exact h2.cells _ u hj
   ·cases hj
  ·rw [gP] at hj
   rw [gN] at hu
   split at hu
   ·rw [gK] at hu
    cases hcj:cs[j]? with
    |none=>rw [hcj] at hj;cases hj
    |some q=>rw [hcj] at hj;cases hj;exact .t (h4.at_ J cs j q u he hcj hu)
   ·cases hu
theorem ZM (hw:AD n T ops o=true) (hd:o.dst=some d) (t:TypeId) (x ix:Operand) (ho:o.op = .indexAddr t x ix) (ht:P.underlying t=some (.slice e)) {z:Option Value} (hI:(P.info? e).map (fun i=>(i.zero,i.size,i.bytes))=some (z,size,bytes))
  (hx:evA n T x = .sl i k' m) (hi:heap[i]? = some (.row k' E size els)) (hm:m≤els.length) {kd:IntKind} {I:Int} (hix:evA n T ix = .t (.v (.int kd I))) (h0I:0≤I) (J:Nat) (hJ:I.toNat=J) (hlt:J<m)
  (k:AL P ops Q rest n (pu T d (.rp i k' J 0)) heap):AL P ops Q (o::rest) n T heap:=by
 obtain rfl:I=(J:Int):=by omega
 refine AL.val hw hd (fun en a w ρ Z Y hR=>?_) k
 have hv:=hR.eval x
 rw [hx] at hv
 have hvi:=hR.eval ix
 rw [hix] at hvi
 obtain ⟨h1,xs,h2,h3,h4⟩:=hR.ok.rep.row hi
 generalize hai:a.eval ix=vi at hvi
 generalize hax:a.eval x=vx at hv
 cases hv with
 |sl hk hcc _ =>
 cases hvi with
 |t h=>cases h with
  |v h =>
  refine ⟨_,BU (s:=Instr.indexAt t (a.eval x) (a.eval ix)) bD (by rw [hax,hai];exact v7_ ht hI _ m _ kd J (fun e=>by have:=(h4.none e).1;omega) hlt),?_⟩
  have:=Val.rp (ρ:=ρ) (w:=w) (Z:=Z) (Y:=Y) (idx:=J) (off:=0) hk
  rw [h1,iT] at this
  exact this
theorem q1_ (hw:AD n T ops o=true) (hd:o.dst=none) (t:TypeId) (x y:Operand) (ho:o.op = .store t x y) {z:Option Value} (hI:(P.info? t).map (fun i=>(i.zero,i.size,i.bytes))=some (z,size,bytes))
  (hx:evA n T x = .ptr i off) (hi:heap[i]? = some (.box t' cs)) (hy:(evA n T y).flat=some us) (hl:us.length=size) (hf:off+us.length≤cs.length)
  (hc:cs.take off++us++cs.drop (off+us.length)=cs') (hh:heap.set i (.box t' cs')=heap') (k:AL P ops Q rest n T heap'):AL P ops Q (o::rest) n T heap:=by
 subst hc hh
 refine AL.unit hw hd (fun e a w ρ Z Y hR=>?_) k
 have hv:=hR.eval x
 rw [hx] at hv
 obtain ⟨b,vs,h1,h1',h2,h3,h4⟩:=hR.ok.rep.box hi hv
 obtain ⟨us',g1,g2,g3⟩:=(hR.eval y).flat hy
 obtain ⟨inf,hin,_,hsz,_⟩:=FU hI
 have hs:(sizeOf t).run P w = .ok size w:=EW hI
 have hlen:=g2.len
 have hlen':=h3.len
 obtain ⟨w',r1,r2,r3⟩:=UY hs g1 (by omega) g3 (b:=b) (off:=off) h2 (by omega)
 have hblk:(Ob.box t' cs).blk ρ i=some b:=by simp [Ob.blk,h1']
 have hsame : ∀b',b'<w.heap.size→(Ob.box t' cs).blk ρ i≠some b'→w'.heap[b']? = w.heap[b']? := fun b' hb' hne=>r3.block b' hb' (fun e=>hne (by rw [hblk,e]))
 have hm : ∀x v,Val (Kn heap) ρ w Z Y x v→Val (Kn (heap.set i (.box t' (cs.take off++us++cs.drop (off+us.length))))) ρ w' Z Y x v:=fun x v hv =>
  hR.ok.rep.val (fun j k hj=>⟨hj.set hi (by exact fV _),rfl⟩) (fun _ h=>h) (fun b' hb'=>⟨hb',hsame b' (hR.ok.rep.ylt b' hb') (hR.ok.rep.notin hi hb')⟩) hv
 refine ⟨w',ρ,Z,Y,?_,hR.ok.turn hi (fV _) (fun _ _ _=>rfl) ⟨r3.os,r3.tape,r3.output⟩ r3.size hsame ⟨b,_,h1',r2,⟨?_,fun j x u hj hu=>?_⟩,fun u hu=>?_⟩ (fun b' hb'=>.inl hb'),hm⟩
 ·unfold execOp
  simp only [ho,h1,Sem.run_bind,r1,Result.andThen_ok,Sem.run_pure]
 ·simp only [fP,fY,gJ];omega
 ·refine hm x u ?_
  have e1:(cs.take off).length=off:=by rw [fY];omega
  have e2:(vs.take off).length=off:=by rw [fY];omega
  by_cases c1:j<off
  ·rw [gC,gH (by omega),gN,fR c1] at hj hu
   exact h3.at_ j x u hj hu
  ·by_cases c2:j<off+us.length
   ·rw [gC,gD (by omega),gH (by omega)] at hj hu
    rw [e1] at hj
    rw [e2] at hu
    exact g2.at_ _ x u hj hu
   ·rw [gD (by simp only [fP];omega),fP,gK] at hj hu
    rw [e1] at hj
    rw [e2] at hu
    rw [←hlen] at hu
    exact h3.at_ _ x u hj hu
 ·rcases gQ.1 hu with hu|hu
  ·rcases gQ.1 hu with hu|hu
   ·exact h4 u (iQ hu)
   ·exact g3 u hu
  ·exact h4 u (iF hu)
theorem A_store_rp (hw:AD n T ops o=true) (hd:o.dst=none) (t:TypeId) (x y:Operand) (ho:o.op = .store t x y) {z:Option Value} {tsize bytes:Nat} (hI:(P.info? t).map (fun i=>(i.zero,i.size,i.bytes))=some (z,tsize,bytes)) (ht0:tsize≠0)
  (hx:evA n T x = .rp i k' idx off) (hi:heap[i]? = some (.row k' E s els)) {cs:List Tr} (he:els[idx]? = some cs) (hy:(evA n T y).flat=some us) (hl:us.length=tsize) {ts:List Tr} (hts:i1_ us=some ts) (hf:off+ts.length≤s)
  {els':List (List Tr)} (hc:els.set idx (cs.take off++ts++cs.drop (off+ts.length))=els') (hh:heap.set i (.row k' E s els')=heap') (k:AL P ops Q rest n T heap'):AL P ops Q (o::rest) n T heap:=by
 subst hc hh
 refine AL.unit hw hd (fun e a w ρ Z Y hR=>?_) k
 have hv:=hR.eval x
 rw [hx] at hv
 obtain ⟨h1,xs,h2,h3,h4⟩:=hR.ok.rep.row hi
 obtain ⟨us',g1,g2,g3⟩:=(hR.eval y).flat hy
 obtain ⟨q1,q2⟩:=PJ hts g2
 have hs:(sizeOf t).run P w = .ok tsize w:=EW hI
 have hlen:=g2.len
 have hlt:=get_lt he
 have hle:idx*s+s≤els.length*s:=by rw [←kF];exact iE _ hlt
 generalize hax:a.eval x=vx at hv
 cases hv with
 |rp hk =>
 obtain ⟨w',r1,r2,r3⟩:=g9_ hs g1 (by omega) g3 (m:=idx*s+off) h3 (by omega) (fun e=>by rw [e] at hlen;simp only [gI] at hlen;omega)
 have hblk:(Ob.row k' E s els).blk ρ i=(if (ρ i k').c=0 then none else (ρ i k').a.map (·.block)):=rfl
 have hsame : ∀b',b'<w.heap.size→(Ob.row k' E s els).blk ρ i≠some b'→w'.heap[b']? = w.heap[b']? := fun b' hb' hne=>r3.block b' hb' (fun e=>hne (by rw [hblk,e]))
 have hz : ∀b,Z b→Z b∧w'.heap[b]? = w.heap[b]? := fun b hb=>⟨hb,hsame b (hR.ok.rep.ylt b (hR.ok.rep.zy b hb)) (hR.ok.rep.notin hi (hR.ok.rep.zy b hb))⟩
 refine ⟨w',ρ,Z,Y,?_,hR.ok.turn hi (fV _) (fun _ _ _=>rfl) ⟨r3.os,r3.tape,r3.output⟩ r3.size hsame ⟨h1,_,((h2.set he q1 hf q2).mono fun _ _ h=>h.mono hz),by rw [iS];exact r2⟩ (fun b' hb'=>.inl hb'),fun x v hv=>?_⟩
 ·unfold execOp
  simp only [ho,hax,h1,Sem.run_bind,r1,Result.andThen_ok,Sem.run_pure]
 ·exact hR.ok.rep.val (fun j k hj=>⟨hj.set hi (by exact fV _),rfl⟩) (fun _ h=>h) (fun b' hb'=>⟨hb',hsame b' (hR.ok.rep.ylt b' hb') (hR.ok.rep.notin hi hb')⟩) hv
theorem ApH (hw:AD n T ops o=true) (hd:o.dst=some d) (t:TypeId) (x:Operand) (ho:o.op = .call { callee:=.builtin .len,args := #[x],argTypes := #[t]}) (ht:P.underlying t=some (.slice e)) (hx:YB (evA n T x)=some m)
  (k:AL P ops Q rest n (pu T d (.t (.v (.int .i64 (m:Int))))) heap):AL P ops Q (o::rest) n T heap:=by
 refine AL.val hw hd (fun en a w ρ Z Y hR=>?_) k
 obtain ⟨a',c,h1⟩:=OK hx (hR.eval x)
 refine ⟨.int .i64 m,?_,.t (.v rfl)⟩
 unfold execOp
 simp only [ho,resolve,invoke,builtin,Sem.run_bind,Sem.run_pure,Result.andThen_ok,lK,gO,gX,h1]
 simp [Builtin.len_,Result.andThen,run_underlying ht,goInt]
end
end Go.Proofs.YtccefppppedgkaaGreat
namespace Go.Proofs.YtccefppppedgkaaGreat
open Go.RowKit
variable {size:Nat}
theorem l4_ {B:Nat} {w:World} {a:Option Addr} {n c m:Nat} {E:TypeId} {xs:List Value} (h:(Res.row a n c E size xs).holds B w) (hm:m≤n):(Res.row a m c E size (xs.take (m*size))).holds B w:=by
 have hle:m*size≤n*size:=iE _ hm
 rcases h with ⟨h1,h2,h3⟩|⟨h1,h2,h3⟩
 ·exact .inl ⟨h1,by omega,by rw [h3];simp⟩
 ·refine .inr ⟨h1,by rw [fY];omega,?_⟩
  rcases h3 with ⟨h3,h4⟩|⟨g,cap,cur,e,h4,h5,h6,h7,h8,h9⟩
  ·simp only [Value.slice.injEq] at h3;omega
  ·simp only [Value.slice.injEq] at e
   obtain ⟨rfl,_,rfl⟩:=e
   exact .inr ⟨g,c,cur,rfl,h4,h5,by omega,h7,h8,by rw [←h9,List.take_take,kQ hle]⟩
variable {bytes m' N:Nat} {els':List (List Tr)} {heap':List Ob}
section
variable {P:Program} {ops:Array Oper} {Q:QS} {rest:List Oper} {o:Oper} {n:Fr} {T:Nat→AV} {heap:List Ob} {d:Nat}
theorem CN (hw:AD n T ops o=true) (hd:o.dst=some d) (s x:Operand) (t:TypeId) (ho:o.op = .call { callee:=.builtin .append,args := #[s,x],argTypes := #[t,t]})
  {e:TypeId} (ht:P.underlying t=some (.slice e)) {z:Value} (hI:(P.info? e).map (fun i=>(i.zero,i.size,i.bytes))=some (some z,size,bytes)) (hzs:z.cells.size=size)
  {i k' m:Nat} (hs:evA n T s = .sl i k' m) {els:List (List Tr)} (hi:heap[i]? = some (.row k' e size els)) (hm:m≤els.length) {news:List (List Tr)} (hx:Rd heap size (evA n T x) news) (b1:m+news.length≤maxLen) (b2:(m+news.length)*bytes≤140737488355328)
  (he:els.take m++news=els') (hh:heap.set i (.row (k'+1) e size els')=heap') (hm':m+news.length=m') (k:AL P ops Q rest n (pu T d (.sl i (k'+1) m')) heap'):AL P ops Q (o::rest) n T heap:=by
 subst he hh hm'
 refine AL.act hw hd (fun en a w ρ Z Y hR=>?_) k
 obtain ⟨inf,hin,hz,hsz,hby⟩:=FU hI
 subst hsz hby
 have hrep:=hR.ok.rep
 obtain ⟨h1,xs,h2,h3,h4⟩:=hrep.row hi
 obtain ⟨xa,xc,ys,g1,g2,g3⟩:=hx.open hrep (hR.eval x)
 have hv:=hR.eval s
 rw [hs] at hv
 generalize hax:a.eval s=vx at hv
 cases hv with
 |sl hk hcc _ =>
 obtain ⟨a',c',w',r1,r2,r3,r4⟩:=KB (P:=P) t o.type ht hin hz hzs (l4_ h3 hm) (RD h4 hm) xa news.length xc g2 g3.one b1 b2
 let ρ':Rho:=fun j q=>if j=i∧q=k'+1 then ⟨a',c',inf.size⟩ else ρ j q
 have hnew:ρ' i (k'+1)=⟨a',c',inf.size⟩:=fR ⟨rfl,rfl⟩
 have hρ : ∀j q,Kn heap j q→ρ' j q=ρ j q:=fun j q ⟨p,hp,hq⟩=>fT fun ⟨e1,e2⟩=>by
  subst e1;rw [hi] at hp;cases hp;simp [Ob.lim] at hq;omega
 have hsame : ∀b',b'<w.heap.size→(Ob.row k' e inf.size els).blk ρ i≠some b'→w'.heap[b']? = w.heap[b']? := fun b' hb' hne=>r3.block b' hb' (fun e=>hne e.symm)
 have hzz : ∀b,Z b→Z b∧w'.heap[b]? = w.heap[b]? := fun b hb=>⟨hb,hsame b (hrep.ylt b (hrep.zy b hb)) (hrep.notin hi (hrep.zy b hb))⟩
 have hm : ∀x v,Val (Kn heap) ρ w Z Y x v→Val (Kn (heap.set i (.row (k'+1) e inf.size (els.take m++news)))) ρ' w' Z Y x v:=fun x v hv =>
  hrep.val (fun j q hj=>⟨hj.set hi (by exact kI _),hρ j q hj⟩) (fun _ h=>h) (fun b' hb'=>⟨hb',hsame b' (hrep.ylt b' hb') (hrep.notin hi hb')⟩) hv
 have hlen:(els.take m++news).length=m+news.length:=by rw [fP,fY];omega
 have hel:=((h2.take m).append g3).mono fun _ _ h=>Frz.mono hzz h
 have hres:(Res.row (ρ' i (k'+1)).a (els.take m++news).length (ρ' i (k'+1)).c e inf.size (xs.take (m*inf.size)++ys)).holds 0 w':=by rw [hnew,hlen];exact r2
 have hcap:=(DH hres).cap
 rw [hlen] at hcap
 refine ⟨.slice a' (m+news.length) c',w',ρ',Z,Y,?_,hR.ok.turn hi (by exact kI _) hρ ⟨r3.os,r3.tape,r3.output⟩ r3.size hsame ⟨by rw [hnew],_,hel,hres⟩ (fun b hb=>?_),hm,?_⟩
 ·unfold execOp
  simp only [ho,resolve,invoke,builtin,Sem.run_bind,Sem.run_pure,Result.andThen_ok,lK,gO,gX,hax,g1,r1]
 ·refine r4 b ?_
  simp only [Ob.blk,hnew] at hb
  exact hb
 ·have:=Val.sl (Kn:=Kn (heap.set i (.row (k'+1) e inf.size (els.take m++news)))) (ρ:=ρ') (w:=w') (Z:=Z) (Y:=Y) (i:=i) (k:=k'+1) (n:=m+news.length) ⟨_,by rw [gY,fR rfl,fR (get_lt hi)],fV _⟩ hcap (fun e=>((DH hres).none e).2)
  rw [hnew] at this
  exact this
theorem BD (hw:AD n T ops o=true) (hd:o.dst=some d) (s x:Operand) (t:TypeId) (ho:o.op = .call { callee:=.builtin .append,args := #[s,x],argTypes := #[t,t]})
  {e:TypeId} (ht:P.underlying t=some (.slice e)) {z:Value} (hI:(P.info? e).map (fun i=>(i.zero,i.size,i.bytes))=some (some z,size,bytes)) (hzs:z.cells.size=size)
  (hs:evA n T s = .nl) {news:List (List Tr)} (hx:Rd heap size (evA n T x) news) (b1:news.length≤maxLen) (b2:news.length*bytes≤140737488355328) (he:news=els')
  (hat:AtL heap N [.row 0 e size els'] heap') (hm':news.length=m') (k:AL P ops Q rest n (pu T d (.sl N 0 m')) heap'):AL P ops Q (o::rest) n T heap:=by
 subst hm' he
 refine AL.act hw hd (fun en a w ρ Z Y hR=>?_) k
 obtain ⟨inf,hin,hz,hsz,hby⟩:=FU hI
 subst hsz hby
 have hrep:=hR.ok.rep
 obtain ⟨xa,xc,ys,g1,g2,g3⟩:=hx.open hrep (hR.eval x)
 have hv:=hR.eval s
 rw [hs] at hv
 generalize hax:a.eval s=vx at hv
 cases hv with
 |nl sa =>
 obtain ⟨a',c',w',r1,r2,r3,r4⟩:=KB (P:=P) t o.type ht hin hz hzs (sa:=sa) (n:=0) (c:=0) (xs:=[]) (.inl ⟨rfl,rfl,rfl⟩) ⟨fV _,fX _,fun _=>⟨rfl,rfl⟩,by simp,fun j u h=>by simp at h⟩ xa news.length xc g2 g3.one (by omega) (by rw [gV];exact b2)
 rw [gV] at r1 r2 r4
 rw [gU] at r2 r4
 have hsame : ∀b,b<w.heap.size→w'.heap[b]? = w.heap[b]? := fun b hb=>r3.block b hb (by simp)
 have hzz : ∀b,Z b→Z b∧w'.heap[b]? = w.heap[b]? := fun b hb=>⟨hb,hsame b (hrep.ylt b (hrep.zy b hb))⟩
 have hcap:=(DH r2).cap
 obtain ⟨ρ',k1,k2,k3,k4⟩:=hR.ok.push1 (o:=.row 0 e inf.size news) hat (w':=w') (pl:=⟨a',c',inf.size⟩) ⟨r3.os,r3.tape,r3.output⟩ r3.size hsame
  (fun ρ' hN hρ=>⟨by rw [hN],ys,g3.mono fun _ _ h=>Frz.mono hzz h,by rw [hN];exact r2⟩)
  (fun b _ hb=>by
   rcases r4 b (by simpa [Ob.blk,Res.blk] using hb) with h|h
   ·simp at h
   ·exact h)
 refine ⟨.slice a' news.length c',w',ρ',Z,Y,?_,k1,k2,?_⟩
 ·unfold execOp
  simp only [ho,resolve,invoke,builtin,Sem.run_bind,Sem.run_pure,Result.andThen_ok,lK,gO,gX,hax,g1,r1]
 ·have:=Val.sl (Kn:=Kn heap') (ρ:=ρ') (w:=w') (Z:=Z) (Y:=Y) (i:=N) (k:=0) (n:=news.length) ⟨_,hat.one,fV _⟩ (by rw [k3];exact hcap) (by rw [k3];exact fun e=>((DH r2).none e).2)
  rw [k3] at this
  exact this
theorem XD (hw:AD n T ops o=true) (hd:o.dst=some d) (t:TypeId) (l c:Operand) (ho:o.op = .makeSlice t l c) {e:TypeId} (ht:P.underlying t=some (.slice e)) {z:Value} (hI:(P.info? e).map (fun i=>(i.zero,i.size,i.bytes))=some (some z,size,bytes)) (hzs:z.cells.size=size)
  {zs:List Tr} (hz:((DE z).flat.bind i1_)=some zs) {kl kc:IntKind} {L C:Int} (hl:evA n T l = .t (.v (.int kl L))) (hc:evA n T c = .t (.v (.int kc C))) (m:Nat) (hL:L=(m:Int)) (hC:C=(m:Int)) (b2:bytes*m≤281474976710656) (b3:m≤maxLen) (he:List.replicate m zs=els')
  (hat:AtL heap N [.row 0 e size els'] heap') (k:AL P ops Q rest n (pu T d (.sl N 0 m)) heap'):AL P ops Q (o::rest) n T heap:=by
 subst hL hC he
 refine AL.act hw hd (fun en a w ρ Z Y hR=>?_) k
 obtain ⟨inf,hin,hz',hsz,hby⟩:=FU hI
 subst hsz hby
 have hrep:=hR.ok.rep
 have hvl:=hR.eval l
 rw [hl] at hvl
 have hvc:=hR.eval c
 rw [hc] at hvc
 generalize hal:a.eval l=vl at hvl
 generalize hac:a.eval c=vc at hvc
 cases hvl with
 | t h=>cases h with
  | v h=>cases hvc with
   | t h'=>cases h' with
    |v h' =>
    obtain ⟨w',r1,r2,r3⟩:=run_make_full (P:=P) w w.heap.size t e inf z inf.size ht hin hz' rfl kl kc m b2 b3 (fV _)
    have hsame : ∀b,b<w.heap.size→w'.heap[b]? = w.heap[b]? := fun b hb=>r3.block b hb (by simp)
    have hzz : ∀b,Z b→Z b∧w'.heap[b]? = w.heap[b]? := fun b hb=>⟨hb,hsame b (hrep.ylt b (hrep.zy b hb))⟩
    cases hfl:(DE z).flat with
    |none=>rw [hfl] at hz;cases hz
    |some cs =>
    rw [hfl] at hz
    obtain ⟨us,u1,u2,u3⟩:=(GZ (Kn:=Kn heap) (ρ:=ρ) (w:=w') (Z:=Z) (Y:=Y) z).flat hfl
    obtain ⟨q1,q2⟩:=PJ hz u2
    have hus:us.length=inf.size:=by rw [←hzs,u1];simp
    have hflat:(madeCells z.cells (m*inf.size)).toList=(List.replicate m us).flatten:=by
     have:=AaM (α:=Unit) (enc:=fun _=>us) (size:=inf.size) (z:=z.cells) (x:=()) (by rw [u1]) hus m
     rw [this,List.flatMap_def,List.map_replicate]
    have hres:(Res.row (some ⟨w.heap.size,0,none⟩) m m e inf.size ((List.replicate m us).flatten)).holds 0 w':=by
     rw [←hflat]
     by_cases h0:m=0
     ·exact .inl ⟨h0,h0,iA (by rw [r2.1,h0];simp)⟩
     ·refine .inr ⟨by omega,r2.1,?_⟩
      rcases r2.2 with h1|⟨g,cap,cur,e1,_,h5,h6,h7,h8,h9⟩
      ·exact .inl h1
      ·exact .inr ⟨g,cap,cur,e1,fX _,h5,h6,h7,h8,h9⟩
    obtain ⟨ρ',k1,k2,k3,k4⟩:=hR.ok.push1 (o:=.row 0 e inf.size (List.replicate m zs)) hat (w':=w') (pl:=⟨some ⟨w.heap.size,0,none⟩,m,inf.size⟩) ⟨r3.os,r3.tape,r3.output⟩ r3.size hsame
     (fun ρ' hN hρ=>⟨by rw [hN],_,BM.replicate (by rw [q1,hus]) hus q2 m,by rw [hN,iV];exact hres⟩)
     (fun b hb hb'=>by
      simp at hb;subst hb
      refine ⟨fV _,?_⟩
      simp only [Ob.blk] at hb'
      split at hb'
      ·cases hb'
      ·exact (r2.lt w.heap.size rfl).2)
    refine ⟨.slice (some ⟨w.heap.size,0,none⟩) m m,w',ρ',Z,Y,?_,k1,k2,?_⟩
    ·unfold execOp
     simp only [ho,hal,hac,Sem.run_bind,r1,Result.andThen_ok,Sem.run_pure]
    ·have:=Val.sl (Kn:=Kn heap') (ρ:=ρ') (w:=w') (Z:=Z) (Y:=Y) (i:=N) (k:=0) (n:=m) ⟨_,hat.one,fV _⟩ (by rw [k3];exact fV _) (by rw [k3];intro e;cases e)
     rw [k3] at this
     exact this
end
end Go.Proofs.YtccefppppedgkaaGreat
