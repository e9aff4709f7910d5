/- Joined: XTStab. -/
import Derived.Test.YtccefppppedgkaaGreatKHb
set_option linter.unusedVariables false
set_option linter.unusedSimpArgs false
set_option linter.unnecessarySimpa false
set_option maxRecDepth 100000
set_option maxHeartbeats 64000000
namespace Go.Proofs.YtccefppppedgkaaGreat
variable {α:Type} {key:α→Int}
def GN (key:α→Int) (x:α):List α→List α
 | []=>[x]
 |y::s=>if key x<key y then x::y::s else y::GN key x s
def isort (key:α→Int) (l:List α):List α:=l.foldl (fun s x=>GN key x s) []
def BG (key:α→Int) (l:List α):Prop:=l.Pairwise fun a b=>key a≤key b
theorem SP {x z:α} : ∀ {s:List α},z∈GN key x s↔z=x∨z∈s
 | []=>by simp [GN]
 | y::s=>by
  unfold GN
  split
  ·simp
  ·simp only [iH,SP (s:=s)]
   constructor
   ·rintro (h|h|h)<;>simp [h]
   ·rintro (h|h|h)<;>simp [h]
theorem c4_ {x:α} : ∀ {s:List α},(GN key x s).length=s.length+1
 | []=>rfl
 |y::s=>by
  unfold GN
  split
  ·simp
  ·simp [c4_ (s:=s)]
theorem VT {x:α} : ∀ {s:List α},BG key s→BG key (GN key x s)
 | [],_=>by simp [GN,BG]
 | y::s,h=>by
  obtain ⟨h1,h2⟩:=kW.1 h
  unfold GN
  split
  ·rename_i hx
   refine kW.2 ⟨fun z hz=>?_,h⟩
   rcases iH.1 hz with rfl|hz
   ·omega
   ·have:=h1 z hz;omega
  ·rename_i hx
   refine kW.2 ⟨fun z hz=>?_,VT h2⟩
   rcases SP.1 hz with rfl|hz
   ·omega
   ·exact h1 z hz
theorem KH {x:α} : ∀ {S1 S2:List α},(∀y∈S1,¬key x<key y)→(∀y∈S2,key x<key y)→GN key x (S1++S2)=S1++x::S2
 | [],[],_,_=>rfl
 | [],y::s,_,h=>by simp only [gU];unfold GN;rw [fR (h y (by simp))]
 |y::s,S2,h,h2=>by
  simp only [gZ];unfold GN
  rw [fT (h y (by simp)),KH (fun z hz=>h z (by simp [hz])) h2]
theorem GF {l:List α} {x:α}:isort key (l++[x])=GN key x (isort key l):=by unfold isort;rw [jY];rfl
theorem DN (key:α→Int) (l:List α):BG key (isort key l)∧(isort key l).length=l.length ∧ ∀z,z∈isort key l↔z∈l:=by
 unfold isort
 suffices h : ∀(l s:List α),BG key s→BG key (l.foldl (fun s x=>GN key x s) s)∧(l.foldl (fun s x=>GN key x s) s).length=l.length+s.length ∧ ∀z,z∈l.foldl (fun s x=>GN key x s) s↔z∈l∨z∈s by
  obtain ⟨h1,h2,h3⟩:=h l [] List.Pairwise.nil
  exact ⟨h1,by simpa using h2,fun z=>by simpa using h3 z⟩
 intro l
 induction l with
 |nil=>intro s hs;exact ⟨hs,by simp,fun z=>by simp⟩
 |cons x l ih =>
  intro s hs
  obtain ⟨h1,h2,h3⟩:=ih (GN key x s) (VT hs)
  refine ⟨h1,by rw [lF,h2,c4_];simp;omega,fun z=>?_⟩
  rw [lF,h3,SP,iH]
  constructor
  ·rintro (h|h|h)<;>simp [h]
  ·rintro ((h|h)|h)<;>simp [h]
theorem EO {l:List α} {z:α}:z∈isort key l↔z∈l:=(DN key l).2.2 z
theorem CC (l:List α):(isort key l).length=l.length:=(DN key l).2.1
def srt (key:α→Int) (l:List α) (a b:Nat):List α:=l.take a++isort key ((l.drop a).take (b-a))++l.drop b
variable {a b:Nat}
theorem DV {l:List α} (h:a≤b) (hb:b≤l.length):(srt key l a b).length=l.length:=by
 unfold srt;simp only [fP,fY,CC,gJ];omega
theorem h6_ {l:List α} :srt key l a a=l:=by
 unfold srt;simp [isort]
variable {i:Nat}
theorem TY {l:List α} {x:α} (h:a≤i) (hx:l[i]? = some x):(l.drop a).take (i+1-a)=(l.drop a).take (i-a)++[x]:=by
 rw [show i+1-a=(i-a)+1 by omega,iB,gK,show a+(i-a)=i by omega,hx];rfl
theorem GB {l:List α} {x:α} (hx:l[i]? = some x):l.drop i=x::l.drop (i+1):=by
 obtain ⟨h,e⟩:=iJ.1 hx
 rw [List.drop_eq_getElem_cons h,e]
theorem w1_ {l:List α} (h:a<l.length):srt key l a (a+1)=l:=by
 obtain ⟨x,hx⟩ : ∃x,l[a]? = some x:=⟨_,ZgE h⟩
 unfold srt
 rw [TY (fV _) hx,lJ,jS,GF]
 show l.take a++[x]++l.drop (a+1)=l
 rw [gC,mK, ←GB hx,jC]
variable {j:Nat}
theorem ZF {P R:List α} {x y:α} (hj:j=P.length+1) (hi:i=P.length):((P++y::x::R).set j y).set i x=P++x::y::R:=by
 subst hj hi
 rw [mU,fT (by omega),show P.length+1-P.length=1 by omega,mU,fT (by omega),lJ];rfl
def SE (key:α→Int) (l L:List α):Prop:=∀k:Int,L.filter (fun x=>decide (key x=k))=l.filter (fun x=>decide (key x=k))
theorem SE.refl (l:List α):SE key l l:=fun _=>rfl
theorem SE.trans {a b c:List α} (h:SE key a b) (k:SE key b c):SE key a c:=fun i=>(k i).trans (h i)
theorem SE.symm {a b:List α} (h:SE key a b):SE key b a:=fun i=>(h i).symm
theorem SE.append {a b c d:List α} (h:SE key a b) (k:SE key c d):SE key (a++c) (b++d):=fun i=>by rw [lR,lR,h i,k i]
theorem SE.mem {a b:List α} (h:SE key a b) {x:α}:x∈b↔x∈a:=by
 have e:=h (key x)
 have h1:x∈b↔x∈b.filter (fun y=>decide (key y=key x)):=by simp
 have h2:x∈a↔x∈a.filter (fun y=>decide (key y=key x)):=by simp
 rw [h1,h2,e]
theorem PS {l:List α} {k:Int} (h : ∀x∈l,key x≠k):l.filter (fun x=>decide (key x=k))=[]:=by
 rw [List.filter_eq_nil_iff];intro x hx;simp [h x hx]
theorem SE.swap {a b:List α} (h : ∀x∈a,∀y∈b,key x≠key y):SE key (a++b) (b++a):=fun k=>by
 rw [lR,lR]
 by_cases hx : ∃x∈a,key x=k
 ·obtain ⟨x,hx,rfl⟩:=hx
  rw [PS (l:=b) fun y hy e=>h x hx y hy e.symm];simp
 ·rw [PS (l:=a) fun y hy e=>hx ⟨y,hy,e⟩];simp
theorem r9_ {x:α} : ∀ {s:List α},BG key s→SE key (s++[x]) (GN key x s)
 | [],_=>SE.refl _
 | y::s,h=>by
  obtain ⟨h1,h2⟩:=kW.1 h
  unfold GN
  split
  ·rename_i hx
   refine SE.swap (a:=y::s) (b:=[x]) fun z hz w hw=>?_
   simp at hw;subst hw
   rcases iH.1 hz with rfl|hz
   ·omega
   ·have:=h1 z hz;omega
  ·exact SE.append (a:=[y]) (b:=[y]) (SE.refl _) (r9_ h2)
theorem ML (key:α→Int) (l:List α):SE key l (isort key l):=by
 suffices h : ∀r:List α,SE key r.reverse (isort key r.reverse) by simpa using h l.reverse
 intro r
 induction r with
 |nil=>exact SE.refl _
 |cons x r ih =>
  rw [List.reverse_cons,GF]
  exact (SE.append ih (SE.refl [x])).trans (r9_ (DN _ _).1)
theorem QE : ∀ {L M:List α},BG key L→BG key M→SE key L M→L=M
 | [],[],_,_,_=>rfl
 | [],y::M,_,_,h=>by have:=(h.mem (x:=y)).1 (by simp);simp at this
 |x::L,[],_,_,h=>by have:=(h.mem (x:=x)).2 (by simp);simp at this
 | x::L,y::M,h1,h2,h=>by
  obtain ⟨a1,a2⟩:=kW.1 h1
  obtain ⟨b1,b2⟩:=kW.1 h2
  have e1:key x≤key y:=by
   rcases iH.1 ((h.mem (x:=y)).1 (by simp)) with rfl|hm
   ·exact gL _
   ·exact a1 y hm
  have e2:key y≤key x:=by
   rcases iH.1 ((h.mem (x:=x)).2 (by simp)) with rfl|hm
   ·exact gL _
   ·exact b1 x hm
  have e3:key y=key x:=by omega
  have e4:=h (key x)
  rw [nH,nH,fR (by simp [e3]),fR (by simp)] at e4
  obtain ⟨rfl,_⟩:=List.cons.inj e4
  rw [QE a2 b2 fun k=>?_]
  have e5:=h k
  rw [nH,nH] at e5
  split at e5
  ·exact (List.cons.inj e5).2
  ·exact e5
theorem MJ {l L:List α} (h:BG key L) (hs:SE key l L):isort key l=L:=QE (DN _ _).1 h ((ML key l).symm.trans hs)
theorem SR {l:List α} (h:BG key l):isort key l=l:=MJ h (SE.refl _)
theorem GJ {a b:List α}:BG key (a++b)↔BG key a∧BG key b ∧ ∀x∈a,∀y∈b,key x≤key y:=lT
theorem w_ {P M S:List α} (ha:a=P.length) (hb:b=P.length+M.length):srt key (P++M++S) a b=P++isort key M++S:=by
 subst ha hb
 have e1:(P++M++S).take P.length=P:=by simp
 have e2:(P++M++S).drop P.length=M++S:=by simp
 have e3:(P++M++S).drop (P.length+M.length)=S:=by rw [←fP,mZ]
 unfold srt
 rw [e1,e2,e3,jP,lP]
theorem d6_ {P A B C D S:List α} (hA:BG key (A++B)) (hC:BG key (C++D)) (h1 : ∀x∈A,∀y∈D,key x≤key y) (h2 : ∀x∈B,∀y∈C,key y<key x) :
  P++isort key (A++C)++isort key (B++D)++S=P++isort key (A++B++C++D)++S:=by
 obtain ⟨a1,a2,a3⟩:=GJ.1 hA
 obtain ⟨c1,c2,c3⟩:=GJ.1 hC
 have:isort key (A++B++C++D)=isort key (A++C)++isort key (B++D):=by
  refine MJ (GJ.2 ⟨(DN _ _).1,(DN _ _).1,fun x hx y hy=>?_⟩) ?_
  ·rw [EO] at hx hy
   rcases gQ.1 hx with hx|hx<;>rcases gQ.1 hy with hy|hy
   ·exact a3 x hx y hy
   ·exact h1 x hx y hy
   ·have:=h2 y hy x hx;omega
   ·exact c3 x hx y hy
  ·refine SE.trans (b:=(A++C)++(B++D)) ?_ ((ML _ _).append (ML _ _))
   have e:SE key (B++C) (C++B):=SE.swap fun x hx y hy=>by have:=h2 x hx y hy;omega
   have:=((SE.refl A).append e).append (SE.refl D)
   simpa [gC] using this
 rw [this];simp [gC]
def swp [Inhabited α] (l:List α) (i j:Nat):List α:=(l.set i (l.getD j default)).set j (l.getD i default)
theorem AiS [Inhabited α] {P M S:List α} {x y:α} (hi:i=P.length) (hj:j=P.length+1+M.length):swp (P++x::(M++y::S)) i j=P++y::(M++x::S):=by
 subst hi hj
 have e1:(P++x::(M++y::S)).getD P.length default=x:=by simp [fQ]
 have e2:(P++x::(M++y::S)).getD (P.length+1+M.length) default=y:=by
  rw [fQ,gD (by omega),show P.length+1+M.length-P.length=M.length+1 by omega,jG];simp
 unfold swp
 rw [e1,e2,mU,fT (by omega),lJ,iG,mU,fT (by omega),show P.length+1+M.length-P.length=M.length+1 by omega,iL,mU,fT (by omega),lJ,iG]
def swr [Inhabited α] (l:List α) (a b:Nat):Nat→List α
 |0=>l
 |n+1=>swr (swp l a b) (a+1) (b+1) n
theorem LU [Inhabited α] : ∀ {P X M Y S:List α} {a b n:Nat},a=P.length→b=P.length+X.length+M.length→n=X.length→n=Y.length→swr (P++X++M++Y++S) a b n=P++Y++M++X++S
 |P,[],M,[],S,a,b,n,_,_,h,_=>by simp at h;subst h;simp [swr]
 | P,x::X,M,y::Y,S,a,b,n+1,ha,hb,hx,hy=>by
  subst ha hb
  have e:swp (P++(x::X)++M++(y::Y)++S) P.length (P.length+(x::X).length+M.length)=(P++[y])++X++(M++[x])++Y++S:=by
   have:=AiS (P:=P) (M:=X++M) (S:=Y++S) (x:=x) (y:=y) (i:=P.length) (j:=P.length+(x::X).length+M.length) rfl bA
   simpa [gC] using this
  rw [swr,e,LU (P:=P++[y]) (M:=M++[x]) (by simp) bA (by simpa using hx) (by simpa using hy)]
  simp [gC]
 |_,[],_,_::_,_,_,_,_,_,_,h,k=>by simp at h k;omega
 |_,_::_,_,[],_,_,_,_,_,_,h,k=>by simp at h k;omega
 |_,_::_,_,_::_,_,_,_,0,_,_,h,_=>by simp at h
def kat [Inhabited α] (key:α→Int) (l:List α) (i:Nat):Int:=key (l.getD i default)
theorem BO [Inhabited α] {l:List α} {x:α} (h:l[i]? = some x):kat key l i=key x:=by unfold kat;rw [fQ,h];rfl
def seg (l:List α) (a b:Nat):List α:=(l.drop a).take (b-a)
theorem EG {l:List α} :(seg l a b)[i]? = if a+i<b then l[a+i]? else none:=by
 unfold seg
 rw [gN]
 by_cases h:i<b-a
 ·rw [fR h,fR (by omega),gK]
 ·rw [fT h,fT (by omega)]
theorem GV {l:List α} {x:α}:x∈seg l a b ↔ ∃i,a≤i∧i<b∧l[i]? = some x:=by
 rw [List.mem_iff_getElem?]
 constructor
 ·rintro ⟨i,h⟩
  rw [EG] at h
  split at h
  ·exact ⟨a+i,by omega,by omega,h⟩
  ·cases h
 ·rintro ⟨i,h1,h2,h3⟩
  exact ⟨i-a,by rw [EG,fR (by omega),show a+(i-a)=i by omega];exact h3⟩
theorem BN {l:List α} (hb:b≤l.length):(seg l a b).length=b-a:=by unfold seg;simp;omega
theorem GU [Inhabited α] {l:List α} (h:BG key (seg l a b)) (h1:a≤i) (h2:i≤j) (h3:j<b) (hb:b≤l.length):kat key l i≤kat key l j:=by
 obtain ⟨x,hx⟩ : ∃x,l[i]? = some x:=⟨_,ZgE (by omega)⟩
 obtain ⟨y,hy⟩ : ∃y,l[j]? = some y:=⟨_,ZgE (by omega)⟩
 rw [BO hx,BO hy]
 by_cases e:i=j
 ·subst e;rw [hx] at hy;cases hy;exact gL _
 ·have:=kT.1 h (i-a) (j-a) (by rw [BN hb];omega) (by rw [BN hb];omega) (by omega)
  have e1:(seg l a b)[i-a]? = some x:=by rw [EG,fR (by omega),show a+(i-a)=i by omega];exact hx
  have e2:(seg l a b)[j-a]? = some y:=by rw [EG,fR (by omega),show a+(j-a)=j by omega];exact hy
  rw [(iJ.1 e1).2,(iJ.1 e2).2] at this
  exact this
variable {m:Nat}
theorem DI {l:List α} (h1:a≤m) (h2:m≤b):seg l a b=seg l a m++seg l m b:=by
 apply iO
 intro i
 by_cases hl:b≤l.length
 ·rw [List.getElem?_append,BN (by omega),EG,EG,EG]
  by_cases c:i<m-a
  ·rw [fR c]
   by_cases d:a+i<b
   ·rw [fR d,fR (by omega)]
   ·omega
  ·rw [fT c,show m+(i-(m-a))=a+i by omega]
 ·unfold seg
  rw [show l.drop m=(l.drop a).drop (m-a) by rw [kD];congr 1;omega,show b-a=(m-a)+(b-m) by omega,List.take_add]
theorem OY {l:List α} (h:a≤b):l=l.take a++seg l a b++l.drop b:=by
 unfold seg
 rw [gC]
 conv=>lhs;rw [←jC a l]
 congr 1
 conv=>lhs;rw [←jC (b-a) (l.drop a)]
 congr 1
 rw [kD];congr 1;omega
theorem KM {l:List α} :srt key l a b=l.take a++isort key (seg l a b)++l.drop b:=rfl
theorem CH {l:List α} (h:a≤b) (hs:BG key (seg l a b)):srt key l a b=l:=by rw [KM,SR hs, ←OY h]
theorem JF {l:List α} (h:a≤b):SE key l (srt key l a b):=by
 have:=((SE.refl (l.take a)).append (ML key (seg l a b))).append (SE.refl (l.drop b))
 rw [←OY h] at this
 exact this
theorem l8_ {x:α} {R1 R2:List α} (hs:BG key (R1++R2)) (h1 : ∀y∈R1,key y<key x) (h2 : ∀y∈R2,key x≤key y):isort key (x::(R1++R2))=R1++x::R2:=by
 obtain ⟨a1,a2,a3⟩:=GJ.1 hs
 refine MJ (GJ.2 ⟨a1,kW.2 ⟨h2,a2⟩,fun y hy z hz=>?_⟩) ?_
 ·rcases iH.1 hz with rfl|hz
  ·have:=h1 y hy;omega
  ·exact a3 y hy z hz
 ·have e:SE key ([x]++R1) (R1++[x]):=SE.swap fun y hy z hz=>by
   simp at hy;subst hy;have:=h1 z hz;omega
  have:=e.append (SE.refl R2)
  simpa [gC] using this
theorem l9_ {x:α} {R1 R2:List α} (hs:BG key (R1++R2)) (h1 : ∀y∈R1,key y≤key x) (h2 : ∀y∈R2,key x<key y):isort key (R1++R2++[x])=R1++x::R2:=by
 rw [GF,SR hs]
 exact KH (fun y hy=>by have:=h1 y hy;omega) h2
def bub [Inhabited α] (l:List α) (a:Nat):Nat→List α
 |0=>l
 |n+1=>bub (swp l a (a+1)) (a+1) n
theorem AdI [Inhabited α] : ∀ {R P S:List α} {x:α} {a n:Nat},a=P.length→n=R.length→bub (P++x::(R++S)) a n=P++R++x::S
 | [],P,S,x,a,n,_,h=>by simp at h;subst h;simp [bub]
 |y::R,P,S,x,a,0,_,h=>by simp at h
 | y::R,P,S,x,a,n+1,ha,h=>by
  have e:swp (P++x::((y::R)++S)) a (a+1)=(P++[y])++x::(R++S):=by
   have:=AiS (P:=P) (M:=[]) (S:=R++S) (x:=x) (y:=y) (i:=a) (j:=a+1) ha (by simp [ha])
   simpa [gC] using this
  rw [bub,e,AdI (by simp [ha]) fH]
  simp [gC]
def OB [Inhabited α] (l:List α) (k:Nat):Nat→List α
 |0=>l
 |n+1=>OB (swp l k (k-1)) (k-1) n
theorem q7_ [Inhabited α] : ∀ {n:Nat} {R P S:List α} {x:α} {k:Nat},k=P.length+R.length→n=R.length→OB (P++R++x::S) k n=P++x::(R++S)
 |0,R,P,S,x,k,_,h=>by
  have:R=[]:=iA h.symm
  subst this;simp [OB]
 | n+1,R,P,S,x,k,hk,h=>by
  obtain ⟨R0,y,rfl⟩ : ∃R0 y,R=R0++[y]:=by
   have hne:R≠[]:=by rintro rfl;simp at h
   exact ⟨_,_,(mG hne).symm⟩
  simp only [fP,gT] at hk h
  have e:swp (P++(R0++[y])++x::S) k (k-1)=P++R0++x::(y::S):=by
   have e0:P++(R0++[y])++x::S=(P++R0)++y::x::S:=by simp [gC]
   have e1:((P++R0)++y::x::S).getD (k-1) default=y:=by rw [fQ,gD bA,show k-1-(P++R0).length=0 by simp;omega];rfl
   have e2:((P++R0)++y::x::S).getD k default=x:=by rw [fQ,gD bA,show k-(P++R0).length=1 by simp;omega];rfl
   rw [e0];unfold swp;rw [e1,e2]
   exact ZF bA bA
  rw [OB,e,q7_ (by omega) (by omega)]
  simp [gC]
theorem i_ {l:List α} {x:α} (hx:l[a]? = some x):seg l a (a+1)=[x]:=by
 unfold seg;rw [GB hx,jP];rfl
theorem GE {l:List α} (h:a≤b):l.drop a=seg l a b++l.drop b:=by
 unfold seg
 conv=>lhs;rw [←jC (b-a) (l.drop a)]
 congr 1
 rw [kD];congr 1;omega
theorem VY [Inhabited α] {l:List α} (ha:a+1≤i) (hib:i≤b) (hb:b≤l.length) (hs:BG key (seg l (a+1) b)) (h1:a+1<i→kat key l (i-1)<kat key l a) (h2:i<b→kat key l a≤kat key l i) :
  bub l a (i-(a+1))=srt key l a b:=by
 obtain ⟨x,hx⟩ : ∃x,l[a]? = some x:=⟨_,ZgE (by omega)⟩
 have e:l=l.take a++x::(seg l (a+1) i++(seg l i b++l.drop b)):=by
  conv=>lhs;rw [←jC a l,GB hx,GE ha,GE hib]
 rw [KM,DI (m:=a+1) (by omega) (by omega),i_ hx,DI ha hib]
 rw [DI ha hib] at hs
 rw [mK,l8_ hs (fun y hy=>?_) (fun y hy=>?_)]
 ·conv=>lhs;rw [e,AdI bA (by rw [BN (by omega)])]
  simp [gC]
 ·obtain ⟨q,h3,h4,h5⟩:=GV.1 hy
  rw [←DI ha hib] at hs
  have:=GU hs h3 (show q≤i-1 by omega) (by omega) hb
  rw [BO h5] at this
  have:=h1 (by omega)
  rw [BO hx] at this
  omega
 ·obtain ⟨q,h3,h4,h5⟩:=GV.1 hy
  rw [←DI ha hib] at hs
  have:=GU hs ha h3 h4 hb
  rw [BO h5] at this
  have:=h2 (by omega)
  rw [BO hx] at this
  omega
theorem SZ [Inhabited α] {l:List α} (ai:a≤i) (im:i≤m) (hm:m<l.length) (hs:BG key (seg l a m)) (h1:a<i→kat key l (i-1)≤kat key l m) (h2:i<m→kat key l m<kat key l i) :
  OB l m (m-i)=srt key l a (m+1):=by
 obtain ⟨x,hx⟩ : ∃x,l[m]? = some x:=⟨_,ZgE (by omega)⟩
 have e:l=(l.take a++seg l a i)++seg l i m++x::l.drop (m+1):=by
  conv=>lhs;rw [←jC a l,GE ai,GE im,GB hx]
  simp [gC]
 rw [KM,DI (m:=m) (by omega) (by omega),i_ hx,DI ai im]
 rw [DI ai im] at hs
 rw [l9_ hs (fun y hy=>?_) (fun y hy=>?_)]
 ·conv=>lhs;rw [e,q7_ (by simp [BN (show i≤l.length by omega),BN (show m≤l.length by omega)];omega) (by rw [BN (by omega)])]
  simp [gC]
 ·obtain ⟨q,h3,h4,h5⟩:=GV.1 hy
  rw [←DI ai im] at hs
  have:=GU hs h3 (show q≤i-1 by omega) (by omega) (by omega)
  rw [BO h5] at this
  have:=h1 (by omega)
  rw [BO hx] at this
  omega
 ·obtain ⟨q,h3,h4,h5⟩:=GV.1 hy
  rw [←DI ai im] at hs
  have:=GU hs ai h3 h4 (by omega)
  rw [BO h5] at this
  have:=h2 (by omega)
  rw [BO hx] at this
  omega
def rot (l:List α) (a m b:Nat):List α:=l.take a++seg l m b++seg l a m++l.drop b
theorem RA {l:List α} (h1:a≤m) (h2:m≤b) (hb:b≤l.length):(rot l a m b).length=l.length:=by
 unfold rot;simp only [fP,fY,gJ,BN hb,BN (show m≤l.length by omega)];omega
theorem o2_ {l:List α} (h1:a≤m) (h2:m≤b):l=l.take a++seg l a m++seg l m b++l.drop b:=by
 conv=>lhs;rw [←jC a l,GE h1,GE h2]
 simp [gC]
theorem NF {l:List α} (h1:a≤m) (h2:m≤b) (h : ¬(a<m∧m<b)):rot l a m b=l:=by
 conv=>rhs;rw [o2_ (l:=l) h1 h2]
 unfold rot
 by_cases e:a=m
 ·subst e;rw [show seg l a a=[] by unfold seg;simp];simp
 ·have:m=b:=by omega
  subst this;rw [show seg l m m=[] by unfold seg;simp];simp
theorem NH {P M S:List α} (ha:a=P.length) (hb:b=P.length+M.length):seg (P++M++S) a b=M:=by
 subst ha hb
 unfold seg
 rw [gC,mZ,jP,lP]
theorem KJ [Inhabited α] {l:List α} {a m b st en mid:Nat} (h1:a≤st) (h2:st≤m) (h3:m≤en) (h4:en≤b) (hb:b≤l.length) (hmid:mid+m=st+en) (hs1:BG key (seg l a m)) (hs2:BG key (seg l m b))
  (f1:a<st→en<b→kat key l (st-1)≤kat key l en) (f2:st<m→m<en→kat key l (en-1)<kat key l st) :
  BG key (seg (rot l st m en) a st)∧BG key (seg (rot l st m en) st mid)∧BG key (seg (srt key (rot l st m en) a mid) mid en)∧BG key (seg (srt key (rot l st m en) a mid) en b)∧srt key (srt key (rot l st m en) a mid) mid b=srt key l a b:=by
 have lA:=BN (l:=l) (a:=a) (b:=st) (by omega)
 have lB:=BN (l:=l) (a:=st) (b:=m) (by omega)
 have lC:=BN (l:=l) (a:=m) (b:=en) (by omega)
 have lD:=BN (l:=l) (a:=en) (b:=b) (by omega)
 have g1 : ∀x∈seg l a st,∀y∈seg l en b,key x≤key y:=fun x hx y hy=>by
  obtain ⟨p,p1,p2,p3⟩:=GV.1 hx
  obtain ⟨q,q1,q2,q3⟩:=GV.1 hy
  have a1:=GU hs1 p1 (show p≤st-1 by omega) (by omega) (by omega)
  have a2:=GU hs2 h3 q1 q2 hb
  have a3:=f1 (by omega) (by omega)
  rw [BO p3] at a1;rw [BO q3] at a2
  omega
 have g2 : ∀x∈seg l st m,∀y∈seg l m en,key y<key x:=fun x hx y hy=>by
  obtain ⟨p,p1,p2,p3⟩:=GV.1 hx
  obtain ⟨q,q1,q2,q3⟩:=GV.1 hy
  have a1:=GU hs1 h1 p1 p2 (by omega)
  have a2:=GU hs2 q1 (show q≤en-1 by omega) (by omega) hb
  have a3:=f2 (by omega) (by omega)
  rw [BO p3] at a1;rw [BO q3] at a2
  omega
 have eT:l.take st=l.take a++seg l a st:=by
  have:=OY (l:=l) h1
  conv=>lhs;rw [this,gC, ←gC]
  rw [List.take_left' (by simp only [fP,fY,lA];omega)]
 have eD:l.drop en=seg l en b++l.drop b:=GE h4
 have eR:rot l st m en=l.take a++(seg l a st++seg l m en)++(seg l st m++(seg l en b++l.drop b)):=by
  unfold rot;rw [eT,eD];simp [gC]
 have eL:seg l a b=seg l a st++seg l st m++seg l m en++seg l en b:=by rw [DI (m:=m) (by omega) (by omega),DI h1 h2,DI h3 h4];simp [gC]
 rw [DI h1 h2] at hs1
 rw [DI h3 h4] at hs2
 have hta:(l.take a).length=a:=by rw [fY];omega
 have eS:srt key (rot l st m en) a mid=l.take a++isort key (seg l a st++seg l m en)++(seg l st m++(seg l en b++l.drop b)):=by
  rw [eR,w_ (by omega) (by rw [hta,fP,lA,lC];omega)]
 have eS2:srt key (rot l st m en) a mid=(l.take a++isort key (seg l a st++seg l m en))++(seg l st m++seg l en b)++l.drop b:=by rw [eS];simp [gC]
 have hP:(l.take a++isort key (seg l a st++seg l m en)).length=mid:=by rw [fP,CC,fP,hta,lA,lC];omega
 obtain ⟨a1,a2,a3⟩:=GJ.1 hs1
 obtain ⟨c1,c2,c3⟩:=GJ.1 hs2
 refine ⟨?_,?_,?_,?_,?_⟩
 ·rw [eR,show l.take a++(seg l a st++seg l m en)++(seg l st m++(seg l en b++l.drop b))=l.take a++seg l a st++(seg l m en++(seg l st m++(seg l en b++l.drop b))) by simp [gC],NH (by omega) (by omega)]
  exact a1
 ·rw [eR,show l.take a++(seg l a st++seg l m en)++(seg l st m++(seg l en b++l.drop b))=(l.take a++seg l a st)++seg l m en++(seg l st m++(seg l en b++l.drop b)) by simp [gC],NH (by rw [fP];omega) (by rw [fP];omega)]
  exact c1
 ·rw [eS,show l.take a++isort key (seg l a st++seg l m en)++(seg l st m++(seg l en b++l.drop b))=(l.take a++isort key (seg l a st++seg l m en))++seg l st m++(seg l en b++l.drop b) by simp [gC],NH hP.symm (by rw [hP];omega)]
  exact a2
 ·rw [eS,show l.take a++isort key (seg l a st++seg l m en)++(seg l st m++(seg l en b++l.drop b))=(l.take a++isort key (seg l a st++seg l m en)++seg l st m)++seg l en b++l.drop b by simp [gC],NH (by rw [fP,hP];omega) (by rw [fP,hP];omega)]
  exact c2
 ·rw [eS2,w_ hP.symm (by rw [hP,fP];omega),KM,eL]
  exact d6_ hs1 hs2 g1 g2
def blk (key:α→Int) (l:List α) (bs a b:Nat):Prop:=∀q,a≤q→q<b→BG key (seg l (q*bs) (q*bs+bs))
theorem v9_ {l:List α} (h:a≤b) (hb:b≤l.length):seg (srt key l a b) a b=isort key (seg l a b):=by
 rw [KM];exact NH bA (by rw [CC,BN hb];simp;omega)
theorem AoD {l:List α} (h:a≤b) (hb:b≤l.length) (hi:i<a∨b≤i):(srt key l a b)[i]? = l[i]? := by
 have hta:(l.take a).length=a:=by rw [fY];omega
 rw [KM]
 rcases hi with hi|hi
 ·rw [gC,gH (by omega),gN,fR hi]
 ·rw [gD (by rw [fP,hta,CC,BN hb];omega),fP,hta,CC,BN hb,gK]
  congr 1;omega
variable {c d:Nat}
theorem PD {l:List α} (h:a≤b) (hb:b≤l.length) (hc:d≤a∨b≤c):seg (srt key l a b) c d=seg l c d:=by
 apply iO
 intro i
 rw [EG,EG]
 split
 ·exact AoD h hb (by omega)
 ·rfl
theorem NI {l:List α} (hb:l.length≤b) (hc:l.length≤c):seg l a b=seg l a c:=by
 apply iO
 intro i
 rw [EG,EG]
 split<;>split
 ·rfl
 ·rw [gS (by omega)]
 ·rw [gS (by omega)]
 ·rfl
theorem h1_ {l:List α} (h:l.length≤a):seg l a b=[]:=by
 apply iO
 intro i
 rw [EG]
 split
 ·rw [gS (by omega)];rfl
 ·rfl
theorem h7_:BG key ([]:List α):=List.Pairwise.nil
theorem a8_ (hd:d∣a) (hc:d∣c) (h1:a≤c) (h2:c<a+d):c=a:=by
 have:=Nat.eq_zero_of_dvd_of_lt (Nat.dvd_sub hc hd) (by omega)
 omega
theorem OF (hd:d∣a) (hc:d∣c) (h:c<a):c+d≤a:=by
 rcases Nat.lt_or_ge a (c+d) with k|k
 ·have:=a8_ hc hd (by omega) k;omega
 ·exact k
theorem VN (hd:d∣a) (hc:d∣c) (h:a<c):a+d≤c:=OF hc hd h
theorem ME {l:List α} (hd:d∣a) (h : ∀c,d∣c→c<a→BG key (seg l c (c+d))) (hb:a+d≤l.length) : ∀c,d∣c→c<a+d→BG key (seg (srt key l a (a+d)) c (c+d)):=fun c hc hlt=>by
 by_cases e:c<a
 ·rw [PD (by omega) hb (.inl (OF hd hc e))];exact h c hc e
 ·obtain rfl:=a8_ hd hc (by omega) hlt
  rw [v9_ (by omega) hb];exact (DN _ _).1
theorem MD {l:List α} (hd:d∣a) (h : ∀c,d∣c→c<a→BG key (seg l c (c+d))) (ha:a≤l.length) (hb:l.length<a+d) : ∀c,d∣c→BG key (seg (srt key l a l.length) c (c+d)):=fun c hc=>by
 have hl:=DV (key:=key) ha (fV _)
 by_cases e:c<a
 ·rw [PD ha (fV _) (.inl (OF hd hc e))];exact h c hc e
 ·by_cases e2:c=a
  ·subst e2
   rw [NI (c:=l.length) (by omega) (by omega),v9_ ha (fV _)];exact (DN _ _).1
  ·have:=VN hd hc (by omega)
   rw [h1_ (by omega)];exact h7_
theorem a_ {l:List α} (hd:2*d∣a) (h : ∀c,2*d∣c→c<a→BG key (seg l c (c+2*d))) (h2 : ∀c,d∣c→a≤c→BG key (seg l c (c+d))) (hb:l.length≤a+d) : ∀c,2*d∣c→BG key (seg l c (c+2*d)):=fun c hc=>by
 by_cases e:c<a
 ·exact h c hc e
 ·by_cases e2:c=a
  ·subst e2
   rw [NI (c:=c+d) (by omega) hb];exact h2 c (Nat.dvd_trans (Nat.dvd_mul_left _ _) hc) (fV _)
  ·have:=VN hd hc (by omega)
   rw [h1_ (by omega)];exact h7_
theorem RW {l:List α} (h2 : ∀c,d∣c→a≤c→BG key (seg l c (c+d))) (hab:a≤b) (hb:b≤l.length) : ∀c,d∣c→b≤c→BG key (seg (srt key l a b) c (c+d)):=fun c hc hle=>by
 rw [PD hab hb (.inr hle)];exact h2 c hc (by omega)
theorem q6_ {l m:List α} (h : ∀c,d∣c→BG key (seg m c (c+d))) (hs:SE key l m) (hd:m.length≤d):isort key l=m:=by
 have:=h 0 (Nat.dvd_zero _)
 rw [show seg m 0 (0+d)=m by unfold seg;rw [iK,jE (by omega)]] at this
 exact MJ this hs
theorem RB {l:List α} {x:α} (h:x∈rot l a m b):x∈l:=by
 unfold rot at h
 simp only [gQ] at h
 rcases h with ((h|h)|h)|h
 ·exact iQ h
 ·exact iF (iQ h)
 ·exact iF (iQ h)
 ·exact iF h
theorem RI {l:List α} (h:a≤b) {x:α}:x∈srt key l a b↔x∈l:=(JF h).mem
end Go.Proofs.YtccefppppedgkaaGreat
