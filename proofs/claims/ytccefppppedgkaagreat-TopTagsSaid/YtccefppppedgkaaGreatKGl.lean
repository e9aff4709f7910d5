/- Joined: XTStab. -/
import Derived.Test.YtccefppppedgkaaGreatKGb
set_option linter.unusedVariables false
set_option linter.unusedSimpArgs false
set_option linter.unnecessarySimpa false
set_option maxRecDepth 100000
set_option maxHeartbeats 64000000
namespace Go.Proofs.YtccefppppedgkaaGreat
variable {α:Type} {key:α→Int}
def GF (key:α→Int) (x:α):List α→List α
 | []=>[x]
 |y::s=>if key x<key y then x::y::s else y::GF key x s
def isort (key:α→Int) (l:List α):List α:=l.foldl (fun s x=>GF key x s) []
def BF (key:α→Int) (l:List α):Prop:=l.Pairwise fun a b=>key a≤key b
theorem RE {x z:α} : ∀ {s:List α},z∈GF key x s↔z=x∨z∈s
 | []=>by simp [GF]
 | y::s=>by
  unfold GF
  split
  ·simp
  ·simp only [iE,RE (s:=s)]
   constructor
   ·rintro (h|h|h)<;>simp [h]
   ·rintro (h|h|h)<;>simp [h]
theorem ZN {x:α} : ∀ {s:List α},(GF key x s).length=s.length+1
 | []=>rfl
 |y::s=>by
  unfold GF
  split
  ·simp
  ·simp [ZN (s:=s)]
theorem UH {x:α} : ∀ {s:List α},BF key s→BF key (GF key x s)
 | [],_=>by simp [GF,BF]
 | y::s,h=>by
  obtain ⟨h1,h2⟩:=kJ.1 h
  unfold GF
  split
  ·rename_i hx
   refine kJ.2 ⟨fun z hz=>?_,h⟩
   rcases iE.1 hz with rfl|hz
   ·omega
   ·have:=h1 z hz;omega
  ·rename_i hx
   refine kJ.2 ⟨fun z hz=>?_,UH h2⟩
   rcases RE.1 hz with rfl|hz
   ·omega
   ·exact h1 z hz
theorem JU {x:α} : ∀ {S1 S2:List α},(∀y∈S1,¬key x<key y)→(∀y∈S2,key x<key y)→GF key x (S1++S2)=S1++x::S2
 | [],[],_,_=>rfl
 | [],y::s,_,h=>by simp only [gM];unfold GF;rw [fL (h y (by simp))]
 |y::s,S2,h,h2=>by
  simp only [gS];unfold GF
  rw [fM (h y (by simp)),JU (fun z hz=>h z (by simp [hz])) h2]
theorem FU {l:List α} {x:α}:isort key (l++[x])=GF key x (isort key l):=by unfold isort;rw [jM];rfl
theorem DJ (key:α→Int) (l:List α):BF key (isort key l)∧(isort key l).length=l.length ∧ ∀z,z∈isort key l↔z∈l:=by
 unfold isort
 suffices h : ∀(l s:List α),BF key s→BF key (l.foldl (fun s x=>GF key x s) s)∧(l.foldl (fun s x=>GF key x s) s).length=l.length+s.length ∧ ∀z,z∈l.foldl (fun s x=>GF key x s) s↔z∈l∨z∈s by
  obtain ⟨h1,h2,h3⟩:=h l [] List.Pairwise.nil
  exact ⟨h1,by simpa using h2,fun z=>by simpa using h3 z⟩
 intro l
 induction l with
 |nil=>intro s hs;exact ⟨hs,by simp,fun z=>by simp⟩
 |cons x l ih =>
  intro s hs
  obtain ⟨h1,h2,h3⟩:=ih (GF key x s) (UH hs)
  refine ⟨h1,by rw [kE,h2,ZN];simp;omega,fun z=>?_⟩
  rw [kE,h3,RE,iE]
  constructor
  ·rintro (h|h|h)<;>simp [h]
  ·rintro ((h|h)|h)<;>simp [h]
theorem ED {l:List α} {z:α}:z∈isort key l↔z∈l:=(DJ key l).2.2 z
theorem CC (l:List α):(isort key l).length=l.length:=(DJ key l).2.1
def srt (key:α→Int) (l:List α) (a b:Nat):List α:=l.take a++isort key ((l.drop a).take (b-a))++l.drop b
variable {a b:Nat}
theorem DP {l:List α} (h:a≤b) (hb:b≤l.length):(srt key l a b).length=l.length:=by
 unfold srt;simp only [fJ,fQ,CC,gD];omega
theorem d8_ {l:List α} :srt key l a a=l:=by
 unfold srt;simp [isort]
variable {i:Nat}
theorem SL {l:List α} {x:α} (h:a≤i) (hx:l[i]? = some x):(l.drop a).take (i+1-a)=(l.drop a).take (i-a)++[x]:=by
 rw [show i+1-a=(i-a)+1 by omega,iG,gC,show a+(i-a)=i by omega,hx];rfl
theorem FP {l:List α} {x:α} (hx:l[i]? = some x):l.drop i=x::l.drop (i+1):=by
 obtain ⟨h,e⟩:=gZ.1 hx
 rw [List.drop_eq_getElem_cons h,e]
theorem r9_ {l:List α} (h:a<l.length):srt key l a (a+1)=l:=by
 obtain ⟨x,hx⟩ : ∃x,l[a]? = some x:=⟨_,ZgE h⟩
 unfold srt
 rw [SL (fN _) hx,kS,jJ,FU]
 show l.take a++[x]++l.drop (a+1)=l
 rw [fS,lX, ←FP hx,iR]
variable {j:Nat}
theorem XW {P R:List α} {x y:α} (hj:j=P.length+1) (hi:i=P.length):((P++y::x::R).set j y).set i x=P++x::y::R:=by
 subst hj hi
 rw [mI,fM (by omega),show P.length+1-P.length=1 by omega,mI,fM (by omega),kS];rfl
def SE (key:α→Int) (l L:List α):Prop:=∀k:Int,L.filter (fun x=>decide (key x=k))=l.filter (fun x=>decide (key x=k))
theorem SE.refl (l:List α):SE key l l:=fun _=>rfl
theorem SE.trans {a b c:List α} (h:SE key a b) (k:SE key b c):SE key a c:=fun i=>(k i).trans (h i)
theorem SE.symm {a b:List α} (h:SE key a b):SE key b a:=fun i=>(h i).symm
theorem SE.append {a b c d:List α} (h:SE key a b) (k:SE key c d):SE key (a++c) (b++d):=fun i=>by rw [lE,lE,h i,k i]
theorem SE.mem {a b:List α} (h:SE key a b) {x:α}:x∈b↔x∈a:=by
 have e:=h (key x)
 have h1:x∈b↔x∈b.filter (fun y=>decide (key y=key x)):=by simp
 have h2:x∈a↔x∈a.filter (fun y=>decide (key y=key x)):=by simp
 rw [h1,h2,e]
theorem OX {l:List α} {k:Int} (h : ∀x∈l,key x≠k):l.filter (fun x=>decide (key x=k))=[]:=by
 rw [List.filter_eq_nil_iff];intro x hx;simp [h x hx]
theorem SE.swap {a b:List α} (h : ∀x∈a,∀y∈b,key x≠key y):SE key (a++b) (b++a):=fun k=>by
 rw [lE,lE]
 by_cases hx : ∃x∈a,key x=k
 ·obtain ⟨x,hx,rfl⟩:=hx
  rw [OX (l:=b) fun y hy e=>h x hx y hy e.symm];simp
 ·rw [OX (l:=a) fun y hy e=>hx ⟨y,hy,e⟩];simp
theorem n4_ {x:α} : ∀ {s:List α},BF key s→SE key (s++[x]) (GF key x s)
 | [],_=>SE.refl _
 | y::s,h=>by
  obtain ⟨h1,h2⟩:=kJ.1 h
  unfold GF
  split
  ·rename_i hx
   refine SE.swap (a:=y::s) (b:=[x]) fun z hz w hw=>?_
   simp at hw;subst hw
   rcases iE.1 hz with rfl|hz
   ·omega
   ·have:=h1 z hz;omega
  ·exact SE.append (a:=[y]) (b:=[y]) (SE.refl _) (n4_ h2)
theorem LV (key:α→Int) (l:List α):SE key l (isort key l):=by
 suffices h : ∀r:List α,SE key r.reverse (isort key r.reverse) by simpa using h l.reverse
 intro r
 induction r with
 |nil=>exact SE.refl _
 |cons x r ih =>
  rw [List.reverse_cons,FU]
  exact (SE.append ih (SE.refl [x])).trans (n4_ (DJ _ _).1)
theorem PH : ∀ {L M:List α},BF key L→BF key M→SE key L M→L=M
 | [],[],_,_,_=>rfl
 | [],y::M,_,_,h=>by have:=(h.mem (x:=y)).1 (by simp);simp at this
 |x::L,[],_,_,h=>by have:=(h.mem (x:=x)).2 (by simp);simp at this
 | x::L,y::M,h1,h2,h=>by
  obtain ⟨a1,a2⟩:=kJ.1 h1
  obtain ⟨b1,b2⟩:=kJ.1 h2
  have e1:key x≤key y:=by
   rcases iE.1 ((h.mem (x:=y)).1 (by simp)) with rfl|hm
   ·exact gG _
   ·exact a1 y hm
  have e2:key y≤key x:=by
   rcases iE.1 ((h.mem (x:=x)).2 (by simp)) with rfl|hm
   ·exact gG _
   ·exact b1 x hm
  have e3:key y=key x:=by omega
  have e4:=h (key x)
  rw [mT,mT,fL (by simp [e3]),fL (by simp)] at e4
  obtain ⟨rfl,_⟩:=List.cons.inj e4
  rw [PH a2 b2 fun k=>?_]
  have e5:=h k
  rw [mT,mT] at e5
  split at e5
  ·exact (List.cons.inj e5).2
  ·exact e5
theorem LU {l L:List α} (h:BF key L) (hs:SE key l L):isort key l=L:=PH (DJ _ _).1 h ((LV key l).symm.trans hs)
theorem RH {l:List α} (h:BF key l):isort key l=l:=LU h (SE.refl _)
theorem GA {a b:List α}:BF key (a++b)↔BF key a∧BF key b ∧ ∀x∈a,∀y∈b,key x≤key y:=lI
theorem r8_ {P M S:List α} (ha:a=P.length) (hb:b=P.length+M.length):srt key (P++M++S) a b=P++isort key M++S:=by
 subst ha hb
 have e1:(P++M++S).take P.length=P:=by simp
 have e2:(P++M++S).drop P.length=M++S:=by simp
 have e3:(P++M++S).drop (P.length+M.length)=S:=by rw [←fJ,List.drop_left]
 unfold srt
 rw [e1,e2,e3,jH,kX]
theorem a3_ {P A B C D S:List α} (hA:BF key (A++B)) (hC:BF key (C++D)) (h1 : ∀x∈A,∀y∈D,key x≤key y) (h2 : ∀x∈B,∀y∈C,key y<key x) :
  P++isort key (A++C)++isort key (B++D)++S=P++isort key (A++B++C++D)++S:=by
 obtain ⟨a1,a2,a3⟩:=GA.1 hA
 obtain ⟨c1,c2,c3⟩:=GA.1 hC
 have:isort key (A++B++C++D)=isort key (A++C)++isort key (B++D):=by
  refine LU (GA.2 ⟨(DJ _ _).1,(DJ _ _).1,fun x hx y hy=>?_⟩) ?_
  ·rw [ED] at hx hy
   rcases gJ.1 hx with hx|hx<;>rcases gJ.1 hy with hy|hy
   ·exact a3 x hx y hy
   ·exact h1 x hx y hy
   ·have:=h2 y hy x hx;omega
   ·exact c3 x hx y hy
  ·refine SE.trans (b:=(A++C)++(B++D)) ?_ ((LV _ _).append (LV _ _))
   have e:SE key (B++C) (C++B):=SE.swap fun x hx y hy=>by have:=h2 x hx y hy;omega
   have:=((SE.refl A).append e).append (SE.refl D)
   simpa [fS] using this
 rw [this];simp [fS]
def swp [Inhabited α] (l:List α) (i j:Nat):List α:=(l.set i (l.getD j default)).set j (l.getD i default)
theorem AgQ [Inhabited α] {P M S:List α} {x y:α} (hi:i=P.length) (hj:j=P.length+1+M.length):swp (P++x::(M++y::S)) i j=P++y::(M++x::S):=by
 subst hi hj
 have e1:(P++x::(M++y::S)).getD P.length default=x:=by simp [fK]
 have e2:(P++x::(M++y::S)).getD (P.length+1+M.length) default=y:=by
  rw [fK,fV (by omega),show P.length+1+M.length-P.length=M.length+1 by omega,iX];simp
 unfold swp
 rw [e1,e2,mI,fM (by omega),kS,gX,mI,fM (by omega),show P.length+1+M.length-P.length=M.length+1 by omega,iB,mI,fM (by omega),kS,gX]
def swr [Inhabited α] (l:List α) (a b:Nat):Nat→List α
 |0=>l
 |n+1=>swr (swp l a b) (a+1) (b+1) n
theorem LE [Inhabited α] : ∀ {P X M Y S:List α} {a b n:Nat},a=P.length→b=P.length+X.length+M.length→n=X.length→n=Y.length→swr (P++X++M++Y++S) a b n=P++Y++M++X++S
 |P,[],M,[],S,a,b,n,_,_,h,_=>by simp at h;subst h;simp [swr]
 | P,x::X,M,y::Y,S,a,b,n+1,ha,hb,hx,hy=>by
  subst ha hb
  have e:swp (P++(x::X)++M++(y::Y)++S) P.length (P.length+(x::X).length+M.length)=(P++[y])++X++(M++[x])++Y++S:=by
   have:=AgQ (P:=P) (M:=X++M) (S:=Y++S) (x:=x) (y:=y) (i:=P.length) (j:=P.length+(x::X).length+M.length) rfl bA
   simpa [fS] using this
  rw [swr,e,LE (P:=P++[y]) (M:=M++[x]) (by simp) bA (by simpa using hx) (by simpa using hy)]
  simp [fS]
 |_,[],_,_::_,_,_,_,_,_,_,h,k=>by simp at h k;omega
 |_,_::_,_,[],_,_,_,_,_,_,h,k=>by simp at h k;omega
 |_,_::_,_,_::_,_,_,_,0,_,_,h,_=>by simp at h
def kat [Inhabited α] (key:α→Int) (l:List α) (i:Nat):Int:=key (l.getD i default)
theorem BO [Inhabited α] {l:List α} {x:α} (h:l[i]? = some x):kat key l i=key x:=by unfold kat;rw [fK,h];rfl
def seg (l:List α) (a b:Nat):List α:=(l.drop a).take (b-a)
theorem DV {l:List α} :(seg l a b)[i]? = if a+i<b then l[a+i]? else none:=by
 unfold seg
 rw [gF]
 by_cases h:i<b-a
 ·rw [fL h,fL (by omega),gC]
 ·rw [fM h,fM (by omega)]
theorem GN {l:List α} {x:α}:x∈seg l a b ↔ ∃i,a≤i∧i<b∧l[i]? = some x:=by
 rw [List.mem_iff_getElem?]
 constructor
 ·rintro ⟨i,h⟩
  rw [DV] at h
  split at h
  ·exact ⟨a+i,by omega,by omega,h⟩
  ·cases h
 ·rintro ⟨i,h1,h2,h3⟩
  exact ⟨i-a,by rw [DV,fL (by omega),show a+(i-a)=i by omega];exact h3⟩
theorem BN {l:List α} (hb:b≤l.length):(seg l a b).length=b-a:=by unfold seg;simp;omega
theorem GM [Inhabited α] {l:List α} (h:BF key (seg l a b)) (h1:a≤i) (h2:i≤j) (h3:j<b) (hb:b≤l.length):kat key l i≤kat key l j:=by
 obtain ⟨x,hx⟩ : ∃x,l[i]? = some x:=⟨_,ZgE (by omega)⟩
 obtain ⟨y,hy⟩ : ∃y,l[j]? = some y:=⟨_,ZgE (by omega)⟩
 rw [BO hx,BO hy]
 by_cases e:i=j
 ·subst e;rw [hx] at hy;cases hy;exact gG _
 ·have:=kG.1 h (i-a) (j-a) (by rw [BN hb];omega) (by rw [BN hb];omega) (by omega)
  have e1:(seg l a b)[i-a]? = some x:=by rw [DV,fL (by omega),show a+(i-a)=i by omega];exact hx
  have e2:(seg l a b)[j-a]? = some y:=by rw [DV,fL (by omega),show a+(j-a)=j by omega];exact hy
  rw [(gZ.1 e1).2,(gZ.1 e2).2] at this
  exact this
variable {m:Nat}
theorem DC {l:List α} (h1:a≤m) (h2:m≤b):seg l a b=seg l a m++seg l m b:=by
 apply iI
 intro i
 by_cases hl:b≤l.length
 ·rw [List.getElem?_append,BN (by omega),DV,DV,DV]
  by_cases c:i<m-a
  ·rw [fL c]
   by_cases d:a+i<b
   ·rw [fL d,fL (by omega)]
   ·omega
  ·rw [fM c,show m+(i-(m-a))=a+i by omega]
 ·unfold seg
  rw [show l.drop m=(l.drop a).drop (m-a) by rw [jV];congr 1;omega,show b-a=(m-a)+(b-m) by omega,List.take_add]
theorem OC {l:List α} (h:a≤b):l=l.take a++seg l a b++l.drop b:=by
 unfold seg
 rw [fS]
 conv=>lhs;rw [←iR a l]
 congr 1
 conv=>lhs;rw [←iR (b-a) (l.drop a)]
 congr 1
 rw [jV];congr 1;omega
theorem KA {l:List α} :srt key l a b=l.take a++isort key (seg l a b)++l.drop b:=rfl
theorem CG {l:List α} (h:a≤b) (hs:BF key (seg l a b)):srt key l a b=l:=by rw [KA,RH hs, ←OC h]
theorem IQ {l:List α} (h:a≤b):SE key l (srt key l a b):=by
 have:=((SE.refl (l.take a)).append (LV key (seg l a b))).append (SE.refl (l.drop b))
 rw [←OC h] at this
 exact this
theorem h6_ {x:α} {R1 R2:List α} (hs:BF key (R1++R2)) (h1 : ∀y∈R1,key y<key x) (h2 : ∀y∈R2,key x≤key y):isort key (x::(R1++R2))=R1++x::R2:=by
 obtain ⟨a1,a2,a3⟩:=GA.1 hs
 refine LU (GA.2 ⟨a1,kJ.2 ⟨h2,a2⟩,fun y hy z hz=>?_⟩) ?_
 ·rcases iE.1 hz with rfl|hz
  ·have:=h1 y hy;omega
  ·exact a3 y hy z hz
 ·have e:SE key ([x]++R1) (R1++[x]):=SE.swap fun y hy z hz=>by
   simp at hy;subst hy;have:=h1 z hz;omega
  have:=e.append (SE.refl R2)
  simpa [fS] using this
theorem h7_ {x:α} {R1 R2:List α} (hs:BF key (R1++R2)) (h1 : ∀y∈R1,key y≤key x) (h2 : ∀y∈R2,key x<key y):isort key (R1++R2++[x])=R1++x::R2:=by
 rw [FU,RH hs]
 exact JU (fun y hy=>by have:=h1 y hy;omega) h2
def bub [Inhabited α] (l:List α) (a:Nat):Nat→List α
 |0=>l
 |n+1=>bub (swp l a (a+1)) (a+1) n
theorem AbL [Inhabited α] : ∀ {R P S:List α} {x:α} {a n:Nat},a=P.length→n=R.length→bub (P++x::(R++S)) a n=P++R++x::S
 | [],P,S,x,a,n,_,h=>by simp at h;subst h;simp [bub]
 |y::R,P,S,x,a,0,_,h=>by simp at h
 | y::R,P,S,x,a,n+1,ha,h=>by
  have e:swp (P++x::((y::R)++S)) a (a+1)=(P++[y])++x::(R++S):=by
   have:=AgQ (P:=P) (M:=[]) (S:=R++S) (x:=x) (y:=y) (i:=a) (j:=a+1) ha (by simp [ha])
   simpa [fS] using this
  rw [bub,e,AbL (by simp [ha]) fD]
  simp [fS]
def NE [Inhabited α] (l:List α) (k:Nat):Nat→List α
 |0=>l
 |n+1=>NE (swp l k (k-1)) (k-1) n
theorem m3_ [Inhabited α] : ∀ {n:Nat} {R P S:List α} {x:α} {k:Nat},k=P.length+R.length→n=R.length→NE (P++R++x::S) k n=P++x::(R++S)
 |0,R,P,S,x,k,_,h=>by
  have:R=[]:=gT h.symm
  subst this;simp [NE]
 | n+1,R,P,S,x,k,hk,h=>by
  obtain ⟨R0,y,rfl⟩ : ∃R0 y,R=R0++[y]:=by
   have hne:R≠[]:=by rintro rfl;simp at h
   exact ⟨_,_,(lU hne).symm⟩
  simp only [fJ,gQ] at hk h
  have e:swp (P++(R0++[y])++x::S) k (k-1)=P++R0++x::(y::S):=by
   have e0:P++(R0++[y])++x::S=(P++R0)++y::x::S:=by simp [fS]
   have e1:((P++R0)++y::x::S).getD (k-1) default=y:=by rw [fK,fV bA,show k-1-(P++R0).length=0 by simp;omega];rfl
   have e2:((P++R0)++y::x::S).getD k default=x:=by rw [fK,fV bA,show k-(P++R0).length=1 by simp;omega];rfl
   rw [e0];unfold swp;rw [e1,e2]
   exact XW bA bA
  rw [NE,e,m3_ (by omega) (by omega)]
  simp [fS]
theorem e2_ {l:List α} {x:α} (hx:l[a]? = some x):seg l a (a+1)=[x]:=by
 unfold seg;rw [FP hx,jH];rfl
theorem FT {l:List α} (h:a≤b):l.drop a=seg l a b++l.drop b:=by
 unfold seg
 conv=>lhs;rw [←iR (b-a) (l.drop a)]
 congr 1
 rw [jV];congr 1;omega
theorem UM [Inhabited α] {l:List α} (ha:a+1≤i) (hib:i≤b) (hb:b≤l.length) (hs:BF key (seg l (a+1) b)) (h1:a+1<i→kat key l (i-1)<kat key l a) (h2:i<b→kat key l a≤kat key l i) :
  bub l a (i-(a+1))=srt key l a b:=by
 obtain ⟨x,hx⟩ : ∃x,l[a]? = some x:=⟨_,ZgE (by omega)⟩
 have e:l=l.take a++x::(seg l (a+1) i++(seg l i b++l.drop b)):=by
  conv=>lhs;rw [←iR a l,FP hx,FT ha,FT hib]
 rw [KA,DC (m:=a+1) (by omega) (by omega),e2_ hx,DC ha hib]
 rw [DC ha hib] at hs
 rw [lX,h6_ hs (fun y hy=>?_) (fun y hy=>?_)]
 ·conv=>lhs;rw [e,AbL bA (by rw [BN (by omega)])]
  simp [fS]
 ·obtain ⟨q,h3,h4,h5⟩:=GN.1 hy
  rw [←DC ha hib] at hs
  have:=GM hs h3 (show q≤i-1 by omega) (by omega) hb
  rw [BO h5] at this
  have:=h1 (by omega)
  rw [BO hx] at this
  omega
 ·obtain ⟨q,h3,h4,h5⟩:=GN.1 hy
  rw [←DC ha hib] at hs
  have:=GM hs ha h3 h4 hb
  rw [BO h5] at this
  have:=h2 (by omega)
  rw [BO hx] at this
  omega
theorem RP [Inhabited α] {l:List α} (ai:a≤i) (im:i≤m) (hm:m<l.length) (hs:BF key (seg l a m)) (h1:a<i→kat key l (i-1)≤kat key l m) (h2:i<m→kat key l m<kat key l i) :
  NE l m (m-i)=srt key l a (m+1):=by
 obtain ⟨x,hx⟩ : ∃x,l[m]? = some x:=⟨_,ZgE (by omega)⟩
 have e:l=(l.take a++seg l a i)++seg l i m++x::l.drop (m+1):=by
  conv=>lhs;rw [←iR a l,FT ai,FT im,FP hx]
  simp [fS]
 rw [KA,DC (m:=m) (by omega) (by omega),e2_ hx,DC ai im]
 rw [DC ai im] at hs
 rw [h7_ hs (fun y hy=>?_) (fun y hy=>?_)]
 ·conv=>lhs;rw [e,m3_ (by simp [BN (show i≤l.length by omega),BN (show m≤l.length by omega)];omega) (by rw [BN (by omega)])]
  simp [fS]
 ·obtain ⟨q,h3,h4,h5⟩:=GN.1 hy
  rw [←DC ai im] at hs
  have:=GM hs h3 (show q≤i-1 by omega) (by omega) (by omega)
  rw [BO h5] at this
  have:=h1 (by omega)
  rw [BO hx] at this
  omega
 ·obtain ⟨q,h3,h4,h5⟩:=GN.1 hy
  rw [←DC ai im] at hs
  have:=GM hs ai h3 h4 (by omega)
  rw [BO h5] at this
  have:=h2 (by omega)
  rw [BO hx] at this
  omega
def rot (l:List α) (a m b:Nat):List α:=l.take a++seg l m b++seg l a m++l.drop b
theorem PY {l:List α} (h1:a≤m) (h2:m≤b) (hb:b≤l.length):(rot l a m b).length=l.length:=by
 unfold rot;simp only [fJ,fQ,gD,BN hb,BN (show m≤l.length by omega)];omega
theorem j9_ {l:List α} (h1:a≤m) (h2:m≤b):l=l.take a++seg l a m++seg l m b++l.drop b:=by
 conv=>lhs;rw [←iR a l,FT h1,FT h2]
 simp [fS]
theorem MN {l:List α} (h1:a≤m) (h2:m≤b) (h : ¬(a<m∧m<b)):rot l a m b=l:=by
 conv=>rhs;rw [j9_ (l:=l) h1 h2]
 unfold rot
 by_cases e:a=m
 ·subst e;rw [show seg l a a=[] by unfold seg;simp];simp
 ·have:m=b:=by omega
  subst this;rw [show seg l m m=[] by unfold seg;simp];simp
theorem MQ {P M S:List α} (ha:a=P.length) (hb:b=P.length+M.length):seg (P++M++S) a b=M:=by
 subst ha hb
 unfold seg
 rw [fS,List.drop_left,jH,kX]
theorem JV [Inhabited α] {l:List α} {a m b st en mid:Nat} (h1:a≤st) (h2:st≤m) (h3:m≤en) (h4:en≤b) (hb:b≤l.length) (hmid:mid+m=st+en) (hs1:BF key (seg l a m)) (hs2:BF key (seg l m b))
  (f1:a<st→en<b→kat key l (st-1)≤kat key l en) (f2:st<m→m<en→kat key l (en-1)<kat key l st) :
  BF key (seg (rot l st m en) a st)∧BF key (seg (rot l st m en) st mid)∧BF key (seg (srt key (rot l st m en) a mid) mid en)∧BF key (seg (srt key (rot l st m en) a mid) en b)∧srt key (srt key (rot l st m en) a mid) mid b=srt key l a b:=by
 have lA:=BN (l:=l) (a:=a) (b:=st) (by omega)
 have lB:=BN (l:=l) (a:=st) (b:=m) (by omega)
 have lC:=BN (l:=l) (a:=m) (b:=en) (by omega)
 have lD:=BN (l:=l) (a:=en) (b:=b) (by omega)
 have g1 : ∀x∈seg l a st,∀y∈seg l en b,key x≤key y:=fun x hx y hy=>by
  obtain ⟨p,p1,p2,p3⟩:=GN.1 hx
  obtain ⟨q,q1,q2,q3⟩:=GN.1 hy
  have a1:=GM hs1 p1 (show p≤st-1 by omega) (by omega) (by omega)
  have a2:=GM hs2 h3 q1 q2 hb
  have a3:=f1 (by omega) (by omega)
  rw [BO p3] at a1;rw [BO q3] at a2
  omega
 have g2 : ∀x∈seg l st m,∀y∈seg l m en,key y<key x:=fun x hx y hy=>by
  obtain ⟨p,p1,p2,p3⟩:=GN.1 hx
  obtain ⟨q,q1,q2,q3⟩:=GN.1 hy
  have a1:=GM hs1 h1 p1 p2 (by omega)
  have a2:=GM hs2 q1 (show q≤en-1 by omega) (by omega) hb
  have a3:=f2 (by omega) (by omega)
  rw [BO p3] at a1;rw [BO q3] at a2
  omega
 have eT:l.take st=l.take a++seg l a st:=by
  have:=OC (l:=l) h1
  conv=>lhs;rw [this,fS, ←fS]
  rw [List.take_left' (by simp only [fJ,fQ,lA];omega)]
 have eD:l.drop en=seg l en b++l.drop b:=FT h4
 have eR:rot l st m en=l.take a++(seg l a st++seg l m en)++(seg l st m++(seg l en b++l.drop b)):=by
  unfold rot;rw [eT,eD];simp [fS]
 have eL:seg l a b=seg l a st++seg l st m++seg l m en++seg l en b:=by rw [DC (m:=m) (by omega) (by omega),DC h1 h2,DC h3 h4];simp [fS]
 rw [DC h1 h2] at hs1
 rw [DC h3 h4] at hs2
 have hta:(l.take a).length=a:=by rw [fQ];omega
 have eS:srt key (rot l st m en) a mid=l.take a++isort key (seg l a st++seg l m en)++(seg l st m++(seg l en b++l.drop b)):=by
  rw [eR,r8_ (by omega) (by rw [hta,fJ,lA,lC];omega)]
 have eS2:srt key (rot l st m en) a mid=(l.take a++isort key (seg l a st++seg l m en))++(seg l st m++seg l en b)++l.drop b:=by rw [eS];simp [fS]
 have hP:(l.take a++isort key (seg l a st++seg l m en)).length=mid:=by rw [fJ,CC,fJ,hta,lA,lC];omega
 obtain ⟨a1,a2,a3⟩:=GA.1 hs1
 obtain ⟨c1,c2,c3⟩:=GA.1 hs2
 refine ⟨?_,?_,?_,?_,?_⟩
 ·rw [eR,show l.take a++(seg l a st++seg l m en)++(seg l st m++(seg l en b++l.drop b))=l.take a++seg l a st++(seg l m en++(seg l st m++(seg l en b++l.drop b))) by simp [fS],MQ (by omega) (by omega)]
  exact a1
 ·rw [eR,show l.take a++(seg l a st++seg l m en)++(seg l st m++(seg l en b++l.drop b))=(l.take a++seg l a st)++seg l m en++(seg l st m++(seg l en b++l.drop b)) by simp [fS],MQ (by rw [fJ];omega) (by rw [fJ];omega)]
  exact c1
 ·rw [eS,show l.take a++isort key (seg l a st++seg l m en)++(seg l st m++(seg l en b++l.drop b))=(l.take a++isort key (seg l a st++seg l m en))++seg l st m++(seg l en b++l.drop b) by simp [fS],MQ hP.symm (by rw [hP];omega)]
  exact a2
 ·rw [eS,show l.take a++isort key (seg l a st++seg l m en)++(seg l st m++(seg l en b++l.drop b))=(l.take a++isort key (seg l a st++seg l m en)++seg l st m)++seg l en b++l.drop b by simp [fS],MQ (by rw [fJ,hP];omega) (by rw [fJ,hP];omega)]
  exact c2
 ·rw [eS2,r8_ hP.symm (by rw [hP,fJ];omega),KA,eL]
  exact a3_ hs1 hs2 g1 g2
def blk (key:α→Int) (l:List α) (bs a b:Nat):Prop:=∀q,a≤q→q<b→BF key (seg l (q*bs) (q*bs+bs))
theorem r7_ {l:List α} (h:a≤b) (hb:b≤l.length):seg (srt key l a b) a b=isort key (seg l a b):=by
 rw [KA];exact MQ bA (by rw [CC,BN hb];simp;omega)
theorem AlW {l:List α} (h:a≤b) (hb:b≤l.length) (hi:i<a∨b≤i):(srt key l a b)[i]? = l[i]? := by
 have hta:(l.take a).length=a:=by rw [fQ];omega
 rw [KA]
 rcases hi with hi|hi
 ·rw [fS,fZ (by omega),gF,fL hi]
 ·rw [fV (by rw [fJ,hta,CC,BN hb];omega),fJ,hta,CC,BN hb,gC]
  congr 1;omega
variable {c d:Nat}
theorem OH {l:List α} (h:a≤b) (hb:b≤l.length) (hc:d≤a∨b≤c):seg (srt key l a b) c d=seg l c d:=by
 apply iI
 intro i
 rw [DV,DV]
 split
 ·exact AlW h hb (by omega)
 ·rfl
theorem MR {l:List α} (hb:l.length≤b) (hc:l.length≤c):seg l a b=seg l a c:=by
 apply iI
 intro i
 rw [DV,DV]
 split<;>split
 ·rfl
 ·rw [gL (by omega)]
 ·rw [gL (by omega)]
 ·rfl
theorem d3_ {l:List α} (h:l.length≤a):seg l a b=[]:=by
 apply iI
 intro i
 rw [DV]
 split
 ·rw [gL (by omega)];rfl
 ·rfl
theorem d9_:BF key ([]:List α):=List.Pairwise.nil
theorem YX (hd:d∣a) (hc:d∣c) (h1:a≤c) (h2:c<a+d):c=a:=by
 have:=Nat.eq_zero_of_dvd_of_lt (Nat.dvd_sub hc hd) (by omega)
 omega
theorem NH (hd:d∣a) (hc:d∣c) (h:c<a):c+d≤a:=by
 rcases Nat.lt_or_ge a (c+d) with k|k
 ·have:=YX hc hd (by omega) k;omega
 ·exact k
theorem UD (hd:d∣a) (hc:d∣c) (h:a<c):a+d≤c:=NH hc hd h
theorem LP {l:List α} (hd:d∣a) (h : ∀c,d∣c→c<a→BF key (seg l c (c+d))) (hb:a+d≤l.length) : ∀c,d∣c→c<a+d→BF key (seg (srt key l a (a+d)) c (c+d)):=fun c hc hlt=>by
 by_cases e:c<a
 ·rw [OH (by omega) hb (.inl (NH hd hc e))];exact h c hc e
 ·obtain rfl:=YX hd hc (by omega) hlt
  rw [r7_ (by omega) hb];exact (DJ _ _).1
theorem LO {l:List α} (hd:d∣a) (h : ∀c,d∣c→c<a→BF key (seg l c (c+d))) (ha:a≤l.length) (hb:l.length<a+d) : ∀c,d∣c→BF key (seg (srt key l a l.length) c (c+d)):=fun c hc=>by
 have hl:=DP (key:=key) ha (fN _)
 by_cases e:c<a
 ·rw [OH ha (fN _) (.inl (NH hd hc e))];exact h c hc e
 ·by_cases e2:c=a
  ·subst e2
   rw [MR (c:=l.length) (by omega) (by omega),r7_ ha (fN _)];exact (DJ _ _).1
  ·have:=UD hd hc (by omega)
   rw [d3_ (by omega)];exact d9_
theorem YO {l:List α} (hd:2*d∣a) (h : ∀c,2*d∣c→c<a→BF key (seg l c (c+2*d))) (h2 : ∀c,d∣c→a≤c→BF key (seg l c (c+d))) (hb:l.length≤a+d) : ∀c,2*d∣c→BF key (seg l c (c+2*d)):=fun c hc=>by
 by_cases e:c<a
 ·exact h c hc e
 ·by_cases e2:c=a
  ·subst e2
   rw [MR (c:=c+d) (by omega) hb];exact h2 c (Nat.dvd_trans (Nat.dvd_mul_left _ _) hc) (fN _)
  ·have:=UD hd hc (by omega)
   rw [d3_ (by omega)];exact d9_
theorem QO {l:List α} (h2 : ∀c,d∣c→a≤c→BF key (seg l c (c+d))) (hab:a≤b) (hb:b≤l.length) : ∀c,d∣c→b≤c→BF key (seg (srt key l a b) c (c+d)):=fun c hc hle=>by
 rw [OH hab hb (.inr hle)];exact h2 c hc (by omega)
theorem m2_ {l m:List α} (h : ∀c,d∣c→BF key (seg m c (c+d))) (hs:SE key l m) (hd:m.length≤d):isort key l=m:=by
 have:=h 0 (Nat.dvd_zero _)
 rw [show seg m 0 (0+d)=m by unfold seg;rw [iA,jE (by omega)]] at this
 exact LU this hs
theorem PZ {l:List α} {x:α} (h:x∈rot l a m b):x∈l:=by
 unfold rot at h
 simp only [gJ] at h
 rcases h with ((h|h)|h)|h
 ·exact iH h
 ·exact gW (iH h)
 ·exact gW (iH h)
 ·exact gW h
theorem QD {l:List α} (h:a≤b) {x:α}:x∈srt key l a b↔x∈l:=(IQ h).mem
end Go.Proofs.YtccefppppedgkaaGreat
