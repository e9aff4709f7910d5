/- Joined: XTReader, XTCloneU, XTPokeP, XTMem, XTOkW, XTClones, XTCases, XTWaits, XTFirst, XTFirstR. -/
import Derived.Test.YtccefppppedgkaaGreatKGj
set_option linter.unusedVariables false
set_option linter.unusedSimpArgs false
set_option linter.unnecessarySimpa false
set_option maxRecDepth 100000
set_option maxHeartbeats 64000000
namespace Go.Proofs.YtccefppppedgkaaGreat
open Go.RowKit
section
attribute [local irreducible] AL AW RG Fin C Cd Cio AI AF AN
abbrev fU (l:List Int):AV:=.t (.lst (l.map tU))
abbrev aRd (l:List Int):Ob:=.box 288 [fU l]
def okU (l:List Int):Prop:=∀w∈l,0≤w∧w≤18446744073709551615
theorem b2_ {l:List Int} (h:okU l) (n:Nat):okU (l.drop n):=fun w hw=>h w (gW hw)
theorem UQ {l:List Int} (h:okU l):0≤l.headD 0∧l.headD 0≤18446744073709551615:=by
 cases l with
 |nil=>decide
 |cons a l=>exact h a (by simp)
theorem FZ (l:List Int) (n:Nat) (m:Int):CZ l n m=(l.take (min m.toNat n)).map fun w=>w%4294967296:=by unfold CZ;rw [List.take_take]
theorem UX (l:List Int) (n:Nat) (m:Int):(CZ l n m).length≤n:=by rw [FZ];simp;omega
theorem j3_ {l:List Int} {i:Nat} {a m:Int} (ha:l[i]? = some a) (h:(i:Int)<m):CZ l (i+1) m=CZ l i m++[a%4294967296]:=by
 rw [FZ,FZ,show min m.toNat (i+1)=i+1 by omega,show min m.toNat i=i by omega,iG,ha];simp
theorem j2_ {l:List Int} {i:Nat} {m:Int} (h : ¬(i:Int)<m):CZ l (i+1) m=CZ l i m:=by
 rw [FZ,FZ,show min m.toNat (i+1)=m.toNat by omega,show min m.toNat i=m.toNat by omega]
theorem PX (l:List Int) (hl:l.length≤1152921504606846976):Cio Tryz.prog 271 [.ptr 0 0] [aRd l] (u64 (l.headD 0)) [aRd (l.drop 1)]:=by
 have h1:(l.map tU).length=l.length:=fH _
 cases l with
 |nil =>
  refine ZEN Tryz.func271 Tryz.ntmps271 ?_
  repeat' (first|refine A0 ?_|fail)
  all_goals first|(exfalso;simp at *;done)|(exact A5 Tryz.results271)
  all_goals try rfl
 |cons a l =>
  have h2:(a::l)[0]? = some a:=rfl
  refine ZEN Tryz.func271 Tryz.ntmps271 ?_
  repeat' (first|refine A0 ?_|fail)
  all_goals first|(exfalso;simp at *;omega)|((refine A8 Tryz.results271 ?_ ?_ ?_<;>repeat' (first|exact ZE1|refine ZE2 ?_ ?_|refine ZE3 ?_|exact ZE4|fail)))
  all_goals (try simp)
theorem ArS (l:List Int) (hU:okU l) (m:Int) (n:Nat) (hn:n≤l.length) (hl:l.length≤1000000) (hm : -9223372036854775808≤m∧m≤9223372036854775807) :
  Cio Tryz.prog 279 [.ptr 0 0,i64 m,i64 n] [aRd l] (.t (.lst ((CZ l n m).map tI))) [aRd (l.drop n)]:=by
 have h1:(l.map tU).length=l.length:=fH _
 have hz:CZ l 0 m=[]:=by simp [CZ]
 refine ZEN Tryz.func279 Tryz.ntmps279 ?_
 repeat' (first|refine A0 ?_|fail)
 refine AW.wk (Wk.own 7 rfl 3 1 (.push rfl rfl)) ?_
 refine AW.loopP (fun (x:Nat × Nat × Nat)=>x.1≤n∧x.2.2=(CZ l x.1 m).length) (fun (x:Nat × Nat × Nat)=>(pu (pu (pu (pu (pu (fun _=>.any) 0 (.ptr 0 0)) 1 (i64 m)) 7 (.sl 1 x.2.1 x.2.2)) 10 (i64 n)) 11 (i64 x.1))) (fun (x:Nat × Nat × Nat)=>[aRd (l.drop x.1),.row x.2.1 3 1 ((CZ l x.1 m).map tI)]) (fun (x:Nat × Nat × Nat)=>n-x.1) ((0,0,0)) ?_ ?_ ?_
 ·exact ⟨fO _,by rw [hz];rfl⟩
 ·dsimp only
  rw [hz]
  exact Wk.cq 2
 ·rintro ⟨i,k,c⟩ ⟨h2,h3⟩
  dsimp only at h2 h3 ⊢
  have hR:=UX l i m
  by_cases hi:i<n
  ·obtain ⟨a,ha⟩ : ∃a,l[i]? = some a:=⟨_,ZgE (by omega)⟩
   have cN:=PX (l.drop i) bA
   rw [CU ha,lT,gN,iA, ←CU ha] at cN
   have hb:=hU a (fI ha)
   by_cases hk:(i:Int)<m
   ·have hs:CZ l (i+1) m=CZ l i m++[a%4294967296]:=j3_ ha hk
    repeat' (first|(refine ZAL ?_;first|(refine kL 1481 rfl ?_;first|refine A_bits rfl rfl .and 46 46 _ _ rfl rfl rfl rfl (and_lit 32 (M:=4294967296) rfl rfl (by omega) (by omega) (by omega)) ?_)|refine Df ?_|refine uA ?_|refine uI [0] (cN) ?_)|refine uC ?_|fail)
    all_goals try exact ZE5
    refine ⟨(i+1,k+1,c+1),⟨by dsimp only;omega,by dsimp only;rw [hs];simp;omega⟩,by dsimp only;omega,?_⟩
    rw [hs]
    exact Wk.cq 2
   ·have hs:CZ l (i+1) m=CZ l i m:=j2_ hk
    repeat' (first|(refine ZAL ?_;first|refine uA ?_|refine uI [0] (cN) ?_)|refine uC ?_|fail)
    all_goals try exact ZE5
    refine ⟨(i+1,k,c),⟨by dsimp only;omega,by dsimp only;rw [hs];exact h3⟩,by dsimp only;omega,?_⟩
    rw [hs]
    exact Wk.cq 2
  ·obtain rfl:i=n:=by omega
   subst h3
   repeat' (first|(refine ZAL ?_;first|(refine kL 1 rfl ?_;first|((first|refine A_as (d:=6) rfl rfl rfl rfl ?_|refine A_move (d:=6) rfl rfl _ (.inr rfl) (y:=.sl _ _ _) rfl ?_|refine A_move (d:=6) rfl rfl _ (.inr rfl) (y:=.nl) rfl ?_|refine A_move (d:=6) rfl rfl _ (.inr rfl) (y:=.ptr _ _) rfl ?_|refine A_move (d:=6) rfl rfl _ (.inr rfl) (y:=.ln _) rfl ?_|refine A_move (d:=6) rfl rfl _ (.inr rfl) (y:=.lp _) rfl ?_|refine A_move (d:=6) rfl rfl _ (.inr rfl) (y:=.fn _ _ _) rfl ?_|refine A_move (d:=6) rfl rfl _ (.inr rfl) (y:=.sub _ _ _ _) rfl ?_|refine A_move (d:=6) rfl rfl _ (.inr rfl) (y:=.rp _ _ _ _) rfl ?_|refine A_move (d:=6) rfl rfl _ (.inr rfl) (y:=.agg _) rfl ?_|refine A_move (d:=6) rfl rfl _ (.inr rfl) (y:=.tup _) rfl ?_|refine A_move (d:=6) rfl rfl _ (.inr rfl) (y:=.mv _) rfl ?_|refine A_move (d:=6) rfl rfl _ (.inr rfl) (y:=.cl _) rfl ?_);(try refine uf 1 6 ?_)))|refine Ag ?_|refine Eq ?_|refine Dg ?_|refine uA ?_)|refine uC ?_|refine ZK2 (fun hc=>?_) (fun hc=>?_)|fail)
   all_goals exact A2 Tryz.results279
theorem FR (l:List Int) (h:l.length≤17592186044415):Cd Tryz.prog 96 [.ln (l.map tU)] (fU l) []:=by
 have h0:Cd Tryz.prog 96 [.ln (l.map tU)] (.sl 0 0 l.length) [.row 0 46 1 (l.map tU)]:=by
  refine ZEN Tryz.func96 Tryz.ntmps96 ?_
  repeat' (first|(refine ZAL ?_;first|(refine kL 1257 rfl ?_;first|refine DU rfl rfl 39 _ _ rfl ud39 rfl (fun b hb=>?_))|refine Ac ?_|refine uA ?_)|refine uC ?_|refine ZK2 (fun hc=>?_) (fun hc=>?_)|fail)
  ·have hl:l=[]:=by simpa using hb hc
   subst hl
   refine Fin.wk (Wk.own 2 rfl 46 1 (.push rfl rfl)) ?_
   (first|exact Ab Tryz.results96|refine Aj Tryz.results96 ?_|refine Ak Tryz.results96 ?_ ?_ ?_<;>repeat' (first|exact ZE1|refine ZE2 ?_ ?_|refine ZE3 ?_|exact ZE4|fail))
  ·(first|exact Ab Tryz.results96|refine Aj Tryz.results96 ?_|refine Ak Tryz.results96 ?_ ?_ ?_<;>repeat' (first|exact ZE1|refine ZE2 ?_ ?_|refine ZE3 ?_|exact ZE4|fail))
 have h0':=Cd.frz1 h0 0 rfl aB rfl;exact Cd.drop h0' rfl
end
def pokeL (l:List Int) (a:Nat) (ws:List Int):List Int:=l.take a++ws++l.drop (a+ws.length)
theorem HK {l ws:List Int} {a:Nat} (h:a+ws.length≤l.length):(pokeL l a ws).length=l.length:=by
 unfold pokeL;simp only [fJ,fQ,gD];omega
theorem NW {l ws:List Int} {a:Nat} (h:a+ws.length≤l.length) (i:Nat):(pokeL l a ws)[i]? = if i<a then l[i]? else if i<a+ws.length then ws[i-a]? else l[i]? := by
 unfold pokeL
 have e1:(l.take a).length=a:=by rw [fQ];omega
 by_cases h1:i<a
 ·rw [fL h1,fS,fZ (by omega),gF,fL h1]
 ·rw [fM h1]
  by_cases h2:i<a+ws.length
  ·rw [fL h2,fS,fV (by omega),e1,fZ (by omega)]
  ·rw [fM h2,fV (by simp only [fJ,e1];omega),fJ,e1,gC]
   congr 1;omega
section
attribute [local irreducible] AL AW RG Fin C Cd Cio AI AF AN
abbrev mB (k n:Nat):Ob:=.box 135 [.sl 1 k n,.nl,.nl,bo false]
abbrev mR (k:Nat) (l:List Int):Ob:=.row k 46 1 (l.map tU)
theorem AfI {l ws:List Int} {a q:Nat} (h:q=ws.length):(l.map tU).take a++ws.map tU++(l.map tU).drop (a+q)=(pokeL l a ws).map tU:=by
 subst h;unfold pokeL;simp only [iV,List.map_take,iW]
theorem AkE (k n:Nat) (l:List Int) (hn:l.length=n) (h0:0<n):Cio Tryz.prog 74 [.ptr 0 0] [mB k n,mR k l] (bo true) [mB k n,mR k l]:=by
 refine Bt ?_
 repeat' (first|refine A0 ?_|refine uS 5 (fun hb=>?_) (fun hb=>?_)|refine ZK2 (fun hc=>?_) (fun hc=>?_)|fail)
 all_goals exact A4 Tryz.results74
theorem AqV (n:Nat) (h0:0<n) (h1:n≤1048576):Cd Tryz.prog 115 [i64 n] (.ptr 0 0) [mB 0 n,mR 0 (List.replicate n 0)]:=by
 refine ZEN Tryz.func115 Tryz.ntmps115 ?_
 repeat' (first|(refine ZAL ?_;first|(refine kL 1264 rfl ?_;first|refine VP rfl rfl 39 _ _ rfl ud39 inf46 rfl (zs:=[(.v (.int .u64 0))]) rfl rfl rfl n aJ aJ qB qB (by first|exact rep_map (f:=tU) (x:=_)|exact qN) (.push qL qN) ?_|refine VP rfl rfl 39 _ _ rfl ud39 inf46 rfl (zs:=[(.v (.int .u64 0))]) rfl rfl rfl _ aJ aJ qB qB (by first|exact rep_map (f:=tU) (x:=_)|exact qN) (.push qL qN) ?_)|refine uA ?_)|refine uC ?_|refine uS 5 (fun hb=>?_) (fun hb=>?_)|refine ZK2 (fun hc=>?_) (fun hc=>?_)|fail)
 all_goals first|(exfalso;omega)|((first|exact Fin.q Tryz.results115 (.cons (.tmp rfl) .nil) [1,0]|refine Fin.q Tryz.results115 (.cons (.tmp rfl) .nil) [1,0] (hr:=(.t ?_))|refine Fin.mkv (rs:=_) Tryz.results115 (.cons (.tmp rfl) .nil) [1,0] (by decide) rfl ?_ ?_ ?_<;>repeat' (first|exact ZE1|refine ZE2 ?_ ?_|refine ZE3 ?_|exact ZE4|fail)))
theorem WR (k n:Nat) (l ws:List Int) (hn:l.length=n) (h0:0<n) (hm:n≤1048576) (a:Nat) (h1:a+ws.length≤n):Cio Tryz.prog 117 [.ptr 0 0,i64 a,.ln (ws.map tU)] [mB k n,mR k l] (i64 0) [mB k n,mR k (pokeL l a ws)]:=by
 have c1:=AkE k n l hn h0
 have e1:(ws.map tU).length=ws.length:=fH _
 have e2:(l.map tU).length=l.length:=fH _
 refine ZEN Tryz.func117 Tryz.ntmps117 ?_
 repeat' (first|(refine ZAL ?_;first|refine uA ?_|refine uI [0,1] (c1) ?_)|refine uC ?_|refine uS 14 (fun hb=>?_) (fun hb=>?_)|refine uS 23 (fun hb=>?_) (fun hb=>?_)|refine ZK2 (fun hc=>?_) (fun hc=>?_)|fail)
 all_goals first|(exfalso;omega)|((first|exact A5 Tryz.results117|refine A7 Tryz.results117 ?_|refine A8 Tryz.results117 ?_ ?_ ?_<;>repeat' (first|exact ZE1|refine ZE2 ?_ ?_|refine ZE3 ?_|exact ZE4|fail)))
 all_goals exact AfI e1
end
def okW (l:List AH):Prop:=l.length≤2932031007402 ∧ ∀w∈l,w.cases.length≤5864062014805
theorem okW.at {l:List AH} (h:okW l) {q:Nat} {a:AH} (ha:l[q]? = some a):a.cases.length≤5864062014805:=h.2 a (fI ha)
theorem BJ {α:Type} {l:List α} {n:Nat} {a d:α} (h:l[n]? = some a):l.getD n d=a:=by rw [fK,h];rfl
theorem QP (l:List BD) (h:l.length≤5864062014805):Cd Tryz.prog 112 [.ln (l.map tCs)] (.sl 0 0 l.length) [.row 0 141 3 (l.map tCs)]:=by
 refine ZEN Tryz.func112 Tryz.ntmps112 ?_
 repeat' (first|(refine ZAL ?_;first|(refine kL 969 rfl ?_;first|refine DU rfl rfl 30 _ _ rfl ud30 rfl (fun b hb=>?_))|refine uA ?_)|refine uC ?_|refine kcc rfl (fun hc=>?_) (fun hc=>?_)|fail)
 ·have hl:l=[]:=by simpa using hb hc
  subst hl
  refine Fin.wk (Wk.own 2 rfl 141 3 (.push rfl rfl)) ?_
  exact Ab Tryz.results112
 ·exact Ab Tryz.results112
theorem AcA (l:List AH) (h:l.length≤2932031007402):Cd Tryz.prog 294 [.ln (l.map tWt)] (.sl 0 0 l.length) [.row 0 167 4 (l.map tWt)]:=by
 refine ZEN Tryz.func294 Tryz.ntmps294 ?_
 repeat' (first|(refine ZAL ?_;first|(refine kL 3017 rfl ?_;first|refine DU rfl rfl 94 _ _ rfl ud94 rfl (fun b hb=>?_))|refine uA ?_)|refine uC ?_|refine kcc rfl (fun hc=>?_) (fun hc=>?_)|fail)
 ·have hl:l=[]:=by simpa using hb hc
  subst hl
  refine Fin.wk (Wk.own 2 rfl 167 4 (.push rfl rfl)) ?_
  exact Ab Tryz.results294
 ·exact Ab Tryz.results294
theorem AbX (l:List AX) (h:l.length≤2932031007402):Cd Tryz.prog 284 [.ln (l.map tCh)] (.sl 0 0 l.length) [.row 0 101 5 (l.map tCh)]:=by
 refine ZEN Tryz.func284 Tryz.ntmps284 ?_
 repeat' (first|(refine ZAL ?_;first|(refine kL 2985 rfl ?_;first|refine DU rfl rfl 93 _ _ rfl ud93 rfl (fun b hb=>?_))|refine uA ?_)|refine uC ?_|refine kcc rfl (fun hc=>?_) (fun hc=>?_)|fail)
 ·have hl:l=[]:=by simpa using hb hc
  subst hl
  refine Fin.wk (Wk.own 2 rfl 101 5 (.push rfl rfl)) ?_
  exact Ab Tryz.results284
 ·exact Ab Tryz.results284
section
attribute [local irreducible] AL AW RG Fin C Cd Cio AI AF AN
section
variable {l:List AH} {a:AH}
theorem AgF {q:Nat} (h:l[q]? = some a):l.set q ⟨a.on,a.ticket,a.seq,a.cases⟩=l:=by
 obtain ⟨hq,e⟩:=gZ.1 h
 rw [←e];exact List.set_getElem_self hq
variable {n:Nat}
theorem UV (h:l[n]? = some a) (ho:a.on=false):HL l n=true:=by
 have:=get_lt h
 unfold HL;rw [fW,BJ h];exact fR ⟨by omega,by omega,ho⟩
theorem b9_ (h:l[n]? = some a) (ho:a.on=true):HL l n=false:=by
 unfold HL;rw [fW,BJ h];exact fP fun k=>by rw [ho] at k;simp at k
theorem UU {t:Int} (h : ¬(0≤t∧t<l.length)):HL l t=false:=by unfold HL;exact fP fun k=>h ⟨k.1,k.2.1⟩
theorem EB (h:l[n]? = some a) (ho:a.on=true):IU l n=true:=by
 have:=get_lt h
 unfold IU;rw [fW,BJ h];exact fR ⟨by omega,by omega,ho⟩
theorem NF (h:l[n]? = some a) (ho:a.on=false):IU l n=false:=by
 unfold IU;rw [fW,BJ h];exact fP fun k=>by rw [ho] at k;simp at k
theorem NG {t:Int} (h : ¬(0≤t∧t<l.length)):IU l t=false:=by unfold IU;exact fP fun k=>h ⟨k.1,k.2.1⟩
theorem AfQ {w:AH} (h:HL l n=true):putW l n w=l.set n ⟨true,w.ticket,w.seq,w.cases⟩:=by unfold putW;rw [h,fL rfl,fW]
theorem q2_ {t:Int} {w:AH} (h:HL l t=false):putW l t w=l:=by unfold putW;rw [h];rfl
theorem QT (h:IU l n=true):cutW l n=l.set n w0:=by unfold cutW;rw [h,fL rfl,fW]
theorem m5_ {t:Int} (h:IU l t=false):cutW l t=l:=by unfold cutW;rw [h];rfl
theorem wcopy_c (l:List AH) (hl:okW l):Cd Tryz.prog 285 [.ln (l.map tWt)] (.sl 0 0 l.length) [.row 0 167 4 (l.map tWt)]:=by
 have h0:=hl.1
 have h1:(l.map tWt).length=l.length:=fH _
 refine ZEN Tryz.func285 Tryz.ntmps285 ?_
 repeat' (first|(refine ZAL ?_;first|refine uA ?_|refine uK (AcA l h0) ?_)|refine uC ?_|fail)
 refine AW.loopP (fun (q:Nat)=>q≤l.length) (fun (q:Nat)=>(pu (pu (pu (fun _=>.any) 3 (.sl 0 0 l.length)) 8 (i64 l.length)) 9 (i64 q))) (fun (q:Nat)=>[.row 0 167 4 (l.map tWt)]) (fun (q:Nat)=>l.length-q) (0) ?_ ?_ ?_
 ·exact fO _
 ·exact Wk.cq 1
 ·intro q h2
  by_cases hq:q<l.length
  ·obtain ⟨a,ha⟩ : ∃a,l[q]? = some a:=⟨_,ZgE hq⟩
   repeat' (first|(refine ZAL ?_;first|(refine kL 3594 rfl ?_;first|((refine AhO (d:=19) rfl rfl Tryz.func112 rfl (QP a.cases (hl.at ha)) ?_);(try refine uf 1 19 ?_)))|refine Es ?_|refine uA ?_)|refine uC ?_|refine ZK2 (fun hc=>?_) (fun hc=>?_)|fail)
   all_goals try exact ZE5
   rw [AgF ha]
   refine ⟨q+1,by omega,by omega,?_⟩
   exact Wk.cq 1
  ·repeat' (first|refine A0 ?_|fail)
   all_goals first|(exfalso;omega)|(exact Fin.q Tryz.results285 (.cons (.tmp rfl) .nil) [0])
theorem AiA (l:List AH) (t:Int):Cd Tryz.prog 308 [.ln (l.map tWt),i64 t] (bo (decide (0≤t∧t<l.length))) []:=by
 have h1:(l.map tWt).length=l.length:=fH _
 by_cases p1:0≤t<;>by_cases p2:t<l.length
 all_goals
  refine ZEN Tryz.func308 Tryz.ntmps308 ?_
  repeat' (first|refine A0 ?_|fail)
  all_goals first|(exfalso;omega)|(refine A7 Tryz.results308 ?_)
  all_goals first|(rw [fR (by omega)];done)|(rw [fP (by omega)];done)|(simp [*];done)|(simp;omega)
theorem AtN (l:List AH) (t:Int) (w:AH) (hl:okW l) (hw:w.cases.length≤5864062014805):Cd Tryz.prog 301 [.ln (l.map tWt),i64 t,.agg [bo w.on,i64 w.ticket,i64 w.seq,.ln (w.cases.map tCs)]] (.tup [.sl 0 0 l.length,bo (HL l t)]) [.row 0 167 4 ((putW l t w).map tWt)]:=by
 have h1:(l.map tWt).length=l.length:=fH _
 by_cases ht:0≤t∧t<l.length
 ·obtain ⟨n,rfl⟩ : ∃n:Nat,t=n:=⟨t.toNat,by omega⟩
  obtain ⟨⟨on,tk,sq,cs⟩,ha⟩ : ∃a,l[n]? = some a:=⟨_,ZgE (by omega)⟩
  have cA:=AiA l n
  rw [fR ht] at cA
  cases on
  ·rw [AfQ (UV ha rfl),UV ha rfl]
   refine ZEN Tryz.func301 Tryz.ntmps301 ?_
   repeat' (first|(refine ZAL ?_;first|(refine kL 3594 rfl ?_;first|((refine AhO (d:=25) rfl rfl Tryz.func112 rfl (QP w.cases hw) ?_);(try refine uf 2 25 ?_)))|(refine kL 131 rfl ?_;first|refine A_store_rp rfl rfl 4 _ _ rfl AjL (by decide) rfl rfl aI rfl rfl rfl (ZbT rfl) bI qN ?_)|refine Es ?_|(refine kL 5347 rfl ?_;first|refine A_store_rp rfl rfl 167 _ _ rfl inf167 (by decide) rfl rfl aI rfl rfl rfl (ZbT rfl) bI qN ?_)|refine uA ?_|refine uK (wcopy_c l hl) ?_|refine uK (cA) ?_)|refine uC ?_|refine uS 15 (fun hb=>?_) (fun hb=>?_)|refine ZK2 (fun hc=>?_) (fun hc=>?_)|fail)
   all_goals exact Di Tryz.results301
  ·rw [q2_ (b9_ ha rfl),b9_ ha rfl]
   refine ZEN Tryz.func301 Tryz.ntmps301 ?_
   repeat' (first|refine Ce ?_|fail)
   all_goals exact Di Tryz.results301
 ·have cA:=AiA l t
  rw [fP ht] at cA
  rw [q2_ (UU ht),UU ht]
  refine ZEN Tryz.func301 Tryz.ntmps301 ?_
  repeat' (first|refine Ce ?_|fail)
  all_goals exact Di Tryz.results301
theorem XZ (l:List AH) (t:Int) (hl:okW l):Cd Tryz.prog 304 [.ln (l.map tWt),i64 t] (.tup [.sl 0 0 l.length,bo (IU l t)]) [.row 0 167 4 ((cutW l t).map tWt)]:=by
 have h1:(l.map tWt).length=l.length:=fH _
 by_cases ht:0≤t∧t<l.length
 ·obtain ⟨n,rfl⟩ : ∃n:Nat,t=n:=⟨t.toNat,by omega⟩
  obtain ⟨⟨on,tk,sq,cs⟩,ha⟩ : ∃a,l[n]? = some a:=⟨_,ZgE (by omega)⟩
  have cA:=AiA l n
  rw [fR ht] at cA
  cases on
  ·rw [m5_ (NF ha rfl),NF ha rfl]
   refine ZEN Tryz.func304 Tryz.ntmps304 ?_
   repeat' (first|refine Ce ?_|fail)
   all_goals exact Dj Tryz.results304
  ·rw [QT (EB ha rfl),EB ha rfl]
   refine ZEN Tryz.func304 Tryz.ntmps304 ?_
   repeat' (first|(refine ZAL ?_;first|(refine kL 5358 rfl ?_;first|(refine zkD 24 rfl ?_;refine uA ?_;(try refine uz 24 ?_)))|(refine kL 5347 rfl ?_;first|refine A_store_rp rfl rfl 167 _ _ rfl inf167 (by decide) rfl rfl aI rfl rfl rfl (ZbT rfl) (by first|exact map_set (f:=tWt) (x:=w0)|exact qN) qN ?_)|refine uA ?_|refine uK (wcopy_c l hl) ?_|refine uK (cA) ?_)|refine uC ?_|refine uS 13 (fun hb=>?_) (fun hb=>?_)|refine ZK2 (fun hc=>?_) (fun hc=>?_)|fail)
   all_goals exact Dj Tryz.results304
 ·have cA:=AiA l t
  rw [fP ht] at cA
  rw [m5_ (NG ht),NG ht]
  refine ZEN Tryz.func304 Tryz.ntmps304 ?_
  repeat' (first|refine Ce ?_|fail)
  all_goals exact Dj Tryz.results304
end
theorem h4_ (f:FuncId) (fi cap:List AV) (p:BD→Bool) (hg : ∀c:BD,CV Tryz.prog (.fn (.func f) fi cap) [.agg ((tCs c).map .t)] (.t (.v (.bool (p c)))) []) (hup:upB (CK 0) (.fn (.func f) fi cap) = .fn (.func f) fi cap)
  (l:List BD) (hl:l.length≤1152921504606846976):Cd Tryz.prog 309 [.ln (l.map tCs),.fn (.func f) fi cap] (i64 (ixF p l)) []:=by
 have h1:(l.map tCs).length=l.length:=fH _
 refine ZEN Tryz.func309 Tryz.ntmps309 ?_
 repeat' (first|refine A0 ?_|fail)
 refine AW.loopP (fun (q:Nat)=>q≤l.length ∧ ∀j,j<q → ∀b,l[j]? = some b→p b=false) (fun (q:Nat)=>(pu (pu (pu (pu (fun _=>.any) 0 (.ln (l.map tCs))) 1 (.fn (.func f) fi cap)) 7 (i64 (l.map tCs).length)) 8 (i64 q))) (fun (q:Nat)=>[]) (fun (q:Nat)=>l.length-q) (0) ?_ ?_ ?_
 ·exact ⟨fO _,fun j hj=>by omega⟩
 ·exact Wk.cq 0
 ·rintro q ⟨h2,h3⟩
  by_cases hq:q<l.length
  ·obtain ⟨a,ha⟩ : ∃a,l[q]? = some a:=⟨_,ZgE hq⟩
   have c1:=hg a
   cases hp:p a
   ·rw [hp] at c1
    repeat' (first|refine Am ?_|fail)
    all_goals try exact ZE5
    refine ⟨q+1,⟨by omega,fun j hj b hb=>?_⟩,by omega,?_⟩
    ·by_cases e:j=q
     ·subst e;rw [ha] at hb;cases hb;exact hp
     ·exact h3 j (by omega) b hb
    ·exact Wk.cq 0
   ·rw [hp] at c1
    rw [JG p l q a h3 ha hp]
    repeat' (first|refine Am ?_|fail)
    all_goals exact A2 Tryz.results309
  ·rw [EY p l fun j b hb=>h3 j eJ b hb]
   repeat' (first|refine A0 ?_|fail)
   all_goals exact A2 Tryz.results309
theorem ApP (d h:Int) (c:BD):Cd Tryz.prog 322 [.agg ((tCs c).map .t),.lp [i64 d],.lp [i64 h]] (bo (isC d h c)) []:=by
 obtain ⟨a,b,v⟩:=c
 by_cases p1:a=d<;>by_cases p2:b=h
 all_goals
  refine ZEN Tryz.func322 Tryz.ntmps322 ?_
  repeat' (first|refine A0 ?_|fail)
  all_goals first|(exfalso;omega)|(refine A7 Tryz.results322 ?_)
  all_goals first|(simp [isC, *];done)|skip
theorem AtI (w:AH) (d h:Int) (hw:w.cases.length≤1152921504606846976):Cd Tryz.prog 317 [.agg [bo w.on,i64 w.ticket,i64 w.seq,.ln (w.cases.map tCs)],i64 d,i64 h] (.tup [i64 (max (ixF (isC d h) w.cases) 0),bo (decide (0≤ixF (isC d h) w.cases)&&w.on)]) []:=by
 have c1:=h4_ 322 [] [.lp [i64 d],.lp [i64 h]] (isC d h) (fun c=>⟨_,_,[],[.lp [i64 d],.lp [i64 h]],rfl,Tryz.func322,by kernel_rfl,by kernel_rfl,fun _=>.nil,fun _=>.cons (.lpL (.cons (.t _) .nil)) (.cons (.lpL (.cons (.t _) .nil)) .nil),ApP d h c⟩) rfl w.cases hw
 obtain ⟨on,tk,sq,cs⟩:=w
 dsimp only at c1 hw ⊢
 generalize ixF (isC d h) cs=z at c1 ⊢
 by_cases hz:0≤z
 all_goals
  cases on
  all_goals
   refine ZEN Tryz.func317 Tryz.ntmps317 ?_
   repeat' (first|(refine ZAL ?_;first|refine uA ?_|refine uK (c1) ?_)|refine uR ?_|refine uC ?_|refine AW.drawU (id:=2) mixed 0 qR ?_|fail)
   all_goals first|(exfalso;omega)|(refine Fin.q Tryz.results317 (.cons (.tmp rfl) (.cons (.tmp rfl) .nil)) [] (hr:=(.tupL (.cons (.t ?_) (.cons (.t ?_) .nil)))))
   all_goals first|(simp [*];done)|skip
theorem v1_ {l:List AH} {d h:Int} {k:Nat} {a:AH} (ha:l[k]? = some a):HZ l d h (k+1)=if a.on=true∧0≤ixF (isC d h) a.cases∧((HZ l d h k).ok=false∨a.ticket<(l.getD (HZ l d h k).th.toNat default).ticket) then ⟨k,ixF (isC d h) a.cases,true⟩ else HZ l d h k:=by
 rw [HZ,BJ ha]
def fir (l:List AH) (d h:Int):FS:=HZ l d h l.length
theorem LR (l:List AH) (d h:Int) (hl:okW l):Cd Tryz.prog 306 [.ln (l.map tWt),i64 d,i64 h] (.tup [i64 (fir l d h).th,i64 (fir l d h).wh,bo (fir l d h).ok]) []:=by
 have h0:=hl.1
 have h1:(l.map tWt).length=l.length:=fH _
 refine ZEN Tryz.func306 Tryz.ntmps306 ?_
 repeat' (first|refine A0 ?_|fail)
 refine AW.loopP (fun (x:Nat × FS)=>x.1≤l.length∧x.2=HZ l d h x.1) (fun (x:Nat × FS)=>(pu (pu (pu (pu (pu (pu (pu (pu (pu (fun _=>.any) 0 (.ln (l.map tWt))) 1 (i64 d)) 2 (i64 h)) 6 (i64 x.2.th)) 7 (i64 x.2.wh)) 8 (bo x.2.ok)) 13 (.ln (l.map tWt))) 14 (i64 (l.map tWt).length)) 15 (i64 x.1))) (fun (x:Nat × FS)=>[]) (fun (x:Nat × FS)=>l.length-x.1) ((0,⟨0,0,false⟩)) ?_ ?_ ?_
 ·exact ⟨fO _,rfl⟩
 ·exact Wk.cq 0
 ·rintro ⟨q,s⟩ ⟨h2,h3⟩
  dsimp only at h2 h3 ⊢
  by_cases hq:q<l.length
  ·obtain ⟨a,ha⟩ : ∃a,l[q]? = some a:=⟨_,ZgE hq⟩
   have hn:=v1_ (d:=d) (h:=h) ha
   have hk:=m9_ l d h q
   rw [←h3] at hn hk
   have cH:=AtI a d h (by have:=hl.at ha;omega)
   obtain ⟨th,wh,ok⟩:=s
   dsimp only at hn hk ⊢
   by_cases hc1:a.on=true∧0≤ixF (isC d h) a.cases
   ·rw [show (decide (0≤ixF (isC d h) a.cases)&&a.on)=true by rw [fR hc1.2,hc1.1];rfl,Int.max_eq_left hc1.2] at cH
    cases ok
    ·rw [fL ⟨hc1.1,hc1.2,.inl rfl⟩] at hn
     repeat' (first|refine Cf ?_|fail)
     all_goals first|(exfalso;omega)|(refine ⟨(q+1,⟨q,ixF (isC d h) a.cases,true⟩),⟨by dsimp only;omega,hn.symm⟩,by dsimp only;omega,?_⟩;(exact Wk.cq 0);done)
    ·rcases hk with ⟨hk,_⟩|⟨_,t,rfl,ht,ho,hw,hwn⟩
     ·cases hk
     ·obtain ⟨b,hb⟩ : ∃b,l[t]? = some b:=⟨_,ZgE (by omega)⟩
      rw [fW,BJ hb] at hn
      by_cases htk:a.ticket<b.ticket
      ·rw [fL ⟨hc1.1,hc1.2,.inr htk⟩] at hn
       repeat' (first|refine Cf ?_|fail)
       all_goals first|(exfalso;omega)|(refine ⟨(q+1,⟨q,ixF (isC d h) a.cases,true⟩),⟨by dsimp only;omega,hn.symm⟩,by dsimp only;omega,?_⟩;(exact Wk.cq 0);done)
      ·rw [fM (fun k=>by have:=k.2.2;simp [htk] at this)] at hn
       repeat' (first|refine Cf ?_|fail)
       all_goals first|(exfalso;omega)|(refine ⟨(q+1,⟨t,wh,true⟩),⟨by dsimp only;omega,hn.symm⟩,by dsimp only;omega,?_⟩;(exact Wk.cq 0);done)
   ·rw [fM (fun k=>hc1 ⟨k.1,k.2.1⟩)] at hn
    rw [show (decide (0≤ixF (isC d h) a.cases)&&a.on)=false by
     cases ha2:a.on
     ·simp
     ·rw [fP (fun k=>hc1 ⟨ha2,k⟩)];rfl] at cH
    cases ok
    all_goals
     repeat' (first|refine Cf ?_|fail)
     all_goals first|(exfalso;omega)|(refine ⟨(q+1,⟨th,wh,_⟩),⟨by dsimp only;omega,hn.symm⟩,by dsimp only;omega,?_⟩;(exact Wk.cq 0);done)
  ·have e:q=l.length:=by omega
   subst e
   subst h3
   repeat' (first|refine A0 ?_|fail)
   all_goals exact Dk Tryz.results306
end
end Go.Proofs.YtccefppppedgkaaGreat
