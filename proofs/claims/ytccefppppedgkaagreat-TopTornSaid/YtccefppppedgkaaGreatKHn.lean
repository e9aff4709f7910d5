/- Joined: XTReader, XTCloneU, XTPokeP, XTMem, XTPutU. -/
import Derived.Test.YtccefppppedgkaaGreatKHk
set_option linter.unusedVariables false
set_option linter.unusedSimpArgs false
set_option linter.unnecessarySimpa false
set_option maxRecDepth 100000
set_option maxHeartbeats 64000000
namespace Go.Proofs.YtccefppppedgkaaGreat
open Go.RowKit
section
attribute [local irreducible] AL AW RG Fin C Cd Cio AI AF AO
abbrev fU (l:List Int):AV:=.t (.lst (l.map tU))
abbrev aRd (l:List Int):Ob:=.box 288 [fU l]
def okU (l:List Int):Prop:=∀w∈l,0≤w∧w≤18446744073709551615
theorem e9_ {l:List Int} (h:okU l) (n:Nat):okU (l.drop n):=fun w hw=>h w (iF hw)
theorem WD {l:List Int} (h:okU l):0≤l.headD 0∧l.headD 0≤18446744073709551615:=by
 cases l with
 |nil=>decide
 |cons a l=>exact h a (by simp)
theorem GI (l:List Int) (n:Nat) (m:Int):DF l n m=(l.take (min m.toNat n)).map fun w=>w%4294967296:=by unfold DF;rw [List.take_take]
theorem WK (l:List Int) (n:Nat) (m:Int):(DF l n m).length≤n:=by rw [GI];simp;omega
theorem n5_ {l:List Int} {i:Nat} {a m:Int} (ha:l[i]? = some a) (h:(i:Int)<m):DF l (i+1) m=DF l i m++[a%4294967296]:=by
 rw [GI,GI,show min m.toNat (i+1)=i+1 by omega,show min m.toNat i=i by omega,iB,ha];simp
theorem n4_ {l:List Int} {i:Nat} {m:Int} (h : ¬(i:Int)<m):DF l (i+1) m=DF l i m:=by
 rw [GI,GI,show min m.toNat (i+1)=m.toNat by omega,show min m.toNat i=m.toNat by omega]
theorem QZ (l:List Int) (hl:l.length≤1152921504606846976):Cio Tryz.prog 271 [.ptr 0 0] [aRd l] (u64 (l.headD 0)) [aRd (l.drop 1)]:=by
 have h1:(l.map tU).length=l.length:=fN _
 cases l with
 |nil =>
  refine ZEN Tryz.func271 Tryz.ntmps271 ?_
  repeat' (first|refine A0 ?_|fail)
  all_goals first|(exfalso;simp at *;done)|(exact A6 Tryz.results271)
  all_goals try rfl
 |cons a l =>
  have h2:(a::l)[0]? = some a:=rfl
  refine ZEN Tryz.func271 Tryz.ntmps271 ?_
  repeat' (first|refine A0 ?_|fail)
  all_goals first|(exfalso;simp at *;omega)|((refine A8 Tryz.results271 ?_ ?_ ?_<;>repeat' (first|exact ZE1|refine ZE2 ?_ ?_|refine ZE3 ?_|exact ZE4|fail)))
  all_goals (try simp)
theorem AuH (l:List Int) (hU:okU l) (m:Int) (n:Nat) (hn:n≤l.length) (hl:l.length≤1000000) (hm : -9223372036854775808≤m∧m≤9223372036854775807) :
  Cio Tryz.prog 279 [.ptr 0 0,i64 m,i64 n] [aRd l] (.t (.lst ((DF l n m).map tI))) [aRd (l.drop n)]:=by
 have h1:(l.map tU).length=l.length:=fN _
 have hz:DF l 0 m=[]:=by simp [DF]
 refine ZEN Tryz.func279 Tryz.ntmps279 ?_
 repeat' (first|refine A0 ?_|fail)
 refine AW.wk (Wk.own 7 rfl 3 1 (.push rfl rfl)) ?_
 refine AW.loopP (fun (x:Nat × Nat × Nat)=>x.1≤n∧x.2.2=(DF l x.1 m).length) (fun (x:Nat × Nat × Nat)=>(pu (pu (pu (pu (pu (fun _=>.any) 0 (.ptr 0 0)) 1 (i64 m)) 7 (.sl 1 x.2.1 x.2.2)) 10 (i64 n)) 11 (i64 x.1))) (fun (x:Nat × Nat × Nat)=>[aRd (l.drop x.1),.row x.2.1 3 1 ((DF l x.1 m).map tI)]) (fun (x:Nat × Nat × Nat)=>n-x.1) ((0,0,0)) ?_ ?_ ?_
 ·exact ⟨fX _,by rw [hz];rfl⟩
 ·dsimp only
  rw [hz]
  exact Wk.cq 2
 ·rintro ⟨i,k,c⟩ ⟨h2,h3⟩
  dsimp only at h2 h3 ⊢
  have hR:=WK l i m
  by_cases hi:i<n
  ·obtain ⟨a,ha⟩ : ∃a,l[i]? = some a:=⟨_,ZgE (by omega)⟩
   have cN:=QZ (l.drop i) bA
   rw [CZ ha,mF,gW,iK, ←CZ ha] at cN
   have hb:=hU a (fO ha)
   by_cases hk:(i:Int)<m
   ·have hs:DF l (i+1) m=DF l i m++[a%4294967296]:=n5_ ha hk
    repeat' (first|(refine ZAL ?_;first|(refine kL 1481 rfl ?_;first|refine A_bits rfl rfl .and 46 46 _ _ rfl rfl rfl rfl (and_lit 32 (M:=4294967296) rfl rfl (by omega) (by omega) (by omega)) ?_)|refine Dr ?_|refine uA ?_|refine uI [0] (cN) ?_)|refine uC ?_|fail)
    all_goals try exact ZE5
    refine ⟨(i+1,k+1,c+1),⟨by dsimp only;omega,by dsimp only;rw [hs];simp;omega⟩,by dsimp only;omega,?_⟩
    rw [hs]
    exact Wk.cq 2
   ·have hs:DF l (i+1) m=DF l i m:=n4_ hk
    repeat' (first|(refine ZAL ?_;first|refine uA ?_|refine uI [0] (cN) ?_)|refine uC ?_|fail)
    all_goals try exact ZE5
    refine ⟨(i+1,k,c),⟨by dsimp only;omega,by dsimp only;rw [hs];exact h3⟩,by dsimp only;omega,?_⟩
    rw [hs]
    exact Wk.cq 2
  ·obtain rfl:i=n:=by omega
   subst h3
   repeat' (first|(refine ZAL ?_;first|(refine kL 1 rfl ?_;first|((first|refine A_as (d:=6) rfl rfl rfl rfl ?_|refine A_move (d:=6) rfl rfl _ (.inr rfl) (y:=.sl _ _ _) rfl ?_|refine A_move (d:=6) rfl rfl _ (.inr rfl) (y:=.nl) rfl ?_|refine A_move (d:=6) rfl rfl _ (.inr rfl) (y:=.ptr _ _) rfl ?_|refine A_move (d:=6) rfl rfl _ (.inr rfl) (y:=.ln _) rfl ?_|refine A_move (d:=6) rfl rfl _ (.inr rfl) (y:=.lp _) rfl ?_|refine A_move (d:=6) rfl rfl _ (.inr rfl) (y:=.fn _ _ _) rfl ?_|refine A_move (d:=6) rfl rfl _ (.inr rfl) (y:=.sub _ _ _ _) rfl ?_|refine A_move (d:=6) rfl rfl _ (.inr rfl) (y:=.rp _ _ _ _) rfl ?_|refine A_move (d:=6) rfl rfl _ (.inr rfl) (y:=.agg _) rfl ?_|refine A_move (d:=6) rfl rfl _ (.inr rfl) (y:=.tup _) rfl ?_|refine A_move (d:=6) rfl rfl _ (.inr rfl) (y:=.mv _) rfl ?_|refine A_move (d:=6) rfl rfl _ (.inr rfl) (y:=.cl _) rfl ?_);(try refine uf 1 6 ?_)))|refine Ag ?_|refine F6 ?_|refine Dt ?_|refine uA ?_)|refine uC ?_|refine ZK2 (fun hc=>?_) (fun hc=>?_)|fail)
   all_goals exact A2 Tryz.results279
theorem GD (l:List Int) (h:l.length≤17592186044415):Cd Tryz.prog 96 [.ln (l.map tU)] (fU l) []:=by
 have h0:Cd Tryz.prog 96 [.ln (l.map tU)] (.sl 0 0 l.length) [.row 0 46 1 (l.map tU)]:=by
  refine ZEN Tryz.func96 Tryz.ntmps96 ?_
  repeat' (first|(refine ZAL ?_;first|(refine kL 1257 rfl ?_;first|refine EF rfl rfl 39 _ _ rfl ud39 rfl (fun b hb=>?_))|refine Ae ?_|refine uA ?_)|refine uC ?_|refine ZK2 (fun hc=>?_) (fun hc=>?_)|fail)
  ·have hl:l=[]:=by simpa using hb hc
   subst hl
   refine Fin.wk (Wk.own 2 rfl 46 1 (.push rfl rfl)) ?_
   (first|exact Ab Tryz.results96|refine Aj Tryz.results96 ?_|refine Ak Tryz.results96 ?_ ?_ ?_<;>repeat' (first|exact ZE1|refine ZE2 ?_ ?_|refine ZE3 ?_|exact ZE4|fail))
  ·(first|exact Ab Tryz.results96|refine Aj Tryz.results96 ?_|refine Ak Tryz.results96 ?_ ?_ ?_<;>repeat' (first|exact ZE1|refine ZE2 ?_ ?_|refine ZE3 ?_|exact ZE4|fail))
 have h0':=Cd.frz1 h0 0 rfl aB rfl;exact Cd.drop h0' rfl
end
def pokeL (l:List Int) (a:Nat) (ws:List Int):List Int:=l.take a++ws++l.drop (a+ws.length)
theorem HX {l ws:List Int} {a:Nat} (h:a+ws.length≤l.length):(pokeL l a ws).length=l.length:=by
 unfold pokeL;simp only [fP,fY,gJ];omega
theorem OR {l ws:List Int} {a:Nat} (h:a+ws.length≤l.length) (i:Nat):(pokeL l a ws)[i]? = if i<a then l[i]? else if i<a+ws.length then ws[i-a]? else l[i]? := by
 unfold pokeL
 have e1:(l.take a).length=a:=by rw [fY];omega
 by_cases h1:i<a
 ·rw [fR h1,gC,gH (by omega),gN,fR h1]
 ·rw [fT h1]
  by_cases h2:i<a+ws.length
  ·rw [fR h2,gC,gD (by omega),e1,gH (by omega)]
  ·rw [fT h2,gD (by simp only [fP,e1];omega),fP,e1,gK]
   congr 1;omega
section
attribute [local irreducible] AL AW RG Fin C Cd Cio AI AF AO
abbrev mB (k n:Nat):Ob:=.box 135 [.sl 1 k n,.nl,.nl,bo false]
abbrev mR (k:Nat) (l:List Int):Ob:=.row k 46 1 (l.map tU)
theorem AhL {l ws:List Int} {a q:Nat} (h:q=ws.length):(l.map tU).take a++ws.map tU++(l.map tU).drop (a+q)=(pokeL l a ws).map tU:=by
 subst h;unfold pokeL;simp only [iP,List.map_take,iU]
theorem AmH (k n:Nat) (l:List Int) (hn:l.length=n) (h0:0<n):Cio Tryz.prog 74 [.ptr 0 0] [mB k n,mR k l] (bo true) [mB k n,mR k l]:=by
 refine C2 ?_
 repeat' (first|refine A0 ?_|refine uS 5 (fun hb=>?_) (fun hb=>?_)|refine ZK2 (fun hc=>?_) (fun hc=>?_)|fail)
 all_goals exact A3 Tryz.results74
theorem AtH (n:Nat) (h0:0<n) (h1:n≤1048576):Cd Tryz.prog 115 [i64 n] (.ptr 0 0) [mB 0 n,mR 0 (List.replicate n 0)]:=by
 refine ZEN Tryz.func115 Tryz.ntmps115 ?_
 repeat' (first|(refine ZAL ?_;first|(refine kL 1264 rfl ?_;first|refine XD rfl rfl 39 _ _ rfl ud39 inf46 rfl (zs:=[(.v (.int .u64 0))]) rfl rfl rfl n aK aK qB qB (by first|exact rep_map (f:=tU) (x:=_)|exact qN) (.push qL qN) ?_|refine XD rfl rfl 39 _ _ rfl ud39 inf46 rfl (zs:=[(.v (.int .u64 0))]) rfl rfl rfl _ aK aK qB qB (by first|exact rep_map (f:=tU) (x:=_)|exact qN) (.push qL qN) ?_)|refine uA ?_)|refine uC ?_|refine uS 5 (fun hb=>?_) (fun hb=>?_)|refine ZK2 (fun hc=>?_) (fun hc=>?_)|fail)
 all_goals first|(exfalso;omega)|((first|exact Fin.q Tryz.results115 (.cons (.tmp rfl) .nil) [1,0]|refine Fin.q Tryz.results115 (.cons (.tmp rfl) .nil) [1,0] (hr:=(.t ?_))|refine Fin.mkv (rs:=_) Tryz.results115 (.cons (.tmp rfl) .nil) [1,0] (by decide) rfl ?_ ?_ ?_<;>repeat' (first|exact ZE1|refine ZE2 ?_ ?_|refine ZE3 ?_|exact ZE4|fail)))
theorem YF (k n:Nat) (l ws:List Int) (hn:l.length=n) (h0:0<n) (hm:n≤1048576) (a:Nat) (h1:a+ws.length≤n):Cio Tryz.prog 117 [.ptr 0 0,i64 a,.ln (ws.map tU)] [mB k n,mR k l] (i64 0) [mB k n,mR k (pokeL l a ws)]:=by
 have c1:=AmH k n l hn h0
 have e1:(ws.map tU).length=ws.length:=fN _
 have e2:(l.map tU).length=l.length:=fN _
 refine ZEN Tryz.func117 Tryz.ntmps117 ?_
 repeat' (first|(refine ZAL ?_;first|refine uA ?_|refine uI [0,1] (c1) ?_)|refine uC ?_|refine uS 14 (fun hb=>?_) (fun hb=>?_)|refine uS 23 (fun hb=>?_) (fun hb=>?_)|refine ZK2 (fun hc=>?_) (fun hc=>?_)|fail)
 all_goals first|(exfalso;omega)|((first|exact A6 Tryz.results117|refine A5 Tryz.results117 ?_|refine A8 Tryz.results117 ?_ ?_ ?_<;>repeat' (first|exact ZE1|refine ZE2 ?_ ?_|refine ZE3 ?_|exact ZE4|fail)))
 all_goals exact AhL e1
end
theorem ZJ {l:List Int} {n:Nat} (h:okU l):okU (CW l n):=by
 intro w hw
 obtain ⟨i,_,rfl⟩:=iW.1 hw
 rw [fQ]
 cases hx:l[i]? with
 |none=>decide
 |some a=>exact h a (fO hx)
theorem AhY (l:List Rst):okU (l.map wordR):=by
 intro w hw
 obtain ⟨r,_,rfl⟩:=iW.1 hw
 exact RL r
theorem AhS (c:AB) (h:AM):okU (putH c h):=by
 cases hf:DZ c h
 ·unfold putH;rw [hf];intro w hw;cases hw
 ·obtain ⟨h0,h1,h2,h3,h4,h5,h7,h8⟩:=DM.1 hf
  have hs:=AJ h0
  have hb:=hs.h3 h1
  intro w hw
  unfold putH at hw
  rw [fR hf] at hw
  rcases iH.1 hw with rfl|hw
  ·omega
  rcases gQ.1 hw with hw|hw
  ·obtain ⟨x,hx,hw⟩:=List.mem_flatMap.1 hw
   obtain ⟨g1,g2,⟨g3,g4⟩,_⟩:=BE.1 (h7 x hx)
   rcases iH.1 hw with rfl|hw
   ·have:=IK x.used;have:=IK x.closed;unfold FT;omega
   ·exact ZJ (fun y hy=>by have:=g4 y hy;omega) w hw
  rcases gQ.1 hw with hw|hw
  ·obtain ⟨x,hx,hw⟩:=List.mem_flatMap.1 hw
   obtain ⟨g1,g2,g3,g4⟩:=FL (h8 x hx)
   rcases iH.1 hw with rfl|hw
   ·have:=IK x.on;unfold HS;omega
   ·refine ZJ (fun y hy=>?_) w hw
    obtain ⟨k,hk,rfl⟩:=iW.1 hy
    exact AoX (g4 k hk)
  ·exact AhY _ w hw
theorem AhU (c:AB) (x:CO):okU (putX c x):=by
 cases hf:EB c x
 ·unfold putX;rw [hf];intro w hw;cases hw
 ·obtain ⟨h0,h1,h2,⟨h3,h4⟩,_⟩:=DS.1 hf
  have hs:=AJ h0
  have hb:=hs.h1 h1
  intro w hw
  unfold putX at hw
  rw [fR hf] at hw
  rcases iH.1 hw with rfl|hw
  ·omega
  rcases gQ.1 hw with hw|hw
  ·exact ZJ (fun y hy=>by have:=h4 y hy;omega) w hw
  ·exact AhY _ w hw
end Go.Proofs.YtccefppppedgkaaGreat
