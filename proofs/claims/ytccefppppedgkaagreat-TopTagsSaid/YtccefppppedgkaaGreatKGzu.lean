/- Joined: XTObsB. -/
import Derived.Test.YtccefppppedgkaaGreatKGzp
set_option linter.unusedVariables false
set_option linter.unusedSimpArgs false
set_option linter.unnecessarySimpa false
set_option maxRecDepth 100000
set_option maxHeartbeats 64000000
namespace Go.Proofs.YtccefppppedgkaaGreat
open Go.RowKit
section
attribute [local irreducible] AL AW RG Fin C Cd Cio AI AF AN
section
theorem AbY (l:List JB) (h:l.length≤1172812402961):Cd Tryz.prog 70 [.ln (l.map tNt)] (.sl 0 0 l.length) [.row 0 75 13 (l.map tNt)]:=by
 refine ZEN Tryz.func70 Tryz.ntmps70 ?_
 repeat' (first|(refine ZAL ?_;first|(refine kL 2249 rfl ?_;first|refine DU rfl rfl 70 _ _ rfl ud70 rfl (fun b hb=>?_))|(refine kL 12 rfl ?_;first|refine DD rfl rfl _ _ 70 rfl ud70 inf75 rfl rfl rfl cY aA qB qB (by first|exact app_map aG|exact app_one (f:=tNt) (x:=_) aG|exact qN) qN qS ?_|refine BL rfl rfl _ _ 70 rfl ud70 inf75 rfl rfl aA qB qB (by first|exact (rfl:_=List.map tNt [_])|exact qN) (.push qL qN) qS ?_|refine A_append_nlsub rfl rfl _ _ 70 rfl ud70 inf75 rfl rfl rfl rfl aK qB qB iW.symm (.push qL qN) ?_)|refine uA ?_)|refine uC ?_|refine ZK2 (fun hc=>?_) (fun hc=>?_)|fail)
 ·have hl:l=[]:=by simpa using hb hc
  subst hl
  refine Fin.wk (Wk.own 2 rfl 75 13 (.push rfl rfl)) ?_
  (first|exact Ab Tryz.results70|refine Aj Tryz.results70 ?_|refine Ak Tryz.results70 ?_ ?_ ?_<;>repeat' (first|exact ZE1|refine ZE2 ?_ ?_|refine ZE3 ?_|exact ZE4|fail))
 ·(first|exact Ab Tryz.results70|refine Aj Tryz.results70 ?_|refine Ak Tryz.results70 ?_ ?_ ?_<;>repeat' (first|exact ZE1|refine ZE2 ?_ ?_|refine ZE3 ?_|exact ZE4|fail))
theorem AbZ (l:List DA) (h:l.length≤3518437208883):Cd Tryz.prog 57 [.ln (l.map tTn)] (.sl 0 0 l.length) [.row 0 63 3 (l.map tTn)]:=by
 refine ZEN Tryz.func57 Tryz.ntmps57 ?_
 repeat' (first|(refine ZAL ?_;first|(refine kL 1353 rfl ?_;first|refine DU rfl rfl 42 _ _ rfl ud42 rfl (fun b hb=>?_))|(refine kL 12 rfl ?_;first|refine DD rfl rfl _ _ 42 rfl ud42 inf63 rfl rfl rfl cY aA qB qB (by first|exact app_map aG|exact app_one (f:=tTn) (x:=_) aG|exact qN) qN qS ?_|refine BL rfl rfl _ _ 42 rfl ud42 inf63 rfl rfl aA qB qB (by first|exact (rfl:_=List.map tTn [_])|exact qN) (.push qL qN) qS ?_|refine A_append_nlsub rfl rfl _ _ 42 rfl ud42 inf63 rfl rfl rfl rfl aK qB qB iW.symm (.push qL qN) ?_)|refine uA ?_)|refine uC ?_|refine ZK2 (fun hc=>?_) (fun hc=>?_)|fail)
 ·have hl:l=[]:=by simpa using hb hc
  subst hl
  refine Fin.wk (Wk.own 2 rfl 63 3 (.push rfl rfl)) ?_
  (first|exact Ab Tryz.results57|refine Aj Tryz.results57 ?_|refine Ak Tryz.results57 ?_ ?_ ?_<;>repeat' (first|exact ZE1|refine ZE2 ?_ ?_|refine ZE3 ?_|exact ZE4|fail))
 ·(first|exact Ab Tryz.results57|refine Aj Tryz.results57 ?_|refine Ak Tryz.results57 ?_ ?_ ?_<;>repeat' (first|exact ZE1|refine ZE2 ?_ ?_|refine ZE3 ?_|exact ZE4|fail))
theorem AtB:tNt=cNt:=by funext x;rfl
theorem AtC:tTn=cTn:=by funext x;rfl
theorem OF {α:Type} {l:List α} {n:Nat} {a:α} (h:l[n]? = some a):l.set n a=l:=by
 refine iI fun i=>?_
 by_cases e:n=i
 ·subst e;rw [iU (gZ.1 h).1,h]
 ·rw [jG e]
theorem AeG (l:List DOp) (h:l.length≤1000000000) (hq : ∀o∈l,o.req.cases.length≤1000):Cd Tryz.prog 58 [.ln (l.map tOp)] (.t (.lst (l.map tOp))) []:=by
 have e1:(l.map tOp).length=l.length:=fH _
 have c1:=QQ l (by omega)
 refine ZEN Tryz.func58 Tryz.ntmps58 ?_
 repeat' (first|refine A6 ?_|refine ZK2 (fun hc=>?_) (fun hc=>?_)|fail)
 all_goals try exact ZE5
 refine AW.loopP (fun (q:Nat)=>q≤l.length) (fun (q:Nat)=>(pu (pu (pu (fun _=>.any) 3 (.sl 0 0 l.length)) 8 (i64 l.length)) 9 (i64 q))) (fun (q:Nat)=>[.row 0 65 8 (l.map tOp)]) (fun (q:Nat)=>l.length-q) (0) ?_ ?_ ?_
 ·exact fO _
 ·exact Wk.cq 1
 ·intro q hq1
  by_cases hi:q<l.length
  ·obtain ⟨x,hx⟩ : ∃x,l[q]? = some x:=⟨_,ZgE hi⟩
   have hqx:=hq x (fI hx)
   obtain ⟨a,b,d,⟨k,g,v,df,cs⟩⟩:=x
   dsimp only at hqx
   have c2:=DX ⟨k,g,v,df,cs⟩ dS
   dsimp only [aRq,fRq] at c2
   repeat' (first|(refine ZAL ?_;first|(refine kL 1027 rfl ?_;first|refine A_store_rp rfl rfl 32 _ _ rfl inf32 (by decide) rfl rfl bE rfl rfl rfl (ZbT rfl) (by first|exact map_set (f:=tOp) (x:=⟨a,b,d,⟨k,g,v,df,cs⟩⟩)|exact qN) qN ?_)|refine uA ?_|refine uK (c2) ?_)|refine uC ?_|refine ZK2 (fun hc=>?_) (fun hc=>?_)|fail)
   all_goals try exact ZE5
   refine ⟨q+1,by omega,by omega,?_⟩
   rw [OF hx]
   exact Wk.cq 1
  ·obtain rfl:q=l.length:=by omega
   repeat' (first|((with_reducible refine kAW ?_);refine ufR (id:=7) 0 3 ?_)|refine uA ?_|refine uC ?_|refine ZK2 (fun hc=>?_) (fun hc=>?_)|fail)
   all_goals exact A4 Tryz.results58
theorem w3_ (x:AC) (h1:x.req.cases.length≤1000) (h2:x.buf.length≤1000000∧x.nxt.length≤1000000∧x.args.length≤1000000∧x.seen.length≤1000000) (h3:x.found.length≤10000000) (h4 : ∀o∈x.found,o.req.cases.length≤1000) (h5:x.pool.free.length+x.pool.old.length≤10000000) :
  Cd Tryz.prog 59 [fTk x] (fTk { x with pool:=leaveP x.pool }) []:=by
 have c1:=DX x.req (by omega)
 have c2:=FR x.buf (by omega)
 have c3:=FR x.nxt (by omega)
 have c4:=FR x.args (by omega)
 have c5:=FR x.seen (by omega)
 have c6:=AeG x.found (by omega) h4
 have c7:=ZT x.pool (by omega)
 generalize leaveP x.pool=lp at *
 refine ZEN Tryz.func59 Tryz.ntmps59 ?_
 repeat' (first|(refine ZAL ?_;first|refine uA ?_|refine uK (c1) ?_|refine uK (c6) ?_|refine uK (c7) ?_)|(refine ZRG ?_;first|(refine kR 3082 rfl ?_;first|(first|refine uQ (c2) 0 ?_|refine uQ (c2) 1 ?_|refine uQ (c2) 2 ?_|refine uQ (c2) 3 ?_|refine uQ (c2) 4 ?_|refine uQ (c2) 5 ?_|refine uQ (c2) 6 ?_|refine uQ (c2) 7 ?_|refine uQ (c2) 8 ?_|refine uQ (c2) 9 ?_|refine uQ (c2) 10 ?_|refine uQ (c2) 11 ?_|refine uQ (c2) 12 ?_|refine uQ (c2) 13 ?_)|(first|refine uQ (c3) 0 ?_|refine uQ (c3) 1 ?_|refine uQ (c3) 2 ?_|refine uQ (c3) 3 ?_|refine uQ (c3) 4 ?_|refine uQ (c3) 5 ?_|refine uQ (c3) 6 ?_|refine uQ (c3) 7 ?_|refine uQ (c3) 8 ?_|refine uQ (c3) 9 ?_|refine uQ (c3) 10 ?_|refine uQ (c3) 11 ?_|refine uQ (c3) 12 ?_|refine uQ (c3) 13 ?_)|(first|refine uQ (c4) 0 ?_|refine uQ (c4) 1 ?_|refine uQ (c4) 2 ?_|refine uQ (c4) 3 ?_|refine uQ (c4) 4 ?_|refine uQ (c4) 5 ?_|refine uQ (c4) 6 ?_|refine uQ (c4) 7 ?_|refine uQ (c4) 8 ?_|refine uQ (c4) 9 ?_|refine uQ (c4) 10 ?_|refine uQ (c4) 11 ?_|refine uQ (c4) 12 ?_|refine uQ (c4) 13 ?_)|(first|refine uQ (c5) 0 ?_|refine uQ (c5) 1 ?_|refine uQ (c5) 2 ?_|refine uQ (c5) 3 ?_|refine uQ (c5) 4 ?_|refine uQ (c5) 5 ?_|refine uQ (c5) 6 ?_|refine uQ (c5) 7 ?_|refine uQ (c5) 8 ?_|refine uQ (c5) 9 ?_|refine uQ (c5) 10 ?_|refine uQ (c5) 11 ?_|refine uQ (c5) 12 ?_|refine uQ (c5) 13 ?_))|refine uR ?_)|refine uC ?_|refine AW.drawU (id:=2) mixed 0 qR ?_|refine ZK2 (fun hc=>?_) (fun hc=>?_)|fail)
 all_goals first|(exfalso;omega)|((first|exact Gp Tryz.results59|refine Gq Tryz.results59 ?_|refine Gr Tryz.results59 ?_ ?_ ?_<;>repeat' (first|exact ZE1|refine ZE2 ?_ ?_|refine ZE3 ?_|exact ZE4|fail)))
section
variable (c:AB) (s:Mc) (n th vl vc vn vu:Nat)
theorem AmT (t:Nat) (x:AC) (hx:s.tasks[t]? = some x) (hl:s.tasks.length=th) (h1:x.req.cases.length≤1000) (h2:x.buf.length≤1000000∧x.nxt.length≤1000000∧x.args.length≤1000000∧x.seen.length≤1000000) (h3:x.found.length≤10000000) (h4 : ∀o∈x.found,o.req.cases.length≤1000) (h5:x.pool.free.length+x.pool.old.length≤10000000) :
  Cio Tryz.prog 17 [.ptr 0 0,i64 t] (XV c s n th vl vc vn vu) (fTk x) (XV c s n th vl vc vn vu):=by
 have hlt:=get_lt hx
 have c1:=AaE c s n th vl vc vn vu t hl
 rw [fR (by omega)] at c1
 have c2:=w3_ x h1 h2 h3 h4 h5
 have e1:(s.tasks.map cTk).length=s.tasks.length:=fH _
 dsimp only [XV,mL,mC,mR] at *
 refine ZEN Tryz.func17 Tryz.ntmps17 ?_
 repeat' (first|refine Ek ?_|refine ZK2 (fun hc=>?_) (fun hc=>?_)|fail)
 all_goals first|(exfalso;omega)|((first|exact Gp Tryz.results17|refine Gq Tryz.results17 ?_|refine Gr Tryz.results17 ?_ ?_ ?_<;>repeat' (first|exact ZE1|refine ZE2 ?_ ?_|refine ZE3 ?_|exact ZE4|fail)))
theorem AhH (hl:s.notes.length≤1000000) (hq : ∀x∈s.notes,x.req.cases.length≤1000):Cio Tryz.prog 26 [.ptr 0 0] (XV c s n th vl vc vn vu) (.t (.lst (s.notes.map cNt))) (XV c s n th vl vc vn vu):=by
 have c1:=NC c s n th vl vc vn vu
 have c2:=AbY s.notes (by omega)
 rw [AtB] at c2
 have e1:(s.notes.map cNt).length=s.notes.length:=fH _
 dsimp only [XV,mL,mC,mR] at *
 refine ZEN Tryz.func26 Tryz.ntmps26 ?_
 repeat' (first|refine Ek ?_|refine ZK2 (fun hc=>?_) (fun hc=>?_)|fail)
 all_goals try exact ZE5
 refine AW.loopP (fun (q:Nat)=>q≤s.notes.length) (fun (q:Nat)=>(pu (pu (pu (fun _=>.any) 3 (.sl 11 0 s.notes.length)) 14 (i64 s.notes.length)) 15 (i64 q))) (fun (q:Nat)=>[.box 114 [i64 c.kind,i64 c.threads,i64 c.chans,i64 c.cap,i64 c.nodes,i64 c.retire,i64 c.patience,i64 c.tags,i64 c.seqs,i64 c.gens,.t (.lst (c.start.map tI)),.ptr 1 0,.sl 5 0 th,.sl 6 0 th,.sl 7 vn s.notes.length,.sl 8 vu s.turns.length,.sl 9 0 th,.sl 10 0 th,i64 s.time],.box 135 [.sl 2 0 n,.sl 3 vl s.m.log.length,.sl 4 vc s.m.cnt.length,bo true],.row 0 46 1 (s.m.w.map tU),.row vl 83 7 (s.m.log.map tAc),.row vc 3 1 (s.m.cnt.map tI),.row 0 55 34 (s.tasks.map cTk),.row 0 145 7 (s.pumps.map cPu),.row vn 75 13 (s.notes.map cNt),.row vu 63 3 (s.turns.map cTn),.row 0 3 1 (s.steps.map tI),.row 0 3 1 (s.most.map tI),.row 0 75 13 (s.notes.map cNt)]) (fun (q:Nat)=>s.notes.length-q) (0) ?_ ?_ ?_
 ·exact fO _
 ·exact Wk.cq 12
 ·intro q hq1
  by_cases hi:q<s.notes.length
  ·obtain ⟨x,hx⟩ : ∃x,s.notes[q]? = some x:=⟨_,ZgE hi⟩
   have hqx:=hq x (fI hx)
   have c3:=DX x.req (by omega)
   repeat' (first|(refine ZAL ?_;first|(refine kL 1027 rfl ?_;first|refine A_store_rp rfl rfl 32 _ _ rfl inf32 (by decide) rfl rfl bE rfl rfl rfl (ZbT rfl) (by first|exact map_set (f:=cNt) (x:=x)|exact qN) qN ?_)|refine uA ?_|refine uK (c3) ?_)|refine uC ?_|refine ZK2 (fun hc=>?_) (fun hc=>?_)|fail)
   all_goals try exact ZE5
   refine ⟨q+1,by omega,by omega,?_⟩
   rw [OF hx]
   exact Wk.cq 12
  ·obtain rfl:q=s.notes.length:=by omega
   repeat' (first|((with_reducible refine kAW ?_);refine ufR (id:=9) 11 3 ?_)|refine uA ?_|refine uC ?_|refine ZK2 (fun hc=>?_) (fun hc=>?_)|fail)
   all_goals exact A4 Tryz.results26
theorem AhM (hl:s.turns.length≤1000000) (hq : ∀x∈s.turns,x.ops.length≤1000000 ∧ ∀o∈x.ops,o.req.cases.length≤1000):Cio Tryz.prog 16 [.ptr 0 0] (XV c s n th vl vc vn vu) (.t (.lst (s.turns.map cTn))) (XV c s n th vl vc vn vu):=by
 have c1:=NC c s n th vl vc vn vu
 have c2:=AbZ s.turns (by omega)
 rw [AtC] at c2
 have e1:(s.turns.map cTn).length=s.turns.length:=fH _
 dsimp only [XV,mL,mC,mR] at *
 refine ZEN Tryz.func16 Tryz.ntmps16 ?_
 repeat' (first|refine Ek ?_|refine ZK2 (fun hc=>?_) (fun hc=>?_)|fail)
 all_goals try exact ZE5
 refine AW.loopP (fun (q:Nat)=>q≤s.turns.length) (fun (q:Nat)=>(pu (pu (pu (fun _=>.any) 3 (.sl 11 0 s.turns.length)) 14 (i64 s.turns.length)) 15 (i64 q))) (fun (q:Nat)=>[.box 114 [i64 c.kind,i64 c.threads,i64 c.chans,i64 c.cap,i64 c.nodes,i64 c.retire,i64 c.patience,i64 c.tags,i64 c.seqs,i64 c.gens,.t (.lst (c.start.map tI)),.ptr 1 0,.sl 5 0 th,.sl 6 0 th,.sl 7 vn s.notes.length,.sl 8 vu s.turns.length,.sl 9 0 th,.sl 10 0 th,i64 s.time],.box 135 [.sl 2 0 n,.sl 3 vl s.m.log.length,.sl 4 vc s.m.cnt.length,bo true],.row 0 46 1 (s.m.w.map tU),.row vl 83 7 (s.m.log.map tAc),.row vc 3 1 (s.m.cnt.map tI),.row 0 55 34 (s.tasks.map cTk),.row 0 145 7 (s.pumps.map cPu),.row vn 75 13 (s.notes.map cNt),.row vu 63 3 (s.turns.map cTn),.row 0 3 1 (s.steps.map tI),.row 0 3 1 (s.most.map tI),.row 0 63 3 (s.turns.map cTn)]) (fun (q:Nat)=>s.turns.length-q) (0) ?_ ?_ ?_
 ·exact fO _
 ·exact Wk.cq 12
 ·intro q hq1
  by_cases hi:q<s.turns.length
  ·obtain ⟨x,hx⟩ : ∃x,s.turns[q]? = some x:=⟨_,ZgE hi⟩
   have hqx:=hq x (fI hx)
   have c3:=AeG x.ops (by omega) hqx.2
   repeat' (first|(refine ZAL ?_;first|(refine kL 1507 rfl ?_;first|refine A_store_rp rfl rfl 47 _ _ rfl AnK (by decide) rfl rfl bE rfl rfl rfl (ZbT rfl) (by first|exact map_set (f:=cTn) (x:=x)|exact qN) qN ?_)|refine uA ?_|refine uK (c3) ?_)|refine uC ?_|refine ZK2 (fun hc=>?_) (fun hc=>?_)|fail)
   all_goals try exact ZE5
   refine ⟨q+1,by omega,by omega,?_⟩
   rw [OF hx]
   exact Wk.cq 12
  ·obtain rfl:q=s.turns.length:=by omega
   repeat' (first|((with_reducible refine kAW ?_);refine ufR (id:=9) 11 3 ?_)|refine uA ?_|refine uC ?_|refine ZK2 (fun hc=>?_) (fun hc=>?_)|fail)
   all_goals exact A4 Tryz.results16
end
end
end
end Go.Proofs.YtccefppppedgkaaGreat
