/- Joined: XTObsA, XTMachF, XTObsB. -/
import Derived.Test.YtccefppppedgkaaGreatKHzq
set_option linter.unusedVariables false
set_option linter.unusedSimpArgs false
set_option linter.unnecessarySimpa false
set_option maxRecDepth 100000
set_option maxHeartbeats 64000000
namespace Go.Proofs.YtccefppppedgkaaGreat
open Go.RowKit
section
attribute [local irreducible] AL AW RG Fin C Cd Cio AI AF AO
section
abbrev XBv (c:AB) (th ln vn lu vu:Nat) (tm:Int):Ob:=.box 114 [i64 c.kind,i64 c.threads,i64 c.chans,i64 c.cap,i64 c.nodes,i64 c.retire,i64 c.patience,i64 c.tags,i64 c.seqs,i64 c.gens,.t (.lst (c.start.map tI)),.ptr 1 0,.sl 5 0 th,.sl 6 0 th,.sl 7 vn ln,.sl 8 vu lu,.sl 9 0 th,.sl 10 0 th,i64 tm]
abbrev XV (c:AB) (s:Mc) (n th vl vc vn vu:Nat):List Ob :=
  [XBv c th s.notes.length vn s.turns.length vu s.time,.box 135 [.sl 2 0 n,.sl 3 vl s.m.log.length,.sl 4 vc s.m.cnt.length,bo true],mR 0 s.m.w,mL s.m.log vl,mC s.m.cnt vc,
   .row 0 55 34 (s.tasks.map cTk),.row 0 145 7 (s.pumps.map cPu),.row vn 75 13 (s.notes.map cNt),.row vu 63 3 (s.turns.map cTn),.row 0 3 1 (s.steps.map tI),.row 0 3 1 (s.most.map tI)]
abbrev fMm (m:Mm):Ob:=.box 135 [fU m.w,.t (.lst (m.log.map tAc)),.t (.lst (m.cnt.map tI)),bo true]
abbrev MV (m:Mm) (n vl vc:Nat):List Ob:=[.box 135 [.sl 1 0 n,.sl 2 vl m.log.length,.sl 3 vc m.cnt.length,bo true],mR 0 m.w,mL m.log vl,mC m.cnt vc]
theorem AdU (l:List KQ) (h:l.length≤2513169434916):Cd Tryz.prog 75 [.ln (l.map tAc)] (.sl 0 0 l.length) [.row 0 83 7 (l.map tAc)]:=by
 refine ZEN Tryz.func75 Tryz.ntmps75 ?_
 repeat' (first|(refine ZAL ?_;first|(refine kL 2505 rfl ?_;first|refine EF rfl rfl 78 _ _ rfl i5_ rfl (fun b hb=>?_))|(refine kL 12 rfl ?_;first|refine CN rfl rfl _ _ 78 rfl i5_ HV rfl rfl rfl cY aA qB qB (by first|exact app_map aE|exact app_one (f:=tAc) (x:=_) aE|exact qN) qN qS ?_|refine BD rfl rfl _ _ 78 rfl i5_ HV rfl rfl aA qB qB (by first|exact (rfl:_=List.map tAc [_])|exact qN) (.push qL qN) qS ?_|refine A_append_nlsub rfl rfl _ _ 78 rfl i5_ HV rfl rfl rfl rfl aJ qB qB iU.symm (.push qL qN) ?_)|refine uA ?_)|refine uC ?_|refine ZK2 (fun hc=>?_) (fun hc=>?_)|fail)
 ·have hl:l=[]:=by simpa using hb hc
  subst hl
  refine Fin.wk (Wk.own 2 rfl 83 7 (.push rfl rfl)) ?_
  (first|exact Ab Tryz.results75|refine Aj Tryz.results75 ?_|refine Ak Tryz.results75 ?_ ?_ ?_<;>repeat' (first|exact ZE1|refine ZE2 ?_ ?_|refine ZE3 ?_|exact ZE4|fail))
 ·(first|exact Ab Tryz.results75|refine Aj Tryz.results75 ?_|refine Ak Tryz.results75 ?_ ?_ ?_<;>repeat' (first|exact ZE1|refine ZE2 ?_ ?_|refine ZE3 ?_|exact ZE4|fail))
theorem VK (l:List KQ) (h:l.length≤1000000000000):Cd Tryz.prog 75 [.ln (l.map tAc)] (.t (.lst (l.map tAc))) []:=by
 have h0:=AdU l (by omega)
 have h0':=Cd.frz1 h0 0 rfl aB rfl;exact Cd.drop h0' rfl
theorem RX (l:List Int) (h:l.length≤1000000000000):Cd Tryz.prog 82 [.ln (l.map tI)] (.t (.lst (l.map tI))) []:=by
 have h0:=AR l (by omega)
 have h0':=Cd.frz1 h0 0 rfl aB rfl;exact Cd.drop h0' rfl
theorem d9_ (m:Mm) (n vl vc:Nat) (hn:m.w.length=n) (h0:0<n):Cio Tryz.prog 74 [.ptr 0 0] (MV m n vl vc) (bo true) (MV m n vl vc):=by
 refine C2 ?_
 repeat' (first|refine A0 ?_|refine uS 5 (fun hb=>?_) (fun hb=>?_)|refine ZK2 (fun hc=>?_) (fun hc=>?_)|fail)
 all_goals exact A3 Tryz.results74
theorem d8_ (m:Mm) (h0:0<m.w.length):Cio Tryz.prog 74 [.ptr 0 0] [fMm m] (bo true) [fMm m]:=by
 have e:(m.w.map tU).length=m.w.length:=fN _
 refine C2 ?_
 repeat' (first|refine A0 ?_|refine uS 5 (fun hb=>?_) (fun hb=>?_)|refine ZK2 (fun hc=>?_) (fun hc=>?_)|fail)
 all_goals exact A3 Tryz.results74
theorem AgD (m:Mm) (n vl vc:Nat) (hn:m.w.length=n) (h0:0<n) (h1:n≤1048576) (h2:m.log.length≤1048576) (h3:m.cnt.length≤64):Cio Tryz.prog 73 [.ptr 0 0] (MV m n vl vc) (.ptr 4 0) (MV m n vl vc++[fMm m]):=by
 have c1:=d9_ m n vl vc hn h0
 have c2:=GD m.w (by omega)
 have c3:=VK m.log (by omega)
 have c4:=RX m.cnt (by omega)
 have e1:(m.w.map tU).length=m.w.length:=fN _
 have e2:(m.log.map tAc).length=m.log.length:=fN _
 have e3:(m.cnt.map tI).length=m.cnt.length:=fN _
 dsimp only [MV,mL,mC,mR,List.cons_append,List.nil_append] at *
 refine ZEN Tryz.func73 Tryz.ntmps73 ?_
 repeat' (first|(refine ZAL ?_;first|refine uA ?_|refine uI [0,1,2,3] (c1) ?_)|(refine ZRG ?_;first|refine uR ?_|refine AT (c2) ?_|refine AT (c3) ?_|refine AT (c4) ?_)|refine uC ?_|refine AW.drawU (id:=3) mixed 1 qR ?_|refine ZK2 (fun hc=>?_) (fun hc=>?_)|fail)
 all_goals first|(exfalso;omega)|((first|exact Fin.q Tryz.results73 (.cons (.tmp rfl) .nil) [4]|refine Fin.q Tryz.results73 (.cons (.tmp rfl) .nil) [4] (hr:=(.t ?_))|refine Fin.mkv (rs:=_) Tryz.results73 (.cons (.tmp rfl) .nil) [4] (by decide) rfl ?_ ?_ ?_<;>repeat' (first|exact ZE1|refine ZE2 ?_ ?_|refine ZE3 ?_|exact ZE4|fail)))
theorem s8_ (m:Mm) (h0:0<m.w.length) (h2:m.log.length≤1048576):Cio Tryz.prog 31 [.ptr 0 0] [fMm m] (.t (.lst (m.log.map tAc))) [fMm m]:=by
 have c1:=d8_ m h0
 have c3:=VK m.log (by omega)
 refine ZEN Tryz.func31 Tryz.ntmps31 ?_
 repeat' (first|(refine ZAL ?_;first|refine uA ?_|refine uI [0] (c1) ?_|refine uK (c3) ?_)|refine uC ?_|refine ZK2 (fun hc=>?_) (fun hc=>?_)|fail)
 all_goals exact A3 Tryz.results31
theorem AgJ (m:Mm) (h0:0<m.w.length) (a:Int) (h1:0≤a∧a<m.w.length):Cio Tryz.prog 34 [.ptr 0 0,i64 a] [fMm m] (u64 (ld m a)) [fMm m]:=by
 have c1:=d8_ m h0
 have e:(m.w.map tU).length=m.w.length:=fN _
 obtain ⟨y,hy⟩ : ∃y,m.w[a.toNat]? = some y:=⟨_,ZgE (by omega)⟩
 have hld:ld m a=y:=by unfold ld;rw [fQ,hy];rfl
 rw [hld]
 refine ZEN Tryz.func34 Tryz.ntmps34 ?_
 repeat' (first|refine Al ?_|refine uS 8 (fun hb=>?_) (fun hb=>?_)|refine uS 12 (fun hb=>?_) (fun hb=>?_)|refine ZK2 (fun hc=>?_) (fun hc=>?_)|fail)
 all_goals exact A3 Tryz.results34
theorem e_ (m:Mm) (n vl vc:Nat) (hn:m.w.length=n) (h0:0<n) (a:Int) (h1:0≤a∧a<n):Cio Tryz.prog 34 [.ptr 0 0,i64 a] (MV m n vl vc) (u64 (ld m a)) (MV m n vl vc):=by
 have c1:=d9_ m n vl vc hn h0
 have e:(m.w.map tU).length=m.w.length:=fN _
 obtain ⟨y,hy⟩ : ∃y,m.w[a.toNat]? = some y:=⟨_,ZgE (by omega)⟩
 have hld:ld m a=y:=by unfold ld;rw [fQ,hy];rfl
 rw [hld]
 dsimp only [MV,mL,mC,mR] at *
 refine ZEN Tryz.func34 Tryz.ntmps34 ?_
 repeat' (first|refine Bf ?_|refine uS 8 (fun hb=>?_) (fun hb=>?_)|refine uS 12 (fun hb=>?_) (fun hb=>?_)|refine ZK2 (fun hc=>?_) (fun hc=>?_)|fail)
 all_goals exact A3 Tryz.results34
section
variable (c:AB) (s:Mc) (n th vl vc vn vu:Nat)
theorem JH:Cio Tryz.prog 49 [.ptr 0 0] (XV c s n th vl vc vn vu) (bo true) (XV c s n th vl vc vn vu):=by
 refine ZEN Tryz.func49 Tryz.ntmps49 ?_
 repeat' (first|refine A0 ?_|refine uS 5 (fun hb=>?_) (fun hb=>?_)|refine ZK2 (fun hc=>?_) (fun hc=>?_)|fail)
 all_goals exact A3 Tryz.results49
theorem AcC (t:Int) (hl:s.tasks.length=th):Cio Tryz.prog 50 [.ptr 0 0,i64 t] (XV c s n th vl vc vn vu) (bo (decide (0≤t∧t<th))) (XV c s n th vl vc vn vu):=by
 have c1:=JH c s n th vl vc vn vu
 by_cases h:0≤t∧t<th
 ·rw [fW h]
  refine ZEN Tryz.func50 Tryz.ntmps50 ?_
  repeat' (first|refine By ?_|refine uS 7 (fun hb=>?_) (fun hb=>?_)|refine uS 11 (fun hb=>?_) (fun hb=>?_)|refine ZK2 (fun hc=>?_) (fun hc=>?_)|fail)
  all_goals exact A3 Tryz.results50
 ·rw [fZ h]
  by_cases h0:0≤t
  all_goals
   refine ZEN Tryz.func50 Tryz.ntmps50 ?_
   repeat' (first|refine By ?_|refine uS 7 (fun hb=>?_) (fun hb=>?_)|refine uS 11 (fun hb=>?_) (fun hb=>?_)|refine ZK2 (fun hc=>?_) (fun hc=>?_)|fail)
   all_goals first|(exfalso;omega)|((first|exact A6 Tryz.results50|refine A5 Tryz.results50 ?_|refine A8 Tryz.results50 ?_ ?_ ?_<;>repeat' (first|exact ZE1|refine ZE2 ?_ ?_|refine ZE3 ?_|exact ZE4|fail)))
theorem AwC (hn:s.m.w.length=n) (h0:0<n) (h1:n≤1048576) (h2:s.m.log.length≤1048576) (h3:s.m.cnt.length≤64):Cio Tryz.prog 30 [.ptr 0 0] (XV c s n th vl vc vn vu) (.ptr 11 0) (XV c s n th vl vc vn vu++[fMm s.m]):=by
 have c1:=JH c s n th vl vc vn vu
 have c2:=AgD s.m n vl vc hn h0 h1 h2 h3
 dsimp only [XV,MV,mL,mC,mR,List.cons_append,List.nil_append] at *
 refine ZEN Tryz.func30 Tryz.ntmps30 ?_
 repeat' (first|refine Gz ?_|refine ZK2 (fun hc=>?_) (fun hc=>?_)|fail)
 all_goals first|(exfalso;omega)|((first|exact Fin.q Tryz.results30 (.cons (.tmp rfl) .nil) [11]|refine Fin.q Tryz.results30 (.cons (.tmp rfl) .nil) [11] (hr:=(.t ?_))|refine Fin.mkv (rs:=_) Tryz.results30 (.cons (.tmp rfl) .nil) [11] (by decide) rfl ?_ ?_ ?_<;>repeat' (first|exact ZE1|refine ZE2 ?_ ?_|refine ZE3 ?_|exact ZE4|fail)))
end
end
theorem AvU (c:AB) (hs:c.start.length≤1152921504606846976) (t:Int):Cd Tryz.prog 83 [aCf c,i64 t] (fTk { AK with pool:=⟨⟨0,0⟩,poolL c t,[],0⟩}) []:=by
 have c1:=AmB c hs t
 unfold AK
 generalize poolL c t=l at *
 refine ZEN Tryz.func83 Tryz.ntmps83 ?_
 repeat' (first|refine A7 ?_|refine ZK2 (fun hc=>?_) (fun hc=>?_)|fail)
 all_goals first|(exfalso;omega)|(refine fnz 1 ?_;(first|exact Fin.q Tryz.results83 (.cons (.agg rfl rfl ud55 rfl inf55 (us:=[_,_,_,_,_,_,_,_,_,_,_,_,_,_,_,_,_,_,_,_,_,_,_,_,_,_,_,_,_,_,_,_,_,_]) rfl rfl) .nil) []|refine Fin.q Tryz.results83 (.cons (.agg rfl rfl ud55 rfl inf55 (us:=[_,_,_,_,_,_,_,_,_,_,_,_,_,_,_,_,_,_,_,_,_,_,_,_,_,_,_,_,_,_,_,_,_,_]) rfl rfl) .nil) [] (hr:=(.t ?_))|refine Fin.mkv (rs:=_) Tryz.results83 (.cons (.agg rfl rfl ud55 rfl inf55 (us:=[_,_,_,_,_,_,_,_,_,_,_,_,_,_,_,_,_,_,_,_,_,_,_,_,_,_,_,_,_,_,_,_,_,_]) rfl rfl) .nil) [] (by decide) rfl ?_ ?_ ?_<;>repeat' (first|exact ZE1|refine ZE2 ?_ ?_|refine ZE3 ?_|exact ZE4|fail)))
def newTk (c:AB) (q:Nat):AC:={ AK with pool:=⟨⟨0,0⟩,poolL c q,[],0⟩}
def newT (c:AB) (q:Nat):List AC:=(List.range q).map (fun (t:Nat)=>{ AK with pool:=⟨⟨0,0⟩,poolL c t,[],0⟩})
theorem AaR (c:AB) (q:Nat):newT c (q+1)=newT c q++[{ AK with pool:=⟨⟨0,0⟩,poolL c q,[],0⟩}]:=by
 unfold newT;rw [kG,iP];rfl
theorem e2_ (c:AB) (q:Nat):(newT c q).length=q:=by unfold newT;rw [fN,lE]
theorem g3_ {α β:Type} (g:α→β) (n:Nat) (a:α):(List.replicate n a).map g=List.replicate n (g a):=by simp
theorem AwE (c:AB) (f:Okc c) (hs:c.start.length≤1000000000000) (n th:Nat) (hn:n=(totL c).toNat) (hth:(th:Int)=c.threads):Cd Tryz.prog 47 [fCf c] (.tup [.ptr 0 0,i64 0]) 
  [XBv c th 0 0 0 0 0,.box 135 [.sl 2 0 n,.sl 3 0 0,.sl 4 0 0,bo false],mR 0 (setupL c),mL [] 0,mC [] 0,.row 0 55 34 ((newT c th).map cTk),.row 0 145 7 ((List.replicate th WG).map cPu),.row 0 75 13 [],.row 0 63 3 [],.row 0 3 1 ((List.replicate th (0:Int)).map tI),.row 0 3 1 ((List.replicate th (0:Int)).map tI)]:=by
 have hf:=f.facts
 obtain ⟨N,At,hsu⟩:=AqG f.kap
 have hN:N=n:=by rw [hn];exact hsu.nat.symm
 subst hN
 have c1:=AnY c (by omega) N At hsu
 have c2:=RX c.start (by omega)
 have c3:=fun q:Nat=>AvU c (by omega) q
 have hb:=f.big
 rw [g3_ cPu th WG,g3_ tI th 0]
 generalize setupL c=W at *
 dsimp only [XBv,mL,mC,mR,fCf,aCf] at *
 refine ZEN Tryz.func47 Tryz.ntmps47 ?_
 repeat' (first|(refine ZAL ?_;first|refine uA ?_|refine uK (c1) ?_|refine uK (c2) ?_)|(refine ZRG ?_;first|(refine kR 3600 rfl ?_;first|refine R_make rfl rfl 112 _ _ rfl i2_ inf145 rfl (zs:=[(.v (.bool false)),(.v (.bool false)),(.v (.bool false)),(.v (.int .i64 0)),.lst [],(.v (.int .i64 0)),(.v (.int .i64 0))]) rfl rfl rfl th aK aK qB qB bF qh qN ?_|refine R_make rfl rfl 112 _ _ rfl i2_ inf145 rfl (zs:=[(.v (.bool false)),(.v (.bool false)),(.v (.bool false)),(.v (.int .i64 0)),.lst [],(.v (.int .i64 0)),(.v (.int .i64 0))]) rfl rfl rfl _ aK aK qB qB bF qh qN ?_)|(refine kR 720 rfl ?_;first|refine R_make rfl rfl 22 _ _ rfl ud22 inf3 rfl (zs:=[(.v (.int .i64 0))]) rfl rfl rfl th aK aK qB qB bF qh qN ?_|refine R_make rfl rfl 22 _ _ rfl ud22 inf3 rfl (zs:=[(.v (.int .i64 0))]) rfl rfl rfl _ aK aK qB qB bF qh qN ?_)|refine H2 ?_|refine uR ?_)|refine uC ?_|(first|refine AW.drawU (id:=5) mixed 4 qR ?_|refine AW.drawU (id:=9) mixed 4 qR ?_)|refine ZK2 (fun hc=>?_) (fun hc=>?_)|fail)
 all_goals try exact ZE5
 refine AW.wk (Wk.ownB 6 12 rfl rfl 55 34 (.push rfl rfl) rfl) ?_
 refine AW.loopP (fun (q:Nat)=>q≤th) (fun (q:Nat)=>(pu (pu (pu (pu (fun _=>.any) 1 (.ptr 0 0)) 6 (.ptr 6 0)) 34 (i64 c.threads)) 35 (i64 q))) (fun (q:Nat)=>[.box 24 [i64 c.kind,i64 c.threads,i64 c.chans,i64 c.cap,i64 c.nodes,i64 c.retire,i64 c.patience,i64 c.tags,i64 c.seqs,i64 c.gens,.t (.lst (c.start.map tI))],.box 135 [.sl 2 0 N,.nl,.nl,bo false],.row 0 46 1 (W.map tU),.row 0 145 7 (List.replicate th (cPu WG)),.row 0 3 1 (List.replicate th (tI 0)),.row 0 3 1 (List.replicate th (tI 0)),.box 114 [i64 c.kind,i64 c.threads,i64 c.chans,i64 c.cap,i64 c.nodes,i64 c.retire,i64 c.patience,i64 c.tags,i64 c.seqs,i64 c.gens,.t (.lst (c.start.map tI)),.ptr 1 0,.sl 7 q q,.sl 3 0 th,.nl,.nl,.sl 4 0 th,.sl 5 0 th,i64 0],.row q 55 34 ((newT c q).map cTk)]) (fun (q:Nat)=>th-q) (0) ?_ ?_ ?_
 ·exact fX _
 ·exact Wk.cq 8
 ·intro q hq1
  have hql2:=e2_ c q
  have hql:((newT c q).map cTk).length=q:=by rw [fN,e2_]
  by_cases hi:q<th
  ·have c4:=c3 q
   have e5:({ AK with pool:=⟨⟨0,0⟩,poolL c q,[],0⟩}:AC)=newTk c q:=rfl
   have e6:=AaR c q
   rw [e5] at c4 e6
   generalize newTk c q=y at *
   repeat' (first|(refine ZAL ?_;first|(refine kL 707 rfl ?_;first|refine A_store_rp rfl rfl 22 _ _ rfl c1_ (by decide) rfl rfl aI rfl rfl rfl (ZbT rfl) (by first|exact map_set (f:=cTk) (x:=y)|exact qN) qN ?_)|refine uA ?_)|(refine ZRG ?_;first|(refine kR 3600 rfl ?_;first|refine R_make rfl rfl 112 _ _ rfl i2_ inf145 rfl (zs:=[(.v (.bool false)),(.v (.bool false)),(.v (.bool false)),(.v (.int .i64 0)),.lst [],(.v (.int .i64 0)),(.v (.int .i64 0))]) rfl rfl rfl _ aK aK qB qB (by first|exact rep_map (f:=cTk) (x:=y)|exact qN) qh qN ?_)|(refine kR 720 rfl ?_;first|refine R_make rfl rfl 22 _ _ rfl ud22 inf3 rfl (zs:=[(.v (.int .i64 0))]) rfl rfl rfl _ aK aK qB qB (by first|exact rep_map (f:=cTk) (x:=y)|exact qN) qh qN ?_)|(refine kR 2767 rfl ?_;first|refine R_lit rfl rfl 86 1 _ rfl ud86 inf55 (.cons rfl .nil) (els:=[[_,_,_,_,_,_,_,_,_,_,_,_,_,_,_,_,_,_,_,_,_,_,_,_,_,_,_,_,_,_,_,_,_,_]]) rfl (by first|exact (rfl:_=List.map cTk [y])|exact qN) rfl (gB rfl) (ZbT rfl) (ZbT rfl) qh qN ?_)|(refine kR 12 rfl ?_;first|refine R_append rfl rfl _ _ 86 rfl ud86 inf55 rfl rfl rfl cY aA qB qB (by first|exact app_map aE|exact app_one (f:=cTk) (x:=y) aE|exact qN) qN qS ?_)|(refine kR 2755 rfl ?_;first|refine R_store_rp rfl rfl 86 _ _ rfl AqA (by decide) rfl rfl aI rfl rfl rfl (ZbT rfl) (by first|exact map_set (f:=cTk) (x:=y)|exact qN) qN ?_)|refine uR ?_|refine AT (c4) ?_)|refine uC ?_|(first|refine AW.drawU (id:=5) mixed 4 qR ?_|refine AW.drawU (id:=9) mixed 2 qR ?_)|refine ZK2 (fun hc=>?_) (fun hc=>?_)|fail)
   all_goals try exact ZE5
   refine ⟨q+1,by omega,by omega,?_⟩
   rw [e6]
   exact Wk.cq 8
  ·obtain rfl:q=th:=by omega
   repeat' (first|refine uA ?_|(refine ZRG ?_;first|(refine kR 3600 rfl ?_;first|refine R_make rfl rfl 112 _ _ rfl i2_ inf145 rfl (zs:=[(.v (.bool false)),(.v (.bool false)),(.v (.bool false)),(.v (.int .i64 0)),.lst [],(.v (.int .i64 0)),(.v (.int .i64 0))]) rfl rfl rfl _ aK aK qB qB bF qh qN ?_)|(refine kR 720 rfl ?_;first|refine R_make rfl rfl 22 _ _ rfl ud22 inf3 rfl (zs:=[(.v (.int .i64 0))]) rfl rfl rfl _ aK aK qB qB bF qh qN ?_)|refine H2 ?_|refine uR ?_)|refine uC ?_|(first|refine AW.drawU (id:=5) mixed 4 qR ?_|refine AW.drawU (id:=9) mixed 2 qR ?_)|refine ZK2 (fun hc=>?_) (fun hc=>?_)|fail)
   all_goals first|(exfalso;omega)|(refine Fin.wk (Wk.ownB 6 14 rfl rfl 75 13 (.push rfl rfl) rfl) (Fin.wk (Wk.ownB 6 15 rfl rfl 63 3 (.push rfl rfl) rfl) (Fin.wk (Wk.ownB 1 1 rfl rfl 83 7 (.push rfl rfl) rfl) (Fin.wk (Wk.ownB 1 2 rfl rfl 3 1 (.push rfl rfl) rfl) ?_)));(first|exact Fin.q Tryz.results47 (.cons (.tmp rfl) (.cons (.tmp rfl) .nil)) [6,1,2,10,11,7,3,8,9,4,5]|refine Fin.q Tryz.results47 (.cons (.tmp rfl) (.cons (.tmp rfl) .nil)) [6,1,2,10,11,7,3,8,9,4,5] (hr:=(.tupL (.cons (.t ?_) (.cons (.t ?_) .nil))))|refine Fin.mkv (rs:=_) Tryz.results47 (.cons (.tmp rfl) (.cons (.tmp rfl) .nil)) [6,1,2,10,11,7,3,8,9,4,5] (by decide) rfl ?_ ?_ ?_<;>repeat' (first|exact ZE1|refine ZE2 ?_ ?_|refine ZE3 ?_|exact ZE4|fail)))
section
theorem AdW (l:List JP) (h:l.length≤1172812402961):Cd Tryz.prog 70 [.ln (l.map tNt)] (.sl 0 0 l.length) [.row 0 75 13 (l.map tNt)]:=by
 refine ZEN Tryz.func70 Tryz.ntmps70 ?_
 repeat' (first|(refine ZAL ?_;first|(refine kL 2249 rfl ?_;first|refine EF rfl rfl 70 _ _ rfl ud70 rfl (fun b hb=>?_))|(refine kL 12 rfl ?_;first|refine CN rfl rfl _ _ 70 rfl ud70 inf75 rfl rfl rfl cY aA qB qB (by first|exact app_map aE|exact app_one (f:=tNt) (x:=_) aE|exact qN) qN qS ?_|refine BD rfl rfl _ _ 70 rfl ud70 inf75 rfl rfl aA qB qB (by first|exact (rfl:_=List.map tNt [_])|exact qN) (.push qL qN) qS ?_|refine A_append_nlsub rfl rfl _ _ 70 rfl ud70 inf75 rfl rfl rfl rfl aJ qB qB iU.symm (.push qL qN) ?_)|refine uA ?_)|refine uC ?_|refine ZK2 (fun hc=>?_) (fun hc=>?_)|fail)
 ·have hl:l=[]:=by simpa using hb hc
  subst hl
  refine Fin.wk (Wk.own 2 rfl 75 13 (.push rfl rfl)) ?_
  (first|exact Ab Tryz.results70|refine Aj Tryz.results70 ?_|refine Ak Tryz.results70 ?_ ?_ ?_<;>repeat' (first|exact ZE1|refine ZE2 ?_ ?_|refine ZE3 ?_|exact ZE4|fail))
 ·(first|exact Ab Tryz.results70|refine Aj Tryz.results70 ?_|refine Ak Tryz.results70 ?_ ?_ ?_<;>repeat' (first|exact ZE1|refine ZE2 ?_ ?_|refine ZE3 ?_|exact ZE4|fail))
theorem AdX (l:List CP) (h:l.length≤3518437208883):Cd Tryz.prog 57 [.ln (l.map tTn)] (.sl 0 0 l.length) [.row 0 63 3 (l.map tTn)]:=by
 refine ZEN Tryz.func57 Tryz.ntmps57 ?_
 repeat' (first|(refine ZAL ?_;first|(refine kL 1353 rfl ?_;first|refine EF rfl rfl 42 _ _ rfl ud42 rfl (fun b hb=>?_))|(refine kL 12 rfl ?_;first|refine CN rfl rfl _ _ 42 rfl ud42 inf63 rfl rfl rfl cY aA qB qB (by first|exact app_map aE|exact app_one (f:=tTn) (x:=_) aE|exact qN) qN qS ?_|refine BD rfl rfl _ _ 42 rfl ud42 inf63 rfl rfl aA qB qB (by first|exact (rfl:_=List.map tTn [_])|exact qN) (.push qL qN) qS ?_|refine A_append_nlsub rfl rfl _ _ 42 rfl ud42 inf63 rfl rfl rfl rfl aJ qB qB iU.symm (.push qL qN) ?_)|refine uA ?_)|refine uC ?_|refine ZK2 (fun hc=>?_) (fun hc=>?_)|fail)
 ·have hl:l=[]:=by simpa using hb hc
  subst hl
  refine Fin.wk (Wk.own 2 rfl 63 3 (.push rfl rfl)) ?_
  (first|exact Ab Tryz.results57|refine Aj Tryz.results57 ?_|refine Ak Tryz.results57 ?_ ?_ ?_<;>repeat' (first|exact ZE1|refine ZE2 ?_ ?_|refine ZE3 ?_|exact ZE4|fail))
 ·(first|exact Ab Tryz.results57|refine Aj Tryz.results57 ?_|refine Ak Tryz.results57 ?_ ?_ ?_<;>repeat' (first|exact ZE1|refine ZE2 ?_ ?_|refine ZE3 ?_|exact ZE4|fail))
theorem AvQ:tNt=cNt:=by funext x;rfl
theorem AvR:tTn=cTn:=by funext x;rfl
theorem PB {α:Type} {l:List α} {n:Nat} {a:α} (h:l[n]? = some a):l.set n a=l:=by
 refine iO fun i=>?_
 by_cases e:n=i
 ·subst e;rw [jF (iJ.1 h).1,h]
 ·rw [jJ e]
theorem AgI (l:List DOp) (h:l.length≤1000000000) (hq : ∀o∈l,o.req.cases.length≤1000):Cd Tryz.prog 58 [.ln (l.map tOp)] (.t (.lst (l.map tOp))) []:=by
 have e1:(l.map tOp).length=l.length:=fN _
 have c1:=RZ l (by omega)
 refine ZEN Tryz.func58 Tryz.ntmps58 ?_
 repeat' (first|refine A7 ?_|refine ZK2 (fun hc=>?_) (fun hc=>?_)|fail)
 all_goals try exact ZE5
 refine AW.loopP (fun (q:Nat)=>q≤l.length) (fun (q:Nat)=>(pu (pu (pu (fun _=>.any) 3 (.sl 0 0 l.length)) 8 (i64 l.length)) 9 (i64 q))) (fun (q:Nat)=>[.row 0 65 8 (l.map tOp)]) (fun (q:Nat)=>l.length-q) (0) ?_ ?_ ?_
 ·exact fX _
 ·exact Wk.cq 1
 ·intro q hq1
  by_cases hi:q<l.length
  ·obtain ⟨x,hx⟩ : ∃x,l[q]? = some x:=⟨_,ZgE hi⟩
   have hqx:=hq x (fO hx)
   obtain ⟨a,b,d,⟨k,g,v,df,cs⟩⟩:=x
   dsimp only at hqx
   have c2:=EJ ⟨k,g,v,df,cs⟩ dS
   dsimp only [aRq,fRq] at c2
   repeat' (first|(refine ZAL ?_;first|(refine kL 1027 rfl ?_;first|refine A_store_rp rfl rfl 32 _ _ rfl inf32 (by decide) rfl rfl bC rfl rfl rfl (ZbT rfl) (by first|exact map_set (f:=tOp) (x:=⟨a,b,d,⟨k,g,v,df,cs⟩⟩)|exact qN) qN ?_)|refine uA ?_|refine uK (c2) ?_)|refine uC ?_|refine ZK2 (fun hc=>?_) (fun hc=>?_)|fail)
   all_goals try exact ZE5
   refine ⟨q+1,by omega,by omega,?_⟩
   rw [PB hx]
   exact Wk.cq 1
  ·obtain rfl:q=l.length:=by omega
   repeat' (first|((with_reducible refine kAW ?_);refine ufR (id:=7) 0 3 ?_)|refine uA ?_|refine uC ?_|refine ZK2 (fun hc=>?_) (fun hc=>?_)|fail)
   all_goals exact A3 Tryz.results58
theorem AaN (x:AC) (h1:x.req.cases.length≤1000) (h2:x.buf.length≤1000000∧x.nxt.length≤1000000∧x.args.length≤1000000∧x.seen.length≤1000000) (h3:x.found.length≤10000000) (h4 : ∀o∈x.found,o.req.cases.length≤1000) (h5:x.pool.free.length+x.pool.old.length≤10000000) :
  Cd Tryz.prog 59 [fTk x] (fTk { x with pool:=leaveP x.pool }) []:=by
 have c1:=EJ x.req (by omega)
 have c2:=GD x.buf (by omega)
 have c3:=GD x.nxt (by omega)
 have c4:=GD x.args (by omega)
 have c5:=GD x.seen (by omega)
 have c6:=AgI x.found (by omega) h4
 have c7:=c8_ x.pool (by omega)
 generalize leaveP x.pool=lp at *
 refine ZEN Tryz.func59 Tryz.ntmps59 ?_
 repeat' (first|(refine ZAL ?_;first|refine uA ?_|refine uK (c1) ?_|refine uK (c6) ?_|refine uK (c7) ?_)|(refine ZRG ?_;first|(refine kR 3082 rfl ?_;first|(first|refine uQ (c2) 0 ?_|refine uQ (c2) 1 ?_|refine uQ (c2) 2 ?_|refine uQ (c2) 3 ?_|refine uQ (c2) 4 ?_|refine uQ (c2) 5 ?_|refine uQ (c2) 6 ?_|refine uQ (c2) 7 ?_|refine uQ (c2) 8 ?_|refine uQ (c2) 9 ?_|refine uQ (c2) 10 ?_|refine uQ (c2) 11 ?_|refine uQ (c2) 12 ?_|refine uQ (c2) 13 ?_)|(first|refine uQ (c3) 0 ?_|refine uQ (c3) 1 ?_|refine uQ (c3) 2 ?_|refine uQ (c3) 3 ?_|refine uQ (c3) 4 ?_|refine uQ (c3) 5 ?_|refine uQ (c3) 6 ?_|refine uQ (c3) 7 ?_|refine uQ (c3) 8 ?_|refine uQ (c3) 9 ?_|refine uQ (c3) 10 ?_|refine uQ (c3) 11 ?_|refine uQ (c3) 12 ?_|refine uQ (c3) 13 ?_)|(first|refine uQ (c4) 0 ?_|refine uQ (c4) 1 ?_|refine uQ (c4) 2 ?_|refine uQ (c4) 3 ?_|refine uQ (c4) 4 ?_|refine uQ (c4) 5 ?_|refine uQ (c4) 6 ?_|refine uQ (c4) 7 ?_|refine uQ (c4) 8 ?_|refine uQ (c4) 9 ?_|refine uQ (c4) 10 ?_|refine uQ (c4) 11 ?_|refine uQ (c4) 12 ?_|refine uQ (c4) 13 ?_)|(first|refine uQ (c5) 0 ?_|refine uQ (c5) 1 ?_|refine uQ (c5) 2 ?_|refine uQ (c5) 3 ?_|refine uQ (c5) 4 ?_|refine uQ (c5) 5 ?_|refine uQ (c5) 6 ?_|refine uQ (c5) 7 ?_|refine uQ (c5) 8 ?_|refine uQ (c5) 9 ?_|refine uQ (c5) 10 ?_|refine uQ (c5) 11 ?_|refine uQ (c5) 12 ?_|refine uQ (c5) 13 ?_))|refine uR ?_)|refine uC ?_|refine AW.drawU (id:=2) mixed 0 qR ?_|refine ZK2 (fun hc=>?_) (fun hc=>?_)|fail)
 all_goals first|(exfalso;omega)|((first|exact H4 Tryz.results59|refine H5 Tryz.results59 ?_|refine H6 Tryz.results59 ?_ ?_ ?_<;>repeat' (first|exact ZE1|refine ZE2 ?_ ?_|refine ZE3 ?_|exact ZE4|fail)))
section
variable (c:AB) (s:Mc) (n th vl vc vn vu:Nat)
theorem ApC (t:Nat) (x:AC) (hx:s.tasks[t]? = some x) (hl:s.tasks.length=th) (h1:x.req.cases.length≤1000) (h2:x.buf.length≤1000000∧x.nxt.length≤1000000∧x.args.length≤1000000∧x.seen.length≤1000000) (h3:x.found.length≤10000000) (h4 : ∀o∈x.found,o.req.cases.length≤1000) (h5:x.pool.free.length+x.pool.old.length≤10000000) :
  Cio Tryz.prog 17 [.ptr 0 0,i64 t] (XV c s n th vl vc vn vu) (fTk x) (XV c s n th vl vc vn vu):=by
 have hlt:=get_lt hx
 have c1:=AcC c s n th vl vc vn vu t hl
 rw [fW (by omega)] at c1
 have c2:=AaN x h1 h2 h3 h4 h5
 have e1:(s.tasks.map cTk).length=s.tasks.length:=fN _
 dsimp only [XV,mL,mC,mR] at *
 refine ZEN Tryz.func17 Tryz.ntmps17 ?_
 repeat' (first|refine Dg ?_|refine ZK2 (fun hc=>?_) (fun hc=>?_)|fail)
 all_goals first|(exfalso;omega)|((first|exact H4 Tryz.results17|refine H5 Tryz.results17 ?_|refine H6 Tryz.results17 ?_ ?_ ?_<;>repeat' (first|exact ZE1|refine ZE2 ?_ ?_|refine ZE3 ?_|exact ZE4|fail)))
theorem AjM (hl:s.notes.length≤1000000) (hq : ∀x∈s.notes,x.req.cases.length≤1000):Cio Tryz.prog 26 [.ptr 0 0] (XV c s n th vl vc vn vu) (.t (.lst (s.notes.map cNt))) (XV c s n th vl vc vn vu):=by
 have c1:=JH c s n th vl vc vn vu
 have c2:=AdW s.notes (by omega)
 rw [AvQ] at c2
 have e1:(s.notes.map cNt).length=s.notes.length:=fN _
 dsimp only [XV,mL,mC,mR] at *
 refine ZEN Tryz.func26 Tryz.ntmps26 ?_
 repeat' (first|refine Dg ?_|refine ZK2 (fun hc=>?_) (fun hc=>?_)|fail)
 all_goals try exact ZE5
 refine AW.loopP (fun (q:Nat)=>q≤s.notes.length) (fun (q:Nat)=>(pu (pu (pu (fun _=>.any) 3 (.sl 11 0 s.notes.length)) 14 (i64 s.notes.length)) 15 (i64 q))) (fun (q:Nat)=>[.box 114 [i64 c.kind,i64 c.threads,i64 c.chans,i64 c.cap,i64 c.nodes,i64 c.retire,i64 c.patience,i64 c.tags,i64 c.seqs,i64 c.gens,.t (.lst (c.start.map tI)),.ptr 1 0,.sl 5 0 th,.sl 6 0 th,.sl 7 vn s.notes.length,.sl 8 vu s.turns.length,.sl 9 0 th,.sl 10 0 th,i64 s.time],.box 135 [.sl 2 0 n,.sl 3 vl s.m.log.length,.sl 4 vc s.m.cnt.length,bo true],.row 0 46 1 (s.m.w.map tU),.row vl 83 7 (s.m.log.map tAc),.row vc 3 1 (s.m.cnt.map tI),.row 0 55 34 (s.tasks.map cTk),.row 0 145 7 (s.pumps.map cPu),.row vn 75 13 (s.notes.map cNt),.row vu 63 3 (s.turns.map cTn),.row 0 3 1 (s.steps.map tI),.row 0 3 1 (s.most.map tI),.row 0 75 13 (s.notes.map cNt)]) (fun (q:Nat)=>s.notes.length-q) (0) ?_ ?_ ?_
 ·exact fX _
 ·exact Wk.cq 12
 ·intro q hq1
  by_cases hi:q<s.notes.length
  ·obtain ⟨x,hx⟩ : ∃x,s.notes[q]? = some x:=⟨_,ZgE hi⟩
   have hqx:=hq x (fO hx)
   have c3:=EJ x.req (by omega)
   repeat' (first|(refine ZAL ?_;first|(refine kL 1027 rfl ?_;first|refine A_store_rp rfl rfl 32 _ _ rfl inf32 (by decide) rfl rfl bC rfl rfl rfl (ZbT rfl) (by first|exact map_set (f:=cNt) (x:=x)|exact qN) qN ?_)|refine uA ?_|refine uK (c3) ?_)|refine uC ?_|refine ZK2 (fun hc=>?_) (fun hc=>?_)|fail)
   all_goals try exact ZE5
   refine ⟨q+1,by omega,by omega,?_⟩
   rw [PB hx]
   exact Wk.cq 12
  ·obtain rfl:q=s.notes.length:=by omega
   repeat' (first|((with_reducible refine kAW ?_);refine ufR (id:=9) 11 3 ?_)|refine uA ?_|refine uC ?_|refine ZK2 (fun hc=>?_) (fun hc=>?_)|fail)
   all_goals exact A3 Tryz.results26
theorem AjQ (hl:s.turns.length≤1000000) (hq : ∀x∈s.turns,x.ops.length≤1000000 ∧ ∀o∈x.ops,o.req.cases.length≤1000):Cio Tryz.prog 16 [.ptr 0 0] (XV c s n th vl vc vn vu) (.t (.lst (s.turns.map cTn))) (XV c s n th vl vc vn vu):=by
 have c1:=JH c s n th vl vc vn vu
 have c2:=AdX s.turns (by omega)
 rw [AvR] at c2
 have e1:(s.turns.map cTn).length=s.turns.length:=fN _
 dsimp only [XV,mL,mC,mR] at *
 refine ZEN Tryz.func16 Tryz.ntmps16 ?_
 repeat' (first|refine Dg ?_|refine ZK2 (fun hc=>?_) (fun hc=>?_)|fail)
 all_goals try exact ZE5
 refine AW.loopP (fun (q:Nat)=>q≤s.turns.length) (fun (q:Nat)=>(pu (pu (pu (fun _=>.any) 3 (.sl 11 0 s.turns.length)) 14 (i64 s.turns.length)) 15 (i64 q))) (fun (q:Nat)=>[.box 114 [i64 c.kind,i64 c.threads,i64 c.chans,i64 c.cap,i64 c.nodes,i64 c.retire,i64 c.patience,i64 c.tags,i64 c.seqs,i64 c.gens,.t (.lst (c.start.map tI)),.ptr 1 0,.sl 5 0 th,.sl 6 0 th,.sl 7 vn s.notes.length,.sl 8 vu s.turns.length,.sl 9 0 th,.sl 10 0 th,i64 s.time],.box 135 [.sl 2 0 n,.sl 3 vl s.m.log.length,.sl 4 vc s.m.cnt.length,bo true],.row 0 46 1 (s.m.w.map tU),.row vl 83 7 (s.m.log.map tAc),.row vc 3 1 (s.m.cnt.map tI),.row 0 55 34 (s.tasks.map cTk),.row 0 145 7 (s.pumps.map cPu),.row vn 75 13 (s.notes.map cNt),.row vu 63 3 (s.turns.map cTn),.row 0 3 1 (s.steps.map tI),.row 0 3 1 (s.most.map tI),.row 0 63 3 (s.turns.map cTn)]) (fun (q:Nat)=>s.turns.length-q) (0) ?_ ?_ ?_
 ·exact fX _
 ·exact Wk.cq 12
 ·intro q hq1
  by_cases hi:q<s.turns.length
  ·obtain ⟨x,hx⟩ : ∃x,s.turns[q]? = some x:=⟨_,ZgE hi⟩
   have hqx:=hq x (fO hx)
   have c3:=AgI x.ops (by omega) hqx.2
   repeat' (first|(refine ZAL ?_;first|(refine kL 1507 rfl ?_;first|refine A_store_rp rfl rfl 47 _ _ rfl ApY (by decide) rfl rfl bC rfl rfl rfl (ZbT rfl) (by first|exact map_set (f:=cTn) (x:=x)|exact qN) qN ?_)|refine uA ?_|refine uK (c3) ?_)|refine uC ?_|refine ZK2 (fun hc=>?_) (fun hc=>?_)|fail)
   all_goals try exact ZE5
   refine ⟨q+1,by omega,by omega,?_⟩
   rw [PB hx]
   exact Wk.cq 12
  ·obtain rfl:q=s.turns.length:=by omega
   repeat' (first|((with_reducible refine kAW ?_);refine ufR (id:=9) 11 3 ?_)|refine uA ?_|refine uC ?_|refine ZK2 (fun hc=>?_) (fun hc=>?_)|fail)
   all_goals exact A3 Tryz.results16
end
end
end
end Go.Proofs.YtccefppppedgkaaGreat
