/- Joined: XTMachN, XTObsA, XTMachF. -/
import Derived.Test.YtccefppppedgkaaGreatKGzn
import Derived.Test.YtccefppppedgkaaGreatKGzo
set_option linter.unusedVariables false
set_option linter.unusedSimpArgs false
set_option linter.unnecessarySimpa false
set_option maxRecDepth 100000
set_option maxHeartbeats 64000000
namespace Go.Proofs.YtccefppppedgkaaGreat
open Go.RowKit
theorem KC {c:AB} {t:Nat} {x:AC} {m:Mm} (h:AQ c x):(stepT c t x m).note=0∨(stepT c t x m).note=2∨(stepT c t x m).note=3:=by
 obtain ⟨q,p,hk2, -⟩:=BE h
 rw [AE p]
 have ho : ∀y m',(ownedT c y m').note=0∨(ownedT c y m').note=2∨(ownedT c y m').note=3:=fun y m'=>by
  rcases JX c y m' with ⟨_,e⟩|⟨_,_,e⟩|⟨_,_,e⟩
  ·rw [e];exact .inr (.inr rfl)
  ·rw [e];exact .inl rfl
  ·rw [e];exact .inl rfl
 have hz:=AS hk2
 repeat' (rcases hz with rfl|hz)
 all_goals first
  |exact .inl rfl
  |(change (s15 c t x m).note=0∨(s15 c t x m).note=2∨(s15 c t x m).note=3;unfold s15;split<;>exact .inl rfl)
  |(change (s22 c t x m).note=0∨(s22 c t x m).note=2∨(s22 c t x m).note=3;unfold s22;dsimp only;split;exact .inl rfl;exact ho _ _)
  |(change (s23 c t x m).note=0∨(s23 c t x m).note=2∨(s23 c t x m).note=3;unfold s23;dsimp only;split;exact ho _ _;exact .inl rfl)
  |(change (s28 c t x m).note=0∨(s28 c t x m).note=2∨(s28 c t x m).note=3;unfold s28;split;exact .inr (.inl rfl);exact .inr (.inr rfl))
  |(change (s29 c t x m).note=0∨(s29 c t x m).note=2∨(s29 c t x m).note=3;unfold s29;dsimp only;split;exact .inr (.inr rfl);exact .inl rfl)
section
attribute [local irreducible] AL AW RG Fin C Cd Cio AI AF AN
section
abbrev XBv (c:AB) (th ln vn lu vu:Nat) (tm:Int):Ob:=.box 114 [i64 c.kind,i64 c.threads,i64 c.chans,i64 c.cap,i64 c.nodes,i64 c.retire,i64 c.patience,i64 c.tags,i64 c.seqs,i64 c.gens,.t (.lst (c.start.map tI)),.ptr 1 0,.sl 5 0 th,.sl 6 0 th,.sl 7 vn ln,.sl 8 vu lu,.sl 9 0 th,.sl 10 0 th,i64 tm]
abbrev XV (c:AB) (s:Mc) (n th vl vc vn vu:Nat):List Ob :=
  [XBv c th s.notes.length vn s.turns.length vu s.time,.box 135 [.sl 2 0 n,.sl 3 vl s.m.log.length,.sl 4 vc s.m.cnt.length,bo true],mR 0 s.m.w,mL s.m.log vl,mC s.m.cnt vc,
   .row 0 55 34 (s.tasks.map cTk),.row 0 145 7 (s.pumps.map cPu),.row vn 75 13 (s.notes.map cNt),.row vu 63 3 (s.turns.map cTn),.row 0 3 1 (s.steps.map tI),.row 0 3 1 (s.most.map tI)]
abbrev fMm (m:Mm):Ob:=.box 135 [fU m.w,.t (.lst (m.log.map tAc)),.t (.lst (m.cnt.map tI)),bo true]
abbrev MV (m:Mm) (n vl vc:Nat):List Ob:=[.box 135 [.sl 1 0 n,.sl 2 vl m.log.length,.sl 3 vc m.cnt.length,bo true],mR 0 m.w,mL m.log vl,mC m.cnt vc]
theorem AbW (l:List HR) (h:l.length≤2513169434916):Cd Tryz.prog 75 [.ln (l.map tAc)] (.sl 0 0 l.length) [.row 0 83 7 (l.map tAc)]:=by
 refine ZEN Tryz.func75 Tryz.ntmps75 ?_
 repeat' (first|(refine ZAL ?_;first|(refine kL 2505 rfl ?_;first|refine DU rfl rfl 78 _ _ rfl e6_ rfl (fun b hb=>?_))|(refine kL 12 rfl ?_;first|refine DD rfl rfl _ _ 78 rfl e6_ IV rfl rfl rfl cY aA qB qB (by first|exact app_map aG|exact app_one (f:=tAc) (x:=_) aG|exact qN) qN qS ?_|refine BL rfl rfl _ _ 78 rfl e6_ IV rfl rfl aA qB qB (by first|exact (rfl:_=List.map tAc [_])|exact qN) (.push qL qN) qS ?_|refine A_append_nlsub rfl rfl _ _ 78 rfl e6_ IV rfl rfl rfl rfl aK qB qB iW.symm (.push qL qN) ?_)|refine uA ?_)|refine uC ?_|refine ZK2 (fun hc=>?_) (fun hc=>?_)|fail)
 ·have hl:l=[]:=by simpa using hb hc
  subst hl
  refine Fin.wk (Wk.own 2 rfl 83 7 (.push rfl rfl)) ?_
  (first|exact Ab Tryz.results75|refine Aj Tryz.results75 ?_|refine Ak Tryz.results75 ?_ ?_ ?_<;>repeat' (first|exact ZE1|refine ZE2 ?_ ?_|refine ZE3 ?_|exact ZE4|fail))
 ·(first|exact Ab Tryz.results75|refine Aj Tryz.results75 ?_|refine Ak Tryz.results75 ?_ ?_ ?_<;>repeat' (first|exact ZE1|refine ZE2 ?_ ?_|refine ZE3 ?_|exact ZE4|fail))
theorem TZ (l:List HR) (h:l.length≤1000000000000):Cd Tryz.prog 75 [.ln (l.map tAc)] (.t (.lst (l.map tAc))) []:=by
 have h0:=AbW l (by omega)
 have h0':=Cd.frz1 h0 0 rfl aB rfl;exact Cd.drop h0' rfl
theorem YS (l:List Int) (h:l.length≤1000000000000):Cd Tryz.prog 82 [.ln (l.map tI)] (.t (.lst (l.map tI))) []:=by
 have h0:=AR l (by omega)
 have h0':=Cd.frz1 h0 0 rfl aB rfl;exact Cd.drop h0' rfl
theorem AeF (m:Mm) (n vl vc:Nat) (hn:m.w.length=n) (h0:0<n):Cio Tryz.prog 74 [.ptr 0 0] (MV m n vl vc) (bo true) (MV m n vl vc):=by
 refine Bt ?_
 repeat' (first|refine A0 ?_|refine uS 5 (fun hb=>?_) (fun hb=>?_)|refine ZK2 (fun hc=>?_) (fun hc=>?_)|fail)
 all_goals exact A4 Tryz.results74
theorem AeE (m:Mm) (h0:0<m.w.length):Cio Tryz.prog 74 [.ptr 0 0] [fMm m] (bo true) [fMm m]:=by
 have e:(m.w.map tU).length=m.w.length:=fH _
 refine Bt ?_
 repeat' (first|refine A0 ?_|refine uS 5 (fun hb=>?_) (fun hb=>?_)|refine ZK2 (fun hc=>?_) (fun hc=>?_)|fail)
 all_goals exact A4 Tryz.results74
theorem AdZ (m:Mm) (n vl vc:Nat) (hn:m.w.length=n) (h0:0<n) (h1:n≤1048576) (h2:m.log.length≤1048576) (h3:m.cnt.length≤64):Cio Tryz.prog 73 [.ptr 0 0] (MV m n vl vc) (.ptr 4 0) (MV m n vl vc++[fMm m]):=by
 have c1:=AeF m n vl vc hn h0
 have c2:=FR m.w (by omega)
 have c3:=TZ m.log (by omega)
 have c4:=YS m.cnt (by omega)
 have e1:(m.w.map tU).length=m.w.length:=fH _
 have e2:(m.log.map tAc).length=m.log.length:=fH _
 have e3:(m.cnt.map tI).length=m.cnt.length:=fH _
 dsimp only [MV,mL,mC,mR,List.cons_append,List.nil_append] at *
 refine ZEN Tryz.func73 Tryz.ntmps73 ?_
 repeat' (first|(refine ZAL ?_;first|refine uA ?_|refine uI [0,1,2,3] (c1) ?_)|(refine ZRG ?_;first|refine uR ?_|refine AZ (c2) ?_|refine AZ (c3) ?_|refine AZ (c4) ?_)|refine uC ?_|refine AW.drawU (id:=3) mixed 1 qR ?_|refine ZK2 (fun hc=>?_) (fun hc=>?_)|fail)
 all_goals first|(exfalso;omega)|((first|exact Fin.q Tryz.results73 (.cons (.tmp rfl) .nil) [4]|refine Fin.q Tryz.results73 (.cons (.tmp rfl) .nil) [4] (hr:=(.t ?_))|refine Fin.mkv (rs:=_) Tryz.results73 (.cons (.tmp rfl) .nil) [4] (by decide) rfl ?_ ?_ ?_<;>repeat' (first|exact ZE1|refine ZE2 ?_ ?_|refine ZE3 ?_|exact ZE4|fail)))
theorem AkD (m:Mm) (h0:0<m.w.length) (h2:m.log.length≤1048576):Cio Tryz.prog 31 [.ptr 0 0] [fMm m] (.t (.lst (m.log.map tAc))) [fMm m]:=by
 have c1:=AeE m h0
 have c3:=TZ m.log (by omega)
 refine ZEN Tryz.func31 Tryz.ntmps31 ?_
 repeat' (first|(refine ZAL ?_;first|refine uA ?_|refine uI [0] (c1) ?_|refine uK (c3) ?_)|refine uC ?_|refine ZK2 (fun hc=>?_) (fun hc=>?_)|fail)
 all_goals exact A4 Tryz.results31
section
variable (c:AB) (s:Mc) (n th vl vc vn vu:Nat)
theorem NC:Cio Tryz.prog 49 [.ptr 0 0] (XV c s n th vl vc vn vu) (bo true) (XV c s n th vl vc vn vu):=by
 refine ZEN Tryz.func49 Tryz.ntmps49 ?_
 repeat' (first|refine A0 ?_|refine uS 5 (fun hb=>?_) (fun hb=>?_)|refine ZK2 (fun hc=>?_) (fun hc=>?_)|fail)
 all_goals exact A4 Tryz.results49
theorem AaE (t:Int) (hl:s.tasks.length=th):Cio Tryz.prog 50 [.ptr 0 0,i64 t] (XV c s n th vl vc vn vu) (bo (decide (0≤t∧t<th))) (XV c s n th vl vc vn vu):=by
 have c1:=NC c s n th vl vc vn vu
 by_cases h:0≤t∧t<th
 ·rw [fR h]
  refine ZEN Tryz.func50 Tryz.ntmps50 ?_
  repeat' (first|refine C9 ?_|refine uS 7 (fun hb=>?_) (fun hb=>?_)|refine uS 11 (fun hb=>?_) (fun hb=>?_)|refine ZK2 (fun hc=>?_) (fun hc=>?_)|fail)
  all_goals exact A4 Tryz.results50
 ·rw [fP h]
  by_cases h0:0≤t
  all_goals
   refine ZEN Tryz.func50 Tryz.ntmps50 ?_
   repeat' (first|refine C9 ?_|refine uS 7 (fun hb=>?_) (fun hb=>?_)|refine uS 11 (fun hb=>?_) (fun hb=>?_)|refine ZK2 (fun hc=>?_) (fun hc=>?_)|fail)
   all_goals first|(exfalso;omega)|((first|exact A5 Tryz.results50|refine A7 Tryz.results50 ?_|refine A8 Tryz.results50 ?_ ?_ ?_<;>repeat' (first|exact ZE1|refine ZE2 ?_ ?_|refine ZE3 ?_|exact ZE4|fail)))
theorem AtO (hn:s.m.w.length=n) (h0:0<n) (h1:n≤1048576) (h2:s.m.log.length≤1048576) (h3:s.m.cnt.length≤64):Cio Tryz.prog 30 [.ptr 0 0] (XV c s n th vl vc vn vu) (.ptr 11 0) (XV c s n th vl vc vn vu++[fMm s.m]):=by
 have c1:=NC c s n th vl vc vn vu
 have c2:=AdZ s.m n vl vc hn h0 h1 h2 h3
 dsimp only [XV,MV,mL,mC,mR,List.cons_append,List.nil_append] at *
 refine ZEN Tryz.func30 Tryz.ntmps30 ?_
 repeat' (first|refine Gl ?_|refine ZK2 (fun hc=>?_) (fun hc=>?_)|fail)
 all_goals first|(exfalso;omega)|((first|exact Fin.q Tryz.results30 (.cons (.tmp rfl) .nil) [11]|refine Fin.q Tryz.results30 (.cons (.tmp rfl) .nil) [11] (hr:=(.t ?_))|refine Fin.mkv (rs:=_) Tryz.results30 (.cons (.tmp rfl) .nil) [11] (by decide) rfl ?_ ?_ ?_<;>repeat' (first|exact ZE1|refine ZE2 ?_ ?_|refine ZE3 ?_|exact ZE4|fail)))
end
end
theorem AtF (c:AB) (hs:c.start.length≤1152921504606846976) (t:Int):Cd Tryz.prog 83 [aCf c,i64 t] (fTk { AK with pool:=⟨⟨0,0⟩,poolL c t,[],0⟩}) []:=by
 have c1:=AjW c hs t
 unfold AK
 generalize poolL c t=l at *
 refine ZEN Tryz.func83 Tryz.ntmps83 ?_
 repeat' (first|refine A6 ?_|refine ZK2 (fun hc=>?_) (fun hc=>?_)|fail)
 all_goals first|(exfalso;omega)|(refine fnz 1 ?_;(first|exact Fin.q Tryz.results83 (.cons (.agg rfl rfl ud55 rfl inf55 (us:=[_,_,_,_,_,_,_,_,_,_,_,_,_,_,_,_,_,_,_,_,_,_,_,_,_,_,_,_,_,_,_,_,_,_]) rfl rfl) .nil) []|refine Fin.q Tryz.results83 (.cons (.agg rfl rfl ud55 rfl inf55 (us:=[_,_,_,_,_,_,_,_,_,_,_,_,_,_,_,_,_,_,_,_,_,_,_,_,_,_,_,_,_,_,_,_,_,_]) rfl rfl) .nil) [] (hr:=(.t ?_))|refine Fin.mkv (rs:=_) Tryz.results83 (.cons (.agg rfl rfl ud55 rfl inf55 (us:=[_,_,_,_,_,_,_,_,_,_,_,_,_,_,_,_,_,_,_,_,_,_,_,_,_,_,_,_,_,_,_,_,_,_]) rfl rfl) .nil) [] (by decide) rfl ?_ ?_ ?_<;>repeat' (first|exact ZE1|refine ZE2 ?_ ?_|refine ZE3 ?_|exact ZE4|fail)))
def newTk (c:AB) (q:Nat):AC:={ AK with pool:=⟨⟨0,0⟩,poolL c q,[],0⟩}
def newT (c:AB) (q:Nat):List AC:=(List.range q).map (fun (t:Nat)=>{ AK with pool:=⟨⟨0,0⟩,poolL c t,[],0⟩})
theorem w7_ (c:AB) (q:Nat):newT c (q+1)=newT c q++[{ AK with pool:=⟨⟨0,0⟩,poolL c q,[],0⟩}]:=by
 unfold newT;rw [kD,iV];rfl
theorem a6_ (c:AB) (q:Nat):(newT c q).length=q:=by unfold newT;rw [fH,lN]
theorem c6_ {α β:Type} (g:α→β) (n:Nat) (a:α):(List.replicate n a).map g=List.replicate n (g a):=by simp
theorem AtQ (c:AB) (f:Okc c) (hs:c.start.length≤1000000000000) (n th:Nat) (hn:n=(totL c).toNat) (hth:(th:Int)=c.threads):Cd Tryz.prog 47 [fCf c] (.tup [.ptr 0 0,i64 0]) 
  [XBv c th 0 0 0 0 0,.box 135 [.sl 2 0 n,.sl 3 0 0,.sl 4 0 0,bo false],mR 0 (setupL c),mL [] 0,mC [] 0,.row 0 55 34 ((newT c th).map cTk),.row 0 145 7 ((List.replicate th UT).map cPu),.row 0 75 13 [],.row 0 63 3 [],.row 0 3 1 ((List.replicate th (0:Int)).map tI),.row 0 3 1 ((List.replicate th (0:Int)).map tI)]:=by
 have hf:=f.facts
 obtain ⟨N,At,hsu⟩:=AnS f.kap
 have hN:N=n:=by rw [hn];exact hsu.nat.symm
 subst hN
 have c1:=AlR c (by omega) N At hsu
 have c2:=YS c.start (by omega)
 have c3:=fun q:Nat=>AtF c (by omega) q
 have hb:=f.big
 rw [c6_ cPu th UT,c6_ tI th 0]
 generalize setupL c=W at *
 dsimp only [XBv,mL,mC,mR,fCf,aCf] at *
 refine ZEN Tryz.func47 Tryz.ntmps47 ?_
 repeat' (first|(refine ZAL ?_;first|refine uA ?_|refine uK (c1) ?_|refine uK (c2) ?_)|(refine ZRG ?_;first|(refine kR 3600 rfl ?_;first|refine R_make rfl rfl 112 _ _ rfl e4_ inf145 rfl (zs:=[(.v (.bool false)),(.v (.bool false)),(.v (.bool false)),(.v (.int .i64 0)),.lst [],(.v (.int .i64 0)),(.v (.int .i64 0))]) rfl rfl rfl th aJ aJ qB qB bG qh qN ?_|refine R_make rfl rfl 112 _ _ rfl e4_ inf145 rfl (zs:=[(.v (.bool false)),(.v (.bool false)),(.v (.bool false)),(.v (.int .i64 0)),.lst [],(.v (.int .i64 0)),(.v (.int .i64 0))]) rfl rfl rfl _ aJ aJ qB qB bG qh qN ?_)|(refine kR 720 rfl ?_;first|refine R_make rfl rfl 22 _ _ rfl ud22 inf3 rfl (zs:=[(.v (.int .i64 0))]) rfl rfl rfl th aJ aJ qB qB bG qh qN ?_|refine R_make rfl rfl 22 _ _ rfl ud22 inf3 rfl (zs:=[(.v (.int .i64 0))]) rfl rfl rfl _ aJ aJ qB qB bG qh qN ?_)|refine Gm ?_|refine uR ?_)|refine uC ?_|(first|refine AW.drawU (id:=5) mixed 4 qR ?_|refine AW.drawU (id:=9) mixed 4 qR ?_)|refine ZK2 (fun hc=>?_) (fun hc=>?_)|fail)
 all_goals try exact ZE5
 refine AW.wk (Wk.ownB 6 12 rfl rfl 55 34 (.push rfl rfl) rfl) ?_
 refine AW.loopP (fun (q:Nat)=>q≤th) (fun (q:Nat)=>(pu (pu (pu (pu (fun _=>.any) 1 (.ptr 0 0)) 6 (.ptr 6 0)) 34 (i64 c.threads)) 35 (i64 q))) (fun (q:Nat)=>[.box 24 [i64 c.kind,i64 c.threads,i64 c.chans,i64 c.cap,i64 c.nodes,i64 c.retire,i64 c.patience,i64 c.tags,i64 c.seqs,i64 c.gens,.t (.lst (c.start.map tI))],.box 135 [.sl 2 0 N,.nl,.nl,bo false],.row 0 46 1 (W.map tU),.row 0 145 7 (List.replicate th (cPu UT)),.row 0 3 1 (List.replicate th (tI 0)),.row 0 3 1 (List.replicate th (tI 0)),.box 114 [i64 c.kind,i64 c.threads,i64 c.chans,i64 c.cap,i64 c.nodes,i64 c.retire,i64 c.patience,i64 c.tags,i64 c.seqs,i64 c.gens,.t (.lst (c.start.map tI)),.ptr 1 0,.sl 7 q q,.sl 3 0 th,.nl,.nl,.sl 4 0 th,.sl 5 0 th,i64 0],.row q 55 34 ((newT c q).map cTk)]) (fun (q:Nat)=>th-q) (0) ?_ ?_ ?_
 ·exact fO _
 ·exact Wk.cq 8
 ·intro q hq1
  have hql2:=a6_ c q
  have hql:((newT c q).map cTk).length=q:=by rw [fH,a6_]
  by_cases hi:q<th
  ·have c4:=c3 q
   have e5:({ AK with pool:=⟨⟨0,0⟩,poolL c q,[],0⟩}:AC)=newTk c q:=rfl
   have e6:=w7_ c q
   rw [e5] at c4 e6
   generalize newTk c q=y at *
   repeat' (first|(refine ZAL ?_;first|(refine kL 707 rfl ?_;first|refine A_store_rp rfl rfl 22 _ _ rfl ZJ (by decide) rfl rfl aI rfl rfl rfl (ZbT rfl) (by first|exact map_set (f:=cTk) (x:=y)|exact qN) qN ?_)|refine uA ?_)|(refine ZRG ?_;first|(refine kR 3600 rfl ?_;first|refine R_make rfl rfl 112 _ _ rfl e4_ inf145 rfl (zs:=[(.v (.bool false)),(.v (.bool false)),(.v (.bool false)),(.v (.int .i64 0)),.lst [],(.v (.int .i64 0)),(.v (.int .i64 0))]) rfl rfl rfl _ aJ aJ qB qB (by first|exact rep_map (f:=cTk) (x:=y)|exact qN) qh qN ?_)|(refine kR 720 rfl ?_;first|refine R_make rfl rfl 22 _ _ rfl ud22 inf3 rfl (zs:=[(.v (.int .i64 0))]) rfl rfl rfl _ aJ aJ qB qB (by first|exact rep_map (f:=cTk) (x:=y)|exact qN) qh qN ?_)|(refine kR 2767 rfl ?_;first|refine R_lit rfl rfl 86 1 _ rfl ud86 inf55 (.cons rfl .nil) (els:=[[_,_,_,_,_,_,_,_,_,_,_,_,_,_,_,_,_,_,_,_,_,_,_,_,_,_,_,_,_,_,_,_,_,_]]) rfl (by first|exact (rfl:_=List.map cTk [y])|exact qN) rfl (fT rfl) (ZbT rfl) (ZbT rfl) qh qN ?_)|(refine kR 12 rfl ?_;first|refine R_append rfl rfl _ _ 86 rfl ud86 inf55 rfl rfl rfl cY aA qB qB (by first|exact app_map aG|exact app_one (f:=cTk) (x:=y) aG|exact qN) qN qS ?_)|(refine kR 2755 rfl ?_;first|refine R_store_rp rfl rfl 86 _ _ rfl AnM (by decide) rfl rfl aI rfl rfl rfl (ZbT rfl) (by first|exact map_set (f:=cTk) (x:=y)|exact qN) qN ?_)|refine uR ?_|refine AZ (c4) ?_)|refine uC ?_|(first|refine AW.drawU (id:=5) mixed 4 qR ?_|refine AW.drawU (id:=9) mixed 2 qR ?_)|refine ZK2 (fun hc=>?_) (fun hc=>?_)|fail)
   all_goals try exact ZE5
   refine ⟨q+1,by omega,by omega,?_⟩
   rw [e6]
   exact Wk.cq 8
  ·obtain rfl:q=th:=by omega
   repeat' (first|refine uA ?_|(refine ZRG ?_;first|(refine kR 3600 rfl ?_;first|refine R_make rfl rfl 112 _ _ rfl e4_ inf145 rfl (zs:=[(.v (.bool false)),(.v (.bool false)),(.v (.bool false)),(.v (.int .i64 0)),.lst [],(.v (.int .i64 0)),(.v (.int .i64 0))]) rfl rfl rfl _ aJ aJ qB qB bG qh qN ?_)|(refine kR 720 rfl ?_;first|refine R_make rfl rfl 22 _ _ rfl ud22 inf3 rfl (zs:=[(.v (.int .i64 0))]) rfl rfl rfl _ aJ aJ qB qB bG qh qN ?_)|refine Gm ?_|refine uR ?_)|refine uC ?_|(first|refine AW.drawU (id:=5) mixed 4 qR ?_|refine AW.drawU (id:=9) mixed 2 qR ?_)|refine ZK2 (fun hc=>?_) (fun hc=>?_)|fail)
   all_goals first|(exfalso;omega)|(refine Fin.wk (Wk.ownB 6 14 rfl rfl 75 13 (.push rfl rfl) rfl) (Fin.wk (Wk.ownB 6 15 rfl rfl 63 3 (.push rfl rfl) rfl) (Fin.wk (Wk.ownB 1 1 rfl rfl 83 7 (.push rfl rfl) rfl) (Fin.wk (Wk.ownB 1 2 rfl rfl 3 1 (.push rfl rfl) rfl) ?_)));(first|exact Fin.q Tryz.results47 (.cons (.tmp rfl) (.cons (.tmp rfl) .nil)) [6,1,2,10,11,7,3,8,9,4,5]|refine Fin.q Tryz.results47 (.cons (.tmp rfl) (.cons (.tmp rfl) .nil)) [6,1,2,10,11,7,3,8,9,4,5] (hr:=(.tupL (.cons (.t ?_) (.cons (.t ?_) .nil))))|refine Fin.mkv (rs:=_) Tryz.results47 (.cons (.tmp rfl) (.cons (.tmp rfl) .nil)) [6,1,2,10,11,7,3,8,9,4,5] (by decide) rfl ?_ ?_ ?_<;>repeat' (first|exact ZE1|refine ZE2 ?_ ?_|refine ZE3 ?_|exact ZE4|fail)))
end
end Go.Proofs.YtccefppppedgkaaGreat
