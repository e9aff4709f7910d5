/- Joined: XTMachA, XTMachB, XTMachC, XTMachN. -/
import Derived.Test.YtccefppppedgkaaGreatKHzp
import Derived.Test.YtccefppppedgkaaGreatKHzo
set_option linter.unusedVariables false
set_option linter.unusedSimpArgs false
set_option linter.unnecessarySimpa false
set_option maxRecDepth 100000
set_option maxHeartbeats 64000000
namespace Go.Proofs.YtccefppppedgkaaGreat
open Go.RowKit
section
attribute [local irreducible] AL AW RG Fin C Cd Cio AI AF AO
def cTk (x:AC):List Tr:=[.v (.int .i64 x.pc),.v (.int .i64 x.seq),.v (.int .i64 x.req.kind),.v (.int .i64 x.req.arg),.v (.int .i64 x.req.value),.v (.bool x.req.dflt),.lst (x.req.cases.map tCs),.v (.bool x.slow),.v (.int .i64 x.round),.v (.int .i64 x.i),.v (.int .i64 x.j),.v (.int .i64 x.tri),.v (.int .i64 x.epoch),.v (.bool x.all_),.v (.int .i64 x.base.index),.v (.int .i64 x.base.tag),.lst (x.buf.map tU),.lst (x.nxt.map tU),.v (.int .u64 x.word),.lst (x.args.map tU),.lst (x.found.map tOp),.lst (x.seen.map tU),.v (.int .i64 x.pool.own.index),.v (.int .i64 x.pool.own.tag),.lst (x.pool.free.map tSl),.lst (x.pool.old.map tOd),.v (.int .i64 x.pool.spent),.v (.int .i64 x.res.seq),.v (.int .i64 x.res.cas),.v (.int .i64 x.res.code),.v (.int .i64 x.res.value),.v (.bool x.won),.v (.bool x.waits),.v (.bool x.scans)]
def cPu (x:FO):List Tr:=[.v (.bool x.on),.v (.bool x.shut),.v (.bool x.over),.v (.int .i64 x.inn),.lst (x.outs.map tI),.v (.int .i64 x.at_),.v (.int .i64 x.value)]
def cNt (x:JP):List Tr:=[.v (.int .i64 x.kind),.v (.int .i64 x.thread),.v (.int .i64 x.seq),.v (.int .i64 x.time),.v (.int .i64 x.req.kind),.v (.int .i64 x.req.arg),.v (.int .i64 x.req.value),.v (.bool x.req.dflt),.lst (x.req.cases.map tCs),.v (.int .i64 x.result.seq),.v (.int .i64 x.result.cas),.v (.int .i64 x.result.code),.v (.int .i64 x.result.value)]
def cTn (x:CP):List Tr:=[.v (.int .i64 x.time),.v (.int .i64 x.thread),.lst (x.ops.map tOp)]
abbrev fPu (x:FO):AV:=.agg [.t (.v (.bool x.on)),.t (.v (.bool x.shut)),.t (.v (.bool x.over)),.t (.v (.int .i64 x.inn)),.t (.lst (x.outs.map tI)),.t (.v (.int .i64 x.at_)),.t (.v (.int .i64 x.value))]
abbrev XB (c:AB) (th ln lu:Nat) (tm:Int):Ob:=.box 114 [i64 c.kind,i64 c.threads,i64 c.chans,i64 c.cap,i64 c.nodes,i64 c.retire,i64 c.patience,i64 c.tags,i64 c.seqs,i64 c.gens,.t (.lst (c.start.map tI)),.ptr 1 0,.sl 5 0 th,.sl 6 0 th,.sl 7 ln ln,.sl 8 lu lu,.sl 9 0 th,.sl 10 0 th,i64 tm]
abbrev XO (c:AB) (s:Mc) (n th:Nat):List Ob :=
  [XB c th s.notes.length s.turns.length s.time,.box 135 [.sl 2 0 n,.sl 3 s.m.log.length s.m.log.length,.sl 4 s.m.cnt.length s.m.cnt.length,bo true],mR 0 s.m.w,mL s.m.log s.m.log.length,mC s.m.cnt s.m.cnt.length,
   .row 0 55 34 (s.tasks.map cTk),.row 0 145 7 (s.pumps.map cPu),.row s.notes.length 75 13 (s.notes.map cNt),.row s.turns.length 63 3 (s.turns.map cTn),.row 0 3 1 (s.steps.map tI),.row 0 3 1 (s.most.map tI)]
structure XK (c:AB) (s:Mc) (n th:Nat):Prop where
 f:Okc c
 hs:c.start.length≤1152921504606846976
 K:MK s.m n
 nn:(n:Int)=totL c
 thc:(th:Int)=c.threads
 tl:s.tasks.length=th
 pl:s.pumps.length=th
 sl:s.steps.length=th
 ml:s.most.length=th
 nl:s.notes.length≤100000
 ul:s.turns.length≤100000
 tm:0≤s.time∧s.time≤1000000
 st : ∀x∈s.steps,0≤x∧x≤1000000
 mo : ∀x∈s.most,0≤x∧x≤1000000
 rq : ∀x∈s.tasks,x.req.cases.length≤3
 sq : ∀x∈s.tasks,0≤x.seq∧x.seq≤1048575
 pu : ∀p∈s.pumps,p.outs.length≤8∧sI p.at_
 tk : ∀(t:Nat) x,s.tasks[t]? = some x→x.pc≠0→TK c t x s.m n
theorem z7_ (l:List BF) (h:l.length≤5864062014805):Cd Tryz.prog 112 [.ln (l.map tCs)] (.t (.lst (l.map tCs))) []:=by
 have h0:=RY l (by omega)
 have h0':=Cd.frz1 h0 0 rfl aB rfl;exact Cd.drop h0' rfl
theorem EJ (q:AU) (hl:q.cases.length≤5864062014805):Cd Tryz.prog 71 [aRq q] (fRq q) []:=by
 have c1:=z7_ q.cases (by omega)
 refine ZEN Tryz.func71 Tryz.ntmps71 ?_
 repeat' (first|refine A7 ?_|refine ZK2 (fun hc=>?_) (fun hc=>?_)|fail)
 all_goals first|(exfalso;omega)|((first|exact Fin.q Tryz.results71 (.cons (.agg rfl rfl ud32 rfl inf32 (us:=[_,_,_,_,_]) rfl rfl) .nil) []|refine Fin.q Tryz.results71 (.cons (.agg rfl rfl ud32 rfl inf32 (us:=[_,_,_,_,_]) rfl rfl) .nil) [] (hr:=(.t ?_))|refine Fin.mkv (rs:=_) Tryz.results71 (.cons (.agg rfl rfl ud32 rfl inf32 (us:=[_,_,_,_,_]) rfl rfl) .nil) [] (by decide) rfl ?_ ?_ ?_<;>repeat' (first|exact ZE1|refine ZE2 ?_ ?_|refine ZE3 ?_|exact ZE4|fail)))
theorem AiV {c:AB} {x y:AC} {q:AU} (h:IJ c x q=some y) (hs:0≤x.seq∧x.seq≤1048575):Cd Tryz.prog 133 [aCf c,fTk x,fRq q] (.tup [fTk y,i64 0]) []:=by
 obtain ⟨h1,h2,h3,rfl⟩:=PM h
 have c1:=GS q (by have:=(SH h2).2;omega)
 rw [h2] at c1
 unfold begun AK
 refine ZEN Tryz.func133 Tryz.ntmps133 ?_
 repeat' (first|refine A7 ?_|refine ZK2 (fun hc=>?_) (fun hc=>?_)|fail)
 all_goals first|(exfalso;omega)|(refine fnz 3 ?_;(first|exact Fin.q Tryz.results133 (.cons (.agg rfl rfl ud55 rfl inf55 (us:=[_,_,_,_,_,_,_,_,_,_,_,_,_,_,_,_,_,_,_,_,_,_,_,_,_,_,_,_,_,_,_,_,_,_]) rfl rfl) (.cons (.tmp rfl) .nil)) []|refine Fin.q Tryz.results133 (.cons (.agg rfl rfl ud55 rfl inf55 (us:=[_,_,_,_,_,_,_,_,_,_,_,_,_,_,_,_,_,_,_,_,_,_,_,_,_,_,_,_,_,_,_,_,_,_]) rfl rfl) (.cons (.tmp rfl) .nil)) [] (hr:=(.tupL (.cons (.t ?_) (.cons (.t ?_) .nil))))|refine Fin.mkv (rs:=_) Tryz.results133 (.cons (.agg rfl rfl ud55 rfl inf55 (us:=[_,_,_,_,_,_,_,_,_,_,_,_,_,_,_,_,_,_,_,_,_,_,_,_,_,_,_,_,_,_,_,_,_,_]) rfl rfl) (.cons (.tmp rfl) .nil)) [] (by decide) rfl ?_ ?_ ?_<;>repeat' (first|exact ZE1|refine ZE2 ?_ ?_|refine ZE3 ?_|exact ZE4|fail)))
theorem AiU {c:AB} {x:AC} {q:AU} (h:IJ c x q=none) (hl:q.cases.length≤5864062014805) : ∃e:Int,e≠0∧Cd Tryz.prog 133 [aCf c,fTk x,fRq q] (.tup [fTk x,i64 e]) []:=by
 have c1:=GS q (by omega)
 by_cases h1:x.pc=0
 ·cases h2:BR q
  ·rw [h2] at c1
   refine ⟨1,by decide,?_⟩
   refine ZEN Tryz.func133 Tryz.ntmps133 ?_
   repeat' (first|refine A7 ?_|refine ZK2 (fun hc=>?_) (fun hc=>?_)|fail)
   all_goals exact Eg Tryz.results133
  ·rw [h2] at c1
   have h3 : ¬x.seq<c.seqs:=fun h3=>by unfold IJ at h;rw [fR ⟨h1,h2,h3⟩] at h;cases h
   refine ⟨7,by decide,?_⟩
   refine ZEN Tryz.func133 Tryz.ntmps133 ?_
   repeat' (first|refine A7 ?_|refine ZK2 (fun hc=>?_) (fun hc=>?_)|fail)
   all_goals exact Eg Tryz.results133
 ·refine ⟨13,by decide,?_⟩
  refine ZEN Tryz.func133 Tryz.ntmps133 ?_
  repeat' (first|refine A7 ?_|refine ZK2 (fun hc=>?_) (fun hc=>?_)|fail)
  all_goals exact Eg Tryz.results133
theorem MR (c:AB) (s:Mc) (n th:Nat) (hN:s.notes.length≤100001) (htl:s.tasks.length=th) (kind:Int) (t:Nat) (x:AC) (hx:s.tasks[t]? = some x) (hq:x.req.cases.length≤1000) (r r':Rst) (hr:(kind=1→r'=OW)∧(kind≠1→r'=r)) :
  Cio Tryz.prog 87 [.ptr 0 0,i64 kind,i64 t,aR r] (XO c s n th) (.tup []) (XO c { s with notes:=s.notes++[⟨kind,t,x.seq,s.time,x.req,r'⟩]} n th):=by
 have c1:=EJ x.req (by omega)
 have e1:(s.tasks.map cTk).length=s.tasks.length:=fN _
 have e2:(s.notes.map cNt).length=s.notes.length:=fN _
 have e3:(s.notes++[(⟨kind,t,x.seq,s.time,x.req,r'⟩:JP)]).length=s.notes.length+1:=by simp
 have hlt:=get_lt hx
 dsimp only [XO,XB,mL,mC,mR] at *
 rw [e3]
 by_cases hk:kind=1
 ·have:=hr.1 hk
  subst this
  refine ZEN Tryz.func87 Tryz.ntmps87 ?_
  repeat' (first|refine Gr ?_|refine ZK2 (fun hc=>?_) (fun hc=>?_)|fail)
  all_goals exact A9 Tryz.results87
 ·have:=hr.2 hk
  subst this
  refine ZEN Tryz.func87 Tryz.ntmps87 ?_
  repeat' (first|refine Gr ?_|refine ZK2 (fun hc=>?_) (fun hc=>?_)|fail)
  all_goals exact A9 Tryz.results87
theorem XK.get {c:AB} {s:Mc} {n th:Nat} (k:XK c s n th) {t:Nat} (ht:t<th):s.tasks[t]? = some (tkM s t)∧s.pumps[t]? = some (puM s t)∧s.steps[t]? = some (s.steps.getD t 0)∧s.most[t]? = some (s.most.getD t 0):=by
 have h1:=k.tl
 have h2:=k.pl
 have h3:=k.sl
 have h4:=k.ml
 unfold tkM puM
 refine ⟨?_,?_,?_,?_⟩
 all_goals rw [fQ,ZgE (by omega)];rfl
theorem d5_ (c:AB) (s:Mc) (n th:Nat) (k:XK c s n th) (t:Nat) (ht:t<th) (q:AU) (s':Mc) (h:GC c s t q=some s') :
  Cio Tryz.prog 90 [.ptr 0 0,i64 t,aRq q] (XO c s n th) (i64 0) (XO c s' n th):=by
 obtain ⟨h1,h2,h3,rfl⟩:=CK h
 have hx:=(k.get ht).1
 have hq3:=(SH h2).2
 generalize tkM s t=x at *
 have hsq:=k.sq x (fO hx)
 have hb:IJ c x q=some (begun x q):=by unfold IJ;rw [fR ⟨h1,h2,h3⟩];rfl
 have c1:=EJ q (by omega)
 have c2:=AiV hb hsq
 have e1:(s.tasks.map cTk).length=s.tasks.length:=fN _
 have e2:(s.steps.map tI).length=s.steps.length:=fN _
 have htl:=k.tl
 have hsl:=k.sl
 have hnl:=k.nl
 have hx':(s.tasks.set t (begun x q))[t]? = some (begun x q):=jF (by omega)
 have c3:=MR c { s with tasks:=s.tasks.set t (begun x q),steps:=s.steps.set t 0 } n th dS (by dsimp only;rw [iS];exact htl) 1 t (begun x q) hx' (by show q.cases.length≤_;omega) OW OW ⟨fun _=>rfl,fun e=>absurd rfl e⟩
 obtain ⟨z,hz⟩ : ∃z,s.steps[t]? = some z:=⟨_,(k.get ht).2.2.1⟩
 have eq:(⟨1,t,(begun x q).seq,s.time,(begun x q).req,OW⟩:JP)=⟨1,t,x.seq+1,s.time,q,OW⟩:=rfl
 dsimp only at c3
 rw [eq] at c3
 generalize s.notes++[(⟨1,t,x.seq+1,s.time,q,OW⟩:JP)]=nt at *
 generalize begun x q=y at *
 dsimp only [XO,XB,mL,mC,mR] at *
 refine ZEN Tryz.func90 Tryz.ntmps90 ?_
 repeat' (first|(refine ZAL ?_;first|(refine kL 99 rfl ?_;first|refine A_store_rp rfl rfl 3 _ _ rfl inf3 (by decide) rfl rfl (by first|exact map_get dG|assumption|exact map_get hx|exact map_get hz) rfl rfl rfl (ZbT rfl) dM qN ?_)|refine uA ?_|refine uI [0,1,2,3,4,5,6,7,8,9,10] (c3) ?_)|(refine ZRG ?_;first|(refine kR 1763 rfl ?_;first|refine R_store_rp rfl rfl 55 _ _ rfl inf55 (by decide) rfl rfl (by first|exact map_get dG|assumption|exact map_get hx|exact map_get hz) rfl rfl rfl (ZbT rfl) dM qN ?_)|refine uR ?_|refine AT (c1) ?_|refine AT (c2) ?_)|refine uC ?_|(first|refine AW.drawU (id:=1) mixed 1 qR ?_|refine AW.drawU (id:=4) mixed 0 qR ?_)|refine ZK2 (fun hc=>?_) (fun hc=>?_)|fail)
 all_goals first|(exfalso;omega)|((first|exact A6 Tryz.results90|refine A5 Tryz.results90 ?_|refine A8 Tryz.results90 ?_ ?_ ?_<;>repeat' (first|exact ZE1|refine ZE2 ?_ ?_|refine ZE3 ?_|exact ZE4|fail)))
theorem d4_ (c:AB) (s:Mc) (n th:Nat) (k:XK c s n th) (t:Nat) (ht:t<th) (q:AU) (hl:q.cases.length≤5864062014805) (h:GC c s t q=none) :
  ∃e:Int,e≠0∧Cio Tryz.prog 90 [.ptr 0 0,i64 t,aRq q] (XO c s n th) (i64 e) (XO c s n th):=by
 have hx:=(k.get ht).1
 have hb:IJ c (tkM s t) q=none:=by
  unfold GC at h
  split at h
  ·rename_i hh;exact hh
  ·cases h
 generalize tkM s t=x at *
 obtain ⟨e,he,c2⟩:=AiU hb hl
 refine ⟨e,he,?_⟩
 have c1:=EJ q hl
 have e1:(s.tasks.map cTk).length=s.tasks.length:=fN _
 have htl:=k.tl
 dsimp only [XO,XB,mL,mC,mR] at *
 refine ZEN Tryz.func90 Tryz.ntmps90 ?_
 repeat' (first|(refine ZAL ?_;first|(refine kL 99 rfl ?_;first|refine A_store_rp rfl rfl 3 _ _ rfl inf3 (by decide) rfl rfl bC rfl rfl rfl (ZbT rfl) dN qN ?_)|refine uA ?_)|(refine ZRG ?_;first|(refine kR 1763 rfl ?_;first|refine R_store_rp rfl rfl 55 _ _ rfl inf55 (by decide) rfl rfl bC rfl rfl rfl (ZbT rfl) dN qN ?_)|refine uR ?_|refine AT (c1) ?_|refine AT (c2) ?_)|refine uC ?_|(first|refine AW.drawU (id:=1) mixed 1 qR ?_|refine AW.drawU (id:=4) mixed 0 qR ?_)|refine ZK2 (fun hc=>?_) (fun hc=>?_)|fail)
 all_goals first|(exfalso;omega)|((first|exact A6 Tryz.results90|refine A5 Tryz.results90 ?_|refine A8 Tryz.results90 ?_ ?_ ?_<;>repeat' (first|exact ZE1|refine ZE2 ?_ ?_|refine ZE3 ?_|exact ZE4|fail)))
theorem XK.tick {c:AB} {s:Mc} {n th:Nat} (k:XK c s n th) (h:s.time+1≤1000000):XK c (AP s) n th :=
 ⟨k.f,k.hs,k.K,k.nn,k.thc,k.tl,k.pl,k.sl,k.ml,k.nl,k.ul,⟨by have:=k.tm;show 0≤s.time+1;omega,h⟩,k.st,k.mo,k.rq,k.sq,k.pu,k.tk⟩
theorem VG (s:Mc) (t:Nat) (q:AU):LE s t q=true↔(tkM s t).pc=0∧(puM s t).on=false∧BR q=true:=by
 unfold LE
 simp only [gG,gM,Bool.not_eq_true',nG]
theorem AmF (c:AB) (s:Mc) (n th:Nat) (k:XK c s n th) (ht1:s.time+1≤1000000) (t:Nat) (ht:t<th) (q:AU) (hl:q.cases.length≤5864062014805) :
  Cio Tryz.prog 52 [.ptr 0 0,i64 t,aRq q] (XO c s n th) (i64 (if LE s t q then 0 else 15)) (XO c (callM c s t q) n th):=by
 obtain ⟨hx,hp, -⟩:=k.get ht
 have kt:=k.tick ht1
 have c1:=GS q (by omega)
 have e1:(s.tasks.map cTk).length=s.tasks.length:=fN _
 have e2:(s.pumps.map cPu).length=s.pumps.length:=fN _
 have htl:=k.tl
 have hpl:=k.pl
 have hnl:=k.nl
 have htm:=k.tm
 have cy:=d5_ c (AP s) n th kt t ht q
 have cn:=d4_ c (AP s) n th kt t ht q hl
 have cr:=EJ q hl
 unfold callM
 cases hok:LE s t q
 ·rw [fT (by simp),fT (by simp)]
  clear cy cn
  have hno : ¬((tkM s t).pc=0∧(puM s t).on=false∧BR q=true):=fun h=>by have:=(VG s t q).2 h;rw [hok] at this;cases this
  generalize tkM s t=x at *
  generalize puM s t=p at *
  dsimp only [XO,XB,mL,mC,mR] at *
  by_cases hpc:x.pc=0
  ·obtain ⟨on,shut,over,inn,outs,at_,value⟩:=p
   dsimp only at hno
   cases on
   ·cases hf:BR q
    ·rw [hf] at c1
     refine Ch ?_
     repeat' (first|refine Ej ?_|refine uS 17 (fun hb=>?_) (fun hb=>?_)|refine uS 27 (fun hb=>?_) (fun hb=>?_)|refine ZK2 (fun hc=>?_) (fun hc=>?_)|fail)
     all_goals exact A3 Tryz.results52
    ·exact absurd ⟨hpc,rfl,hf⟩ hno
   ·refine Ch ?_
    repeat' (first|refine Ej ?_|refine uS 17 (fun hb=>?_) (fun hb=>?_)|refine uS 27 (fun hb=>?_) (fun hb=>?_)|refine ZK2 (fun hc=>?_) (fun hc=>?_)|fail)
    all_goals exact A3 Tryz.results52
  ·refine Ch ?_
   repeat' (first|refine Ej ?_|refine uS 17 (fun hb=>?_) (fun hb=>?_)|refine uS 27 (fun hb=>?_) (fun hb=>?_)|refine ZK2 (fun hc=>?_) (fun hc=>?_)|fail)
   all_goals exact A3 Tryz.results52
 ·rw [fR rfl,fR rfl]
  obtain ⟨hpc,hon,hf⟩:=(VG s t q).1 hok
  rw [hf] at c1
  generalize tkM s t=x at *
  generalize puM s t=p at *
  obtain ⟨on,shut,over,inn,outs,at_,value⟩:=p
  dsimp only at hon
  subst hon
  cases hb:GC c (AP s) t q with
  |some s' =>
   have c2:=cy s' hb
   clear cy cn
   dsimp only
   unfold AP at c2
   dsimp only [XO,XB,mL,mC,mR] at *
   refine Ch ?_
   repeat' (first|(refine ZAL ?_;first|refine uA ?_|refine uK (c1) ?_|refine uI [0,1,2,3,4,5,6,7,8,9,10] (c2) ?_)|(refine ZRG ?_;first|refine Gs ?_|refine uR ?_)|refine uC ?_|refine Ei ?_|refine uS 17 (fun hb=>?_) (fun hb=>?_)|refine uS 27 (fun hb=>?_) (fun hb=>?_)|refine ZK2 (fun hc=>?_) (fun hc=>?_)|fail)
   all_goals first|(exfalso;omega)|((first|exact A6 Tryz.results52|refine A5 Tryz.results52 ?_|refine A8 Tryz.results52 ?_ ?_ ?_<;>repeat' (first|exact ZE1|refine ZE2 ?_ ?_|refine ZE3 ?_|exact ZE4|fail)))
  |none =>
   obtain ⟨e,he,c2⟩:=cn hb
   clear cy cn
   dsimp only
   unfold AP at *
   have e3:(s.notes++[(⟨1,t,0,s.time+1,q,OW⟩:JP),⟨3,t,0,s.time+1,q,⟨0,0,7,0⟩⟩]).length=s.notes.length+1+1:=by simp
   have e4:s.notes++[(⟨1,t,0,s.time+1,q,OW⟩:JP),⟨3,t,0,s.time+1,q,⟨0,0,7,0⟩⟩]=(s.notes++[⟨1,t,0,s.time+1,q,OW⟩])++[⟨3,t,0,s.time+1,q,⟨0,0,7,0⟩⟩]:=by simp
   have e5:(s.notes.map cNt).length=s.notes.length:=fN _
   have e6:((s.notes++[(⟨1,t,0,s.time+1,q,OW⟩:JP)]).map cNt).length=s.notes.length+1:=by simp
   dsimp only [XO,XB,mL,mC,mR] at *
   rw [e3,e4]
   refine Ch ?_
   repeat' (first|(refine ZAL ?_;first|(refine kL 99 rfl ?_;first|refine A_store_rp rfl rfl 3 _ _ rfl inf3 (by decide) rfl rfl aV rfl rfl rfl (ZbT rfl) bB qN ?_)|(refine kL 1699 rfl ?_;first|refine A_store_rp rfl rfl 53 _ _ rfl inf53 (by decide) rfl rfl aV rfl rfl rfl (ZbT rfl) bB qN ?_)|refine uA ?_|refine uK (c1) ?_|refine uI [0,1,2,3,4,5,6,7,8,9,10] (c2) ?_)|(refine ZRG ?_;first|(refine kR 2403 rfl ?_;first|refine R_store_rp rfl rfl 75 _ _ rfl inf75 (by decide) rfl rfl aV rfl rfl rfl (ZbT rfl) bB qN ?_)|refine Gp ?_|refine Gq ?_|(refine kR 2243 rfl ?_;first|refine R_store_rp rfl rfl 70 _ _ rfl inf70 (by decide) rfl rfl aV rfl rfl rfl (ZbT rfl) bB qN ?_)|refine uR ?_|refine AT (cr) ?_)|refine uC ?_|refine Ei ?_|refine uS 17 (fun hb=>?_) (fun hb=>?_)|refine uS 27 (fun hb=>?_) (fun hb=>?_)|refine ZK2 (fun hc=>?_) (fun hc=>?_)|fail)
   all_goals first|(exfalso;omega)|((first|exact A6 Tryz.results52|refine A5 Tryz.results52 ?_|refine A8 Tryz.results52 ?_ ?_ ?_<;>repeat' (first|exact ZE1|refine ZE2 ?_ ?_|refine ZE3 ?_|exact ZE4|fail)))
abbrev aPu (p:FO):AV:=.agg [bo p.on,bo p.shut,bo p.over,i64 p.inn,.ln (p.outs.map tI),i64 p.at_,i64 p.value]
theorem AjC (inn:Int) (outs:List Int) (hi:okI inn) (ho : ∀x∈outs,okI x) (hlen:outs.length≤17592186044415) (h:GY inn outs):Cd Tryz.prog 91 [i64 inn,.ln (outs.map tI)] (.tup [fPu ⟨true,false,false,inn,outs,0,0⟩,bo true]) []:=by
 have h0:=w3_ inn outs hi ho (by omega) true (by simp [h])
 dsimp only [stR,stL,cond_true] at h0
 have h0':=Cd.frz h0 0 rfl aB rfl;exact Cd.drop h0' rfl
theorem AjB (inn:Int) (outs:List Int) (hi:okI inn) (ho : ∀x∈outs,okI x) (hlen:outs.length≤17592186044415) (h : ¬GY inn outs):Cd Tryz.prog 91 [i64 inn,.ln (outs.map tI)] (.tup [.agg [bo false,bo false,bo false,i64 0,.nl,i64 0,i64 0],bo false]) []:=by
 have h0:=w3_ inn outs hi ho (by omega) false (by simp [h])
 exact h0
theorem w7_ (p:FO) (hlen:p.outs.length≤17592186044415) (hat:sI p.at_) (h:MW p=none):Cd Tryz.prog 80 [aPu p] (.tup [.agg [i64 0,i64 0,i64 0,bo false,.nl],bo false]) []:=by
 have h0:=m8_ p.on p.shut p.over p.inn p.at_ p.value p.outs hlen hat
 unfold MW at h
 cases e:nx p.on p.shut p.over p.inn p.outs p.at_ p.value with
 |no=>rw [e] at h0;exact h0
 |close a=>rw [e] at h;cases h
 |one k=>rw [e] at h;cases h
theorem w8_ (p:FO) (q:AU) (hlen:p.outs.length≤17592186044415) (hat:sI p.at_) (h:MW p=some q) :
  (q.cases=[]∧Cd Tryz.prog 80 [aPu p] (.tup [.agg [i64 q.kind,i64 q.arg,i64 q.value,bo q.dflt,.nl],bo true]) [])∨(q.cases.length=1∧Cd Tryz.prog 80 [aPu p] (.tup [fRq q,bo true]) []):=by
 have h0:=m8_ p.on p.shut p.over p.inn p.at_ p.value p.outs hlen hat
 unfold MW at h
 cases e:nx p.on p.shut p.over p.inn p.outs p.at_ p.value with
 |no=>rw [e] at h;cases h
 |close a =>
  rw [e] at h h0
  cases h
  exact .inl ⟨rfl,h0⟩
 |one k =>
  rw [e] at h h0
  cases h
  refine .inr ⟨rfl,?_⟩
  dsimp only [nxA,nxL,fRq,List.map_cons,List.map_nil] at h0 ⊢
  have h0':=Cd.frz h0 0 rfl aB rfl;exact Cd.drop h0' rfl
theorem UH (p:FO) (r:Rst) (hlen:p.outs.length≤17592186044415) (hat:sI p.at_):Cd Tryz.prog 88 [aPu p,aR r] (fPu (gotP p r)) []:=by
 have h0:=AxO p.on p.shut p.over p.inn p.at_ p.value p.outs r.seq r.cas r.code r.value hlen hat
 unfold gotP
 dsimp only
 generalize got p.on p.shut p.over p.at_ p.value p.outs.length r.code r.value=g at *
 have h0':=Cd.frz1 h0 0 rfl aB rfl;exact Cd.drop h0' rfl
abbrev aEv (e:DB):AV:=.agg [i64 e.kind,i64 e.thread,i64 e.req.kind,i64 e.req.arg,i64 e.req.value,bo e.req.dflt,.ln (e.req.cases.map tCs),i64 e.inn,.ln (e.outs.map tI)]
theorem AmK (c:AB) (s:Mc) (n th:Nat) (k:XK c s n th) (ht1:s.time+1≤1000000) (e:DB) (t:Nat) (het:e.thread=t) (ht:t<th) (hi:okI e.inn) (ho : ∀x∈e.outs,okI x) (hlen:e.outs.length≤17592186044415) :
  ∃r:Int,Cio Tryz.prog 53 [.ptr 0 0,aEv e] (XO c s n th) (i64 r) (XO c (pumpM c s t e.inn e.outs) n th):=by
 obtain ⟨hx,hp, -⟩:=k.get ht
 have e1:(s.tasks.map cTk).length=s.tasks.length:=fN _
 have e2:(s.pumps.map cPu).length=s.pumps.length:=fN _
 have htl:=k.tl
 have hpl:=k.pl
 have htm:=k.tm
 obtain ⟨ek,et,eq,ei,eo⟩:=e
 dsimp only at *
 subst het
 by_cases hso:GY ei eo
 ·have c1:=AjC ei eo hi ho hlen hso
  unfold pumpM ZC AhN
  rw [fR hso]
  dsimp only
  generalize tkM s t=x at *
  generalize puM s t=p at *
  obtain ⟨on,shut,over,inn,outs,at_,value⟩:=p
  dsimp only [XO,XB,mL,mC,mR,AP] at *
  by_cases hk:c.kind=3
  ·by_cases hpc:x.pc=0
   ·rw [fW hk,fW hpc]
    cases on
    ·simp only [Bool.not_false,Bool.and_self,jU]
     refine ⟨0,?_⟩
     refine Ci ?_
     repeat' (first|(refine ZAL ?_;first|(refine kL 4643 rfl ?_;first|refine A_store_rp rfl rfl 145 _ _ rfl inf145 (by decide) rfl rfl aV rfl rfl rfl (ZbT rfl) eH qN ?_)|(refine kL 99 rfl ?_;first|refine A_store_rp rfl rfl 3 _ _ rfl inf3 (by decide) rfl rfl aV rfl rfl rfl (ZbT rfl) eH qN ?_)|refine uA ?_|refine uK (c1) ?_)|(refine ZRG ?_;first|(refine kR 4643 rfl ?_;first|refine R_store_rp rfl rfl 145 _ _ rfl inf145 (by decide) rfl rfl aV rfl rfl rfl (ZbT rfl) eH qN ?_)|refine uR ?_)|refine uC ?_|(first|refine AW.drawU (id:=2) mixed 0 qR ?_|refine AW.drawU (id:=5) mixed 0 qR ?_)|refine ZK2 (fun hc=>?_) (fun hc=>?_)|fail)
     all_goals exact A3 Tryz.results53
    ·simp only [Bool.not_true,kE,iM,jL]
     refine ⟨15,?_⟩
     refine Ci ?_
     repeat' (first|refine Da ?_|refine ZK2 (fun hc=>?_) (fun hc=>?_)|fail)
     all_goals exact A3 Tryz.results53
   ·rw [fZ hpc]
    simp only [kE,jH,iM,jL]
    refine ⟨15,?_⟩
    refine Ci ?_
    repeat' (first|refine Da ?_|refine ZK2 (fun hc=>?_) (fun hc=>?_)|fail)
    all_goals exact A3 Tryz.results53
  ·rw [fZ hk]
   simp only [kE,jH,iM,jL]
   refine ⟨15,?_⟩
   refine Ci ?_
   repeat' (first|refine Da ?_|refine ZK2 (fun hc=>?_) (fun hc=>?_)|fail)
   all_goals exact A3 Tryz.results53
 ·have c1:=AjB ei eo hi ho hlen hso
  unfold pumpM ZC
  rw [fT hso]
  dsimp only [XO,XB,mL,mC,mR] at *
  refine ⟨15,?_⟩
  refine Ci ?_
  repeat' (first|refine Da ?_|refine ZK2 (fun hc=>?_) (fun hc=>?_)|fail)
  all_goals exact A3 Tryz.results53
theorem MQ (c:AB) (s:Mc) (n th:Nat) (k:XK c s n th) (t:Nat) (ht:t<th):Cio Tryz.prog 85 [.ptr 0 0,i64 t] (XO c s n th) (.tup []) (XO c (goesM c s t) n th):=by
 obtain ⟨hx,hp, -⟩:=k.get ht
 have e1:(s.tasks.map cTk).length=s.tasks.length:=fN _
 have e2:(s.pumps.map cPu).length=s.pumps.length:=fN _
 have htl:=k.tl
 have hpl:=k.pl
 have hpb:=k.pu _ (fO hp)
 unfold goesM
 cases hn:MW (puM s t) with
 |none =>
  have c1:=w7_ _ (by omega) hpb.2 hn
  dsimp only
  generalize tkM s t=x at *
  generalize puM s t=p at *
  dsimp only [XO,XB,mL,mC,mR] at *
  refine ZEN Tryz.func85 Tryz.ntmps85 ?_
  repeat' (first|refine Gv ?_|refine uS 19 (fun hb=>?_) (fun hb=>?_)|refine ZK2 (fun hc=>?_) (fun hc=>?_)|fail)
  all_goals first|(exfalso;omega)|((first|exact Fin.q Tryz.results85 .nil []|refine Fin.q Tryz.results85 .nil [] (hr:=(.tupL .nil))|refine Fin.mkv (rs:=_) Tryz.results85 .nil [] (by decide) rfl ?_ ?_ ?_<;>repeat' (first|exact ZE1|refine ZE2 ?_ ?_|refine ZE3 ?_|exact ZE4|fail)))
 | some q =>
  have cg:=UH (puM s t) ⟨0,0,7,0⟩ (by omega) hpb.2
  have cy:=d5_ c s n th k t ht q
  have cn:=d4_ c s n th k t ht q
  rcases w8_ _ q (by omega) hpb.2 hn with ⟨hq,c1⟩|⟨hq,c1⟩
  all_goals
   have cn:=cn (by simp only [hq,gI];omega)
   obtain ⟨qk,qa,qv,qd,qc⟩:=q
   dsimp only at hq ⊢
   by_cases hpc:(tkM s t).pc=0
   ·rw [fR hpc]
    cases hb:GC c s t ⟨qk,qa,qv,qd,qc⟩ with
    |some s' =>
     have c2:=cy s' hb
     clear cy cn
     try subst hq
     dsimp only
     generalize tkM s t=x at *
     generalize puM s t=p at *
     dsimp only [XO,XB,mL,mC,mR,List.map_nil] at *
     refine ZEN Tryz.func85 Tryz.ntmps85 ?_
     repeat' (first|(refine ZAL ?_;first|refine uA ?_|refine uK (c1) ?_|refine uI [0,1,2,3,4,5,6,7,8,9,10] (c2) ?_)|refine uR ?_|refine uC ?_|refine AW.drawU (id:=3) mixed 0 qR ?_|refine uS 19 (fun hb=>?_) (fun hb=>?_)|refine ZK2 (fun hc=>?_) (fun hc=>?_)|fail)
     all_goals first|(exfalso;omega)|((first|exact Fin.q Tryz.results85 .nil []|refine Fin.q Tryz.results85 .nil [] (hr:=(.tupL .nil))|refine Fin.mkv (rs:=_) Tryz.results85 .nil [] (by decide) rfl ?_ ?_ ?_<;>repeat' (first|exact ZE1|refine ZE2 ?_ ?_|refine ZE3 ?_|exact ZE4|fail)))
    |none =>
     obtain ⟨e,he,c2⟩:=cn hb
     clear cy cn
     try subst hq
     dsimp only
     generalize gotP (puM s t) ⟨0,0,7,0⟩=g at *
     generalize tkM s t=x at *
     generalize puM s t=p at *
     dsimp only [XO,XB,mL,mC,mR,List.map_nil] at *
     refine ZEN Tryz.func85 Tryz.ntmps85 ?_
     repeat' (first|(refine ZAL ?_;first|(refine kL 1027 rfl ?_;first|refine A_store_rp rfl rfl 32 _ _ rfl inf32 (by decide) rfl rfl aV rfl rfl rfl (ZbT rfl) (by first|exact map_set (f:=cPu) (x:=g)|exact qN) qN ?_)|refine uA ?_|refine uK (c1) ?_|refine uI [0,1,2,3,4,5,6,7,8,9,10] (c2) ?_)|(refine ZRG ?_;first|(refine kR 4643 rfl ?_;first|refine R_store_rp rfl rfl 145 _ _ rfl inf145 (by decide) rfl rfl aV rfl rfl rfl (ZbT rfl) (by first|exact map_set (f:=cPu) (x:=g)|exact qN) qN ?_)|refine uR ?_|refine AT (cg) ?_)|refine uC ?_|refine AW.drawU (id:=3) mixed 0 qR ?_|refine uS 19 (fun hb=>?_) (fun hb=>?_)|refine ZK2 (fun hc=>?_) (fun hc=>?_)|fail)
     all_goals first|(exfalso;omega)|((first|exact Fin.q Tryz.results85 .nil []|refine Fin.q Tryz.results85 .nil [] (hr:=(.tupL .nil))|refine Fin.mkv (rs:=_) Tryz.results85 .nil [] (by decide) rfl ?_ ?_ ?_<;>repeat' (first|exact ZE1|refine ZE2 ?_ ?_|refine ZE3 ?_|exact ZE4|fail)))
   ·rw [fT hpc]
    clear cy cn
    generalize tkM s t=x at *
    generalize puM s t=p at *
    dsimp only [XO,XB,mL,mC,mR] at *
    refine ZEN Tryz.func85 Tryz.ntmps85 ?_
    repeat' (first|refine Gv ?_|refine uS 19 (fun hb=>?_) (fun hb=>?_)|refine ZK2 (fun hc=>?_) (fun hc=>?_)|fail)
    all_goals exact A9 Tryz.results85
end
theorem KO {c:AB} {t:Nat} {x:AC} {m:Mm} (h:AQ c x):(stepT c t x m).note=0∨(stepT c t x m).note=2∨(stepT c t x m).note=3:=by
 obtain ⟨q,p,hk2, -⟩:=BA h
 rw [AE p]
 have ho : ∀y m',(ownedT c y m').note=0∨(ownedT c y m').note=2∨(ownedT c y m').note=3:=fun y m'=>by
  rcases EP c y m' with ⟨_,e⟩|⟨_,_,e⟩|⟨_,_,e⟩
  ·rw [e];exact .inr (.inr rfl)
  ·rw [e];exact .inl rfl
  ·rw [e];exact .inl rfl
 have hz:=AS hk2
 repeat' (rcases hz with rfl|hz)
 all_goals first
  |exact .inl rfl
  |(change (s15 c t x m).note=0∨(s15 c t x m).note=2∨(s15 c t x m).note=3;unfold s15;split<;>exact .inl rfl)
  |(change (s22 c t x m).note=0∨(s22 c t x m).note=2∨(s22 c t x m).note=3;unfold s22;dsimp only;split;exact .inl rfl;exact ho _ _)
  |(change (s23 c t x m).note=0∨(s23 c t x m).note=2∨(s23 c t x m).note=3;unfold s23;dsimp only;split;exact ho _ _;exact .inl rfl)
  |(change (s28 c t x m).note=0∨(s28 c t x m).note=2∨(s28 c t x m).note=3;unfold s28;split;exact .inr (.inl rfl);exact .inr (.inr rfl))
  |(change (s29 c t x m).note=0∨(s29 c t x m).note=2∨(s29 c t x m).note=3;unfold s29;dsimp only;split;exact .inr (.inr rfl);exact .inl rfl)
end Go.Proofs.YtccefppppedgkaaGreat
