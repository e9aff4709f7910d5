/- Joined: XTMemD, XTTaskA. -/
import Derived.Test.YtccefppppedgkaaGreatKHx
import Derived.Test.YtccefppppedgkaaGreatKHv
set_option linter.unusedVariables false
set_option linter.unusedSimpArgs false
set_option linter.unnecessarySimpa false
set_option maxRecDepth 100000
set_option maxHeartbeats 64000000
namespace Go.Proofs.YtccefppppedgkaaGreat
open Go.RowKit
section
attribute [local irreducible] AL AW RG Fin C Cd Cio AI AF AO
abbrev mD (n ln cn:Nat):Ob:=.box 135 [.sl 1 0 n,.sl 2 ln ln,.sl 3 cn cn,bo true]
abbrev mL (l:List KQ) (k:Nat):Ob:=.row k 83 7 (l.map tAc)
abbrev mC (l:List Int) (k:Nat):Ob:=.row k 3 1 (l.map tI)
abbrev MO (m:Mm) (n:Nat):List Ob:=[mD n m.log.length m.cnt.length,mR 0 m.w,mL m.log m.log.length,mC m.cnt m.cnt.length]
structure MK (m:Mm) (n:Nat):Prop where
 wl:m.w.length=n
 n0:0<n
 nm:n≤1048576
 ll:m.log.length≤1048576
 cl:m.cnt.length≤64
 cr : ∀x∈m.cnt,0≤x∧x≤1048576
def padI (l:List Int) (q:Nat):List Int:=l++List.replicate (q-l.length) 0
theorem f2_ (l:List Int) (q:Nat) (h:l.length≤q):(padI l q).length=q:=by
 unfold padI;rw [fP,iV];omega
theorem AaW (l:List Int):padI l l.length=l:=by unfold padI;simp
theorem AaX (l:List Int) (q:Nat) (h:l.length≤q):padI l q++[0]=padI l (q+1):=by
 unfold padI
 rw [show q+1-l.length=(q-l.length)+1 by omega,lV,gC]
theorem a4_ (l:List Int) (t:Nat):cntM l t=(padI l (max l.length (t+1))).set t ((padI l (max l.length (t+1))).getD t 0+1):=by
 have e:padI l (max l.length (t+1))=l++List.replicate (t+1-l.length) 0:=by
  unfold padI
  rw [show max l.length (t+1)-l.length=t+1-l.length by omega]
 rw [e];rfl
theorem AeB (l:List Int) (t:Nat):(cntM l t).length=max l.length (t+1):=by
 rw [a4_,iS,f2_ _ _ (Nat.le_max_left _ _)]
theorem AhH {l:List Int} {q:Nat} (h : ∀x∈l,0≤x∧x≤1048576) : ∀x∈padI l q,0≤x∧x≤1048576:=fun x hx=>by
 unfold padI at hx
 rcases gQ.1 hx with hx|hx
 ·exact h x hx
 ·rw [jD hx];decide
theorem AgE (m:Mm) (n:Nat) (K:MK m n) (t:Nat) (ht:t<64):Cio Tryz.prog 252 [.ptr 0 0,i64 t] (MO m n) (.tup []) (MO ⟨m.w,m.log,cntM m.cnt t⟩ n):=by
 have k1:=K.cl
 have e1:(m.cnt.map tI).length=m.cnt.length:=fN _
 have e2:=AeB m.cnt t
 have hG:cntM m.cnt t=(padI m.cnt (max m.cnt.length (t+1))).set t ((padI m.cnt (max m.cnt.length (t+1))).getD t 0+1):=a4_ _ _
 generalize cntM m.cnt t=G at *
 dsimp only [MO,mD,mL,mC]
 refine ZEN Tryz.func252 Tryz.ntmps252 ?_
 repeat' (first|refine Eu ?_|refine uS 6 (fun hb=>?_) (fun hb=>?_)|refine ZK2 (fun hc=>?_) (fun hc=>?_)|fail)
 all_goals try exact ZE5
 refine AW.loopP (fun (q:Nat)=>m.cnt.length≤q∧q≤max m.cnt.length (t+1)) (fun (q:Nat)=>(pu (pu (fun _=>.any) 0 (.ptr 0 0)) 1 (i64 t))) (fun (q:Nat)=>[.box 135 [.sl 1 0 n,.sl 2 m.log.length m.log.length,.sl 3 q q,bo true],.row 0 46 1 (m.w.map tU),.row m.log.length 83 7 (m.log.map tAc),.row q 3 1 ((padI m.cnt q).map tI)]) (fun (q:Nat)=>t+1-q) (m.cnt.length) ?_ ?_ ?_
 ·exact ⟨fV _,by omega⟩
 ·rw [AaW]
  exact Wk.cq 4
 ·rintro q ⟨h1,h2⟩
  have hpl:=f2_ m.cnt q h1
  have hpm:((padI m.cnt q).map tI).length=q:=by rw [fN,hpl]
  by_cases hq:q≤t
  ·repeat' (first|refine Eu ?_|refine uS 6 (fun hb=>?_) (fun hb=>?_)|refine ZK2 (fun hc=>?_) (fun hc=>?_)|fail)
   all_goals try exact ZE5
   refine ⟨q+1,⟨by omega,by omega⟩,by omega,?_⟩
   rw [←AaX _ _ h1]
   exact Wk.cq 4
  ·obtain rfl:q=max m.cnt.length (t+1):=by omega
   have hpr : ∀y∈padI m.cnt (max m.cnt.length (t+1)),0≤y∧y≤1048576:=AhH K.cr
   generalize padI m.cnt (max m.cnt.length (t+1))=z at *
   obtain ⟨y,hy⟩ : ∃y,z[t]? = some y:=⟨_,ZgE (by omega)⟩
   have hyr:=hpr y (fO hy)
   rw [fQ,hy,jK] at hG
   subst hG
   rw [iS,hpl]
   repeat' (first|refine Eu ?_|refine uS 6 (fun hb=>?_) (fun hb=>?_)|refine ZK2 (fun hc=>?_) (fun hc=>?_)|fail)
   all_goals exact A9 Tryz.results252
theorem d7_ (n ln cn:Nat) (l:List Int) (lg:List KQ) (ct:List Int) (hn:l.length=n) (h0:0<n):Cio Tryz.prog 74 [.ptr 0 0] [mD n ln cn,mR 0 l,mL lg ln,mC ct cn] (bo true) [mD n ln cn,mR 0 l,mL lg ln,mC ct cn]:=by
 refine C2 ?_
 repeat' (first|refine A0 ?_|refine uS 5 (fun hb=>?_) (fun hb=>?_)|refine ZK2 (fun hc=>?_) (fun hc=>?_)|fail)
 all_goals exact A3 Tryz.results74
theorem s7_ (m:Mm) (n:Nat) (K:MK m n) (t:Nat) (k ad w:Int) (f:FuncId) (fi cap:List AV) (x:Int) (ok:Bool) (hg:CV Tryz.prog (.fn (.func f) fi cap) [u64 (ld m ad)] (.tup [u64 x,bo ok]) []) (ha:0≤ad∧ad<n) (ht:t<64) :
  Cio Tryz.prog 222 [.ptr 0 0,.agg [i64 t,i64 k,i64 ad,u64 w,u64 0,u64 0,bo false],.fn (.func f) fi cap] (MO m n) (.tup [.agg [i64 t,i64 k,i64 ad,u64 w,u64 (ld m ad),u64 x,bo ok],i64 0])
   (MO ⟨m.w.set ad.toNat x,m.log++[⟨t,k,ad,w,ld m ad,x,ok⟩],cntM m.cnt t⟩ n):=by
 have k1:=K.wl
 have k2:=K.n0
 have k3:=K.nm
 have k4:=K.ll
 have e0:(m.w.map tU).length=m.w.length:=fN _
 have e1:(m.log.map tAc).length=m.log.length:=fN _
 have c1:=d7_ n m.log.length m.cnt.length m.w m.log m.cnt k1 k2
 have c2:=AgE ⟨m.w.set ad.toNat x,m.log,m.cnt⟩ n ⟨by rw [iS];exact k1,k2,k3,k4,K.cl,K.cr⟩ t ht
 obtain ⟨y,hy⟩ : ∃y,m.w[ad.toNat]? = some y:=⟨_,ZgE (by omega)⟩
 have hld:ld m ad=y:=by unfold ld;rw [fQ,hy];rfl
 rw [hld] at hg ⊢
 have e3:(m.log++[(⟨t,k,ad,w,y,x,ok⟩:KQ)]).length=m.log.length+1:=by simp
 dsimp only [MO,mD,mL,mC] at *
 rw [e3]
 generalize cntM m.cnt t=ct at *
 refine ZEN Tryz.func222 Tryz.ntmps222 ?_
 repeat' (first|(refine ZAL ?_;first|(refine kL 2659 rfl ?_;first|refine A_store_rp rfl rfl 83 _ _ rfl HV (by decide) rfl rfl fK rfl rfl rfl (ZbT rfl) bH qN ?_)|(refine kL 1475 rfl ?_;first|refine A_store_rp rfl rfl 46 _ _ rfl inf46 (by decide) rfl rfl fK rfl rfl rfl (ZbT rfl) bH qN ?_)|(refine kL 131 rfl ?_;first|refine A_store_rp rfl rfl 4 _ _ rfl AlQ (by decide) rfl rfl fK rfl rfl rfl (ZbT rfl) bH qN ?_)|refine uA ?_|refine uI [0,1,2,3] (c1) ?_|refine uV (hg) ?_|refine uI [0,1,2,3] (c2) ?_)|(refine ZRG ?_;first|(refine kR 12 rfl ?_;first|refine R_append rfl rfl _ _ 78 rfl i5_ HV rfl rfl rfl cY aA qB qB (by first|exact app_map aE|exact app_one (f:=tU) (x:=_) aE|exact app_one (f:=tAc) (x:=⟨_,_,_,_,_,_,_⟩) aE|exact qN) qN qS ?_|refine CX rfl rfl _ _ 78 rfl i5_ HV rfl rfl aA qB qB fJ qh qN qS ?_)|(refine kR 1475 rfl ?_;first|refine R_store_rp rfl rfl 46 _ _ rfl inf46 (by decide) rfl rfl fK rfl rfl rfl (ZbT rfl) bH qN ?_)|(refine kR 2511 rfl ?_;first|refine R_lit rfl rfl 78 1 _ rfl i5_ HV (.cons rfl .nil) (els:=[[_,_,_,_,_,_,_]]) rfl fJ rfl (gB rfl) (ZbT rfl) (ZbT rfl) qh qN ?_)|(refine kR 2499 rfl ?_;first|refine R_store_rp rfl rfl 78 _ _ rfl ApZ (by decide) rfl rfl fK rfl rfl rfl (ZbT rfl) bH qN ?_)|refine uR ?_)|refine uC ?_|(first|refine AW.drawU (id:=3) mixed 0 qR ?_|refine AW.drawU (id:=5) mixed 0 qR ?_|refine AW.drawU (id:=7) mixed 0 qR ?_|refine AW.drawU (id:=10) mixed 2 qR ?_)|refine ZK2 (fun hc=>?_) (fun hc=>?_)|fail)
 all_goals try exact ZE5
 all_goals ((first|exact Fin.q Tryz.results222 (.cons (.agg rfl rfl AjG rfl HV (us:=[_,_,_,_,_,_,_]) rfl rfl) (.cons (.tmp rfl) .nil)) []|refine Fin.q Tryz.results222 (.cons (.agg rfl rfl AjG rfl HV (us:=[_,_,_,_,_,_,_]) rfl rfl) (.cons (.tmp rfl) .nil)) [] (hr:=(.tupL (.cons (.t ?_) (.cons (.t ?_) .nil))))|refine Fin.mkv (rs:=_) Tryz.results222 (.cons (.agg rfl rfl AjG rfl HV (us:=[_,_,_,_,_,_,_]) rfl rfl) (.cons (.tmp rfl) .nil)) [] (by decide) rfl ?_ ?_ ?_<;>repeat' (first|exact ZE1|refine ZE2 ?_ ?_|refine ZE3 ?_|exact ZE4|fail)))
theorem AlZ (o:Int):Cd Tryz.prog 244 [u64 o] (.tup [u64 o,bo true]) []:=by
 refine ZEN Tryz.func244 Tryz.ntmps244 ?_
 repeat' (first|refine A0 ?_|refine ZK2 (fun hc=>?_) (fun hc=>?_)|fail)
 all_goals exact B3 Tryz.results244
theorem AiR (o x:Int):Cd Tryz.prog 245 [u64 o,.lp [u64 x]] (.tup [u64 x,bo true]) []:=by
 refine ZEN Tryz.func245 Tryz.ntmps245 ?_
 repeat' (first|refine A0 ?_|refine ZK2 (fun hc=>?_) (fun hc=>?_)|fail)
 all_goals exact B3 Tryz.results245
theorem AoH (o v x:Int):Cd Tryz.prog 251 [u64 o,.lp [u64 v],.lp [u64 x]] (.tup [u64 (if o=v then x else o),bo (decide (o=v))]) []:=by
 by_cases h:o=v
 ·rw [fR h,fW h]
  refine ZEN Tryz.func251 Tryz.ntmps251 ?_
  repeat' (first|refine A0 ?_|refine ZK2 (fun hc=>?_) (fun hc=>?_)|fail)
  all_goals exact B3 Tryz.results251
 ·rw [fT h,fZ h]
  refine ZEN Tryz.func251 Tryz.ntmps251 ?_
  repeat' (first|refine A0 ?_|refine ZK2 (fun hc=>?_) (fun hc=>?_)|fail)
  all_goals exact B3 Tryz.results251
theorem ArI (o z:Int):Cd Tryz.prog 223 [u64 o,.lp [u64 z]] (.tup [u64 (NX (o+z)),bo true]) []:=by
 refine ZEN Tryz.func223 Tryz.ntmps223 ?_
 repeat' (first|refine A0 ?_|refine ZK2 (fun hc=>?_) (fun hc=>?_)|fail)
 all_goals exact B3 Tryz.results223
theorem AiI (m:Mm) (a:Int):m.w.set a.toNat (ld m a)=m.w:=by
 refine iO fun i=>?_
 by_cases e:a.toNat=i
 ·by_cases h:i<m.w.length
  ·rw [e,jF h];unfold ld;rw [e,fQ,ZgE h];rfl
  ·rw [gS (by rw [iS];omega),gS (by omega)]
 ·rw [jJ e]
theorem AmG (m:Mm) (n:Nat) (K:MK m n) (t:Nat) (ht:t<64) (a:Int) (ha:0≤a∧a<n):Cio Tryz.prog 212 [.ptr 0 0,i64 t,i64 a] (MO m n) (.tup [u64 (ld m a),i64 0]) (MO (ldM m t a) n):=by
 have c1:=s7_ m n K t 1 a 0 244 [] [] (ld m a) true ⟨_,_,[],[],rfl,Tryz.func244,by kernel_rfl,by kernel_rfl,fun _=>.nil,fun _=>.nil,AlZ _⟩ ha ht
 rw [AiI] at c1
 have e:(⟨m.w,m.log++[⟨t,1,a,0,ld m a,ld m a,true⟩],cntM m.cnt t⟩:Mm)=ldM m t a:=rfl
 rw [e] at c1
 generalize ldM m t a=m' at *
 refine ZEN Tryz.func212 Tryz.ntmps212 ?_
 repeat' (first|refine Bf ?_|refine ZK2 (fun hc=>?_) (fun hc=>?_)|fail)
 all_goals exact B3 Tryz.results212
theorem AgR (m:Mm) (n:Nat) (K:MK m n) (t:Nat) (ht:t<64) (a w:Int) (ha:0≤a∧a<n):Cio Tryz.prog 213 [.ptr 0 0,i64 t,i64 a,u64 w] (MO m n) (i64 0) (MO (stM m t a w) n):=by
 have c1:=s7_ m n K t 2 a 0 245 [] [.lp [u64 w]] w true ⟨_,_,[],[.lp [u64 w]],rfl,Tryz.func245,by kernel_rfl,by kernel_rfl,fun _=>.nil,fun _=>.cons (.lpL (.cons (.t _) .nil)) .nil,AiR _ _⟩ ha ht
 have e:(⟨m.w.set a.toNat w,m.log++[⟨t,2,a,0,ld m a,w,true⟩],cntM m.cnt t⟩:Mm)=stM m t a w:=rfl
 rw [e] at c1
 generalize stM m t a w=m' at *
 refine ZEN Tryz.func213 Tryz.ntmps213 ?_
 repeat' (first|refine Bf ?_|refine ZK2 (fun hc=>?_) (fun hc=>?_)|fail)
 all_goals exact A3 Tryz.results213
theorem AmO (m:Mm) (n:Nat) (K:MK m n) (t:Nat) (ht:t<64) (a v w:Int) (ha:0≤a∧a<n):Cio Tryz.prog 221 [.ptr 0 0,i64 t,i64 a,u64 v,u64 w] (MO m n) (.tup [bo (decide (ld m a=v)),i64 0]) (MO (swM m t a v w) n):=by
 have c1:=s7_ m n K t 3 a v 251 [] [.lp [u64 v],.lp [u64 w]] (if ld m a=v then w else ld m a) (decide (ld m a=v)) ⟨_,_,[],[.lp [u64 v],.lp [u64 w]],rfl,Tryz.func251,by kernel_rfl,by kernel_rfl,fun _=>.nil,fun _=>.cons (.lpL (.cons (.t _) .nil)) (.cons (.lpL (.cons (.t _) .nil)) .nil),AoH _ _ _⟩ ha ht
 have e:(⟨m.w.set a.toNat (if ld m a=v then w else ld m a),m.log++[⟨t,3,a,v,ld m a,if ld m a=v then w else ld m a,decide (ld m a=v)⟩],cntM m.cnt t⟩:Mm)=swM m t a v w:=by
  unfold swM
  by_cases h:ld m a=v
  ·rw [fR h,fR h,fW h]
  ·rw [fT h,fT h,fZ h,AiI]
 rw [e] at c1
 generalize swM m t a v w=m' at *
 refine ZEN Tryz.func221 Tryz.ntmps221 ?_
 repeat' (first|refine Bf ?_|refine ZK2 (fun hc=>?_) (fun hc=>?_)|fail)
 all_goals exact B3 Tryz.results221
theorem AtD (m:Mm) (n:Nat) (K:MK m n) (t:Nat) (ht:t<64) (a z:Int) (ha:0≤a∧a<n):Cio Tryz.prog 181 [.ptr 0 0,i64 t,i64 a,u64 z] (MO m n) (.tup [u64 (ld m a),i64 0]) (MO (adM m t a z) n):=by
 have c1:=s7_ m n K t 4 a 0 223 [] [.lp [u64 z]] (NX (ld m a+z)) true ⟨_,_,[],[.lp [u64 z]],rfl,Tryz.func223,by kernel_rfl,by kernel_rfl,fun _=>.nil,fun _=>.cons (.lpL (.cons (.t _) .nil)) .nil,ArI _ _⟩ ha ht
 have e:(⟨m.w.set a.toNat (NX (ld m a+z)),m.log++[⟨t,4,a,0,ld m a,NX (ld m a+z),true⟩],cntM m.cnt t⟩:Mm)=adM m t a z:=rfl
 rw [e] at c1
 generalize adM m t a z=m' at *
 refine ZEN Tryz.func181 Tryz.ntmps181 ?_
 repeat' (first|refine Bf ?_|refine ZK2 (fun hc=>?_) (fun hc=>?_)|fail)
 all_goals exact B3 Tryz.results181
abbrev rB (c:AB) (x:AC) (t:Nat) (nt:Int) (wn:Bool) (op:List DOp):Ob:=.box 187
  [i64 x.pc,i64 x.seq,i64 x.req.kind,i64 x.req.arg,i64 x.req.value,bo x.req.dflt,.t (.lst (x.req.cases.map tCs)),bo x.slow,i64 x.round,i64 x.i,i64 x.j,i64 x.tri,i64 x.epoch,bo x.all_,i64 x.base.index,i64 x.base.tag,
   .t (.lst (x.buf.map tU)),.t (.lst (x.nxt.map tU)),u64 x.word,.t (.lst (x.args.map tU)),.t (.lst (x.found.map tOp)),.t (.lst (x.seen.map tU)),
   i64 x.pool.own.index,i64 x.pool.own.tag,.t (.lst (x.pool.free.map tSl)),.t (.lst (x.pool.old.map tOd)),i64 x.pool.spent,i64 x.res.seq,i64 x.res.cas,i64 x.res.code,i64 x.res.value,bo x.won,bo x.waits,bo x.scans,
   i64 c.kind,i64 c.threads,i64 c.chans,i64 c.cap,i64 c.nodes,i64 c.retire,i64 c.patience,i64 c.tags,i64 c.seqs,i64 c.gens,.t (.lst (c.start.map tI)),
   .ptr 1 0,i64 t,i64 nt,bo wn,.t (.lst (op.map tOp))]
abbrev RO (c:AB) (x:AC) (t:Nat) (nt:Int) (wn:Bool) (op:List DOp) (m:Mm) (n:Nat):List Ob :=
 [rB c x t nt wn op,.box 135 [.sl 2 0 n,.sl 3 m.log.length m.log.length,.sl 4 m.cnt.length m.cnt.length,bo true],mR 0 m.w,mL m.log m.log.length,mC m.cnt m.cnt.length]
theorem BY (c:AB) (x:AC) (t:Nat) (nt:Int) (wn:Bool) (op:List DOp) (m:Mm) (n:Nat) (K:MK m n) (ht:t<64) (a:Int) (ha:0≤a∧a<n) :
  Cio Tryz.prog 160 [.ptr 0 0,i64 a] (RO c x t nt wn op m n) (u64 (ld m a)) (RO c x t nt wn op (ldM m t a) n):=by
 have c1:=AmG m n K t ht a ha
 generalize ldM m t a=m' at *
 refine ZEN Tryz.func160 Tryz.ntmps160 ?_
 repeat' (first|refine H7 ?_|refine ZK2 (fun hc=>?_) (fun hc=>?_)|fail)
 all_goals first|(exfalso;omega)|((first|exact A6 Tryz.results160|refine A5 Tryz.results160 ?_|refine A8 Tryz.results160 ?_ ?_ ?_<;>repeat' (first|exact ZE1|refine ZE2 ?_ ?_|refine ZE3 ?_|exact ZE4|fail)))
theorem DK (c:AB) (x:AC) (t:Nat) (nt:Int) (wn:Bool) (op:List DOp) (m:Mm) (n:Nat) (K:MK m n) (ht:t<64) (a w:Int) (ha:0≤a∧a<n) :
  Cio Tryz.prog 161 [.ptr 0 0,i64 a,u64 w] (RO c x t nt wn op m n) (.tup []) (RO c x t nt wn op (stM m t a w) n):=by
 have c1:=AgR m n K t ht a w ha
 generalize stM m t a w=m' at *
 refine ZEN Tryz.func161 Tryz.ntmps161 ?_
 repeat' (first|refine uA ?_|(refine ZRG ?_;first|refine uR ?_|refine uJ [1,2,3,4] (c1) ?_)|refine uC ?_|refine AW.drawU (id:=0) mixed 2 qR ?_|refine ZK2 (fun hc=>?_) (fun hc=>?_)|fail)
 all_goals first|(exfalso;omega)|((first|exact Fin.q Tryz.results161 .nil []|refine Fin.q Tryz.results161 .nil [] (hr:=(.tupL .nil))|refine Fin.mkv (rs:=_) Tryz.results161 .nil [] (by decide) rfl ?_ ?_ ?_<;>repeat' (first|exact ZE1|refine ZE2 ?_ ?_|refine ZE3 ?_|exact ZE4|fail)))
theorem RF (c:AB) (x:AC) (t:Nat) (nt:Int) (wn:Bool) (op:List DOp) (m:Mm) (n:Nat) (K:MK m n) (ht:t<64) (a v w:Int) (ha:0≤a∧a<n) :
  Cio Tryz.prog 180 [.ptr 0 0,i64 a,u64 v,u64 w] (RO c x t nt wn op m n) (bo (decide (ld m a=v))) (RO c x t nt wn op (swM m t a v w) n):=by
 have c1:=AmO m n K t ht a v w ha
 generalize swM m t a v w=m' at *
 refine ZEN Tryz.func180 Tryz.ntmps180 ?_
 repeat' (first|refine H7 ?_|refine ZK2 (fun hc=>?_) (fun hc=>?_)|fail)
 all_goals first|(exfalso;omega)|((first|exact A6 Tryz.results180|refine A5 Tryz.results180 ?_|refine A8 Tryz.results180 ?_ ?_ ?_<;>repeat' (first|exact ZE1|refine ZE2 ?_ ?_|refine ZE3 ?_|exact ZE4|fail)))
end
end Go.Proofs.YtccefppppedgkaaGreat
