/- Joined: XTFitsR, XTPutR, XTWords, XTRead, XTReadH, XTReadX, XTReadR, XTReadS, XTRef08, XTLifo, XTStartO. -/
import Derived.Test.YtccefppppedgkaaGreatKHx
import Derived.Test.YtccefppppedgkaaGreatKHzf
set_option linter.unusedVariables false
set_option linter.unusedSimpArgs false
set_option linter.unnecessarySimpa false
set_option maxRecDepth 100000
set_option maxHeartbeats 64000000
namespace Go.Proofs.YtccefppppedgkaaGreat
open Go.RowKit
section
attribute [local irreducible] AL AW RG Fin C Cd Cio AI AF AO
theorem x8_ (a b:List Int) (ha:a.length≤1152921504606846976):Cd Tryz.prog 19 [.ln (a.map tU),.ln (b.map tU)] (bo (decide (a=b))) []:=by
 have h1:(a.map tU).length=a.length:=fN _
 have h2:(b.map tU).length=b.length:=fN _
 refine ZEN Tryz.func19 Tryz.ntmps19 ?_
 repeat' (first|refine A0 ?_|refine kcp rfl (fun hc=>?_) (fun hc=>?_)|fail)
 ·refine A5 Tryz.results19 ?_
  have:a≠b:=by rintro rfl;exact hc rfl
  simp [this]
 ·refine AW.loopP (fun (i:Nat)=>∀j,j<i→a.getD j 0=b.getD j 0) (fun (i:Nat)=>(pu (pu (pu (pu (pu (fun _=>.any) 0 (.ln (a.map tU))) 1 (.ln (b.map tU))) 4 (.t (.v (.bool false)))) 12 (i64 (a.map tU).length)) 13 (i64 i))) (fun (i:Nat)=>[]) (fun (i:Nat)=>a.length+1-i) (0) ?_ ?_ ?_
  ·intro j hj;omega
  ·exact Wk.cq 0
  ·intro i hi
   repeat' (first|refine uA ?_|refine uR ?_|refine uC ?_|refine AW.drawU (id:=6) mixed 0 qR ?_|refine kcp rfl (fun hc=>?_) (fun hc=>?_)|fail)
   ·refine A5 Tryz.results19 ?_
    have:a≠b:=by rintro rfl;exact hc rfl
    simp [this]
   ·refine ⟨i+1,fun j hj=>?_,by omega,?_⟩
    ·by_cases e:j=i
     ·subst e;exact Decidable.not_not.1 hc
     ·exact hi j (by omega)
    ·exact Wk.cq 0
   ·refine A5 Tryz.results19 ?_
    have:a=b:=j9_ (z:=0) (by omega) fun j hj=>hi j (by omega)
    simp [this]
abbrev fCh (x:AY):AV:=.agg [i64 x.gen,i64 x.cap,bo x.used,bo x.closed,.t (.lst (x.buf.map tI))]
abbrev fWt (w:AH):AV:=.agg [bo w.on,i64 w.ticket,i64 w.seq,.t (.lst (w.cases.map tCs))]
abbrev fHl (h:AM):AV:=.agg [i64 h.ticket,.t (.lst (h.chans.map tCh)),.t (.lst (h.waits.map tWt)),.t (.lst (h.done.map tR))]
abbrev fCl (x:CO):AV:=.agg [i64 x.cap,.t (.lst (x.list.map tI)),.t (.lst (x.done.map tR))]
theorem YL {l:List Int} (h:okU l) {i:Nat} {a:Int} (ha:l[i]? = some a):0≤a∧a≤18446744073709551615:=h a (fO ha)
theorem NE {l:List Int} {i:Nat} {a:Int} (ha:l[i]? = some a) (hl:l.length≤1000000):Cio Tryz.prog 271 [.ptr 0 0] [aRd (l.drop i)] (u64 a) [aRd (l.drop (i+1))]:=by
 have cN:=QZ (l.drop i) bA
 rwa [CZ ha,mF,gW,iK, ←CZ ha] at cN
theorem AiF (l:List Int) (hU:okU l) (m cap:Int) (n i:Nat) (hc:cap=n) (hn:i+n≤l.length) (hl:l.length≤1000000) (hm : -9223372036854775808≤m∧m≤9223372036854775807) :
  Cio Tryz.prog 279 [.ptr 0 0,i64 m,i64 cap] [aRd (l.drop i)] (.t (.lst ((DF (l.drop i) n m).map tI))) [aRd (l.drop (i+n))]:=by
 subst hc
 have:=AuH (l.drop i) (e9_ hU i) m n bA bA hm
 rwa [kD] at this
theorem AnR (l:List Int) (hU:okU l) (n:Nat) (hn:n≤l.length) (hl:l.length≤1000000) :
  Cio Tryz.prog 274 [.ptr 0 0,i64 n] [aRd l] (.t (.lst ((HH l n).map tR))) [aRd (l.drop n)]:=by
 have hz:HH l 0=[]:=by simp [HH]
 refine ZEN Tryz.func274 Tryz.ntmps274 ?_
 repeat' (first|refine A0 ?_|fail)
 refine AW.wk (Wk.own 5 rfl 53 4 (.push rfl rfl)) ?_
 refine AW.loopP (fun (i:Nat)=>i≤n) (fun (i:Nat)=>(pu (pu (pu (pu (fun _=>.any) 0 (.ptr 0 0)) 5 (.sl 1 i i)) 6 (i64 n)) 7 (i64 i))) (fun (i:Nat)=>[aRd (l.drop i),.row i 53 4 ((HH l i).map tR)]) (fun (i:Nat)=>n-i) (0) ?_ ?_ ?_
 ·exact fX _
 ·rw [hz]
  exact Wk.cq 2
 ·intro i h2
  have hL:(HH l i).length=i:=by simp [HH];omega
  by_cases hi:i<n
  ·obtain ⟨a,ha⟩ : ∃a,l[i]? = some a:=⟨_,ZgE (by omega)⟩
   have cN:=NE ha hl
   have cR:=GT a (YL hU ha)
   have hs:HH l (i+1)=HH l i++[readR a]:=by unfold HH;rw [iB,ha];simp
   repeat' (first|(refine ZAL ?_;first|(refine kL 3055 rfl ?_;first|refine A_lit rfl rfl 95 1 _ rfl ud95 inf53 (.cons rfl .nil) (els:=[[_,_,_,_]]) rfl (by exact (rfl:_=List.map tR [⟨_,_,_,_⟩])) rfl (gB rfl) (ZbT rfl) (ZbT rfl) (.push qL qN) ?_)|refine uA ?_|refine uI [0] (cN) ?_|refine uK (cR) ?_)|refine uC ?_|fail)
   all_goals try exact ZE5
   refine ⟨i+1,by omega,by omega,?_⟩
   rw [hs]
   exact Wk.cq 2
  ·obtain rfl:i=n:=by omega
   repeat' (first|(refine ZAL ?_;first|refine Fq ?_|(refine kL 3055 rfl ?_;first|refine A_lit rfl rfl 95 1 _ rfl ud95 inf53 (.cons rfl .nil) (els:=[[_,_,_,_]]) rfl bF rfl (gB rfl) (ZbT rfl) (ZbT rfl) (.push qL qN) ?_)|(refine kL 12 rfl ?_;first|refine A_append_nlsub rfl rfl _ _ 95 rfl ud95 inf53 rfl rfl rfl rfl aJ qB qB iU.symm (.push qL qN) ?_)|refine uA ?_)|refine uC ?_|refine ZK2 (fun hc=>?_) (fun hc=>?_)|fail)
   all_goals exact A2 Tryz.results274
theorem v4_ (l:List Int) (hU:okU l) (th:Int) (n i:Nat) (hc:th=n) (hn:i+n≤l.length) (hl:l.length≤1000000) :
  Cio Tryz.prog 274 [.ptr 0 0,i64 th] [aRd (l.drop i)] (.t (.lst ((HH (l.drop i) n).map tR))) [aRd (l.drop (i+n))]:=by
 subst hc
 have:=AnR (l.drop i) (e9_ hU i) n bA bA
 rwa [kD] at this
theorem AnD (c:AB) (n:Nat) (hc:c.cap=n) (l:List Int) (hU:okU l) (i:Nat) (hn:i+(n+1)≤l.length) (hl:l.length≤1000000) :
  Cio Tryz.prog 272 [.ptr 0 0,aCf c] [aRd (l.drop i)] (fCh (rdC n (l.drop i))) [aRd (l.drop (i+(n+1)))]:=by
 obtain ⟨a,ha⟩ : ∃a,l[i]? = some a:=⟨_,ZgE (by omega)⟩
 have hb:=YL hU ha
 have cN:=NE ha hl
 have cR:=AiF l hU (a/1048576%16) c.cap n (i+1) hc (by omega) hl (by omega)
 have e0:(l.drop i).headD 0=a:=by rw [CZ ha];rfl
 unfold rdC
 rw [e0,kD,show i+(n+1)=i+1+n by omega]
 refine ZEN Tryz.func272 Tryz.ntmps272 ?_
 repeat' (first|(refine ZAL ?_;first|(refine kL 1481 rfl ?_;first|refine A_bits rfl rfl .and 46 46 _ _ rfl rfl rfl rfl (and_lit 12 (M:=4096) rfl rfl (by omega) (by omega) (by omega)) ?_|refine A_shr rfl rfl 46 159 _ _ rfl rfl rfl (by decide) (fdiv_lit (m:=4096) rfl (by decide)) ?_|refine A_bits rfl rfl .and 46 46 _ _ rfl rfl rfl rfl (and_lit 4 (M:=16) rfl rfl (by omega) (by omega) (by omega)) ?_|refine A_shr rfl rfl 46 159 _ _ rfl rfl rfl (by decide) (fdiv_lit (m:=65536) rfl (by decide)) ?_|refine A_bits rfl rfl .and 46 46 _ _ rfl rfl rfl rfl (and_lit 1 (M:=2) rfl rfl (by omega) (by omega) (by omega)) ?_|refine A_shr rfl rfl 46 159 _ _ rfl rfl rfl (by decide) (fdiv_lit (m:=131072) rfl (by decide)) ?_|refine A_shr rfl rfl 46 159 _ _ rfl rfl rfl (by decide) (fdiv_lit (m:=1048576) rfl (by decide)) ?_)|refine uA ?_|refine uI [0] (cN) ?_|refine uI [0] (cR) ?_)|refine uC ?_|fail)
 all_goals first|(exfalso;omega)|(exact Fin.q Tryz.results272 (.cons (.agg rfl rfl ud101 rfl inf101 (us:=[_,_,_,_,_]) rfl rfl) .nil) [])
def KV (l:List Int) (i:Nat) (m:Int):List BF:=(l.take (min m.toNat i)).map rdK
theorem AbE {l:List Int} {i:Nat} {a m:Int} (ha:l[i]? = some a) (h:(i:Int)<m):KV l (i+1) m=KV l i m++[rdK a]:=by
 unfold KV
 rw [show min m.toNat (i+1)=i+1 by omega,show min m.toNat i=i by omega,iB,ha];simp
theorem AbD {l:List Int} {i:Nat} {m:Int} (h : ¬(i:Int)<m):KV l (i+1) m=KV l i m:=by
 unfold KV
 rw [show min m.toNat (i+1)=m.toNat by omega,show min m.toNat i=m.toNat by omega]
theorem AnU (l:List Int) (hU:okU l) (i0:Nat) (hn:i0+4≤l.length) (hl:l.length≤1000000) :
  Cio Tryz.prog 273 [.ptr 0 0] [aRd (l.drop i0)] (fWt (rdW (l.drop i0))) [aRd (l.drop (i0+4))]:=by
 obtain ⟨a,ha⟩ : ∃a,l[i0]? = some a:=⟨_,ZgE (by omega)⟩
 have hb:=YL hU ha
 have cN:=NE ha hl
 have e0:(l.drop i0).headD 0=a:=by rw [CZ ha];rfl
 have e1:(((l.drop i0).drop 1).take 3).take (a/2%8).toNat=(l.drop (i0+1)).take (min (a/2%8).toNat 3):=by rw [kD,List.take_take]
 unfold rdW
 rw [e0,e1]
 have hz:KV (l.drop (i0+1)) 0 (a/2%8)=[]:=by simp [KV]
 refine ZEN Tryz.func273 Tryz.ntmps273 ?_
 repeat' (first|(refine ZAL ?_;first|(refine kL 1481 rfl ?_;first|refine A_bits rfl rfl .and 46 46 _ _ rfl rfl rfl rfl (and_lit 1 (M:=2) rfl rfl (by omega) (by omega) (by omega)) ?_|refine A_shr rfl rfl 46 159 _ _ rfl rfl rfl (by decide) (fdiv_lit (m:=16) rfl (by decide)) ?_|refine A_bits rfl rfl .and 46 46 _ _ rfl rfl rfl rfl (and_lit 20 (M:=1048576) rfl rfl (by omega) (by omega) (by omega)) ?_|refine A_shr rfl rfl 46 159 _ _ rfl rfl rfl (by decide) (fdiv_lit (m:=4294967296) rfl (by decide)) ?_|refine A_shr rfl rfl 46 159 _ _ rfl rfl rfl (by decide) (fdiv_lit (m:=2) rfl (by decide)) ?_|refine A_bits rfl rfl .and 46 46 _ _ rfl rfl rfl rfl (and_lit 3 (M:=8) rfl rfl (by omega) (by omega) (by omega)) ?_)|refine uA ?_|refine uI [0] (cN) ?_)|refine uC ?_|fail)
 all_goals try exact ZE5
 refine AW.wk (Wk.ownB 2 3 rfl rfl 141 3 (.push rfl rfl) rfl) ?_
 refine AW.loopP (fun (x:Nat × Nat × Nat)=>x.1≤3∧x.2.2=(KV (l.drop (i0+1)) x.1 (a/2%8)).length) (fun (x:Nat × Nat × Nat)=>(pu (pu (pu (pu (pu (fun _=>.any) 0 (.ptr 0 0)) 2 (.ptr 1 0)) 4 (.ptr 2 0)) 5 (i64 (a/2%8))) 25 (i64 x.1))) (fun (x:Nat × Nat × Nat)=>[aRd (l.drop (i0+1+x.1)),.box 167 [bo false,i64 0,i64 0,.nl],.box 167 [bo (decide (a%2=1)),i64 (a/4294967296),i64 (a/16%1048576),.sl 3 x.2.1 x.2.2],.row x.2.1 141 3 ((KV (l.drop (i0+1)) x.1 (a/2%8)).map tCs)]) (fun (x:Nat × Nat × Nat)=>3-x.1) ((0,0,0)) ?_ ?_ ?_
 ·exact ⟨fX _,by rw [hz];rfl⟩
 ·dsimp only
  rw [hz]
  exact Wk.cq 4
 ·rintro ⟨i,k,c⟩ ⟨h2,h3⟩
  dsimp only at h2 h3 ⊢
  have hR:(KV (l.drop (i0+1)) i (a/2%8)).length≤i:=by simp [KV];omega
  by_cases hi:i<3
  ·obtain ⟨b,hb1⟩ : ∃b,l[i0+1+i]? = some b:=⟨_,ZgE (by omega)⟩
   have hb2:(l.drop (i0+1))[i]? = some b:=by rw [gK];exact hb1
   have hbb:=YL hU hb1
   have cN:=NE hb1 hl
   by_cases hk:(i:Int)<a/2%8
   ·have hs:KV (l.drop (i0+1)) (i+1) (a/2%8)=KV (l.drop (i0+1)) i (a/2%8)++[⟨b%256,b/256%65536,b/4294967296⟩]:=AbE hb2 hk
    repeat' (first|(refine ZAL ?_;first|(refine kL 1481 rfl ?_;first|refine A_shr rfl rfl 46 159 _ _ rfl rfl rfl (by decide) (fdiv_lit (m:=4294967296) rfl (by decide)) ?_|refine A_bits rfl rfl .and 46 46 _ _ rfl rfl rfl rfl (and_lit 8 (M:=256) rfl rfl (by omega) (by omega) (by omega)) ?_|refine A_shr rfl rfl 46 159 _ _ rfl rfl rfl (by decide) (fdiv_lit (m:=256) rfl (by decide)) ?_|refine A_bits rfl rfl .and 46 46 _ _ rfl rfl rfl rfl (and_lit 16 (M:=65536) rfl rfl (by omega) (by omega) (by omega)) ?_)|(refine kL 975 rfl ?_;first|refine A_lit rfl rfl 30 1 _ rfl ud30 inf141 (.cons rfl .nil) (els:=[[_,_,_]]) rfl (by exact (rfl:_=List.map tCs [⟨_,_,_⟩])) rfl (gB rfl) (ZbT rfl) (ZbT rfl) (.push qL qN) ?_)|refine uA ?_|refine uI [0] (cN) ?_)|refine uC ?_|fail)
    all_goals try exact ZE5
    refine ⟨(i+1,k+1,c+1),⟨by dsimp only;omega,by dsimp only;rw [hs];simp;omega⟩,by dsimp only;omega,?_⟩
    rw [hs]
    exact Wk.cq 4
   ·have hs:KV (l.drop (i0+1)) (i+1) (a/2%8)=KV (l.drop (i0+1)) i (a/2%8):=AbD hk
    repeat' (first|(refine ZAL ?_;first|refine uA ?_|refine uI [0] (cN) ?_)|refine uC ?_|fail)
    all_goals try exact ZE5
    refine ⟨(i+1,k,c),⟨by dsimp only;omega,by dsimp only;rw [hs];exact h3⟩,by dsimp only;omega,?_⟩
    rw [hs]
    exact Wk.cq 4
  ·obtain rfl:i=3:=by omega
   subst h3
   refine AW.wk (Wk.freezeB 3 rfl 2 rfl (.cons bT (.cons bT (.cons bT (.cons bT (.nil))))) rfl) ?_
   repeat' (first|refine A0 ?_|fail)
   all_goals first|(exfalso;omega)|(exact Fin.q Tryz.results273 (.cons (.agg rfl rfl AjE rfl inf167 (us:=[_,_,_,_]) rfl rfl) .nil) [])
theorem a9_ (a b:List Int) (ha:a.length≤1152921504606846976):Cd Tryz.prog 275 [.ln (a.map tU),.ln (b.map tU)] (bo (decide (a=b))) []:=by
 have h1:(a.map tU).length=a.length:=fN _
 have h2:(b.map tU).length=b.length:=fN _
 refine ZEN Tryz.func275 Tryz.ntmps275 ?_
 repeat' (first|refine A0 ?_|refine kcp rfl (fun hc=>?_) (fun hc=>?_)|fail)
 ·refine A5 Tryz.results275 ?_
  have:a≠b:=by rintro rfl;exact hc rfl
  simp [this]
 ·refine AW.loopP (fun (i:Nat)=>∀j,j<i→a.getD j 0=b.getD j 0) (fun (i:Nat)=>(pu (pu (pu (pu (pu (fun _=>.any) 0 (.ln (a.map tU))) 1 (.ln (b.map tU))) 4 (.t (.v (.bool false)))) 12 (i64 (a.map tU).length)) 13 (i64 i))) (fun (i:Nat)=>[]) (fun (i:Nat)=>a.length+1-i) (0) ?_ ?_ ?_
  ·intro j hj;omega
  ·exact Wk.cq 0
  ·intro i hi
   repeat' (first|refine uA ?_|refine uR ?_|refine uC ?_|refine AW.drawU (id:=6) mixed 0 qR ?_|refine kcp rfl (fun hc=>?_) (fun hc=>?_)|fail)
   ·refine A5 Tryz.results275 ?_
    have:a≠b:=by rintro rfl;exact hc rfl
    simp [this]
   ·refine ⟨i+1,fun j hj=>?_,by omega,?_⟩
    ·by_cases e:j=i
     ·subst e;exact Decidable.not_not.1 hc
     ·exact hi j (by omega)
    ·exact Wk.cq 0
   ·refine A5 Tryz.results275 ?_
    have:a=b:=j9_ (z:=0) (by omega) fun j hj=>hi j (by omega)
    simp [this]
theorem AbC (n:Nat) (l:List Int) (i:Nat):OV n l (i+1)=OV n l i++[rdC n (l.drop (i*(n+1)))]:=by unfold OV;rw [kG];simp
theorem AbG (l:List Int) (i:Nat):TR l (i+1)=TR l i++[rdW (l.drop (i*4))]:=by unfold TR;rw [kG];simp
theorem TQ (n:Nat) (l:List Int) (i:Nat):(OV n l i).length=i:=by simp [OV]
theorem g1_ (l:List Int) (i:Nat):(TR l i).length=i:=by simp [TR]
theorem AmU (c:AB) (l:List Int) (h:l.length≤1000000) (h1:c.chans.toNat≤1000000) (h2:c.threads.toNat≤1000000):okH (LN c l):=by
 refine ⟨?_,fun x hx=>?_,?_,fun x hx=>?_,?_⟩
 ·show (OV _ _ _).length≤_;rw [TQ];omega
 ·obtain ⟨i,_,rfl⟩:=iW.1 hx
  show (DF _ _ _).length≤_
  unfold DF;simp;omega
 ·show (TR _ _).length≤_;rw [g1_];omega
 ·obtain ⟨i,_,rfl⟩:=iW.1 hx
  show (((List.take _ _).map rdK).length)≤_
  simp;omega
 ·show (HH _ _).length≤_;unfold HH;simp;omega
theorem AmD {c:AB} {l:List Int} (h : ¬(AZ c=true∧c.kind=3∧(l.length:Int)=sizeC c)):HF c l=false:=by
 unfold HF
 cases hk:AZ c
 ·rfl
 ·by_cases k:c.kind=3
  ·have : ¬(l.length:Int)=sizeC c:=fun e=>h ⟨hk,k,e⟩
   rw [fZ this];simp
  ·rw [fZ k];rfl
theorem AgB {c:AB} {l:List Int} (hk:AZ c=true) (k:c.kind=3) (e:(l.length:Int)=sizeC c):HF c l=decide (putH c (LN c l)=l):=by
 unfold HF;rw [hk,fW k,fW e];rfl
theorem AgT {c:AB} {l:List Int} (h:HF c l=false):readH c l=noH:=by unfold readH;rw [h];rfl
theorem AnB {c:AB} {l:List Int} (h:HF c l=true):readH c l=LN c l:=by unfold readH;rw [h];rfl
abbrev AxJ (c:AB):List AV:=[i64 c.kind,i64 c.threads,i64 c.chans,i64 c.cap,i64 c.nodes,i64 c.retire,i64 c.patience,i64 c.tags,i64 c.seqs,i64 c.gens,.ln (c.start.map tI)]
theorem AnI (c:AB) (l:List Int) (hs:c.start.length≤1152921504606846976) (hU:okU l) (hl0:l.length≤1152921504606846976):Cd Tryz.prog 263 [aCf c,fU l] (.tup [fHl (readH c l),bo (HF c l)]) []:=by
 have c1:=ES c hs
 have c2:=o_ c hs
 have g1:(l.map tU).length=l.length:=fN _
 by_cases hA:AZ c=true∧c.kind=3∧(l.length:Int)=sizeC c
 ·obtain ⟨h0,h1,h2⟩:=hA
  rw [h0] at c1
  have hsh:=AJ h0
  have hb:=hsh.h3 h1
  have ht0:=hsh.t0
  have ht1:=hsh.t1
  obtain ⟨n,hn⟩ : ∃n:Nat,c.cap=n:=⟨c.cap.toNat,by omega⟩
  obtain ⟨m,hm⟩ : ∃m:Nat,c.chans=m:=⟨c.chans.toNat,by omega⟩
  obtain ⟨t,ht⟩ : ∃t:Nat,c.threads=t:=⟨c.threads.toNat,by omega⟩
  have hlen:l.length=1+m*(n+1)+t*4+t:=by
   have h3:=h2
   rw [NK h0 h1,hn,hm,ht] at h3
   have e:((m*(n+1):Nat):Int)=(m:Int)*(1+n):=by rw [Int.natCast_mul];congr 1;omega
   omega
  have hmn:m*(n+1)≤72:=jA (Nat.mul_le_mul (show m≤8 by omega) (show n+1≤9 by omega)) (by decide)
  have hl:l.length≤1000000:=by omega
  have hmul : ∀i,i≤m→i*(n+1)≤m*(n+1):=fun i hi=>iE _ hi
  have hN:=QZ l hl0
  have hb0:=WD hU
  have hraw:LN c l=⟨l.headD 0%4294967296,OV n (l.drop 1) m,TR (l.drop (1+m*(n+1))) t,HH (l.drop (1+m*(n+1)+t*4)) t⟩:=by unfold LN;rw [hn,hm,ht];rfl
  have cP:=n1_ c (LN c l) hs (AmU c l hl (by omega) (by omega))
  have hpl:(putH c (LN c l)).length≤1152921504606846976:=by
   cases hf:DZ c (LN c l)
   ·unfold putH;rw [hf];exact fX _
   ·have:=NB hf;omega
  have cE:=a9_ (putH c (LN c l)) l hpl
  have hmay:=AgB h0 h1 h2
  rw [hraw] at cP
  refine ZEN Tryz.func263 Tryz.ntmps263 ?_
  repeat' (first|(refine ZAL ?_;first|refine Ag ?_|refine uA ?_|refine uK (c1) ?_|refine uK (c2) ?_|refine uI [2] (hN) ?_)|(refine ZRG ?_;first|refine Bn ?_|refine Bo ?_|refine uR ?_)|refine uC ?_|refine Bq ?_|refine uS 11 (fun hb=>?_) (fun hb=>?_)|refine uS 16 (fun hb=>?_) (fun hb=>?_)|refine ZK2 (fun hc=>?_) (fun hc=>?_)|fail)
  all_goals try exact ZE5
  refine AW.wk (Wk.ownB 3 1 rfl rfl 101 5 (.push rfl rfl) rfl) ?_
  refine AW.loopP (fun (i:Nat)=>i≤m) (fun (i:Nat)=>(pu (pu (pu (pu (pu (pu (pu (fun _=>.any) 1 (fU l)) 2 (.ptr 0 0)) 4 (.ptr 1 0)) 6 (.ptr 2 0)) 7 (.ptr 3 0)) 33 (i64 c.chans)) 34 (i64 i))) (fun (i:Nat)=>[.box 24 (AxJ c),.box 97 [i64 0,.nl,.nl,.nl],aRd (l.drop (1+i*(n+1))),.box 97 [i64 (l.headD 0%4294967296),.sl 4 i i,.nl,.nl],.row i 101 5 ((OV n (l.drop 1) i).map tCh)]) (fun (i:Nat)=>m-i) (0) ?_ ?_ ?_
  ·exact fX _
  ·rw [Nat.zero_mul]
   exact Wk.cq 5
  ·intro i h3
   have hL:=TQ n (l.drop 1) i
   have hLt:(OV n l.tail i).length=i:=TQ n l.tail i
   have hM:=hmul i h3
   by_cases hi:i<m
   ·have hM1:=hmul (i+1) hi
    have e1:1+(i+1)*(n+1)=1+i*(n+1)+(n+1):=by rw [kF];omega
    have cC:=AnD c n hn l hU (1+i*(n+1)) (by omega) hl
    have hsx:=AbC n (l.drop 1) i
    rw [kD] at hsx
    repeat' (first|(refine ZAL ?_;first|(refine kL 3107 rfl ?_;first|refine A_store_rp rfl rfl 97 _ _ rfl inf97 (by decide) rfl rfl aI rfl rfl rfl (ZbT rfl) dX qN ?_)|refine Ag ?_|(refine kL 3043 rfl ?_;first|refine A_store_rp rfl rfl 95 _ _ rfl AfJ (by decide) rfl rfl aI rfl rfl rfl (ZbT rfl) dX qN ?_)|refine uA ?_)|(refine ZRG ?_;first|(refine kR 2991 rfl ?_;first|refine R_lit rfl rfl 93 1 _ rfl ud93 inf101 (.cons rfl .nil) (els:=[[_,_,_,_,_]]) rfl dW rfl (gB rfl) (ZbT rfl) (ZbT rfl) qh qN ?_)|(refine kR 12 rfl ?_;first|refine R_append rfl rfl _ _ 93 rfl ud93 inf101 rfl rfl rfl cY aA qB qB (by first|exact app_map aE|exact app_one (f:=tCh) (x:=⟨_,_,_,_,_⟩) aE|exact qN) qN qS ?_|refine R_append rfl rfl _ _ 94 rfl ud94 inf167 rfl rfl rfl cY aA qB qB (by first|exact app_map aE|exact app_one (f:=tCh) (x:=⟨_,_,_,_,_⟩) aE|exact qN) qN qS ?_|refine CX rfl rfl _ _ 93 rfl ud93 inf101 rfl rfl aA qB qB dW qh qN qS ?_|refine CX rfl rfl _ _ 94 rfl ud94 inf167 rfl rfl aA qB qB dW qh qN qS ?_)|(refine kR 2979 rfl ?_;first|refine R_store_rp rfl rfl 93 _ _ rfl AfI (by decide) rfl rfl aI rfl rfl rfl (ZbT rfl) dX qN ?_)|(refine kR 3023 rfl ?_;first|refine R_lit rfl rfl 94 1 _ rfl ud94 inf167 (.cons rfl .nil) (els:=[[_,_,_,_]]) rfl dW rfl (gB rfl) (ZbT rfl) (ZbT rfl) qh qN ?_)|(refine kR 3011 rfl ?_;first|refine R_store_rp rfl rfl 94 _ _ rfl c3_ (by decide) rfl rfl aI rfl rfl rfl (ZbT rfl) dX qN ?_)|refine uR ?_|refine uJ [2] (cC) ?_)|refine uC ?_|(first|refine AW.drawU (id:=7) mixed 2 qR ?_|refine AW.drawU (id:=11) mixed 2 qR ?_)|refine uS 11 (fun hb=>?_) (fun hb=>?_)|refine uS 16 (fun hb=>?_) (fun hb=>?_)|refine ZK2 (fun hc=>?_) (fun hc=>?_)|fail)
    all_goals try exact ZE5
    refine ⟨i+1,by omega,by omega,?_⟩
    rw [hsx,e1]
    exact Wk.cq 5
   ·obtain rfl:i=m:=by omega
    refine AW.wk (Wk.freezeB 4 rfl 3 rfl (.cons (.same _) (.cons (.all dD) (.cons (.same _) (.cons (.same _) (.nil))))) rfl) ?_
    repeat' (first|(refine ZAL ?_;first|refine Ag ?_|refine uA ?_)|(refine ZRG ?_;first|refine Bn ?_|refine Bo ?_|refine uR ?_)|refine uC ?_|refine Bq ?_|refine uS 11 (fun hb=>?_) (fun hb=>?_)|refine uS 16 (fun hb=>?_) (fun hb=>?_)|refine ZK2 (fun hc=>?_) (fun hc=>?_)|fail)
    all_goals try exact ZE5
    refine AW.wk (Wk.ownB 3 2 rfl rfl 167 4 (.push rfl rfl) rfl) ?_
    refine AW.loopP (fun (j:Nat)=>j≤t) (fun (j:Nat)=>(pu (pu (pu (pu (pu (pu (pu (fun _=>.any) 1 (fU l)) 2 (.ptr 0 0)) 4 (.ptr 1 0)) 6 (.ptr 2 0)) 7 (.ptr 3 0)) 46 (i64 c.threads)) 47 (i64 j))) (fun (j:Nat)=>[.box 24 (AxJ c),.box 97 [i64 0,.nl,.nl,.nl],aRd (l.drop (1+i*(n+1)+j*4)),.box 97 [i64 (l.headD 0%4294967296),.t (.lst ((OV n (l.drop 1) i).map tCh)),.sl 4 j j,.nl],.row j 167 4 ((TR (l.drop (1+i*(n+1))) j).map tWt)]) (fun (j:Nat)=>t-j) (0) ?_ ?_ ?_
    ·exact fX _
    ·rw [Nat.zero_mul]
     exact Wk.cq3 [0,1,2,3,5]
    ·intro j h4
     have hL2:=g1_ (l.drop (1+i*(n+1))) j
     by_cases hj:j<t
     ·have e1:1+i*(n+1)+(j+1)*4=1+i*(n+1)+j*4+4:=by omega
      have cW:=AnU l hU (1+i*(n+1)+j*4) (by omega) hl
      have hsx:=AbG (l.drop (1+i*(n+1))) j
      rw [kD] at hsx
      repeat' (first|(refine ZAL ?_;first|(refine kL 3107 rfl ?_;first|refine A_store_rp rfl rfl 97 _ _ rfl inf97 (by decide) rfl rfl aI rfl rfl rfl (ZbT rfl) bI qN ?_)|refine Ag ?_|(refine kL 3043 rfl ?_;first|refine A_store_rp rfl rfl 95 _ _ rfl AfJ (by decide) rfl rfl aI rfl rfl rfl (ZbT rfl) bI qN ?_)|refine uA ?_)|(refine ZRG ?_;first|(refine kR 2991 rfl ?_;first|refine R_lit rfl rfl 93 1 _ rfl ud93 inf101 (.cons rfl .nil) (els:=[[_,_,_,_,_]]) rfl dZ rfl (gB rfl) (ZbT rfl) (ZbT rfl) qh qN ?_)|(refine kR 12 rfl ?_;first|refine R_append rfl rfl _ _ 93 rfl ud93 inf101 rfl rfl rfl cY aA qB qB (by first|exact app_map aE|exact app_one (f:=tWt) (x:=⟨_,_,_,_⟩) aE|exact qN) qN qS ?_|refine R_append rfl rfl _ _ 94 rfl ud94 inf167 rfl rfl rfl cY aA qB qB (by first|exact app_map aE|exact app_one (f:=tWt) (x:=⟨_,_,_,_⟩) aE|exact qN) qN qS ?_|refine CX rfl rfl _ _ 93 rfl ud93 inf101 rfl rfl aA qB qB dZ qh qN qS ?_|refine CX rfl rfl _ _ 94 rfl ud94 inf167 rfl rfl aA qB qB dZ qh qN qS ?_)|(refine kR 2979 rfl ?_;first|refine R_store_rp rfl rfl 93 _ _ rfl AfI (by decide) rfl rfl aI rfl rfl rfl (ZbT rfl) bI qN ?_)|(refine kR 3023 rfl ?_;first|refine R_lit rfl rfl 94 1 _ rfl ud94 inf167 (.cons rfl .nil) (els:=[[_,_,_,_]]) rfl dZ rfl (gB rfl) (ZbT rfl) (ZbT rfl) qh qN ?_)|(refine kR 3011 rfl ?_;first|refine R_store_rp rfl rfl 94 _ _ rfl c3_ (by decide) rfl rfl aI rfl rfl rfl (ZbT rfl) bI qN ?_)|refine uR ?_|refine uJ [2] (cW) ?_)|refine uC ?_|(first|refine AW.drawU (id:=7) mixed 2 qR ?_|refine AW.drawU (id:=11) mixed 2 qR ?_)|refine uS 11 (fun hb=>?_) (fun hb=>?_)|refine uS 16 (fun hb=>?_) (fun hb=>?_)|refine ZK2 (fun hc=>?_) (fun hc=>?_)|fail)
      all_goals try exact ZE5
      refine ⟨j+1,by omega,by omega,?_⟩
      rw [hsx,e1]
      exact Wk.cq 5
     ·obtain rfl:j=t:=by omega
      refine AW.wk (Wk.freezeB 4 rfl 3 rfl (.cons (.same _) (.cons (.same _) (.cons (.all dD) (.cons (.same _) (.nil))))) rfl) ?_
      have cR:=v4_ l hU c.threads j (1+i*(n+1)+j*4) ht (by omega) hl
      by_cases e:putH c (LN c l)=l
      ·rw [fW e] at cE hmay
       rw [AnB hmay,hmay,hraw]
       rw [hraw] at cE
       repeat' (first|(refine ZAL ?_;first|refine Ag ?_|refine uA ?_|refine uI [2] (cR) ?_|refine uK (cP) ?_|refine uK (cE) ?_)|(refine ZRG ?_;first|refine Bn ?_|refine Bo ?_|refine uR ?_)|refine uC ?_|refine Bq ?_|refine uS 11 (fun hb=>?_) (fun hb=>?_)|refine uS 16 (fun hb=>?_) (fun hb=>?_)|refine ZK2 (fun hc=>?_) (fun hc=>?_)|fail)
       all_goals exact C6 Tryz.results263
      ·rw [fZ e] at cE hmay
       rw [AgT hmay,hmay]
       rw [hraw] at cE
       repeat' (first|(refine ZAL ?_;first|(refine kL 3118 rfl ?_;first|(refine zkD 68 rfl ?_;refine uA ?_;(try refine uz 68 ?_)))|refine Ag ?_|refine uA ?_|refine uI [2] (cR) ?_|refine uK (cP) ?_|refine uK (cE) ?_)|(refine ZRG ?_;first|refine Bn ?_|refine Bo ?_|refine uR ?_)|refine uC ?_|refine Bq ?_|refine uS 11 (fun hb=>?_) (fun hb=>?_)|refine uS 16 (fun hb=>?_) (fun hb=>?_)|refine ZK2 (fun hc=>?_) (fun hc=>?_)|fail)
       all_goals exact C6 Tryz.results263
 ·have hmay:=AmD hA
  rw [AgT hmay,hmay]
  cases h0:AZ c
  ·rw [h0] at c1
   refine ZEN Tryz.func263 Tryz.ntmps263 ?_
   repeat' (first|refine Fi ?_|refine uS 11 (fun hb=>?_) (fun hb=>?_)|refine uS 16 (fun hb=>?_) (fun hb=>?_)|refine ZK2 (fun hc=>?_) (fun hc=>?_)|fail)
   all_goals exact C6 Tryz.results263
  ·rw [h0] at c1
   by_cases k:c.kind=3
   ·have e : ¬(l.length:Int)=sizeC c:=fun e=>hA ⟨h0,k,e⟩
    refine ZEN Tryz.func263 Tryz.ntmps263 ?_
    repeat' (first|(refine ZAL ?_;first|(refine kL 3118 rfl ?_;first|(refine zkD 23 rfl ?_;refine uA ?_;(try refine uz 23 ?_)))|refine Ag ?_|refine uA ?_|refine uK (c1) ?_|refine uK (c2) ?_)|(refine ZRG ?_;first|refine Bn ?_|refine Bo ?_|refine uR ?_)|refine uC ?_|refine Bq ?_|refine uS 11 (fun hb=>?_) (fun hb=>?_)|refine uS 16 (fun hb=>?_) (fun hb=>?_)|refine ZK2 (fun hc=>?_) (fun hc=>?_)|fail)
    all_goals exact C6 Tryz.results263
   ·refine ZEN Tryz.func263 Tryz.ntmps263 ?_
    repeat' (first|refine Fi ?_|refine uS 11 (fun hb=>?_) (fun hb=>?_)|refine uS 16 (fun hb=>?_) (fun hb=>?_)|refine ZK2 (fun hc=>?_) (fun hc=>?_)|fail)
    all_goals exact C6 Tryz.results263
theorem AmE {c:AB} {l:List Int} (h : ¬(AZ c=true∧c.kind≠3∧(l.length:Int)=sizeC c)):FV c l=false:=by
 unfold FV
 cases hk:AZ c
 ·rfl
 ·by_cases k:c.kind≠3
  ·have : ¬(l.length:Int)=sizeC c:=fun e=>h ⟨hk,k,e⟩
   rw [fZ this];simp
  ·rw [fZ k];rfl
theorem AgC {c:AB} {l:List Int} (hk:AZ c=true) (k:c.kind≠3) (e:(l.length:Int)=sizeC c):FV c l=decide (putX c (KU c l)=l):=by
 unfold FV;rw [hk,fW k,fW e];rfl
theorem AgU {c:AB} {l:List Int} (h:FV c l=false):readX c l=noX:=by unfold readX;rw [h];rfl
theorem AnC {c:AB} {l:List Int} (h:FV c l=true):readX c l=KU c l:=by unfold readX;rw [h];rfl
theorem AbF (l:List Int) (n:Nat) (m k:Int) (hn:(n:Int)≤k) (hm:0≤m):DF l n (min m k)=DF l n m:=by rw [GI,GI];congr 2;omega
theorem AnJ (c:AB) (l:List Int) (hs:c.start.length≤1152921504606846976) (hU:okU l) (hl0:l.length≤1152921504606846976):Cd Tryz.prog 268 [aCf c,fU l] (.tup [fCl (readX c l),bo (FV c l)]) []:=by
 have c1:=ES c hs
 have c2:=o_ c hs
 have g1:(l.map tU).length=l.length:=fN _
 by_cases hA:AZ c=true∧c.kind≠3∧(l.length:Int)=sizeC c
 ·obtain ⟨h0,h1,h2⟩:=hA
  rw [h0] at c1
  have hsh:=AJ h0
  have hb:=hsh.h1 h1
  have ht0:=hsh.t0
  have ht1:=hsh.t1
  obtain ⟨n,hn⟩ : ∃n:Nat,c.cap=n:=⟨c.cap.toNat,by omega⟩
  obtain ⟨t,ht⟩ : ∃t:Nat,c.threads=t:=⟨c.threads.toNat,by omega⟩
  have hlen:l.length=1+n+t:=by
   have h3:=h2
   rw [NL h0 h1,hn,ht] at h3
   omega
  have hl:l.length≤1000000:=by omega
  have hN:=QZ l hl0
  have hb0:=WD hU
  have hraw:KU c l=⟨c.cap,DF (l.drop 1) n (min (l.headD 0) 17),HH (l.drop (1+n)) t⟩:=by unfold KU;rw [AbF _ _ _ _ (by omega) hb0.1,hn,ht];rfl
  have cR:=AiF l hU (min (l.headD 0) 17) c.cap n 1 hn (by omega) hl (by omega)
  have cS:=v4_ l hU c.threads t (1+n) ht (by omega) hl
  have k1:(KU c l).list.length≤1152921504606846976:=by
   rw [hraw];have:=WK (l.drop 1) n (min (l.headD 0) 17);show (DF _ _ _).length≤_;omega
  have k2:(KU c l).done.length≤1152921504606846976:=by rw [hraw];show (HH _ _).length≤_;simp [HH];omega
  have cP:=n2_ c (KU c l) hs k1 k2
  have hpl:(putX c (KU c l)).length≤1152921504606846976:=by
   cases hf:EB c (KU c l)
   ·unfold putX;rw [hf];exact fX _
   ·have:=NC hf;omega
  have cE:=a9_ (putX c (KU c l)) l hpl
  have hmay:=AgC h0 h1 h2
  rw [hraw] at cP
  by_cases e:putX c (KU c l)=l
  ·rw [fW e] at cE hmay
   rw [AnC hmay,hmay,hraw]
   rw [hraw] at cE
   refine C7 ?_
   repeat' (first|(refine ZAL ?_;first|refine uA ?_|refine uK (c1) ?_|refine uK (c2) ?_|refine uI [2] (hN) ?_|refine uK (cP) ?_|refine uK (cE) ?_)|(refine ZRG ?_;first|refine uR ?_|refine uJ [2] (cR) ?_|refine uJ [2] (cS) ?_)|refine uC ?_|refine AW.drawU (id:=5) mixed 1 qR ?_|fail)
   all_goals exact C8 Tryz.results268
  ·rw [fZ e] at cE hmay
   rw [AgU hmay,hmay]
   rw [hraw] at cE
   refine C7 ?_
   repeat' (first|(refine ZAL ?_;first|(refine kL 4014 rfl ?_;first|(refine zkD 50 rfl ?_;refine uA ?_;(try refine uz 50 ?_)))|refine uA ?_|refine uK (c1) ?_|refine uK (c2) ?_|refine uI [2] (hN) ?_|refine uK (cP) ?_|refine uK (cE) ?_)|(refine ZRG ?_;first|refine uR ?_|refine uJ [2] (cR) ?_|refine uJ [2] (cS) ?_)|refine uC ?_|refine AW.drawU (id:=5) mixed 1 qR ?_|refine uS 12 (fun hb=>?_) (fun hb=>?_)|refine uS 17 (fun hb=>?_) (fun hb=>?_)|refine ZK2 (fun hc=>?_) (fun hc=>?_)|fail)
   all_goals exact C8 Tryz.results268
 ·have hmay:=AmE hA
  rw [AgU hmay,hmay]
  cases h0:AZ c
  ·rw [h0] at c1
   refine C7 ?_
   repeat' (first|refine Fm ?_|refine uS 12 (fun hb=>?_) (fun hb=>?_)|refine uS 17 (fun hb=>?_) (fun hb=>?_)|refine ZK2 (fun hc=>?_) (fun hc=>?_)|fail)
   all_goals exact C8 Tryz.results268
  ·rw [h0] at c1
   by_cases k:c.kind=3
   ·refine C7 ?_
    repeat' (first|refine Fm ?_|refine uS 12 (fun hb=>?_) (fun hb=>?_)|refine uS 17 (fun hb=>?_) (fun hb=>?_)|refine ZK2 (fun hc=>?_) (fun hc=>?_)|fail)
    all_goals exact C8 Tryz.results268
   ·have e : ¬(l.length:Int)=sizeC c:=fun e=>hA ⟨h0,k,e⟩
    refine C7 ?_
    repeat' (first|(refine ZAL ?_;first|(refine kL 4014 rfl ?_;first|(refine zkD 24 rfl ?_;refine uA ?_;(try refine uz 24 ?_)))|refine uA ?_|refine uK (c1) ?_|refine uK (c2) ?_)|refine uR ?_|refine uC ?_|refine AW.drawU (id:=5) mixed 5 qR ?_|refine uS 12 (fun hb=>?_) (fun hb=>?_)|refine uS 17 (fun hb=>?_) (fun hb=>?_)|refine ZK2 (fun hc=>?_) (fun hc=>?_)|fail)
    all_goals exact C8 Tryz.results268
def LA (cap:Int) (l:List Int) (k v:Int):List Int × Rst :=
 if k=8∧(l.length:Int)<cap then (l++[v],⟨0,0,0,0⟩)
 else if k=9∧0<(l.length:Int) then (l.take (l.length-1),⟨0,0,0,l.getD (l.length-1) 0⟩)
 else if k=8∨k=9 then (l,⟨0,0,10,0⟩)
 else if k=5 then (l,⟨0,0,0,l.length⟩)
 else if k=6 then (l,⟨0,0,0,cap⟩)
 else (l,⟨0,0,1,0⟩)
theorem AbS (cap:Int) (l:List Int) (d:List Rst) (t s k v:Int):GL true cap l d t s k v=((LA cap l k v).1,JN d t ⟨s,(LA cap l k v).2.cas,(LA cap l k v).2.code,(LA cap l k v).2.value⟩):=by
 unfold GL LA
 by_cases h8:k=8
 ·subst h8
  by_cases h:(l.length:Int)≥cap
  ·simp [h,show ¬(l.length:Int)<cap by omega]
  ·simp [h,show (l.length:Int)<cap by omega]
 ·by_cases h9:k=9
  ·subst h9
   by_cases h:l.length=0
   ·have:l=[]:=iA h
    subst this;simp
   ·have h':l≠[]:=by rintro rfl;simp at h
    simp [h',show (0<l.length) by omega]
  ·simp only [h8,h9,mH,or_self,jL]
   repeat' split
   all_goals rfl
theorem AvP (cap:Int) (l:List Int) (k ar v:Int) (hl:l.length≤17592186044400) :
  Cd Tryz.prog 281 [.ln (l.map tI),i64 cap,.agg [i64 k,i64 ar,i64 v,.any,.any]] (.tup [.sl 0 0 (LA cap l k v).1.length,.agg ((tR (LA cap l k v).2).map .t)]) [.row 0 3 1 ((LA cap l k v).1.map tI)]:=by
 have h1:(l.map tI).length=l.length:=fN _
 refine ZEN Tryz.func281 Tryz.ntmps281 ?_
 repeat' (first|(refine ZAL ?_;first|(refine kL 2634 rfl ?_;first|(refine uK (AR l ?zq0) ?_;(case zq0=>omega))|(refine uK (AR (l.take _) ?zq0) ?_;(case zq0=>simp;omega)))|refine uA ?_)|(refine ZRG ?_;first|(refine kR 2634 rfl ?_;first|(first|(refine uQ (AR l ?zq0) 0 ?_;(case zq0=>omega))|(refine uQ (AR l ?zq0) 1 ?_;(case zq0=>omega))|(refine uQ (AR l ?zq0) 2 ?_;(case zq0=>omega))|(refine uQ (AR l ?zq0) 3 ?_;(case zq0=>omega))|(refine uQ (AR l ?zq0) 4 ?_;(case zq0=>omega))|(refine uQ (AR l ?zq0) 5 ?_;(case zq0=>omega))|(refine uQ (AR l ?zq0) 6 ?_;(case zq0=>omega))|(refine uQ (AR l ?zq0) 7 ?_;(case zq0=>omega))|(refine uQ (AR l ?zq0) 8 ?_;(case zq0=>omega))|(refine uQ (AR l ?zq0) 9 ?_;(case zq0=>omega))|(refine uQ (AR l ?zq0) 10 ?_;(case zq0=>omega))|(refine uQ (AR l ?zq0) 11 ?_;(case zq0=>omega))|(refine uQ (AR l ?zq0) 12 ?_;(case zq0=>omega))|(refine uQ (AR l ?zq0) 13 ?_;(case zq0=>omega)))|(first|(refine uQ (AR (l.take _) ?zq0) 0 ?_;(case zq0=>simp;omega))|(refine uQ (AR (l.take _) ?zq0) 1 ?_;(case zq0=>simp;omega))|(refine uQ (AR (l.take _) ?zq0) 2 ?_;(case zq0=>simp;omega))|(refine uQ (AR (l.take _) ?zq0) 3 ?_;(case zq0=>simp;omega))|(refine uQ (AR (l.take _) ?zq0) 4 ?_;(case zq0=>simp;omega))|(refine uQ (AR (l.take _) ?zq0) 5 ?_;(case zq0=>simp;omega))|(refine uQ (AR (l.take _) ?zq0) 6 ?_;(case zq0=>simp;omega))|(refine uQ (AR (l.take _) ?zq0) 7 ?_;(case zq0=>simp;omega))|(refine uQ (AR (l.take _) ?zq0) 8 ?_;(case zq0=>simp;omega))|(refine uQ (AR (l.take _) ?zq0) 9 ?_;(case zq0=>simp;omega))|(refine uQ (AR (l.take _) ?zq0) 10 ?_;(case zq0=>simp;omega))|(refine uQ (AR (l.take _) ?zq0) 11 ?_;(case zq0=>simp;omega))|(refine uQ (AR (l.take _) ?zq0) 12 ?_;(case zq0=>simp;omega))|(refine uQ (AR (l.take _) ?zq0) 13 ?_;(case zq0=>simp;omega))))|refine Fe ?_|refine uR ?_)|refine uC ?_|(first|refine AW.drawU (id:=3) mixed 4 qR ?_|refine AW.drawU (id:=5) mixed 2 qR ?_)|refine uS 15 (fun hb=>?_) (fun hb=>?_)|refine uS 31 (fun hb=>?_) (fun hb=>?_)|refine ZK2 (fun hc=>?_) (fun hc=>?_)|fail)
 all_goals ((refine Fin.mkv (rs:=_) Tryz.results281 (.cons (.tmp rfl) (.cons (.agg rfl rfl ud53 rfl inf53 (us:=[_,_,_,_]) rfl rfl) .nil)) [2] (by decide) rfl ?_ ?_ ?_<;>repeat' (first|exact ZE1|refine ZE2 ?_ ?_|refine ZE3 ?_|exact ZE4|fail)))
 all_goals (try simp only [fN] at *)
 all_goals (unfold LA;repeat (first|rw [fR (by omega)]|rw [fT (by omega)]))
 all_goals first|rfl|(simp [show ((l.length:Int)-1).toNat=l.length-1 by omega];done)
theorem c9_ (cap:Int) (l:List Int) (d:List Rst) (t s k ar v:Int) (hl:l.length≤17592186044400) (hd:d.length≤4398046511104) :
  Cd Tryz.prog 269 [.agg [i64 cap,.ln (l.map tI),.ln (d.map tR)],i64 t,i64 s,.agg [i64 k,i64 ar,i64 v,.any,.any]]
   (.agg [i64 cap,.sl 0 0 (GL true cap l d t s k v).1.length,.sl 1 0 d.length]) [.row 0 3 1 ((GL true cap l d t s k v).1.map tI),.row 0 53 4 ((GL true cap l d t s k v).2.map tR)]:=by
 rw [AbS]
 simp only
 generalize hst:LA cap l k v=st
 obtain ⟨l',r⟩:=st
 have hs:=AvP cap l k ar v hl
 rw [hst] at hs
 by_cases h0:0≤t
 ·by_cases h1:t<d.length
  ·rw [h3_ h0 h1]
   obtain ⟨i,rfl⟩:=Int.eq_ofNat_of_zero_le h0
   rw [gE]
   have h2:i<d.length:=by omega
   obtain ⟨x,hx⟩ : ∃x,d[i]? = some x:=⟨_,ZgE h2⟩
   refine ZEN Tryz.func269 Tryz.ntmps269 ?_
   repeat' (first|refine E2 ?_|fail)
   all_goals (exact E3 Tryz.results269)
  ·rw [RH (fun h=>h1 h.2)]
   refine ZEN Tryz.func269 Tryz.ntmps269 ?_
   repeat' (first|refine E2 ?_|fail)
   all_goals (exact E3 Tryz.results269)
 ·rw [RH (fun h=>h0 h.1)]
  refine ZEN Tryz.func269 Tryz.ntmps269 ?_
  repeat' (first|refine E2 ?_|fail)
  all_goals (exact E3 Tryz.results269)
end
end Go.Proofs.YtccefppppedgkaaGreat
