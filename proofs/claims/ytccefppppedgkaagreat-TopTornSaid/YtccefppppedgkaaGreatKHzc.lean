/- Joined: XTHallA. -/
import Derived.Test.YtccefppppedgkaaGreatKHv
set_option linter.unusedVariables false
set_option linter.unusedSimpArgs false
set_option linter.unnecessarySimpa false
set_option maxRecDepth 100000
set_option maxHeartbeats 64000000
namespace Go.Proofs.YtccefppppedgkaaGreat
open Go.RowKit
section
attribute [local irreducible] AL AW RG Fin C Cd Cio AI AF AO
theorem ArX {h:AM} {x:Int} {n:Nat} {c:AY} (h1:JM x=true) (h2:plP x=n) (hc:h.chans[n]? = some c):DJ h x=(c.used&&decide (c.gen=plG x))∧HB h x=if (c.used&&decide (c.gen=plG x))=true then (n:Int) else 0:=by
 have hl:=get_lt hc
 have hg:chA h (n:Int)=c:=by unfold chA;rw [gE,BK hc]
 have e:DJ h x=(c.used&&decide (c.gen=plG x)):=by unfold DJ;rw [h1,h2,hg,fW (by omega)];simp
 exact ⟨e,by unfold HB;rw [e,h2]⟩
theorem AlB {h:AM} {x:Int} {n:Nat} (h2:plP x=n) (hc : ¬n<h.chans.length):DJ h x=false:=by unfold DJ;rw [h2,fZ (by omega)];simp
theorem AlA {h:AM} {x:Int} (h1:JM x=false):DJ h x=false:=by unfold DJ;rw [h1];simp
theorem AmX (x:Int) : ∃n:Nat,plP x=n:=by
 by_cases hk:8≤x∧x≤32767
 ·rw [(TI hk.1 hk.2).1];exact ⟨(x%8).toNat,by omega⟩
 ·rw [(u5_ hk).1];exact ⟨0,rfl⟩
theorem OH (h:AM) (x:Int) (hx:sI x) (h0:h.chans.length≤2932031007402):Cd Tryz.prog 296 [aHl h,i64 x] (.tup [i64 (HB h x),bo (DJ h x)]) []:=by
 have h1:(h.chans.map tCh).length=h.chans.length:=fN _
 have cP:=c_ x hx
 obtain ⟨n,hn⟩:=AmX x
 cases hp:JM x
 ·have e:=AlA (h:=h) hp
  rw [e,SI e]
  rw [hp,hn] at cP
  refine ZEN Tryz.func296 Tryz.ntmps296 ?_
  repeat' (first|refine Cl ?_|fail)
  all_goals exact C4 Tryz.results296
 ·by_cases hl:n<h.chans.length
  ·obtain ⟨⟨g,cap,used,closed,buf⟩,hc⟩ : ∃c,h.chans[n]? = some c:=⟨_,ZgE hl⟩
   have e:=ArX hp hn hc
   dsimp only at e
   rw [e.1,e.2]
   rw [hp,hn] at cP
   generalize plG x=pg at cP
   by_cases hg:g=pg
   ·subst hg
    rw [fW rfl]
    cases used
    all_goals
     refine ZEN Tryz.func296 Tryz.ntmps296 ?_
     repeat' (first|refine Cl ?_|fail)
     all_goals first|(exfalso;omega)|(exact Fin.q Tryz.results296 (.cons (.tmp rfl) (.cons (.tmp rfl) .nil)) [])
   ·rw [fZ hg]
    cases used
    all_goals
     refine ZEN Tryz.func296 Tryz.ntmps296 ?_
     repeat' (first|refine Cl ?_|fail)
     all_goals first|(exfalso;omega)|(exact Fin.q Tryz.results296 (.cons (.tmp rfl) (.cons (.tmp rfl) .nil)) [])
  ·have e:=AlB hn hl
   rw [e,SI e]
   rw [hp,hn] at cP
   refine ZEN Tryz.func296 Tryz.ntmps296 ?_
   repeat' (first|refine Cl ?_|fail)
   all_goals exact C4 Tryz.results296
theorem AlI (h:AM) (hh:OO h):Cd Tryz.prog 276 [aHl h] (.agg [i64 h.ticket,.sl 0 0 h.chans.length,.t (.lst (h.waits.map tWt)),.sl 1 0 h.done.length]) [.row 0 101 5 (h.chans.map tCh),.row 0 53 4 (h.done.map tR)]:=by
 have h1:(h.chans.map tCh).length=h.chans.length:=fN _
 have hc0:=hh.c
 have hw0:=wcopy_c h.waits hh.w
 have hW:Cd Tryz.prog 285 [.ln (h.waits.map tWt)] (.t (.lst (h.waits.map tWt))) []:=by have hw0':=Cd.frz1 hw0 0 rfl aB rfl;exact Cd.drop hw0' rfl
 refine ZEN Tryz.func276 Tryz.ntmps276 ?_
 repeat' (first|refine uA ?_|(refine ZRG ?_;first|refine uR ?_|refine uQ (AdV h.chans hh.c) 2 ?_|refine ZQ1 (hW) ?_|refine uQ (clone_R h.done hh.d) 3 ?_)|refine uC ?_|refine AW.drawU (id:=1) mixed 6 qR ?_|fail)
 all_goals try exact ZE5
 refine AW.loopP (fun (q:Nat)=>q≤h.chans.length) (fun (q:Nat)=>(pu (pu (pu (pu (fun _=>.any) 1 (.ptr 0 0)) 2 (.ptr 1 0)) 18 (i64 h.chans.length)) 19 (i64 q))) (fun (q:Nat)=>[.box 97 [i64 h.ticket,.sl 2 0 h.chans.length,.t (.lst (h.waits.map tWt)),.sl 3 0 h.done.length],.box 97 [i64 0,.nl,.nl,.nl],.row 0 101 5 (h.chans.map tCh),.row 0 53 4 (h.done.map tR)]) (fun (q:Nat)=>h.chans.length-q) (0) ?_ ?_ ?_
 ·exact fX _
 ·exact Wk.cq 4
 ·intro q hq
  by_cases hi:q<h.chans.length
  ·obtain ⟨⟨g,cap,used,closed,buf⟩,hc⟩ : ∃c,h.chans[q]? = some c:=⟨_,ZgE hi⟩
   have hb:=hh.b _ (fO hc)
   have cC0:=MF ⟨g,cap,used,closed,buf⟩ (by dsimp only at hb ⊢;omega)
   dsimp only [aC] at cC0
   have cC:Cd Tryz.prog 286 [.agg [i64 g,i64 cap,bo used,bo closed,.ln (buf.map tI)]] (.agg [i64 g,i64 cap,bo used,bo closed,.t (.lst (buf.map tI))]) []:=by have cC0':=Cd.frz1 cC0 0 rfl aB rfl;exact Cd.drop cC0' rfl
   have hs:h.chans.set q ⟨g,cap,used,closed,buf⟩=h.chans:=by
    obtain ⟨hq',e⟩:=iJ.1 hc
    rw [←e];exact List.set_getElem_self hq'
   repeat' (first|refine uA ?_|(refine ZRG ?_;first|(refine kR 3235 rfl ?_;first|refine R_store_rp rfl rfl 101 _ _ rfl inf101 (by decide) rfl rfl (by exact map_get dG) rfl rfl rfl (ZbT rfl) (by exact map_set (f:=tCh) (x:=⟨g,cap,used,closed,buf⟩)) qN ?_)|refine uR ?_|refine ZQ1 (cC) ?_)|refine uC ?_|refine AW.drawU (id:=5) mixed 2 qR ?_|fail)
   all_goals try exact ZE5
   rw [hs]
   refine ⟨q+1,by omega,by omega,?_⟩
   exact Wk.cq 4
  ·repeat' (first|refine A0 ?_|fail)
   all_goals first|(exfalso;omega)|(exact Fin.q Tryz.results276 (.cons (.agg rfl rfl ud97 rfl inf97 (us:=[_,_,_,_]) rfl rfl) .nil) [2,3])
abbrev stB (c:AB) (m k:Nat) (h:AM) (t n:Int):Ob:=.box 295 [i64 h.ticket,.sl 1 0 m,.t (.lst (h.waits.map tWt)),.sl 2 0 k,i64 c.kind,i64 c.threads,i64 c.chans,i64 c.cap,i64 c.nodes,i64 c.retire,i64 c.patience,i64 c.tags,i64 c.seqs,i64 c.gens,.t (.lst (c.start.map tI)),i64 t,i64 n]
abbrev stH (c:AB) (m k:Nat) (h:AM) (t n:Int):List Ob:=[stB c m k h t n,.row 0 101 5 (h.chans.map tCh),.row 0 53 4 (h.done.map tR)]
theorem o7_ (c:AB) (m k:Nat) (h:AM) (t n:Int) (l:List HK) (hk:h.done.length=k) (hl:l.length≤1152921504606846976) (hk1:k≤4398046511104) :
  Cio Tryz.prog 303 [.ptr 0 0,.ln (l.map tTd)] (stH c m k h t n) (.tup []) (stH c m k ⟨h.ticket,h.chans,h.waits,tellL h.done l⟩ t n):=by
 have h1:(l.map tTd).length=l.length:=fN _
 dsimp only [stH,stB]
 refine ZEN Tryz.func303 Tryz.ntmps303 ?_
 repeat' (first|refine A0 ?_|fail)
 refine AW.loopP (fun (q:Nat)=>q≤l.length) (fun (q:Nat)=>(pu (pu (pu (pu (fun _=>.any) 0 (.ptr 0 0)) 6 (.ln (l.map tTd))) 7 (i64 (l.map tTd).length)) 8 (i64 q))) (fun (q:Nat)=>[.box 295 [i64 h.ticket,.sl 1 0 m,.t (.lst (h.waits.map tWt)),.sl 2 0 k,i64 c.kind,i64 c.threads,i64 c.chans,i64 c.cap,i64 c.nodes,i64 c.retire,i64 c.patience,i64 c.tags,i64 c.seqs,i64 c.gens,.t (.lst (c.start.map tI)),i64 t,i64 n],.row 0 101 5 (h.chans.map tCh),.row 0 53 4 ((tellL h.done (l.take q)).map tR)]) (fun (q:Nat)=>l.length-q) (0) ?_ ?_ ?_
 ·exact fX _
 ·exact Wk.cq 3
 ·intro q hq
  have hD:(tellL h.done (l.take q)).length=k:=by rw [PH,hk]
  have hD2:((tellL h.done (l.take q)).map tR).length=k:=by rw [fN,hD]
  by_cases hi:q<l.length
  ·obtain ⟨⟨th,⟨ra,rb,rc,rd⟩⟩,hx⟩ : ∃x,l[q]? = some x:=⟨_,ZgE hi⟩
   have hs:=o6_ (d:=h.done) hx
   dsimp only at hs
   by_cases ht:0≤th∧th<k
   ·obtain ⟨j,rfl⟩ : ∃j:Nat,th=j:=⟨th.toNat,by omega⟩
    rw [e5_ (by omega)] at hs
    obtain ⟨y,hy⟩ : ∃y,(tellL h.done (l.take q))[j]? = some y:=⟨_,ZgE (by omega)⟩
    generalize tellL h.done (l.take q)=D at *
    repeat' (first|refine uA ?_|(refine ZRG ?_;first|(refine kR 1699 rfl ?_;first|refine R_store_rp rfl rfl 53 _ _ rfl inf53 (by decide) rfl rfl (by exact map_get dG) rfl rfl rfl (ZbT rfl) (by exact map_set (f:=tR) (x:=⟨ra,rb,rc,rd⟩)) qN ?_)|refine uR ?_)|refine uC ?_|(first|refine AW.drawU (id:=3) mixed 0 qR ?_|refine AW.drawU (id:=4) mixed 0 qR ?_)|fail)
    all_goals try exact ZE5
    refine ⟨q+1,by omega,by omega,?_⟩
    rw [hs]
    exact Wk.cq 3
   ·rw [WC (by omega)] at hs
    generalize tellL h.done (l.take q)=D at *
    by_cases h0:0≤th
    all_goals
     repeat' (first|refine Dy ?_|fail)
     all_goals try exact ZE5
     refine ⟨q+1,by omega,by omega,?_⟩
     rw [hs]
     exact Wk.cq 3
  ·have e:q=l.length:=by omega
   subst e
   rw [jQ] at *
   repeat' (first|refine A0 ?_|fail)
   all_goals exact Ah Tryz.results303
theorem AeV (p g:Int):Cd Tryz.prog 295 [i64 p,i64 g] (i64 (hdl p g)) []:=by
 unfold hdl
 by_cases h1:0≤p∧p≤7∧1≤g∧g≤4095
 ·rw [fR h1]
  refine C5 ?_
  repeat' (first|refine A0 ?_|fail)
  all_goals exact A2 Tryz.results295
 ·rw [fT h1]
  by_cases p1:p<0
  ·refine C5 ?_
   repeat' (first|refine A0 ?_|fail)
   all_goals exact A2 Tryz.results295
  ·by_cases p2:7<p
   ·refine C5 ?_
    repeat' (first|refine A0 ?_|fail)
    all_goals exact A2 Tryz.results295
   ·by_cases p3:g<1
    ·refine C5 ?_
     repeat' (first|refine A0 ?_|fail)
     all_goals exact A2 Tryz.results295
    ·refine C5 ?_
     repeat' (first|refine A0 ?_|fail)
     all_goals exact A2 Tryz.results295
theorem AtT (c:AB) (m k:Nat) (h:AM) (t n cap:Int) (hm:h.chans.length=m) (hm1:m≤2932031007402) (hg : ∀x∈h.chans,sI x.gen) :
  Cio Tryz.prog 287 [.ptr 0 0,i64 cap] (stH c m k h t n) (aR (openH c h cap).2) (stH c m k (openH c h cap).1 t n):=by
 have h1:(h.chans.map tCh).length=m:=by rw [fN,hm]
 unfold openH
 by_cases hcap:cap<0∨c.cap<cap
 ·rw [fR hcap]
  dsimp only [stH,stB,aR]
  by_cases h0:cap<0
  all_goals
   refine ZEN Tryz.func287 Tryz.ntmps287 ?_
   repeat' (first|refine A0 ?_|fail)
   all_goals first|(exfalso;omega)|(exact Bi Tryz.results287)
 ·rw [fT hcap]
  generalize hR:(if 0≤ixF (okO c) h.chans then (cH h (h.chans.set (ixF (okO c) h.chans).toNat ⟨(chA h (ixF (okO c) h.chans)).gen+1,cap,true,false,[]⟩),(⟨0,0,0,hdl (ixF (okO c) h.chans) ((chA h (ixF (okO c) h.chans)).gen+1)⟩:Rst)) else (h,⟨0,0,if h.chans.any (fun x => !x.used) then 7 else 6,0⟩))=R
  dsimp only [stH,stB]
  refine ZEN Tryz.func287 Tryz.ntmps287 ?_
  repeat' (first|refine A0 ?_|fail)
  all_goals try exact ZE5
  refine AW.loopP (fun (q:Nat)=>q≤m ∧ ∀j,j<q → ∀b,h.chans[j]? = some b→okO c b=false) (fun (q:Nat)=>(pu (pu (pu (pu (pu (pu (pu (fun _=>.any) 0 (.ptr 0 0)) 1 (i64 cap)) 4 (.ptr 3 0)) 5 (bo ((h.chans.take q).any fun x => !x.used))) 24 (.sl 1 0 m)) 25 (i64 m)) 26 (i64 q))) (fun (q:Nat)=>[.box 295 [i64 h.ticket,.sl 1 0 m,.t (.lst (h.waits.map tWt)),.sl 2 0 k,i64 c.kind,i64 c.threads,i64 c.chans,i64 c.cap,i64 c.nodes,i64 c.retire,i64 c.patience,i64 c.tags,i64 c.seqs,i64 c.gens,.t (.lst (c.start.map tI)),i64 t,i64 n],.row 0 101 5 (h.chans.map tCh),.row 0 53 4 (h.done.map tR),.box 53 [i64 0,i64 0,i64 0,i64 0]]) (fun (q:Nat)=>m-q) (0) ?_ ?_ ?_
  ·exact ⟨fX _,fun j hj=>by omega⟩
  ·exact Wk.cq 4
  ·rintro q ⟨hq,hno⟩
   by_cases hi:q<m
   ·obtain ⟨⟨g,cp,used,closed,buf⟩,hc⟩ : ∃x,h.chans[q]? = some x:=⟨_,ZgE (by omega)⟩
    have hgb:=hg _ (fO hc)
    unfold sI at hgb
    dsimp only at hgb
    have hany:((h.chans.take (q+1)).any fun x => !x.used)=(((h.chans.take q).any fun x => !x.used) || !used):=by rw [iB,hc,List.any_append];simp
    cases ho:okO c ⟨g,cp,used,closed,buf⟩
    ·have hno' : ∀j,j<q+1 → ∀b,h.chans[j]? = some b→okO c b=false:=fun j hj b hb=>by
      by_cases ej:j=q
      ·subst ej;rw [hc] at hb;cases hb;exact ho
      ·exact hno j (by omega) b hb
     cases used
     ·have hge : ¬g<min c.gens 4095:=by unfold okO at ho;simpa using ho
      generalize ((h.chans.take q).any fun x => !x.used)=sp at hany
      repeat' (first|refine uA ?_|refine uR ?_|refine uC ?_|refine AW.drawU (id:=8) mixed 0 qR ?_|fail)
      all_goals try exact ZE5
      refine ⟨q+1,⟨by omega,hno'⟩,by omega,?_⟩
      rw [hany]
      simp only [Bool.not_false,Bool.or_true]
      exact Wk.cq 4
     ·generalize ((h.chans.take q).any fun x => !x.used)=sp at hany
      repeat' (first|refine A0 ?_|fail)
      all_goals try exact ZE5
      refine ⟨q+1,⟨by omega,hno'⟩,by omega,?_⟩
      rw [hany]
      simp only [Bool.not_true,Bool.or_false]
      exact Wk.cq 4
    ·have hix:=JU (okO c) h.chans q _ hno hc ho
     have hch:chA h (q:Int)=⟨g,cp,used,closed,buf⟩:=by unfold chA;rw [gE,BK hc]
     rw [hix,fR (by omega),hch,gE] at hR
     have hlt:used=false∧g<min c.gens 4095:=by unfold okO at ho;simpa using ho
     obtain ⟨rfl,hge⟩:=hlt
     subst hR
     dsimp only [cH]
     have cH:=AeV q (g+1)
     repeat' (first|(refine ZAL ?_;first|refine uA ?_|refine uK (cH) ?_)|(refine ZRG ?_;first|(refine kR 3235 rfl ?_;first|refine R_store_rp rfl rfl 101 _ _ rfl inf101 (by decide) rfl rfl (by exact map_get dG) rfl rfl rfl (ZbT rfl) (by exact map_set (f:=tCh) (x:=⟨g+1,cap,true,false,[]⟩)) qN ?_)|refine uR ?_)|refine uC ?_|(first|refine AW.drawU (id:=8) mixed 0 qR ?_|refine AW.drawU (id:=10) mixed 0 qR ?_)|fail)
     all_goals exact Aa Tryz.results287
   ·have e:q=m:=by omega
    subst e
    have hix:=FI (okO c) h.chans fun j b hb=>hno j eM b hb
    rw [hix,fT (by omega)] at hR
    rw [←hm,jQ]
    subst hR
    generalize (h.chans.any fun x => !x.used)=sp
    dsimp only
    cases sp
    all_goals
     repeat' (first|refine A0 ?_|fail)
     all_goals first|(exfalso;omega)|(exact Bi Tryz.results287)
theorem AlL (c:AY) (x:Int) (l:List AH) (hl:okW l):Cd Tryz.prog 297 [aC c,i64 x,.ln (l.map tWt)] (bo (AeY c x l)) []:=AsG c x l hl
theorem ArY (c:AB) (m k:Nat) (h:AM) (t n x:Int) (hx:sI x) (hm:h.chans.length=m) (hk:h.done.length=k) (hm1:m≤2932031007402) (hw:okW h.waits) :
  Cio Tryz.prog 288 [.ptr 0 0,i64 x] (stH c m k h t n) (aR (freeH h x).2) (stH c m k (freeH h x).1 t n):=by
 have h1:(h.chans.map tCh).length=m:=by rw [fN,hm]
 have h1k:(h.done.map tR).length=k:=by rw [fN,hk]
 have cF:=OH h x hx (by omega)
 unfold freeH
 cases hf:DJ h x
 ·rw [fT (by simp)]
  rw [hf,SI hf] at cF
  dsimp only [stH,stB,aR]
  refine ZEN Tryz.func288 Tryz.ntmps288 ?_
  repeat' (first|refine Bm ?_|fail)
  all_goals exact Aa Tryz.results288
 ·obtain ⟨j,ch,e1,e2,hc,hu,hgn,e3,e4,e5⟩:=KF hf
  rw [fR rfl,e3,e4,gE]
  rw [hf,e3] at cF
  have cI:=AlL ch x h.waits hw
  cases hi:AeY ch x h.waits
  ·rw [hi] at cI
   rw [fT (by simp)]
   obtain ⟨g,cap,used,closed,buf⟩:=ch
   dsimp only [stH,stB,aR,aC] at cI ⊢
   refine ZEN Tryz.func288 Tryz.ntmps288 ?_
   repeat' (first|(refine ZAL ?_;first|refine uA ?_|refine uK (cF) ?_)|(refine ZRG ?_;first|refine uR ?_|refine ZQ1 (cI) ?_)|refine uC ?_|refine AW.drawU (id:=4) mixed 0 qR ?_|fail)
   all_goals exact Aa Tryz.results288
  ·rw [hi] at cI
   rw [fR rfl]
   obtain ⟨g,cap,used,closed,buf⟩:=ch
   dsimp only [stH,stB,aR,aC,cH] at cI ⊢
   refine ZEN Tryz.func288 Tryz.ntmps288 ?_
   repeat' (first|(refine ZAL ?_;first|refine uA ?_|refine uK (cF) ?_)|(refine ZRG ?_;first|(refine kR 3235 rfl ?_;first|refine R_store_rp rfl rfl 101 _ _ rfl inf101 (by decide) rfl rfl (by exact map_get dG) rfl rfl rfl (ZbT rfl) (by exact map_set (f:=tCh) (x:=⟨g,0,false,false,[]⟩)) qN ?_)|refine uR ?_|refine ZQ1 (cI) ?_)|refine uC ?_|(first|refine AW.drawU (id:=4) mixed 0 qR ?_|refine AW.drawU (id:=6) mixed 0 qR ?_)|fail)
   all_goals exact Aa Tryz.results288
end
end Go.Proofs.YtccefppppedgkaaGreat
