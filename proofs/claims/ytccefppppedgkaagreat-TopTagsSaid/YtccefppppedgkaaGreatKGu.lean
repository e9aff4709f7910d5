/- Joined: XTHallD. -/
import Derived.Test.YtccefppppedgkaaGreatKGt
set_option linter.unusedVariables false
set_option linter.unusedSimpArgs false
set_option linter.unnecessarySimpa false
set_option maxRecDepth 100000
set_option maxHeartbeats 64000000
namespace Go.Proofs.YtccefppppedgkaaGreat
open Go.RowKit
section
attribute [local irreducible] AL AW RG Fin C Cd Cio AI AF AN
theorem AlT {c:AX} {x:Int} {l:List AH} (hl:okW l):okW (shutG c x l).l∧(shutG c x l).l.length=l.length∧(shutG c x l).c.buf=c.buf∧(shutG c x l).told.length≤l.length:=by
 unfold shutG
 split
 ·have:=AiO (onS l x) l hl
  exact ⟨this.1,this.2,rfl,by dsimp only;rw [fH];exact (AeZ l x).2.1⟩
 ·exact ⟨hl,rfl,rfl,fO _⟩
theorem AxZ (l:List AH) (h:Int) (hl:okW l):Cd Tryz.prog 305 [.ln (l.map tWt),i64 h] (.sl 0 0 (onS l h).length) [.row 0 3 1 ((onS l h).map tI)]:=by
 have:=p2_ l h hl
 rw [←CC (key:=tick l)] at this
 exact this
theorem AjF (c:AB) (m k:Nat) (h:AM) (t n x:Int) (hx:sI x) (hm:h.chans.length=m) (hk:h.done.length=k) (hh:NR h) :
  Cio Tryz.prog 290 [.ptr 0 0,i64 x] (stH c m k h t n) (aR (closeH h x).2) (stH c m k (closeH h x).1 t n):=by
 have h1:(h.chans.map tCh).length=m:=by rw [fH,hm]
 have h1k:(h.done.map tR).length=k:=by rw [fH,hk]
 have hm1:=hh.c
 have hk1:=hh.d
 have hw0:=hh.w.1
 have cF:=NJ h x hx hm1
 unfold closeH
 cases hf:DE h x
 ·rw [fM (by simp)]
  rw [hf,QX hf] at cF
  dsimp only [stH,stB,aR]
  refine ZEN Tryz.func290 Tryz.ntmps290 ?_
  repeat' (first|refine Bc ?_|fail)
  all_goals exact Aa Tryz.results290
 ·obtain ⟨j,ch,e1,e2,hc,hu,hgn,e3,e4,e5⟩:=JS hf
  rw [fL rfl,e3,e4,fW]
  rw [hf,e3] at cF
  have hb:=hh.b ch (fI hc)
  have cS:=AsY ch x h.waits hh.w hb (AxZ h.waits x hh.w)
  obtain ⟨hg1,hg2,hg3,hg4⟩ := @AlT ch x h.waits hh.w
  generalize shutG ch x h.waits=g at *
  obtain ⟨⟨g1,g2,g3,g4,gb⟩,gl,ge,gt⟩:=g
  obtain ⟨c1,c2,c3,c4,cb⟩:=ch
  dsimp only at *
  have cT:=k4_ c m k ⟨h.ticket,h.chans.set j ⟨g1,g2,g3,g4,gb⟩,gl,h.done⟩ t n gt hk (by omega) (by omega)
  unfold sA at cS
  dsimp only [stH,stB,aR,aC] at *
  refine ZEN Tryz.func290 Tryz.ntmps290 ?_
  repeat' (first|(refine ZAL ?_;first|refine uA ?_|refine uK (cF) ?_|refine uI [0,1,2] (cT) ?_)|(refine ZRG ?_;first|(refine kR 3235 rfl ?_;first|refine R_store_rp rfl rfl 101 _ _ rfl inf101 (by decide) rfl rfl (by exact map_get dG) rfl rfl rfl (ZbT rfl) (by exact map_set (f:=tCh) (x:=⟨g1,g2,g3,g4,gb⟩)) qN ?_)|refine uR ?_|refine ZQ1 (cS) ?_)|refine uC ?_|(first|refine AW.drawU (id:=4) mixed 1 qR ?_|refine AW.drawU (id:=5) mixed 0 qR ?_)|fail)
  all_goals exact Aa Tryz.results290
theorem AqQ (c:AB) (m k:Nat) (h:AM) (t n:Int) (q:AT) (hx:sI q.arg) (hm:h.chans.length=m) (hk:h.done.length=k) (hm1:m≤2932031007402) :
  Cio Tryz.prog 291 [.ptr 0 0,aRq q] (stH c m k h t n) (aR (lookH h q)) (stH c m k h t n):=by
 have h1:(h.chans.map tCh).length=m:=by rw [fH,hm]
 have h1k:(h.done.map tR).length=k:=by rw [fH,hk]
 obtain ⟨qk,qa,qv,qd,cs⟩:=q
 dsimp only at hx
 have cF:=NJ h qa hx (by omega)
 unfold lookH
 dsimp only
 cases hf:DE h qa
 ·rw [fM (by simp)]
  rw [hf,QX hf] at cF
  dsimp only [stH,stB,aR,aRq]
  refine ZEN Tryz.func291 Tryz.ntmps291 ?_
  repeat' (first|refine uA ?_|(refine ZRG ?_;first|refine uR ?_|refine ZQ1 (cF) ?_)|refine uC ?_|refine AW.drawU (id:=1) mixed 2 qR ?_|fail)
  all_goals exact Aa Tryz.results291
 ·obtain ⟨j,ch,e1,e2,hc,hu,hgn,e3,e4,e5⟩:=JS hf
  rw [fL rfl,e3,e4]
  rw [hf,e3] at cF
  obtain ⟨c1,c2,c3,c4,cb⟩:=ch
  have hbl:(cb.map tI).length=cb.length:=fH _
  by_cases hk6:qk=6
  ·rw [fL hk6]
   dsimp only [stH,stB,aR,aRq]
   refine ZEN Tryz.func291 Tryz.ntmps291 ?_
   repeat' (first|refine Eu ?_|fail)
   all_goals exact Aa Tryz.results291
  ·rw [fM hk6]
   dsimp only [stH,stB,aR,aRq]
   refine ZEN Tryz.func291 Tryz.ntmps291 ?_
   repeat' (first|refine Eu ?_|fail)
   all_goals first|(exfalso;omega)|((refine De Tryz.results291 ?_ ?_ ?_<;>repeat' (first|exact ZE1|refine ZE2 ?_ ?_|refine ZE3 ?_|exact ZE4|fail)))
   all_goals (rw [hbl])
theorem AbQ (c:AB) (m k:Nat) (h:AM) (me n t v:Int) (hm:h.chans.length=m) (hk:h.done.length=k) (hh:NR h) :
  Cio Tryz.prog 292 [.ptr 0 0,i64 t,i64 v] (stH c m k h me n) (aR (cancelH h me t v).2) (stH c m k (cancelH h me t v).1 me n):=by
 have h1:(h.waits.map tWt).length=h.waits.length:=fH _
 have hk1:=hh.d
 have hw0:=hh.w.1
 unfold cancelH i1_
 by_cases ht:0≤t∧t<h.waits.length
 ·obtain ⟨j,rfl⟩ : ∃j:Nat,t=j:=⟨t.toNat,by omega⟩
  obtain ⟨⟨on,tk,sq,cs⟩,hw⟩ : ∃w,h.waits[j]? = some w:=⟨_,ZgE (by omega)⟩
  rw [fW,BJ hw]
  cases on
  ·rw [NF hw rfl,jA,jA,fM (by simp)]
   by_cases hme:(j:Int)=me
   ·subst hme
    dsimp only [stH,stB,aR]
    refine B9 ?_
    repeat' (first|refine A0 ?_|fail)
    all_goals exact Aa Tryz.results292
   ·dsimp only [stH,stB,aR]
    refine B9 ?_
    repeat' (first|refine A0 ?_|fail)
    all_goals exact Aa Tryz.results292
  ·rw [EB hw rfl,kM]
   by_cases hme:(j:Int)=me
   ·subst hme
    rw [fP (by simp),jA,fM (by simp)]
    dsimp only [stH,stB,aR]
    refine B9 ?_
    repeat' (first|refine A0 ?_|fail)
    all_goals exact Aa Tryz.results292
   ·rw [fR hme,kM]
    dsimp only
    by_cases hv:sq=v
    ·subst hv
     rw [fR rfl,fL rfl]
     have cX0:=XZ h.waits j hh.w
     have hcl:(cutW h.waits j).length=h.waits.length:=CM ..
     rw [EB hw rfl] at cX0
     have cT:=k4_ c m k ⟨h.ticket,h.chans,cutW h.waits j,h.done⟩ me n [⟨j,⟨sq,0,11,0⟩⟩] hk (by simp) (by omega)
     dsimp only at cT ⊢
     generalize cutW h.waits j=W at *
     have cX:Cd Tryz.prog 304 [.ln (h.waits.map tWt),i64 j] (.tup [.t (.lst (W.map tWt)),bo true]) []:=by have cX0':=Cd.frz cX0 0 rfl aB rfl;exact Cd.drop cX0' rfl
     rw [show tellL h.done [⟨j,⟨sq,0,11,0⟩⟩]=FX h.done j ⟨sq,0,11,0⟩ from rfl] at cT
     dsimp only [stH,stB,aR] at *
     refine B9 ?_
     repeat' (first|(refine ZAL ?_;first|(refine kL 6415 rfl ?_;first|(refine A_lit (d:=72) rfl rfl 200 1 _ rfl ud200 inf239 (.cons rfl .nil) (els:=[[_,_,_,_,_]]) rfl (by first|exact (rfl:_=List.map tTd [⟨j,⟨sq,0,11,0⟩⟩])|exact qN) rfl (fT rfl) (ZbT rfl) (ZbT rfl) (.push qL qN) ?_;(try refine uf 4 72 ?_)))|(refine kL 1699 rfl ?_;first|refine A_store_rp rfl rfl 53 _ _ rfl inf53 (by decide) rfl rfl (by first|exact map_get dG|assumption|exact map_get hw) rfl rfl rfl (ZbT rfl) (by first|exact map_set (f:=tTd) (x:=⟨j,⟨sq,0,11,0⟩⟩)|exact qN) qN ?_)|(refine kL 3011 rfl ?_;first|refine A_store_rp rfl rfl 94 _ _ rfl ZM (by decide) rfl rfl (by first|exact map_get dG|assumption|exact map_get hw) rfl rfl rfl (ZbT rfl) (by first|exact map_set (f:=tTd) (x:=⟨j,⟨sq,0,11,0⟩⟩)|exact qN) qN ?_)|refine uA ?_|refine uK (cX) ?_|refine uI [0,1,2] (cT) ?_)|refine uC ?_|refine uS 9 (fun hb=>?_) (fun hb=>?_)|refine uS 19 (fun hb=>?_) (fun hb=>?_)|refine uS 27 (fun hb=>?_) (fun hb=>?_)|refine uS 39 (fun hb=>?_) (fun hb=>?_)|refine ZK2 (fun hc=>?_) (fun hc=>?_)|fail)
     all_goals exact Aa Tryz.results292
    ·rw [fP hv,fM (by simp)]
     dsimp only [stH,stB,aR]
     refine B9 ?_
     repeat' (first|refine A0 ?_|fail)
     all_goals exact Aa Tryz.results292
 ·rw [NG ht,jA,jA,fM (by simp)]
  dsimp only [stH,stB,aR]
  by_cases h0:t<0
  all_goals
   refine B9 ?_
   repeat' (first|refine A0 ?_|fail)
   all_goals first|(exfalso;omega)|(exact B7 Tryz.results292)
theorem ApF (c:AB) (m k:Nat) (h:AM) (t n:Int) (q:AT) (hq:okQ h q) (hm:h.chans.length=m) (hk:h.done.length=k) (hh:NR h) :
  Cio Tryz.prog 277 [.ptr 0 0,aRq q] (stH c m k h t n) (aR (callH c h t n q).2) (stH c m k (callH c h t n q).1 t n):=by
 have hm1:=hh.c
 have x1:=ArG c m k h t n q.arg hm (by omega) hq.g
 have x2:=ApN c m k h t n q.arg hq.a hm hk (by omega) hh.w
 have x3:=AbU c m k h t n q hq.c hq.l hq.t hm hk hh
 have x4:=AjF c m k h t n q.arg hq.a hm hk hh
 have x5:=AqQ c m k h t n q hq.a hm hk (by omega)
 have x7:=AbQ c m k h t n q.arg q.value hm hk hh
 unfold callH
 obtain ⟨qk,qa,qv,qd,cs⟩:=q
 dsimp only at *
 by_cases k1:qk=1
 ·rw [fL k1]
  generalize openH c h qa=O at *
  obtain ⟨⟨o1,o2,o3,o4⟩,⟨r1,r2,r3,r4⟩⟩:=O
  dsimp only [stH,stB,aR,aRq] at *
  clear x2 x3 x4 x5 x7
  refine B2 ?_
  repeat' (first|(refine ZAL ?_;first|refine uA ?_|refine uI [0,1,2] (x1) ?_)|refine uC ?_|fail)
  all_goals exact Aa Tryz.results277
 ·rw [fM k1]
  by_cases k2:qk=2
  ·rw [fL k2]
   generalize freeH h qa=O at *
   obtain ⟨⟨o1,o2,o3,o4⟩,⟨r1,r2,r3,r4⟩⟩:=O
   dsimp only [stH,stB,aR,aRq] at *
   clear x1 x3 x4 x5 x7
   refine B2 ?_
   repeat' (first|(refine ZAL ?_;first|refine uA ?_|refine uI [0,1,2] (x2) ?_)|refine uC ?_|fail)
   all_goals exact Aa Tryz.results277
  ·rw [fM k2]
   by_cases k3:qk=3
   ·rw [fL k3]
    generalize chooseH h t n ⟨qk,qa,qv,qd,cs⟩=O at *
    obtain ⟨⟨o1,o2,o3,o4⟩,⟨r1,r2,r3,r4⟩⟩:=O
    dsimp only [stH,stB,aR,aRq] at *
    clear x2 x1 x4 x5 x7
    refine B2 ?_
    repeat' (first|(refine ZAL ?_;first|refine uA ?_|refine uI [0,1,2] (x3) ?_)|refine uC ?_|fail)
    all_goals exact Aa Tryz.results277
   ·rw [fM k3]
    by_cases k4:qk=4
    ·rw [fL k4]
     generalize closeH h qa=O at *
     obtain ⟨⟨o1,o2,o3,o4⟩,⟨r1,r2,r3,r4⟩⟩:=O
     dsimp only [stH,stB,aR,aRq] at *
     clear x2 x3 x1 x5 x7
     refine B2 ?_
     repeat' (first|(refine ZAL ?_;first|refine uA ?_|refine uI [0,1,2] (x4) ?_)|refine uC ?_|fail)
     all_goals exact Aa Tryz.results277
    ·rw [fM k4]
     by_cases k5:qk=5∨qk=6
     ·rw [fL k5]
      generalize lookH h ⟨qk,qa,qv,qd,cs⟩=O at *
      obtain ⟨r1,r2,r3,r4⟩:=O
      dsimp only [stH,stB,aR,aRq] at *
      clear x2 x3 x4 x1 x7
      by_cases k6:qk=5
      all_goals
       refine B2 ?_
       repeat' (first|(refine ZAL ?_;first|refine uA ?_|refine uI [0,1,2] (x5) ?_)|refine uC ?_|fail)
       all_goals first|(exfalso;omega)|(exact B7 Tryz.results277)
     ·rw [fM k5]
      by_cases k7:qk=7
      ·rw [fL k7]
       generalize cancelH h t qa qv=O at *
       obtain ⟨⟨o1,o2,o3,o4⟩,⟨r1,r2,r3,r4⟩⟩:=O
       dsimp only [stH,stB,aR,aRq] at *
       clear x2 x3 x4 x5 x1
       refine B2 ?_
       repeat' (first|(refine ZAL ?_;first|refine uA ?_|refine uI [0,1,2] (x7) ?_)|refine uC ?_|fail)
       all_goals exact Aa Tryz.results277
      ·rw [fM k7]
       dsimp only [stH,stB,aR,aRq] at *
       clear x1 x2 x3 x4 x5 x7
       refine B2 ?_
       repeat' (first|refine A0 ?_|fail)
       all_goals exact Aa Tryz.results277
theorem AhX (c:AB) (h:AM) (t n:Int) (q:AT) (hq:okQ h q) (hh:NR h) :
  Cd Tryz.prog 264 [fCf c,aHl h,i64 t,i64 n,aRq q] (.agg [i64 (applyH c h t n q).ticket,.sl 0 0 h.chans.length,.t (.lst ((applyH c h t n q).waits.map tWt)),.sl 1 0 h.done.length]) [.row 0 101 5 ((applyH c h t n q).chans.map tCh),.row 0 53 4 ((applyH c h t n q).done.map tR)]:=by
 have cK:=AjC h hh
 have cL:=ApF c h.chans.length h.done.length h t n q hq rfl rfl hh
 obtain ⟨h1,h2⟩:=TV c h t n q
 have hk1:=hh.d
 unfold applyH
 generalize callH c h t n q=O at *
 obtain ⟨⟨o1,o2,o3,o4⟩,⟨r1,r2,r3,r4⟩⟩:=O
 obtain ⟨qk,qa,qv,qd,cs⟩:=q
 dsimp only at *
 have h3:(o4.map tR).length=h.done.length:=by rw [fH,h2]
 have h4:(o2.map tCh).length=h.chans.length:=by rw [fH,h1]
 generalize hM:h.chans.length=m at *
 generalize hK:h.done.length=k at *
 dsimp only [stH,stB,aR,aRq,fCf] at *
 by_cases ht:0≤t∧t<k
 ·obtain ⟨j,rfl⟩ : ∃j:Nat,t=j:=⟨t.toNat,by omega⟩
  rw [a8_ (by omega)]
  obtain ⟨y,hy⟩ : ∃y,o4[j]? = some y:=⟨_,ZgE (by omega)⟩
  refine ZEN Tryz.func264 Tryz.ntmps264 ?_
  repeat' (first|(refine ZAL ?_;first|refine uA ?_|refine uI [6,4,5] (cL) ?_)|(refine ZRG ?_;first|(refine kR 1699 rfl ?_;first|refine R_store_rp rfl rfl 53 _ _ rfl inf53 (by decide) rfl rfl (by exact map_get dG) rfl rfl rfl (ZbT rfl) (by exact map_set (f:=tR) (x:=⟨n,r2,r3,r4⟩)) qN ?_)|refine uR ?_|refine uQ (cK) 4 ?_)|refine uC ?_|(first|refine AW.drawU (id:=1) mixed 3 qR ?_|refine AW.drawU (id:=5) mixed 0 qR ?_)|fail)
  all_goals first|(exfalso;omega)|(exact Fin.q Tryz.results264 (.cons (.agg rfl rfl ud97 rfl inf97 (us:=[_,_,_,_]) rfl rfl) .nil) [4,5])
 ·rw [UP (by omega)]
  by_cases h0:0≤t
  all_goals
   refine ZEN Tryz.func264 Tryz.ntmps264 ?_
   repeat' (first|(refine ZAL ?_;first|refine uA ?_|refine uI [6,4,5] (cL) ?_)|(refine ZRG ?_;first|refine uR ?_|refine uQ (cK) 4 ?_)|refine uC ?_|refine AW.drawU (id:=1) mixed 3 qR ?_|fail)
   all_goals first|(exfalso;omega)|(exact Fin.q Tryz.results264 (.cons (.agg rfl rfl ud97 rfl inf97 (us:=[_,_,_,_]) rfl rfl) .nil) [4,5])
end
end Go.Proofs.YtccefppppedgkaaGreat
