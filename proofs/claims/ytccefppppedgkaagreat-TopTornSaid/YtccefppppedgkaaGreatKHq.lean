/- Joined: XTChans, XTChansB, XTChansC. -/
import Derived.Test.YtccefppppedgkaaGreatKHo
set_option linter.unusedVariables false
set_option linter.unusedSimpArgs false
set_option linter.unnecessarySimpa false
set_option maxRecDepth 100000
set_option maxHeartbeats 64000000
namespace Go.Proofs.YtccefppppedgkaaGreat
open Go.RowKit
section
attribute [local irreducible] AL AW RG Fin C Cd Cio AI AF AO
section
attribute [local simp] DR CQ
structure DG where
 c:AY
 l:List AH
 r:Rst
 told:List HK
 deriving DecidableEq
abbrev aC (c:AY):AV:=.agg [i64 c.gen,i64 c.cap,bo c.used,bo c.closed,.ln (c.buf.map tI)]
def gA (g:DG):AV:=.tup [.agg [i64 g.c.gen,i64 g.c.cap,bo g.c.used,bo g.c.closed,.t (.lst (g.c.buf.map tI))],.t (.lst (g.l.map tWt)),.agg [i64 g.r.seq,i64 g.r.cas,i64 g.r.code,i64 g.r.value],.t (.lst (g.told.map tTd))]
def chB (c:AY) (b:List Int):AY:=⟨c.gen,c.cap,c.used,c.closed,b⟩
theorem MF (c:AY) (hb:c.buf.length≤17592186044416):Cd Tryz.prog 286 [aC c] (.agg [i64 c.gen,i64 c.cap,bo c.used,bo c.closed,.sl 0 0 c.buf.length]) [.row 0 3 1 (c.buf.map tI)]:=by
 refine ZEN Tryz.func286 Tryz.ntmps286 ?_
 repeat' (first|(refine ZAL ?_;first|refine uA ?_|refine uK (AR c.buf hb) ?_)|refine uC ?_|fail)
 all_goals (exact Fin.q Tryz.results286 (.cons (.agg rfl rfl ud101 rfl inf101 (us:=[_,_,_,_,_]) rfl rfl) .nil) [2])
theorem XT (l:List AH) (t:Nat) (wh code v:Int) (w:AH) (hw:l[t]? = some w):Cd Tryz.prog 311 [.ln (l.map tWt),i64 t,i64 wh,i64 code,i64 v] (.agg [i64 t,i64 w.seq,i64 wh,i64 code,i64 v]) []:=by
 have h1:(l.map tWt).length=l.length:=fN _
 have h2:=get_lt hw
 refine ZEN Tryz.func311 Tryz.ntmps311 ?_
 repeat' (first|refine A0 ?_|fail)
 all_goals first|(exfalso;omega)|(exact Fin.q Tryz.results311 (.cons (.agg rfl rfl AjF rfl inf239 (us:=[_,_,_,_,_]) rfl rfl) .nil) [])
def UX (c:AY) (h:Int) (l:List AH) (d:Int):Bool :=
 c.used&&(if d=1 then c.closed||(fir l 2 h).ok||decide ((c.buf.length:Int)<c.cap) else if d=2 then c.closed||(fir l 1 h).ok||decide ((0:Int)<c.buf.length) else false)
theorem v_ (c:AY) (h:Int) (l:List AH) (d:Int) (hl:okW l):Cd Tryz.prog 299 [aC c,i64 h,.ln (l.map tWt),i64 d] (bo (UX c h l d)) []:=by
 obtain ⟨g,cap,used,closed,buf⟩:=c
 have h1:(buf.map tI).length=buf.length:=fN _
 unfold UX
 dsimp only [aC]
 cases used
 ·refine ZEN Tryz.func299 Tryz.ntmps299 ?_
  repeat' (first|refine A0 ?_|fail)
  all_goals exact A2 Tryz.results299
 ·by_cases d1:d=1
  ·subst d1
   have cF:=MG l 2 h hl
   generalize (fir l 2 h)=F at cF
   obtain ⟨th,wh,ok⟩:=F
   dsimp only at cF ⊢
   by_cases hcc:(buf.length:Int)<cap
   all_goals
    cases closed<;>cases ok
    all_goals
     refine ZEN Tryz.func299 Tryz.ntmps299 ?_
     repeat' (first|refine Bm ?_|fail)
     all_goals first|(exfalso;omega)|((first|exact A6 Tryz.results299|refine A5 Tryz.results299 ?_))
     all_goals first|(simp [hcc];done)|(rw [fW hcc];simp;done)|(rw [fZ hcc];simp;done)|(simp only [fW hcc];simp;done)|(simp only [fZ hcc];simp;done)|skip
  ·by_cases d2:d=2
   ·subst d2
    have cF:=MG l 1 h hl
    generalize (fir l 1 h)=F at cF
    obtain ⟨th,wh,ok⟩:=F
    dsimp only at cF ⊢
    by_cases hcc:0<(buf.length:Int)
    all_goals
     cases closed<;>cases ok
     all_goals
      refine ZEN Tryz.func299 Tryz.ntmps299 ?_
      repeat' (first|refine Bm ?_|fail)
      all_goals first|(exfalso;omega)|((first|exact A6 Tryz.results299|refine A5 Tryz.results299 ?_))
      all_goals first|(simp [hcc];done)|(rw [fW hcc];simp;done)|(rw [fZ hcc];simp;done)|(simp only [fW hcc];simp;done)|(simp only [fZ hcc];simp;done)|skip
   ·refine ZEN Tryz.func299 Tryz.ntmps299 ?_
    repeat' (first|refine A0 ?_|fail)
    all_goals first|(exfalso;omega)|(refine A5 Tryz.results299 ?_)
    all_goals simp [d1,d2]
def thW (l:List AH) (f:FS):AH:=l.getD f.th.toNat default
def thV (l:List AH) (f:FS):Int:=((thW l f).cases.getD f.wh.toNat default).value
def h2_ (c:AY) (h:Int) (l:List AH) (v:Int):DG :=
 if (fir l 2 h).ok then ⟨c,cutW l (fir l 2 h).th,⟨0,0,0,0⟩,[⟨(fir l 2 h).th,⟨(thW l (fir l 2 h)).seq,(fir l 2 h).wh,0,v⟩⟩]⟩ else ⟨chB c (c.buf++[v]),l,⟨0,0,0,0⟩,[]⟩
def g2_ (c:AY) (h:Int) (l:List AH):DG :=
 if (fir l 1 h).ok then ⟨chB c ((c.buf++[thV l (fir l 1 h)]).drop 1),cutW l (fir l 1 h).th,⟨0,0,0,(c.buf++[thV l (fir l 1 h)]).headD 0⟩,[⟨(fir l 1 h).th,⟨(thW l (fir l 1 h)).seq,(fir l 1 h).wh,0,0⟩⟩]⟩
 else ⟨chB c (c.buf.drop 1),l,⟨0,0,0,c.buf.headD 0⟩,[]⟩
theorem AvL (c:AY) (h:Int) (l:List AH) (v:Int) (hl:okW l) (hb:c.buf.length≤17592186043904):Cd Tryz.prog 318 [aC c,i64 h,.ln (l.map tWt),i64 v] (gA (h2_ c h l v)) []:=by
 have hcc:=MF c (by omega)
 have cF:=MG l 2 h hl
 unfold h2_
 cases hk:(fir l 2 h).ok
 ·rw [hk] at cF
  obtain ⟨g,cap,used,closed,buf⟩:=c
  have h1:(buf.map tI).length=buf.length:=fN _
  dsimp only at hb
  dsimp only [aC] at hcc
  have h0:Cd Tryz.prog 318 [.agg [i64 g,i64 cap,bo used,bo closed,.ln (buf.map tI)],i64 h,.ln (l.map tWt),i64 v] (.tup [.agg [i64 g,i64 cap,bo used,bo closed,.sl 0 0 (buf.length+1)],.sl 1 0 l.length,.agg [i64 0,i64 0,i64 0,i64 0],.nl]) [.row 0 3 1 ((buf++[v]).map tI),.row 0 167 4 (l.map tWt)]:=by
   refine ZEN Tryz.func318 Tryz.ntmps318 ?_
   repeat' (first|(refine ZAL ?_;first|(refine kL 719 rfl ?_;first|refine A_lit rfl rfl 22 1 _ rfl ud22 inf3 (.cons rfl .nil) (els:=[[_]]) rfl (by first|exact (rfl:_=List.map tI [_])|exact qN) rfl (gB rfl) (ZbT rfl) (ZbT rfl) (.push qL qN) ?_)|refine Dt ?_|refine uA ?_|refine uK (hcc) ?_|refine uK (cF) ?_)|(refine ZRG ?_;first|refine Fd ?_|refine uR ?_|refine AT (wcopy_c l hl) ?_)|refine uC ?_|(first|refine AW.drawU (id:=6) mixed 1 qR ?_|refine AW.drawU (id:=8) mixed 1 qR ?_)|refine ZK2 (fun hc=>?_) (fun hc=>?_)|fail)
   all_goals first|(exfalso;omega)|(exact Fin.q Tryz.results318 (.cons (.agg rfl rfl ud101 rfl inf101 (us:=[_,_,_,_,_]) rfl rfl) (.cons (.tmp rfl) (.cons (.agg rfl rfl ud53 rfl inf53 (us:=[_,_,_,_]) rfl rfl) (.cons (.tmp rfl) .nil)))) [3,6])
  simp only [iM,jL,gA,chB]
  have h0':=Cd.frz h0 0 rfl aB rfl;have h0'':=Cd.frz h0' 1 rfl aB rfl;exact Cd.drop h0'' rfl
 ·obtain ⟨t,m,w,k,e1,e2,hw,hon,hc,e3,e4⟩:=OI hk
  have hT:thW l (fir l 2 h)=w:=by unfold thW;rw [e1,gE,BK hw]
  have cE:=XT l t m 0 v w hw
  have cX:=ZI l t hl
  rw [EM hw hon] at cX
  rw [hk,e1,e2] at cF
  rw [fR rfl,hT,e1,e2]
  obtain ⟨g,cap,used,closed,buf⟩:=c
  dsimp only at hb
  dsimp only [aC] at hcc
  have h0:Cd Tryz.prog 318 [.agg [i64 g,i64 cap,bo used,bo closed,.ln (buf.map tI)],i64 h,.ln (l.map tWt),i64 v] (.tup [.agg [i64 g,i64 cap,bo used,bo closed,.sl 0 0 buf.length],.sl 1 0 l.length,.agg [i64 0,i64 0,i64 0,i64 0],.sl 2 0 1]) [.row 0 3 1 (buf.map tI),.row 0 167 4 ((cutW l t).map tWt),.row 0 239 5 [tTd ⟨t,⟨w.seq,m,0,v⟩⟩]]:=by
   refine ZEN Tryz.func318 Tryz.ntmps318 ?_
   repeat' (first|(refine ZAL ?_;first|(refine kL 3235 rfl ?_;first|refine A_store_rp rfl rfl 101 _ _ rfl inf101 (by decide) rfl rfl aI rfl rfl rfl (ZbT rfl) bV qN ?_)|(refine kL 7651 rfl ?_;first|refine A_store_rp rfl rfl 239 _ _ rfl inf239 (by decide) rfl rfl aI rfl rfl rfl (ZbT rfl) bV qN ?_)|(refine kL 719 rfl ?_;first|refine A_lit rfl rfl 22 1 _ rfl ud22 inf3 (.cons rfl .nil) (els:=[[_]]) rfl eU rfl (gB rfl) (ZbT rfl) (ZbT rfl) (.push qL qN) ?_)|(refine kL 12 rfl ?_;first|refine CN rfl rfl _ _ 22 rfl ud22 inf3 rfl rfl rfl cY aA qB qB (by first|exact app_map aE|exact app_one (f:=tTd) (x:=⟨t,⟨w.seq,m,0,v⟩⟩) aE|exact qN) qN qS ?_|refine BD rfl rfl _ _ 22 rfl ud22 inf3 rfl rfl aA qB qB eU (.push qL qN) qS ?_|refine A_append_nlsub rfl rfl _ _ 22 rfl ud22 inf3 rfl rfl rfl rfl aJ qB qB iU.symm (.push qL qN) ?_)|(refine kL 707 rfl ?_;first|refine A_store_rp rfl rfl 22 _ _ rfl c1_ (by decide) rfl rfl aI rfl rfl rfl (ZbT rfl) bV qN ?_)|refine uA ?_|refine uK (hcc) ?_|refine uK (cF) ?_|refine uK (cE) ?_|refine uK (cX) ?_)|(refine ZRG ?_;first|(refine kR 6415 rfl ?_;first|refine R_lit rfl rfl 200 1 _ rfl ud200 inf239 (.cons rfl .nil) (els:=[[_,_,_,_,_]]) rfl eU rfl (gB rfl) (ZbT rfl) (ZbT rfl) qh qN ?_)|(refine kR 3235 rfl ?_;first|refine R_store_rp rfl rfl 101 _ _ rfl inf101 (by decide) rfl rfl aI rfl rfl rfl (ZbT rfl) bV qN ?_)|(refine kR 1699 rfl ?_;first|refine R_store_rp rfl rfl 53 _ _ rfl inf53 (by decide) rfl rfl aI rfl rfl rfl (ZbT rfl) bV qN ?_)|refine uR ?_)|refine uC ?_|(first|refine AW.drawU (id:=6) mixed 1 qR ?_|refine AW.drawU (id:=8) mixed 1 qR ?_)|refine ZK2 (fun hc=>?_) (fun hc=>?_)|fail)
   all_goals first|(exfalso;omega)|(exact Fin.q Tryz.results318 (.cons (.agg rfl rfl ud101 rfl inf101 (us:=[_,_,_,_,_]) rfl rfl) (.cons (.tmp rfl) (.cons (.agg rfl rfl ud53 rfl inf53 (us:=[_,_,_,_]) rfl rfl) (.cons (.tmp rfl) .nil)))) [3,6,7])
  have h0':=Cd.frz h0 0 rfl aB rfl;have h0'':=Cd.frz h0' 1 rfl aB rfl;have h0''':=Cd.frz h0'' 2 rfl aB rfl;exact Cd.drop h0''' rfl
theorem AuC (c:AY) (h:Int) (l:List AH) (hl:okW l) (hb:c.buf.length≤17592186043904) (hr:0<c.buf.length∨(fir l 1 h).ok=true):Cd Tryz.prog 319 [aC c,i64 h,.ln (l.map tWt)] (gA (g2_ c h l)) []:=by
 have hcc:=MF c (by omega)
 have cF:=MG l 1 h hl
 unfold g2_
 cases hk:(fir l 1 h).ok
 ·rw [hk] at cF hr
  obtain ⟨g,cap,used,closed,buf⟩:=c
  have h1:(buf.map tI).length=buf.length:=fN _
  dsimp only at hb hr
  dsimp only [aC] at hcc
  obtain ⟨x0,T,hB⟩ : ∃x0 T,buf=x0::T:=List.exists_cons_of_length_pos (by rcases hr with hr|hr;exact hr;cases hr)
  have hx0:buf[0]? = some x0:=by rw [hB];rfl
  have hd:buf.drop 1=T:=by rw [hB];rfl
  have hTl:T.length+1=buf.length:=by rw [hB];rfl
  have cK:=AR (buf.drop 1) bA
  have h3:(buf.drop 1).length=T.length:=by rw [hd]
  rw [h3] at cK
  have h0:Cd Tryz.prog 319 [.agg [i64 g,i64 cap,bo used,bo closed,.ln (buf.map tI)],i64 h,.ln (l.map tWt)] (.tup [.agg [i64 g,i64 cap,bo used,bo closed,.sl 0 0 T.length],.sl 1 0 l.length,.agg [i64 0,i64 0,i64 0,i64 x0],.nl]) [.row 0 3 1 ((buf.drop 1).map tI),.row 0 167 4 (l.map tWt)]:=by
   refine ZEN Tryz.func319 Tryz.ntmps319 ?_
   repeat' (first|(refine ZAL ?_;first|refine uA ?_|refine uK (hcc) ?_|refine uK (cF) ?_|refine uK (cK) ?_)|(refine ZRG ?_;first|refine Fe ?_|refine Fd ?_|refine uR ?_|refine AT (wcopy_c l hl) ?_)|refine uC ?_|refine Ff ?_|refine ZK2 (fun hc=>?_) (fun hc=>?_)|fail)
   all_goals first|(exfalso;omega)|(exact Fin.q Tryz.results319 (.cons (.agg rfl rfl ud101 rfl inf101 (us:=[_,_,_,_,_]) rfl rfl) (.cons (.tmp rfl) (.cons (.agg rfl rfl ud53 rfl inf53 (us:=[_,_,_,_]) rfl rfl) (.cons (.tmp rfl) .nil)))) [5,6])
  simp only [iM,jL,gA,chB]
  rw [show buf.headD 0=x0 by rw [hB];rfl]
  have h0':=Cd.frz h0 0 rfl aB rfl;have h0'':=Cd.frz h0' 1 rfl aB rfl;exact Cd.drop h0'' rfl
 ·obtain ⟨t,m,w,k,e1,e2,hw,hon,hc,e3,e4⟩:=OI hk
  have hT:thW l (fir l 1 h)=w:=by unfold thW;rw [e1,gE,BK hw]
  have hV:thV l (fir l 1 h)=k.value:=by unfold thV;rw [hT,e2,gE,BK hc]
  have cE:=XT l t m 0 0 w hw
  have cX:=ZI l t hl
  rw [EM hw hon] at cX
  rw [hk,e1,e2] at cF
  rw [fR rfl,hV,hT,e1,e2]
  obtain ⟨g,cap,used,closed,buf⟩:=c
  have h1:(buf.map tI).length=buf.length:=fN _
  have ht:=get_lt hw
  have hm:=get_lt hc
  have h2:(l.map tWt).length=l.length:=fN _
  have h4:(w.cases.map tCs).length=w.cases.length:=fN _
  dsimp only at hb
  dsimp only [aC] at hcc
  obtain ⟨x0,T,hB⟩ : ∃x0 T,buf++[k.value]=x0::T:=List.exists_cons_of_length_pos (by simp)
  have hx0:(buf++[k.value])[0]? = some x0:=by rw [hB];rfl
  have hd:(buf++[k.value]).drop 1=T:=by rw [hB];rfl
  have hTl:T.length=buf.length:=by have:=congrArg List.length hB;simp at this;omega
  have cK:=AR ((buf++[k.value]).drop 1) bA
  have h3:((buf++[k.value]).drop 1).length=buf.length:=by simp
  rw [h3] at cK
  have h5:((buf++[k.value]).map tI).length=buf.length+1:=by simp
  have h6:(buf++[k.value]).length=buf.length+1:=by simp
  have h0:Cd Tryz.prog 319 [.agg [i64 g,i64 cap,bo used,bo closed,.ln (buf.map tI)],i64 h,.ln (l.map tWt)] (.tup [.agg [i64 g,i64 cap,bo used,bo closed,.sl 0 0 buf.length],.sl 1 0 l.length,.agg [i64 0,i64 0,i64 0,i64 x0],.sl 2 0 1]) [.row 0 3 1 (((buf++[k.value]).drop 1).map tI),.row 0 167 4 ((cutW l t).map tWt),.row 0 239 5 [tTd ⟨t,⟨w.seq,m,0,0⟩⟩]]:=by
   refine ZEN Tryz.func319 Tryz.ntmps319 ?_
   repeat' (first|(refine ZAL ?_;first|(refine kL 3235 rfl ?_;first|refine A_store_rp rfl rfl 101 _ _ rfl inf101 (by decide) rfl rfl bK rfl rfl rfl (ZbT rfl) bE qN ?_)|(refine kL 707 rfl ?_;first|refine A_store_rp rfl rfl 22 _ _ rfl c1_ (by decide) rfl rfl bK rfl rfl rfl (ZbT rfl) bE qN ?_)|(refine kL 7651 rfl ?_;first|refine A_store_rp rfl rfl 239 _ _ rfl inf239 (by decide) rfl rfl bK rfl rfl rfl (ZbT rfl) bE qN ?_)|refine uA ?_|refine uK (hcc) ?_|refine uK (cF) ?_|refine uK (cK) ?_|refine uK (cE) ?_|refine uK (cX) ?_)|(refine ZRG ?_;first|(refine kR 3235 rfl ?_;first|refine R_store_rp rfl rfl 101 _ _ rfl inf101 (by decide) rfl rfl bK rfl rfl rfl (ZbT rfl) bE qN ?_)|(refine kR 1699 rfl ?_;first|refine R_store_rp rfl rfl 53 _ _ rfl inf53 (by decide) rfl rfl bK rfl rfl rfl (ZbT rfl) bE qN ?_)|(refine kR 719 rfl ?_;first|refine R_lit rfl rfl 22 1 _ rfl ud22 inf3 (.cons rfl .nil) (els:=[[_]]) rfl dR rfl (gB rfl) (ZbT rfl) (ZbT rfl) qh qN ?_)|(refine kR 12 rfl ?_;first|refine R_append rfl rfl _ _ 22 rfl ud22 inf3 rfl rfl rfl cY aA qB qB (by first|exact app_map aE|exact app_one (f:=tI) (x:=_) aE|exact app_one (f:=tTd) (x:=⟨t,⟨w.seq,m,0,0⟩⟩) aE|exact qN) qN qS ?_|refine CX rfl rfl _ _ 22 rfl ud22 inf3 rfl rfl aA qB qB dR qh qN qS ?_)|(refine kR 707 rfl ?_;first|refine R_store_rp rfl rfl 22 _ _ rfl c1_ (by decide) rfl rfl bK rfl rfl rfl (ZbT rfl) bE qN ?_)|(refine kR 6415 rfl ?_;first|refine R_lit rfl rfl 200 1 _ rfl ud200 inf239 (.cons rfl .nil) (els:=[[_,_,_,_,_]]) rfl dR rfl (gB rfl) (ZbT rfl) (ZbT rfl) qh qN ?_)|refine uR ?_)|refine uC ?_|refine Ff ?_|refine ZK2 (fun hc=>?_) (fun hc=>?_)|fail)
   all_goals first|(exfalso;omega)|(exact Fin.q Tryz.results319 (.cons (.agg rfl rfl ud101 rfl inf101 (us:=[_,_,_,_,_]) rfl rfl) (.cons (.tmp rfl) (.cons (.agg rfl rfl ud53 rfl inf53 (us:=[_,_,_,_]) rfl rfl) (.cons (.tmp rfl) .nil)))) [7,9,6])
  rw [show (buf++[k.value]).headD 0=x0 by rw [hB];rfl]
  have h0':=Cd.frz h0 0 rfl aB rfl;have h0'':=Cd.frz h0' 1 rfl aB rfl;have h0''':=Cd.frz h0'' 2 rfl aB rfl;exact Cd.drop h0''' rfl
end
section
attribute [local simp] DR CQ
def doG (c:AY) (h:Int) (l:List AH) (d v:Int):DG :=
 if UX c h l d then
  if d=1 then (if c.closed then ⟨c,l,⟨0,0,9,0⟩,[]⟩ else h2_ c h l v)
  else if decide (0<(c.buf.length:Int))||(fir l 1 h).ok then g2_ c h l else ⟨c,l,⟨0,0,9,0⟩,[]⟩
 else ⟨c,l,⟨0,0,10,0⟩,[]⟩
theorem AqD {c:AY} {h:Int} {l:List AH} {d:Int} (hr:UX c h l d=true):d=1∨d=2:=by
 unfold UX at hr
 by_cases d1:d=1
 ·exact .inl d1
 ·by_cases d2:d=2
  ·exact .inr d2
  ·rw [fT d1,fT d2,kE] at hr;cases hr
theorem BcD (c:AY) (h:Int) (l:List AH) (d v:Int) (hl:okW l) (hb:c.buf.length≤17592186043904):Cd Tryz.prog 307 [aC c,i64 h,.ln (l.map tWt),i64 d,i64 v] (gA (doG c h l d v)) []:=by
 have h1:(c.buf.map tI).length=c.buf.length:=fN _
 have hcc:=MF c (by omega)
 have cF:=MG l 1 h hl
 have cR:=v_ c h l d hl
 have cW:=wcopy_c l hl
 unfold doG
 cases hr:UX c h l d
 ·rw [hr] at cR
  rw [fT (by simp)]
  have h0:Cd Tryz.prog 307 [aC c,i64 h,.ln (l.map tWt),i64 d,i64 v] (.tup [.agg [i64 c.gen,i64 c.cap,bo c.used,bo c.closed,.sl 0 0 c.buf.length],.sl 1 0 l.length,.agg [i64 0,i64 0,i64 10,i64 0],.nl]) [.row 0 3 1 (c.buf.map tI),.row 0 167 4 (l.map tWt)]:=by
   refine Br ?_
   repeat' (first|refine Dz ?_|fail)
   all_goals exact E0 Tryz.results307
  unfold gA
  have h0':=Cd.frz h0 0 rfl aB rfl;have h0'':=Cd.frz h0' 1 rfl aB rfl;exact Cd.drop h0'' rfl
 ·rw [hr] at cR
  rw [fR rfl]
  rcases AqD hr with rfl|rfl
  ·rw [fR rfl]
   obtain ⟨g,cap,used,closed,buf⟩:=c
   have cS:=AvL ⟨g,cap,used,closed,buf⟩ h l v hl hb
   dsimp only [aC] at cR hcc cS
   cases closed
   ·rw [fT (by simp)]
    unfold gA at cS ⊢
    refine Br ?_
    repeat' (first|(refine ZAL ?_;first|refine uA ?_|refine uK (cF) ?_|refine uK (cR) ?_|refine uK (cS) ?_)|refine uC ?_|fail)
    all_goals exact E1 Tryz.results307
   ·rw [fR rfl]
    have h0:Cd Tryz.prog 307 [.agg [i64 g,i64 cap,bo used,bo true,.ln (buf.map tI)],i64 h,.ln (l.map tWt),i64 1,i64 v] (.tup [.agg [i64 g,i64 cap,bo used,bo true,.sl 0 0 buf.length],.sl 1 0 l.length,.agg [i64 0,i64 0,i64 9,i64 0],.nl]) [.row 0 3 1 (buf.map tI),.row 0 167 4 (l.map tWt)]:=by
     refine Br ?_
     repeat' (first|refine Dz ?_|fail)
     all_goals exact E0 Tryz.results307
    unfold gA
    have h0':=Cd.frz h0 0 rfl aB rfl;have h0'':=Cd.frz h0' 1 rfl aB rfl;exact Cd.drop h0'' rfl
  ·rw [fT (by decide)]
   have cV:=fun hh=>AuC c h l hl hb hh
   cases hok:(fir l 1 h).ok
   ·rw [hok] at cF
    by_cases hp:0<(c.buf.length:Int)
    ·rw [fW hp,Bool.true_or,fR rfl]
     have cV:=cV (.inl (by omega))
     unfold gA at cV ⊢
     refine Br ?_
     repeat' (first|refine Fj ?_|fail)
     all_goals exact E1 Tryz.results307
    ·rw [fZ hp,Bool.false_or,fT (by simp)]
     have h0:Cd Tryz.prog 307 [aC c,i64 h,.ln (l.map tWt),i64 2,i64 v] (.tup [.agg [i64 c.gen,i64 c.cap,bo c.used,bo c.closed,.sl 0 0 c.buf.length],.sl 1 0 l.length,.agg [i64 0,i64 0,i64 9,i64 0],.nl]) [.row 0 3 1 (c.buf.map tI),.row 0 167 4 (l.map tWt)]:=by
      refine Br ?_
      repeat' (first|refine Dz ?_|fail)
      all_goals exact E0 Tryz.results307
     unfold gA
     have h0':=Cd.frz h0 0 rfl aB rfl;have h0'':=Cd.frz h0' 1 rfl aB rfl;exact Cd.drop h0'' rfl
   ·rw [hok] at cF
    rw [Bool.or_true,fR rfl]
    have cV:=cV (.inr hok)
    unfold gA at cV ⊢
    refine Br ?_
    repeat' (first|refine Fj ?_|refine uS 61 (fun hb=>?_) (fun hb=>?_)|fail)
    all_goals exact E1 Tryz.results307
end
section
attribute [local simp] DR CQ
end
end
end Go.Proofs.YtccefppppedgkaaGreat
