/- Joined: XTOnB, XTLaw10b, XTLaw10c, XTChans, XTChansB, XTChansC. -/
import Derived.Test.YtccefppppedgkaaGreatKGn
set_option linter.unusedVariables false
set_option linter.unusedSimpArgs false
set_option linter.unnecessarySimpa false
set_option maxRecDepth 100000
set_option maxHeartbeats 64000000
namespace Go.Proofs.YtccefppppedgkaaGreat
open Go.RowKit
section
attribute [local irreducible] AL AW RG Fin C Cd Cio AI AF AN
def onK (l:List AH) (h:Int):Nat→List Int
 |0=>[]
 |k+1=>if (l.getD k default).on&&decide (0≤ixF (isH h) (l.getD k default).cases) then onK l h k++[(k:Int)] else onK l h k
theorem b3_ {l:List AH} {h:Int} {k:Nat} {a:AH} (ha:l[k]? = some a):onK l h (k+1)=if a.on&&decide (0≤ixF (isH h) a.cases) then onK l h k++[(k:Int)] else onK l h k:=by
 rw [onK,BJ ha]
theorem p3_ (l:List AH) (h:Int) (k:Nat):(onK l h k).length≤k ∧ ∀z∈onK l h k,0≤z∧z<k:=by
 induction k with
 |zero=>exact ⟨fN _,fun z hz=>by simp [onK] at hz⟩
 | succ k ih =>
  unfold onK
  split
  ·refine ⟨by simp;omega,fun z hz=>?_⟩
   rcases gJ.1 hz with hz|hz
   ·have:=ih.2 z hz;omega
   ·simp at hz;omega
  ·exact ⟨by omega,fun z hz=>by have:=ih.2 z hz;omega⟩
structure OS where
 q:Nat
 k:Nat
 n:Nat
 O:List Int
theorem BcJ (l:List AH) (h:Int) (hl:okW l) (hsort : ∀k,Cio Tryz.prog 314 [.sl 0 k (onK l h l.length).length,.fn (.func 315) [] [.lp [.ln (l.map tWt)]]] [.row k 3 1 ((onK l h l.length).map tI)] (.tup []) [.row k 3 1 ((isort (tick l) (onK l h l.length)).map tI)]) :
  Cd Tryz.prog 305 [.ln (l.map tWt),i64 h] (.sl 0 0 (onK l h l.length).length) [.row 0 3 1 ((isort (tick l) (onK l h l.length)).map tI)]:=by
 have h0:=hl.1
 have h1:(l.map tWt).length=l.length:=fH _
 refine ZEN Tryz.func305 Tryz.ntmps305 ?_
 repeat' (first|refine A0 ?_|fail)
 refine AW.wk (Wk.own 5 rfl 3 1 (.push rfl rfl)) ?_
 refine AW.loopP (fun (x:OS)=>x.q≤l.length∧x.O=onK l h x.q∧x.n=x.O.length) (fun (x:OS)=>(pu (pu (pu (pu (pu (pu (fun _=>.any) 2 (.ptr 0 0)) 3 (.ptr 1 0)) 5 (.sl 2 x.k x.n)) 8 (.ln (l.map tWt))) 9 (i64 (l.map tWt).length)) 10 (i64 x.q))) (fun (x:OS)=>[.box 94 [.ln (l.map tWt)],.box 3 [i64 h],.row x.k 3 1 (x.O.map tI)]) (fun (x:OS)=>l.length-x.q) (⟨0,0,0,[]⟩) ?_ ?_ ?_
 ·exact ⟨fO _,rfl,rfl⟩
 ·exact Wk.cq 3
 ·rintro ⟨q,k,n,O⟩ ⟨h2,h3,h4⟩
  dsimp only at h2 h3 h4 ⊢
  subst h4
  have h5:=(p3_ l h q).1
  rw [←h3] at h5
  have h6:(O.map tI).length=O.length:=fH _
  by_cases hq:q<l.length
  ·obtain ⟨⟨on,tk,sq,cs⟩,ha⟩ : ∃a,l[q]? = some a:=⟨_,ZgE hq⟩
   have hn:=b3_ (h:=h) ha
   rw [←h3] at hn
   dsimp only at hn
   have hcs:=hl.at ha
   dsimp only at hcs
   have cC:=YU 313 [] [.lp [i64 h]] (isH h) (fun c=>⟨_,_,[],[.lp [i64 h]],rfl,Tryz.func313,by kernel_rfl,by kernel_rfl,fun _=>.nil,fun _=>.cons (.lpL (.cons (.t _) .nil)) .nil,AxX h c⟩) rfl (fun _ _=>.fnL .nil (.cons (.lpL (.cons (.t _) .nil)) .nil)) cs (by omega)
   generalize decide (0≤ixF (isH h) cs)=b at cC hn
   cases on<;>cases b
   all_goals
    repeat' (first|(refine ZAL ?_;first|refine Df ?_|refine uA ?_|refine uK (cC) ?_)|refine uC ?_|fail)
    all_goals first|(exfalso;omega)|(refine ⟨⟨q+1,k+1,O.length+1,O++[(q:Int)]⟩,⟨by dsimp only;omega,hn.symm,by simp⟩,by dsimp only;omega,?_⟩;(exact Wk.cq 3);done)|(refine ⟨⟨q+1,k,O.length,O⟩,⟨by dsimp only;omega,hn.symm,rfl⟩,by dsimp only;omega,?_⟩;(exact Wk.cq 3);done)
  ·have e:q=l.length:=by omega
   subst e
   subst h3
   repeat' (first|(refine ZAL ?_;first|refine uA ?_|refine uI [2] (hsort k) ?_)|refine uC ?_|fail)
   all_goals first|(exfalso;omega)|(exact Fin.q Tryz.results305 (.cons (.tmp rfl) .nil) [2])
theorem p2_ (l:List AH) (h:Int) (hl2:okW l):Cd Tryz.prog 305 [.ln (l.map tWt),i64 h] (.sl 0 0 (onK l h l.length).length) [.row 0 3 1 ((isort (tick l) (onK l h l.length)).map tI)] :=
 BcJ l h hl2 fun k=>XR _ _ _ _ _ k (by have:=(p3_ l h l.length).1;have:=hl2.1;omega) (ArF l _ fun z hz=>(p3_ l h l.length).2 z hz) rfl (fun _ _=>.fnL .nil (.cons (.lpL (.cons (.ln _) .nil)) .nil))
section
attribute [local simp] DL CM
end
theorem NK {l:List AH} {d h:Int} (hk:(fir l d h).ok=true) : ∃(t m:Nat) (w:AH) (c:BD),(fir l d h).th=t∧(fir l d h).wh=m∧l[t]? = some w∧w.on=true∧w.cases[m]? = some c∧c.dir=d∧c.handle=h:=by
 rcases m9_ l d h l.length with ⟨h1,_⟩|⟨_,t,h1,h2,h3,h4,h5⟩
 ·rw [show HZ l d h l.length=fir l d h from rfl] at h1;rw [hk] at h1;cases h1
 ·obtain ⟨w,hw⟩ : ∃w,l[t]? = some w:=⟨_,ZgE h2⟩
  rw [BJ hw] at h3 h4
  rw [h4] at h5
  obtain ⟨c,hc,hp⟩:=PU _ _ h5
  have hp:=jI hp
  exact ⟨t,(ixF (isC d h) w.cases).toNat,w,c,h1,by rw [show (fir l d h).wh=_ from h4];omega,hw,h3,hc,hp.1,hp.2⟩
section
attribute [local simp] DL CM
structure DG where
 c:AX
 l:List AH
 r:Rst
 told:List HA
 deriving DecidableEq
abbrev aC (c:AX):AV:=.agg [i64 c.gen,i64 c.cap,bo c.used,bo c.closed,.ln (c.buf.map tI)]
def gA (g:DG):AV:=.tup [.agg [i64 g.c.gen,i64 g.c.cap,bo g.c.used,bo g.c.closed,.t (.lst (g.c.buf.map tI))],.t (.lst (g.l.map tWt)),.agg [i64 g.r.seq,i64 g.r.cas,i64 g.r.code,i64 g.r.value],.t (.lst (g.told.map tTd))]
def chB (c:AX) (b:List Int):AX:=⟨c.gen,c.cap,c.used,c.closed,b⟩
theorem LQ (c:AX) (hb:c.buf.length≤17592186044416):Cd Tryz.prog 286 [aC c] (.agg [i64 c.gen,i64 c.cap,bo c.used,bo c.closed,.sl 0 0 c.buf.length]) [.row 0 3 1 (c.buf.map tI)]:=by
 refine ZEN Tryz.func286 Tryz.ntmps286 ?_
 repeat' (first|(refine ZAL ?_;first|refine uA ?_|refine uK (AR c.buf hb) ?_)|refine uC ?_|fail)
 all_goals (exact Fin.q Tryz.results286 (.cons (.agg rfl rfl ud101 rfl inf101 (us:=[_,_,_,_,_]) rfl rfl) .nil) [2])
theorem WH (l:List AH) (t:Nat) (wh code v:Int) (w:AH) (hw:l[t]? = some w):Cd Tryz.prog 311 [.ln (l.map tWt),i64 t,i64 wh,i64 code,i64 v] (.agg [i64 t,i64 w.seq,i64 wh,i64 code,i64 v]) []:=by
 have h1:(l.map tWt).length=l.length:=fH _
 have h2:=get_lt hw
 refine ZEN Tryz.func311 Tryz.ntmps311 ?_
 repeat' (first|refine A0 ?_|fail)
 all_goals first|(exfalso;omega)|(exact Fin.q Tryz.results311 (.cons (.agg rfl rfl AhA rfl inf239 (us:=[_,_,_,_,_]) rfl rfl) .nil) [])
def TI (c:AX) (h:Int) (l:List AH) (d:Int):Bool :=
 c.used&&(if d=1 then c.closed||(fir l 2 h).ok||decide ((c.buf.length:Int)<c.cap) else if d=2 then c.closed||(fir l 1 h).ok||decide ((0:Int)<c.buf.length) else false)
theorem q5_ (c:AX) (h:Int) (l:List AH) (d:Int) (hl:okW l):Cd Tryz.prog 299 [aC c,i64 h,.ln (l.map tWt),i64 d] (bo (TI c h l d)) []:=by
 obtain ⟨g,cap,used,closed,buf⟩:=c
 have h1:(buf.map tI).length=buf.length:=fH _
 unfold TI
 dsimp only [aC]
 cases used
 ·refine ZEN Tryz.func299 Tryz.ntmps299 ?_
  repeat' (first|refine A0 ?_|fail)
  all_goals exact A2 Tryz.results299
 ·by_cases d1:d=1
  ·subst d1
   have cF:=LR l 2 h hl
   generalize (fir l 2 h)=F at cF
   obtain ⟨th,wh,ok⟩:=F
   dsimp only at cF ⊢
   by_cases hcc:(buf.length:Int)<cap
   all_goals
    cases closed<;>cases ok
    all_goals
     refine ZEN Tryz.func299 Tryz.ntmps299 ?_
     repeat' (first|refine Bc ?_|fail)
     all_goals first|(exfalso;omega)|((first|exact A5 Tryz.results299|refine A7 Tryz.results299 ?_))
     all_goals first|(simp [hcc];done)|(rw [fR hcc];simp;done)|(rw [fP hcc];simp;done)|(simp only [fR hcc];simp;done)|(simp only [fP hcc];simp;done)|skip
  ·by_cases d2:d=2
   ·subst d2
    have cF:=LR l 1 h hl
    generalize (fir l 1 h)=F at cF
    obtain ⟨th,wh,ok⟩:=F
    dsimp only at cF ⊢
    by_cases hcc:0<(buf.length:Int)
    all_goals
     cases closed<;>cases ok
     all_goals
      refine ZEN Tryz.func299 Tryz.ntmps299 ?_
      repeat' (first|refine Bc ?_|fail)
      all_goals first|(exfalso;omega)|((first|exact A5 Tryz.results299|refine A7 Tryz.results299 ?_))
      all_goals first|(simp [hcc];done)|(rw [fR hcc];simp;done)|(rw [fP hcc];simp;done)|(simp only [fR hcc];simp;done)|(simp only [fP hcc];simp;done)|skip
   ·refine ZEN Tryz.func299 Tryz.ntmps299 ?_
    repeat' (first|refine A0 ?_|fail)
    all_goals first|(exfalso;omega)|(refine A7 Tryz.results299 ?_)
    all_goals simp [d1,d2]
def thW (l:List AH) (f:FS):AH:=l.getD f.th.toNat default
def thV (l:List AH) (f:FS):Int:=((thW l f).cases.getD f.wh.toNat default).value
def d4_ (c:AX) (h:Int) (l:List AH) (v:Int):DG :=
 if (fir l 2 h).ok then ⟨c,cutW l (fir l 2 h).th,⟨0,0,0,0⟩,[⟨(fir l 2 h).th,⟨(thW l (fir l 2 h)).seq,(fir l 2 h).wh,0,v⟩⟩]⟩ else ⟨chB c (c.buf++[v]),l,⟨0,0,0,0⟩,[]⟩
def c5_ (c:AX) (h:Int) (l:List AH):DG :=
 if (fir l 1 h).ok then ⟨chB c ((c.buf++[thV l (fir l 1 h)]).drop 1),cutW l (fir l 1 h).th,⟨0,0,0,(c.buf++[thV l (fir l 1 h)]).headD 0⟩,[⟨(fir l 1 h).th,⟨(thW l (fir l 1 h)).seq,(fir l 1 h).wh,0,0⟩⟩]⟩
 else ⟨chB c (c.buf.drop 1),l,⟨0,0,0,c.buf.headD 0⟩,[]⟩
theorem AsW (c:AX) (h:Int) (l:List AH) (v:Int) (hl:okW l) (hb:c.buf.length≤17592186043904):Cd Tryz.prog 318 [aC c,i64 h,.ln (l.map tWt),i64 v] (gA (d4_ c h l v)) []:=by
 have hcc:=LQ c (by omega)
 have cF:=LR l 2 h hl
 unfold d4_
 cases hk:(fir l 2 h).ok
 ·rw [hk] at cF
  obtain ⟨g,cap,used,closed,buf⟩:=c
  have h1:(buf.map tI).length=buf.length:=fH _
  dsimp only at hb
  dsimp only [aC] at hcc
  have h0:Cd Tryz.prog 318 [.agg [i64 g,i64 cap,bo used,bo closed,.ln (buf.map tI)],i64 h,.ln (l.map tWt),i64 v] (.tup [.agg [i64 g,i64 cap,bo used,bo closed,.sl 0 0 (buf.length+1)],.sl 1 0 l.length,.agg [i64 0,i64 0,i64 0,i64 0],.nl]) [.row 0 3 1 ((buf++[v]).map tI),.row 0 167 4 (l.map tWt)]:=by
   refine ZEN Tryz.func318 Tryz.ntmps318 ?_
   repeat' (first|(refine ZAL ?_;first|(refine kL 719 rfl ?_;first|refine A_lit rfl rfl 22 1 _ rfl ud22 inf3 (.cons rfl .nil) (els:=[[_]]) rfl (by first|exact (rfl:_=List.map tI [_])|exact qN) rfl (fT rfl) (ZbT rfl) (ZbT rfl) (.push qL qN) ?_)|refine Dg ?_|refine uA ?_|refine uK (hcc) ?_|refine uK (cF) ?_)|(refine ZRG ?_;first|refine Ex ?_|refine uR ?_|refine AZ (wcopy_c l hl) ?_)|refine uC ?_|(first|refine AW.drawU (id:=6) mixed 1 qR ?_|refine AW.drawU (id:=8) mixed 1 qR ?_)|refine ZK2 (fun hc=>?_) (fun hc=>?_)|fail)
   all_goals first|(exfalso;omega)|(exact Fin.q Tryz.results318 (.cons (.agg rfl rfl ud101 rfl inf101 (us:=[_,_,_,_,_]) rfl rfl) (.cons (.tmp rfl) (.cons (.agg rfl rfl ud53 rfl inf53 (us:=[_,_,_,_]) rfl rfl) (.cons (.tmp rfl) .nil)))) [3,6])
  simp only [iC,jC,gA,chB]
  have h0':=Cd.frz h0 0 rfl aB rfl;have h0'':=Cd.frz h0' 1 rfl aB rfl;exact Cd.drop h0'' rfl
 ·obtain ⟨t,m,w,k,e1,e2,hw,hon,hc,e3,e4⟩:=NK hk
  have hT:thW l (fir l 2 h)=w:=by unfold thW;rw [e1,fW,BJ hw]
  have cE:=WH l t m 0 v w hw
  have cX:=XZ l t hl
  rw [EB hw hon] at cX
  rw [hk,e1,e2] at cF
  rw [fL rfl,hT,e1,e2]
  obtain ⟨g,cap,used,closed,buf⟩:=c
  dsimp only at hb
  dsimp only [aC] at hcc
  have h0:Cd Tryz.prog 318 [.agg [i64 g,i64 cap,bo used,bo closed,.ln (buf.map tI)],i64 h,.ln (l.map tWt),i64 v] (.tup [.agg [i64 g,i64 cap,bo used,bo closed,.sl 0 0 buf.length],.sl 1 0 l.length,.agg [i64 0,i64 0,i64 0,i64 0],.sl 2 0 1]) [.row 0 3 1 (buf.map tI),.row 0 167 4 ((cutW l t).map tWt),.row 0 239 5 [tTd ⟨t,⟨w.seq,m,0,v⟩⟩]]:=by
   refine ZEN Tryz.func318 Tryz.ntmps318 ?_
   repeat' (first|(refine ZAL ?_;first|(refine kL 3235 rfl ?_;first|refine A_store_rp rfl rfl 101 _ _ rfl inf101 (by decide) rfl rfl aI rfl rfl rfl (ZbT rfl) bU qN ?_)|(refine kL 7651 rfl ?_;first|refine A_store_rp rfl rfl 239 _ _ rfl inf239 (by decide) rfl rfl aI rfl rfl rfl (ZbT rfl) bU qN ?_)|(refine kL 719 rfl ?_;first|refine A_lit rfl rfl 22 1 _ rfl ud22 inf3 (.cons rfl .nil) (els:=[[_]]) rfl eO rfl (fT rfl) (ZbT rfl) (ZbT rfl) (.push qL qN) ?_)|(refine kL 12 rfl ?_;first|refine DD rfl rfl _ _ 22 rfl ud22 inf3 rfl rfl rfl cY aA qB qB (by first|exact app_map aG|exact app_one (f:=tTd) (x:=⟨t,⟨w.seq,m,0,v⟩⟩) aG|exact qN) qN qS ?_|refine BL rfl rfl _ _ 22 rfl ud22 inf3 rfl rfl aA qB qB eO (.push qL qN) qS ?_|refine A_append_nlsub rfl rfl _ _ 22 rfl ud22 inf3 rfl rfl rfl rfl aK qB qB iW.symm (.push qL qN) ?_)|(refine kL 707 rfl ?_;first|refine A_store_rp rfl rfl 22 _ _ rfl ZJ (by decide) rfl rfl aI rfl rfl rfl (ZbT rfl) bU qN ?_)|refine uA ?_|refine uK (hcc) ?_|refine uK (cF) ?_|refine uK (cE) ?_|refine uK (cX) ?_)|(refine ZRG ?_;first|(refine kR 6415 rfl ?_;first|refine R_lit rfl rfl 200 1 _ rfl ud200 inf239 (.cons rfl .nil) (els:=[[_,_,_,_,_]]) rfl eO rfl (fT rfl) (ZbT rfl) (ZbT rfl) qh qN ?_)|(refine kR 3235 rfl ?_;first|refine R_store_rp rfl rfl 101 _ _ rfl inf101 (by decide) rfl rfl aI rfl rfl rfl (ZbT rfl) bU qN ?_)|(refine kR 1699 rfl ?_;first|refine R_store_rp rfl rfl 53 _ _ rfl inf53 (by decide) rfl rfl aI rfl rfl rfl (ZbT rfl) bU qN ?_)|refine uR ?_)|refine uC ?_|(first|refine AW.drawU (id:=6) mixed 1 qR ?_|refine AW.drawU (id:=8) mixed 1 qR ?_)|refine ZK2 (fun hc=>?_) (fun hc=>?_)|fail)
   all_goals first|(exfalso;omega)|(exact Fin.q Tryz.results318 (.cons (.agg rfl rfl ud101 rfl inf101 (us:=[_,_,_,_,_]) rfl rfl) (.cons (.tmp rfl) (.cons (.agg rfl rfl ud53 rfl inf53 (us:=[_,_,_,_]) rfl rfl) (.cons (.tmp rfl) .nil)))) [3,6,7])
  have h0':=Cd.frz h0 0 rfl aB rfl;have h0'':=Cd.frz h0' 1 rfl aB rfl;have h0''':=Cd.frz h0'' 2 rfl aB rfl;exact Cd.drop h0''' rfl
theorem ArN (c:AX) (h:Int) (l:List AH) (hl:okW l) (hb:c.buf.length≤17592186043904) (hr:0<c.buf.length∨(fir l 1 h).ok=true):Cd Tryz.prog 319 [aC c,i64 h,.ln (l.map tWt)] (gA (c5_ c h l)) []:=by
 have hcc:=LQ c (by omega)
 have cF:=LR l 1 h hl
 unfold c5_
 cases hk:(fir l 1 h).ok
 ·rw [hk] at cF hr
  obtain ⟨g,cap,used,closed,buf⟩:=c
  have h1:(buf.map tI).length=buf.length:=fH _
  dsimp only at hb hr
  dsimp only [aC] at hcc
  obtain ⟨x0,T,hB⟩ : ∃x0 T,buf=x0::T:=List.exists_cons_of_length_pos (by rcases hr with hr|hr;exact hr;cases hr)
  have hx0:buf[0]? = some x0:=by rw [hB];rfl
  have hd:buf.drop 1=T:=by rw [hB];rfl
  have hTl:T.length+1=buf.length:=by rw [hB];rfl
  have cK:=AR (buf.drop 1) bA
  have h3:(buf.drop 1).length=T.length:=by rw [hd]
  rw [h3] at cK
  have h0:Cd Tryz.prog 319 [.agg [i64 g,i64 cap,bo used,bo closed,.ln (buf.map tI)],i64 h,.ln (l.map tWt)] (.tup [.agg [i64 g,i64 cap,bo used,bo closed,.sl 0 0 T.length],.sl 1 0 l.length,.agg [i64 0,i64 0,i64 0,i64 x0],.nl]) [.row 0 3 1 ((buf.drop 1).map tI),.row 0 167 4 (l.map tWt)]:=by
   refine ZEN Tryz.func319 Tryz.ntmps319 ?_
   repeat' (first|(refine ZAL ?_;first|refine uA ?_|refine uK (hcc) ?_|refine uK (cF) ?_|refine uK (cK) ?_)|(refine ZRG ?_;first|refine Ey ?_|refine Ex ?_|refine uR ?_|refine AZ (wcopy_c l hl) ?_)|refine uC ?_|refine Ez ?_|refine ZK2 (fun hc=>?_) (fun hc=>?_)|fail)
   all_goals first|(exfalso;omega)|(exact Fin.q Tryz.results319 (.cons (.agg rfl rfl ud101 rfl inf101 (us:=[_,_,_,_,_]) rfl rfl) (.cons (.tmp rfl) (.cons (.agg rfl rfl ud53 rfl inf53 (us:=[_,_,_,_]) rfl rfl) (.cons (.tmp rfl) .nil)))) [5,6])
  simp only [iC,jC,gA,chB]
  rw [show buf.headD 0=x0 by rw [hB];rfl]
  have h0':=Cd.frz h0 0 rfl aB rfl;have h0'':=Cd.frz h0' 1 rfl aB rfl;exact Cd.drop h0'' rfl
 ·obtain ⟨t,m,w,k,e1,e2,hw,hon,hc,e3,e4⟩:=NK hk
  have hT:thW l (fir l 1 h)=w:=by unfold thW;rw [e1,fW,BJ hw]
  have hV:thV l (fir l 1 h)=k.value:=by unfold thV;rw [hT,e2,fW,BJ hc]
  have cE:=WH l t m 0 0 w hw
  have cX:=XZ l t hl
  rw [EB hw hon] at cX
  rw [hk,e1,e2] at cF
  rw [fL rfl,hV,hT,e1,e2]
  obtain ⟨g,cap,used,closed,buf⟩:=c
  have h1:(buf.map tI).length=buf.length:=fH _
  have ht:=get_lt hw
  have hm:=get_lt hc
  have h2:(l.map tWt).length=l.length:=fH _
  have h4:(w.cases.map tCs).length=w.cases.length:=fH _
  dsimp only at hb
  dsimp only [aC] at hcc
  obtain ⟨x0,T,hB⟩ : ∃x0 T,buf++[k.value]=x0::T:=List.exists_cons_of_length_pos (by simp)
  have hx0:(buf++[k.value])[0]? = some x0:=by rw [hB];rfl
  have hd:(buf++[k.value]).drop 1=T:=by rw [hB];rfl
  have hTl:T.length=buf.length:=by have:=congrArg List.length hB;simp at this;omega
  have cK:=AR ((buf++[k.value]).drop 1) bA
  have h3:((buf++[k.value]).drop 1).length=buf.length:=by simp
  rw [h3] at cK
  have h5:((buf++[k.value]).map tI).length=buf.length+1:=by simp
  have h6:(buf++[k.value]).length=buf.length+1:=by simp
  have h0:Cd Tryz.prog 319 [.agg [i64 g,i64 cap,bo used,bo closed,.ln (buf.map tI)],i64 h,.ln (l.map tWt)] (.tup [.agg [i64 g,i64 cap,bo used,bo closed,.sl 0 0 buf.length],.sl 1 0 l.length,.agg [i64 0,i64 0,i64 0,i64 x0],.sl 2 0 1]) [.row 0 3 1 (((buf++[k.value]).drop 1).map tI),.row 0 167 4 ((cutW l t).map tWt),.row 0 239 5 [tTd ⟨t,⟨w.seq,m,0,0⟩⟩]]:=by
   refine ZEN Tryz.func319 Tryz.ntmps319 ?_
   repeat' (first|(refine ZAL ?_;first|(refine kL 3235 rfl ?_;first|refine A_store_rp rfl rfl 101 _ _ rfl inf101 (by decide) rfl rfl bK rfl rfl rfl (ZbT rfl) bD qN ?_)|(refine kL 707 rfl ?_;first|refine A_store_rp rfl rfl 22 _ _ rfl ZJ (by decide) rfl rfl bK rfl rfl rfl (ZbT rfl) bD qN ?_)|(refine kL 7651 rfl ?_;first|refine A_store_rp rfl rfl 239 _ _ rfl inf239 (by decide) rfl rfl bK rfl rfl rfl (ZbT rfl) bD qN ?_)|refine uA ?_|refine uK (hcc) ?_|refine uK (cF) ?_|refine uK (cK) ?_|refine uK (cE) ?_|refine uK (cX) ?_)|(refine ZRG ?_;first|(refine kR 3235 rfl ?_;first|refine R_store_rp rfl rfl 101 _ _ rfl inf101 (by decide) rfl rfl bK rfl rfl rfl (ZbT rfl) bD qN ?_)|(refine kR 1699 rfl ?_;first|refine R_store_rp rfl rfl 53 _ _ rfl inf53 (by decide) rfl rfl bK rfl rfl rfl (ZbT rfl) bD qN ?_)|(refine kR 719 rfl ?_;first|refine R_lit rfl rfl 22 1 _ rfl ud22 inf3 (.cons rfl .nil) (els:=[[_]]) rfl dR rfl (fT rfl) (ZbT rfl) (ZbT rfl) qh qN ?_)|(refine kR 12 rfl ?_;first|refine R_append rfl rfl _ _ 22 rfl ud22 inf3 rfl rfl rfl cY aA qB qB (by first|exact app_map aG|exact app_one (f:=tI) (x:=_) aG|exact app_one (f:=tTd) (x:=⟨t,⟨w.seq,m,0,0⟩⟩) aG|exact qN) qN qS ?_|refine CR rfl rfl _ _ 22 rfl ud22 inf3 rfl rfl aA qB qB dR qh qN qS ?_)|(refine kR 707 rfl ?_;first|refine R_store_rp rfl rfl 22 _ _ rfl ZJ (by decide) rfl rfl bK rfl rfl rfl (ZbT rfl) bD qN ?_)|(refine kR 6415 rfl ?_;first|refine R_lit rfl rfl 200 1 _ rfl ud200 inf239 (.cons rfl .nil) (els:=[[_,_,_,_,_]]) rfl dR rfl (fT rfl) (ZbT rfl) (ZbT rfl) qh qN ?_)|refine uR ?_)|refine uC ?_|refine Ez ?_|refine ZK2 (fun hc=>?_) (fun hc=>?_)|fail)
   all_goals first|(exfalso;omega)|(exact Fin.q Tryz.results319 (.cons (.agg rfl rfl ud101 rfl inf101 (us:=[_,_,_,_,_]) rfl rfl) (.cons (.tmp rfl) (.cons (.agg rfl rfl ud53 rfl inf53 (us:=[_,_,_,_]) rfl rfl) (.cons (.tmp rfl) .nil)))) [7,9,6])
  rw [show (buf++[k.value]).headD 0=x0 by rw [hB];rfl]
  have h0':=Cd.frz h0 0 rfl aB rfl;have h0'':=Cd.frz h0' 1 rfl aB rfl;have h0''':=Cd.frz h0'' 2 rfl aB rfl;exact Cd.drop h0''' rfl
end
section
attribute [local simp] DL CM
def doG (c:AX) (h:Int) (l:List AH) (d v:Int):DG :=
 if TI c h l d then
  if d=1 then (if c.closed then ⟨c,l,⟨0,0,9,0⟩,[]⟩ else d4_ c h l v)
  else if decide (0<(c.buf.length:Int))||(fir l 1 h).ok then c5_ c h l else ⟨c,l,⟨0,0,9,0⟩,[]⟩
 else ⟨c,l,⟨0,0,10,0⟩,[]⟩
theorem AnP {c:AX} {h:Int} {l:List AH} {d:Int} (hr:TI c h l d=true):d=1∨d=2:=by
 unfold TI at hr
 by_cases d1:d=1
 ·exact .inl d1
 ·by_cases d2:d=2
  ·exact .inr d2
  ·rw [fM d1,fM d2,lF] at hr;cases hr
theorem AzN (c:AX) (h:Int) (l:List AH) (d v:Int) (hl:okW l) (hb:c.buf.length≤17592186043904):Cd Tryz.prog 307 [aC c,i64 h,.ln (l.map tWt),i64 d,i64 v] (gA (doG c h l d v)) []:=by
 have h1:(c.buf.map tI).length=c.buf.length:=fH _
 have hcc:=LQ c (by omega)
 have cF:=LR l 1 h hl
 have cR:=q5_ c h l d hl
 have cW:=wcopy_c l hl
 unfold doG
 cases hr:TI c h l d
 ·rw [hr] at cR
  rw [fM (by simp)]
  have h0:Cd Tryz.prog 307 [aC c,i64 h,.ln (l.map tWt),i64 d,i64 v] (.tup [.agg [i64 c.gen,i64 c.cap,bo c.used,bo c.closed,.sl 0 0 c.buf.length],.sl 1 0 l.length,.agg [i64 0,i64 0,i64 10,i64 0],.nl]) [.row 0 3 1 (c.buf.map tI),.row 0 167 4 (l.map tWt)]:=by
   refine Bi ?_
   repeat' (first|refine Dn ?_|fail)
   all_goals exact Dp Tryz.results307
  unfold gA
  have h0':=Cd.frz h0 0 rfl aB rfl;have h0'':=Cd.frz h0' 1 rfl aB rfl;exact Cd.drop h0'' rfl
 ·rw [hr] at cR
  rw [fL rfl]
  rcases AnP hr with rfl|rfl
  ·rw [fL rfl]
   obtain ⟨g,cap,used,closed,buf⟩:=c
   have cS:=AsW ⟨g,cap,used,closed,buf⟩ h l v hl hb
   dsimp only [aC] at cR hcc cS
   cases closed
   ·rw [fM (by simp)]
    unfold gA at cS ⊢
    refine Bi ?_
    repeat' (first|(refine ZAL ?_;first|refine uA ?_|refine uK (cF) ?_|refine uK (cR) ?_|refine uK (cS) ?_)|refine uC ?_|fail)
    all_goals exact Dq Tryz.results307
   ·rw [fL rfl]
    have h0:Cd Tryz.prog 307 [.agg [i64 g,i64 cap,bo used,bo true,.ln (buf.map tI)],i64 h,.ln (l.map tWt),i64 1,i64 v] (.tup [.agg [i64 g,i64 cap,bo used,bo true,.sl 0 0 buf.length],.sl 1 0 l.length,.agg [i64 0,i64 0,i64 9,i64 0],.nl]) [.row 0 3 1 (buf.map tI),.row 0 167 4 (l.map tWt)]:=by
     refine Bi ?_
     repeat' (first|refine Dn ?_|fail)
     all_goals exact Dp Tryz.results307
    unfold gA
    have h0':=Cd.frz h0 0 rfl aB rfl;have h0'':=Cd.frz h0' 1 rfl aB rfl;exact Cd.drop h0'' rfl
  ·rw [fM (by decide)]
   have cV:=fun hh=>ArN c h l hl hb hh
   cases hok:(fir l 1 h).ok
   ·rw [hok] at cF
    by_cases hp:0<(c.buf.length:Int)
    ·rw [fR hp,Bool.true_or,fL rfl]
     have cV:=cV (.inl (by omega))
     unfold gA at cV ⊢
     refine Bi ?_
     repeat' (first|refine F3 ?_|fail)
     all_goals exact Dq Tryz.results307
    ·rw [fP hp,Bool.false_or,fM (by simp)]
     have h0:Cd Tryz.prog 307 [aC c,i64 h,.ln (l.map tWt),i64 2,i64 v] (.tup [.agg [i64 c.gen,i64 c.cap,bo c.used,bo c.closed,.sl 0 0 c.buf.length],.sl 1 0 l.length,.agg [i64 0,i64 0,i64 9,i64 0],.nl]) [.row 0 3 1 (c.buf.map tI),.row 0 167 4 (l.map tWt)]:=by
      refine Bi ?_
      repeat' (first|refine Dn ?_|fail)
      all_goals exact Dp Tryz.results307
     unfold gA
     have h0':=Cd.frz h0 0 rfl aB rfl;have h0'':=Cd.frz h0' 1 rfl aB rfl;exact Cd.drop h0'' rfl
   ·rw [hok] at cF
    rw [Bool.or_true,fL rfl]
    have cV:=cV (.inr hok)
    unfold gA at cV ⊢
    refine Bi ?_
    repeat' (first|refine F3 ?_|refine uS 61 (fun hb=>?_) (fun hb=>?_)|fail)
    all_goals exact Dq Tryz.results307
end
section
attribute [local simp] DL CM
end
end
end Go.Proofs.YtccefppppedgkaaGreat
