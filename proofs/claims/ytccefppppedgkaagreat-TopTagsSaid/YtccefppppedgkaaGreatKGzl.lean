/- Joined: XTConI, XTTeeA, XTWhatP, XTSmall, XTFrzA. -/
import Derived.Test.YtccefppppedgkaaGreatKGr
set_option linter.unusedVariables false
set_option linter.unusedSimpArgs false
set_option linter.unnecessarySimpa false
set_option maxRecDepth 100000
set_option maxHeartbeats 64000000
namespace Go.Proofs.YtccefppppedgkaaGreat
open Go.RowKit
section
attribute [local irreducible] AL AW RG Fin C Cd Cio AI AF AN
theorem AdB (l:List Int) (x:Int) (hl:l.length≤1152921504606846976):Cd Tryz.prog 196 [.ln (l.map tI),i64 x] (i64 (ixI l x)) []:=by
 have h1:(l.map tI).length=l.length:=fH _
 refine ZEN Tryz.func196 Tryz.ntmps196 ?_
 repeat' (first|refine A0 ?_|fail)
 refine AW.loopP (fun (j:Nat)=>j≤l.length ∧ ∀q,q<j→l.getD q 0≠x) (fun (j:Nat)=>(pu (pu (pu (pu (fun _=>.any) 0 (.ln (l.map tI))) 1 (i64 x)) 7 (i64 (l.map tI).length)) 8 (i64 j))) (fun (j:Nat)=>[]) (fun (j:Nat)=>l.length-j) (0) ?_ ?_ ?_
 ·exact ⟨fO _,fun q hq=>by omega⟩
 ·exact Wk.cq 0
 ·rintro j ⟨h2,h3⟩
  by_cases hj:j<l.length
  ·obtain ⟨a,ha⟩ : ∃a,l[j]? = some a:=⟨_,ZgE hj⟩
   repeat' (first|refine A0 ?_|refine kcp rfl (fun hc=>?_) (fun hc=>?_)|fail)
   all_goals try exact ZE5
   ·refine A7 Tryz.results196 ?_
    rw [h8_ l x j h3 (by rw [ha,hc])]
   ·refine ⟨j+1,⟨by omega,fun q hq=>?_⟩,by omega,?_⟩
    ·by_cases e:q=j
     ·subst e;rw [fK,ha];exact fun e=>hc e.symm
     ·exact h3 q (by omega)
    ·exact Wk.cq 0
  ·repeat' (first|refine A0 ?_|fail)
   all_goals first|(exfalso;omega)|(refine A7 Tryz.results196 ?_)
   rw [RI l x fun q hq=>h3 q (by omega)]
theorem OW (l:List Int) (x:Int) (hl:l.length≤1152921504606846976):Cd Tryz.prog 135 [.ln (l.map tI),i64 x] (bo (decide (x∈l))) []:=by
 have h1:=WM l x
 refine ZEN Tryz.func135 Tryz.ntmps135 ?_
 repeat' (first|(refine ZAL ?_;first|refine uA ?_|refine uK (AdB l x hl) ?_)|refine uC ?_|fail)
 all_goals (refine A7 Tryz.results135 ?_)
 all_goals (congr 2;rw [kV];omega)
def okI (x:Int):Prop := -9223372036854775808≤x∧x≤9223372036854775807
theorem ON (h:Int) (h1:okI h):Cd Tryz.prog 134 [i64 h] (bo (IZ h)) []:=by
 refine ZEN Tryz.func134 Tryz.ntmps134 ?_
 repeat' (first|(refine ZAL ?_;first|refine uA ?_|refine uK (ZI h h1) ?_)|refine uC ?_|refine ZK2 (fun hc=>?_) (fun hc=>?_)|fail)
 all_goals ((first|exact A5 Tryz.results134|refine A7 Tryz.results134 ?_|refine A8 Tryz.results134 ?_ ?_ ?_<;>repeat' (first|exact ZE1|refine ZE2 ?_ ?_|refine ZE3 ?_|exact ZE4|fail)))
def stR (b:Bool) (inn:Int) (n:Nat):AV:=bif b then .tup [.agg [bo true,bo false,bo false,i64 inn,.sl 0 0 n,i64 0,i64 0],bo true] else .tup [.agg [bo false,bo false,bo false,i64 0,.nl,i64 0,i64 0],bo false]
def stL (b:Bool) (outs:List Int):List Ob:=bif b then [.row 0 3 1 (outs.map tI)] else []
theorem s1_ (inn:Int) (outs:List Int) (hi:okI inn) (ho : ∀x∈outs,okI x) (hlen:outs.length≤17592186044416) (b:Bool) (hbs:b=true↔GP inn outs) :
  Cd Tryz.prog 91 [i64 inn,.ln (outs.map tI)] (stR b inn outs.length) (stL b outs):=by
 have h1:(outs.map tI).length=outs.length:=fH _
 have hno : ¬GP inn outs→b=false:=fun h=>by cases b;rfl;exact absurd (hbs.1 rfl) h
 have c0:=ON inn hi
 cases hpl:IZ inn
 ·have e:b=false:=hno fun h=>by have:=h.1;rw [hpl] at this;cases this
  subst e
  rw [hpl] at c0
  refine ZEN Tryz.func91 Tryz.ntmps91 ?_
  repeat' (first|(refine ZAL ?_;first|refine uA ?_|refine uK (c0) ?_)|refine uC ?_|refine uS 11 (fun hb=>?_) (fun hb=>?_)|refine uS 16 (fun hb=>?_) (fun hb=>?_)|refine uS 32 (fun hb=>?_) (fun hb=>?_)|refine uS 37 (fun hb=>?_) (fun hb=>?_)|refine ZK2 (fun hc=>?_) (fun hc=>?_)|fail)
  all_goals exact D1 Tryz.results91
 rw [hpl] at c0
 refine ZEN Tryz.func91 Tryz.ntmps91 ?_
 repeat' (first|(refine ZAL ?_;first|refine uA ?_|refine uK (c0) ?_)|refine uC ?_|refine uS 11 (fun hb=>?_) (fun hb=>?_)|refine uS 16 (fun hb=>?_) (fun hb=>?_)|refine uS 32 (fun hb=>?_) (fun hb=>?_)|refine uS 37 (fun hb=>?_) (fun hb=>?_)|refine ZK2 (fun hc=>?_) (fun hc=>?_)|fail)
 all_goals first|(exfalso;omega)|(have e:=hno (fun h=>by have:=h.2.1;have:=h.2.2.1;omega);subst e;((first|exact Fin.q Tryz.results91 (.cons (.agg rfl rfl ud145 rfl inf145 (us:=[_,_,_,_,_,_,_]) rfl rfl) (.cons (.tmp rfl) .nil)) []|refine Fin.q Tryz.results91 (.cons (.agg rfl rfl ud145 rfl inf145 (us:=[_,_,_,_,_,_,_]) rfl rfl) (.cons (.tmp rfl) .nil)) [] (hr:=(.tupL (.cons (.t ?_) (.cons (.t ?_) .nil))))|refine Fin.mkv (rs:=_) Tryz.results91 (.cons (.agg rfl rfl ud145 rfl inf145 (us:=[_,_,_,_,_,_,_]) rfl rfl) (.cons (.tmp rfl) .nil)) [] (by decide) rfl ?_ ?_ ?_<;>repeat' (first|exact ZE1|refine ZE2 ?_ ?_|refine ZE3 ?_|exact ZE4|fail)));done)|skip
 all_goals
  refine AW.loopP (fun (x:Nat)=>x≤outs.length ∧ ∀j,j<x→RX inn outs j) (fun (x:Nat)=>(pu (pu (pu (pu (pu (pu (pu (fun _=>.any) 0 (i64 inn)) 1 (.ln (outs.map tI))) 4 (.ptr 0 0)) 5 (bo false)) 22 (.ln (outs.map tI))) 23 (i64 (outs.map tI).length)) 24 (i64 x))) (fun (x:Nat)=>[.box 145 [bo false,bo false,bo false,i64 0,.nl,i64 0,i64 0]]) (fun (x:Nat)=>outs.length-x) (0) ?_ ?_ ?_
  ·exact ⟨fO _,fun j hj=>by omega⟩
  ·exact Wk.cq 1
  ·rintro x ⟨h2,h3⟩
   by_cases hx:x<outs.length
   ·obtain ⟨a,ha⟩ : ∃a,outs[x]? = some a:=⟨_,ZgE hx⟩
    have hg:outs.getD x 0=a:=by rw [fK,ha];rfl
    have hao:=ho a (fI ha)
    by_cases hk:RX inn outs x
    ·have hk':=hk
     unfold RX at hk'
     rw [hg] at hk'
     have c1:=ON a hao
     rw [hk'.1] at c1
     have c2:=OW (outs.take x) a (by rw [fQ];omega)
     rw [fP hk'.2.2] at c2
     have hne:=hk'.2.1
     repeat' (first|refine Ai ?_|refine uS 11 (fun hb=>?_) (fun hb=>?_)|refine uS 16 (fun hb=>?_) (fun hb=>?_)|refine uS 32 (fun hb=>?_) (fun hb=>?_)|refine uS 37 (fun hb=>?_) (fun hb=>?_)|refine ZK2 (fun hc=>?_) (fun hc=>?_)|fail)
     all_goals try exact ZE5
     refine ⟨x+1,⟨by omega,fun j hj=>?_⟩,by omega,?_⟩
     ·by_cases e:j=x
      ·subst e;exact hk
      ·exact h3 j (by omega)
     ·exact Wk.cq 1
    ·have e:=hno fun h=>hk (h.2.2.2 x hx)
     subst e
     unfold RX at hk
     rw [hg] at hk
     have c1:=ON a hao
     have c2:=OW (outs.take x) a (by rw [fQ];omega)
     cases hpa:IZ a
     ·rw [hpa] at c1
      repeat' (first|refine Ai ?_|refine uS 11 (fun hb=>?_) (fun hb=>?_)|refine uS 16 (fun hb=>?_) (fun hb=>?_)|refine uS 32 (fun hb=>?_) (fun hb=>?_)|refine uS 37 (fun hb=>?_) (fun hb=>?_)|refine ZK2 (fun hc=>?_) (fun hc=>?_)|fail)
      all_goals exact D1 Tryz.results91
     ·rw [hpa] at c1
      by_cases hai:a=inn
      ·repeat' (first|refine Ai ?_|refine uS 11 (fun hb=>?_) (fun hb=>?_)|refine uS 16 (fun hb=>?_) (fun hb=>?_)|refine uS 32 (fun hb=>?_) (fun hb=>?_)|refine uS 37 (fun hb=>?_) (fun hb=>?_)|refine ZK2 (fun hc=>?_) (fun hc=>?_)|fail)
       all_goals exact D1 Tryz.results91
      ·have hin:a∈outs.take x:=lG fun hin=>hk ⟨hpa,hai,hin⟩
       rw [fR hin] at c2
       repeat' (first|refine Ai ?_|refine uS 11 (fun hb=>?_) (fun hb=>?_)|refine uS 16 (fun hb=>?_) (fun hb=>?_)|refine uS 32 (fun hb=>?_) (fun hb=>?_)|refine uS 37 (fun hb=>?_) (fun hb=>?_)|refine ZK2 (fun hc=>?_) (fun hc=>?_)|fail)
       all_goals exact D1 Tryz.results91
   ·have e:x=outs.length:=by omega
    subst e
    have hb':b=true:=hbs.2 ⟨hpl,by omega,by omega,h3⟩
    subst hb'
    repeat' (first|(refine ZAL ?_;first|refine uA ?_|refine uK (AR outs hlen) ?_)|refine uC ?_|refine uS 11 (fun hb=>?_) (fun hb=>?_)|refine uS 16 (fun hb=>?_) (fun hb=>?_)|refine uS 32 (fun hb=>?_) (fun hb=>?_)|refine uS 37 (fun hb=>?_) (fun hb=>?_)|refine ZK2 (fun hc=>?_) (fun hc=>?_)|fail)
    all_goals first|(exfalso;omega)|((first|exact Fin.q Tryz.results91 (.cons (.agg rfl rfl ud145 rfl inf145 (us:=[_,_,_,_,_,_,_]) rfl rfl) (.cons (.tmp rfl) .nil)) [1]|refine Fin.q Tryz.results91 (.cons (.agg rfl rfl ud145 rfl inf145 (us:=[_,_,_,_,_,_,_]) rfl rfl) (.cons (.tmp rfl) .nil)) [1] (hr:=(.tupL (.cons (.t ?_) (.cons (.t ?_) .nil))))|refine Fin.mkv (rs:=_) Tryz.results91 (.cons (.agg rfl rfl ud145 rfl inf145 (us:=[_,_,_,_,_,_,_]) rfl rfl) (.cons (.tmp rfl) .nil)) [1] (by decide) rfl ?_ ?_ ?_<;>repeat' (first|exact ZE1|refine ZE2 ?_ ?_|refine ZE3 ?_|exact ZE4|fail)))
end
end Go.Proofs.YtccefppppedgkaaGreat
namespace Go.Proofs.YtccefppppedgkaaGreat
end Go.Proofs.YtccefppppedgkaaGreat
namespace Go.Proofs.YtccefppppedgkaaGreat
open Go.RowKit
theorem AmI {Kn:Nat→Nat→Prop} {ρ:Rho} {w:World} {Z Y:Nat→Prop} {els:List (List Tr)} {v:Value} (h:Val Kn ρ w Z Y (.ln els) v) (hz : ∀b,Y b→Z b):Val Kn ρ w Z Y (.t (.lst els)) v:=by
 cases h with
 |ln hr hz' hn he=>exact .t (Frz.shut hn hr (fun hne=>hz _ (hz' hne)) he)
def AuX:AV→AV
 |.ln els=>.t (.lst els)
 |x=>x
theorem AhE {Kn:Nat→Nat→Prop} {ρ:Rho} {w:World} {Z Y:Nat→Prop} {x:AV} {v:Value} (h:Val Kn ρ w Z Y x v) (hz : ∀b,Y b→Z b):Val Kn ρ w Z Y (AuX x) v:=by
 cases x<;>first|exact h|exact AmI h hz
theorem AhD {Kn:Nat→Nat→Prop} {ρ:Rho} {w:World} {Z Y:Nat→Prop} {l:List AV} {v:Value} (h:Val Kn ρ w Z Y (.agg l) v) (hz : ∀b,Y b→Z b):Val Kn ρ w Z Y (.agg (l.map AuX)) v:=by
 cases h with
 |agg h1 ho hu =>
  refine .agg (by rw [fH];exact h1) ho (fun j x u hj hu'=>?_)
  rw [gI] at hj
  cases hy:l[j]? with
  |none=>rw [hy] at hj;cases hj
  |some y=>rw [hy] at hj;cases hj;exact AhE (hu j y u hy hu') hz
end Go.Proofs.YtccefppppedgkaaGreat
