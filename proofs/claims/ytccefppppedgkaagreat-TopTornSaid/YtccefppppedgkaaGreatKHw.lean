/- Joined: XTTeeN, XTTeeG. -/
import Derived.Test.YtccefppppedgkaaGreatKHi
set_option linter.unusedVariables false
set_option linter.unusedSimpArgs false
set_option linter.unnecessarySimpa false
set_option maxRecDepth 100000
set_option maxHeartbeats 64000000
namespace Go.Proofs.YtccefppppedgkaaGreat
open Go.RowKit
section
attribute [local irreducible] AL AW RG Fin C Cd Cio AI AF AO
section
inductive Nx where
 |no
 |close (h:Int)
 |one (c:BF)
def CU (on sh ov:Bool) (at_:Int) (n:Nat):Bool := !on||ov||decide (at_<0)||decide (at_>n)||(sh&&decide (at_=n))
def nx (on sh ov:Bool) (inn:Int) (outs:List Int) (at_ v:Int):Nx :=
 if CU on sh ov at_ outs.length then .no else if sh then .close (outs.getD at_.toNat 0) else if at_=0 then .one ⟨2,inn,0⟩ else .one ⟨1,outs.getD (at_-1).toNat 0,v⟩
variable {on sh ov:Bool} {inn at_ v:Int} {outs:List Int}
theorem QX (h:CU on sh ov at_ outs.length=true):nx on sh ov inn outs at_ v = .no:=by unfold nx;rw [fR h]
variable {a:Int}
theorem AgX (h:CU on true ov at_ outs.length=false) (ha:outs.getD at_.toNat 0=a):nx on true ov inn outs at_ v = .close a:=by unfold nx;rw [h,ha];rfl
theorem t4_ (h:CU on false ov at_ outs.length=false) (h0:at_=0):nx on false ov inn outs at_ v = .one ⟨2,inn,0⟩:=by unfold nx;rw [h,fR h0];rfl
theorem t5_ (h:CU on false ov at_ outs.length=false) (h0:at_≠0) (ha:outs.getD (at_-1).toNat 0=a):nx on false ov inn outs at_ v = .one ⟨1,a,v⟩:=by unfold nx;rw [h,fT h0,ha];rfl
theorem e3_ {n:Nat} (h:CU on sh ov at_ n=false):on=true∧ov=false∧0≤at_∧at_≤n∧(sh=true→at_<n):=by
 unfold CU at h
 simp only [Bool.or_eq_false_iff,decide_eq_false_iff_not,Bool.not_eq_false',Bool.and_eq_false_imp] at h
 exact ⟨h.1.1.1.1,h.1.1.1.2,by omega,by omega,fun e=>by have:=h.2 e;omega⟩
def nxA:Nx→AV
 |.no=>.tup [.agg [i64 0,i64 0,i64 0,bo false,.nl],bo false]
 |.close h=>.tup [.agg [i64 4,i64 h,i64 0,bo false,.nl],bo true]
 |.one _=>.tup [.agg [i64 3,i64 0,i64 0,bo false,.sl 0 0 1],bo true]
def nxL:Nx→List Ob
 |.one c=>[.row 0 141 3 [tCs c]]
 |_=>[]
theorem u_ (d h v:Int):Cd Tryz.prog 113 [i64 d,i64 h,i64 v] (.agg [i64 3,i64 0,i64 0,bo false,.sl 0 0 1]) [.row 0 141 3 [tCs ⟨d,h,v⟩]]:=by
 refine ZEN Tryz.func113 Tryz.ntmps113 ?_
 repeat' (first|(refine ZAL ?_;first|refine H9 ?_|refine Ha ?_|refine uA ?_)|refine uC ?_|refine ZK2 (fun hc=>?_) (fun hc=>?_)|fail)
 all_goals ((first|exact Fin.q Tryz.results113 (.cons (.agg rfl rfl ud32 rfl inf32 (us:=[_,_,_,_,_]) rfl rfl) .nil) [1]|refine Fin.q Tryz.results113 (.cons (.agg rfl rfl ud32 rfl inf32 (us:=[_,_,_,_,_]) rfl rfl) .nil) [1] (hr:=(.t ?_))|refine Fin.mkv (rs:=_) Tryz.results113 (.cons (.agg rfl rfl ud32 rfl inf32 (us:=[_,_,_,_,_]) rfl rfl) .nil) [1] (by decide) rfl ?_ ?_ ?_<;>repeat' (first|exact ZE1|refine ZE2 ?_ ?_|refine ZE3 ?_|exact ZE4|fail)))
theorem m8_ (on sh ov:Bool) (inn at_ v:Int) (outs:List Int) (hlen:outs.length≤17592186044415) (hat:sI at_) :
  Cd Tryz.prog 80 [.agg [bo on,bo sh,bo ov,i64 inn,.ln (outs.map tI),i64 at_,i64 v]] (nxA (nx on sh ov inn outs at_ v)) (nxL (nx on sh ov inn outs at_ v)):=by
 have h1:(outs.map tI).length=outs.length:=fN _
 unfold sI at hat
 by_cases hat2:0≤at_∧at_≤outs.length
 ·obtain ⟨n,rfl⟩ : ∃n:Nat,at_=n:=⟨at_.toNat,by omega⟩
  by_cases hn:n=outs.length
  ·have e3:=fun (i:Nat) (hi:i<outs.length)=>get_D (l:=outs) (x:=(0:Int)) hi
   cases on<;>cases ov<;>cases sh
   all_goals
    refine ZEN Tryz.func80 Tryz.ntmps80 ?_
    repeat' (first|(refine ZAL ?_;first|(refine kL 706 rfl ?_;first|refine EL rfl rfl 22 _ rfl ud22 rfl rfl rfl aX rfl ?_)|(refine kL 130 rfl ?_;first|refine EL rfl rfl 4 _ rfl ud4 rfl rfl rfl aX rfl ?_)|(refine kL 98 rfl ?_;first|refine EL rfl rfl 3 _ rfl ud3 rfl rfl rfl aX rfl ?_)|(refine kL 1027 rfl ?_;first|refine A_store_rp rfl rfl 32 _ _ rfl inf32 (by decide) rfl rfl aX rfl rfl rfl (ZbT rfl) eF qN ?_)|(refine kL 710 rfl ?_;first|refine q_ rfl rfl 22 _ _ rfl ud22 inf3 (by decide) dU rfl aG _ eC aX rfl (cs':=[_]) rfl ?_)|refine uA ?_|refine uK (u_ _ _ _) ?_)|(refine ZRG ?_;first|(refine kR 706 rfl ?_;first|refine HL rfl rfl 22 _ rfl ud22 rfl rfl rfl aX rfl ?_)|(refine kR 98 rfl ?_;first|refine HL rfl rfl 3 _ rfl ud3 rfl rfl rfl aX rfl ?_)|(refine kR 710 rfl ?_;first|refine AcU rfl rfl 22 _ _ rfl ud22 inf3 (by decide) dU rfl aG _ eC aX rfl (cs':=[_]) rfl ?_)|(refine kR 1027 rfl ?_;first|refine R_store_rp rfl rfl 32 _ _ rfl inf32 (by decide) rfl rfl aX rfl rfl rfl (ZbT rfl) eF qN ?_)|refine uR ?_|refine AT (u_ _ _ _) ?_)|refine uC ?_|refine AW.drawU (id:=10) mixed 1 qR ?_|refine uS 12 (fun hb=>?_) (fun hb=>?_)|refine uS 16 (fun hb=>?_) (fun hb=>?_)|refine uS 21 (fun hb=>?_) (fun hb=>?_)|refine uS 31 (fun hb=>?_) (fun hb=>?_)|refine ZK2 (fun hc=>?_) (fun hc=>?_)|fail)
    all_goals first|(exfalso;omega)|(rw [QX (by simp [CU,hn];done)];((first|exact Di Tryz.results80|refine Dj Tryz.results80 ?_ ?_|refine Dk Tryz.results80 ?_ ?_ ?_<;>repeat' (first|exact ZE1|refine ZE2 ?_ ?_|refine ZE3 ?_|exact ZE4|fail)));done)|(rw [t4_ (by simp [CU];omega) (by omega)];((first|exact Dm Tryz.results80|refine Dn Tryz.results80 ?_ ?_|refine Dp Tryz.results80 ?_ ?_ ?_<;>repeat' (first|exact ZE1|refine ZE2 ?_ ?_|refine ZE3 ?_|exact ZE4|fail)));done)|(rw [t5_ (by simp [CU];omega) (by omega) rfl];((first|exact Dm Tryz.results80|refine Dn Tryz.results80 ?_ ?_|refine Dp Tryz.results80 ?_ ?_ ?_<;>repeat' (first|exact ZE1|refine ZE2 ?_ ?_|refine ZE3 ?_|exact ZE4|fail)));done)
  ·obtain ⟨a,ha⟩ : ∃a,outs[n]? = some a:=⟨_,ZgE (by omega)⟩
   have hg:outs.getD (n:Int).toNat 0=a:=by rw [gE,fQ,ha];rfl
   have e3:=fun (i:Nat) (hi:i<outs.length)=>get_D (l:=outs) (x:=(0:Int)) hi
   cases on<;>cases ov<;>cases sh
   all_goals
    refine ZEN Tryz.func80 Tryz.ntmps80 ?_
    repeat' (first|(refine ZAL ?_;first|(refine kL 706 rfl ?_;first|refine EL rfl rfl 22 _ rfl ud22 rfl rfl rfl aQ rfl ?_)|(refine kL 130 rfl ?_;first|refine EL rfl rfl 4 _ rfl ud4 rfl rfl rfl aQ rfl ?_)|(refine kL 98 rfl ?_;first|refine EL rfl rfl 3 _ rfl ud3 rfl rfl rfl aQ rfl ?_)|(refine kL 1027 rfl ?_;first|refine A_store_rp rfl rfl 32 _ _ rfl inf32 (by decide) rfl rfl aQ rfl rfl rfl (ZbT rfl) eF qN ?_)|(refine kL 710 rfl ?_;first|refine q_ rfl rfl 22 _ _ rfl ud22 inf3 (by decide) dU rfl aG _ eC aQ rfl (cs':=[_]) rfl ?_)|refine uA ?_|refine uK (u_ _ _ _) ?_)|(refine ZRG ?_;first|(refine kR 706 rfl ?_;first|refine HL rfl rfl 22 _ rfl ud22 rfl rfl rfl aQ rfl ?_)|(refine kR 98 rfl ?_;first|refine HL rfl rfl 3 _ rfl ud3 rfl rfl rfl aQ rfl ?_)|(refine kR 710 rfl ?_;first|refine AcU rfl rfl 22 _ _ rfl ud22 inf3 (by decide) dU rfl aG _ eC aQ rfl (cs':=[_]) rfl ?_)|(refine kR 1027 rfl ?_;first|refine R_store_rp rfl rfl 32 _ _ rfl inf32 (by decide) rfl rfl aQ rfl rfl rfl (ZbT rfl) eF qN ?_)|refine uR ?_|refine AT (u_ _ _ _) ?_)|refine uC ?_|refine AW.drawU (id:=10) mixed 1 qR ?_|refine uS 12 (fun hb=>?_) (fun hb=>?_)|refine uS 16 (fun hb=>?_) (fun hb=>?_)|refine uS 21 (fun hb=>?_) (fun hb=>?_)|refine uS 31 (fun hb=>?_) (fun hb=>?_)|refine ZK2 (fun hc=>?_) (fun hc=>?_)|fail)
    all_goals first|(exfalso;omega)|(rw [QX (by simp [CU];done)];((first|exact Di Tryz.results80|refine Dj Tryz.results80 ?_ ?_|refine Dk Tryz.results80 ?_ ?_ ?_<;>repeat' (first|exact ZE1|refine ZE2 ?_ ?_|refine ZE3 ?_|exact ZE4|fail)));done)|(rw [AgX (by simp [CU];omega) hg];((first|exact Di Tryz.results80|refine Dj Tryz.results80 ?_ ?_|refine Dk Tryz.results80 ?_ ?_ ?_<;>repeat' (first|exact ZE1|refine ZE2 ?_ ?_|refine ZE3 ?_|exact ZE4|fail)));done)|(rw [t4_ (by simp [CU];omega) (by omega)];((first|exact Dm Tryz.results80|refine Dn Tryz.results80 ?_ ?_|refine Dp Tryz.results80 ?_ ?_ ?_<;>repeat' (first|exact ZE1|refine ZE2 ?_ ?_|refine ZE3 ?_|exact ZE4|fail)));done)|(rw [t5_ (by simp [CU];omega) (by omega) rfl];((first|exact Dm Tryz.results80|refine Dn Tryz.results80 ?_ ?_|refine Dp Tryz.results80 ?_ ?_ ?_<;>repeat' (first|exact ZE1|refine ZE2 ?_ ?_|refine ZE3 ?_|exact ZE4|fail)));done)
 ·have e:CU on sh ov at_ outs.length=true:=by
   unfold CU
   simp only [lS,gM]
   by_cases h0:at_<0
   ·exact .inl (.inl (.inr h0))
   ·exact .inl (.inr (by omega))
  rw [QX e]
  cases on<;>cases ov<;>cases sh
  all_goals
   refine ZEN Tryz.func80 Tryz.ntmps80 ?_
   repeat' (first|refine uA ?_|refine uR ?_|refine uC ?_|refine AW.drawU (id:=10) mixed 2 qR ?_|refine uS 12 (fun hb=>?_) (fun hb=>?_)|refine uS 16 (fun hb=>?_) (fun hb=>?_)|refine uS 21 (fun hb=>?_) (fun hb=>?_)|refine uS 31 (fun hb=>?_) (fun hb=>?_)|refine ZK2 (fun hc=>?_) (fun hc=>?_)|fail)
   all_goals first|(exfalso;omega)|((first|exact Di Tryz.results80|refine Dj Tryz.results80 ?_ ?_|refine Dk Tryz.results80 ?_ ?_ ?_<;>repeat' (first|exact ZE1|refine ZE2 ?_ ?_|refine ZE3 ?_|exact ZE4|fail)))
end
structure PN where
 sh:Bool
 ov:Bool
 at_:Int
 v:Int
def got (on sh ov:Bool) (at_ v:Int) (n:Nat) (code val:Int):PN :=
 if CU on sh ov at_ n=true∨code=6∨code=11 then ⟨sh,ov,at_,v⟩ else if code=7 then ⟨sh,true,at_,v⟩ else if sh then ⟨sh,decide (at_+1=n),at_+1,v⟩
 else if 0<at_ then ⟨sh,ov,if at_+1>n then 0 else at_+1,v⟩ else if code=0 then ⟨sh,ov,1,val⟩ else ⟨true,ov,at_,v⟩
theorem AgW (on sh ov:Bool) (inn:Int) (outs:List Int) (at_ v:Int):(CU on sh ov at_ outs.length=true∧nx on sh ov inn outs at_ v = .no)∨(CU on sh ov at_ outs.length=false∧((∃h,nx on sh ov inn outs at_ v = .close h) ∨ ∃c,nx on sh ov inn outs at_ v = .one c)):=by
 cases h:CU on sh ov at_ outs.length
 ·refine .inr ⟨rfl,?_⟩
  unfold nx;rw [h]
  cases sh
  ·right
   by_cases h0:at_=0
   ·rw [fR h0];exact ⟨_,rfl⟩
   ·rw [fT h0];exact ⟨_,rfl⟩
  ·exact .inl ⟨_,rfl⟩
 ·exact .inl ⟨rfl,QX h⟩
theorem AoO {at_:Int} {n:Nat} (h0:0≤at_) (h1:at_≤n):(at_+1)%((n:Int)+1)=if at_+1>n then 0 else at_+1:=by
 by_cases h:at_=n
 ·subst h;rw [Int.emod_self,fR (by omega)]
 ·rw [Int.emod_eq_of_lt (by omega) (by omega),fT (by omega)]
theorem AxO (on sh ov:Bool) (inn at_ v:Int) (outs:List Int) (s c code val:Int) (hlen:outs.length≤17592186044415) (hat:sI at_) :
  Cd Tryz.prog 88 [.agg [bo on,bo sh,bo ov,i64 inn,.ln (outs.map tI),i64 at_,i64 v],.agg [i64 s,i64 c,i64 code,i64 val]]
   (.agg [bo on,bo (got on sh ov at_ v outs.length code val).sh,bo (got on sh ov at_ v outs.length code val).ov,i64 inn,.sl 0 0 outs.length,i64 (got on sh ov at_ v outs.length code val).at_,i64 (got on sh ov at_ v outs.length code val).v])
   [.row 0 3 1 (outs.map tI)]:=by
 have h1:(outs.map tI).length=outs.length:=fN _
 have cN:=m8_ on sh ov inn at_ v outs hlen hat
 unfold sI at hat
 rcases AgW on sh ov inn outs at_ v with ⟨hn,hx⟩|⟨hn,⟨h,hx⟩|⟨h,hx⟩⟩
 all_goals (rw [hx] at cN;simp only [nxA,nxL] at cN)
 ·have e:got on sh ov at_ v outs.length code val=⟨sh,ov,at_,v⟩:=by unfold got;rw [fR (.inl hn)]
  rw [e]
  refine ZEN Tryz.func88 Tryz.ntmps88 ?_
  repeat' (first|(refine ZAL ?_;first|(refine kL 2634 rfl ?_;first|(refine uK (AR outs ?zq0) ?_;(case zq0=>omega)))|refine uA ?_|refine uK (cN) ?_)|refine uC ?_|refine ZK2 (fun hc=>?_) (fun hc=>?_)|fail)
  all_goals first|(exfalso;omega)|((first|exact Fin.q Tryz.results88 (.cons (.agg rfl rfl ud145 rfl inf145 (us:=[_,_,_,_,_,_,_]) rfl rfl) .nil) [4]|refine Fin.q Tryz.results88 (.cons (.agg rfl rfl ud145 rfl inf145 (us:=[_,_,_,_,_,_,_]) rfl rfl) .nil) [4] (hr:=(.t ?_))|refine F3 Tryz.results88 ?_ ?_ ?_<;>repeat' (first|exact ZE1|refine ZE2 ?_ ?_|refine ZE3 ?_|exact ZE4|fail)))
  all_goals simp
 all_goals
  have hf:=e3_ hn
  obtain ⟨rfl,rfl,f1,f2,f3⟩:=hf
  have ht:=AoO f1 f2
  refine ZEN Tryz.func88 Tryz.ntmps88 ?_
  repeat' (first|(refine ZAL ?_;first|(refine kL 2634 rfl ?_;first|(refine uK (AR outs ?zq0) ?_;(case zq0=>omega)))|refine uA ?_|refine uK (cN) ?_)|refine uC ?_|refine ZK2 (fun hc=>?_) (fun hc=>?_)|fail)
  all_goals first|(exfalso;omega)|((first|exact Fin.q Tryz.results88 (.cons (.agg rfl rfl ud145 rfl inf145 (us:=[_,_,_,_,_,_,_]) rfl rfl) .nil) [4]|refine Fin.q Tryz.results88 (.cons (.agg rfl rfl ud145 rfl inf145 (us:=[_,_,_,_,_,_,_]) rfl rfl) .nil) [4] (hr:=(.t ?_))|refine F3 Tryz.results88 ?_ ?_ ?_<;>repeat' (first|exact ZE1|refine ZE2 ?_ ?_|refine ZE3 ?_|exact ZE4|fail)))
  all_goals first|rfl|(simp only [got,hn];simp [*];done)|(simp only [got,hn];simp [*];omega)|skip
end
end Go.Proofs.YtccefppppedgkaaGreat
