/- Joined: XTTeeN. -/
import Derived.Test.YtccefppppedgkaaGreatKGi
set_option linter.unusedVariables false
set_option linter.unusedSimpArgs false
set_option linter.unnecessarySimpa false
set_option maxRecDepth 100000
set_option maxHeartbeats 64000000
namespace Go.Proofs.YtccefppppedgkaaGreat
open Go.RowKit
section
attribute [local irreducible] AL AW RG Fin C Cd Cio AI AF AN
section
inductive Nx where
 |no
 |close (h:Int)
 |one (c:BD)
def CP (on sh ov:Bool) (at_:Int) (n:Nat):Bool := !on||ov||decide (at_<0)||decide (at_>n)||(sh&&decide (at_=n))
def nx (on sh ov:Bool) (inn:Int) (outs:List Int) (at_ v:Int):Nx :=
 if CP on sh ov at_ outs.length then .no else if sh then .close (outs.getD at_.toNat 0) else if at_=0 then .one ⟨2,inn,0⟩ else .one ⟨1,outs.getD (at_-1).toNat 0,v⟩
variable {on sh ov:Bool} {inn at_ v:Int} {outs:List Int}
theorem PV (h:CP on sh ov at_ outs.length=true):nx on sh ov inn outs at_ v = .no:=by unfold nx;rw [fL h]
variable {a:Int}
theorem AeV (h:CP on true ov at_ outs.length=false) (ha:outs.getD at_.toNat 0=a):nx on true ov inn outs at_ v = .close a:=by unfold nx;rw [h,ha];rfl
theorem o8_ (h:CP on false ov at_ outs.length=false) (h0:at_=0):nx on false ov inn outs at_ v = .one ⟨2,inn,0⟩:=by unfold nx;rw [h,fL h0];rfl
theorem o9_ (h:CP on false ov at_ outs.length=false) (h0:at_≠0) (ha:outs.getD (at_-1).toNat 0=a):nx on false ov inn outs at_ v = .one ⟨1,a,v⟩:=by unfold nx;rw [h,fM h0,ha];rfl
theorem a7_ {n:Nat} (h:CP on sh ov at_ n=false):on=true∧ov=false∧0≤at_∧at_≤n∧(sh=true→at_<n):=by
 unfold CP at h
 simp only [Bool.or_eq_false_iff,decide_eq_false_iff_not,Bool.not_eq_false',Bool.and_eq_false_imp] at h
 exact ⟨h.1.1.1.1,h.1.1.1.2,by omega,by omega,fun e=>by have:=h.2 e;omega⟩
def nxA:Nx→AV
 |.no=>.tup [.agg [i64 0,i64 0,i64 0,bo false,.nl],bo false]
 |.close h=>.tup [.agg [i64 4,i64 h,i64 0,bo false,.nl],bo true]
 |.one _=>.tup [.agg [i64 3,i64 0,i64 0,bo false,.sl 0 0 1],bo true]
def nxL:Nx→List Ob
 |.one c=>[.row 0 141 3 [tCs c]]
 |_=>[]
theorem p4_ (d h v:Int):Cd Tryz.prog 113 [i64 d,i64 h,i64 v] (.agg [i64 3,i64 0,i64 0,bo false,.sl 0 0 1]) [.row 0 141 3 [tCs ⟨d,h,v⟩]]:=by
 refine ZEN Tryz.func113 Tryz.ntmps113 ?_
 repeat' (first|(refine ZAL ?_;first|refine Gy ?_|refine Gz ?_|refine uA ?_)|refine uC ?_|refine ZK2 (fun hc=>?_) (fun hc=>?_)|fail)
 all_goals ((first|exact Fin.q Tryz.results113 (.cons (.agg rfl rfl ud32 rfl inf32 (us:=[_,_,_,_,_]) rfl rfl) .nil) [1]|refine Fin.q Tryz.results113 (.cons (.agg rfl rfl ud32 rfl inf32 (us:=[_,_,_,_,_]) rfl rfl) .nil) [1] (hr:=(.t ?_))|refine Fin.mkv (rs:=_) Tryz.results113 (.cons (.agg rfl rfl ud32 rfl inf32 (us:=[_,_,_,_,_]) rfl rfl) .nil) [1] (by decide) rfl ?_ ?_ ?_<;>repeat' (first|exact ZE1|refine ZE2 ?_ ?_|refine ZE3 ?_|exact ZE4|fail)))
theorem i7_ (on sh ov:Bool) (inn at_ v:Int) (outs:List Int) (hlen:outs.length≤17592186044415) (hat:sI at_) :
  Cd Tryz.prog 80 [.agg [bo on,bo sh,bo ov,i64 inn,.ln (outs.map tI),i64 at_,i64 v]] (nxA (nx on sh ov inn outs at_ v)) (nxL (nx on sh ov inn outs at_ v)):=by
 have h1:(outs.map tI).length=outs.length:=fH _
 unfold sI at hat
 by_cases hat2:0≤at_∧at_≤outs.length
 ·obtain ⟨n,rfl⟩ : ∃n:Nat,at_=n:=⟨at_.toNat,by omega⟩
  by_cases hn:n=outs.length
  ·have e3:=fun (i:Nat) (hi:i<outs.length)=>get_D (l:=outs) (x:=(0:Int)) hi
   cases on<;>cases ov<;>cases sh
   all_goals
    refine ZEN Tryz.func80 Tryz.ntmps80 ?_
    repeat' (first|(refine ZAL ?_;first|(refine kL 706 rfl ?_;first|refine EA rfl rfl 22 _ rfl ud22 rfl rfl rfl aX rfl ?_)|(refine kL 130 rfl ?_;first|refine EA rfl rfl 4 _ rfl ud4 rfl rfl rfl aX rfl ?_)|(refine kL 98 rfl ?_;first|refine EA rfl rfl 3 _ rfl ud3 rfl rfl rfl aX rfl ?_)|(refine kL 1027 rfl ?_;first|refine A_store_rp rfl rfl 32 _ _ rfl inf32 (by decide) rfl rfl aX rfl rfl rfl (ZbT rfl) eC qN ?_)|(refine kL 710 rfl ?_;first|refine l6_ rfl rfl 22 _ _ rfl ud22 inf3 (by decide) dU rfl aF _ eB aX rfl (cs':=[_]) rfl ?_)|refine uA ?_|refine uK (p4_ _ _ _) ?_)|(refine ZRG ?_;first|(refine kR 706 rfl ?_;first|refine HB rfl rfl 22 _ rfl ud22 rfl rfl rfl aX rfl ?_)|(refine kR 98 rfl ?_;first|refine HB rfl rfl 3 _ rfl ud3 rfl rfl rfl aX rfl ?_)|(refine kR 710 rfl ?_;first|refine AaU rfl rfl 22 _ _ rfl ud22 inf3 (by decide) dU rfl aF _ eB aX rfl (cs':=[_]) rfl ?_)|(refine kR 1027 rfl ?_;first|refine R_store_rp rfl rfl 32 _ _ rfl inf32 (by decide) rfl rfl aX rfl rfl rfl (ZbT rfl) eC qN ?_)|refine uR ?_|refine AZ (p4_ _ _ _) ?_)|refine uC ?_|refine AW.drawU (id:=10) mixed 1 qR ?_|refine uS 12 (fun hb=>?_) (fun hb=>?_)|refine uS 16 (fun hb=>?_) (fun hb=>?_)|refine uS 21 (fun hb=>?_) (fun hb=>?_)|refine uS 31 (fun hb=>?_) (fun hb=>?_)|refine ZK2 (fun hc=>?_) (fun hc=>?_)|fail)
    all_goals first|(exfalso;omega)|(rw [PV (by simp [CP,hn];done)];((first|exact D8 Tryz.results80|refine D9 Tryz.results80 ?_ ?_|refine Da Tryz.results80 ?_ ?_ ?_<;>repeat' (first|exact ZE1|refine ZE2 ?_ ?_|refine ZE3 ?_|exact ZE4|fail)));done)|(rw [o8_ (by simp [CP];omega) (by omega)];((first|exact Db Tryz.results80|refine Dc Tryz.results80 ?_ ?_|refine Dd Tryz.results80 ?_ ?_ ?_<;>repeat' (first|exact ZE1|refine ZE2 ?_ ?_|refine ZE3 ?_|exact ZE4|fail)));done)|(rw [o9_ (by simp [CP];omega) (by omega) rfl];((first|exact Db Tryz.results80|refine Dc Tryz.results80 ?_ ?_|refine Dd Tryz.results80 ?_ ?_ ?_<;>repeat' (first|exact ZE1|refine ZE2 ?_ ?_|refine ZE3 ?_|exact ZE4|fail)));done)
  ·obtain ⟨a,ha⟩ : ∃a,outs[n]? = some a:=⟨_,ZgE (by omega)⟩
   have hg:outs.getD (n:Int).toNat 0=a:=by rw [fW,fK,ha];rfl
   have e3:=fun (i:Nat) (hi:i<outs.length)=>get_D (l:=outs) (x:=(0:Int)) hi
   cases on<;>cases ov<;>cases sh
   all_goals
    refine ZEN Tryz.func80 Tryz.ntmps80 ?_
    repeat' (first|(refine ZAL ?_;first|(refine kL 706 rfl ?_;first|refine EA rfl rfl 22 _ rfl ud22 rfl rfl rfl aQ rfl ?_)|(refine kL 130 rfl ?_;first|refine EA rfl rfl 4 _ rfl ud4 rfl rfl rfl aQ rfl ?_)|(refine kL 98 rfl ?_;first|refine EA rfl rfl 3 _ rfl ud3 rfl rfl rfl aQ rfl ?_)|(refine kL 1027 rfl ?_;first|refine A_store_rp rfl rfl 32 _ _ rfl inf32 (by decide) rfl rfl aQ rfl rfl rfl (ZbT rfl) eC qN ?_)|(refine kL 710 rfl ?_;first|refine l6_ rfl rfl 22 _ _ rfl ud22 inf3 (by decide) dU rfl aF _ eB aQ rfl (cs':=[_]) rfl ?_)|refine uA ?_|refine uK (p4_ _ _ _) ?_)|(refine ZRG ?_;first|(refine kR 706 rfl ?_;first|refine HB rfl rfl 22 _ rfl ud22 rfl rfl rfl aQ rfl ?_)|(refine kR 98 rfl ?_;first|refine HB rfl rfl 3 _ rfl ud3 rfl rfl rfl aQ rfl ?_)|(refine kR 710 rfl ?_;first|refine AaU rfl rfl 22 _ _ rfl ud22 inf3 (by decide) dU rfl aF _ eB aQ rfl (cs':=[_]) rfl ?_)|(refine kR 1027 rfl ?_;first|refine R_store_rp rfl rfl 32 _ _ rfl inf32 (by decide) rfl rfl aQ rfl rfl rfl (ZbT rfl) eC qN ?_)|refine uR ?_|refine AZ (p4_ _ _ _) ?_)|refine uC ?_|refine AW.drawU (id:=10) mixed 1 qR ?_|refine uS 12 (fun hb=>?_) (fun hb=>?_)|refine uS 16 (fun hb=>?_) (fun hb=>?_)|refine uS 21 (fun hb=>?_) (fun hb=>?_)|refine uS 31 (fun hb=>?_) (fun hb=>?_)|refine ZK2 (fun hc=>?_) (fun hc=>?_)|fail)
    all_goals first|(exfalso;omega)|(rw [PV (by simp [CP];done)];((first|exact D8 Tryz.results80|refine D9 Tryz.results80 ?_ ?_|refine Da Tryz.results80 ?_ ?_ ?_<;>repeat' (first|exact ZE1|refine ZE2 ?_ ?_|refine ZE3 ?_|exact ZE4|fail)));done)|(rw [AeV (by simp [CP];omega) hg];((first|exact D8 Tryz.results80|refine D9 Tryz.results80 ?_ ?_|refine Da Tryz.results80 ?_ ?_ ?_<;>repeat' (first|exact ZE1|refine ZE2 ?_ ?_|refine ZE3 ?_|exact ZE4|fail)));done)|(rw [o8_ (by simp [CP];omega) (by omega)];((first|exact Db Tryz.results80|refine Dc Tryz.results80 ?_ ?_|refine Dd Tryz.results80 ?_ ?_ ?_<;>repeat' (first|exact ZE1|refine ZE2 ?_ ?_|refine ZE3 ?_|exact ZE4|fail)));done)|(rw [o9_ (by simp [CP];omega) (by omega) rfl];((first|exact Db Tryz.results80|refine Dc Tryz.results80 ?_ ?_|refine Dd Tryz.results80 ?_ ?_ ?_<;>repeat' (first|exact ZE1|refine ZE2 ?_ ?_|refine ZE3 ?_|exact ZE4|fail)));done)
 ·have e:CP on sh ov at_ outs.length=true:=by
   unfold CP
   simp only [lH,gE]
   by_cases h0:at_<0
   ·exact .inl (.inl (.inr h0))
   ·exact .inl (.inr (by omega))
  rw [PV e]
  cases on<;>cases ov<;>cases sh
  all_goals
   refine ZEN Tryz.func80 Tryz.ntmps80 ?_
   repeat' (first|refine uA ?_|refine uR ?_|refine uC ?_|refine AW.drawU (id:=10) mixed 2 qR ?_|refine uS 12 (fun hb=>?_) (fun hb=>?_)|refine uS 16 (fun hb=>?_) (fun hb=>?_)|refine uS 21 (fun hb=>?_) (fun hb=>?_)|refine uS 31 (fun hb=>?_) (fun hb=>?_)|refine ZK2 (fun hc=>?_) (fun hc=>?_)|fail)
   all_goals first|(exfalso;omega)|((first|exact D8 Tryz.results80|refine D9 Tryz.results80 ?_ ?_|refine Da Tryz.results80 ?_ ?_ ?_<;>repeat' (first|exact ZE1|refine ZE2 ?_ ?_|refine ZE3 ?_|exact ZE4|fail)))
end
end
end Go.Proofs.YtccefppppedgkaaGreat
