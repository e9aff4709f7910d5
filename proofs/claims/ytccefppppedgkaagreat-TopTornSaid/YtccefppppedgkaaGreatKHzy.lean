/- Joined: XTTopI. -/
import Derived.Test.YtccefppppedgkaaGreatKHzw
set_option linter.unusedVariables false
set_option linter.unusedSimpArgs false
set_option linter.unnecessarySimpa false
set_option maxRecDepth 100000
set_option maxHeartbeats 64000000
namespace Go.Proofs.YtccefppppedgkaaGreat
open Go.RowKit
def evM (c:AB) (l:List DB) (q:Nat):Mc:=(l.take q).foldl (doM c) (DC c)
theorem b_ {c:AB} {l:List DB} {q:Nat} {e:DB} (hx:l[q]? = some e):evM c l (q+1)=doM c (evM c l q) e:=by
 unfold evM
 rw [iB,hx,jY];rfl
theorem ApV {c:AB} (f:Okc c) {l:List DB} {q:Nat} (hq:q≤l.length):Mz c (evM c l q) q:=by
 have:=QW f (l.take q) (m6_ f)
 rw [fY,kQ hq,gV] at this
 exact this
theorem AwG {c:AB} {s:Mc} {k:Nat} (f:Okc c) (Z:Mz c s k) (hk:k≤2000) (vl vc vn vu:Nat):Cio Tryz.prog 15 [.ptr 0 0] (XV c s (nC c) (thrN c) vl vc vn vu) (fU (IB c s.turns s.turns.length)) (XV c s (nC c) (thrN c) vl vc vn vu):=by
 have h1:=(FH f Z hk).1
 obtain ⟨S,H,A,L⟩:=Z.q.kn
 obtain ⟨a, -⟩:=L (by omega)
 have hw:=A.inv.wl
 have hb:=f.big
 have hf:=f.facts
 have ht:=f.tot
 have hz:1*(1+sizeC c)≤nodesL c*(1+sizeC c):=iD ht.2 (by omega)
 have hnC:nC c=(totL c).toNat:=rfl
 obtain ⟨r,hr⟩:=A.inv.root
 rw [←AuB f A]
 exact AwF c s (nC c) (thrN c) vl vc vn vu f (jA (FG f) (by decide)) (by omega) (by omega) a.wu (A.inv.sok _ hr).2.2.1
theorem AjD (c:AB) (s:Mc) (e:DB):(doM c s e).turns=s.turns ∨ ∃v,(doM c s e).turns=s.turns++[v]:=by
 obtain ⟨l1, -,p⟩:=AeF c s e
 rcases p with ⟨-, -,h⟩|⟨t,z, -, -, -, -,h⟩
 ·exact .inl h
 ·rw [h];split
  ·exact .inr ⟨_,rfl⟩
  ·exact .inl rfl
def FK (c:AB) (u:List CP):List (List Int):=(List.range (u.length+1)).map (IB c u)
theorem AbJ (c:AB) (u:List CP) (v:CP):FK c (u++[v])=FK c u++[IB c (u++[v]) (u++[v]).length]:=by
 unfold FK
 rw [fP,gT,kG,iP]
 congr 1
 refine jR fun k hk=>h_ (by have:=kN.1 hk;omega)
theorem AoN {c:AB} {s:Mc} {k:Nat} (Z:Mz c s k) {t:Nat} {x:AC} (hx:s.tasks[t]? = some x) (h:(x.buf.length:Int)=sizeC c):x.buf∈FK c s.turns:=by
 obtain ⟨S,H,A, -⟩:=Z.q.kn
 have:=A.whl t x hx h
 rwa [A.chn.rcs] at this
theorem AiZ {c:AB} {s:Mc} {k:Nat} (Z:Mz c s k) {r:List Int} (h:r∈FK c s.turns):(r.length:Int)=sizeC c:=by
 obtain ⟨S,H,A, -⟩:=Z.q.kn
 unfold FK at h
 rw [←A.chn.rcs] at h
 obtain ⟨w,hw,rfl⟩:=iW.1 h
 exact (A.inv.sok w hw).2.2.2.2
end Go.Proofs.YtccefppppedgkaaGreat
