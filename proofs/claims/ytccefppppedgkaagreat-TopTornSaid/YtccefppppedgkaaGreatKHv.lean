/- Joined: XTNzB, XTIoS, XTMarks, XTPlace, XTTeeP, XTConI, XTTeeA, XTSmall, XTFrzA, XTReadC, XTClipC. -/
import Derived.Test.YtccefppppedgkaaGreatKHu
set_option linter.unusedVariables false
set_option linter.unusedSimpArgs false
set_option linter.unnecessarySimpa false
set_option maxRecDepth 100000
set_option maxHeartbeats 64000000
namespace Go.Proofs.YtccefppppedgkaaGreat
open Go.RowKit
section
section
variable {P:Program} {n:Fr} {T:Nat→AV} {heap:List Ob}
theorem Wk.nzB (i:Nat) {t:TypeId} {cs cs':List AV} (hi:heap[i]? = some (.box t cs)) (h:NzL cs cs') {heap':List Ob} (hh:heap.set i (.box t cs')=heap'):Wk n T heap T heap':=by
 subst hh
 rintro en a w ⟨ρ,Z,Y,hR⟩
 obtain ⟨b,us,q1,q2,q3,q4⟩:=hR.ok.rep.obs i _ hi
 obtain ⟨g1,g2⟩:=h.get
 have hm : ∀x v,Val (Kn heap) ρ w Z Y x v→Val (Kn (heap.set i (.box t cs'))) ρ w Z Y x v:=fun x v hv =>
  hv.mono (fun j k hj=>⟨hj.set hi (by exact fV _),rfl⟩) (fun b hb=>⟨hb,rfl⟩) (fun b hb=>⟨hb,rfl⟩)
 refine ⟨ρ,Z,Y,hR.ok.turn hi (fV _) (fun _ _ _=>rfl) ⟨rfl,rfl,rfl⟩ (fV _) (fun _ _ _=>rfl) ⟨b,us,q1,q2,⟨by rw [←g1];exact q3.len,fun q x u hq hu=>?_⟩,q4⟩ (fun b' hb'=>.inl hb'),hR.defers,hR.n,hR.hl,fun t v ht=>hm _ _ (hR.at_ t v ht)⟩
 have hlt:q<cs.length:=by rw [g1];exact get_lt hq
 exact hm _ _ ((g2 q cs[q] x (ZgE hlt) hq).val (q3.at_ q cs[q] u (ZgE hlt) hu))
end
end
section
variable {heap':List Ob} {k':Nat}
section
variable {P:Program} {ops:Array Oper} {Q:QS} {rest:List Oper} {o:Oper} {n:Fr} {T:Nat→AV} {heap:List Ob} {d:Nat}
theorem h4_ {h:List Ob} {i:Nat} {o:Ob} (e:h[i]? = some o):h.set i o=h:=by
 refine iO fun j=>?_
 by_cases k:i=j
 ·subst k;rw [jF (iJ.1 e).1,e]
 ·rw [jJ k]
theorem y5_ (hw:AD n T ops o=true) (hd:o.dst=some d) {f:FuncId} {fn:Func} (hf:P.funcs[f]? = some fn) {args:Array Operand} {tys:Array TypeId}
  (ho:o.op = .call { callee:=.value (.func f),args:=args,argTypes:=tys }) (i0:Nat) (sel:List Nat) {xs:List AV} {H:List Ob} {r:AV} {L:List Ob} (hc:Cio P f xs H r L) {acc:List Nat} {F:List Dl→(Nat→AV)→List Ob→Prop} {ac:List Dl}
  (hn : (fn.name == "runtime.NumGoroutine") = false) (hb : fn.body.isNone = false) (hnd : (i0 :: sel).Nodup) (hL : L.length = (i0 :: sel).length) (ha : a7_ heap 3 (PY (args.toList.map (evA n T))) = acc)
  (hH : ∀h',(∀i,acc.contains i=true→h'[i]? = heap[i]?)→FP h' (i0::sel) (i0::sel) H) (hp : ∀h',(∀i,acc.contains i=true→h'[i]? = heap[i]?)→CJ h' (i0::sel) (args.toList.map (evA n T)) xs)
  {N:Nat} (hN:heap.length=N) {r':AV} (hr:upA (gIO (i0::sel) N) r=r') {o0:Ob} {U:List (Nat × Ob)} (hU:(i0::sel).zip (L.map (upO (gIO (i0::sel) N)))=(i0,o0)::U) (h0:heap[i0]? = some o0) (hc0:acc.contains i0=true) (hh:BI heap U=heap')
  (k:RG P ops n F rest (ac++[⟨some d,r',U,acc⟩]) (pu T d r') heap'):RG P ops n F (o::rest) ac T heap:=by
 subst hr hN
 have hlk : ∀x∈args.toList,x∈o.op.operands.toList:=fun x hx=>by rw [ho];simp only [Op.operands,Call.operands,lH];exact iR _ hx
 refine RG.cons (D:=⟨some d,_,U,acc⟩) hd.symm (fun T' h' hT hA hl=>?_) rfl hh k
 have hargs:args.toList.map (evA n T')=args.toList.map (evA n T):=jR fun x hx=>ev_eq hT (hlk x hx)
 have hs : ∀i,acc.contains i=true→h'[i]? = heap[i]? := fun i hi=>hA i eX
 refine RM aM hd hf hn hb ho (i0::sel) hnd hc (hH h' hs) (by rw [hargs];exact hp h' hs) hl rfl rfl (AL.nil ⟨rfl,rfl,?_⟩)
 rw [List.drop_of_length_le (by omega),gX,iC,LR,hU,BI,h4_ ((hs i0 hc0).trans h0)]
 rfl
theorem uJ1 {f : FuncId} {fn : Func} {args : Array Operand} {tys : Array TypeId} {xs : List AV} {r : AV} {L : List Ob} {H : List Ob} (i0 : Nat) (sel : List Nat) {F : List Dl → (Nat → AV) → List Ob → Prop} {acc : List Dl} (hc : Cio P f xs H r L) {N : Nat} {r' : AV} {o0 : Ob} {U : List (Nat × Ob)} {al : List Nat} (k : RG P ops n F rest (acc ++ [⟨some d, r', U, al⟩]) (pu T d r') heap') (ho : o.op = .call { callee := .value (.func f), args := args, argTypes := tys } := by first | exact rfl | fail) (hw : AD n T ops o = true := by first | exact rfl | fail) (hd : o.dst = some d := by first | exact rfl | fail) (hf : P.funcs[f]? = some fn := by first | exact rfl | fail) (hn : (fn.name == "runtime.NumGoroutine") = false := by first | kernel_rfl | fail) (hb : fn.body.isNone = false := by first | kernel_rfl | fail) (hnd : (i0 :: sel).Nodup := by first | decide | fail) (hL : L.length = (i0 :: sel).length := by first | exact rfl | fail) (ha : a7_ heap 3 (PY (args.toList.map (evA n T))) = al := by first | exact rfl | fail) (hH : ∀ h', (∀ i, al.contains i = true → h'[i]? = heap[i]?) → FP h' (i0 :: sel) (i0 :: sel) H := by first | (intro h' hh; (repeat' (first | exact .nil | (apply FP.cons; exact (hh _ rfl).trans rfl) | exact .row | refine .box ?_ | exact .nil | exact .sel rfl | exact .ptr rfl | refine .cons ?_ ?_ | exact .t _ | exact hps _ _ | refine .aggL ?_ | exact .any _ | exact .lst _ | exact .nl | exact .nln | exact .nlt | exact .ln _ | (apply BH.all; exact (hh _ rfl).trans rfl; exact rfl; exact dD) | (apply BH.own; exact (hh _ rfl).trans rfl; exact rfl; exact cY) | (apply BH.subE; exact (hh _ rfl).trans rfl; exact rfl; exact aS; exact cY) | (apply BH.ownE; exact (hh _ rfl).trans rfl; exact rfl; exact cY) | refine .lpL ?_ | refine .boxL ((hh _ rfl).trans rfl) rfl rfl ?_ | refine .fnL ?_ ?_)); (first | done | fail)) | fail) (hp : ∀ h', (∀ i, al.contains i = true → h'[i]? = heap[i]?) → CJ h' (i0 :: sel) (args.toList.map (evA n T)) xs := by first | (intro h' hh; (repeat' (first | exact .nil | exact .sel rfl | exact .ptr rfl | refine .cons ?_ ?_ | exact .t _ | exact hps _ _ | refine .aggL ?_ | exact .any _ | exact .lst _ | exact .nl | exact .nln | exact .nlt | exact .ln _ | (apply BH.all; exact (hh _ rfl).trans rfl; exact rfl; exact dD) | (apply BH.own; exact (hh _ rfl).trans rfl; exact rfl; exact cY) | (apply BH.subE; exact (hh _ rfl).trans rfl; exact rfl; exact aS; exact cY) | (apply BH.ownE; exact (hh _ rfl).trans rfl; exact rfl; exact cY) | refine .lpL ?_ | refine .boxL ((hh _ rfl).trans rfl) rfl rfl ?_ | refine .fnL ?_ ?_)); (first | done | fail)) | fail) (hN : heap.length = N := by first | (((try simp only [gF, gI, gV, Nat.reduceAdd]); exact rfl)) | fail) (hr : upA (gIO (i0 :: sel) N) r = r' := by first | (((try simp only [BT, BI, kV, lQ, lX, upO, upA, upF, gIO, gO, gX, gW, iK, jM, gF, gI, iG, iL, gZ, gU, iC, jT, jG, kO, gV, Nat.reduceAdd, Nat.reduceSub]); exact rfl)) | fail) (hU : (i0 :: sel).zip (L.map (upO (gIO (i0 :: sel) N))) = (i0, o0) :: U := by first | (((try simp only [BT, BI, kV, lQ, lX, upO, upA, upF, gIO, gO, gX, gW, iK, jM, gF, gI, iG, iL, gZ, gU, iC, jT, jG, kO, gV, Nat.reduceAdd, Nat.reduceSub]); exact rfl)) | fail) (h0 : heap[i0]? = some o0 := by first | exact rfl | fail) (hc0 : al.contains i0 = true := by first | exact rfl | fail) (hh : BI heap U = heap' := by first | (((try simp only [BT, BI, kV, lQ, lX, upO, upA, upF, gIO, gO, gX, gW, iK, jM, gF, gI, iG, iL, gZ, gU, iC, jT, jG, kO, gV, Nat.reduceAdd, Nat.reduceSub]); exact rfl)) | fail) : RG P ops n F (o :: rest) acc T heap := y5_ hw hd hf ho i0 sel hc hn hb hnd hL ha hH hp hN hr hU h0 hc0 hh k
theorem kAW {c:Code} (k:AW P c Q n T heap):AW P c Q n T heap:=k
theorem ufB (i j:Nat) {c:Code} {E:TypeId} {s:Nat} {els:List (List Tr)} {t:TypeId} {cs cs':List AV} (k:AW P c Q n T heap') (hi:heap[i]? = some (.row k' E s els):=by first|exact rfl|fail) (hj:heap[j]? = some (.box t cs):=by first|exact rfl|fail) (hr:FzL i k' els cs cs':=by first|((repeat' (first|exact FzR.nlt|exact FzR.all dD|exact FzR.sl cY|exact FzR.sub cY|apply FzR.aggL|exact FzL.nil|apply FzL.cons|exact FzR.same _|fail));(first|done|fail))|fail) (hh:(heap.set i (.gone k')).set j (.box t cs')=heap':=by first|(((try simp only [jS,jI,iK,gW,gU,gZ,iC,gF,gI,iG,iL,gO,gX,kK,jM,gV,iT,Nat.reduceAdd,Nat.reduceSub]);exact rfl))|fail):AW P c Q n T heap:=AW.wk (Wk.freezeB i hi j hj hr hh) k
theorem ufR {id:Nat} (i d:Nat) {l:Array Oper} {b:Bool} {E:TypeId} {s:Nat} {els:List (List Tr)} {y:AV} (k:AW P (.region id l b) Q n (pu T d y) heap') (hi:heap[i]? = some (.row k' E s els):=by first|exact rfl|fail) (hr:FzR i k' els (evA n T (.tmp d)) y:=by first|((repeat' (first|exact FzR.nlt|exact FzR.all dD|exact FzR.sl cY|exact FzR.sub cY|apply FzR.aggL|exact FzL.nil|apply FzL.cons|exact FzR.same _|fail));(first|done|fail))|fail) (hh:heap.set i (.gone k')=heap':=by first|(((try simp only [jS,jI,iK,gW,gU,gZ,iC,gF,gI,iG,iL,gO,gX,kK,jM,gV,iT,Nat.reduceAdd,Nat.reduceSub]);exact rfl))|fail):AW P (.region id l b) Q n T heap:=AW.wk (Wk.freeze i hi d rfl hr hh) k
theorem fnz (i:Nat) {fn:Func} {R:AV→List Ob→Prop} {t:TypeId} {cs cs':List AV} (k:Go.Proofs.YtccefppppedgkaaGreat.Fin P fn R n T heap') (hi:heap[i]? = some (.box t cs):=by first|exact rfl|fail) (h:NzL cs cs':=by first|((repeat' (first|exact NzR.nlt|apply NzR.aggL|exact NzL.nil|apply NzL.cons|exact NzR.same _|fail));(first|done|fail))|fail) (hh:heap.set i (.box t cs')=heap':=by first|(((try simp only [jS,jI,iK,gW,gU,gZ,iC,gF,gI,iG,iL,gO,gX,kK,jM,gV,iT,Nat.reduceAdd,Nat.reduceSub]);exact rfl))|fail):Go.Proofs.YtccefppppedgkaaGreat.Fin P fn R n T heap:=Fin.wk (Wk.nzB i hi h hh) k
end
end
section
attribute [local irreducible] AL AW RG Fin C Cd Cio AI AF AO
def why (t:Int) (nf no:Nat):Int:=if t≠0∨0<nf then 0 else if 0<no then 6 else 7
theorem AqR (i t sp:Int) (fr:List CR) (ol:List CD):Cd Tryz.prog 228 [.agg [i64 i,i64 t,.ln (fr.map tSl),.ln (ol.map tOd),i64 sp]] (i64 (why t fr.length ol.length)) []:=by
 have h1:(ol.map tOd).length=ol.length:=fN _
 have h2:(fr.map tSl).length=fr.length:=fN _
 refine ZEN Tryz.func228 Tryz.ntmps228 ?_
 repeat' (first|refine A0 ?_|refine uS 8 (fun hb=>?_) (fun hb=>?_)|refine ZK2 (fun hc=>?_) (fun hc=>?_)|fail)
 all_goals ((first|exact A6 Tryz.results228|refine A5 Tryz.results228 ?_|refine A8 Tryz.results228 ?_ ?_ ?_<;>repeat' (first|exact ZE1|refine ZE2 ?_ ?_|refine ZE3 ?_|exact ZE4|fail)))
 all_goals (unfold why;repeat (first|rw [fR (by omega)]|rw [fT (by omega)]))
def s9_ (t:Int) (nf no:Nat) (limit:Int):Bool:=decide (0<no∧(limit≤no∨(t=0∧nf=0)))
theorem AmQ (i t sp lim:Int) (fr:List CR) (ol:List CD):Cd Tryz.prog 188 [.agg [i64 i,i64 t,.ln (fr.map tSl),.ln (ol.map tOd),i64 sp],i64 lim] (bo (s9_ t fr.length ol.length lim)) []:=by
 have h1:(ol.map tOd).length=ol.length:=fN _
 have h3:why t fr.length ol.length=0↔(t≠0∨0<fr.length):=by
  unfold why
  repeat' split
  all_goals omega
 refine ZEN Tryz.func188 Tryz.ntmps188 ?_
 repeat' (first|(refine ZAL ?_;first|refine uA ?_|refine uK (AqR i t sp fr ol) ?_)|refine uC ?_|refine uS 9 (fun hb=>?_) (fun hb=>?_)|refine uS 15 (fun hb=>?_) (fun hb=>?_)|refine ZK2 (fun hc=>?_) (fun hc=>?_)|fail)
 all_goals ((first|exact A6 Tryz.results188|refine A5 Tryz.results188 ?_|refine A8 Tryz.results188 ?_ ?_ ?_<;>repeat' (first|exact ZE1|refine ZE2 ?_ ?_|refine ZE3 ?_|exact ZE4|fail)))
 all_goals (unfold s9_;first|(rw [fW (by omega)];done)|(rw [fZ (by omega)];done)|(congr 2;rw [kJ];omega))
theorem c_ (h:Int) (h1 : -9223372036854775808≤h∧h≤9223372036854775807):Cd Tryz.prog 195 [i64 h] (.tup [i64 (plP h),i64 (plG h),bo (JM h)]) []:=by
 by_cases hk:8≤h∧h≤32767
 ·rw [(TI hk.1 hk.2).1,(TI hk.1 hk.2).2.1,(TI hk.1 hk.2).2.2]
  refine ZEN Tryz.func195 Tryz.ntmps195 ?_
  repeat' (first|refine A0 ?_|fail)
  all_goals exact Dx Tryz.results195
 ·rw [(u5_ hk).1,(u5_ hk).2.1,(u5_ hk).2.2]
  refine ZEN Tryz.func195 Tryz.ntmps195 ?_
  repeat' (first|refine A0 ?_|refine uS 7 (fun hb=>?_) (fun hb=>?_)|fail)
  all_goals exact Dx Tryz.results195
end
end Go.Proofs.YtccefppppedgkaaGreat
namespace Go.Proofs.YtccefppppedgkaaGreat
def TE (inn:Int) (outs:List Int) (j:Nat):Prop:=JM (outs.getD j 0)=true∧outs.getD j 0≠inn∧outs.getD j 0 ∉ outs.take j
def GY (inn:Int) (outs:List Int):Prop:=JM inn=true∧1≤outs.length∧outs.length≤8 ∧ ∀j,j<outs.length→TE inn outs j
end Go.Proofs.YtccefppppedgkaaGreat
namespace Go.Proofs.YtccefppppedgkaaGreat
open Go.RowKit
section
attribute [local irreducible] AL AW RG Fin C Cd Cio AI AF AO
theorem AfA (l:List Int) (x:Int) (hl:l.length≤1152921504606846976):Cd Tryz.prog 196 [.ln (l.map tI),i64 x] (i64 (ixI l x)) []:=by
 have h1:(l.map tI).length=l.length:=fN _
 refine ZEN Tryz.func196 Tryz.ntmps196 ?_
 repeat' (first|refine A0 ?_|fail)
 refine AW.loopP (fun (j:Nat)=>j≤l.length ∧ ∀q,q<j→l.getD q 0≠x) (fun (j:Nat)=>(pu (pu (pu (pu (fun _=>.any) 0 (.ln (l.map tI))) 1 (i64 x)) 7 (i64 (l.map tI).length)) 8 (i64 j))) (fun (j:Nat)=>[]) (fun (j:Nat)=>l.length-j) (0) ?_ ?_ ?_
 ·exact ⟨fX _,fun q hq=>by omega⟩
 ·exact Wk.cq 0
 ·rintro j ⟨h2,h3⟩
  by_cases hj:j<l.length
  ·obtain ⟨a,ha⟩ : ∃a,l[j]? = some a:=⟨_,ZgE hj⟩
   repeat' (first|refine A0 ?_|refine kcp rfl (fun hc=>?_) (fun hc=>?_)|fail)
   all_goals try exact ZE5
   ·refine A5 Tryz.results196 ?_
    rw [m_ l x j h3 (by rw [ha,hc])]
   ·refine ⟨j+1,⟨by omega,fun q hq=>?_⟩,by omega,?_⟩
    ·by_cases e:q=j
     ·subst e;rw [fQ,ha];exact fun e=>hc e.symm
     ·exact h3 q (by omega)
    ·exact Wk.cq 0
  ·repeat' (first|refine A0 ?_|fail)
   all_goals first|(exfalso;omega)|(refine A5 Tryz.results196 ?_)
   rw [ST l x fun q hq=>h3 q (by omega)]
theorem PR (l:List Int) (x:Int) (hl:l.length≤1152921504606846976):Cd Tryz.prog 135 [.ln (l.map tI),i64 x] (bo (decide (x∈l))) []:=by
 have h1:=XY l x
 refine ZEN Tryz.func135 Tryz.ntmps135 ?_
 repeat' (first|(refine ZAL ?_;first|refine uA ?_|refine uK (AfA l x hl) ?_)|refine uC ?_|fail)
 all_goals (refine A5 Tryz.results135 ?_)
 all_goals (congr 2;rw [kJ];omega)
def okI (x:Int):Prop := -9223372036854775808≤x∧x≤9223372036854775807
theorem PI (h:Int) (h1:okI h):Cd Tryz.prog 134 [i64 h] (bo (JM h)) []:=by
 refine ZEN Tryz.func134 Tryz.ntmps134 ?_
 repeat' (first|(refine ZAL ?_;first|refine uA ?_|refine uK (c_ h h1) ?_)|refine uC ?_|refine ZK2 (fun hc=>?_) (fun hc=>?_)|fail)
 all_goals ((first|exact A6 Tryz.results134|refine A5 Tryz.results134 ?_|refine A8 Tryz.results134 ?_ ?_ ?_<;>repeat' (first|exact ZE1|refine ZE2 ?_ ?_|refine ZE3 ?_|exact ZE4|fail)))
def stR (b:Bool) (inn:Int) (n:Nat):AV:=bif b then .tup [.agg [bo true,bo false,bo false,i64 inn,.sl 0 0 n,i64 0,i64 0],bo true] else .tup [.agg [bo false,bo false,bo false,i64 0,.nl,i64 0,i64 0],bo false]
def stL (b:Bool) (outs:List Int):List Ob:=bif b then [.row 0 3 1 (outs.map tI)] else []
theorem w3_ (inn:Int) (outs:List Int) (hi:okI inn) (ho : ∀x∈outs,okI x) (hlen:outs.length≤17592186044416) (b:Bool) (hbs:b=true↔GY inn outs) :
  Cd Tryz.prog 91 [i64 inn,.ln (outs.map tI)] (stR b inn outs.length) (stL b outs):=by
 have h1:(outs.map tI).length=outs.length:=fN _
 have hno : ¬GY inn outs→b=false:=fun h=>by cases b;rfl;exact absurd (hbs.1 rfl) h
 have c0:=PI inn hi
 cases hpl:JM inn
 ·have e:b=false:=hno fun h=>by have:=h.1;rw [hpl] at this;cases this
  subst e
  rw [hpl] at c0
  refine ZEN Tryz.func91 Tryz.ntmps91 ?_
  repeat' (first|(refine ZAL ?_;first|refine uA ?_|refine uK (c0) ?_)|refine uC ?_|refine uS 11 (fun hb=>?_) (fun hb=>?_)|refine uS 16 (fun hb=>?_) (fun hb=>?_)|refine uS 32 (fun hb=>?_) (fun hb=>?_)|refine uS 37 (fun hb=>?_) (fun hb=>?_)|refine ZK2 (fun hc=>?_) (fun hc=>?_)|fail)
  all_goals exact D9 Tryz.results91
 rw [hpl] at c0
 refine ZEN Tryz.func91 Tryz.ntmps91 ?_
 repeat' (first|(refine ZAL ?_;first|refine uA ?_|refine uK (c0) ?_)|refine uC ?_|refine uS 11 (fun hb=>?_) (fun hb=>?_)|refine uS 16 (fun hb=>?_) (fun hb=>?_)|refine uS 32 (fun hb=>?_) (fun hb=>?_)|refine uS 37 (fun hb=>?_) (fun hb=>?_)|refine ZK2 (fun hc=>?_) (fun hc=>?_)|fail)
 all_goals first|(exfalso;omega)|(have e:=hno (fun h=>by have:=h.2.1;have:=h.2.2.1;omega);subst e;((first|exact Fin.q Tryz.results91 (.cons (.agg rfl rfl ud145 rfl inf145 (us:=[_,_,_,_,_,_,_]) rfl rfl) (.cons (.tmp rfl) .nil)) []|refine Fin.q Tryz.results91 (.cons (.agg rfl rfl ud145 rfl inf145 (us:=[_,_,_,_,_,_,_]) rfl rfl) (.cons (.tmp rfl) .nil)) [] (hr:=(.tupL (.cons (.t ?_) (.cons (.t ?_) .nil))))|refine Fin.mkv (rs:=_) Tryz.results91 (.cons (.agg rfl rfl ud145 rfl inf145 (us:=[_,_,_,_,_,_,_]) rfl rfl) (.cons (.tmp rfl) .nil)) [] (by decide) rfl ?_ ?_ ?_<;>repeat' (first|exact ZE1|refine ZE2 ?_ ?_|refine ZE3 ?_|exact ZE4|fail)));done)|skip
 all_goals
  refine AW.loopP (fun (x:Nat)=>x≤outs.length ∧ ∀j,j<x→TE inn outs j) (fun (x:Nat)=>(pu (pu (pu (pu (pu (pu (pu (fun _=>.any) 0 (i64 inn)) 1 (.ln (outs.map tI))) 4 (.ptr 0 0)) 5 (bo false)) 22 (.ln (outs.map tI))) 23 (i64 (outs.map tI).length)) 24 (i64 x))) (fun (x:Nat)=>[.box 145 [bo false,bo false,bo false,i64 0,.nl,i64 0,i64 0]]) (fun (x:Nat)=>outs.length-x) (0) ?_ ?_ ?_
  ·exact ⟨fX _,fun j hj=>by omega⟩
  ·exact Wk.cq 1
  ·rintro x ⟨h2,h3⟩
   by_cases hx:x<outs.length
   ·obtain ⟨a,ha⟩ : ∃a,outs[x]? = some a:=⟨_,ZgE hx⟩
    have hg:outs.getD x 0=a:=by rw [fQ,ha];rfl
    have hao:=ho a (fO ha)
    by_cases hk:TE inn outs x
    ·have hk':=hk
     unfold TE at hk'
     rw [hg] at hk'
     have c1:=PI a hao
     rw [hk'.1] at c1
     have c2:=PR (outs.take x) a (by rw [fY];omega)
     rw [fZ hk'.2.2] at c2
     have hne:=hk'.2.1
     repeat' (first|refine Ai ?_|refine uS 11 (fun hb=>?_) (fun hb=>?_)|refine uS 16 (fun hb=>?_) (fun hb=>?_)|refine uS 32 (fun hb=>?_) (fun hb=>?_)|refine uS 37 (fun hb=>?_) (fun hb=>?_)|refine ZK2 (fun hc=>?_) (fun hc=>?_)|fail)
     all_goals try exact ZE5
     refine ⟨x+1,⟨by omega,fun j hj=>?_⟩,by omega,?_⟩
     ·by_cases e:j=x
      ·subst e;exact hk
      ·exact h3 j (by omega)
     ·exact Wk.cq 1
    ·have e:=hno fun h=>hk (h.2.2.2 x hx)
     subst e
     unfold TE at hk
     rw [hg] at hk
     have c1:=PI a hao
     have c2:=PR (outs.take x) a (by rw [fY];omega)
     cases hpa:JM a
     ·rw [hpa] at c1
      repeat' (first|refine Ai ?_|refine uS 11 (fun hb=>?_) (fun hb=>?_)|refine uS 16 (fun hb=>?_) (fun hb=>?_)|refine uS 32 (fun hb=>?_) (fun hb=>?_)|refine uS 37 (fun hb=>?_) (fun hb=>?_)|refine ZK2 (fun hc=>?_) (fun hc=>?_)|fail)
      all_goals exact D9 Tryz.results91
     ·rw [hpa] at c1
      by_cases hai:a=inn
      ·repeat' (first|refine Ai ?_|refine uS 11 (fun hb=>?_) (fun hb=>?_)|refine uS 16 (fun hb=>?_) (fun hb=>?_)|refine uS 32 (fun hb=>?_) (fun hb=>?_)|refine uS 37 (fun hb=>?_) (fun hb=>?_)|refine ZK2 (fun hc=>?_) (fun hc=>?_)|fail)
       all_goals exact D9 Tryz.results91
      ·have hin:a∈outs.take x:=Classical.byContradiction fun hin=>hk ⟨hpa,hai,hin⟩
       rw [fW hin] at c2
       repeat' (first|refine Ai ?_|refine uS 11 (fun hb=>?_) (fun hb=>?_)|refine uS 16 (fun hb=>?_) (fun hb=>?_)|refine uS 32 (fun hb=>?_) (fun hb=>?_)|refine uS 37 (fun hb=>?_) (fun hb=>?_)|refine ZK2 (fun hc=>?_) (fun hc=>?_)|fail)
       all_goals exact D9 Tryz.results91
   ·have e:x=outs.length:=by omega
    subst e
    have hb':b=true:=hbs.2 ⟨hpl,by omega,by omega,h3⟩
    subst hb'
    repeat' (first|(refine ZAL ?_;first|refine uA ?_|refine uK (AR outs hlen) ?_)|refine uC ?_|refine uS 11 (fun hb=>?_) (fun hb=>?_)|refine uS 16 (fun hb=>?_) (fun hb=>?_)|refine uS 32 (fun hb=>?_) (fun hb=>?_)|refine uS 37 (fun hb=>?_) (fun hb=>?_)|refine ZK2 (fun hc=>?_) (fun hc=>?_)|fail)
    all_goals first|(exfalso;omega)|((first|exact Fin.q Tryz.results91 (.cons (.agg rfl rfl ud145 rfl inf145 (us:=[_,_,_,_,_,_,_]) rfl rfl) (.cons (.tmp rfl) .nil)) [1]|refine Fin.q Tryz.results91 (.cons (.agg rfl rfl ud145 rfl inf145 (us:=[_,_,_,_,_,_,_]) rfl rfl) (.cons (.tmp rfl) .nil)) [1] (hr:=(.tupL (.cons (.t ?_) (.cons (.t ?_) .nil))))|refine Fin.mkv (rs:=_) Tryz.results91 (.cons (.agg rfl rfl ud145 rfl inf145 (us:=[_,_,_,_,_,_,_]) rfl rfl) (.cons (.tmp rfl) .nil)) [1] (by decide) rfl ?_ ?_ ?_<;>repeat' (first|exact ZE1|refine ZE2 ?_ ?_|refine ZE3 ?_|exact ZE4|fail)))
end
end Go.Proofs.YtccefppppedgkaaGreat
namespace Go.Proofs.YtccefppppedgkaaGreat
end Go.Proofs.YtccefppppedgkaaGreat
namespace Go.Proofs.YtccefppppedgkaaGreat
open Go.RowKit
theorem AoR {Kn:Nat→Nat→Prop} {ρ:Rho} {w:World} {Z Y:Nat→Prop} {els:List (List Tr)} {v:Value} (h:Val Kn ρ w Z Y (.ln els) v) (hz : ∀b,Y b→Z b):Val Kn ρ w Z Y (.t (.lst els)) v:=by
 cases h with
 |ln hr hz' hn he=>exact .t (Frz.shut hn hr (fun hne=>hz _ (hz' hne)) he)
def AxN:AV→AV
 |.ln els=>.t (.lst els)
 |x=>x
theorem AjH {Kn:Nat→Nat→Prop} {ρ:Rho} {w:World} {Z Y:Nat→Prop} {x:AV} {v:Value} (h:Val Kn ρ w Z Y x v) (hz : ∀b,Y b→Z b):Val Kn ρ w Z Y (AxN x) v:=by
 cases x<;>first|exact h|exact AoR h hz
theorem UL {Kn:Nat→Nat→Prop} {ρ:Rho} {w:World} {Z Y:Nat→Prop} {l:List AV} {v:Value} (h:Val Kn ρ w Z Y (.agg l) v) (hz : ∀b,Y b→Z b):Val Kn ρ w Z Y (.agg (l.map AxN)) v:=by
 cases h with
 |agg h1 ho hu =>
  refine .agg (by rw [fN];exact h1) ho (fun j x u hj hu'=>?_)
  rw [gP] at hj
  cases hy:l[j]? with
  |none=>rw [hy] at hj;cases hj
  |some y=>rw [hy] at hj;cases hj;exact AjH (hu j y u hy hu') hz
section
attribute [local irreducible] AL AW RG Fin C Cd Cio AI AF AO
abbrev fRq (q:AU):AV:=.agg [i64 q.kind,i64 q.arg,i64 q.value,bo q.dflt,.t (.lst (q.cases.map tCs))]
theorem AmZ (a b:List Int) (ha:a.length≤1152921504606846976):Cd Tryz.prog 217 [.ln (a.map tU),.ln (b.map tU)] (bo (decide (a=b))) []:=by
 have h1:(a.map tU).length=a.length:=fN _
 have h2:(b.map tU).length=b.length:=fN _
 refine ZEN Tryz.func217 Tryz.ntmps217 ?_
 repeat' (first|refine A0 ?_|refine ZK2 (fun hc=>?_) (fun hc=>?_)|fail)
 ·(first|exact A6 Tryz.results217|refine A5 Tryz.results217 ?_|refine A8 Tryz.results217 ?_ ?_ ?_<;>repeat' (first|exact ZE1|refine ZE2 ?_ ?_|refine ZE3 ?_|exact ZE4|fail))
  have:a≠b:=by rintro rfl;exact hc rfl
  simp [this]
 ·refine AW.loopP (fun (i:Nat)=>∀j,j<i→a.getD j 0=b.getD j 0) (fun (i:Nat)=>(pu (pu (pu (pu (pu (pu (fun _=>.any) 0 (.ln (a.map tU))) 1 (.ln (b.map tU))) 4 (.t (.v (.bool false)))) 12 (.ln (a.map tU))) 13 (i64 (a.map tU).length)) 14 (i64 i))) (fun (i:Nat)=>[]) (fun (i:Nat)=>a.length+1-i) (0) ?_ ?_ ?_
  ·intro j hj;omega
  ·exact Wk.cq 0
  ·intro i hi
   repeat' (first|refine A0 ?_|refine ZK2 (fun hc=>?_) (fun hc=>?_)|fail)
   ·(first|exact A6 Tryz.results217|refine A5 Tryz.results217 ?_|refine A8 Tryz.results217 ?_ ?_ ?_<;>repeat' (first|exact ZE1|refine ZE2 ?_ ?_|refine ZE3 ?_|exact ZE4|fail))
    have:a≠b:=by rintro rfl;exact hc rfl
    simp [this]
   ·refine ⟨i+1,fun j hj=>?_,by omega,?_⟩
    ·by_cases e:j=i
     ·subst e;exact (Decidable.not_not.1 hc).symm
     ·exact hi j (by omega)
    ·exact Wk.cq 0
   ·(first|exact A6 Tryz.results217|refine A5 Tryz.results217 ?_|refine A8 Tryz.results217 ?_ ?_ ?_<;>repeat' (first|exact ZE1|refine ZE2 ?_ ?_|refine ZE3 ?_|exact ZE4|fail))
    have:a=b:=j9_ (z:=0) (by omega) fun j hj=>hi j (by omega)
    simp [this]
def callC (q:AU) (ph:Int):List Int:=if BR q then HM q ph else []
theorem f3_ (q:AU) (ph:Int) (hl:q.cases.length≤1152921504606846976) (hp:0≤ph∧ph≤4294967295):Cd Tryz.prog 182 [aRq q,i64 ph] (fU (callC q ph)) []:=by
 unfold callC
 cases hq:BR q
 ·exact AhF q ph hl hq
 ·rw [fR rfl]
  cases hd:q.dflt
  ·rw [AkK hd];exact u2_ q ph hq hd hp
  ·exact AhG q ph hq hd hp
theorem AhX (h a b c:Int):(reqR h a b c).cases.length≤3:=by unfold reqR;simp;omega
theorem k6_ {h a b c p:Int} (hh:0≤h∧h≤18446744073709551615) (ha:0≤a∧a≤18446744073709551615) (hb:0≤b∧b≤18446744073709551615) (hc:0≤c∧c≤18446744073709551615) (hp:p≤4294967295) (h3:h/256%16≤3):decide (callC (reqR h a b c) p=[h,a,b,c,p])=KS h a b c p:=by
 have k:=VJ hh ha hb hc hp h3
 unfold callC
 cases hf:BR (reqR h a b c)
 ·rw [hf] at k
  simp only [iM,mH,false_iff] at k
  rw [fT (by simp)]
  simp [k]
 ·rw [hf] at k
  rw [fR rfl]
  simp only [true_and] at k
  cases hm:KS h a b c p
  ·exact fZ fun e=>by have:=k.1 e;rw [hm] at this;cases this
  ·exact fW (k.2 hm)
def AnP (h a b c p:Int):AU:=if KS h a b c p then reqR h a b c else ⟨0,0,0,false,[]⟩
def phC (h a b c p:Int):Int:=if KS h a b c p then p else 0
theorem AtE {h a b c p:Int} (hn : ¬(p≤4294967295∧h/256%16≤3)):KS h a b c p=false:=by
 unfold KS
 by_cases h1:p≤4294967295
 ·rw [fZ (p:=1≤h%256∧h%256≤9∧h/256%16≤3∧h/4096%16≤1) (by omega)];simp
 ·rw [fZ h1];simp
theorem BeP {h:Int} (h0:0≤h):h/256%16=((nR h:Nat):Int)∧nR h≤15:=by unfold nR;omega
theorem f5_ (h a b c p:Int) (hh:0≤h∧h≤18446744073709551615) (ha:0≤a∧a≤18446744073709551615) (hb:0≤b∧b≤18446744073709551615) (hc:0≤c∧c≤18446744073709551615) (hp:0≤p∧p≤18446744073709551615) :
  Cd Tryz.prog 174 [.ln ([h,a,b,c,p].map tU)] (.tup [fRq (AnP h a b c p),i64 (phC h a b c p),bo (KS h a b c p)]) []:=by
 obtain ⟨hn,hn15⟩:=BeP hh.1
 have x0:([h,a,b,c,p]:List Int)[0]? = some h:=rfl
 have x4:([h,a,b,c,p]:List Int)[4]? = some p:=rfl
 have hl:(([h,a,b,c,p]:List Int).map tU).length=5:=rfl
 have hl2:([h,a,b,c,p]:List Int).length=5:=rfl
 by_cases hk:p≤4294967295∧h/256%16≤3
 ·have cB:=k6_ hh ha hb hc hk.1 hk.2
  have cC:=f3_ (reqR h a b c) p (by have:=AhX h a b c;omega) ⟨hp.1,hk.1⟩
  have cS:=AmZ (callC (reqR h a b c) p) [h,a,b,c,p] (by unfold callC HM;split;simp [CW];exact fX _)
  rw [cB] at cS
  have h0 : ∀m,KS h a b c p=m→Cd Tryz.prog 174 [.ln ([h,a,b,c,p].map tU)] (if m then .tup [.agg [i64 (h%256),i64 (h/65536%65536),i64 (h/4294967296),bo (decide (h/4096%2=1)),.sl 0 0 (nR h)],i64 p,bo true] else .tup [fRq ⟨0,0,0,false,[]⟩,i64 0,bo false]) (if m then [.row 0 141 3 ((([a,b,c].take (nR h)).map DY).map tCs)] else []):=by
   intro m hm
   rw [hm] at cS
   have eL:List.take (Int.toNat (1+h/256%16)-1) (List.drop 1 ([h,a,b,c,p]:List Int))=[a,b,c].take (nR h):=by
    rw [show Int.toNat (1+h/256%16)-1=nR h by omega]
    have:nR h=0∨nR h=1∨nR h=2∨nR h=3:=by omega
    rcases this with e|e|e|e<;>rw [e]<;>rfl
   have lL:([a,b,c].take (nR h)).length=nR h:=by rw [fY];simp only [gF,gI];omega
   have lM:(([a,b,c].take (nR h)).map tU).length=nR h:=by rw [fN,lL]
   have lw : ∀w∈[a,b,c].take (nR h),0≤w∧w≤18446744073709551615:=fun w hw=>by
    have:=iQ hw
    simp only [iH,lO,or_false] at this
    rcases this with rfl|rfl|rfl<;>assumption
   have eR:reqR h a b c=⟨h%256,h/65536%65536,h/4294967296,decide (h/4096%2=1),([a,b,c].take (nR h)).map DY⟩:=rfl
   generalize hcl:callC (reqR h a b c) p=cl at *
   rw [eR] at cC
   dsimp only [aRq] at cC
   generalize [a,b,c].take (nR h)=L at *
   generalize hD:([h,a,b,c,p]:List Int)=D at *
   clear hm cB hcl hD ha hb hc
   refine ZEN Tryz.func174 Tryz.ntmps174 ?_
   repeat' (first|refine Fs ?_|refine uS 42 (fun hb=>?_) (fun hb=>?_)|refine ZK2 (fun hc=>?_) (fun hc=>?_)|fail)
   all_goals try exact ZE5
   rw [eL]
   refine AW.wk (Wk.ownB 1 4 rfl rfl 141 3 (.push rfl rfl) rfl) ?_
   refine AW.loopP (fun (i:Nat)=>i≤nR h) (fun (i:Nat)=>(pu (pu (pu (pu (pu (pu (pu (fun _=>.any) 0 (.ln (D.map tU))) 2 (.ptr 0 0)) 6 (.ptr 1 0)) 8 (u64 p)) 50 (.ln (L.map tU))) 51 (i64 (L.map tU).length)) 52 (i64 i))) (fun (i:Nat)=>[.box 32 [i64 0,i64 0,i64 0,bo false,.nl],.box 32 [i64 (h%256),i64 (h/65536%65536),i64 (h/4294967296),bo (decide (h/4096%2=1)),.sl 2 i i],.row i 141 3 (((L.take i).map DY).map tCs)]) (fun (i:Nat)=>nR h-i) (0) ?_ ?_ ?_
   ·exact fX _
   ·exact Wk.cq 3
   ·intro i hi
    by_cases hi2:i<nR h
    ·obtain ⟨w,hw⟩ : ∃w,L[i]? = some w:=⟨_,ZgE (by omega)⟩
     have hwb:=lw w (fO hw)
     have hs:(L.take (i+1)).map DY=(L.take i).map DY++[DY w]:=by rw [iB,hw];simp
     have hM:((L.take i).map DY).length=i:=by rw [fN,fY];omega
     rw [show DY w=⟨w%256,w/256%65536,w/4294967296⟩ from rfl] at hs
     generalize (L.take i).map DY=M at *
     have hM2:(M.map tCs).length=i:=by rw [fN,hM]
     clear eL x0 x4 hk hh hn
     repeat' (first|refine Fs ?_|refine uS 42 (fun hb=>?_) (fun hb=>?_)|refine ZK2 (fun hc=>?_) (fun hc=>?_)|fail)
     all_goals try exact ZE5
     refine ⟨i+1,by omega,by omega,?_⟩
     rw [hs]
     exact Wk.cq 3
    ·have e:L.take i=L:=jE (by omega)
     have e2:i=nR h:=by omega
     have hM2:((L.map DY).map tCs).length=nR h:=by rw [fN,fN,lL]
     have hM:(L.map DY).length=nR h:=by rw [fN,lL]
     rw [e,e2]
     generalize L.map DY=M at *
     clear eL x0 x4 e e2 hi hi2 lw
     cases m
     ·repeat' (first|(refine ZAL ?_;first|(refine kL 1038 rfl ?_;first|(refine zkD 80 rfl ?_;refine uA ?_;(try refine uz 80 ?_)))|refine Cw ?_|refine Cx ?_|refine Cz ?_|refine uA ?_|refine uK (cC) ?_|refine uK (cS) ?_)|(refine ZRG ?_;first|refine D1 ?_|refine uR ?_)|refine uC ?_|refine AW.drawU (id:=5) mixed 0 qR ?_|refine uS 42 (fun hb=>?_) (fun hb=>?_)|refine ZK2 (fun hc=>?_) (fun hc=>?_)|fail)
      all_goals first|(exfalso;omega)|((first|exact Fin.q Tryz.results174 (.cons (.agg rfl rfl ud32 rfl inf32 (us:=[_,_,_,_,_]) rfl rfl) (.cons (.tmp rfl) (.cons (.tmp rfl) .nil))) []|refine Fin.q Tryz.results174 (.cons (.agg rfl rfl ud32 rfl inf32 (us:=[_,_,_,_,_]) rfl rfl) (.cons (.tmp rfl) (.cons (.tmp rfl) .nil))) [] (hr:=(.tupL (.cons (.t ?_) (.cons (.t ?_) (.cons (.t ?_) .nil)))))|refine Fin.mkv (rs:=_) Tryz.results174 (.cons (.agg rfl rfl ud32 rfl inf32 (us:=[_,_,_,_,_]) rfl rfl) (.cons (.tmp rfl) (.cons (.tmp rfl) .nil))) [] (by decide) rfl ?_ ?_ ?_<;>repeat' (first|exact ZE1|refine ZE2 ?_ ?_|refine ZE3 ?_|exact ZE4|fail)))
     ·repeat' (first|(refine ZAL ?_;first|refine Cw ?_|refine Cx ?_|refine Cz ?_|refine uA ?_|refine uK (cC) ?_|refine uK (cS) ?_)|(refine ZRG ?_;first|refine D1 ?_|refine uR ?_)|refine uC ?_|refine AW.drawU (id:=5) mixed 0 qR ?_|refine uS 42 (fun hb=>?_) (fun hb=>?_)|refine ZK2 (fun hc=>?_) (fun hc=>?_)|fail)
      all_goals first|(exfalso;omega)|((first|exact Fin.q Tryz.results174 (.cons (.agg rfl rfl ud32 rfl inf32 (us:=[_,_,_,_,_]) rfl rfl) (.cons (.tmp rfl) (.cons (.tmp rfl) .nil))) [2]|refine Fin.q Tryz.results174 (.cons (.agg rfl rfl ud32 rfl inf32 (us:=[_,_,_,_,_]) rfl rfl) (.cons (.tmp rfl) (.cons (.tmp rfl) .nil))) [2] (hr:=(.tupL (.cons (.t ?_) (.cons (.t ?_) (.cons (.t ?_) .nil)))))|refine Fin.mkv (rs:=_) Tryz.results174 (.cons (.agg rfl rfl ud32 rfl inf32 (us:=[_,_,_,_,_]) rfl rfl) (.cons (.tmp rfl) (.cons (.tmp rfl) .nil))) [2] (by decide) rfl ?_ ?_ ?_<;>repeat' (first|exact ZE1|refine ZE2 ?_ ?_|refine ZE3 ?_|exact ZE4|fail)))
  unfold AnP phC
  cases hm:KS h a b c p
  ·have h1:=h0 false hm
   simp only [iM,jL] at h1 ⊢
   exact h1
  ·have h1:=h0 true hm
   simp only [jU] at h1 ⊢
   have e:(([a,b,c].take (nR h)).map DY).length=nR h:=by rw [fN,fY];simp only [gF,gI];omega
   rw [show reqR h a b c=⟨h%256,h/65536%65536,h/4294967296,decide (h/4096%2=1),([a,b,c].take (nR h)).map DY⟩ from rfl]
   generalize ([a,b,c].take (nR h)).map DY=M at *
   rw [←e] at h1
   have h1':=Cd.frz h1 0 rfl aB rfl;exact Cd.drop h1' rfl
 ·have hm:=AtE (a:=a) (b:=b) (c:=c) hk
  unfold AnP phC
  rw [hm,fT (by simp),fT (by simp)]
  generalize hD:([h,a,b,c,p]:List Int)=D at *
  clear hD hm
  by_cases h1:h/256%16≤3
  all_goals
   refine ZEN Tryz.func174 Tryz.ntmps174 ?_
   repeat' (first|(refine ZAL ?_;first|(refine kL 1038 rfl ?_;first|(refine zkD 14 rfl ?_;refine uA ?_;(try refine uz 14 ?_))|(refine zkD 46 rfl ?_;refine uA ?_;(try refine uz 46 ?_))|(refine zkD 80 rfl ?_;refine uA ?_;(try refine uz 80 ?_)))|refine Cw ?_|refine Cx ?_|refine Cz ?_|refine uA ?_)|(refine ZRG ?_;first|refine D1 ?_|refine uR ?_)|refine uC ?_|refine AW.drawU (id:=5) mixed 0 qR ?_|refine uS 42 (fun hb=>?_) (fun hb=>?_)|refine ZK2 (fun hc=>?_) (fun hc=>?_)|fail)
   all_goals first|(exfalso;omega)|((first|exact Fin.q Tryz.results174 (.cons (.agg rfl rfl ud32 rfl inf32 (us:=[_,_,_,_,_]) rfl rfl) (.cons (.tmp rfl) (.cons (.tmp rfl) .nil))) []|refine Fin.q Tryz.results174 (.cons (.agg rfl rfl ud32 rfl inf32 (us:=[_,_,_,_,_]) rfl rfl) (.cons (.tmp rfl) (.cons (.tmp rfl) .nil))) [] (hr:=(.tupL (.cons (.t ?_) (.cons (.t ?_) (.cons (.t ?_) .nil)))))|refine Fin.mkv (rs:=_) Tryz.results174 (.cons (.agg rfl rfl ud32 rfl inf32 (us:=[_,_,_,_,_]) rfl rfl) (.cons (.tmp rfl) (.cons (.tmp rfl) .nil))) [] (by decide) rfl ?_ ?_ ?_<;>repeat' (first|exact ZE1|refine ZE2 ?_ ?_|refine ZE3 ?_|exact ZE4|fail)))
theorem Fin.cl {P:Program} {n:Fr} {T:Nat→AV} {fn:Func} {rs:List ResultVar} (hrs:fn.results=rs.toArray) {els:List (List Tr)} (hx:XG P n T [] rs [.cl els]):Fin P fn (fun r L=>r = .cl els∧L=[]) n T []:=by
 unfold Fin
 rintro e a w ⟨ρ,Z,Y,hR⟩
 obtain ⟨vs,q1,q2⟩:=hx.run hR
 have hres:(results fn a.tmps).run P w = .ok (match vs with| [v]=>v|l=>.tuple l.toArray) w:=by
  rw [LP,hrs]
  have hm:((rs.toArray).mapM (KZ a.tmps)).run P w = .ok vs.toArray w:=by
   rw [List.mapM_toArray]
   simp only [nF,Sem.run_bind,q1,Result.andThen_ok,Sem.run_pure]
  simp only [Sem.run_bind,hm,Result.andThen_ok]
  match vs with
  | []=>rfl
  | [v]=>rfl
  |v::u::l=>simp
 refine ⟨_,_,_,ρ,Z,Y,hres,⟨rfl,rfl⟩,hR.ok,?_⟩
 match vs,q2 with
 | [],h2=>have:=h2.len;simp at this
 | [v],h2=>exact h2.at_ 0 _ v rfl rfl
 |_::_::_,h2=>have:=h2.len;simp at this
theorem XN (l:List Int):Cd Tryz.prog 168 [.t (.lst (l.map tU))] (.cl (l.map tU)) []:=by
 refine ZEN Tryz.func168 Tryz.ntmps168 ?_
 repeat' (first|refine A0 ?_|refine ZK2 (fun hc=>?_) (fun hc=>?_)|fail)
 all_goals first|(exfalso;omega)|exact Fin.cl Tryz.results168 (.cons (.tmp rfl) .nil)
theorem AdT (l:List DOp):Cd Tryz.prog 175 [.t (.lst (l.map tOp))] (.cl (l.map tOp)) []:=by
 refine ZEN Tryz.func175 Tryz.ntmps175 ?_
 repeat' (first|refine A0 ?_|refine ZK2 (fun hc=>?_) (fun hc=>?_)|fail)
 all_goals first|(exfalso;omega)|exact Fin.cl Tryz.results175 (.cons (.tmp rfl) .nil)
end
end Go.Proofs.YtccefppppedgkaaGreat
