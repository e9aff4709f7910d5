/- Joined: XTCopy, XTArrV, XTMap, XTClip. -/
import Derived.Test.YtccefppppedgkaaGreatKHe
import Derived.Laws.IdiomCopy
import Derived.Laws.CopyRow
set_option linter.unusedVariables false
set_option linter.unusedSimpArgs false
set_option linter.unnecessarySimpa false
set_option maxRecDepth 100000
set_option maxHeartbeats 64000000
namespace Go.Proofs.YtccefppppedgkaaGreat
open Go.RowKit
section
section
variable {P:Program} {w:World}
theorem YY {dT sT ty e E:TypeId} (hu:P.underlying dT=some (.slice e)) (hI:(P.info? e).map (·.size)=some 1) {sa:Option Addr} {n c:Nat} {xs:List Value} (hown:(Res.row sa n c E 1 xs).holds 0 w) {off q cq:Nat} (hoq:off+q≤n)
  {da:Option Addr} (hda:q≠0→da=some ((adr sa).add off)) {xa:Option Addr} {xc:Nat} {ys:List Value} (hr:Rs w 1 xa ys.length xc ys) (h1 : ∀u∈ys,u.oneCell'=true) (hle:ys.length≤q) :
  ∃w',(Builtin.copy_ #[dT,sT] ty #[.slice da q cq,.slice xa ys.length xc]).run P w = .ok (goInt ys.length) w'∧(Res.row sa n c E 1 (xs.take off++ys++xs.drop (off+ys.length))).holds 0 w'∧w.grownBy w' (if c=0 then none else sa.map (·.block)):=by
 by_cases hy:ys=[]
 ·subst hy
  refine ⟨w,run_copy_none w dT sT ty e da xa q cq 0 xc hu hI (Nat.zero_min q),?_,⟨rfl,rfl,rfl,fV _,fun _ _ _=>rfl⟩⟩
  simpa using hown
 have hpos:0<ys.length:=lI.2 hy
 rcases hown with ⟨_,hn0,_⟩|⟨hcp,hown⟩
 ·omega
 have hc0:c≠0:=by omega
 rcases hown.2 with ⟨he,hn0⟩|⟨g,cap,cur,he,hbg,hg,hnc,hcm,hcs,htake⟩
 ·omega
 simp only [Value.slice.injEq] at he
 obtain ⟨rfl,_,rfl⟩:=he
 have hsz:n*1≤cur.size:=by rw [hcs];exact iE _ hnc
 have hxl:=hown.1
 have hst:=run_storeCells_at P g off E ys 0 cur w hg (by omega) h1
 simp only [iT] at hst
 have hadd:(adr (some ⟨g,0,none⟩)).add off=⟨g,off,none⟩:=by
  show (⟨g,0,none⟩:Addr).add off=_
  rw [OA];simp
 rw [hadd] at hda
 obtain rfl:=hda (by omega)
 have hxa : ∃a,xa=some a:=by
  cases xa with
  |none=>have:=(hr.none rfl).1;omega
  |some a=>exact ⟨a,rfl⟩
 obtain ⟨a,rfl⟩:=hxa
 have hld:=run_loadCells_list (P:=P) (w:=w) a ys (fun j u hj=>hr.cells j u hj)
 have hxs:xs=cur.toList.take (n*1):=htake.symm
 have hrow:(w.setRow g (cur.toList.take off++ys++cur.toList.drop (off+ys.length)).toArray).ownsRow 0 E 1 (.slice (some ⟨g,0,none⟩) n c) n (xs.take off++ys++xs.drop (off+ys.length)):=by
  refine ⟨by simp only [fP,fY,gJ];omega,.inr ⟨g,c,_,rfl,hbg,setRow_heap w g cur _ E _ hg,hnc,hcm,?_,?_⟩⟩
  ·simp only [kZ,fP,fY,gJ,mA]
   omega
  ·rw [hxs]
   apply iO
   intro i
   simp only [gN,List.getElem?_append,fP,fY,gK,mA]
   have e1:min off cur.size=off:=by omega
   have e2:min off (min (n*1) cur.size)=off:=by omega
   rw [e1,e2]
   repeat' split
   all_goals first|rfl|(exfalso;omega)|(congr 1;omega)
 refine ⟨w.setRow g (cur.toList.take off++ys++cur.toList.drop (off+ys.length)).toArray,?_,.inr ⟨hcp,hrow⟩,⟨rfl,rfl,rfl,by simp,fun k _ hk=>setRow_other w g k _ (fun e=>hk (by simp [e,hc0]))⟩⟩
 have hmin:Nat.min ys.length q=ys.length:=kQ hle
 cases hq:P.info? e with
 |none=>simp [hq] at hI
 |some i =>
  have hi:i.size=1:=by simpa [hq] using hI
  simp [Builtin.copy_,run_underlying hu,Builtin.lenOf,Builtin.firstCells,sizeOf,typeInfo,hq,hi,hmin,hld,hst]
end
variable {e t yt:TypeId} {m:Nat}
section
variable {P:Program} {ops:Array Oper} {Q:QS} {rest:List Oper} {o:Oper} {n:Fr} {T:Nat→AV} {heap:List Ob} {d:Nat}
theorem AqU (hw:AD n T ops o=true) (hd:o.dst=some d) {s x:Operand} {t t2:TypeId} (ho:o.op = .call { callee:=.builtin .copy,args := #[s,x],argTypes := #[t,t2]}) (ht:P.underlying t=some (.slice e)) {z:Option Value} {bytes:Nat} (hI:(P.info? e).map (fun i=>(i.zero,i.size,i.bytes))=some (z,1,bytes))
  {i k' off m:Nat} (hs:evA n T s = .sub i k' off m) {E:TypeId} {els:List (List Tr)} (hi:heap[i]? = some (.row k' E 1 els)) (hm:off+m≤els.length) {news:List (List Tr)} (hx:Rd heap 1 (evA n T x) news) (hle:news.length≤m)
  {els':List (List Tr)} (he:els.take off++news++els.drop (off+news.length)=els') {heap':List Ob} (hh:heap.set i (.row k' E 1 els')=heap') {q:Nat} (hq:news.length=q) (k:AL P ops Q rest n (pu T d (.t (.v (.int .i64 (q:Int))))) heap'):AL P ops Q (o::rest) n T heap:=by
 subst he hh hq
 refine AL.act hw hd (fun en a w ρ Z Y hR=>?_) k
 have hsz:(P.info? e).map (·.size)=some 1:=by
  cases hq:P.info? e with
  |none=>rw [hq] at hI;simp at hI
  |some i=>rw [hq] at hI;simp at hI;simp [hI.2.1]
 have hrep:=hR.ok.rep
 obtain ⟨h1,xs,h2,h3,h4⟩:=hrep.row hi
 obtain ⟨xa,xc,ys,g1,g2,g3⟩:=hx.open hrep (hR.eval x)
 have hyl:ys.length=news.length:=by have:=g3.len;omega
 have hv:=hR.eval s
 rw [hs] at hv
 generalize hax:a.eval s=vx at hv
 cases hv with
 |sub hk hn hmx h0 ha =>
 rename_i da cq
 rw [h1] at ha
 obtain ⟨w',r1,r2,r3⟩:=YY (P:=P) (sT:=t2) (ty:=o.type) (cq:=cq) ht hsz h3 hm (fun hq=>by simpa using ha hq) (by rw [hyl];exact g2) g3.one (by omega)
 have hblk:(Ob.row k' E 1 els).blk ρ i=(if (ρ i k').c=0 then none else (ρ i k').a.map (·.block)):=rfl
 have hsame : ∀b',b'<w.heap.size→(Ob.row k' E 1 els).blk ρ i≠some b'→w'.heap[b']? = w.heap[b']? := fun b' hb' hne=>r3.block b' hb' (fun e=>hne (by rw [hblk,e]))
 have hz : ∀b,Z b→Z b∧w'.heap[b]? = w.heap[b]? := fun b hb=>⟨hb,hsame b (hrep.ylt b (hrep.zy b hb)) (hrep.notin hi (hrep.zy b hb))⟩
 have hval : ∀x v,Val (Kn heap) ρ w Z Y x v→Val (Kn (heap.set i (.row k' E 1 (els.take off++news++els.drop (off+news.length))))) ρ w' Z Y x v:=fun x v hv =>
  hrep.val (fun j k hj=>⟨hj.set hi (by exact fV _),rfl⟩) (fun _ h=>h) (fun b' hb'=>⟨hb',hsame b' (hrep.ylt b' hb') (hrep.notin hi hb')⟩) hv
 have hlen:(els.take off++news++els.drop (off+news.length)).length=els.length:=by simp only [fP,fY,gJ];omega
 have hel:BM (Frz w' Z) 1 (els.take off++news++els.drop (off+news.length)) (xs.take off++ys++xs.drop (off+ys.length)):=by
  have e1:=((h2.take off).append g3).append (h2.drop (off+news.length))
  rw [Nat.mul_one,Nat.mul_one, ←hyl] at e1
  rw [←hyl]
  exact e1.mono fun _ _ h=>h.mono hz
 refine ⟨.int .i64 (news.length:Int),w',ρ,Z,Y,?_,hR.ok.turn hi (fV _) (fun _ _ _=>rfl) ⟨r3.os,r3.tape,r3.output⟩ r3.size hsame ⟨h1,_,hel,by rw [hlen];exact r2⟩ (fun b' hb'=>.inl hb'),hval,.t (.v rfl)⟩
 unfold execOp
 rw [hyl] at r1
 simp only [ho,resolve,invoke,builtin,Sem.run_bind,Sem.run_pure,Result.andThen_ok,lK,gO,gX,hax,g1,r1,goInt]
def HC:AV→Option Bool
 |.ptr _ _=>some false
 |.rp _ _ _ _=>some false
 |.lp _=>some false
 |.t (.v (.pointer none))=>some true
 |_=>none
theorem c6_ {Kn:Nat→Nat→Prop} {ρ:Rho} {w:World} {Z Y:Nat→Prop} {x:AV} {b:Bool} (h:HC x=some b) {v:Value} (hv:Val Kn ρ w Z Y x v) : ∃p,v = .pointer p∧p.isNone=b:=by
 cases hv with
 |ptr hk ha=>simp [HC] at h;exact ⟨_,rfl,h▸rfl⟩
 |rp hk=>simp [HC] at h;exact ⟨_,rfl,h▸rfl⟩
 |lp=>simp [HC] at h;exact ⟨_,rfl,h▸rfl⟩
 | t h'=>cases h' with
  |v hx =>
   cases v<;>simp [HC] at h
   rename_i p
   cases p<;>simp [HC] at h
   exact ⟨none,rfl,h▸rfl⟩
  |lst=>simp [HC] at h
 |_=>simp [HC] at h
theorem AaG {P:Program} {op:BinOp} {xt:TypeId} {x y:Operand} {a b:Option Addr} {w:World}:(eqGuard op xt x y (.pointer a) (.pointer b)).run P w = .ok () w:=by
 unfold eqGuard
 cases op<;>simp
theorem YZ {P:Program} (ht:P.underlying t=some (.pointer e)) (p:Option Addr) (w:World) (d:Nat):(Op.equalIn (d+1) t (.pointer p) (.pointer none)).run P w = .ok p.isNone w:=by
 cases p<;>simp [Op.equalIn,run_underlying ht,Result.andThen]
theorem QD {P:Program} (ht:P.underlying t=some (.pointer e)) (p:Option Addr) (w:World):(Op.equal t (.pointer p) (.pointer none)).run P w = .ok p.isNone w:=YZ ht p w 9999
theorem AcL (hw:AD n T ops o=true) (hd:o.dst=some d) {op:BinOp} {x:Operand} (ho:o.op = .binOp op t x (.const (.pointer none)) yt) (ht:P.underlying t=some (.pointer e)) {b:Bool} (hx:HC (evA n T x)=some b) {c:Bool} (hc:(op = .eql∧b=c)∨(op = .neq∧(!b)=c))
  (k:AL P ops Q rest n (pu T d (.t (.v (.bool c)))) heap):AL P ops Q (o::rest) n T heap:=by
 refine AL.val hw hd (fun en a w ρ Z Y hR=>?_) k
 obtain ⟨p,h1,h2⟩:=c6_ hx (hR.eval x)
 refine ⟨.bool c,?_,.t (.v rfl)⟩
 refine BU (s:=do eqGuard op t x (.const (.pointer none)) (a.eval x) (a.eval (.const (.pointer none)));binOp op t (a.eval x) (a.eval (.const (.pointer none)))) bD ?_
 rw [h1]
 show (do eqGuard op t x (.const (.pointer none)) (.pointer p) (.pointer none);binOp op t (.pointer p) (.pointer none):Sem Value).run P w=_
 simp only [Sem.run_bind,AaG,Result.andThen_ok]
 rcases hc with ⟨rfl,rfl⟩|⟨rfl,rfl⟩
 ·simp only [binOp,Sem.run_bind,QD ht,Result.andThen_ok,Sem.run_pure,h2]
 ·simp only [binOp,Sem.run_bind,QD ht,Result.andThen_ok,Sem.run_pure,h2]
theorem AmS {Kn:Nat→Nat→Prop} {ρ:Rho} {w:World} {Z Y:Nat→Prop} {x:AV} {m c:Nat} (hx:YB x=some m) (hv:Val Kn ρ w Z Y x (.slice none m c)):m=0:=by
 generalize hq:Value.slice none m c=q at hv
 cases hv<;>simp [YB] at hx
 ·rename_i x h'
  cases x with
  |v=>cases hx
  |lst els =>
   obtain ⟨a',c',s',xs,e1,h2,_,_⟩:=h'.open
   rw [←hq] at e1
   simp only [Value.slice.injEq] at e1
   obtain ⟨rfl,e2,rfl⟩:=e1
   rw [e2];exact (h2.none rfl).1
 ·omega
 ·rename_i hr hz hn he
  simp only [Value.slice.injEq] at hq
  obtain ⟨rfl,rfl,rfl⟩:=hq
  exact (hr.none rfl).1
 ·rename_i i k' hk hc h0
  simp only [Value.slice.injEq] at hq
  have:=h0 hq.1.symm
  omega
 ·rename_i hn hmx h0 ha
  simp only [Value.slice.injEq] at hq
  obtain ⟨rfl,rfl,rfl⟩:=hq
  exact (h0 rfl).1
theorem AqX (hw:AD n T ops o=true) (hd:o.dst=some d) {op:BinOp} {x:Operand} {n' c':Nat} (ho:o.op = .binOp op t x (.const (.slice none n' c')) yt) (ht:P.underlying t=some (.slice e)) (hx:YB (evA n T x)=some m) (hm:0<m) {c:Bool} (hc:(op = .eql∧c=false)∨(op = .neq∧c=true))
  (k:AL P ops Q rest n (pu T d (.t (.v (.bool c)))) heap):AL P ops Q (o::rest) n T heap:=by
 refine AL.val hw hd (fun en a w ρ Z Y hR=>?_) k
 obtain ⟨sa,c2,h1⟩:=OK hx (hR.eval x)
 have hsa:sa.isNone=false:=by
  cases sa with
  |some a=>rfl
  |none=>have hv:=hR.eval x;rw [h1] at hv;have:=AmS hx hv;omega
 refine ⟨.bool c,?_,.t (.v rfl)⟩
 refine BU (s:=do eqGuard op t x (.const (.slice none n' c')) (a.eval x) (a.eval (.const (.slice none n' c')));binOp op t (a.eval x) (a.eval (.const (.slice none n' c')))) bD ?_
 rw [h1]
 show (do eqGuard op t x (.const (.slice none n' c')) (.slice sa m c2) (.slice none n' c');binOp op t (.slice sa m c2) (.slice none n' c'):Sem Value).run P w=_
 simp only [Sem.run_bind,PX,Result.andThen_ok]
 rcases hc with ⟨rfl,rfl⟩|⟨rfl,rfl⟩
 ·rw [Lib.run_eql_slice_nil w t e sa m c2 n' c' ht,hsa]
 ·rw [run_neq_slice_nil_any w t e sa m c2 n' c' ht,hsa];rfl
theorem ArE {F:List Dl→(Nat→AV)→List Ob→Prop} {acc:List Dl} (hw:AD n T ops o=true) (hd:o.dst=some d) {op:BinOp} {x:Operand} (ho:o.op = .binOp op t x (.const (.pointer none)) yt) (ht:P.underlying t=some (.pointer e)) {b:Bool} (hx:HC (evA n T x)=some b) {c:Bool} (hc:(op = .eql∧b=c)∨(op = .neq∧(!b)=c)) (k:RG P ops n F rest (acc++[⟨some d,.t (.v (.bool c)),[],[]⟩]) (pu T d (.t (.v (.bool c)))) heap):RG P ops n F (o::rest) acc T heap :=
 RG.cons hd.symm (fun T' h' hT hH hlen_=>AcL aM hd ho ht dC hc (AL.nil ⟨rfl,rfl,rfl⟩)) rfl rfl k
end
end
section
section
variable {P:Program} {ops:Array Oper} {Q:QS} {rest:List Oper} {o:Oper} {n:Fr} {T:Nat→AV} {heap:List Ob} {d:Nat}
end
end
section
section
variable {P:Program} {w:World}
end
section
variable {P:Program} {ops:Array Oper} {Q:QS} {rest:List Oper} {o:Oper} {n:Fr} {T:Nat→AV} {heap:List Ob} {d:Nat}
end
end
section
variable {e:TypeId} {size bytes m N m':Nat} {els news els':List (List Tr)} {heap':List Ob}
section
variable {P:Program} {ops:Array Oper} {Q:QS} {rest:List Oper} {o:Oper} {n:Fr} {T:Nat→AV} {heap:List Ob} {d:Nat}
theorem QL (t ot:TypeId) (ht:P.underlying t=some (.slice e)) {inf:TypeInfo} (hin:P.info? e=some inf) {z:Value} (hz:inf.zero=some z) (hzs:z.cells.size=inf.size)
  {w:World} {sa:Option Addr} {n:Nat} {xs:List Value} (hrs:Rs w inf.size sa n n xs)
  (xa:Option Addr) (m xc:Nat) {news:List Value} (hr:Rs w inf.size xa m xc news) (hm:0<m) (b1:n+m≤maxLen) (b2:(n+m)*inf.bytes≤140737488355328) :
  ∃a' c' w',(Builtin.append_ #[t,t] ot #[.slice sa n n,.slice xa m xc]).run P w = .ok (.slice a' (n+m) c') w'∧(Res.row a' (n+m) c' e inf.size (xs++news)).holds 0 w'∧w.grownBy w' none ∧
   (∀k,(Res.row a' (n+m) c' e inf.size (xs++news)).blk=some k→w.heap.size≤k∧k<w'.heap.size):=by
 have hlen:(xs++news).length=(n+m)*inf.size:=by rw [fP,hrs.len,hr.len,mW]
 have hsmall:n+m≤9223372036854775807:=by simp only [maxLen] at b1;omega
 cases xa with
 |none=>exact absurd (hr.none rfl).1 (by omega)
 | some ax =>
  have hnews : ∀j u,news[j]? = some u→w.cell? (ax.add j)=some u:=hr.cells
  have grown : ∀(old:Nat),old<n+m → ∀(row:Option Nat),
    (Res.row (some ⟨w.heap.size,0,none⟩) (n+m) (grownCap w (n+m) old e) e inf.size (xs++news)).holds 0 (w.drew.alloc (.cells (xs.toArray++news.toArray++Builtin.zeroCells z.cells (grownCap w (n+m) old e-(n+m))) e)) ∧
    w.grownBy (w.drew.alloc (.cells (xs.toArray++news.toArray++Builtin.zeroCells z.cells (grownCap w (n+m) old e-(n+m))) e)) row:=by
   intro old ho row
   have hge:=grownCap_ge w (n+m) old e
   have hcm:grownCap w (n+m) old e≤maxLen:=grownCap_le_maxLen w (n+m) old e b1
   refine ⟨.inr ⟨by omega,hlen,.inr ⟨w.heap.size,_,_,rfl,fX _,heap_alloc_new w.drew _,hge,hcm,?_,?_⟩⟩,⟨rfl,rfl,rfl,by simp,fun k hk _=>heap_alloc_old w.drew _ hk⟩⟩
   ·simp only [Array.size_append,kZ,size_zeroCells,hzs,hrs.len,hr.len, ←mW]
    congr 1
    omega
   ·simp only [lH,gC]
    rw [←gC, ←hlen]
    exact lP
  have fresh : ∀(o:Obj) (nn cc:Nat) (yy:List Value) (k:Nat),(Res.row (some ⟨w.heap.size,0,none⟩) nn cc e inf.size yy).blk=some k→w.heap.size≤k∧k<(w.drew.alloc o).heap.size:=by
   intro o nn cc yy k hk
   simp [Res.blk] at hk
   obtain ⟨_,hk⟩:=hk
   subst hk
   exact ⟨fV _,by simp⟩
  cases sa with
  |none =>
   obtain ⟨rfl, -⟩:=hrs.none rfl
   have hxs:xs=[]:=iA (by simpa using hrs.len)
   subst hxs
   have hrun:=run_append_nil (P:=P) w t ot e inf z ht hin hz ax m xc news hr.len hnews (by omega) (by omega) (by have hb:=b2;simp only [gV] at hb;omega)
   have hgr:=grown 0 (by omega) none
   simp only [gV,gU,Array.empty_append] at hgr ⊢
   exact ⟨_,_,_,hrun,hgr.1,hgr.2,fun k hk=>fresh _ _ _ _ k hk⟩
  |some ab =>
   have hrun:=run_append_grow (P:=P) w t ot e inf z ht hin hz ab n n xs hrs.len hrs.cells ax m xc news hr.len hnews (by omega) (by omega) (growslice_fits (by omega) b2)
   have hgr:=grown n (by omega) none
   exact ⟨_,_,_,hrun,hgr.1,hgr.2,fun k hk=>fresh _ _ _ _ k hk⟩
theorem ZL (hw:AD n T ops o=true) (hd:o.dst=some d) {s x:Operand} {t:TypeId} (ho:o.op = .call { callee:=.builtin .append,args := #[s,x],argTypes := #[t,t]})
  (ht:P.underlying t=some (.slice e)) (hI : ∃z b,(P.info? e).map (fun i=>(i.zero,i.size,i.bytes))=some (some z,size,b)∧z.cells.size=size∧b=bytes)
  (hs:evA n T s = .cl els) (hl:els.length=m) (hz : ∀cs∈els,cs.length=size) (hx:Rd heap size (evA n T x) news) (h0:0<news.length) (b1:m+news.length≤maxLen) (b2:(m+news.length)*bytes≤140737488355328) (he:els++news=els')
  (hat:AtL heap N [.row 0 e size els'] heap') (hm':m+news.length=m') (k:AL P ops Q rest n (pu T d (.sl N 0 m')) heap'):AL P ops Q (o::rest) n T heap:=by
 subst hm' he hl
 obtain ⟨z,b,hI,hzs,rfl⟩:=hI
 refine AL.act hw hd (fun en a w ρ Z Y hR=>?_) k
 obtain ⟨inf,hin,hzz,hsz,hby⟩:=FU hI
 subst hsz hby
 have hrep:=hR.ok.rep
 obtain ⟨xa,xc,ys,g1,g2,g3⟩:=hx.open hrep (hR.eval x)
 have hv:=hR.eval s
 rw [hs] at hv
 generalize hax:a.eval s=vx at hv
 cases hv with
 | @cl _ sa n0 sz xs hr hzb hn hel =>
 subst hn
 obtain ⟨q1,q2⟩:=YT hz hr hel
 obtain ⟨a',c',w',r1,r2,r3,r4⟩:=QL (P:=P) t o.type ht hin hzz hzs q1 xa news.length xc g2 h0 b1 b2
 have hsame : ∀b,b<w.heap.size→w'.heap[b]? = w.heap[b]? := fun b hb=>r3.block b hb (by simp)
 have hzk : ∀b,Z b→Z b∧w'.heap[b]? = w.heap[b]? := fun b hb=>⟨hb,hsame b (hrep.ylt b (hrep.zy b hb))⟩
 have hcap:=(DH r2).cap
 have hall:=(q2.append g3).mono fun _ _ h=>Frz.mono hzk h
 have hlen:(els++news).length=els.length+news.length:=fP
 obtain ⟨ρ',k1,k2,k3,k4⟩:=hR.ok.push1 (o:=.row 0 e inf.size (els++news)) hat (w':=w') (pl:=⟨a',c',inf.size⟩) ⟨r3.os,r3.tape,r3.output⟩ r3.size hsame
  (fun ρ' hN hρ=>⟨by rw [hN],_,hall,by rw [hN,hlen];exact r2⟩)
  (fun b _ hb=>r4 b (by simpa [Ob.blk,Res.blk] using hb))
 refine ⟨.slice a' (els.length+news.length) c',w',ρ',Z,Y,?_,k1,k2,?_⟩
 ·unfold execOp
  simp only [ho,resolve,invoke,builtin,Sem.run_bind,Sem.run_pure,Result.andThen_ok,lK,gO,gX,hax,g1,r1]
 ·have:=Val.sl (Kn:=Kn heap') (ρ:=ρ') (w:=w') (Z:=Z) (Y:=Y) (i:=N) (k:=0) (n:=els.length+news.length) ⟨_,hat.one,fV _⟩ (by rw [k3];exact hcap) (by rw [k3];exact fun e=>((DH r2).none e).2)
  rw [k3] at this
  exact this
theorem AqT (hw:AD n T ops o=true) (hd:o.dst=some d) {t:TypeId} {x hi mx:Operand} (ho:o.op = .slice t x none (some hi) (some mx)) (ht:P.underlying t=some (.slice e)) {z:Option Value} (hI:(P.info? e).map (fun i=>(i.zero,i.size,i.bytes))=some (z,size,bytes))
  (hx:evA n T x = .t (.lst els)) (hs : ∀cs∈els,cs.length=size) {kd kd':IntKind} (h1:evA n T hi = .t (.v (.int kd (m:Int)))) (h2:evA n T mx = .t (.v (.int kd' (m':Int)))) (hm:els.length=m) (hm':els.length=m')
  (k:AL P ops Q rest n (pu T d (.cl els)) heap):AL P ops Q (o::rest) n T heap:=by
 subst hm hm'
 refine AL.val hw hd (fun en a w ρ Z Y hR=>?_) k
 have lv : ∀ {y:Operand} {kd:IntKind} {q:Int},evA n T y = .t (.v (.int kd q))→a.eval y = .int kd q:=fun {y kd q} e1=>by
  have:=hR.eval y
  rw [e1] at this
  generalize a.eval y=v at this
  cases this with
  |t h=>cases h;rfl
 have hv:=hR.eval x
 rw [hx] at hv
 generalize hax:a.eval x=vx at hv
 cases hv with
 |t hv =>
 obtain ⟨sa,c,s,xs,g1,g2,g3,g4⟩:=hv.open
 subst g1
 have g2':Rs w s sa els.length els.length xs:=⟨fV _,jA g2.cap g2.most,fun e=>⟨(g2.none e).1,(g2.none e).1⟩,g2.len,g2.cells⟩
 obtain ⟨xs',q1,q2,q3⟩:=k9_ (l:=0) (h:=els.length) hs g2' g4 (fX _) (fV _)
 have ht':P.underlying t=some (.slice (P.elem t)):=by rw [IN ht];exact ht
 have hcap:=g2.cap
 refine ⟨.slice (if els.length=0 then sa else sa.map (·.add (0*size))) (els.length-0) (els.length-0),BU (s:=Instr.sliceAt t (a.eval x) none (some (a.eval hi)) (some (a.eval mx))) (by unfold execOp;rw [ho];rfl) ?_,?_⟩
 ·rw [hax,lv h1,lv h2,run_sliceAt_slice w t _ _ _ _ ht']
  simp [Instr.slice,Instr.sliceBounds,Instr.sliceBound,run_underlying ht,EW hI,Result.andThen,hcap,asIntOf]
 ·rw [Nat.sub_zero,iK,jQ] at *
  exact .cl q1 (fun hne=>by rw [(q3 hne).2];exact g3 (q3 hne).1) rfl q2
theorem cl_one {α:Type} {f:α→List Tr} {x:α} {l:List α}:l.map f++[f x]=(l++[x]).map f:=by simp
theorem LY (hw:AD n T ops o=true) (hd:o.dst=some d) (s x:Operand) (t:TypeId) (ho:o.op = .call { callee:=.builtin .append,args := #[s,x],argTypes := #[t,t]})
  (ht:P.underlying t=some (.slice e)) {z:Value} (hI:(P.info? e).map (fun i=>(i.zero,i.size,i.bytes))=some (some z,size,bytes)) (hzs:z.cells.size=size)
  (hs:evA n T s = .cl els) (hl:els.length=m) (hz : ∀cs∈els,cs.length=size) (hx:Rd heap size (evA n T x) news) (h0:0<news.length) (b1:m+news.length≤maxLen) (b2:(m+news.length)*bytes≤140737488355328) (he:els++news=els')
  (hat:AtL heap N [.row 0 e size els'] heap') (hm':m+news.length=m') (k:AL P ops Q rest n (pu T d (.sl N 0 m')) heap'):AL P ops Q (o::rest) n T heap :=
 ZL hw hd ho ht ⟨z,bytes,hI,hzs,rfl⟩ hs hl hz hx h0 b1 b2 he hat hm' k
theorem ZR {F:List Dl→(Nat→AV)→List Ob→Prop} {acc:List Dl} (hw:AD n T ops o=true) (hd:o.dst=some d) (s x:Operand) (t:TypeId) (ho:o.op = .call { callee:=.builtin .append,args := #[s,x],argTypes := #[t,t]})
  (ht:P.underlying t=some (.slice e)) {z:Value} (hI:(P.info? e).map (fun i=>(i.zero,i.size,i.bytes))=some (some z,size,bytes)) (hzs:z.cells.size=size)
  (hs:evA n T s = .cl els) (hl:els.length=m) (hz : ∀cs∈els,cs.length=size) (hx:Rd heap size (evA n T x) news) (h0:0<news.length) (b1:m+news.length≤maxLen) (b2:(m+news.length)*bytes≤140737488355328) (he:els++news=els')
  (hat:heap[N]? = some .hole) (hh:heap.set N (.row 0 e size els')=heap') (hm':m+news.length=m')
  (k:RG P ops n F rest (acc++[⟨some d,(.sl N 0 m'),[(N,.row 0 e size els')],(N::l5_ (evA n T x))⟩]) (pu T d (.sl N 0 m')) heap'):RG P ops n F (o::rest) acc T heap:=by
 exact RG.cons hd.symm (fun T' h' hT hH hlen_=>LY aM hd s x t ho ht hI hzs (by rw [ev_eq hT aH];exact hs) hl hz (Rd.agree (fun i hi=>hH i (by rw [ev_eq hT aH] at hi;simp [hi])) dC) h0 b1 b2 he (.fill (II bN) (FF bN)) hm' (AL.nil ⟨rfl,rfl,rfl⟩)) rfl aO k
end
end
end Go.Proofs.YtccefppppedgkaaGreat
