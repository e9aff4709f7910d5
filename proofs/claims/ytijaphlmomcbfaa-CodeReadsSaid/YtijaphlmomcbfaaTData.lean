/- The program's data types: how they stand as trees, and how an argument of each is opened. -/
import Derived.Test.YtijaphlmomcbfaaLD
import Derived.Test.YtijaphlmomcbfaaTEnc
namespace Go.Proofs.Ytijaphlmomcbfaa
set_option linter.unusedVariables false
set_option linter.unusedSimpArgs false
set_option linter.unnecessarySimpa false
open Go.RowKit Go.ChangeShapes Go.WideShapes
/-! what is known of an argument (s..), its bulk (b..) -/
def sI (x : Int) : Prop := -9223372036854775808 ≤ x ∧ x ≤ 9223372036854775807
def sU (x : Int) : Prop := 0 ≤ x ∧ x ≤ 18446744073709551615
def sB (_ : Bool) : Prop := True
def tB (x : Bool) : List Tr := [.v (.bool x)]
def b1 {α : Type} (_ : α) : Nat := 1
def sL {α : Type} (s : α → Prop) (k : Nat) (l : List α) : Prop := l.length * k ≤ reachBytes ∧ ∀ a ∈ l, s a
def bL {α : Type} (b : α → Nat) (l : List α) : Nat := (l.map b).sum + 1
def tL {α : Type} (f : α → List Tr) (l : List α) : List Tr := [.lst (l.map f)]
theorem bL_le {α : Type} {b : α → Nat} (h : ∀ a, 1 ≤ b a) (l : List α) : l.length + 1 ≤ bL b l := by
  unfold bL
  induction l with
  | nil => simp
  | cons a l ih => have := h a; simp only [List.map_cons, List.sum_cons, List.length_cons] at ih ⊢; omega
section
variable {H : Type} {enc : TypeId × Value → H} {W : World}
theorem o_int : Opens enc Try.prog W 3 tI sI b1 := Opens.map (Opens.int Try.underlying3) id (fun _ => rfl) (fun _ h => i64_wf h) (fun _ => Nat.le_refl _)
theorem o_bool : Opens enc Try.prog W 4 tB sB b1 := Opens.map (Opens.bool Try.underlying4) id (fun _ => rfl) (fun _ h => trivial) (fun _ => Nat.le_refl _)
theorem o_ints : Opens enc Try.prog W 22 (tL tI) (sL sI 8) (bL b1) := Opens.slice Try.underlying22 (by kernel_rfl) (by kernel_rfl) (fun _ => rfl) o_int
theorem o_errno : Opens enc Try.prog W 25 tI sI b1 := Opens.map (Opens.int Try.underlying25) id (fun _ => rfl) (fun _ h => i64_wf h) (fun _ => Nat.le_refl _)
theorem o_u64 : Opens enc Try.prog W 84 tU sU b1 := Opens.map (Opens.int Try.underlying84) id (fun _ => rfl) (fun _ h => u64_wf h) (fun _ => Nat.le_refl _)
theorem o_u64s : Opens enc Try.prog W 37 (tL tU) (sL sU 8) (bL b1) := Opens.slice Try.underlying37 (by kernel_rfl) (by kernel_rfl) (fun _ => rfl) o_u64
end
/-! the program's structs -/
def sR (x : Rst) : Prop := sI x.seq ∧ sI x.cas ∧ sI x.code ∧ sI x.value
def bR (x : Rst) : Nat := b1 x.seq + b1 x.cas + b1 x.code + b1 x.value
theorem o_R {H : Type} {enc : TypeId × Value → H} {W : World} : Opens enc Try.prog W 107 tR sR bR := by
  refine Opens.map (Opens.struct (n := 4) Try.underlying107 (by kernel_rfl) (fun _ => rfl) (OpensF.cons (s := 1) rfl rfl (by kernel_rfl) (fun _ => rfl) o_int (OpensF.cons (s := 1) rfl rfl (by kernel_rfl) (fun _ => rfl) o_int (OpensF.cons (s := 1) rfl rfl (by kernel_rfl) (fun _ => rfl) o_errno (OpensF.cons (s := 1) rfl rfl (by kernel_rfl) (fun _ => rfl) o_int OpensF.nil))))) (fun (p : Int × Int × Int × Int × Unit) => ⟨p.1, p.2.1, p.2.2.1, p.2.2.2.1⟩) (fun p => ?_) (fun p h => ?_) (fun p => ?_)
  · simp [tR, List.append_nil, tI, tL]
  · obtain ⟨h0, h1, h2, h3, _⟩ := h; exact ⟨h0, h1, h2, h3⟩
  · exact Nat.le_of_eq (by simp only [bR, Nat.add_assoc, Nat.add_zero])
structure DRef where
  index : Int
  tag : Int
  deriving DecidableEq, Inhabited
def tRf (x : DRef) : List Tr := tI x.index ++ tI x.tag
def sRf (x : DRef) : Prop := sI x.index ∧ sI x.tag
def bRf (x : DRef) : Nat := b1 x.index + b1 x.tag
theorem o_Rf {H : Type} {enc : TypeId × Value → H} {W : World} : Opens enc Try.prog W 64 tRf sRf bRf := by
  refine Opens.map (Opens.struct (n := 2) Try.underlying64 (by kernel_rfl) (fun _ => rfl) (OpensF.cons (s := 1) rfl rfl (by kernel_rfl) (fun _ => rfl) o_int (OpensF.cons (s := 1) rfl rfl (by kernel_rfl) (fun _ => rfl) o_int OpensF.nil))) (fun (p : Int × Int × Unit) => ⟨p.1, p.2.1⟩) (fun p => ?_) (fun p h => ?_) (fun p => ?_)
  · simp [tRf, List.append_nil, tI, tL]
  · obtain ⟨h0, h1, _⟩ := h; exact ⟨h0, h1⟩
  · exact Nat.le_of_eq (by simp only [bRf, Nat.add_assoc, Nat.add_zero])
structure DSlot where
  index : Int
  tag : Int
  deriving DecidableEq, Inhabited
def tSl (x : DSlot) : List Tr := tI x.index ++ tI x.tag
def sSl (x : DSlot) : Prop := sI x.index ∧ sI x.tag
def bSl (x : DSlot) : Nat := b1 x.index + b1 x.tag
theorem o_Sl {H : Type} {enc : TypeId × Value → H} {W : World} : Opens enc Try.prog W 131 tSl sSl bSl := by
  refine Opens.map (Opens.struct (n := 2) Try.underlying131 (by kernel_rfl) (fun _ => rfl) (OpensF.cons (s := 1) rfl rfl (by kernel_rfl) (fun _ => rfl) o_int (OpensF.cons (s := 1) rfl rfl (by kernel_rfl) (fun _ => rfl) o_int OpensF.nil))) (fun (p : Int × Int × Unit) => ⟨p.1, p.2.1⟩) (fun p => ?_) (fun p h => ?_) (fun p => ?_)
  · simp [tSl, List.append_nil, tI, tL]
  · obtain ⟨h0, h1, _⟩ := h; exact ⟨h0, h1⟩
  · exact Nat.le_of_eq (by simp only [bSl, Nat.add_assoc, Nat.add_zero])
structure DOld where
  ref : DRef
  stamp : Int
  deriving DecidableEq, Inhabited
def tOd (x : DOld) : List Tr := tRf x.ref ++ tI x.stamp
def sOd (x : DOld) : Prop := sRf x.ref ∧ sI x.stamp
def bOd (x : DOld) : Nat := bRf x.ref + b1 x.stamp
theorem o_Od {H : Type} {enc : TypeId × Value → H} {W : World} : Opens enc Try.prog W 133 tOd sOd bOd := by
  refine Opens.map (Opens.struct (n := 3) Try.underlying133 (by kernel_rfl) (fun _ => rfl) (OpensF.cons (s := 2) rfl rfl (by kernel_rfl) (fun _ => rfl) o_Rf (OpensF.cons (s := 1) rfl rfl (by kernel_rfl) (fun _ => rfl) o_int OpensF.nil))) (fun (p : DRef × Int × Unit) => ⟨p.1, p.2.1⟩) (fun p => ?_) (fun p h => ?_) (fun p => ?_)
  · simp [tOd, List.append_nil, tI, tL, tRf]
  · obtain ⟨h0, h1, _⟩ := h; exact ⟨h0, h1⟩
  · exact Nat.le_of_eq (by simp only [bOd, Nat.add_assoc, Nat.add_zero])
structure DCase where
  dir : Int
  handle : Int
  value : Int
  deriving DecidableEq, Inhabited
def tCs (x : DCase) : List Tr := tI x.dir ++ tI x.handle ++ tI x.value
def sCs (x : DCase) : Prop := sI x.dir ∧ sI x.handle ∧ sI x.value
def bCs (x : DCase) : Nat := b1 x.dir + b1 x.handle + b1 x.value
theorem o_Cs {H : Type} {enc : TypeId × Value → H} {W : World} : Opens enc Try.prog W 105 tCs sCs bCs := by
  refine Opens.map (Opens.struct (n := 3) Try.underlying105 (by kernel_rfl) (fun _ => rfl) (OpensF.cons (s := 1) rfl rfl (by kernel_rfl) (fun _ => rfl) o_int (OpensF.cons (s := 1) rfl rfl (by kernel_rfl) (fun _ => rfl) o_int (OpensF.cons (s := 1) rfl rfl (by kernel_rfl) (fun _ => rfl) o_int OpensF.nil)))) (fun (p : Int × Int × Int × Unit) => ⟨p.1, p.2.1, p.2.2.1⟩) (fun p => ?_) (fun p h => ?_) (fun p => ?_)
  · simp [tCs, List.append_nil, tI, tL]
  · obtain ⟨h0, h1, h2, _⟩ := h; exact ⟨h0, h1, h2⟩
  · exact Nat.le_of_eq (by simp only [bCs, Nat.add_assoc, Nat.add_zero])
theorem o_Rs {H : Type} {enc : TypeId × Value → H} {W : World} : Opens enc Try.prog W 32 (tL tR) (sL sR 32) (bL bR) := Opens.slice (s := 4) Try.underlying32 (by kernel_rfl) (by kernel_rfl) (fun _ => rfl) o_R
theorem o_Sls {H : Type} {enc : TypeId × Value → H} {W : World} : Opens enc Try.prog W 65 (tL tSl) (sL sSl 16) (bL bSl) := Opens.slice (s := 2) Try.underlying65 (by kernel_rfl) (by kernel_rfl) (fun _ => rfl) o_Sl
theorem o_Ods {H : Type} {enc : TypeId × Value → H} {W : World} : Opens enc Try.prog W 66 (tL tOd) (sL sOd 24) (bL bOd) := Opens.slice (s := 3) Try.underlying66 (by kernel_rfl) (by kernel_rfl) (fun _ => rfl) o_Od
theorem o_Css {H : Type} {enc : TypeId × Value → H} {W : World} : Opens enc Try.prog W 90 (tL tCs) (sL sCs 24) (bL bCs) := Opens.slice (s := 3) Try.underlying90 (by kernel_rfl) (by kernel_rfl) (fun _ => rfl) o_Cs
structure DReq where
  kind : Int
  arg : Int
  value : Int
  dflt : Bool
  cases : List DCase
  deriving DecidableEq, Inhabited
def tRq (x : DReq) : List Tr := tI x.kind ++ tI x.arg ++ tI x.value ++ tB x.dflt ++ tL tCs x.cases
def sRq (x : DReq) : Prop := sI x.kind ∧ sI x.arg ∧ sI x.value ∧ sB x.dflt ∧ (sL sCs 24) x.cases
def bRq (x : DReq) : Nat := b1 x.kind + b1 x.arg + b1 x.value + b1 x.dflt + (bL bCs) x.cases
theorem o_Rq {H : Type} {enc : TypeId × Value → H} {W : World} : Opens enc Try.prog W 97 tRq sRq bRq := by
  refine Opens.map (Opens.struct (n := 5) Try.underlying97 (by kernel_rfl) (fun _ => rfl) (OpensF.cons (s := 1) rfl rfl (by kernel_rfl) (fun _ => rfl) o_int (OpensF.cons (s := 1) rfl rfl (by kernel_rfl) (fun _ => rfl) o_int (OpensF.cons (s := 1) rfl rfl (by kernel_rfl) (fun _ => rfl) o_int (OpensF.cons (s := 1) rfl rfl (by kernel_rfl) (fun _ => rfl) o_bool (OpensF.cons (s := 1) rfl rfl (by kernel_rfl) (fun _ => rfl) o_Css OpensF.nil)))))) (fun (p : Int × Int × Int × Bool × List DCase × Unit) => ⟨p.1, p.2.1, p.2.2.1, p.2.2.2.1, p.2.2.2.2.1⟩) (fun p => ?_) (fun p h => ?_) (fun p => ?_)
  · simp [tRq, List.append_nil, tB, tCs, tI, tL]
  · obtain ⟨h0, h1, h2, h3, h4, _⟩ := h; exact ⟨h0, h1, h2, h3, h4⟩
  · exact Nat.le_of_eq (by simp only [bRq, Nat.add_assoc, Nat.add_zero])
structure DCells where
  cap : Int
  list : List Int
  done : List Rst
  deriving DecidableEq, Inhabited
def tCl (x : DCells) : List Tr := tI x.cap ++ tL tI x.list ++ tL tR x.done
def sCl (x : DCells) : Prop := sI x.cap ∧ (sL sI 8) x.list ∧ (sL sR 32) x.done
def bCl (x : DCells) : Nat := b1 x.cap + (bL b1) x.list + (bL bR) x.done
theorem o_Cl {H : Type} {enc : TypeId × Value → H} {W : World} : Opens enc Try.prog W 44 tCl sCl bCl := by
  refine Opens.map (Opens.struct (n := 3) Try.underlying44 (by kernel_rfl) (fun _ => rfl) (OpensF.cons (s := 1) rfl rfl (by kernel_rfl) (fun _ => rfl) o_int (OpensF.cons (s := 1) rfl rfl (by kernel_rfl) (fun _ => rfl) o_ints (OpensF.cons (s := 1) rfl rfl (by kernel_rfl) (fun _ => rfl) o_Rs OpensF.nil)))) (fun (p : Int × List Int × List Rst × Unit) => ⟨p.1, p.2.1, p.2.2.1⟩) (fun p => ?_) (fun p h => ?_) (fun p => ?_)
  · simp [tCl, List.append_nil, tI, tL, tR]
  · obtain ⟨h0, h1, h2, _⟩ := h; exact ⟨h0, h1, h2⟩
  · exact Nat.le_of_eq (by simp only [bCl, Nat.add_assoc, Nat.add_zero])


structure DWait where
  on : Bool
  ticket : Int
  seq : Int
  cases : List DCase
  deriving DecidableEq, Inhabited
def tWt (x : DWait) : List Tr := tB x.on ++ tI x.ticket ++ tI x.seq ++ tL tCs x.cases
def sWt (x : DWait) : Prop := sB x.on ∧ sI x.ticket ∧ sI x.seq ∧ (sL sCs 24) x.cases
def bWt (x : DWait) : Nat := b1 x.on + b1 x.ticket + b1 x.seq + (bL bCs) x.cases
theorem o_Wt {H : Type} {enc : TypeId × Value → H} {W : World} : Opens enc Try.prog W 92 tWt sWt bWt := by
  refine Opens.map (Opens.struct (n := 4) Try.underlying92 (by kernel_rfl) (fun _ => rfl) (OpensF.cons (s := 1) rfl rfl (by kernel_rfl) (fun _ => rfl) o_bool (OpensF.cons (s := 1) rfl rfl (by kernel_rfl) (fun _ => rfl) o_int (OpensF.cons (s := 1) rfl rfl (by kernel_rfl) (fun _ => rfl) o_int (OpensF.cons (s := 1) rfl rfl (by kernel_rfl) (fun _ => rfl) o_Css OpensF.nil))))) (fun (p : Bool × Int × Int × List DCase × Unit) => ⟨p.1, p.2.1, p.2.2.1, p.2.2.2.1⟩) (fun p => ?_) (fun p h => ?_) (fun p => ?_)
  · simp [tWt, List.append_nil, tB, tCs, tI, tL]
  · obtain ⟨h0, h1, h2, h3, _⟩ := h; exact ⟨h0, h1, h2, h3⟩
  · exact Nat.le_of_eq (by simp only [bWt, Nat.add_assoc, Nat.add_zero])
structure DChan where
  gen : Int
  cap : Int
  used : Bool
  closed : Bool
  buf : List Int
  deriving DecidableEq, Inhabited
def tCh (x : DChan) : List Tr := tI x.gen ++ tI x.cap ++ tB x.used ++ tB x.closed ++ tL tI x.buf
def sCh (x : DChan) : Prop := sI x.gen ∧ sI x.cap ∧ sB x.used ∧ sB x.closed ∧ (sL sI 8) x.buf
def bCh (x : DChan) : Nat := b1 x.gen + b1 x.cap + b1 x.used + b1 x.closed + (bL b1) x.buf
theorem o_Ch {H : Type} {enc : TypeId × Value → H} {W : World} : Opens enc Try.prog W 83 tCh sCh bCh := by
  refine Opens.map (Opens.struct (n := 5) Try.underlying83 (by kernel_rfl) (fun _ => rfl) (OpensF.cons (s := 1) rfl rfl (by kernel_rfl) (fun _ => rfl) o_int (OpensF.cons (s := 1) rfl rfl (by kernel_rfl) (fun _ => rfl) o_int (OpensF.cons (s := 1) rfl rfl (by kernel_rfl) (fun _ => rfl) o_bool (OpensF.cons (s := 1) rfl rfl (by kernel_rfl) (fun _ => rfl) o_bool (OpensF.cons (s := 1) rfl rfl (by kernel_rfl) (fun _ => rfl) o_ints OpensF.nil)))))) (fun (p : Int × Int × Bool × Bool × List Int × Unit) => ⟨p.1, p.2.1, p.2.2.1, p.2.2.2.1, p.2.2.2.2.1⟩) (fun p => ?_) (fun p h => ?_) (fun p => ?_)
  · simp [tCh, List.append_nil, tB, tI, tL]
  · obtain ⟨h0, h1, h2, h3, h4, _⟩ := h; exact ⟨h0, h1, h2, h3, h4⟩
  · exact Nat.le_of_eq (by simp only [bCh, Nat.add_assoc, Nat.add_zero])
structure DOp where
  thread : Int
  seq : Int
  phase : Int
  req : DReq
  deriving DecidableEq, Inhabited
def tOp (x : DOp) : List Tr := tI x.thread ++ tI x.seq ++ tI x.phase ++ tRq x.req
def sOp (x : DOp) : Prop := sI x.thread ∧ sI x.seq ∧ sI x.phase ∧ sRq x.req
def bOp (x : DOp) : Nat := b1 x.thread + b1 x.seq + b1 x.phase + bRq x.req
theorem o_Op {H : Type} {enc : TypeId × Value → H} {W : World} : Opens enc Try.prog W 136 tOp sOp bOp := by
  refine Opens.map (Opens.struct (n := 8) Try.underlying136 (by kernel_rfl) (fun _ => rfl) (OpensF.cons (s := 1) rfl rfl (by kernel_rfl) (fun _ => rfl) o_int (OpensF.cons (s := 1) rfl rfl (by kernel_rfl) (fun _ => rfl) o_int (OpensF.cons (s := 1) rfl rfl (by kernel_rfl) (fun _ => rfl) o_int (OpensF.cons (s := 5) rfl rfl (by kernel_rfl) (fun _ => rfl) o_Rq OpensF.nil))))) (fun (p : Int × Int × Int × DReq × Unit) => ⟨p.1, p.2.1, p.2.2.1, p.2.2.2.1⟩) (fun p => ?_) (fun p h => ?_) (fun p => ?_)
  · simp [tOp, List.append_nil, tI, tL, tRq]
  · obtain ⟨h0, h1, h2, h3, _⟩ := h; exact ⟨h0, h1, h2, h3⟩
  · exact Nat.le_of_eq (by simp only [bOp, Nat.add_assoc, Nat.add_zero])



theorem o_Wts {H : Type} {enc : TypeId × Value → H} {W : World} : Opens enc Try.prog W 31 (tL tWt) (sL sWt 48) (bL bWt) := Opens.slice (s := 4) Try.underlying31 (by kernel_rfl) (by kernel_rfl) (fun _ => rfl) o_Wt
theorem o_Chs {H : Type} {enc : TypeId × Value → H} {W : World} : Opens enc Try.prog W 30 (tL tCh) (sL sCh 48) (bL bCh) := Opens.slice (s := 5) Try.underlying30 (by kernel_rfl) (by kernel_rfl) (fun _ => rfl) o_Ch
theorem o_Ops {H : Type} {enc : TypeId × Value → H} {W : World} : Opens enc Try.prog W 71 (tL tOp) (sL sOp 80) (bL bOp) := Opens.slice (s := 8) Try.underlying71 (by kernel_rfl) (by kernel_rfl) (fun _ => rfl) o_Op



structure DHall where
  ticket : Int
  chans : List DChan
  waits : List DWait
  done : List Rst
  deriving DecidableEq, Inhabited
def tHl (x : DHall) : List Tr := tI x.ticket ++ tL tCh x.chans ++ tL tWt x.waits ++ tL tR x.done
def sHl (x : DHall) : Prop := sI x.ticket ∧ (sL sCh 48) x.chans ∧ (sL sWt 48) x.waits ∧ (sL sR 32) x.done
def bHl (x : DHall) : Nat := b1 x.ticket + (bL bCh) x.chans + (bL bWt) x.waits + (bL bR) x.done
theorem o_Hl {H : Type} {enc : TypeId × Value → H} {W : World} : Opens enc Try.prog W 34 tHl sHl bHl := by
  refine Opens.map (Opens.struct (n := 4) Try.underlying34 (by kernel_rfl) (fun _ => rfl) (OpensF.cons (s := 1) rfl rfl (by kernel_rfl) (fun _ => rfl) o_int (OpensF.cons (s := 1) rfl rfl (by kernel_rfl) (fun _ => rfl) o_Chs (OpensF.cons (s := 1) rfl rfl (by kernel_rfl) (fun _ => rfl) o_Wts (OpensF.cons (s := 1) rfl rfl (by kernel_rfl) (fun _ => rfl) o_Rs OpensF.nil))))) (fun (p : Int × List DChan × List DWait × List Rst × Unit) => ⟨p.1, p.2.1, p.2.2.1, p.2.2.2.1⟩) (fun p => ?_) (fun p h => ?_) (fun p => ?_)
  · simp [tHl, List.append_nil, tCh, tI, tL, tR, tWt]
  · obtain ⟨h0, h1, h2, h3, _⟩ := h; exact ⟨h0, h1, h2, h3⟩
  · exact Nat.le_of_eq (by simp only [bHl, Nat.add_assoc, Nat.add_zero])
structure DConf where
  kind : Int
  threads : Int
  chans : Int
  cap : Int
  nodes : Int
  retire : Int
  patience : Int
  tags : Int
  seqs : Int
  gens : Int
  start : List Int
  deriving DecidableEq, Inhabited
def tCf (x : DConf) : List Tr := tI x.kind ++ tI x.threads ++ tI x.chans ++ tI x.cap ++ tI x.nodes ++ tI x.retire ++ tI x.patience ++ tI x.tags ++ tI x.seqs ++ tI x.gens ++ tL tI x.start
def sCf (x : DConf) : Prop := sI x.kind ∧ sI x.threads ∧ sI x.chans ∧ sI x.cap ∧ sI x.nodes ∧ sI x.retire ∧ sI x.patience ∧ sI x.tags ∧ sI x.seqs ∧ sI x.gens ∧ (sL sI 8) x.start
def bCf (x : DConf) : Nat := b1 x.kind + b1 x.threads + b1 x.chans + b1 x.cap + b1 x.nodes + b1 x.retire + b1 x.patience + b1 x.tags + b1 x.seqs + b1 x.gens + (bL b1) x.start
theorem o_Cf {H : Type} {enc : TypeId × Value → H} {W : World} : Opens enc Try.prog W 24 tCf sCf bCf := by
  refine Opens.map (Opens.struct (n := 11) Try.underlying24 (by kernel_rfl) (fun _ => rfl) (OpensF.cons (s := 1) rfl rfl (by kernel_rfl) (fun _ => rfl) o_int (OpensF.cons (s := 1) rfl rfl (by kernel_rfl) (fun _ => rfl) o_int (OpensF.cons (s := 1) rfl rfl (by kernel_rfl) (fun _ => rfl) o_int (OpensF.cons (s := 1) rfl rfl (by kernel_rfl) (fun _ => rfl) o_int (OpensF.cons (s := 1) rfl rfl (by kernel_rfl) (fun _ => rfl) o_int (OpensF.cons (s := 1) rfl rfl (by kernel_rfl) (fun _ => rfl) o_int (OpensF.cons (s := 1) rfl rfl (by kernel_rfl) (fun _ => rfl) o_int (OpensF.cons (s := 1) rfl rfl (by kernel_rfl) (fun _ => rfl) o_int (OpensF.cons (s := 1) rfl rfl (by kernel_rfl) (fun _ => rfl) o_int (OpensF.cons (s := 1) rfl rfl (by kernel_rfl) (fun _ => rfl) o_int (OpensF.cons (s := 1) rfl rfl (by kernel_rfl) (fun _ => rfl) o_ints OpensF.nil)))))))))))) (fun (p : Int × Int × Int × Int × Int × Int × Int × Int × Int × Int × List Int × Unit) => ⟨p.1, p.2.1, p.2.2.1, p.2.2.2.1, p.2.2.2.2.1, p.2.2.2.2.2.1, p.2.2.2.2.2.2.1, p.2.2.2.2.2.2.2.1, p.2.2.2.2.2.2.2.2.1, p.2.2.2.2.2.2.2.2.2.1, p.2.2.2.2.2.2.2.2.2.2.1⟩) (fun p => ?_) (fun p h => ?_) (fun p => ?_)
  · simp [tCf, List.append_nil, tI, tL]
  · obtain ⟨h0, h1, h2, h3, h4, h5, h6, h7, h8, h9, h10, _⟩ := h; exact ⟨h0, h1, h2, h3, h4, h5, h6, h7, h8, h9, h10⟩
  · exact Nat.le_of_eq (by simp only [bCf, Nat.add_assoc, Nat.add_zero])
structure DPool where
  own : DRef
  free : List DSlot
  old : List DOld
  spent : Int
  deriving DecidableEq, Inhabited
def tPo (x : DPool) : List Tr := tRf x.own ++ tL tSl x.free ++ tL tOd x.old ++ tI x.spent
def sPo (x : DPool) : Prop := sRf x.own ∧ (sL sSl 16) x.free ∧ (sL sOd 24) x.old ∧ sI x.spent
def bPo (x : DPool) : Nat := bRf x.own + (bL bSl) x.free + (bL bOd) x.old + b1 x.spent
theorem o_Po {H : Type} {enc : TypeId × Value → H} {W : World} : Opens enc Try.prog W 68 tPo sPo bPo := by
  refine Opens.map (Opens.struct (n := 5) Try.underlying68 (by kernel_rfl) (fun _ => rfl) (OpensF.cons (s := 2) rfl rfl (by kernel_rfl) (fun _ => rfl) o_Rf (OpensF.cons (s := 1) rfl rfl (by kernel_rfl) (fun _ => rfl) o_Sls (OpensF.cons (s := 1) rfl rfl (by kernel_rfl) (fun _ => rfl) o_Ods (OpensF.cons (s := 1) rfl rfl (by kernel_rfl) (fun _ => rfl) o_int OpensF.nil))))) (fun (p : DRef × List DSlot × List DOld × Int × Unit) => ⟨p.1, p.2.1, p.2.2.1, p.2.2.2.1⟩) (fun p => ?_) (fun p h => ?_) (fun p => ?_)
  · simp [tPo, List.append_nil, tI, tL, tOd, tRf, tSl]
  · obtain ⟨h0, h1, h2, h3, _⟩ := h; exact ⟨h0, h1, h2, h3⟩
  · exact Nat.le_of_eq (by simp only [bPo, Nat.add_assoc, Nat.add_zero])

end Go.Proofs.Ytijaphlmomcbfaa
