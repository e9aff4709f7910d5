/- The program's data types: how they stand as trees, and how an argument of each is opened. -/
import Derived.Test.YtkichjejadkdgaaLD
import Derived.Test.YtkichjejadkdgaaTEnc
namespace Go.Proofs.Ytkichjejadkdgaa
set_option linter.unusedVariables false
set_option linter.unusedSimpArgs false
set_option linter.unnecessarySimpa false
open Go.RowKit Go.ChangeShapes Go.WideShapes
/-! what is known of an argument (s..), its bulk (b..) -/
def sI (x : Int) : Prop := -9223372036854775808 ≤ x ∧ x ≤ 9223372036854775807
def sU (x : Int) : Prop := 0 ≤ x ∧ x ≤ 18446744073709551615
def sB (_ : Bool) : Prop := True
def tB (x : Bool) : List Tr := [.v (.bool x)]
def b1 {α : Type} (_ : α) : Nat := 1
def sL {α : Type} (s : α → Prop) (k : Nat) (l : List α) : Prop := l.length * k ≤ reachBytes ∧ ∀ a ∈ l, s a
def bL {α : Type} (b : α → Nat) (l : List α) : Nat := (l.map b).sum + 1
def tL {α : Type} (f : α → List Tr) (l : List α) : List Tr := [.lst (l.map f)]
theorem bL_le {α : Type} {b : α → Nat} (h : ∀ a, 1 ≤ b a) (l : List α) : l.length + 1 ≤ bL b l := by
  unfold bL
  induction l with
  | nil => simp
  | cons a l ih => have := h a; simp only [List.map_cons, List.sum_cons, List.length_cons] at ih ⊢; omega
section
variable {H : Type} {enc : TypeId × Value → H} {W : World}
theorem o_int : Opens enc Try.prog W 3 tI sI b1 := Opens.map (Opens.int Try.underlying3) id (fun _ => rfl) (fun _ h => i64_wf h) (fun _ => Nat.le_refl _)
theorem o_bool : Opens enc Try.prog W 4 tB sB b1 := Opens.map (Opens.bool Try.underlying4) id (fun _ => rfl) (fun _ h => trivial) (fun _ => Nat.le_refl _)
theorem o_ints : Opens enc Try.prog W 44 (tL tI) (sL sI 8) (bL b1) := Opens.slice Try.underlying44 (by kernel_rfl) (by kernel_rfl) (fun _ => rfl) o_int
theorem o_errno : Opens enc Try.prog W 68 tI sI b1 := Opens.map (Opens.int Try.underlying68) id (fun _ => rfl) (fun _ h => i64_wf h) (fun _ => Nat.le_refl _)
theorem o_u64 : Opens enc Try.prog W 145 tU sU b1 := Opens.map (Opens.int Try.underlying145) id (fun _ => rfl) (fun _ h => u64_wf h) (fun _ => Nat.le_refl _)
theorem o_u64s : Opens enc Try.prog W 98 (tL tU) (sL sU 8) (bL b1) := Opens.slice Try.underlying98 (by kernel_rfl) (by kernel_rfl) (fun _ => rfl) o_u64
end
/-! the program's structs -/
def sR (x : Rst) : Prop := sI x.seq ∧ sI x.cas ∧ sI x.code ∧ sI x.value
def bR (x : Rst) : Nat := b1 x.seq + b1 x.cas + b1 x.code + b1 x.value
theorem o_R {H : Type} {enc : TypeId × Value → H} {W : World} : Opens enc Try.prog W 70 tR sR bR := by
  refine Opens.map (Opens.struct (n := 4) Try.underlying70 (by kernel_rfl) (fun _ => rfl) (OpensF.cons (s := 1) rfl rfl (by kernel_rfl) (fun _ => rfl) o_int (OpensF.cons (s := 1) rfl rfl (by kernel_rfl) (fun _ => rfl) o_int (OpensF.cons (s := 1) rfl rfl (by kernel_rfl) (fun _ => rfl) o_errno (OpensF.cons (s := 1) rfl rfl (by kernel_rfl) (fun _ => rfl) o_int OpensF.nil))))) (fun (p : Int × Int × Int × Int × Unit) => ⟨p.1, p.2.1, p.2.2.1, p.2.2.2.1⟩) (fun p => ?_) (fun p h => ?_) (fun p => ?_)
  · simp [tR, List.append_nil, tI, tL]
  · obtain ⟨h0, h1, h2, h3, _⟩ := h; exact ⟨h0, h1, h2, h3⟩
  · exact Nat.le_of_eq (by simp only [bR, Nat.add_assoc, Nat.add_zero])



structure DCase where
  dir : Int
  handle : Int
  value : Int
  deriving DecidableEq, Inhabited
def tCs (x : DCase) : List Tr := tI x.dir ++ tI x.handle ++ tI x.value
def sCs (x : DCase) : Prop := sI x.dir ∧ sI x.handle ∧ sI x.value
def bCs (x : DCase) : Nat := b1 x.dir + b1 x.handle + b1 x.value
theorem o_Cs {H : Type} {enc : TypeId × Value → H} {W : World} : Opens enc Try.prog W 61 tCs sCs bCs := by
  refine Opens.map (Opens.struct (n := 3) Try.underlying61 (by kernel_rfl) (fun _ => rfl) (OpensF.cons (s := 1) rfl rfl (by kernel_rfl) (fun _ => rfl) o_int (OpensF.cons (s := 1) rfl rfl (by kernel_rfl) (fun _ => rfl) o_int (OpensF.cons (s := 1) rfl rfl (by kernel_rfl) (fun _ => rfl) o_int OpensF.nil)))) (fun (p : Int × Int × Int × Unit) => ⟨p.1, p.2.1, p.2.2.1⟩) (fun p => ?_) (fun p h => ?_) (fun p => ?_)
  · simp [tCs, List.append_nil, tI, tL]
  · obtain ⟨h0, h1, h2, _⟩ := h; exact ⟨h0, h1, h2⟩
  · exact Nat.le_of_eq (by simp only [bCs, Nat.add_assoc, Nat.add_zero])
theorem o_Rs {H : Type} {enc : TypeId × Value → H} {W : World} : Opens enc Try.prog W 93 (tL tR) (sL sR 32) (bL bR) := Opens.slice (s := 4) Try.underlying93 (by kernel_rfl) (by kernel_rfl) (fun _ => rfl) o_R


theorem o_Css {H : Type} {enc : TypeId × Value → H} {W : World} : Opens enc Try.prog W 48 (tL tCs) (sL sCs 24) (bL bCs) := Opens.slice (s := 3) Try.underlying48 (by kernel_rfl) (by kernel_rfl) (fun _ => rfl) o_Cs
structure DReq where
  kind : Int
  arg : Int
  value : Int
  dflt : Bool
  cases : List DCase
  deriving DecidableEq, Inhabited
def tRq (x : DReq) : List Tr := tI x.kind ++ tI x.arg ++ tI x.value ++ tB x.dflt ++ tL tCs x.cases
def sRq (x : DReq) : Prop := sI x.kind ∧ sI x.arg ∧ sI x.value ∧ sB x.dflt ∧ (sL sCs 24) x.cases
def bRq (x : DReq) : Nat := b1 x.kind + b1 x.arg + b1 x.value + b1 x.dflt + (bL bCs) x.cases
theorem o_Rq {H : Type} {enc : TypeId × Value → H} {W : World} : Opens enc Try.prog W 114 tRq sRq bRq := by
  refine Opens.map (Opens.struct (n := 5) Try.underlying114 (by kernel_rfl) (fun _ => rfl) (OpensF.cons (s := 1) rfl rfl (by kernel_rfl) (fun _ => rfl) o_int (OpensF.cons (s := 1) rfl rfl (by kernel_rfl) (fun _ => rfl) o_int (OpensF.cons (s := 1) rfl rfl (by kernel_rfl) (fun _ => rfl) o_int (OpensF.cons (s := 1) rfl rfl (by kernel_rfl) (fun _ => rfl) o_bool (OpensF.cons (s := 1) rfl rfl (by kernel_rfl) (fun _ => rfl) o_Css OpensF.nil)))))) (fun (p : Int × Int × Int × Bool × List DCase × Unit) => ⟨p.1, p.2.1, p.2.2.1, p.2.2.2.1, p.2.2.2.2.1⟩) (fun p => ?_) (fun p h => ?_) (fun p => ?_)
  · simp [tRq, List.append_nil, tB, tCs, tI, tL]
  · obtain ⟨h0, h1, h2, h3, h4, _⟩ := h; exact ⟨h0, h1, h2, h3, h4⟩
  · exact Nat.le_of_eq (by simp only [bRq, Nat.add_assoc, Nat.add_zero])
structure DCells where
  cap : Int
  list : List Int
  done : List Rst
  deriving DecidableEq, Inhabited
def tCl (x : DCells) : List Tr := tI x.cap ++ tL tI x.list ++ tL tR x.done
def sCl (x : DCells) : Prop := sI x.cap ∧ (sL sI 8) x.list ∧ (sL sR 32) x.done
def bCl (x : DCells) : Nat := b1 x.cap + (bL b1) x.list + (bL bR) x.done
theorem o_Cl {H : Type} {enc : TypeId × Value → H} {W : World} : Opens enc Try.prog W 105 tCl sCl bCl := by
  refine Opens.map (Opens.struct (n := 3) Try.underlying105 (by kernel_rfl) (fun _ => rfl) (OpensF.cons (s := 1) rfl rfl (by kernel_rfl) (fun _ => rfl) o_int (OpensF.cons (s := 1) rfl rfl (by kernel_rfl) (fun _ => rfl) o_ints (OpensF.cons (s := 1) rfl rfl (by kernel_rfl) (fun _ => rfl) o_Rs OpensF.nil)))) (fun (p : Int × List Int × List Rst × Unit) => ⟨p.1, p.2.1, p.2.2.1⟩) (fun p => ?_) (fun p h => ?_) (fun p => ?_)
  · simp [tCl, List.append_nil, tI, tL, tR]
  · obtain ⟨h0, h1, h2, _⟩ := h; exact ⟨h0, h1, h2⟩
  · exact Nat.le_of_eq (by simp only [bCl, Nat.add_assoc, Nat.add_zero])
structure DSpan where
  thread : Int
  seq : Int
  beg : Int
  fin : Int
  deriving DecidableEq, Inhabited
def tSp (x : DSpan) : List Tr := tI x.thread ++ tI x.seq ++ tI x.beg ++ tI x.fin
def sSp (x : DSpan) : Prop := sI x.thread ∧ sI x.seq ∧ sI x.beg ∧ sI x.fin
def bSp (x : DSpan) : Nat := b1 x.thread + b1 x.seq + b1 x.beg + b1 x.fin
theorem o_Sp {H : Type} {enc : TypeId × Value → H} {W : World} : Opens enc Try.prog W 32 tSp sSp bSp := by
  refine Opens.map (Opens.struct (n := 4) Try.underlying32 (by kernel_rfl) (fun _ => rfl) (OpensF.cons (s := 1) rfl rfl (by kernel_rfl) (fun _ => rfl) o_int (OpensF.cons (s := 1) rfl rfl (by kernel_rfl) (fun _ => rfl) o_int (OpensF.cons (s := 1) rfl rfl (by kernel_rfl) (fun _ => rfl) o_int (OpensF.cons (s := 1) rfl rfl (by kernel_rfl) (fun _ => rfl) o_int OpensF.nil))))) (fun (p : Int × Int × Int × Int × Unit) => ⟨p.1, p.2.1, p.2.2.1, p.2.2.2.1⟩) (fun p => ?_) (fun p h => ?_) (fun p => ?_)
  · simp [tSp, List.append_nil, tI, tL]
  · obtain ⟨h0, h1, h2, h3, _⟩ := h; exact ⟨h0, h1, h2, h3⟩
  · exact Nat.le_of_eq (by simp only [bSp, Nat.add_assoc, Nat.add_zero])
structure DTold where
  thread : Int
  result : Rst
  deriving DecidableEq, Inhabited
def tTd (x : DTold) : List Tr := tI x.thread ++ tR x.result
def sTd (x : DTold) : Prop := sI x.thread ∧ sR x.result
def bTd (x : DTold) : Nat := b1 x.thread + bR x.result
theorem o_Td {H : Type} {enc : TypeId × Value → H} {W : World} : Opens enc Try.prog W 83 tTd sTd bTd := by
  refine Opens.map (Opens.struct (n := 5) Try.underlying83 (by kernel_rfl) (fun _ => rfl) (OpensF.cons (s := 1) rfl rfl (by kernel_rfl) (fun _ => rfl) o_int (OpensF.cons (s := 4) rfl rfl (by kernel_rfl) (fun _ => rfl) o_R OpensF.nil))) (fun (p : Int × Rst × Unit) => ⟨p.1, p.2.1⟩) (fun p => ?_) (fun p h => ?_) (fun p => ?_)
  · simp [tTd, List.append_nil, tI, tL, tR]
  · obtain ⟨h0, h1, _⟩ := h; exact ⟨h0, h1⟩
  · exact Nat.le_of_eq (by simp only [bTd, Nat.add_assoc, Nat.add_zero])
structure DWait where
  on : Bool
  ticket : Int
  seq : Int
  cases : List DCase
  deriving DecidableEq, Inhabited
def tWt (x : DWait) : List Tr := tB x.on ++ tI x.ticket ++ tI x.seq ++ tL tCs x.cases
def sWt (x : DWait) : Prop := sB x.on ∧ sI x.ticket ∧ sI x.seq ∧ (sL sCs 24) x.cases
def bWt (x : DWait) : Nat := b1 x.on + b1 x.ticket + b1 x.seq + (bL bCs) x.cases
theorem o_Wt {H : Type} {enc : TypeId × Value → H} {W : World} : Opens enc Try.prog W 50 tWt sWt bWt := by
  refine Opens.map (Opens.struct (n := 4) Try.underlying50 (by kernel_rfl) (fun _ => rfl) (OpensF.cons (s := 1) rfl rfl (by kernel_rfl) (fun _ => rfl) o_bool (OpensF.cons (s := 1) rfl rfl (by kernel_rfl) (fun _ => rfl) o_int (OpensF.cons (s := 1) rfl rfl (by kernel_rfl) (fun _ => rfl) o_int (OpensF.cons (s := 1) rfl rfl (by kernel_rfl) (fun _ => rfl) o_Css OpensF.nil))))) (fun (p : Bool × Int × Int × List DCase × Unit) => ⟨p.1, p.2.1, p.2.2.1, p.2.2.2.1⟩) (fun p => ?_) (fun p h => ?_) (fun p => ?_)
  · simp [tWt, List.append_nil, tB, tCs, tI, tL]
  · obtain ⟨h0, h1, h2, h3, _⟩ := h; exact ⟨h0, h1, h2, h3⟩
  · exact Nat.le_of_eq (by simp only [bWt, Nat.add_assoc, Nat.add_zero])
structure DChan where
  gen : Int
  cap : Int
  used : Bool
  closed : Bool
  buf : List Int
  deriving DecidableEq, Inhabited
def tCh (x : DChan) : List Tr := tI x.gen ++ tI x.cap ++ tB x.used ++ tB x.closed ++ tL tI x.buf
def sCh (x : DChan) : Prop := sI x.gen ∧ sI x.cap ∧ sB x.used ∧ sB x.closed ∧ (sL sI 8) x.buf
def bCh (x : DChan) : Nat := b1 x.gen + b1 x.cap + b1 x.used + b1 x.closed + (bL b1) x.buf
theorem o_Ch {H : Type} {enc : TypeId × Value → H} {W : World} : Opens enc Try.prog W 66 tCh sCh bCh := by
  refine Opens.map (Opens.struct (n := 5) Try.underlying66 (by kernel_rfl) (fun _ => rfl) (OpensF.cons (s := 1) rfl rfl (by kernel_rfl) (fun _ => rfl) o_int (OpensF.cons (s := 1) rfl rfl (by kernel_rfl) (fun _ => rfl) o_int (OpensF.cons (s := 1) rfl rfl (by kernel_rfl) (fun _ => rfl) o_bool (OpensF.cons (s := 1) rfl rfl (by kernel_rfl) (fun _ => rfl) o_bool (OpensF.cons (s := 1) rfl rfl (by kernel_rfl) (fun _ => rfl) o_ints OpensF.nil)))))) (fun (p : Int × Int × Bool × Bool × List Int × Unit) => ⟨p.1, p.2.1, p.2.2.1, p.2.2.2.1, p.2.2.2.2.1⟩) (fun p => ?_) (fun p h => ?_) (fun p => ?_)
  · simp [tCh, List.append_nil, tB, tI, tL]
  · obtain ⟨h0, h1, h2, h3, h4, _⟩ := h; exact ⟨h0, h1, h2, h3, h4⟩
  · exact Nat.le_of_eq (by simp only [bCh, Nat.add_assoc, Nat.add_zero])
structure DOp where
  thread : Int
  seq : Int
  phase : Int
  req : DReq
  deriving DecidableEq, Inhabited
def tOp (x : DOp) : List Tr := tI x.thread ++ tI x.seq ++ tI x.phase ++ tRq x.req
def sOp (x : DOp) : Prop := sI x.thread ∧ sI x.seq ∧ sI x.phase ∧ sRq x.req
def bOp (x : DOp) : Nat := b1 x.thread + b1 x.seq + b1 x.phase + bRq x.req
theorem o_Op {H : Type} {enc : TypeId × Value → H} {W : World} : Opens enc Try.prog W 118 tOp sOp bOp := by
  refine Opens.map (Opens.struct (n := 8) Try.underlying118 (by kernel_rfl) (fun _ => rfl) (OpensF.cons (s := 1) rfl rfl (by kernel_rfl) (fun _ => rfl) o_int (OpensF.cons (s := 1) rfl rfl (by kernel_rfl) (fun _ => rfl) o_int (OpensF.cons (s := 1) rfl rfl (by kernel_rfl) (fun _ => rfl) o_int (OpensF.cons (s := 5) rfl rfl (by kernel_rfl) (fun _ => rfl) o_Rq OpensF.nil))))) (fun (p : Int × Int × Int × DReq × Unit) => ⟨p.1, p.2.1, p.2.2.1, p.2.2.2.1⟩) (fun p => ?_) (fun p h => ?_) (fun p => ?_)
  · simp [tOp, List.append_nil, tI, tL, tRq]
  · obtain ⟨h0, h1, h2, h3, _⟩ := h; exact ⟨h0, h1, h2, h3⟩
  · exact Nat.le_of_eq (by simp only [bOp, Nat.add_assoc, Nat.add_zero])
structure DNote where
  kind : Int
  thread : Int
  seq : Int
  time : Int
  req : DReq
  result : Rst
  deriving DecidableEq, Inhabited
def tNt (x : DNote) : List Tr := tI x.kind ++ tI x.thread ++ tI x.seq ++ tI x.time ++ tRq x.req ++ tR x.result
def sNt (x : DNote) : Prop := sI x.kind ∧ sI x.thread ∧ sI x.seq ∧ sI x.time ∧ sRq x.req ∧ sR x.result
def bNt (x : DNote) : Nat := b1 x.kind + b1 x.thread + b1 x.seq + b1 x.time + bRq x.req + bR x.result
theorem o_Nt {H : Type} {enc : TypeId × Value → H} {W : World} : Opens enc Try.prog W 116 tNt sNt bNt := by
  refine Opens.map (Opens.struct (n := 13) Try.underlying116 (by kernel_rfl) (fun _ => rfl) (OpensF.cons (s := 1) rfl rfl (by kernel_rfl) (fun _ => rfl) o_int (OpensF.cons (s := 1) rfl rfl (by kernel_rfl) (fun _ => rfl) o_int (OpensF.cons (s := 1) rfl rfl (by kernel_rfl) (fun _ => rfl) o_int (OpensF.cons (s := 1) rfl rfl (by kernel_rfl) (fun _ => rfl) o_int (OpensF.cons (s := 5) rfl rfl (by kernel_rfl) (fun _ => rfl) o_Rq (OpensF.cons (s := 4) rfl rfl (by kernel_rfl) (fun _ => rfl) o_R OpensF.nil))))))) (fun (p : Int × Int × Int × Int × DReq × Rst × Unit) => ⟨p.1, p.2.1, p.2.2.1, p.2.2.2.1, p.2.2.2.2.1, p.2.2.2.2.2.1⟩) (fun p => ?_) (fun p h => ?_) (fun p => ?_)
  · simp [tNt, List.append_nil, tI, tL, tR, tRq]
  · obtain ⟨h0, h1, h2, h3, h4, h5, _⟩ := h; exact ⟨h0, h1, h2, h3, h4, h5⟩
  · exact Nat.le_of_eq (by simp only [bNt, Nat.add_assoc, Nat.add_zero])
theorem o_Sps {H : Type} {enc : TypeId × Value → H} {W : World} : Opens enc Try.prog W 23 (tL tSp) (sL sSp 32) (bL bSp) := Opens.slice (s := 4) Try.underlying23 (by kernel_rfl) (by kernel_rfl) (fun _ => rfl) o_Sp
theorem o_Tds {H : Type} {enc : TypeId × Value → H} {W : World} : Opens enc Try.prog W 71 (tL tTd) (sL sTd 40) (bL bTd) := Opens.slice (s := 5) Try.underlying71 (by kernel_rfl) (by kernel_rfl) (fun _ => rfl) o_Td
theorem o_Wts {H : Type} {enc : TypeId × Value → H} {W : World} : Opens enc Try.prog W 47 (tL tWt) (sL sWt 48) (bL bWt) := Opens.slice (s := 4) Try.underlying47 (by kernel_rfl) (by kernel_rfl) (fun _ => rfl) o_Wt
theorem o_Chs {H : Type} {enc : TypeId × Value → H} {W : World} : Opens enc Try.prog W 92 (tL tCh) (sL sCh 48) (bL bCh) := Opens.slice (s := 5) Try.underlying92 (by kernel_rfl) (by kernel_rfl) (fun _ => rfl) o_Ch
theorem o_Ops {H : Type} {enc : TypeId × Value → H} {W : World} : Opens enc Try.prog W 119 (tL tOp) (sL sOp 80) (bL bOp) := Opens.slice (s := 8) Try.underlying119 (by kernel_rfl) (by kernel_rfl) (fun _ => rfl) o_Op
theorem o_Nts {H : Type} {enc : TypeId × Value → H} {W : World} : Opens enc Try.prog W 22 (tL tNt) (sL sNt 120) (bL bNt) := Opens.slice (s := 13) Try.underlying22 (by kernel_rfl) (by kernel_rfl) (fun _ => rfl) o_Nt
structure DTurn where
  time : Int
  thread : Int
  ops : List DOp
  deriving DecidableEq, Inhabited
def tTn (x : DTurn) : List Tr := tI x.time ++ tI x.thread ++ tL tOp x.ops
def sTn (x : DTurn) : Prop := sI x.time ∧ sI x.thread ∧ (sL sOp 80) x.ops
def bTn (x : DTurn) : Nat := b1 x.time + b1 x.thread + (bL bOp) x.ops
theorem o_Tn {H : Type} {enc : TypeId × Value → H} {W : World} : Opens enc Try.prog W 121 tTn sTn bTn := by
  refine Opens.map (Opens.struct (n := 3) Try.underlying121 (by kernel_rfl) (fun _ => rfl) (OpensF.cons (s := 1) rfl rfl (by kernel_rfl) (fun _ => rfl) o_int (OpensF.cons (s := 1) rfl rfl (by kernel_rfl) (fun _ => rfl) o_int (OpensF.cons (s := 1) rfl rfl (by kernel_rfl) (fun _ => rfl) o_Ops OpensF.nil)))) (fun (p : Int × Int × List DOp × Unit) => ⟨p.1, p.2.1, p.2.2.1⟩) (fun p => ?_) (fun p h => ?_) (fun p => ?_)
  · simp [tTn, List.append_nil, tI, tL, tOp]
  · obtain ⟨h0, h1, h2, _⟩ := h; exact ⟨h0, h1, h2⟩
  · exact Nat.le_of_eq (by simp only [bTn, Nat.add_assoc, Nat.add_zero])
theorem o_Tns {H : Type} {enc : TypeId × Value → H} {W : World} : Opens enc Try.prog W 37 (tL tTn) (sL sTn 40) (bL bTn) := Opens.slice (s := 3) Try.underlying37 (by kernel_rfl) (by kernel_rfl) (fun _ => rfl) o_Tn
structure DHall where
  ticket : Int
  chans : List DChan
  waits : List DWait
  done : List Rst
  deriving DecidableEq, Inhabited
def tHl (x : DHall) : List Tr := tI x.ticket ++ tL tCh x.chans ++ tL tWt x.waits ++ tL tR x.done
def sHl (x : DHall) : Prop := sI x.ticket ∧ (sL sCh 48) x.chans ∧ (sL sWt 48) x.waits ∧ (sL sR 32) x.done
def bHl (x : DHall) : Nat := b1 x.ticket + (bL bCh) x.chans + (bL bWt) x.waits + (bL bR) x.done
theorem o_Hl {H : Type} {enc : TypeId × Value → H} {W : World} : Opens enc Try.prog W 95 tHl sHl bHl := by
  refine Opens.map (Opens.struct (n := 4) Try.underlying95 (by kernel_rfl) (fun _ => rfl) (OpensF.cons (s := 1) rfl rfl (by kernel_rfl) (fun _ => rfl) o_int (OpensF.cons (s := 1) rfl rfl (by kernel_rfl) (fun _ => rfl) o_Chs (OpensF.cons (s := 1) rfl rfl (by kernel_rfl) (fun _ => rfl) o_Wts (OpensF.cons (s := 1) rfl rfl (by kernel_rfl) (fun _ => rfl) o_Rs OpensF.nil))))) (fun (p : Int × List DChan × List DWait × List Rst × Unit) => ⟨p.1, p.2.1, p.2.2.1, p.2.2.2.1⟩) (fun p => ?_) (fun p h => ?_) (fun p => ?_)
  · simp [tHl, List.append_nil, tCh, tI, tL, tR, tWt]
  · obtain ⟨h0, h1, h2, h3, _⟩ := h; exact ⟨h0, h1, h2, h3⟩
  · exact Nat.le_of_eq (by simp only [bHl, Nat.add_assoc, Nat.add_zero])
structure DConf where
  kind : Int
  threads : Int
  chans : Int
  cap : Int
  nodes : Int
  retire : Int
  patience : Int
  tags : Int
  seqs : Int
  gens : Int
  start : List Int
  deriving DecidableEq, Inhabited
def tCf (x : DConf) : List Tr := tI x.kind ++ tI x.threads ++ tI x.chans ++ tI x.cap ++ tI x.nodes ++ tI x.retire ++ tI x.patience ++ tI x.tags ++ tI x.seqs ++ tI x.gens ++ tL tI x.start
def sCf (x : DConf) : Prop := sI x.kind ∧ sI x.threads ∧ sI x.chans ∧ sI x.cap ∧ sI x.nodes ∧ sI x.retire ∧ sI x.patience ∧ sI x.tags ∧ sI x.seqs ∧ sI x.gens ∧ (sL sI 8) x.start
def bCf (x : DConf) : Nat := b1 x.kind + b1 x.threads + b1 x.chans + b1 x.cap + b1 x.nodes + b1 x.retire + b1 x.patience + b1 x.tags + b1 x.seqs + b1 x.gens + (bL b1) x.start
theorem o_Cf {H : Type} {enc : TypeId × Value → H} {W : World} : Opens enc Try.prog W 88 tCf sCf bCf := by
  refine Opens.map (Opens.struct (n := 11) Try.underlying88 (by kernel_rfl) (fun _ => rfl) (OpensF.cons (s := 1) rfl rfl (by kernel_rfl) (fun _ => rfl) o_int (OpensF.cons (s := 1) rfl rfl (by kernel_rfl) (fun _ => rfl) o_int (OpensF.cons (s := 1) rfl rfl (by kernel_rfl) (fun _ => rfl) o_int (OpensF.cons (s := 1) rfl rfl (by kernel_rfl) (fun _ => rfl) o_int (OpensF.cons (s := 1) rfl rfl (by kernel_rfl) (fun _ => rfl) o_int (OpensF.cons (s := 1) rfl rfl (by kernel_rfl) (fun _ => rfl) o_int (OpensF.cons (s := 1) rfl rfl (by kernel_rfl) (fun _ => rfl) o_int (OpensF.cons (s := 1) rfl rfl (by kernel_rfl) (fun _ => rfl) o_int (OpensF.cons (s := 1) rfl rfl (by kernel_rfl) (fun _ => rfl) o_int (OpensF.cons (s := 1) rfl rfl (by kernel_rfl) (fun _ => rfl) o_int (OpensF.cons (s := 1) rfl rfl (by kernel_rfl) (fun _ => rfl) o_ints OpensF.nil)))))))))))) (fun (p : Int × Int × Int × Int × Int × Int × Int × Int × Int × Int × List Int × Unit) => ⟨p.1, p.2.1, p.2.2.1, p.2.2.2.1, p.2.2.2.2.1, p.2.2.2.2.2.1, p.2.2.2.2.2.2.1, p.2.2.2.2.2.2.2.1, p.2.2.2.2.2.2.2.2.1, p.2.2.2.2.2.2.2.2.2.1, p.2.2.2.2.2.2.2.2.2.2.1⟩) (fun p => ?_) (fun p h => ?_) (fun p => ?_)
  · simp [tCf, List.append_nil, tI, tL]
  · obtain ⟨h0, h1, h2, h3, h4, h5, h6, h7, h8, h9, h10, _⟩ := h; exact ⟨h0, h1, h2, h3, h4, h5, h6, h7, h8, h9, h10⟩
  · exact Nat.le_of_eq (by simp only [bCf, Nat.add_assoc, Nat.add_zero])


end Go.Proofs.Ytkichjejadkdgaa
