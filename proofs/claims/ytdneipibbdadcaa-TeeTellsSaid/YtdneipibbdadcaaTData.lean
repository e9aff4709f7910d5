/- The program's data types: how they stand as trees, and how an argument of each is opened. -/
import Derived.Test.YtdneipibbdadcaaTLift
import Derived.Test.YtdneipibbdadcaaTEnc
namespace Go.Proofs.Ytdneipibbdadcaa
set_option linter.unusedVariables false
set_option linter.unusedSimpArgs false
set_option linter.unnecessarySimpa false
open Go.RowKit Go.ChangeShapes Go.WideShapes
/-! what is known of an argument (s..), its bulk (b..) -/
def sI (x : Int) : Prop := -9223372036854775808 ≤ x ∧ x ≤ 9223372036854775807
def sU (x : Int) : Prop := 0 ≤ x ∧ x ≤ 18446744073709551615
def sB (_ : Bool) : Prop := True
def tB (x : Bool) : List Tr := [.v (.bool x)]
def b1 {α : Type} (_ : α) : Nat := 1
def sL {α : Type} (s : α → Prop) (k : Nat) (l : List α) : Prop := l.length * k ≤ reachBytes ∧ ∀ a ∈ l, s a
def bL {α : Type} (b : α → Nat) (l : List α) : Nat := (l.map b).sum + 1
def tL {α : Type} (f : α → List Tr) (l : List α) : List Tr := [.lst (l.map f)]
theorem bL_le {α : Type} {b : α → Nat} (h : ∀ a, 1 ≤ b a) (l : List α) : l.length + 1 ≤ bL b l := by
  unfold bL
  induction l with
  | nil => simp
  | cons a l ih => have := h a; simp only [List.map_cons, List.sum_cons, List.length_cons] at ih ⊢; omega
section
variable {H : Type} {enc : TypeId × Value → H} {W : World}
theorem o_int : Opens enc Try.prog W 3 tI sI b1 := Opens.map (Opens.int Try.underlying3) id (fun _ => rfl) (fun _ h => i64_wf h) (fun _ => Nat.le_refl _)
theorem o_bool : Opens enc Try.prog W 4 tB sB b1 := Opens.map (Opens.bool Try.underlying4) id (fun _ => rfl) (fun _ h => trivial) (fun _ => Nat.le_refl _)
theorem o_ints : Opens enc Try.prog W 22 (tL tI) (sL sI 8) (bL b1) := Opens.slice Try.underlying22 (by kernel_rfl) (by kernel_rfl) (fun _ => rfl) o_int
theorem o_intss : Opens enc Try.prog W 40 (tL (tL tI)) (sL (sL sI 8) 24) (bL (bL b1)) := Opens.slice Try.underlying40 (by kernel_rfl) (by kernel_rfl) (fun _ => rfl) o_ints
theorem o_bools : Opens enc Try.prog W 63 (tL tB) (sL sB 1) (bL b1) := Opens.slice Try.underlying63 (by kernel_rfl) (by kernel_rfl) (fun _ => rfl) o_bool
theorem o_errno : Opens enc Try.prog W 35 tI sI b1 := Opens.map (Opens.int Try.underlying35) id (fun _ => rfl) (fun _ h => i64_wf h) (fun _ => Nat.le_refl _)
theorem o_u64 : Opens enc Try.prog W 91 tU sU b1 := Opens.map (Opens.int Try.underlying91) id (fun _ => rfl) (fun _ h => u64_wf h) (fun _ => Nat.le_refl _)
theorem o_u64s : Opens enc Try.prog W 80 (tL tU) (sL sU 8) (bL b1) := Opens.slice Try.underlying80 (by kernel_rfl) (by kernel_rfl) (fun _ => rfl) o_u64
end
/-! the program's structs -/
def sR (x : Rst) : Prop := sI x.seq ∧ sI x.cas ∧ sI x.code ∧ sI x.value
def bR (x : Rst) : Nat := b1 x.seq + b1 x.cas + b1 x.code + b1 x.value
theorem o_R {H : Type} {enc : TypeId × Value → H} {W : World} : Opens enc Try.prog W 37 tR sR bR := by
  refine Opens.map (Opens.struct (n := 4) Try.underlying37 (by kernel_rfl) (fun _ => rfl) (OpensF.cons (s := 1) rfl rfl (by kernel_rfl) (fun _ => rfl) o_int (OpensF.cons (s := 1) rfl rfl (by kernel_rfl) (fun _ => rfl) o_int (OpensF.cons (s := 1) rfl rfl (by kernel_rfl) (fun _ => rfl) o_errno (OpensF.cons (s := 1) rfl rfl (by kernel_rfl) (fun _ => rfl) o_int OpensF.nil))))) (fun (p : Int × Int × Int × Int × Unit) => ⟨p.1, p.2.1, p.2.2.1, p.2.2.2.1⟩) (fun p => ?_) (fun p h => ?_) (fun p => ?_)
  · simp [tR, List.append_nil, tI, tL]
  · obtain ⟨h0, h1, h2, h3, _⟩ := h; exact ⟨h0, h1, h2, h3⟩
  · exact Nat.le_of_eq (by simp only [bR, Nat.add_assoc, Nat.add_zero])
structure DRef where
  index : Int
  tag : Int
  deriving DecidableEq, Inhabited
def tRf (x : DRef) : List Tr := tI x.index ++ tI x.tag
def sRf (x : DRef) : Prop := sI x.index ∧ sI x.tag
def bRf (x : DRef) : Nat := b1 x.index + b1 x.tag
theorem o_Rf {H : Type} {enc : TypeId × Value → H} {W : World} : Opens enc Try.prog W 50 tRf sRf bRf := by
  refine Opens.map (Opens.struct (n := 2) Try.underlying50 (by kernel_rfl) (fun _ => rfl) (OpensF.cons (s := 1) rfl rfl (by kernel_rfl) (fun _ => rfl) o_int (OpensF.cons (s := 1) rfl rfl (by kernel_rfl) (fun _ => rfl) o_int OpensF.nil))) (fun (p : Int × Int × Unit) => ⟨p.1, p.2.1⟩) (fun p => ?_) (fun p h => ?_) (fun p => ?_)
  · simp [tRf, List.append_nil, tI, tL]
  · obtain ⟨h0, h1, _⟩ := h; exact ⟨h0, h1⟩
  · exact Nat.le_of_eq (by simp only [bRf, Nat.add_assoc, Nat.add_zero])
structure DSlot where
  index : Int
  tag : Int
  deriving DecidableEq, Inhabited
def tSl (x : DSlot) : List Tr := tI x.index ++ tI x.tag
def sSl (x : DSlot) : Prop := sI x.index ∧ sI x.tag
def bSl (x : DSlot) : Nat := b1 x.index + b1 x.tag
theorem o_Sl {H : Type} {enc : TypeId × Value → H} {W : World} : Opens enc Try.prog W 90 tSl sSl bSl := by
  refine Opens.map (Opens.struct (n := 2) Try.underlying90 (by kernel_rfl) (fun _ => rfl) (OpensF.cons (s := 1) rfl rfl (by kernel_rfl) (fun _ => rfl) o_int (OpensF.cons (s := 1) rfl rfl (by kernel_rfl) (fun _ => rfl) o_int OpensF.nil))) (fun (p : Int × Int × Unit) => ⟨p.1, p.2.1⟩) (fun p => ?_) (fun p h => ?_) (fun p => ?_)
  · simp [tSl, List.append_nil, tI, tL]
  · obtain ⟨h0, h1, _⟩ := h; exact ⟨h0, h1⟩
  · exact Nat.le_of_eq (by simp only [bSl, Nat.add_assoc, Nat.add_zero])
structure DOld where
  ref : DRef
  stamp : Int
  deriving DecidableEq, Inhabited
def tOd (x : DOld) : List Tr := tRf x.ref ++ tI x.stamp
def sOd (x : DOld) : Prop := sRf x.ref ∧ sI x.stamp
def bOd (x : DOld) : Nat := bRf x.ref + b1 x.stamp
theorem o_Od {H : Type} {enc : TypeId × Value → H} {W : World} : Opens enc Try.prog W 65 tOd sOd bOd := by
  refine Opens.map (Opens.struct (n := 3) Try.underlying65 (by kernel_rfl) (fun _ => rfl) (OpensF.cons (s := 2) rfl rfl (by kernel_rfl) (fun _ => rfl) o_Rf (OpensF.cons (s := 1) rfl rfl (by kernel_rfl) (fun _ => rfl) o_int OpensF.nil))) (fun (p : DRef × Int × Unit) => ⟨p.1, p.2.1⟩) (fun p => ?_) (fun p h => ?_) (fun p => ?_)
  · simp [tOd, List.append_nil, tI, tL, tRf]
  · obtain ⟨h0, h1, _⟩ := h; exact ⟨h0, h1⟩
  · exact Nat.le_of_eq (by simp only [bOd, Nat.add_assoc, Nat.add_zero])
structure DCase where
  dir : Int
  handle : Int
  value : Int
  deriving DecidableEq, Inhabited
def tCs (x : DCase) : List Tr := tI x.dir ++ tI x.handle ++ tI x.value
def sCs (x : DCase) : Prop := sI x.dir ∧ sI x.handle ∧ sI x.value
def bCs (x : DCase) : Nat := b1 x.dir + b1 x.handle + b1 x.value
theorem o_Cs {H : Type} {enc : TypeId × Value → H} {W : World} : Opens enc Try.prog W 104 tCs sCs bCs := by
  refine Opens.map (Opens.struct (n := 3) Try.underlying104 (by kernel_rfl) (fun _ => rfl) (OpensF.cons (s := 1) rfl rfl (by kernel_rfl) (fun _ => rfl) o_int (OpensF.cons (s := 1) rfl rfl (by kernel_rfl) (fun _ => rfl) o_int (OpensF.cons (s := 1) rfl rfl (by kernel_rfl) (fun _ => rfl) o_int OpensF.nil)))) (fun (p : Int × Int × Int × Unit) => ⟨p.1, p.2.1, p.2.2.1⟩) (fun p => ?_) (fun p h => ?_) (fun p => ?_)
  · simp [tCs, List.append_nil, tI, tL]
  · obtain ⟨h0, h1, h2, _⟩ := h; exact ⟨h0, h1, h2⟩
  · exact Nat.le_of_eq (by simp only [bCs, Nat.add_assoc, Nat.add_zero])
theorem o_Rs {H : Type} {enc : TypeId × Value → H} {W : World} : Opens enc Try.prog W 23 (tL tR) (sL sR 32) (bL bR) := Opens.slice (s := 4) Try.underlying23 (by kernel_rfl) (by kernel_rfl) (fun _ => rfl) o_R
theorem o_Sls {H : Type} {enc : TypeId × Value → H} {W : World} : Opens enc Try.prog W 51 (tL tSl) (sL sSl 16) (bL bSl) := Opens.slice (s := 2) Try.underlying51 (by kernel_rfl) (by kernel_rfl) (fun _ => rfl) o_Sl
theorem o_Ods {H : Type} {enc : TypeId × Value → H} {W : World} : Opens enc Try.prog W 52 (tL tOd) (sL sOd 24) (bL bOd) := Opens.slice (s := 3) Try.underlying52 (by kernel_rfl) (by kernel_rfl) (fun _ => rfl) o_Od
theorem o_Css {H : Type} {enc : TypeId × Value → H} {W : World} : Opens enc Try.prog W 26 (tL tCs) (sL sCs 24) (bL bCs) := Opens.slice (s := 3) Try.underlying26 (by kernel_rfl) (by kernel_rfl) (fun _ => rfl) o_Cs
structure DReq where
  kind : Int
  arg : Int
  value : Int
  dflt : Bool
  cases : List DCase
  deriving DecidableEq, Inhabited
def tRq (x : DReq) : List Tr := tI x.kind ++ tI x.arg ++ tI x.value ++ tB x.dflt ++ tL tCs x.cases
def sRq (x : DReq) : Prop := sI x.kind ∧ sI x.arg ∧ sI x.value ∧ sB x.dflt ∧ (sL sCs 24) x.cases
def bRq (x : DReq) : Nat := b1 x.kind + b1 x.arg + b1 x.value + b1 x.dflt + (bL bCs) x.cases
theorem o_Rq {H : Type} {enc : TypeId × Value → H} {W : World} : Opens enc Try.prog W 28 tRq sRq bRq := by
  refine Opens.map (Opens.struct (n := 5) Try.underlying28 (by kernel_rfl) (fun _ => rfl) (OpensF.cons (s := 1) rfl rfl (by kernel_rfl) (fun _ => rfl) o_int (OpensF.cons (s := 1) rfl rfl (by kernel_rfl) (fun _ => rfl) o_int (OpensF.cons (s := 1) rfl rfl (by kernel_rfl) (fun _ => rfl) o_int (OpensF.cons (s := 1) rfl rfl (by kernel_rfl) (fun _ => rfl) o_bool (OpensF.cons (s := 1) rfl rfl (by kernel_rfl) (fun _ => rfl) o_Css OpensF.nil)))))) (fun (p : Int × Int × Int × Bool × List DCase × Unit) => ⟨p.1, p.2.1, p.2.2.1, p.2.2.2.1, p.2.2.2.2.1⟩) (fun p => ?_) (fun p h => ?_) (fun p => ?_)
  · simp [tRq, List.append_nil, tB, tCs, tI, tL]
  · obtain ⟨h0, h1, h2, h3, h4, _⟩ := h; exact ⟨h0, h1, h2, h3, h4⟩
  · exact Nat.le_of_eq (by simp only [bRq, Nat.add_assoc, Nat.add_zero])
structure DCells where
  cap : Int
  list : List Int
  done : List Rst
  deriving DecidableEq, Inhabited
def tCl (x : DCells) : List Tr := tI x.cap ++ tL tI x.list ++ tL tR x.done
def sCl (x : DCells) : Prop := sI x.cap ∧ (sL sI 8) x.list ∧ (sL sR 32) x.done
def bCl (x : DCells) : Nat := b1 x.cap + (bL b1) x.list + (bL bR) x.done
theorem o_Cl {H : Type} {enc : TypeId × Value → H} {W : World} : Opens enc Try.prog W 25 tCl sCl bCl := by
  refine Opens.map (Opens.struct (n := 3) Try.underlying25 (by kernel_rfl) (fun _ => rfl) (OpensF.cons (s := 1) rfl rfl (by kernel_rfl) (fun _ => rfl) o_int (OpensF.cons (s := 1) rfl rfl (by kernel_rfl) (fun _ => rfl) o_ints (OpensF.cons (s := 1) rfl rfl (by kernel_rfl) (fun _ => rfl) o_Rs OpensF.nil)))) (fun (p : Int × List Int × List Rst × Unit) => ⟨p.1, p.2.1, p.2.2.1⟩) (fun p => ?_) (fun p h => ?_) (fun p => ?_)
  · simp [tCl, List.append_nil, tI, tL, tR]
  · obtain ⟨h0, h1, h2, _⟩ := h; exact ⟨h0, h1, h2⟩
  · exact Nat.le_of_eq (by simp only [bCl, Nat.add_assoc, Nat.add_zero])
















structure DPool where
  own : DRef
  free : List DSlot
  old : List DOld
  spent : Int
  deriving DecidableEq, Inhabited
def tPo (x : DPool) : List Tr := tRf x.own ++ tL tSl x.free ++ tL tOd x.old ++ tI x.spent
def sPo (x : DPool) : Prop := sRf x.own ∧ (sL sSl 16) x.free ∧ (sL sOd 24) x.old ∧ sI x.spent
def bPo (x : DPool) : Nat := bRf x.own + (bL bSl) x.free + (bL bOd) x.old + b1 x.spent
theorem o_Po {H : Type} {enc : TypeId × Value → H} {W : World} : Opens enc Try.prog W 54 tPo sPo bPo := by
  refine Opens.map (Opens.struct (n := 5) Try.underlying54 (by kernel_rfl) (fun _ => rfl) (OpensF.cons (s := 2) rfl rfl (by kernel_rfl) (fun _ => rfl) o_Rf (OpensF.cons (s := 1) rfl rfl (by kernel_rfl) (fun _ => rfl) o_Sls (OpensF.cons (s := 1) rfl rfl (by kernel_rfl) (fun _ => rfl) o_Ods (OpensF.cons (s := 1) rfl rfl (by kernel_rfl) (fun _ => rfl) o_int OpensF.nil))))) (fun (p : DRef × List DSlot × List DOld × Int × Unit) => ⟨p.1, p.2.1, p.2.2.1, p.2.2.2.1⟩) (fun p => ?_) (fun p h => ?_) (fun p => ?_)
  · simp [tPo, List.append_nil, tI, tL, tOd, tRf, tSl]
  · obtain ⟨h0, h1, h2, h3, _⟩ := h; exact ⟨h0, h1, h2, h3⟩
  · exact Nat.le_of_eq (by simp only [bPo, Nat.add_assoc, Nat.add_zero])
structure DPump where
  on : Bool
  shut : Bool
  over : Bool
  inn : Int
  outs : List Int
  at_ : Int
  value : Int
  deriving DecidableEq, Inhabited
def tPu (x : DPump) : List Tr := tB x.on ++ tB x.shut ++ tB x.over ++ tI x.inn ++ tL tI x.outs ++ tI x.at_ ++ tI x.value
def sPu (x : DPump) : Prop := sB x.on ∧ sB x.shut ∧ sB x.over ∧ sI x.inn ∧ (sL sI 8) x.outs ∧ sI x.at_ ∧ sI x.value
def bPu (x : DPump) : Nat := b1 x.on + b1 x.shut + b1 x.over + b1 x.inn + (bL b1) x.outs + b1 x.at_ + b1 x.value
theorem o_Pu {H : Type} {enc : TypeId × Value → H} {W : World} : Opens enc Try.prog W 94 tPu sPu bPu := by
  refine Opens.map (Opens.struct (n := 7) Try.underlying94 (by kernel_rfl) (fun _ => rfl) (OpensF.cons (s := 1) rfl rfl (by kernel_rfl) (fun _ => rfl) o_bool (OpensF.cons (s := 1) rfl rfl (by kernel_rfl) (fun _ => rfl) o_bool (OpensF.cons (s := 1) rfl rfl (by kernel_rfl) (fun _ => rfl) o_bool (OpensF.cons (s := 1) rfl rfl (by kernel_rfl) (fun _ => rfl) o_int (OpensF.cons (s := 1) rfl rfl (by kernel_rfl) (fun _ => rfl) o_ints (OpensF.cons (s := 1) rfl rfl (by kernel_rfl) (fun _ => rfl) o_int (OpensF.cons (s := 1) rfl rfl (by kernel_rfl) (fun _ => rfl) o_int OpensF.nil)))))))) (fun (p : Bool × Bool × Bool × Int × List Int × Int × Int × Unit) => ⟨p.1, p.2.1, p.2.2.1, p.2.2.2.1, p.2.2.2.2.1, p.2.2.2.2.2.1, p.2.2.2.2.2.2.1⟩) (fun p => ?_) (fun p h => ?_) (fun p => ?_)
  · simp [tPu, List.append_nil, tB, tI, tL]
  · obtain ⟨h0, h1, h2, h3, h4, h5, h6, _⟩ := h; exact ⟨h0, h1, h2, h3, h4, h5, h6⟩
  · exact Nat.le_of_eq (by simp only [bPu, Nat.add_assoc, Nat.add_zero])
end Go.Proofs.Ytdneipibbdadcaa
