/- The law DiffBack of layer 39: a row with the changes to another one is that, with these taken back it is itself, and the changes over a third one, as one, lead there; for every input whose bulk is at most 1048576 the call returns true, and its arguments read afterwards as they did before. No other condition beyond the row's own. -/
import Derived.Test.YtnibnbcmnaflmaaKDn
import Derived.Test.YtnibnbcmnaflmaaKDm
namespace Go.Proofs.Ytnibnbcmnaflmaa
set_option linter.unusedVariables false
set_option linter.unusedSimpArgs false
set_option linter.unnecessarySimpa false
open Go.ChangeShapes Go.WideShapes Go.ChangeAt Go.RowKit Go.Joins Go.Deep
theorem xg39c {l : List DXg} {n : Nat} (h : bL bXg l ≤ n) : l.length ≤ n := by have := bL_le (b := bXg) (fun a => by simp [bXg, b1]) l; omega
theorem u39c {l : List Int} {n : Nat} (h : bL b1 l ≤ n) : l.length ≤ n := by have := bL_le (b := b1) (fun a => Nat.le_refl _) l; omega
set_option maxRecDepth 100000 in
set_option maxHeartbeats 1000000 in
theorem diffBackUpto_lifted (os : Os) (started : os.Started) (H : Type) (enc : TypeId × Value → H) (F : Stop.Interp) :
    ReturnsInHanded {} Try.checked os 8 .any ((Rows.OpenSpec.upto Rows.diffBackSpec).pre6 enc Try.prog Try.f8 Rows.diffBackUptoRow.domain false) (((Rows.OpenSpec.upto Rows.diffBackSpec).at F).post enc Try.prog Try.f8 false true false false) := by
  refine returnsInHanded_of_cond_sized (C := Try.checked) (s := (Rows.OpenSpec.upto Rows.diffBackSpec)) (k := Rows.uptoSmall) rfl own started (by kernel_rfl) Try.func8
    (OpenSpec.witness (enc := enc) (C := Try.checked) (s := (Rows.OpenSpec.upto Rows.diffBackSpec)) (k := Rows.uptoSmall) rfl false ⟨#[], #[.slice none 0 0, .slice none 0 0, .slice none 0 0], []⟩ 8 (by kernel_rfl) (by kernel_rfl) (by kernel_rfl) (x := ([.nil, .nil, .nil], [], [])) (by kernel_rfl) rfl (by kernel_rfl)) ?_
  intro W base args ds gs before hval0 hW hcnd hsmall hwt _
  have hval : ∀ (j : Nat) t v, Try.f8.params[j]? = some t → args[j]? = some v → Value.okWide Try.prog W .any base t v := hval0
  have hW' := hW
  obtain ⟨p, q, hA0, hV, hps, hfz, hnd⟩ := hW
  have hA : DataW.TrodAll enc Try.prog W 0 (fun _ => true) true Try.f8.params.toList args.toList ds p := hA0
  clear hA0
  rw [Try.params8] at hA hval hwt
  obtain ⟨v0, vs0, d0, ds0, p0, q0, hargs, rfl, rfl, h0, r0⟩ := trodAll_cons hA
  obtain ⟨v1, vs1, d1, ds1, p1, q1, rfl, rfl, rfl, h1, r1⟩ := trodAll_cons r0
  obtain ⟨v2, vs2, d2, ds2, p2, q2, rfl, rfl, rfl, h2, r2⟩ := trodAll_cons r1
  obtain ⟨rfl, rfl, rfl⟩ := trodAll_nil r2
  obtain rfl : args = #[v0, v1, v2] := by cases args; simp_all
  obtain ⟨rfl, rfl⟩ := trodVars_none hV
  have hbulk := bulk_of hsmall
  simp only [Rows.uptoBulkAll] at hbulk
  obtain ⟨a, sa, ba, Va⟩ := (o_u64s (enc := enc) (W := W)).arg (b := false) (by kernel_rfl) (fun _ _ => rfl) (hval 0 _ v0 rfl rfl) h0
  replace sa := sa (wt_of (us := _) (gs := _) hwt (j := 0) rfl rfl)
  obtain ⟨b, sb, bb, Vb⟩ := (o_u64s (enc := enc) (W := W)).arg (b := false) (by kernel_rfl) (fun _ _ => rfl) (hval 1 _ v1 rfl rfl) h1
  replace sb := sb (wt_of (us := _) (gs := _) hwt (j := 1) rfl rfl)
  obtain ⟨c, sc, bc, Vc⟩ := (o_u64s (enc := enc) (W := W)).arg (b := false) (by kernel_rfl) (fun _ _ => rfl) (hval 2 _ v2 rfl rfl) h2
  replace sc := sc (wt_of (us := _) (gs := _) hwt (j := 2) rfl rfl)
  clear hwt hsmall
  refine (Cd.law (diffBack_c a b c (by have := u39c ba; omega) (by have := u39c bb; omega) (by have := u39c bc; omega)) (.cons (Va _ _) (.cons (Vb _ _) (.cons (Vc _ _) .nil)))).mono fun e W' ⟨he, hg⟩ => ?_
  subst he
  exact ⟨_, rfl, law_post laidOut (by decide +kernel) rfl Try.underlying4 rfl hW' ⟨rfl, rfl, rfl⟩ hg⟩
set_option maxRecDepth 100000 in
set_option maxHeartbeats 4000000 in
theorem diffBackUpto_closed : joinedFacts Try.prog 8 Try.f8 (Rows.OpenSpec.upto Rows.diffBackSpec).bare Rows.diffBackUptoRow = true := by
  unfold joinedFacts
  repeat' with_reducible refine and_mk ?_ ?_
  all_goals first | with_reducible exact mayEnter_ok | (rw [liftsFinal_ok]; kernel_rfl) | (rw [make_ok]; kernel_rfl) | as_aux_lemma => kernel_rfl
/-- THE STATEMENT. -/
theorem diffBackUpto_proved : Rows.DiffBackUptoSaid :=
  OpenClaim.holds_of_cond 8 Try.f8 rfl rfl rfl rfl rfl rfl rfl ⟨rfl, rfl, rfl, rfl, rfl⟩ rfl rfl rfl rfl rfl (by as_aux_lemma => kernel_rfl) Try.func8 diffBackUpto_closed
    (of_decide_eq_true (by as_aux_lemma => kernel_rfl)) (by as_aux_lemma => unfold Func.isWrapper; first | (rw [if_pos (by decide +kernel)]; kernel_rfl) | (rw [if_neg (by decide +kernel)]; exact ⟨rfl, rfl⟩))
    (fun os started H enc _ F => diffBackUpto_lifted os started H enc F)
#print axioms diffBackUpto_proved
end Go.Proofs.Ytnibnbcmnaflmaa
