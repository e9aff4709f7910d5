/- A region that draws its order, walked once, in the order of the text: each operation is walked from whatever slots and objects, if they agree with the text's where it looks (Dl.acc: the objects that it looks at or turns); those that are not ordered touch nothing of each other. No program in sight. -/
import Derived.Test.YtkichjejadkdgaaTScal
namespace Go.Proofs.Ytkichjejadkdgaa
set_option linter.unusedVariables false
set_option linter.unusedSimpArgs false
set_option linter.unnecessarySimpa false
open Go.RowKit
structure Dl where
  dst : Option Nat
  x : AV
  upd : List (Nat × Ob)
  acc : List Nat
def Dl.T (D : Dl) (T : Nat → AV) : Nat → AV := match D.dst with
  | some d => pu T d D.x
  | none => T
def setAll (h : List Ob) : List (Nat × Ob) → List Ob
  | [] => h
  | (i, o) :: l => setAll (h.set i o) l
def Dl.H (D : Dl) (h : List Ob) : List Ob := setAll h D.upd
def foldT : List Dl → (Nat → Bool) → (Nat → AV) → Nat → AV
  | [], _, T => T
  | D :: Ds, S, T => foldT Ds (fun k => S (k + 1)) (bif S 0 then D.T T else T)
def foldH : List Dl → (Nat → Bool) → List Ob → List Ob
  | [], _, h => h
  | D :: Ds, S, h => foldH Ds (fun k => S (k + 1)) (bif S 0 then D.H h else h)
theorem setAll_len : ∀ (l : List (Nat × Ob)) (h : List Ob), (setAll h l).length = h.length
  | [], h => rfl
  | (i, o) :: l, h => by rw [setAll, setAll_len l]; simp
theorem setAll_out : ∀ (l : List (Nat × Ob)) (h : List Ob) (i : Nat), i ∉ l.map (·.1) → (setAll h l)[i]? = h[i]?
  | [], h, i, _ => rfl
  | (j, o) :: l, h, i, hi => by
    simp only [List.map_cons, List.mem_cons, not_or] at hi
    rw [setAll, setAll_out l _ i hi.2, List.getElem?_set, if_neg (Ne.symm hi.1)]
theorem setAll_in : ∀ (l : List (Nat × Ob)) (h h' : List Ob) (i : Nat), h.length = h'.length → (i ∈ l.map (·.1) ∨ h[i]? = h'[i]?) → (setAll h l)[i]? = (setAll h' l)[i]?
  | [], h, h', i, _, hi => by simpa [setAll] using hi
  | (j, o) :: l, h, h', i, hl, hi => by
    rw [setAll, setAll]
    refine setAll_in l _ _ i (by simpa using hl) ?_
    by_cases e : i ∈ l.map (·.1)
    · exact .inl e
    · right
      rw [List.getElem?_set, List.getElem?_set, hl]
      split
      · rfl
      · rename_i hne
        rcases hi with hi | hi
        · simp only [List.map_cons, List.mem_cons] at hi
          rcases hi with hi | hi
          · exact absurd hi.symm hne
          · exact absurd hi e
        · exact hi
theorem beq_ne {t d : Nat} (h : t ≠ d) : Nat.beq t d = false := by
  cases hb : Nat.beq t d
  · rfl
  · exact absurd (Nat.eq_of_beq_eq_true hb) h
theorem Dl.T_out {D : Dl} {T : Nat → AV} {t : Nat} (h : D.dst ≠ some t) : D.T T t = T t := by
  cases hD : D.dst with
  | none => simp only [Dl.T, hD]
  | some d =>
    have hne : t ≠ d := fun e => h (by rw [hD, e])
    simp only [Dl.T, hD, pu, beq_ne hne, cond_false]
theorem Dl.T_in {D : Dl} {T : Nat → AV} {t : Nat} (h : D.dst = some t) : D.T T t = D.x := by
  simp only [Dl.T, h, pu, Nat.beq_refl, cond_true]
theorem foldT_same : ∀ (Ds : List Dl) (S S' : Nat → Bool) (T T' : Nat → AV) (t : Nat), T t = T' t → (∀ (j : Nat) (D : Dl), Ds[j]? = some D → D.dst = some t → S j = S' j) → foldT Ds S T t = foldT Ds S' T' t
  | [], S, S', T, T', t, h, _ => h
  | D :: Ds, S, S', T, T', t, h, hs => by
    rw [foldT, foldT]
    refine foldT_same Ds _ _ _ _ t ?_ (fun j D' hj hd => hs (j + 1) D' (by simpa using hj) hd)
    by_cases hd : D.dst = some t
    · rw [← hs 0 D rfl hd]
      cases S 0
      · exact h
      · simp only [cond_true]; rw [Dl.T_in hd, Dl.T_in hd]
    · cases S 0 <;> cases S' 0 <;> simp only [cond_true, cond_false]
      · exact h
      · rw [Dl.T_out hd]; exact h
      · rw [Dl.T_out hd]; exact h
      · rw [Dl.T_out hd, Dl.T_out hd]; exact h
theorem foldT_at : ∀ (Ds : List Dl) (S : Nat → Bool) (T : Nat → AV) (t k : Nat) (D : Dl), Ds[k]? = some D → D.dst = some t → S k = true → (∀ (j : Nat) (D' : Dl), k < j → Ds[j]? = some D' → S j = true → D'.dst ≠ some t) → foldT Ds S T t = D.x
  | [], S, T, t, k, D, h, _, _, _ => by simp at h
  | D0 :: Ds, S, T, t, 0, D, h, hd, hs, hl => by
    simp at h; subst h
    rw [foldT, hs, cond_true]
    have key : ∀ (Ds : List Dl) (S : Nat → Bool) (T : Nat → AV), (∀ (j : Nat) (D' : Dl), Ds[j]? = some D' → S j = true → D'.dst ≠ some t) → foldT Ds S T t = T t := by
      intro Ds
      induction Ds with
      | nil => intro S T _; rfl
      | cons D' Ds ih =>
        intro S T hl
        rw [foldT, ih _ _ fun j D'' hj hs => hl (j + 1) D'' (by simpa using hj) hs]
        cases hs0 : S 0
        · rfl
        · rw [cond_true]; exact Dl.T_out (hl 0 D' rfl hs0)
    rw [key _ _ _ fun j D' hj hs => hl (j + 1) D' (by omega) (by simpa using hj) hs]
    exact Dl.T_in hd
  | D0 :: Ds, S, T, t, k + 1, D, h, hd, hs, hl => by
    rw [foldT]
    exact foldT_at Ds _ _ t k D (by simpa using h) hd hs fun j D' hkj hj hs => hl (j + 1) D' (by omega) (by simpa using hj) hs
theorem foldH_len : ∀ (Ds : List Dl) (S : Nat → Bool) (h : List Ob), (foldH Ds S h).length = h.length
  | [], S, h => rfl
  | D :: Ds, S, h => by
    rw [foldH, foldH_len Ds]
    cases S 0
    · rfl
    · exact setAll_len _ _
theorem foldH_same : ∀ (Ds : List Dl) (S S' : Nat → Bool) (h h' : List Ob) (i : Nat), h.length = h'.length → h[i]? = h'[i]? → (∀ (j : Nat) (D : Dl), Ds[j]? = some D → i ∈ D.upd.map (·.1) → S j = S' j) → (foldH Ds S h)[i]? = (foldH Ds S' h')[i]?
  | [], S, S', h, h', i, _, hi, _ => hi
  | D :: Ds, S, S', h, h', i, hl, hi, hs => by
    rw [foldH, foldH]
    refine foldH_same Ds _ _ _ _ i ?_ ?_ (fun j D' hj hd => hs (j + 1) D' (by simpa using hj) hd)
    · cases S 0 <;> cases S' 0 <;> simp only [cond_true, cond_false, Dl.H, setAll_len] <;> exact hl
    · by_cases hd : i ∈ D.upd.map (·.1)
      · rw [← hs 0 D rfl hd]
        cases S 0
        · exact hi
        · exact setAll_in _ _ _ i hl (.inl hd)
      · cases S 0 <;> cases S' 0 <;> simp only [cond_true, cond_false, Dl.H]
        · exact hi
        · rw [setAll_out _ _ i hd]; exact hi
        · rw [setAll_out _ _ i hd]; exact hi
        · rw [setAll_out _ _ i hd, setAll_out _ _ i hd]; exact hi
theorem foldH_at : ∀ (Ds : List Dl) (S : Nat → Bool) (h h' : List Ob) (i k : Nat) (D : Dl), Ds[k]? = some D → i ∈ D.upd.map (·.1) → S k = true → h'.length = h.length → (∀ (j : Nat) (D' : Dl), k < j → Ds[j]? = some D' → S j = true → i ∉ D'.upd.map (·.1)) → (foldH Ds S h)[i]? = (D.H h')[i]?
  | [], S, h, h', i, k, D, hk, _, _, _, _ => by simp at hk
  | D0 :: Ds, S, h, h', i, 0, D, hk, hd, hs, hh, hl => by
    simp at hk; subst hk
    rw [foldH, hs, cond_true]
    have key : ∀ (Ds : List Dl) (S : Nat → Bool) (h : List Ob), (∀ (j : Nat) (D' : Dl), Ds[j]? = some D' → S j = true → i ∉ D'.upd.map (·.1)) → (foldH Ds S h)[i]? = h[i]? := by
      intro Ds
      induction Ds with
      | nil => intro S h _; rfl
      | cons D' Ds ih =>
        intro S h hl
        rw [foldH, ih _ _ fun j D'' hj hs => hl (j + 1) D'' (by simpa using hj) hs]
        cases hs0 : S 0
        · rfl
        · rw [cond_true]; exact setAll_out _ _ i (hl 0 D' rfl hs0)
    rw [key _ _ _ fun j D' hj hs => hl (j + 1) D' (by omega) (by simpa using hj) hs]
    exact setAll_in _ _ _ i hh.symm (.inl hd)
  | D0 :: Ds, S, h, h', i, k + 1, D, hk, hd, hs, hh, hl => by
    rw [foldH]
    refine foldH_at Ds _ _ h' i k D (by simpa using hk) hd hs ?_ fun j D' hkj hj hs => hl (j + 1) D' (by omega) (by simpa using hj) hs
    rw [hh]
    cases S 0
    · rfl
    · exact (setAll_len _ _).symm

/-! the walk -/
def StepA (P : Program) (ops : Array Oper) (n : Fr) (o : Oper) (D : Dl) (T : Nat → AV) (h : List Ob) : Prop :=
  ∀ T' h', (∀ t ∈ o.looksAt ops, T' t = T t) → (∀ i ∈ D.acc, h'[i]? = h[i]?) → h'.length = h.length → AL P ops (fun ex T'' h'' => ex = .normal ∧ T'' = D.T T' ∧ h'' = D.H h') [o] n T' h'
inductive RC (P : Program) (ops : Array Oper) (n : Fr) : List Oper → List Dl → (Nat → AV) → List Ob → (Nat → AV) → List Ob → Prop
  | nil {T : Nat → AV} {h : List Ob} : RC P ops n [] [] T h T h
  | cons {o : Oper} {rest : List Oper} {D : Dl} {Ds : List Dl} {T T1 T2 : Nat → AV} {h h1 h2 : List Ob} (hd : D.dst = o.dst) (hs : StepA P ops n o D T h) (hT : D.T T = T1) (hH : D.H h = h1) (k : RC P ops n rest Ds T1 h1 T2 h2) : RC P ops n (o :: rest) (D :: Ds) T h T2 h2
theorem RC.end_ {P : Program} {ops : Array Oper} {n : Fr} {l : List Oper} {Ds : List Dl} {T T2 : Nat → AV} {h h2 : List Ob} (hr : RC P ops n l Ds T h T2 h2) : foldT Ds (fun _ => true) T = T2 ∧ foldH Ds (fun _ => true) h = h2 := by
  induction hr with
  | nil => exact ⟨rfl, rfl⟩
  | cons hd hs hT hH k ih => subst hT hH; exact ih
/-- .. from what was walked so far (acc), in front of what holds at the end (F). -/
def RG (P : Program) (ops : Array Oper) (n : Fr) (F : List Dl → (Nat → AV) → List Ob → Prop) (l : List Oper) (acc : List Dl) (T : Nat → AV) (h : List Ob) : Prop := ∃ Ds T2 h2, RC P ops n l Ds T h T2 h2 ∧ F (acc ++ Ds) T2 h2
theorem RG.nil {P : Program} {ops : Array Oper} {n : Fr} {F : List Dl → (Nat → AV) → List Ob → Prop} {acc : List Dl} {T : Nat → AV} {h : List Ob} (k : F acc T h) : RG P ops n F [] acc T h := ⟨[], T, h, .nil, by rw [List.append_nil]; exact k⟩
theorem RG.cons {P : Program} {ops : Array Oper} {n : Fr} {F : List Dl → (Nat → AV) → List Ob → Prop} {o : Oper} {rest : List Oper} {acc : List Dl} {D : Dl} {T T1 : Nat → AV} {h h1 : List Ob} (hd : D.dst = o.dst) (hs : StepA P ops n o D T h) (hT : D.T T = T1) (hH : D.H h = h1)
    (k : RG P ops n F rest (acc ++ [D]) T1 h1) : RG P ops n F (o :: rest) acc T h := by
  obtain ⟨Ds, T2, h2, h3, h4⟩ := k
  exact ⟨D :: Ds, T2, h2, .cons hd hs hT hH h3, by rw [List.append_assoc] at h4; exact h4⟩
def lt_ (k : Nat) : Nat → Bool := fun j => Nat.blt j k
theorem RC.get {P : Program} {ops : Array Oper} {n : Fr} {l : List Oper} {Ds : List Dl} {T T2 : Nat → AV} {h h2 : List Ob} (hr : RC P ops n l Ds T h T2 h2) : l.length = Ds.length ∧ ∀ (k : Nat) (o : Oper) (D : Dl), l[k]? = some o → Ds[k]? = some D → D.dst = o.dst ∧ StepA P ops n o D (foldT Ds (lt_ k) T) (foldH Ds (lt_ k) h) := by
  induction hr with
  | nil => exact ⟨rfl, fun k o D hk => by simp at hk⟩
  | @cons o rest D Ds T _ _ h _ _ hd hs hT hH k ih =>
    subst hT hH
    refine ⟨by simp [ih.1], fun k o' D' hk hD => ?_⟩
    cases k with
    | zero =>
      simp at hk hD; subst hk hD
      refine ⟨hd, ?_⟩
      have e1 : ∀ (Ds : List Dl) (S : Nat → Bool) (T : Nat → AV), (∀ j, S j = false) → foldT Ds S T = T := by
        intro Ds
        induction Ds with
        | nil => intro S T _; rfl
        | cons D Ds ih => intro S T hS; rw [foldT, hS 0, cond_false]; exact ih _ _ fun j => hS (j + 1)
      have e2 : ∀ (Ds : List Dl) (S : Nat → Bool) (h : List Ob), (∀ j, S j = false) → foldH Ds S h = h := by
        intro Ds
        induction Ds with
        | nil => intro S h _; rfl
        | cons D Ds ih => intro S h hS; rw [foldH, hS 0, cond_false]; exact ih _ _ fun j => hS (j + 1)
      have e0 : ∀ j, lt_ 0 j = false := fun j => rfl
      rw [e1 _ _ _ e0, e2 _ _ _ e0]
      exact hs
    | succ k =>
      have := ih.2 k o' D' (by simpa using hk) (by simpa using hD)
      rw [foldT, foldH]
      have e : (fun j => lt_ (k + 1) (j + 1)) = lt_ k := by
        funext j
        show Nat.blt (j + 1) (k + 1) = Nat.blt j k
        rfl
      rw [e]
      exact this
/-! what is asked of the order -/
def ancsOf (l : List Oper) : List (List Nat) := l.foldl (fun A o => A ++ [(directs o) ++ (directs o).flatMap fun d => A.getD d []]) []
def lacks (l m : List Nat) : Bool := l.all fun x => !m.contains x
def apartD (ops : Array Oper) (x y : Oper) (ax wx ay wy : List Nat) : Bool := x.apart ops y && lacks wx ay && lacks wy ax
def chkD (l : List Oper) (A : List (List Nat)) (W : List (List Nat × List Nat)) : Bool :=
  (l.length == W.length) && (W.all fun w => w.2.all fun i => w.1.contains i) &&
  (l.zipIdx.all fun (o, j) => (directs o).all (· < j) && (A.getD j []).all fun i => (directs o).contains i || (directs o).any fun d => (A.getD d []).contains i) &&
  (l.zipIdx.all fun (o, j) => (l.zipIdx.take j).all fun (p, i) => (A.getD j []).contains i || apartD l.toArray p o (W.getD i ([], [])).1 (W.getD i ([], [])).2 (W.getD j ([], [])).1 (W.getD j ([], [])).2)
theorem ancs_listed {l : List Oper} {A : List (List Nat)} (hA : ∀ (j : Nat) (o : Oper), l[j]? = some o → (∀ d ∈ directs o, d < j) ∧ ∀ i ∈ A.getD j [], i ∈ directs o ∨ ∃ d ∈ directs o, i ∈ A.getD d []) {L : Nat → Bool} (hL : ∀ (i : Nat) (o : Oper), l[i]? = some o → L i = true → ∀ j ∈ directs o, L j = true) :
    ∀ (j : Nat) (o : Oper), l[j]? = some o → L j = true → ∀ i ∈ A.getD j [], L i = true := by
  intro j
  induction j using Nat.strongRecOn with
  | _ j ih =>
    intro o ho hj i hi
    obtain ⟨h1, h2⟩ := hA j o ho
    rcases h2 i hi with h | ⟨d, hd, hid⟩
    · exact hL j o ho hj i h
    · have hdj := h1 d hd
      exact ih d hdj _ (List.getElem?_eq_getElem (by have := get_lt ho; omega)) (hL j o ho hj d hd) i hid
theorem wp_any {P : Program} {o : Oper} {a : Act} {w : World} {G K : Act → World → Prop} {F Q : Exit → Act → World → Prop} (hF : ∀ ex a w, F ex a w → ex = .normal) (hk : ∀ a w, G a w → K a w) (h : o.wp P a w G F) : o.wp P a w K Q := by
  unfold Oper.wp at *
  generalize (execOp a.eval o).run P w = r at *
  cases r with
  | halt h' w' => cases h' <;> first | exact h.elim | exact absurd (hF _ _ _ h) (by simp)
  | ok n w' =>
    match n, h with
    | .value v, h => exact hk _ _ h
    | .skip, h => exact hk _ _ h
    | .defer x, h => exact hk _ _ h
    | .enter f args, h =>
      refine Calls.mono h ?_
      intro e w'' he
      cases e with
      | returned v => exact hk _ _ he
      | panicked c => exact absurd (hF _ _ _ he) (by simp)
      | outgrown => obtain ⟨_, _, hf⟩ := he; exact absurd (hF _ _ _ hf) (by simp)
    | .row r' args, h => exact Rows.mono h fun v w'' hv => hk _ _ hv
section
variable {P : Program} {Q : QS} {n : Fr} {T : Nat → AV} {heap : List Ob}
theorem dir_of {o : Oper} {j : Nat} (h : j ∈ directs o) : ∃ e ∈ o.after, Region.binds .any e = true ∧ e.on = j := by
  unfold directs at h
  obtain ⟨e, he, rfl⟩ := List.mem_map.1 h
  obtain ⟨h1, h2⟩ := List.mem_filter.1 he
  exact ⟨e, by simpa using h1, h2, rfl⟩
theorem of_dir {o : Oper} {e : Edge} (h : e ∈ o.after) (hb : Region.binds .any e = true) : e.on ∈ directs o :=
  List.mem_map.2 ⟨e, List.mem_filter.2 ⟨by simpa using h, hb⟩, rfl⟩
theorem lt_self (i : Nat) : lt_ i i = false := by
  unfold lt_
  cases hb : Nat.blt i i with
  | false => rfl
  | true => have := Nat.le_of_ble_eq_true hb; omega
theorem lacks_spec {l m : List Nat} (h : lacks l m = true) {x : Nat} (hx : x ∈ l) : x ∉ m := by
  unfold lacks at h
  have := List.all_eq_true.1 h x hx
  simpa using this
def W_ (Ds : List Dl) : List (List Nat × List Nat) := Ds.map fun D => (D.acc, D.upd.map (·.1))
theorem AW.draw0 {id : Nat} {l : List Oper} (hm : P.follows .mixedOrders = true) {Ds : List Dl} {T2 : Nat → AV} {h2 : List Ob} (hr : RC P l.toArray n l Ds T heap T2 h2) (A : List (List Nat)) (hc : chkD l A (W_ Ds) = true) (k : Q .normal T2 h2) :
    AW P (.region id l.toArray true) Q n T heap := by
  rw [← hr.end_.1, ← hr.end_.2] at k
  obtain ⟨hlen, hst⟩ := hr.get
  simp only [chkD, Bool.and_eq_true] at hc
  obtain ⟨⟨⟨_, c1⟩, c2⟩, c3⟩ := hc
  have hW : ∀ (j : Nat) (D : Dl), Ds[j]? = some D → (W_ Ds).getD j ([], []) = (D.acc, D.upd.map (·.1)) := fun j D hj => by
    simp only [W_, List.getD_eq_getElem?_getD, List.getElem?_map, hj, Option.map_some, Option.getD_some]
  have hsub : ∀ (j : Nat) (D : Dl), Ds[j]? = some D → ∀ i ∈ D.upd.map (·.1), i ∈ D.acc := fun j D hj i hi => by
    have h1 := List.all_eq_true.1 c1 (D.acc, D.upd.map (·.1)) (List.mem_map.2 ⟨D, List.mem_of_getElem? hj, rfl⟩)
    have h2 := List.all_eq_true.1 h1 i hi
    simpa using h2
  have zip : ∀ (j : Nat) (o : Oper), l[j]? = some o → (o, j) ∈ l.zipIdx := fun j o hj => List.mem_zipIdx_iff_getElem?.2 hj
  have hA : ∀ (j : Nat) (o : Oper), l[j]? = some o → (∀ d ∈ directs o, d < j) ∧ ∀ i ∈ A.getD j [], i ∈ directs o ∨ ∃ d ∈ directs o, i ∈ A.getD d [] := fun j o hj => by
    have h1 := List.all_eq_true.1 c2 _ (zip j o hj)
    simp only [Bool.and_eq_true] at h1
    refine ⟨fun d hd => ?_, fun i hi => ?_⟩
    · simpa using List.all_eq_true.1 h1.1 d hd
    · have h2 := List.all_eq_true.1 h1.2 i hi
      simp only [Bool.or_eq_true, List.any_eq_true, List.contains_iff_mem] at h2
      exact h2
  have hP : ∀ (i j : Nat) (p o : Oper), i < j → l[i]? = some p → l[j]? = some o → i ∈ A.getD j [] ∨ apartD l.toArray p o ((W_ Ds).getD i ([], [])).1 ((W_ Ds).getD i ([], [])).2 ((W_ Ds).getD j ([], [])).1 ((W_ Ds).getD j ([], [])).2 = true := fun i j p o hij hi hj => by
    have h1 := List.all_eq_true.1 c3 _ (zip j o hj)
    have h2 := List.all_eq_true.1 h1 (p, i) (by
      refine List.mem_of_getElem? (i := i) ?_
      rw [List.getElem?_take, if_pos hij, List.getElem?_zipIdx, hi]; simp)
    simp only [Bool.or_eq_true, List.contains_iff_mem] at h2
    exact h2
  intro e a w hR
  refine wp_region_any hm ?_
  have hR' : Rep e ⟨n, T, heap⟩ a w.drew := by
    obtain ⟨ρ, Z, Y, h⟩ := hR
    refine ⟨ρ, Z, Y, ⟨?_, h.defers, h.n, h.hl, fun t v ht => ?_⟩⟩
    · refine Ok.mono h.ok ?_ (fun j k hj => ⟨hj, rfl⟩) ⟨rfl, rfl, rfl⟩ (Nat.le_refl _) h.ok.dom (fun _ h => h) (fun _ h => h) (fun b hb => .inl hb) (fun b _ _ => rfl)
      exact ⟨fun i o hi => Ob.holds_mono (w := w) (w' := w.drew) (fun x v hv => Val.mono (w := w) (w' := w.drew) (fun i k hk => ⟨hk, rfl⟩) (fun b hb => ⟨hb, rfl⟩) (fun b hb => ⟨hb, rfl⟩) hv) (fun _ _ => rfl) (fun b hb => ⟨hb, rfl⟩) (fun _ _ => rfl) (h.ok.rep.obs i o hi), h.ok.rep.apart, h.ok.rep.own, h.ok.rep.zy, h.ok.rep.ylt⟩
    · exact Val.mono (w := w) (w' := w.drew) (fun i k hk => ⟨hk, rfl⟩) (fun b hb => ⟨hb, rfl⟩) (fun b hb => ⟨hb, rfl⟩) (h.at_ t v ht)
  have main : ∀ (fuel : Nat) (listed : Array Bool) (a : Act) (w : World), listed.size = l.length → (∀ (i : Nat) (o : Oper), l[i]? = some o → listed.getD i false = true → ∀ j ∈ directs o, listed.getD j false = true) →
      (List.range l.length).countP (fun j => !listed.getD j false) ≤ fuel → Rep e ⟨n, foldT Ds (fun j => listed.getD j false) T, foldH Ds (fun j => listed.getD j false) heap⟩ a w → wpAny P .any l.toArray (lift e n Q) fuel listed a w := by
    have done : ∀ (listed : Array Bool) (a : Act) (w : World), listed.size = l.length → (∀ j, j < l.length → listed.getD j false = true) → Rep e ⟨n, foldT Ds (fun j => listed.getD j false) T, foldH Ds (fun j => listed.getD j false) heap⟩ a w → lift e n Q .normal a w := by
      intro listed a w hs hall hR
      have e1 : foldT Ds (fun j => listed.getD j false) T = foldT Ds (fun _ => true) T := funext fun t => foldT_same Ds _ _ _ _ t rfl fun j D hj _ => hall j (by have := get_lt hj; omega)
      have e2 : foldH Ds (fun j => listed.getD j false) heap = foldH Ds (fun _ => true) heap := List.ext_getElem? fun i => foldH_same Ds _ _ _ _ i rfl rfl fun j D hj _ => hall j (by have := get_lt hj; omega)
      rw [e1, e2] at hR
      exact ⟨_, _, k, hR⟩
    intro fuel
    induction fuel with
    | zero =>
      intro listed a w hs hdc hcnt hR
      have hall : ∀ j, j < l.length → listed.getD j false = true := fun j hj => by
        have h0 : (List.range l.length).countP (fun j => !listed.getD j false) = 0 := by omega
        have := List.countP_eq_zero.1 h0 j (List.mem_range.2 hj)
        simpa using this
      exact ⟨ready_none hs hall, done listed a w hs hall hR⟩
    | succ fuel ih =>
      intro listed a w hs hdc hcnt hR
      refine ⟨fun hrd => ?_, fun i hi => ?_⟩
      · refine done listed a w hs (fun j hj => ?_) hR
        cases hb : listed.getD j false with
        | true => rfl
        | false =>
          -- the first that is not listed is ready
          have ex : ∃ q, q < l.length ∧ listed.getD q false = false ∧ ∀ r, r < q → listed.getD r false = true := by
            have key : ∀ m, (∃ q, q < m ∧ q < l.length ∧ listed.getD q false = false) → ∃ q, q < l.length ∧ listed.getD q false = false ∧ ∀ r, r < q → listed.getD r false = true := by
              intro m
              induction m with
              | zero => rintro ⟨q, h, _⟩; omega
              | succ m ihm =>
                rintro ⟨q, h1, h2, h3⟩
                by_cases hlow : ∃ q, q < m ∧ q < l.length ∧ listed.getD q false = false
                · exact ihm hlow
                · refine ⟨q, h2, h3, fun r hr => ?_⟩
                  cases hb' : listed.getD r false with
                  | true => rfl
                  | false => exact absurd ⟨r, by omega, by omega, hb'⟩ hlow
            exact key l.length ⟨j, hj, hj, hb⟩
          obtain ⟨q, q1, q2, q3⟩ := ex
          have hq := List.getElem?_eq_getElem q1
          have : q ∈ Region.ready .any l.toArray listed := mem_ready.2 ⟨by rw [listed_get hs q1]; exact q2, l[q], by simp, fun d hd hb => q3 d.on ((hA q _ hq).1 d.on (of_dir hd hb))⟩
          rw [hrd] at this
          simp at this
      · obtain ⟨h0, o, ho, hdir⟩ := mem_ready.1 hi
        have ho' : l[i]? = some o := by simpa using ho
        have hil := get_lt ho'
        rw [listed_get hs hil] at h0
        have hD := List.getElem?_eq_getElem (l := Ds) (i := i) (by omega)
        obtain ⟨hdst, hstep⟩ := hst i o _ ho' hD
        generalize Ds[i] = D at *
        let S : Nat → Bool := fun j => listed.getD j false
        let S' : Nat → Bool := fun j => (listed.setIfInBounds i true).getD j false
        have hS' : ∀ j, S' j = if j = i then true else S j := fun j => by
          show (listed.setIfInBounds i true).getD j false = _
          rw [set_get hs hil]; rfl
        have hS'dc : ∀ (q : Nat) (p : Oper), l[q]? = some p → S' q = true → ∀ j ∈ directs p, S' j = true := fun q p hq hS j hj => by
          rw [hS'] at hS ⊢
          split
          · rfl
          · split at hS
            · rename_i e1; subst e1
              rw [ho'] at hq; cases hq
              obtain ⟨ed, h1, h2, rfl⟩ := dir_of hj
              exact hdir ed h1 h2
            · exact hdc q p hq hS j hj
        -- those of another side of i touch nothing of it
        have far : ∀ (j : Nat) (D' : Dl), Ds[j]? = some D' → j ≠ i → S j ≠ lt_ i j → (∀ d, D'.dst = some d → d ∉ o.looksAt l.toArray ∧ D.dst ≠ some d) ∧ (∀ q ∈ D'.upd.map (·.1), q ∉ D.acc) := by
          intro j D' hj hne hSj
          have hjl : j < l.length := by have := get_lt hj; omega
          have hjo := List.getElem?_eq_getElem hjl
          obtain ⟨hdst', _⟩ := hst j _ D' hjo hj
          rcases Nat.lt_or_gt_of_ne hne with hlt | hgt
          · have hSf : S j = false := by
              have : lt_ i j = true := Nat.ble_eq_true_of_le hlt
              rw [this] at hSj; simpa using hSj
            rcases hP j i _ o hlt hjo ho' with hin | hap
            · have := ancs_listed hA hS'dc i o ho' (by rw [hS', if_pos rfl]) j hin
              rw [hS', if_neg hne] at this
              rw [hSf] at this; cases this
            · rw [hW j D' hj, hW i D hD] at hap
              simp only [apartD, Bool.and_eq_true] at hap
              obtain ⟨⟨hap, hw1⟩, hw2⟩ := hap
              have sp := Oper.apart_spec hap
              exact ⟨fun d hd => ⟨sp.1 d (by rw [← hdst']; exact hd), fun hd' => sp.2.1 d (by rw [← hdst']; exact hd) (by rw [← hdst]; exact hd')⟩, fun q hq => lacks_spec hw1 hq⟩
          · have hSt : S j = true := by
              have : lt_ i j = false := by
                cases hb : lt_ i j with
                | false => rfl
                | true => have := Nat.le_of_ble_eq_true hb; omega
              rw [this] at hSj; simpa using hSj
            rcases hP i j o _ hgt ho' hjo with hin | hap
            · have := ancs_listed hA hdc j _ hjo hSt i hin
              rw [h0] at this; cases this
            · rw [hW j D' hj, hW i D hD] at hap
              simp only [apartD, Bool.and_eq_true] at hap
              obtain ⟨⟨hap, hw1⟩, hw2⟩ := hap
              have sp := Oper.apart_spec hap
              exact ⟨fun d hd => ⟨sp.2.2 d (by rw [← hdst']; exact hd), fun hd' => sp.2.1 d (by rw [← hdst]; exact hd') (by rw [← hdst']; exact hd)⟩, fun q hq => lacks_spec hw2 hq⟩
        have hl' := hstep (foldT Ds S T) (foldH Ds S heap) (fun t ht => ?_) (fun q hq => ?_) (by rw [foldH_len, foldH_len])
        · have hlw := hl' e a w hR
          unfold wpList at hlw
          unfold wpOp
          rw [ho]
          simp only
          have fin : ∀ a' w', wpList P l.toArray (lift e n fun ex T'' h'' => ex = .normal ∧ T'' = D.T (foldT Ds S T) ∧ h'' = D.H (foldH Ds S heap)) [] a' w' → wpAny P .any l.toArray (lift e n Q) fuel (listed.setIfInBounds i true) a' w' := by
            intro a' w' hf
            obtain ⟨T'', h'', ⟨_, rfl, rfl⟩, hR''⟩ := hf
            refine ih (listed.setIfInBounds i true) a' w' (by simpa using hs) hS'dc ?_ ?_
            · have := cnt_upd (fun j => !listed.getD j false) (fun j => !(listed.setIfInBounds i true).getD j false) i (by simp [h0]) (by rw [set_get hs hil]; simp [upd]) (fun j hj => by rw [set_get hs hil]; simp [upd, hj]) l.length hil
              omega
            · have e1 : foldT Ds S' T = D.T (foldT Ds S T) := funext fun t => by
                by_cases hd : D.dst = some t
                · rw [Dl.T_in hd]
                  refine foldT_at Ds S' T t i D hD hd (by rw [hS', if_pos rfl]) fun j D' hij hj hSj hd' => ?_
                  rw [hS', if_neg (by omega)] at hSj
                  exact ((far j D' hj (by omega) (by
                    have : lt_ i j = false := by
                      cases hb : lt_ i j with
                      | false => rfl
                      | true => have := Nat.le_of_ble_eq_true hb; omega
                    rw [hSj, this]; simp)).1 t hd').2 hd
                · rw [Dl.T_out hd]
                  refine foldT_same Ds S' S T T t rfl fun j D' hj hd' => ?_
                  rw [hS', if_neg fun e => hd (by subst e; rw [hD] at hj; cases hj; exact hd')]
              have e2 : foldH Ds S' heap = D.H (foldH Ds S heap) := List.ext_getElem? fun q => by
                by_cases hd : q ∈ D.upd.map (·.1)
                · refine foldH_at Ds S' heap _ q i D hD hd (by rw [hS', if_pos rfl]) (foldH_len _ _ _) fun j D' hij hj hSj hd' => ?_
                  rw [hS', if_neg (by omega)] at hSj
                  exact (far j D' hj (by omega) (by
                    have : lt_ i j = false := by
                      cases hb : lt_ i j with
                      | false => rfl
                      | true => have := Nat.le_of_ble_eq_true hb; omega
                    rw [hSj, this]; simp)).2 q hd' (hsub i D hD q hd)
                · rw [show D.H (foldH Ds S heap) = setAll (foldH Ds S heap) D.upd from rfl, setAll_out _ _ q hd]
                  refine foldH_same Ds S' S heap heap q rfl rfl fun j D' hj hd' => ?_
                  rw [hS', if_neg fun e => hd (by subst e; rw [hD] at hj; cases hj; exact hd')]
              have e1' : foldT Ds (fun j => (listed.setIfInBounds i true).getD j false) T = D.T (foldT Ds S T) := e1
              have e2' : foldH Ds (fun j => (listed.setIfInBounds i true).getD j false) heap = D.H (foldH Ds S heap) := e2
              rw [e1', e2']
              exact hR''
          split at hlw
          · rename_i hwt
            rw [if_pos hwt]
            rcases hlw with hlw | ⟨_, hlw⟩
            · exact .inl (wp_any (fun ex a w ⟨_, _, hq, _⟩ => hq.1) fin hlw)
            · obtain ⟨_, _, _, _, hq, _⟩ := hlw
              exact absurd hq.1 (by simp)
          · rename_i hwt
            rw [if_neg hwt]
            exact fin _ _ hlw
        · refine foldT_same Ds S (lt_ i) T T t rfl fun j D' hj hd' => ?_
          by_cases hji : j = i
          · subst hji
            show listed.getD j false = _
            rw [h0, lt_self]
          · by_cases hS : S j = lt_ i j
            · exact hS
            · exact absurd ht ((far j D' hj hji hS).1 t hd').1
        · refine foldH_same Ds S (lt_ i) heap heap q rfl rfl fun j D' hj hd' => ?_
          by_cases hji : j = i
          · subst hji
            show listed.getD j false = _
            rw [h0, lt_self]
          · by_cases hS : S j = lt_ i j
            · exact hS
            · exact absurd hq ((far j D' hj hji hS).2 q hd')
  have z : ∀ j, (Array.replicate l.toArray.size false).getD j false = false := fun j => by
    simp [Array.getD_eq_getD_getElem?, Array.getElem?_replicate]; split <;> rfl
  refine main _ _ _ _ (by simp) (fun i o _ hl => by rw [z] at hl; simp at hl) ?_ ?_
  · have h1 : (List.range l.length).countP (fun j => !(Array.replicate l.toArray.size false).getD j false) ≤ (List.range l.length).length := List.countP_le_length
    simp at h1 ⊢
    omega
  · have e1 : foldT Ds (fun j => (Array.replicate l.toArray.size false).getD j false) T = T := by
      have : ∀ (Ds : List Dl) (S : Nat → Bool) (T : Nat → AV), (∀ j, S j = false) → foldT Ds S T = T := by
        intro Ds
        induction Ds with
        | nil => intro S T _; rfl
        | cons D Ds ih => intro S T hS; rw [foldT, hS 0, cond_false]; exact ih _ _ fun j => hS (j + 1)
      exact this _ _ _ z
    have e2 : foldH Ds (fun j => (Array.replicate l.toArray.size false).getD j false) heap = heap := by
      have : ∀ (Ds : List Dl) (S : Nat → Bool) (h : List Ob), (∀ j, S j = false) → foldH Ds S h = h := by
        intro Ds
        induction Ds with
        | nil => intro S h _; rfl
        | cons D Ds ih => intro S h hS; rw [foldH, hS 0, cond_false]; exact ih _ _ fun j => hS (j + 1)
      exact this _ _ _ z
    rw [e1, e2]
    exact hR'
/-- Places that are kept for what the region makes. -/
theorem Wk.holes (m : Nat) {heap' : List Ob} (hh : heap ++ List.replicate m .hole = heap') : Wk n T heap T heap' := by
  subst hh
  rintro e a w ⟨ρ, Z, Y, hR⟩
  have hat : AtL heap heap.length (List.replicate m .hole) (heap ++ List.replicate m .hole) := .push rfl rfl
  have hole : ∀ (q : Nat) (o : Ob), (List.replicate m Ob.hole)[q]? = some o → o = .hole := fun q o hq => by
    have := List.mem_of_getElem? hq
    exact (List.mem_replicate.1 this).2
  refine ⟨ρ, Z, Y, hR.move (hR.ok.push hat (fun _ _ _ => rfl) ⟨rfl, rfl, rfl⟩ (Nat.le_refl _) (fun _ _ => rfl) (fun _ h => h) (fun _ h => h) hR.ok.rep.zy (fun b hb => .inl hb) (fun b hb => .inl hb) (fun q o hq => ?_) (fun q r o o' b hq _ hb _ => ?_) (fun q o b hq hb => ?_)) (fun x v hv => hv.mono (fun i k hk => ⟨(hat.kn hk).1, rfl⟩) (fun b hb => ⟨hb, rfl⟩) (fun b hb => ⟨hb, rfl⟩))⟩
  · rw [hole q o hq]; trivial
  · rw [hole q o hq] at hb; cases hb
  · rw [hole q o hq] at hb; cases hb
theorem AW.draw {id : Nat} {l : List Oper} (hm : P.follows .mixedOrders = true) (m : Nat) {heap1 : List Ob} (hh : heap ++ List.replicate m .hole = heap1) {Ds : List Dl} {T2 : Nat → AV} {h2 : List Ob} (hr : RC P l.toArray n l Ds T heap1 T2 h2) (A : List (List Nat)) (hc : chkD l A (W_ Ds) = true) (k : Q .normal T2 h2) : AW P (.region id l.toArray true) Q n T heap :=
  AW.wk (Wk.holes m hh) (AW.draw0 hm hr A hc k)
end
end Go.Proofs.Ytkichjejadkdgaa
