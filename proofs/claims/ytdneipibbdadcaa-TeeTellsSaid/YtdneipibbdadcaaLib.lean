/- Small lemmas on worlds and numbers that all texts of this seat use; no program in sight. -/
import Derived.WalkKit
import Derived.WalkSpells
import Derived.WalkLawsBesides
import Derived.Lib.Hide
import Derived.Deep.RegionHeld3
namespace Go.Proofs.Ytdneipibbdadcaa
set_option linter.unusedVariables false
set_option linter.unusedSimpArgs false
set_option linter.unnecessarySimpa false
open Go.RowKit
@[go_sem] theorem lt2 (n : Nat) : n < n + 1 + 1 := by omega
@[go_sem] theorem lt3 (n : Nat) : n < n + 1 + 1 + 1 := by omega
@[go_sem] theorem lt4 (n : Nat) : n < n + 1 + 1 + 1 + 1 := by omega
@[go_sem] theorem lt5 (n : Nat) : n < n + 1 + 1 + 1 + 1 + 1 := by omega
@[go_sem] theorem lt6 (n : Nat) : n < n + 1 + 1 + 1 + 1 + 1 + 1 := by omega
@[go_sem] theorem lt7 (n : Nat) : n < n + 1 + 1 + 1 + 1 + 1 + 1 + 1 := by omega
@[go_sem] theorem lt8 (n : Nat) : n < n + 1 + 1 + 1 + 1 + 1 + 1 + 1 + 1 := by omega
@[go_sem] theorem lt9 (n : Nat) : n < n + 1 + 1 + 1 + 1 + 1 + 1 + 1 + 1 + 1 := by omega
theorem bcell {W w1 : World} (hb : Below W.heap.size W w1) : (∀ b o, b < W.heap.size → w1.cell? ⟨b, o, none⟩ = W.cell? ⟨b, o, none⟩) ∧ (∀ b o, b < W.heap.size → w1.frozen? ⟨b, o, none⟩ = W.frozen? ⟨b, o, none⟩) :=
  ⟨fun b o h => hb.cell (p := ⟨b, o, none⟩) h, fun b o h => hb.frozen (p := ⟨b, o, none⟩) h⟩
theorem ret_bool {a b : Bool} (h : a = b) : Ending.returned (.bool a) = .returned (.bool b) := by rw [h]
theorem ret_int {k : IntKind} {a b : Int} (h : a = b) : Ending.returned (.int k a) = .returned (.int k b) := by rw [h]
def good (i t : Int) : Bool := decide (0 ≤ i ∧ i ≤ 65534 ∧ 1 ≤ t ∧ t ≤ 4294967295)
theorem good_iff {i t : Int} : good i t = true ↔ 0 ≤ i ∧ i ≤ 65534 ∧ 1 ≤ t ∧ t ≤ 4294967295 := by unfold good; simp
def word (i t : Int) : Int := if good i t then t * 65536 + i + 1 else 0
theorem word_no {i t : Int} (h : good i t = false) : word i t = 0 := by unfold word; rw [h]; rfl
theorem word_yes {i t : Int} (h : good i t = true) : word i t = t * 65536 + i + 1 := by unfold word; rw [h]; rfl
theorem or_join (s : Nat) (a b : Int) (ha : 0 ≤ a) (hb : 0 ≤ b) (hs : b < 2 ^ s) (hm : a % 2 ^ s = 0) (hA : a < 18446744073709551616) (hB : b < 18446744073709551616) :
    bits .or .u64 a b = a + b := by
  rw [u64_or a b ha hA hb hB, nat_join s]
  · omega
  · have : ((a.toNat : Int)) % ((2 ^ s : Nat) : Int) = 0 := by rw [Int.toNat_of_nonneg ha]; simpa using hm
    exact_mod_cast this
  · have : (b.toNat : Int) < ((2 ^ s : Nat) : Int) := by rw [Int.toNat_of_nonneg hb]; simpa using hs
    exact_mod_cast this
theorem word_or {i t : Int} (h : good i t = true) :
    bits BinOp.or IntKind.u64 (IntKind.u64.wrap (IntKind.u64.wrap t * 65536)) (IntKind.u64.wrap (wrap64 (i + 1))) = word i t := by
  obtain ⟨a, b, c, d⟩ := good_iff.1 h
  rw [word_yes h]
  have e1 : wrap64 (i + 1) = i + 1 := by unfold wrap64; omega
  have e2 : IntKind.u64.wrap (i + 1) = i + 1 := by rw [IntKind.wrap_u64]; omega
  have e3 : IntKind.u64.wrap t = t := by rw [IntKind.wrap_u64]; omega
  have e4 : IntKind.u64.wrap (t * 65536) = t * 65536 := by rw [IntKind.wrap_u64]; omega
  rw [e1, e2, e3, e4, or_join 16 _ _ (by omega) (by omega) (by omega) (by omega) (by omega) (by omega)]
  omega
theorem word_sum {i t : Int} (h : good i t = true) :
    IntKind.u64.wrap (IntKind.u64.wrap (IntKind.u64.wrap (IntKind.u64.wrap t * 65536) + IntKind.u64.wrap i) + 1) = word i t := by
  obtain ⟨a, b, c, d⟩ := good_iff.1 h
  rw [word_yes h]
  simp only [IntKind.wrap_u64]
  omega
theorem and_mask (s : Nat) (x m : Int) (h0 : 0 ≤ x) (h1 : x < 18446744073709551616) (hs : m = ((2 ^ s - 1 : Nat) : Int)) (h2 : m < 18446744073709551616) : bits .and .u64 x m = x % ((2 ^ s : Nat) : Int) := by
  subst hs
  rw [u64_and x _ h0 h1 (by omega) h2, Int.toNat_natCast, Nat.and_two_pow_sub_one_eq_mod]
  rw [Int.natCast_emod, Int.toNat_of_nonneg h0]
theorem word_bounds (i t : Int) : 0 ≤ word i t ∧ word i t < 18446744073709551616 := by
  cases h : good i t
  · rw [word_no h]; omega
  · have := good_iff.1 h; rw [word_yes h]; omega
def rdOk (x : Int) : Bool := decide (x % 65536 ≠ 0 ∧ 1 ≤ x / 65536 ∧ x / 65536 ≤ 4294967295)
def rdI (x : Int) : Int := if rdOk x then x % 65536 - 1 else 0
def rdT (x : Int) : Int := if rdOk x then x / 65536 else 0
theorem rd_yes {x : Int} (h0 : 0 ≤ x) (h1 : x < 18446744073709551616) (hw : word (x % 65536 - 1) (x / 65536 % 4294967296) = x) (hx : (x == 0) = false) :
    rdI x = x % 65536 - 1 ∧ rdT x = x / 65536 % 4294967296 ∧ rdOk x = true := by
  have hx' : x ≠ 0 := by simpa using hx
  cases hg : good (x % 65536 - 1) (x / 65536 % 4294967296)
  · rw [word_no hg] at hw; omega
  · have ⟨a, b, c, d⟩ := good_iff.1 hg
    rw [word_yes hg] at hw
    have hok : rdOk x = true := by unfold rdOk; simp; omega
    unfold rdI rdT; rw [if_pos hok, if_pos hok]; exact ⟨rfl, by omega, hok⟩
theorem rd_no {x : Int} (h0 : 0 ≤ x) (h1 : x < 18446744073709551616) (hw : word (x % 65536 - 1) (x / 65536 % 4294967296) ≠ x ∨ (x == 0) = true) :
    rdI x = 0 ∧ rdT x = 0 ∧ rdOk x = false := by
  have hok : rdOk x = false := by
    unfold rdOk; apply decide_eq_false; rintro ⟨a, b, c⟩
    have hg : good (x % 65536 - 1) (x / 65536 % 4294967296) = true := good_iff.2 ⟨by omega, by omega, by omega, by omega⟩
    rcases hw with hw | hw
    · rw [word_yes hg] at hw; omega
    · have : x = 0 := by simpa using hw
      omega
  unfold rdI rdT; rw [hok]; exact ⟨rfl, rfl, rfl⟩
theorem rd_ref_no {x : Int} (h : ¬ (x % 65536 ≠ 0 ∧ 1 ≤ x / 65536 ∧ x / 65536 ≤ 4294967295)) : rdI x = 0 ∧ rdT x = 0 ∧ rdOk x = false := by
  have hok : rdOk x = false := decide_eq_false h
  unfold rdI rdT; rw [hok]; exact ⟨rfl, rfl, rfl⟩
theorem rd_ref_yes {x : Int} (h : x % 65536 ≠ 0 ∧ 1 ≤ x / 65536 ∧ x / 65536 ≤ 4294967295) : rdI x = x % 65536 - 1 ∧ rdT x = x / 65536 ∧ rdOk x = true := by
  have hok : rdOk x = true := decide_eq_true h
  unfold rdI rdT; rw [if_pos hok, if_pos hok]; exact ⟨rfl, rfl, hok⟩
def nxOk (i t last : Int) : Bool := decide (0 ≤ t ∧ t < last ∧ t < 4294967295 ∧ 0 ≤ i ∧ i ≤ 65534)
def nxI (i t last : Int) : Int := if nxOk i t last then i else 0
def nxT (i t last : Int) : Int := if nxOk i t last then t + 1 else 0
theorem nx_yes {i t last : Int} (h : 0 ≤ t ∧ t < last ∧ t < 4294967295 ∧ 0 ≤ i ∧ i ≤ 65534) : nxI i t last = i ∧ nxT i t last = t + 1 ∧ nxOk i t last = true := by
  have hok : nxOk i t last = true := decide_eq_true h
  unfold nxI nxT; rw [if_pos hok, if_pos hok]; exact ⟨rfl, rfl, hok⟩
theorem nx_no {i t last : Int} (h : ¬ (0 ≤ t ∧ t < last ∧ t < 4294967295 ∧ 0 ≤ i ∧ i ≤ 65534)) : nxI i t last = 0 ∧ nxT i t last = 0 ∧ nxOk i t last = false := by
  have hok : nxOk i t last = false := decide_eq_false h
  unfold nxI nxT; rw [hok]; exact ⟨rfl, rfl, rfl⟩
def rless (i t j u : Int) : Bool := decide (i < j ∨ i = j ∧ t < u)
def hdl (p g : Int) : Int := if 0 ≤ p ∧ p ≤ 7 ∧ 1 ≤ g ∧ g ≤ 4095 then g * 8 + p else 0
def plOk (h : Int) : Bool := decide (8 ≤ h ∧ h ≤ 32767)
def plP (h : Int) : Int := if plOk h then h % 8 else 0
def plG (h : Int) : Int := if plOk h then h / 8 else 0
theorem pl_yes {h : Int} (a : 8 ≤ h) (b : h ≤ 32767) : plP h = h % 8 ∧ plG h = h / 8 ∧ plOk h = true := by
  have hok : plOk h = true := decide_eq_true ⟨a, b⟩
  unfold plP plG; rw [if_pos hok, if_pos hok]; exact ⟨rfl, rfl, hok⟩
theorem pl_no {h : Int} (a : ¬ (8 ≤ h ∧ h ≤ 32767)) : plP h = 0 ∧ plG h = 0 ∧ plOk h = false := by
  have hok : plOk h = false := decide_eq_false a
  unfold plP plG; rw [hok]; exact ⟨rfl, rfl, rfl⟩
theorem rd_good {x : Int} (h0 : 0 ≤ x) (h1 : x < 18446744073709551616) (h : rdOk x = true) : good (rdI x) (rdT x) = true ∧ word (rdI x) (rdT x) = x := by
  have hx : x % 65536 ≠ 0 ∧ 1 ≤ x / 65536 ∧ x / 65536 ≤ 4294967295 := by unfold rdOk at h; exact of_decide_eq_true h
  obtain ⟨a, b, c⟩ := rd_ref_yes hx
  have hg : good (x % 65536 - 1) (x / 65536) = true := good_iff.2 ⟨by omega, by omega, by omega, by omega⟩
  rw [a, b]; exact ⟨hg, by rw [word_yes hg]; omega⟩
theorem rd_word {i t : Int} (h : good i t = true) : rdOk (word i t) = true ∧ rdI (word i t) = i ∧ rdT (word i t) = t := by
  obtain ⟨a, b, c, d⟩ := good_iff.1 h
  rw [word_yes h]
  obtain ⟨x, y, z⟩ := rd_ref_yes (x := t * 65536 + i + 1) ⟨by omega, by omega, by omega⟩
  exact ⟨z, by rw [x]; omega, by rw [y]; omega⟩
theorem rd_word_no {i t : Int} (h : good i t = false) : rdOk (word i t) = false := by
  rw [word_no h]; decide
theorem rless_irr {i t : Int} : rless i t i t = false := by unfold rless; apply decide_eq_false; omega
theorem rless_asym {i t j u : Int} (h : rless i t j u = true) : rless j u i t = false := by
  unfold rless at *; have := of_decide_eq_true h; apply decide_eq_false; omega
theorem rless_tot {i t j u : Int} (h : rless i t j u = false) (h' : rless j u i t = false) : i = j ∧ t = u := by
  unfold rless at *; have := of_decide_eq_false h; have := of_decide_eq_false h'; omega
theorem rless_ne {i t j u : Int} (h : rless i t j u = true) : ¬ (i = j ∧ t = u) := by
  unfold rless at *; have := of_decide_eq_true h; omega
theorem rless_trans {i t j u k v : Int} (h : rless i t j u = true) (h' : rless j u k v = true) : rless i t k v = true := by
  unfold rless at *; have := of_decide_eq_true h; have := of_decide_eq_true h'; apply decide_eq_true; omega
theorem hdl_pl {h : Int} (k : plOk h = true) : hdl (plP h) (plG h) = h := by
  have hb : 8 ≤ h ∧ h ≤ 32767 := by unfold plOk at k; exact of_decide_eq_true k
  obtain ⟨a, b, _⟩ := pl_yes hb.1 hb.2
  rw [a, b]; unfold hdl; rw [if_pos (by omega)]; omega
theorem pl_hdl {p g : Int} (k : plOk (hdl p g) = true) : plP (hdl p g) = p ∧ plG (hdl p g) = g := by
  have hb : 8 ≤ hdl p g ∧ hdl p g ≤ 32767 := by unfold plOk at k; exact of_decide_eq_true k
  obtain ⟨a, b, _⟩ := pl_yes hb.1 hb.2
  rw [a, b]; unfold hdl at *; split at hb
  · rw [if_pos ‹_›]; omega
  · omega
end Go.Proofs.Ytdneipibbdadcaa
