/- Making a direction: contracts. -/
import Derived.Test.YtincelkcbdjcjaaDirOps
import Derived.StillTailTactics
import Derived.Deep.RegionHeld3
import Derived.Deep.DeepCutAuto
namespace Go.Proofs.Ytincelkcbdjcjaa
open Go.RowKit
set_option linter.unusedVariables false

def dOk (m n : Int) : Bool := inB n 2 1000 && inB m 1 (n - 1) && decide (n * n + m * m ≤ 1000)
def dG (m n : Int) : Int := Int.gcd (Int.gcd (n * n - m * m) (2 * m * n)) (n * n + m * m)
def dC (m n : Int) : Int := (n * n - m * m).tdiv (dG m n)
def dS (m n : Int) (b : Bool) : Int := if b then (2 * m * n).tdiv (dG m n) else -((2 * m * n).tdiv (dG m n))
def dH (m n : Int) : Int := (n * n + m * m).tdiv (dG m n)
def ndC (m n : Int) : Int := if dOk m n then dC m n else 0
def ndS (m n : Int) (b : Bool) : Int := if dOk m n then dS m n b else 0
def ndH (m n : Int) : Int := if dOk m n then dH m n else 0
def ndE (m n : Int) : Int := if dOk m n then 0 else 2
theorem dOk_bd {m n : Int} (h : dOk m n = true) : (2 ≤ n ∧ n ≤ 1000) ∧ (1 ≤ m ∧ m ≤ n - 1) ∧ n * n + m * m ≤ 1000 := by
  unfold dOk at h
  simp only [Bool.and_eq_true, decide_eq_true_eq] at h
  exact ⟨inB_t h.1.1, inB_t h.1.2, h.2⟩
set_option maxHeartbeats 4000000 in
set_option maxRecDepth 20000 in
theorem dirMkI (m n : Int) (b : Bool) (w : World) (hk : dOk m n = true) : Calls Try.prog 61 #[.int .i64 m, .int .i64 n, .bool b] w fun e w' => e = .returned (.agg #[.int .i64 (dC m n), .int .i64 (dS m n b), .int .i64 (dH m n)]) ∧ Below w.heap.size w w' := by
  obtain ⟨bn, bm, bs⟩ := dOk_bd hk
  have mp := mul_bd' (x := n) (y := n) (k := 1000) (l := 1000) (by omega) (by omega)
  have mq := mul_bd' (x := m) (y := m) (k := 1000) (l := 1000) (by omega) (by omega)
  have mr := mul_bd' (x := 2 * m) (y := n) (k := 2000) (l := 1000) (by omega) (by omega)
  have lp := Int.mul_le_mul (show 2 ≤ n by omega) (show 2 ≤ n by omega) (by omega) (by omega)
  have lq := Int.mul_le_mul (show 1 ≤ m by omega) (show 1 ≤ m by omega) (by omega) (by omega)
  have lpq := Int.mul_le_mul (show m + 1 ≤ n by omega) (show m ≤ n by omega) (by omega) (by omega)
  rw [Int.add_mul] at lpq
  have lr := Int.mul_le_mul (show 2 ≤ 2 * m by omega) (show 2 ≤ n by omega) (by omega) (by omega)
  obtain ⟨g, hg⟩ : ∃ g, dG m n = g := ⟨_, rfl⟩
  have hg' := hg
  unfold dG at hg'
  obtain ⟨p, hp⟩ : ∃ p, n * n = p := ⟨_, rfl⟩
  obtain ⟨q, hq⟩ : ∃ q, m * m = q := ⟨_, rfl⟩
  obtain ⟨r, hr⟩ : ∃ r, 2 * m * n = r := ⟨_, rfl⟩
  rw [hp, hq, hr] at hg'
  rw [hp] at mp lp lpq
  rw [hq] at mq lq lpq
  rw [hr] at mr lr
  rw [hp, hq] at bs
  have bp : 4 ≤ p ∧ p ≤ 1000 := by omega
  have bq : 1 ≤ q ∧ q ≤ 1000 := by omega
  have br : 4 ≤ r ∧ r ≤ 2000000 := by omega
  have bd : 1 ≤ p - q := by omega
  obtain ⟨g0, hg0⟩ : ∃ g0 : Int, (Int.gcd (p - q) r : Int) = g0 := ⟨_, rfl⟩
  have z0 : 0 ≤ g0 ∧ g0 ≤ 1000 := by
    have := gcd_pos (n := r) (d := p - q) (by omega)
    rw [Int.gcd_comm, hg0] at this
    omega
  rw [hg0] at hg'
  have z1 : 1 ≤ g ∧ g ≤ 1000 := by
    have := gcd_pos (n := g0) (d := p + q) (by omega)
    rw [hg'] at this
    omega
  have gz : ¬ g = 0 := by omega
  have D1 : 0 ≤ (p - q).tdiv g ∧ (p - q).tdiv g ≤ 1000 := by have := tdiv_abs (p - q) g; have := Int.tdiv_nonneg (a := p - q) (b := g) (by omega) (by omega); omega
  have D2 : 0 ≤ r.tdiv g ∧ r.tdiv g ≤ 2000000 := by have := tdiv_abs r g; have := Int.tdiv_nonneg (a := r) (b := g) (by omega) (by omega); omega
  have D3 : 0 ≤ (p + q).tdiv g ∧ (p + q).tdiv g ≤ 1000 := by have := tdiv_abs (p + q) g; have := Int.tdiv_nonneg (a := p + q) (b := g) (by omega) (by omega); omega
  have T1 : (p - q).tdiv g = (p - q) / g := Int.tdiv_eq_ediv_of_nonneg (by omega)
  have T2 : r.tdiv g = r / g := Int.tdiv_eq_ediv_of_nonneg (by omega)
  have T3 : (p + q).tdiv g = (p + q) / g := Int.tdiv_eq_ediv_of_nonneg (by omega)
  have G1 : Hid (∀ w0 : World, Calls Try.prog 67 #[.int .i64 (p - q), .int .i64 r] w0 fun e w' => e = .returned (.int .i64 g0) ∧ ∃ n, w' = w0.drewN n) := fun w0 => by
    have := gcdI (p - q) r w0 (by omega) (by omega) (by omega) (by omega)
    rw [hg0] at this
    exact this
  have G2 : Hid (∀ w0 : World, Calls Try.prog 67 #[.int .i64 g0, .int .i64 (p + q)] w0 fun e w' => e = .returned (.int .i64 g) ∧ ∃ n, w' = w0.drewN n) := fun w0 => by
    have := gcdI g0 (p + q) w0 (by omega) (by omega) (by omega) (by omega)
    rw [hg'] at this
    exact this
  have VC : Hid (dC m n = (p - q).tdiv g) := by show dC m n = _; unfold dC; rw [hp, hq, hg]
  have VH : Hid (dH m n = (p + q).tdiv g) := by show dH m n = _; unfold dH; rw [hp, hq, hg]
  have VS : Hid (dS m n b = if b then r.tdiv g else -(r.tdiv g)) := by show dS m n b = _; unfold dS; rw [hr, hg]
  have HK := Lib.hid hk
  rw [T1] at D1 VC
  rw [T2] at D2 VS
  rw [T3] at D3 VH
  have T1' := Lib.hid T1
  have T2' := Lib.hid T2
  have T3' := Lib.hid T3
  clear mp mq mr lp lq lpq lr hg hg' hg0 hk T1 T2 T3
  cases b
  all_goals
    go_enter Try.func61, Try.ntmps61
    go_upto_region 2 with fail
    go_cut [8] (fun s8 wx => s8 = .int .i64 g ∧ (wx.cell? ⟨w.heap.size + 1, 0, none⟩ = some (.int .i64 (p - q)) ∧ wx.cell? ⟨w.heap.size + 1, 1, none⟩ = some (.int .i64 r) ∧ wx.cell? ⟨w.heap.size + 1, 2, none⟩ = some (.int .i64 (p + q))) ∧ (wx.frozen? ⟨w.heap.size + 1, 0, none⟩ = false ∧ wx.frozen? ⟨w.heap.size + 1, 1, none⟩ = false ∧ wx.frozen? ⟨w.heap.size + 1, 2, none⟩ = false) ∧ (wx.cell? ⟨w.heap.size, 0, none⟩ = some (.int .i64 0) ∧ wx.cell? ⟨w.heap.size, 1, none⟩ = some (.int .i64 0) ∧ wx.cell? ⟨w.heap.size, 2, none⟩ = some (.int .i64 0)) ∧ (wx.frozen? ⟨w.heap.size, 0, none⟩ = false ∧ wx.frozen? ⟨w.heap.size, 1, none⟩ = false ∧ wx.frozen? ⟨w.heap.size, 2, none⟩ = false) ∧ Below w.heap.size w wx)
    case first =>
      go_region_held3 (fun w' => w'.cell? ⟨w.heap.size + 1, 0, none⟩ = some (.int .i64 (p - q)) ∧ w'.cell? ⟨w.heap.size + 1, 1, none⟩ = some (.int .i64 r) ∧ w'.cell? ⟨w.heap.size + 1, 2, none⟩ = some (.int .i64 (p + q))) (go_keep)
        ((first | (go_at_call 67; first | (with_reducible refine (G1.out _).mono ?_; rintro e w' ⟨rfl, q1, rfl⟩) | (with_reducible refine (G2.out _).mono ?_; rintro e w' ⟨rfl, q2, rfl⟩))))
      all_goals (go_wp2_with fail; go_meet)
      all_goals (refine ⟨rfl, ⟨?_, ?_, ?_⟩, ⟨?_, ?_, ?_⟩, ⟨?_, ?_, ?_⟩, ⟨?_, ?_, ?_⟩, ?_⟩)
      all_goals (first | (go_simp; done) | (repeat' (first | (with_reducible exact Below.refl _ _) | (with_reducible assumption) | (with_reducible refine bStep ?_ (by with_reducible assumption)) | (with_reducible refine bAlloc ?_ _) | (with_reducible refine bDrew ?_) | (with_reducible refine bDrewN ?_ _) | (with_reducible refine Below.setCell ?_ ?_ _) | (with_reducible exact Nat.le_refl _) | (simp; done) | (simp; omega))))
    case rest =>
      obtain ⟨rfl, ⟨h0, h1, h2⟩, ⟨f0, f1, f2⟩, ⟨k0, k1, k2⟩, ⟨l0, l1, l2⟩, hbel⟩ := hcut
      have ne1 : ¬ w.heap.size + 1 = w.heap.size := by omega
      have ne2 : ¬ w.heap.size = w.heap.size + 1 := by omega
      have X1 : IntKind.i64.wrap ((p - q).tdiv g) = (p - q) / g := by rw [T1'.out]; exact IntWalk.i64_in _ (by omega)
      have X2 : IntKind.i64.wrap (r.tdiv g) = r / g := by rw [T2'.out]; exact IntWalk.i64_in _ (by omega)
      have X3 : IntKind.i64.wrap ((p + q).tdiv g) = (p + q) / g := by rw [T3'.out]; exact IntWalk.i64_in _ (by omega)
      go_upto_region 3 with fail
      go_cut [8] (fun s8 wy => s8 = .int .i64 g ∧ (wy.cell? ⟨w.heap.size + 1, 0, none⟩ = some (.int .i64 ((p - q) / g)) ∧ wy.cell? ⟨w.heap.size + 1, 1, none⟩ = some (.int .i64 (r / g)) ∧ wy.cell? ⟨w.heap.size + 1, 2, none⟩ = some (.int .i64 ((p + q) / g))) ∧ (wy.frozen? ⟨w.heap.size + 1, 0, none⟩ = false ∧ wy.frozen? ⟨w.heap.size + 1, 1, none⟩ = false ∧ wy.frozen? ⟨w.heap.size + 1, 2, none⟩ = false) ∧ (wy.cell? ⟨w.heap.size, 0, none⟩ = some (.int .i64 (0)) ∧ wy.cell? ⟨w.heap.size, 1, none⟩ = some (.int .i64 (0)) ∧ wy.cell? ⟨w.heap.size, 2, none⟩ = some (.int .i64 (0))) ∧ (wy.frozen? ⟨w.heap.size, 0, none⟩ = false ∧ wy.frozen? ⟨w.heap.size, 1, none⟩ = false ∧ wy.frozen? ⟨w.heap.size, 2, none⟩ = false) ∧ Below w.heap.size w wy)
      case first =>
        go_still_tail 13, (by kernel_rfl)
        change wpList _ _ _ _ _ wc.drew
        have hd : Below w.heap.size w wc.drew := hbel.drew
        have h0' : wc.drew.cell? ⟨w.heap.size + 1, 0, none⟩ = some (.int .i64 (p - q)) := h0
        have h1' : wc.drew.cell? ⟨w.heap.size + 1, 1, none⟩ = some (.int .i64 r) := h1
        have h2' : wc.drew.cell? ⟨w.heap.size + 1, 2, none⟩ = some (.int .i64 (p + q)) := h2
        have f0' : wc.drew.frozen? ⟨w.heap.size + 1, 0, none⟩ = false := f0
        have f1' : wc.drew.frozen? ⟨w.heap.size + 1, 1, none⟩ = false := f1
        have f2' : wc.drew.frozen? ⟨w.heap.size + 1, 2, none⟩ = false := f2
        have k0' : wc.drew.cell? ⟨w.heap.size, 0, none⟩ = some (.int .i64 0) := k0
        have k1' : wc.drew.cell? ⟨w.heap.size, 1, none⟩ = some (.int .i64 0) := k1
        have k2' : wc.drew.cell? ⟨w.heap.size, 2, none⟩ = some (.int .i64 0) := k2
        have l0' : wc.drew.frozen? ⟨w.heap.size, 0, none⟩ = false := l0
        have l1' : wc.drew.frozen? ⟨w.heap.size, 1, none⟩ = false := l1
        have l2' : wc.drew.frozen? ⟨w.heap.size, 2, none⟩ = false := l2
        clear h0 h1 h2 f0 f1 f2 k0 k1 k2 l0 l1 l2 hbel
        generalize wc.drew = wd at *
        go_wp2_with fail
        go_meet
        refine ⟨rfl, ⟨?_, ?_, ?_⟩, ⟨?_, ?_, ?_⟩, ⟨?_, ?_, ?_⟩, ⟨?_, ?_, ?_⟩, ?_⟩
        all_goals (first | (go_simp; done) | (repeat' (first | (with_reducible exact Below.refl _ _) | (with_reducible assumption) | (with_reducible refine bStep ?_ (by with_reducible assumption)) | (with_reducible refine bAlloc ?_ _) | (with_reducible refine bDrew ?_) | (with_reducible refine bDrewN ?_ _) | (with_reducible refine Below.setCell ?_ ?_ _) | (with_reducible exact Nat.le_refl _) | (simp; done) | (simp; omega))))
      case rest =>
        clear h0 h1 h2 f0 f1 f2 k0 k1 k2 l0 l1 l2 hbel X1 X2 X3
        obtain ⟨rfl, ⟨h0, h1, h2⟩, ⟨f0, f1, f2⟩, ⟨k0, k1, k2⟩, ⟨l0, l1, l2⟩, hbel⟩ := hcut
        obtain ⟨x, hx⟩ : ∃ x, (p - q) / g = x := ⟨_, rfl⟩
        obtain ⟨y, hy⟩ : ∃ y, r / g = y := ⟨_, rfl⟩
        obtain ⟨z, hz⟩ : ∃ z, (p + q) / g = z := ⟨_, rfl⟩
        rw [hx] at D1 VC h0
        rw [hy] at D2 VS h1
        rw [hz] at D3 VH h2
        clear hx hy hz
        go_wp2
        first | go_returns | (refine bodyPost_ret (by simp [results, Try.results61, go_sem, *]; try rfl) rfl ?_)
        exact ⟨by rw [VC.out, VS.out, VH.out]; rfl, by (repeat' (first | (with_reducible exact Below.refl _ _) | (with_reducible assumption) | (with_reducible refine bStep ?_ (by with_reducible assumption)) | (with_reducible refine bAlloc ?_ _) | (with_reducible refine bDrew ?_) | (with_reducible refine bDrewN ?_ _) | (with_reducible refine Below.setCell ?_ ?_ _) | (with_reducible exact Nat.le_refl _) | (simp; done) | (simp; omega)))⟩
set_option maxHeartbeats 800000 in
set_option maxRecDepth 20000 in
theorem dirS (m n : Int) (b : Bool) (w : World) : Calls Try.prog 13 #[.int .i64 m, .int .i64 n, .bool b] w fun e w' => e = .returned (.tuple #[.agg #[.int .i64 (ndC m n), .int .i64 (ndS m n b), .int .i64 (ndH m n)], .int .i64 (ndE m n)]) ∧ Below w.heap.size w w' := by
  rcases h1 : inB n 2 1000
  · go_enter Try.func13, Try.ntmps13
    go_wp2_with (first | (go_at_call 62; refine (inSv (by assumption) _).mono ?_; rintro e w' ⟨rfl, rfl⟩))
    first | go_ret2 | (refine bodyPost_ret (by simp [results, Try.results13, go_sem, *]; try rfl) rfl ?_)
    exact ⟨by simp [ndC, ndS, ndH, ndE, dOk, h1], by (repeat' (first | (with_reducible exact Below.refl _ _) | (with_reducible assumption) | (with_reducible refine bStep ?_ (by with_reducible assumption)) | (with_reducible refine bAlloc ?_ _) | (with_reducible refine bDrew ?_) | (with_reducible refine bDrewN ?_ _) | (with_reducible refine Below.setCell ?_ ?_ _) | (with_reducible exact Nat.le_refl _) | (simp; done) | (simp; omega)))⟩
  have b1 := inB_t h1
  rcases h2 : inB m 1 (n - 1)
  · go_enter Try.func13, Try.ntmps13
    go_wp2_with (first | (go_at_call 62; refine (inSv (by assumption) _).mono ?_; rintro e w' ⟨rfl, rfl⟩))
    first | go_ret2 | (refine bodyPost_ret (by simp [results, Try.results13, go_sem, *]; try rfl) rfl ?_)
    exact ⟨by simp [ndC, ndS, ndH, ndE, dOk, h1, h2], by (repeat' (first | (with_reducible exact Below.refl _ _) | (with_reducible assumption) | (with_reducible refine bStep ?_ (by with_reducible assumption)) | (with_reducible refine bAlloc ?_ _) | (with_reducible refine bDrew ?_) | (with_reducible refine bDrewN ?_ _) | (with_reducible refine Below.setCell ?_ ?_ _) | (with_reducible exact Nat.le_refl _) | (simp; done) | (simp; omega)))⟩
  have b2 := inB_t h2
  by_cases h3 : n * n + m * m ≤ 1000
  case neg =>
    have mp := mul_bd' (x := n) (y := n) (k := 1000) (l := 1000) (by omega) (by omega)
    have mq := mul_bd' (x := m) (y := m) (k := 1000) (l := 1000) (by omega) (by omega)
    obtain ⟨p, hp⟩ : ∃ p, n * n = p := ⟨_, rfl⟩
    obtain ⟨q, hq⟩ : ∃ q, m * m = q := ⟨_, rfl⟩
    rw [hp] at mp h3
    rw [hq] at mq h3
    have h4 : 1000 < p + q := by omega
    have KZ : Hid (dOk m n = false) := by show dOk m n = false; simp [dOk, hp, hq]; omega
    have bp : -1000000 ≤ p ∧ p ≤ 1000000 := by omega
    have bq : -1000000 ≤ q ∧ q ≤ 1000000 := by omega
    clear mp mq
    go_enter Try.func13, Try.ntmps13
    go_wp2_with (first | (go_at_call 62; refine (inSv (by assumption) _).mono ?_; rintro e w' ⟨rfl, rfl⟩))
    first | go_ret2 | (refine bodyPost_ret (by simp [results, Try.results13, go_sem, *]; try rfl) rfl ?_)
    exact ⟨by simp [ndC, ndS, ndH, ndE, KZ.out], by (repeat' (first | (with_reducible exact Below.refl _ _) | (with_reducible assumption) | (with_reducible refine bStep ?_ (by with_reducible assumption)) | (with_reducible refine bAlloc ?_ _) | (with_reducible refine bDrew ?_) | (with_reducible refine bDrewN ?_ _) | (with_reducible refine Below.setCell ?_ ?_ _) | (with_reducible exact Nat.le_refl _) | (simp; done) | (simp; omega)))⟩
  have hk : dOk m n = true := by simp [dOk, h1, h2, h3]
  obtain ⟨bn, bm, bs⟩ := dOk_bd hk
  have mp := mul_bd' (x := n) (y := n) (k := 1000) (l := 1000) (by omega) (by omega)
  have mq := mul_bd' (x := m) (y := m) (k := 1000) (l := 1000) (by omega) (by omega)
  have mr := mul_bd' (x := 2 * m) (y := n) (k := 2000) (l := 1000) (by omega) (by omega)
  have lp := Int.mul_le_mul (show 2 ≤ n by omega) (show 2 ≤ n by omega) (by omega) (by omega)
  have lq := Int.mul_le_mul (show 1 ≤ m by omega) (show 1 ≤ m by omega) (by omega) (by omega)
  have lpq := Int.mul_le_mul (show m + 1 ≤ n by omega) (show m ≤ n by omega) (by omega) (by omega)
  rw [Int.add_mul] at lpq
  have lr := Int.mul_le_mul (show 2 ≤ 2 * m by omega) (show 2 ≤ n by omega) (by omega) (by omega)
  obtain ⟨g, hg⟩ : ∃ g, dG m n = g := ⟨_, rfl⟩
  have hg' := hg
  unfold dG at hg'
  obtain ⟨p, hp⟩ : ∃ p, n * n = p := ⟨_, rfl⟩
  obtain ⟨q, hq⟩ : ∃ q, m * m = q := ⟨_, rfl⟩
  obtain ⟨r, hr⟩ : ∃ r, 2 * m * n = r := ⟨_, rfl⟩
  rw [hp, hq, hr] at hg'
  rw [hp] at mp lp lpq
  rw [hq] at mq lq lpq
  rw [hr] at mr lr
  rw [hp, hq] at bs
  have bp : 4 ≤ p ∧ p ≤ 1000 := by omega
  have bq : 1 ≤ q ∧ q ≤ 1000 := by omega
  have br : 4 ≤ r ∧ r ≤ 2000000 := by omega
  have bd : 1 ≤ p - q := by omega
  obtain ⟨g0, hg0⟩ : ∃ g0 : Int, (Int.gcd (p - q) r : Int) = g0 := ⟨_, rfl⟩
  have z0 : 0 ≤ g0 ∧ g0 ≤ 1000 := by
    have := gcd_pos (n := r) (d := p - q) (by omega)
    rw [Int.gcd_comm, hg0] at this
    omega
  rw [hg0] at hg'
  have z1 : 1 ≤ g ∧ g ≤ 1000 := by
    have := gcd_pos (n := g0) (d := p + q) (by omega)
    rw [hg'] at this
    omega
  have gz : ¬ g = 0 := by omega
  have D1 : 0 ≤ (p - q).tdiv g ∧ (p - q).tdiv g ≤ 1000 := by have := tdiv_abs (p - q) g; have := Int.tdiv_nonneg (a := p - q) (b := g) (by omega) (by omega); omega
  have D2 : 0 ≤ r.tdiv g ∧ r.tdiv g ≤ 2000000 := by have := tdiv_abs r g; have := Int.tdiv_nonneg (a := r) (b := g) (by omega) (by omega); omega
  have D3 : 0 ≤ (p + q).tdiv g ∧ (p + q).tdiv g ≤ 1000 := by have := tdiv_abs (p + q) g; have := Int.tdiv_nonneg (a := p + q) (b := g) (by omega) (by omega); omega
  have T1 : (p - q).tdiv g = (p - q) / g := Int.tdiv_eq_ediv_of_nonneg (by omega)
  have T2 : r.tdiv g = r / g := Int.tdiv_eq_ediv_of_nonneg (by omega)
  have T3 : (p + q).tdiv g = (p + q) / g := Int.tdiv_eq_ediv_of_nonneg (by omega)
  have G1 : Hid (∀ w0 : World, Calls Try.prog 63 #[.int .i64 (p - q), .int .i64 r] w0 fun e w' => e = .returned (.int .i64 g0) ∧ ∃ n, w' = w0.drewN n) := fun w0 => by
    have := gcdS (p - q) r w0 (by omega) (by omega) (by omega) (by omega)
    rw [hg0] at this
    exact this
  have G2 : Hid (∀ w0 : World, Calls Try.prog 63 #[.int .i64 g0, .int .i64 (p + q)] w0 fun e w' => e = .returned (.int .i64 g) ∧ ∃ n, w' = w0.drewN n) := fun w0 => by
    have := gcdS g0 (p + q) w0 (by omega) (by omega) (by omega) (by omega)
    rw [hg'] at this
    exact this
  have VC : Hid (dC m n = (p - q).tdiv g) := by show dC m n = _; unfold dC; rw [hp, hq, hg]
  have VH : Hid (dH m n = (p + q).tdiv g) := by show dH m n = _; unfold dH; rw [hp, hq, hg]
  have VS : Hid (dS m n b = if b then r.tdiv g else -(r.tdiv g)) := by show dS m n b = _; unfold dS; rw [hr, hg]
  have HK := Lib.hid hk
  rw [T1] at D1 VC
  rw [T2] at D2 VS
  rw [T3] at D3 VH
  have T1' := Lib.hid T1
  have T2' := Lib.hid T2
  have T3' := Lib.hid T3
  clear mp mq mr lp lq lpq lr hg hg' hg0 hk T1 T2 T3
  cases b
  all_goals
    go_enter Try.func13, Try.ntmps13
    go_wp2_with (first | (go_at_call 62; refine (inSv (by assumption) _).mono ?_; rintro e w' ⟨rfl, rfl⟩) | (go_at_call 63; first | (with_reducible refine (G1.out _).mono ?_; rintro e w' ⟨rfl, q1, rfl⟩) | (with_reducible refine (G2.out _).mono ?_; rintro e w' ⟨rfl, q2, rfl⟩)))
    go_region
    all_goals go_wp2
    all_goals (first | go_ret2 | (refine bodyPost_ret (by simp [results, Try.results13, go_sem, *]; try rfl) rfl ?_))
    all_goals exact ⟨by simp [ndC, ndS, ndH, ndE, HK.out, VC.out, VS.out, VH.out], by (repeat' (first | (with_reducible exact Below.refl _ _) | (with_reducible assumption) | (with_reducible refine bStep ?_ (by with_reducible assumption)) | (with_reducible refine bAlloc ?_ _) | (with_reducible refine bDrew ?_) | (with_reducible refine bDrewN ?_ _) | (with_reducible refine Below.setCell ?_ ?_ _) | (with_reducible exact Nat.le_refl _) | (simp; done) | (simp; omega)))⟩
set_option maxHeartbeats 800000 in
set_option maxRecDepth 20000 in
theorem dirI (m n : Int) (b : Bool) (w : World) : Calls Try.prog 12 #[.int .i64 m, .int .i64 n, .bool b] w fun e w' => e = .returned (.tuple #[.agg #[.int .i64 (ndC m n), .int .i64 (ndS m n b), .int .i64 (ndH m n)], .int .i64 (ndE m n)]) ∧ Below w.heap.size w w' := by
  rcases h1 : inB n 2 1000
  · go_enter Try.func12, Try.ntmps12
    go_wp2_with (first | (go_at_call 60; refine (inIv (by assumption) _).mono ?_; rintro e w' ⟨rfl, rfl⟩))
    first | go_ret2 | (refine bodyPost_ret (by simp [results, Try.results12, go_sem, *]; try rfl) rfl ?_)
    exact ⟨by simp [ndC, ndS, ndH, ndE, dOk, h1], by (repeat' (first | (with_reducible exact Below.refl _ _) | (with_reducible assumption) | (with_reducible refine bStep ?_ (by with_reducible assumption)) | (with_reducible refine bAlloc ?_ _) | (with_reducible refine bDrew ?_) | (with_reducible refine bDrewN ?_ _) | (with_reducible refine Below.setCell ?_ ?_ _) | (with_reducible exact Nat.le_refl _) | (simp; done) | (simp; omega)))⟩
  have b1 := inB_t h1
  rcases h2 : inB m 1 (n - 1)
  · go_enter Try.func12, Try.ntmps12
    go_wp2_with (first | (go_at_call 60; refine (inIv (by assumption) _).mono ?_; rintro e w' ⟨rfl, rfl⟩))
    first | go_ret2 | (refine bodyPost_ret (by simp [results, Try.results12, go_sem, *]; try rfl) rfl ?_)
    exact ⟨by simp [ndC, ndS, ndH, ndE, dOk, h1, h2], by (repeat' (first | (with_reducible exact Below.refl _ _) | (with_reducible assumption) | (with_reducible refine bStep ?_ (by with_reducible assumption)) | (with_reducible refine bAlloc ?_ _) | (with_reducible refine bDrew ?_) | (with_reducible refine bDrewN ?_ _) | (with_reducible refine Below.setCell ?_ ?_ _) | (with_reducible exact Nat.le_refl _) | (simp; done) | (simp; omega)))⟩
  have b2 := inB_t h2
  by_cases h3 : n * n + m * m ≤ 1000
  case neg =>
    have mp := mul_bd' (x := n) (y := n) (k := 1000) (l := 1000) (by omega) (by omega)
    have mq := mul_bd' (x := m) (y := m) (k := 1000) (l := 1000) (by omega) (by omega)
    obtain ⟨p, hp⟩ : ∃ p, n * n = p := ⟨_, rfl⟩
    obtain ⟨q, hq⟩ : ∃ q, m * m = q := ⟨_, rfl⟩
    rw [hp] at mp h3
    rw [hq] at mq h3
    have h4 : 1000 < p + q := by omega
    have KZ : Hid (dOk m n = false) := by show dOk m n = false; simp [dOk, hp, hq]; omega
    have bp : -1000000 ≤ p ∧ p ≤ 1000000 := by omega
    have bq : -1000000 ≤ q ∧ q ≤ 1000000 := by omega
    clear mp mq
    go_enter Try.func12, Try.ntmps12
    go_wp2_with (first | (go_at_call 60; refine (inIv (by assumption) _).mono ?_; rintro e w' ⟨rfl, rfl⟩))
    first | go_ret2 | (refine bodyPost_ret (by simp [results, Try.results12, go_sem, *]; try rfl) rfl ?_)
    exact ⟨by simp [ndC, ndS, ndH, ndE, KZ.out], by (repeat' (first | (with_reducible exact Below.refl _ _) | (with_reducible assumption) | (with_reducible refine bStep ?_ (by with_reducible assumption)) | (with_reducible refine bAlloc ?_ _) | (with_reducible refine bDrew ?_) | (with_reducible refine bDrewN ?_ _) | (with_reducible refine Below.setCell ?_ ?_ _) | (with_reducible exact Nat.le_refl _) | (simp; done) | (simp; omega)))⟩
  have hk : dOk m n = true := by simp [dOk, h1, h2, h3]
  have mp := mul_bd' (x := n) (y := n) (k := 1000) (l := 1000) (by omega) (by omega)
  have mq := mul_bd' (x := m) (y := m) (k := 1000) (l := 1000) (by omega) (by omega)
  have KK := Lib.hid (fun w0 => dirMkI m n b w0 hk)
  have HK := Lib.hid hk
  obtain ⟨p, hp⟩ : ∃ p, n * n = p := ⟨_, rfl⟩
  obtain ⟨q, hq⟩ : ∃ q, m * m = q := ⟨_, rfl⟩
  rw [hp] at mp h3
  rw [hq] at mq h3
  have bp : -1000000 ≤ p ∧ p ≤ 1000000 := by omega
  have bq : -1000000 ≤ q ∧ q ≤ 1000000 := by omega
  clear mp mq hk
  go_enter Try.func12, Try.ntmps12
  go_wp2_with (first | (go_at_call 60; refine (inIv (by assumption) _).mono ?_; rintro e w' ⟨rfl, rfl⟩) | (go_at_call 61; refine (KK.out _).mono ?_; rintro e w1 ⟨rfl, hb1⟩; obtain ⟨hc1, hf1⟩ := bcell hb1; have hs1 := hb1.size; (try simp at hs1); (try have hl1 := Nat.lt_of_succ_le hs1); (try have hz10 : w.heap.size < w1.heap.size := (by have := hb1.size; (try simp at this); omega)); (try have hn10 : ¬ w.heap.size = w1.heap.size := (by omega)); (try have hm10 : ¬ w1.heap.size = w.heap.size := (by omega)); (try have c100 := hc1 (w.heap.size) 0 (by first | omega | (simp; done) | (simp; omega))); (try have f100 := hf1 (w.heap.size) 0 (by first | omega | (simp; done) | (simp; omega))); (try have c101 := hc1 (w.heap.size) 1 (by first | omega | (simp; done) | (simp; omega))); (try have f101 := hf1 (w.heap.size) 1 (by first | omega | (simp; done) | (simp; omega))); (try have c102 := hc1 (w.heap.size) 2 (by first | omega | (simp; done) | (simp; omega))); (try have f102 := hf1 (w.heap.size) 2 (by first | omega | (simp; done) | (simp; omega)))))
  first | go_ret2 | (refine bodyPost_ret (by simp [results, Try.results12, go_sem, *]; try rfl) rfl ?_)
  exact ⟨by simp [ndC, ndS, ndH, ndE, HK.out], by (repeat' (first | (with_reducible exact Below.refl _ _) | (with_reducible assumption) | (with_reducible refine bStep ?_ (by with_reducible assumption)) | (with_reducible refine bAlloc ?_ _) | (with_reducible refine bDrew ?_) | (with_reducible refine bDrewN ?_ _) | (with_reducible refine Below.setCell ?_ ?_ _) | (with_reducible exact Nat.le_refl _) | (simp; done) | (simp; omega)))⟩
end Go.Proofs.Ytincelkcbdjcjaa
