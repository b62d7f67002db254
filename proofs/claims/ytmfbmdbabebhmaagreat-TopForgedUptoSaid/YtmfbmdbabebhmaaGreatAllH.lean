/- One module of several texts (ShaA ShaB ShaC ShaD ShaE). Conditions: none. -/
import Derived.Test.YtmfbmdbabebhmaaGreatEv2
import Derived.Test.YtmfbmdbabebhmaaGreatAllN
import Derived.KernelRfl
set_option linter.unusedVariables false
set_option linter.unusedSimpArgs false
set_option exponentiation.threshold 5000
set_option maxRecDepth 20000
set_option maxRecDepth 100000
namespace Mir

/-- A loop of which only something is known. -/
theorem loop_ex {T : Nat → Option MFn} {α : Type} {a : Stm} {st : St} (S : Nat → α → St) (Pr : Nat → α → Prop) (n : Nat) (x0 : α) (R : α → Ex × St) (h0 : st = S 0 x0) (hp : Pr 0 x0)
    (hs : ∀ i x, i < n → Pr i x → ∃ y, Pr (i + 1) y ∧ Exec T a (S i x) = some (.norm, S (i + 1) y)) (hn : ∀ x, Pr n x → Exec T a (S n x) = some (R x)) (hr : ∀ x, (R x).1 ≠ .norm) :
    ∃ x, Pr n x ∧ Loop T a st = some (R x) := by
  have key : ∀ m, m ≤ n → ∃ X : Nat → α, X 0 = x0 ∧ Pr m (X m) ∧ ∀ i, i < m → Exec T a (S i (X i)) = some (.norm, S (i + 1) (X (i + 1))) := by
    intro m
    induction m with
    | zero => exact fun _ => ⟨fun _ => x0, rfl, hp, fun i h => absurd h (Nat.not_lt_zero i)⟩
    | succ m ih =>
      intro hm
      obtain ⟨X, hX0, hX1, hX2⟩ := ih (by omega)
      obtain ⟨y, hy1, hy2⟩ := hs m (X m) (by omega) hX1
      refine ⟨fun i => if i = m + 1 then y else X i, by simp [hX0], by simpa using hy1, fun i hi => ?_⟩
      by_cases h : i = m
      · subst h
        simpa using hy2
      · show Exec T a (S i (if i = m + 1 then y else X i)) = some (.norm, S (i + 1) (if i + 1 = m + 1 then y else X (i + 1)))
        rw [if_neg (by omega), if_neg (by omega)]
        exact hX2 i (by omega)
  obtain ⟨X, hX0, hX1, hX2⟩ := key n (Nat.le_refl n)
  exact ⟨X n, hX1, loop_use T (fun i => S i (X i)) n (R (X n)) (by rw [h0, hX0]) (hr _) hX2 (hn _ hX1)⟩

theorem r_Rot32 (x : Nat) (k : Int) : ∃ y, Run T f_bits_RotateLeft32 [.u 32 x, .i k] [] = some (.u 32 y, []) := by
  rw [Run_at T _ (show T f_bits_RotateLeft32 = some m_bits_RotateLeft32 from rfl)]
  simp only [c_bits_RotateLeft32]
  simp only [EE,EX,Nat.reduceLeDiff,Nat.reduceEqDiff,Int.reduceEq,reduceCtorEq,Nat.reduceAdd,Nat.reduceMul,if_true,if_false,decide_true,decide_false]
  exact ⟨_, rfl⟩

theorem r_rotate (x : Nat) (k : Int) : ∃ y, Run T f_sha256_rotate [.u 32 x, .i k] [] = some (.u 32 y, []) := by
  obtain ⟨y, hy⟩ := r_Rot32 x (w64 (0 - k))
  refine ⟨y, ?_⟩
  rw [Run_at T _ (show T f_sha256_rotate = some m_sha256_rotate from rfl)]
  simp only [c_sha256_rotate]
  simp only [EE,EX,Nat.reduceLeDiff,Nat.reduceEqDiff,Int.reduceEq,reduceCtorEq,Nat.reduceAdd,Nat.reduceMul,if_true,if_false,decide_true,decide_false, hy]

/-- A word turned to the right. -/
noncomputable def rot32 (x : Nat) (k : Int) : Nat := (r_rotate x k).choose
theorem r_rot (x : Nat) (k : Int) : Run T f_sha256_rotate [.u 32 x, .i k] [] = some (.u 32 (rot32 x k), []) := (r_rotate x k).choose_spec

theorem us_part {w : Nat} {l : List Nat} {j n : Nat} (h : l.length = n) (hj : j < n) : part (us w l) j none = some (.u w (l.getD j 0)) := by
  subst h
  simp [part, us, hj, List.getD]

theorem sp_us1 {w : Nat} {l : List Nat} {i v : Nat} : splice (us w l) i [V.u w v] = us w (l.set i v) := us_set w l i v

def sq32 : List V := us 32 (List.replicate 64 0)

theorem r_schedule {H : Heap} {k off cap : Nat} {l : List Nat} (hk : row H k = some (us 8 l)) (ho : off + 64 ≤ l.length) :
    ∃ w : List Nat, w.length = 64 ∧ Run T f_sha256_schedule [.hs 1 k off 64 cap] H = some (.agg (us 32 w), H) := by
  rw [Run_at T _ (show T f_sha256_schedule = some m_sha256_schedule from rfl)]
  simp only [c_sha256_schedule]
  simp only [EE,EX,Nat.reduceLeDiff,Nat.reduceEqDiff,Int.reduceEq,reduceCtorEq,Nat.reduceAdd,Nat.reduceMul,if_true,if_false,decide_true,decide_false]
  generalize hL : Loop T _ _ = L
  obtain ⟨W, hW0, hL2⟩ : ∃ W : List Nat, W.length = 64 ∧ L = some (.exit 0, ⟨[(2, .loc sq32), (3, .loc (us 32 W))], H⟩) := by
    subst hL
    refine loop_ex (fun i (W : List Nat) => ⟨[(0, .hs 1 k off 64 cap), (2, .loc sq32), (3, .loc (us 32 W)), (11, .i (i : Int))], H⟩) (fun _ W => W.length = 64) 16 (List.replicate 64 0) _ ?h0 (by simp) ?hs ?hn (by simp)
    · rfl
    · intro i W hi hW
      have k1 : decide ((i : Int) < 16) = true := decide_eq_true (by omega)
      have k2 : F (w64 ((i : Int) + 1)) ((i + 1 : Nat) : Int) := ⟨by unfold w64; omega⟩
      simp only [EE,EX,Nat.reduceLeDiff,Nat.reduceEqDiff,Int.reduceEq,reduceCtorEq,Nat.reduceAdd,Nat.reduceMul,if_true,if_false,decide_true,decide_false, k1, k2.eq]
      generalize hM : Loop T _ _ = M
      obtain ⟨W', hW', hM2⟩ : ∃ W' : List Nat, W'.length = 64 ∧ M = some (.exit 2, ⟨[(0, .hs 1 k off 64 cap), (2, .loc sq32), (3, .loc (us 32 W')), (11, .i (i : Int))], H⟩) := by
        subst hM
        refine loop_ex (fun j (W : List Nat) => ⟨[(0, .hs 1 k off 64 cap), (2, .loc sq32), (3, .loc (us 32 W)), (4, .i (i : Int)), (11, .i (i : Int)), (14, .i (j : Int))], H⟩) (fun _ W => W.length = 64) 4 W _ ?ia hW ?ib ?ic (by simp)
        · rfl
        · intro j W hj hW
          have j1 : decide ((j : Int) < 4) = true := decide_eq_true (by omega)
          have j2 : F (w64 ((j : Int) + 1)) ((j + 1 : Nat) : Int) := ⟨by unfold w64; omega⟩
          have j3 : F (w64 (w64 (4 * (i : Int)) + (j : Int))) ((4 * i + j : Nat) : Int) := ⟨by unfold w64; omega⟩
          have j4 := ixOf_nat (n := 64) (k := i) (by omega)
          have j5 := us_part (w := 32) hW (j := i) (by omega)
          have j6 := ixOf_nat (n := 64) (k := 4 * i + j) (by omega)
          have j7 := us_part (w := 8) (l := l) rfl (j := off + (4 * i + j)) (by omega)
          have j8 : decide (i + 1 ≤ W.length) = true := decide_eq_true (by omega)
          have j9 : ∀ v, splice (us 32 W) i [V.u 32 v] = us 32 (W.set i v) := fun v => sp_us1
          simp only [EE,EX,Nat.reduceLeDiff,Nat.reduceEqDiff,Int.reduceEq,reduceCtorEq,Nat.reduceAdd,Nat.reduceMul,if_true,if_false,decide_true,decide_false, j1, j2.eq, j3.eq, j4, j5, j6, hk, j7, j8, j9]
          exact ⟨W.set i _, by simp [hW], rfl⟩
        · intro W hW
          have j1 : decide (((4 : Nat) : Int) < 4) = false := rfl
          simp only [EE,EX,Nat.reduceLeDiff,Nat.reduceEqDiff,Int.reduceEq,reduceCtorEq,Nat.reduceAdd,Nat.reduceMul,if_true,if_false,decide_true,decide_false, j1]
      rw [hM2]
      exact ⟨W', hW', by simp only [EE,EX,Nat.reduceLeDiff,Nat.reduceEqDiff,Int.reduceEq,reduceCtorEq,Nat.reduceAdd,Nat.reduceMul,if_true,if_false,decide_true,decide_false, k2.eq]⟩
    · intro W hW
      have k1 : decide (((16 : Nat) : Int) < 16) = false := rfl
      simp only [EE,EX,Nat.reduceLeDiff,Nat.reduceEqDiff,Int.reduceEq,reduceCtorEq,Nat.reduceAdd,Nat.reduceMul,if_true,if_false,decide_true,decide_false, k1]
  rw [hL2]
  simp only [EE,EX,Nat.reduceLeDiff,Nat.reduceEqDiff,Int.reduceEq,reduceCtorEq,Nat.reduceAdd,Nat.reduceMul,if_true,if_false,decide_true,decide_false]
  clear hL2 hL
  generalize hL : Loop T _ _ = L
  obtain ⟨W2, hW2, hL2⟩ : ∃ W : List Nat, W.length = 64 ∧ L = some (.exit 4, ⟨[(2, .loc sq32), (3, .loc (us 32 W))], H⟩) := by
    subst hL
    refine loop_ex (fun i (W : List Nat) => ⟨[(2, .loc sq32), (3, .loc (us 32 W)), (6, .i ((i + 16 : Nat) : Int))], H⟩) (fun _ W => W.length = 64) 48 W _ ?ja hW0 ?jb ?jc (by simp)
    · rfl
    · intro i W hi hW
      have k1 : decide (((i + 16 : Nat) : Int) < 64) = true := decide_eq_true (by omega)
      have k2 : F (w64 (((i + 16 : Nat) : Int) + 1)) ((i + 1 + 16 : Nat) : Int) := ⟨by unfold w64; omega⟩
      have k3 : F (w64 (((i + 16 : Nat) : Int) - 15)) ((i + 1 : Nat) : Int) := ⟨by unfold w64; omega⟩
      have k4 : F (w64 (((i + 16 : Nat) : Int) - 2)) ((i + 14 : Nat) : Int) := ⟨by unfold w64; omega⟩
      have k5 : F (w64 (((i + 16 : Nat) : Int) - 16)) ((i : Nat) : Int) := ⟨by unfold w64; omega⟩
      have k6 : F (w64 (((i + 16 : Nat) : Int) - 7)) ((i + 9 : Nat) : Int) := ⟨by unfold w64; omega⟩
      have a1 := ixOf_nat (n := 64) (k := i + 1) (by omega)
      have a2 := ixOf_nat (n := 64) (k := i + 14) (by omega)
      have a3 := ixOf_nat (n := 64) (k := i) (by omega)
      have a4 := ixOf_nat (n := 64) (k := i + 9) (by omega)
      have a5 := ixOf_nat (n := 64) (k := i + 16) (by omega)
      have b1 := us_part (w := 32) hW (j := i + 1) (by omega)
      have b2 := us_part (w := 32) hW (j := i + 14) (by omega)
      have b3 := us_part (w := 32) hW (j := i) (by omega)
      have b4 := us_part (w := 32) hW (j := i + 9) (by omega)
      have b5 : decide (i + 16 + 1 ≤ W.length) = true := decide_eq_true (by omega)
      have b6 : ∀ v, splice (us 32 W) (i + 16) [V.u 32 v] = us 32 (W.set (i + 16) v) := fun v => sp_us1
      simp only [EE,EX,Nat.reduceLeDiff,Nat.reduceEqDiff,Int.reduceEq,reduceCtorEq,Nat.reduceAdd,Nat.reduceMul,if_true,if_false,decide_true,decide_false, k1, k2.eq, k3.eq, k4.eq, k5.eq, k6.eq, a1, a2, a3, a4, a5, b1, b2, b3, b4, b5, b6, r_rot]
      exact ⟨W.set (i + 16) _, by simp [hW], rfl⟩
    · intro W hW
      have k1 : decide (((48 + 16 : Nat) : Int) < 64) = false := rfl
      simp only [EE,EX,Nat.reduceLeDiff,Nat.reduceEqDiff,Int.reduceEq,reduceCtorEq,Nat.reduceAdd,Nat.reduceMul,if_true,if_false,decide_true,decide_false, k1]
  rw [hL2]
  clear hL hL2
  have c1 : part (us 32 W2) 0 (some 64) = some (.agg (us 32 W2)) := by
    have : (us 32 W2).length = 64 := by rw [us_len, hW2]
    simp only [part]
    rw [if_pos (by omega), List.drop_zero, List.take_of_length_le (by omega)]
  have c2 : splice sq32 0 (us 32 W2) = us 32 W2 := sp_us (by rw [hW2]; rfl)
  have c3 : decide (0 + 64 ≤ sq32.length) = true := rfl
  have c4 : okc 64 (us 32 W2) 0 sq32.length = true := by simp [okc, us_len, hW2, us_cellV, sq32]
  refine ⟨W2, hW2, ?_⟩
  simp only [EE,EX,Nat.reduceLeDiff,Nat.reduceEqDiff,Int.reduceEq,reduceCtorEq,Nat.reduceAdd,Nat.reduceMul,if_true,if_false,decide_true,decide_false, c1, c2, c3, c4]

end Mir

namespace Mir

/-- A hash as it lies in memory. -/
def hRow (s : Int) (hh kk : List Nat) (r : V) (n : Nat) : List V := .i s :: (us 32 hh ++ (us 32 kk ++ [r, .u 64 n]))

theorem hRow_len {s : Int} {hh kk : List Nat} {r : V} {n : Nat} (h8 : hh.length = 8) (h64 : kk.length = 64) : (hRow s hh kk r n).length = 75 := by
  simp [hRow, us_len, h8, h64]

theorem hRow_h {s : Int} {hh kk : List Nat} {r : V} {n : Nat} (h8 : hh.length = 8) : part (hRow s hh kk r n) 1 (some 8) = some (.agg (us 32 hh)) := by
  have : (us 32 hh).length = 8 := by rw [us_len, h8]
  simp only [part]
  rw [if_pos (by simp [hRow, us_len, h8])]
  simp only [hRow, List.drop_succ_cons, List.drop_zero]
  rw [List.take_append_of_le_length (by omega), List.take_of_length_le (by omega)]

theorem hRow_h1 {s : Int} {hh kk : List Nat} {r : V} {n : Nat} {i : Nat} (hi : i < hh.length) : part (hRow s hh kk r n) (1 + i) none = some (.u 32 (hh.getD i 0)) := by
  simp only [part, hRow]
  rw [Nat.add_comm, List.getElem?_cons_succ, List.getElem?_append_left (by rw [us_len]; omega)]
  simp [us, hi, List.getD]

theorem hRow_k {s : Int} {hh kk : List Nat} {r : V} {n : Nat} (h8 : hh.length = 8) (h64 : kk.length = 64) {i : Nat} (hi : i < 64) : part (hRow s hh kk r n) (9 + i) none = some (.u 32 (kk.getD i 0)) := by
  simp only [part, hRow]
  rw [show 9 + i = (8 + i) + 1 by omega, List.getElem?_cons_succ, List.getElem?_append_right (by rw [us_len]; omega), us_len, h8, show 8 + i - 8 = i by omega,
    List.getElem?_append_left (by rw [us_len]; omega)]
  have : i < kk.length := by omega
  simp [us, this, List.getD]

theorem hRow_r {s : Int} {hh kk : List Nat} {r : V} {n : Nat} (h8 : hh.length = 8) (h64 : kk.length = 64) : part (hRow s hh kk r n) 73 none = some r := by
  simp only [part, hRow]
  rw [List.getElem?_cons_succ, List.getElem?_append_right (by rw [us_len]; omega), us_len, h8, List.getElem?_append_right (by rw [us_len]; omega), us_len, h64]
  rfl

theorem hRow_n {s : Int} {hh kk : List Nat} {r : V} {n : Nat} (h8 : hh.length = 8) (h64 : kk.length = 64) : part (hRow s hh kk r n) 74 none = some (.u 64 n) := by
  simp only [part, hRow]
  rw [List.getElem?_cons_succ, List.getElem?_append_right (by rw [us_len]; omega), us_len, h8, List.getElem?_append_right (by rw [us_len]; omega), us_len, h64]
  rfl

theorem hRow_seth {s : Int} {hh kk : List Nat} {r : V} {n i v : Nat} (hi : i < hh.length) : splice (hRow s hh kk r n) (1 + i) [V.u 32 v] = hRow s (hh.set i v) kk r n := by
  simp only [splice, hRow]
  rw [Nat.add_comm, List.set_cons_succ, List.set_append_left _ _ (by rw [us_len]; omega), us_set]

theorem hRow_setr {s : Int} {hh kk : List Nat} {r r' : V} {n : Nat} (h8 : hh.length = 8) (h64 : kk.length = 64) : splice (hRow s hh kk r n) 73 [r'] = hRow s hh kk r' n := by
  simp only [splice, hRow]
  rw [List.set_cons_succ, List.set_append_right _ _ (by rw [us_len]; omega), us_len, h8, List.set_append_right _ _ (by rw [us_len]; omega), us_len, h64]
  rfl

theorem hRow_setn {s : Int} {hh kk : List Nat} {r : V} {n n' : Nat} (h8 : hh.length = 8) (h64 : kk.length = 64) : splice (hRow s hh kk r n) 74 [V.u 64 n'] = hRow s hh kk r n' := by
  simp only [splice, hRow]
  rw [List.set_cons_succ, List.set_append_right _ _ (by rw [us_len]; omega), us_len, h8, List.set_append_right _ _ (by rw [us_len]; omega), us_len, h64]
  rfl

def us8z : List V := [.u 32 0, .u 32 0, .u 32 0, .u 32 0, .u 32 0, .u 32 0, .u 32 0, .u 32 0]

theorem sh_lt {H : Heap} {k : Nat} {l : List V} (h : row H k = some l) : k < H.length := by
  rcases Nat.lt_or_ge k H.length with h' | h'
  · exact h'
  · unfold row at h; rw [List.getElem?_eq_none h'] at h; simp at h
theorem sh_ne {H : Heap} {k j : Nat} (x : Option (List V)) (h : k ≠ j) : row (H.set k x) j = row H j := by
  unfold row; rw [List.getElem?_set_ne h]
theorem sh_eq {H : Heap} {k : Nat} (l : List V) (h : k < H.length) : row (H.set k (some l)) k = some l := by
  unfold row; rw [List.getElem?_set_self h]
theorem sh_app {H : Heap} {k : Nat} {l : List V} (h : row H k = some l) (x : List (Option (List V))) : row (H ++ x) k = some l := by
  have hk := sh_lt h
  unfold row at h ⊢
  rw [List.getElem?_append_left hk]; exact h
theorem sh_new (H : Heap) (l : List V) : row (H ++ [some l]) H.length = some l := by simp [row]
theorem sh_self {H : Heap} {k : Nat} {l : List V} (h : row H k = some l) : H.set k (some l) = H := by
  have hk := sh_lt h
  unfold row at h
  apply List.ext_getElem
  · simp
  · intro i h1 h2
    by_cases e : k = i
    · subst e
      rw [List.getElem_set_self]
      rw [List.getElem?_eq_getElem hk] at h
      cases hx : H[k] with
      | none => rw [hx] at h; simp at h
      | some z => rw [hx] at h; simp at h; rw [h]
    · rw [List.getElem_set_ne e]
theorem sh_set (H : Heap) (k : Nat) (x : Option (List V)) (l : List V) : setRow (H.set k x) k l = H.set k (some l) := by
  simp [setRow, List.set_set]

theorem r_turn {H : Heap} {kh k off cap : Nat} {l : List Nat} {s : Int} {hh kk : List Nat} {r : V} {n : Nat} (hr : row H kh = some (hRow s hh kk r n)) (h8 : hh.length = 8) (h64 : kk.length = 64)
    (hk : row H k = some (us 8 l)) (ho : off + 64 ≤ l.length) :
    ∃ hh' : List Nat, hh'.length = 8 ∧ Run T f_sha256_Hash_turn [.hp kh 0, .hs 1 k off 64 cap] H = some (.tup [], H.set kh (some (hRow s hh' kk r n))) := by
  rw [Run_at T _ (show T f_sha256_Hash_turn = some m_sha256_Hash_turn from rfl)]
  simp only [c_sha256_Hash_turn]
  obtain ⟨W, hW, c1⟩ := r_schedule (cap := cap) hk ho
  have z1 : splice sq32 0 (us 32 W) = us 32 W := sp_us (by rw [hW]; rfl)
  have z2 : decide (0 + 64 ≤ sq32.length) = true := rfl
  have z3 : okc 64 (us 32 W) 0 sq32.length = true := by simp [okc, us_len, hW, us_cellV, sq32]
  have p1 := hRow_h (s := s) (kk := kk) (r := r) (n := n) h8
  have z4 : splice us8z 0 (us 32 hh) = us 32 hh := sp_us (by rw [h8]; rfl)
  have z5 : decide (0 + 8 ≤ us8z.length) = true := rfl
  have z6 : okc 8 (us 32 hh) 0 us8z.length = true := by simp [okc, us_len, h8, us_cellV, us8z]
  have d1 : decide (W.length = 64) = true := decide_eq_true hW
  have d2 : decide (hh.length = 8) = true := decide_eq_true h8
  simp only [EE,EX,Nat.reduceLeDiff,Nat.reduceEqDiff,Int.reduceEq,reduceCtorEq,Nat.reduceAdd,Nat.reduceMul,if_true,if_false,decide_true,decide_false, c1, hr, p1, z2, z5, z1, z4, d1, d2, hW, h8]
  generalize hL : Loop T _ _ = L
  obtain ⟨X, hX, hL2⟩ : ∃ X : List Nat, X.length = 8 ∧ L = some (.exit 0, ⟨[(0, .hp kh 0), (5, .loc (us 32 X))], H⟩) := by
    subst hL
    refine loop_ex (fun i (X : List Nat) => ⟨[(0, .hp kh 0), (4, .loc (us 32 W)), (5, .loc (us 32 X)), (19, .i (i : Int))], H⟩) (fun _ X => X.length = 8) 64 hh _ ?h0 h8 ?hs ?hn (by simp)
    · rw [sp_us, sp_us]
      · rfl
      · rw [h8]; rfl
      · rw [hW]; rfl
    · intro i X hi hX
      have k1 : decide ((i : Int) < 64) = true := decide_eq_true (by omega)
      have k2 : F (w64 ((i : Int) + 1)) ((i + 1 : Nat) : Int) := ⟨by unfold w64; omega⟩
      have a1 := ixOf_nat (n := 64) (k := i) (by omega)
      have b1 := us_part (w := 32) hW (j := i) (by omega)
      have b2 := hRow_k (s := s) (r := r) (n := n) h8 h64 hi
      have e0 := us_part (w := 32) hX (j := 0) (by omega)
      have e1 := us_part (w := 32) hX (j := 1) (by omega)
      have e2 := us_part (w := 32) hX (j := 2) (by omega)
      have e3 := us_part (w := 32) hX (j := 3) (by omega)
      have e4 := us_part (w := 32) hX (j := 4) (by omega)
      have e5 := us_part (w := 32) hX (j := 5) (by omega)
      have e6 := us_part (w := 32) hX (j := 6) (by omega)
      have e7 := us_part (w := 32) hX (j := 7) (by omega)
      have g4 : ∀ a0 a1 a2 a3 a4 a5 a6 a7, okc 8 [V.u 32 a0, V.u 32 a1, V.u 32 a2, V.u 32 a3, V.u 32 a4, V.u 32 a5, V.u 32 a6, V.u 32 a7] 0 X.length = true := fun _ _ _ _ _ _ _ _ => by rw [hX]; rfl
      have g3 : decide (8 ≤ X.length) = true := decide_eq_true (by omega)
      have g1 : decide (0 + 8 ≤ X.length) = true := decide_eq_true (by omega)
      have g2 : ∀ a0 a1 a2 a3 a4 a5 a6 a7, splice (us 32 X) 0 [V.u 32 a0, V.u 32 a1, V.u 32 a2, V.u 32 a3, V.u 32 a4, V.u 32 a5, V.u 32 a6, V.u 32 a7] = us 32 [a0, a1, a2, a3, a4, a5, a6, a7] := fun a0 a1 a2 a3 a4 a5 a6 a7 =>
        sp_us (cs := [a0, a1, a2, a3, a4, a5, a6, a7]) (by rw [us_len, hX]; rfl)
      have x0 : ixOf 8 (.i 0) = some 0 := rfl
      have x1 : ixOf 8 (.i 1) = some 1 := rfl
      have x2 : ixOf 8 (.i 2) = some 2 := rfl
      have x3 : ixOf 8 (.i 3) = some 3 := rfl
      have x4 : ixOf 8 (.i 4) = some 4 := rfl
      have x5 : ixOf 8 (.i 5) = some 5 := rfl
      have x6 : ixOf 8 (.i 6) = some 6 := rfl
      have x7 : ixOf 8 (.i 7) = some 7 := rfl
      simp only [EE,EX,Nat.reduceLeDiff,Nat.reduceEqDiff,Int.reduceEq,reduceCtorEq,Nat.reduceAdd,Nat.reduceMul,if_true,if_false,decide_true,decide_false, x0, x1, x2, x3, x4, x5, x6, x7, k1, k2.eq, a1, b1, b2, e0, e1, e2, e3, e4, e5, e6, e7, r_rot, hr, g1, g2, g3, g4, List.set_cons_zero, List.set_cons_succ, Nat.reduceLeDiff, Nat.reduceAdd]
      exact ⟨_, rfl, rfl⟩
    · intro X hX
      have k1 : decide (((64 : Nat) : Int) < 64) = false := rfl
      simp only [EE,EX,Nat.reduceLeDiff,Nat.reduceEqDiff,Int.reduceEq,reduceCtorEq,Nat.reduceAdd,Nat.reduceMul,if_true,if_false,decide_true,decide_false, k1]
  rw [hL2]
  clear hL hL2
  simp only [EE,EX,Nat.reduceLeDiff,Nat.reduceEqDiff,Int.reduceEq,reduceCtorEq,Nat.reduceAdd,Nat.reduceMul,if_true,if_false,decide_true,decide_false]
  generalize hL : Loop T _ _ = L
  obtain ⟨hh', hh8, hL2⟩ : ∃ hh' : List Nat, hh'.length = 8 ∧ L = some (.exit 2, ⟨[], H.set kh (some (hRow s hh' kk r n))⟩) := by
    subst hL
    refine loop_ex (fun i (hh : List Nat) => ⟨[(0, .hp kh 0), (5, .loc (us 32 X)), (113, .i (i : Int))], H.set kh (some (hRow s hh kk r n))⟩) (fun _ hh => hh.length = 8) 8 hh _ ?ia h8 ?ib ?ic (by simp)
    · rw [sh_self hr]; rfl
    · intro i Y hi hY
      have k1 : decide ((i : Int) < 8) = true := decide_eq_true (by omega)
      have k2 : F (w64 ((i : Int) + 1)) ((i + 1 : Nat) : Int) := ⟨by unfold w64; omega⟩
      have a1 := ixOf_nat (n := 8) (k := i) (by omega)
      have b1 := us_part (w := 32) hX (j := i) (by omega)
      have b2 := hRow_h1 (s := s) (kk := kk) (r := r) (n := n) (hh := Y) (i := i) (by omega)
      have b3 := sh_eq (hRow s Y kk r n) (sh_lt hr)
      have b4 : ∀ v, splice (hRow s Y kk r n) (1 + i) [V.u 32 v] = hRow s (Y.set i v) kk r n := fun v => hRow_seth (by omega)
      have b5 : decide (1 + i + 1 ≤ (hRow s Y kk r n).length) = true := decide_eq_true (by rw [hRow_len hY h64]; omega)
      simp only [EE,EX,Nat.reduceLeDiff,Nat.reduceEqDiff,Int.reduceEq,reduceCtorEq,Nat.reduceAdd,Nat.reduceMul,if_true,if_false,decide_true,decide_false, k1, k2.eq, a1, b1, b2, b3, b4, b5, sh_set]
      exact ⟨Y.set i _, by rw [List.length_set, hY], rfl⟩
    · intro Y hY
      have k1 : decide (((8 : Nat) : Int) < 8) = false := rfl
      simp only [EE,EX,Nat.reduceLeDiff,Nat.reduceEqDiff,Int.reduceEq,reduceCtorEq,Nat.reduceAdd,Nat.reduceMul,if_true,if_false,decide_true,decide_false, k1]
  rw [hL2]
  clear hL hL2
  refine ⟨hh', hh8, ?_⟩
  simp only [EE,EX,Nat.reduceLeDiff,Nat.reduceEqDiff,Int.reduceEq,reduceCtorEq,Nat.reduceAdd,Nat.reduceMul,if_true,if_false,decide_true,decide_false]

end Mir

namespace Mir

theorem r_blocks {H : Heap} {kh k len cap : Nat} {l : List Nat} {s : Int} {hh kk : List Nat} {r : V} {n : Nat} (hr : row H kh = some (hRow s hh kk r n)) (h8 : hh.length = 8) (h64 : kk.length = 64)
    (hk : row H k = some (us 8 l)) (hne : kh ≠ k) (ho : len ≤ l.length) (hlen : len < 2000000) (hcap : len ≤ cap) (hcap2 : cap < 4000000) :
    ∃ (hh' : List Nat) (c : Nat), hh'.length = 8 ∧ Run T f_sha256_blocks [.fn f_sha256_Hash_turn [.hp kh 0] [], .hs 1 k 0 len cap] H = some (.hs 1 k (64 * (len / 64)) (len % 64) c, H.set kh (some (hRow s hh' kk r n))) := by
  rw [Run_at T _ (show T f_sha256_blocks = some m_sha256_blocks from rfl)]
  simp only [c_sha256_blocks]
  simp only [EE,EX,Nat.reduceLeDiff,Nat.reduceEqDiff,Int.reduceEq,reduceCtorEq,Nat.reduceAdd,Nat.reduceMul,if_true,if_false,decide_true,decide_false]
  generalize hL : Loop T _ _ = L
  obtain ⟨q, hq⟩ : ∃ q, q = len / 64 := ⟨_, rfl⟩
  have hq64 : 64 * q ≤ len := by omega
  obtain ⟨hh', hh8, hL2⟩ : ∃ hh' : List Nat, hh'.length = 8 ∧ L = some (.exit 0, ⟨[(1, .hs 1 k (64 * q) (len - 64 * q) (cap - 64 * q))], H.set kh (some (hRow s hh' kk r n))⟩) := by
    subst hL
    refine loop_ex (fun i (hh : List Nat) => ⟨[(0, .fn f_sha256_Hash_turn [.hp kh 0] []), (1, .hs 1 k (64 * i) (len - 64 * i) (cap - 64 * i))], H.set kh (some (hRow s hh kk r n))⟩) (fun _ hh => hh.length = 8) q hh _ ?h0 h8 ?hs ?hn (by simp)
    · rw [sh_self hr]; rfl
    · intro i Y hi hY
      obtain ⟨m, hm⟩ : ∃ m, m = len - 64 * i := ⟨_, rfl⟩
      obtain ⟨o, hoo⟩ : ∃ o, o = 64 * i := ⟨_, rfl⟩
      obtain ⟨e, he⟩ : ∃ e, e = cap - o := ⟨_, rfl⟩
      rw [← hm, ← hoo, ← he, show 64 * (i + 1) = o + 64 by omega, show len - (o + 64) = m - 64 by omega, show cap - (o + 64) = e - 64 by omega]
      have k1 : decide (m < 9223372036854775808) = true := decide_eq_true (by omega)
      have k2 : decide ((64 : Int) ≤ (m : Int)) = true := decide_eq_true (by omega)
      have b3 := sh_eq (hRow s Y kk r n) (sh_lt hr)
      obtain ⟨Y', hY', c1⟩ := r_turn (H := H.set kh (some (hRow s Y kk r n))) (off := o) (cap := e) (l := l) b3 hY h64 (by rw [sh_ne _ hne]; exact hk) (by omega)
      simp only [List.set_set] at c1
      have x1 : ixOf (e + 1) (.i 64) = some 64 := ixOf_nat (k := 64) (by omega)
      have x2 : ixOf (m + 1) (.i 64) = some 64 := ixOf_nat (k := 64) (by omega)
      simp only [EE,EX,Nat.reduceLeDiff,Nat.reduceEqDiff,Int.reduceEq,reduceCtorEq,Nat.reduceAdd,Nat.reduceMul,if_true,if_false,decide_true,decide_false, k1, k2, c1, x1, x2]
      exact ⟨Y', hY', rfl⟩
    · intro Y hY
      obtain ⟨m, hm⟩ : ∃ m, m = len - 64 * q := ⟨_, rfl⟩
      rw [← hm]
      have k1 : decide (m < 9223372036854775808) = true := decide_eq_true (by omega)
      have k2 : decide ((64 : Int) ≤ (m : Int)) = false := decide_eq_false (by omega)
      simp only [EE,EX,Nat.reduceLeDiff,Nat.reduceEqDiff,Int.reduceEq,reduceCtorEq,Nat.reduceAdd,Nat.reduceMul,if_true,if_false,decide_true,decide_false, k1, k2]
  rw [hL2]
  clear hL hL2
  refine ⟨hh', cap - 64 * q, hh8, ?_⟩
  rw [show len % 64 = len - 64 * q by omega, ← hq]
  simp only [EE,EX,Nat.reduceLeDiff,Nat.reduceEqDiff,Int.reduceEq,reduceCtorEq,Nat.reduceAdd,Nat.reduceMul,if_true,if_false,decide_true,decide_false]

theorem r_blocks0 {H : Heap} {kh : Nat} : Run T f_sha256_blocks [.fn f_sha256_Hash_turn [.hp kh 0] [], .nils] H = some (.nils, H) := by
  rw [Run_at T _ (show T f_sha256_blocks = some m_sha256_blocks from rfl)]
  simp only [c_sha256_blocks]
  simp only [EE,EX,Nat.reduceLeDiff,Nat.reduceEqDiff,Int.reduceEq,reduceCtorEq,Nat.reduceAdd,Nat.reduceMul,if_true,if_false,decide_true,decide_false]
  rw [loop_use T (fun _ => ⟨[(0, .fn f_sha256_Hash_turn [.hp kh 0] []), (1, .nils)], H⟩) 0 (.exit 0, ⟨[(1, .nils)], H⟩) ?h0 (by simp) ?hs ?hn]
  · simp only [EE,EX,Nat.reduceLeDiff,Nat.reduceEqDiff,Int.reduceEq,reduceCtorEq,Nat.reduceAdd,Nat.reduceMul,if_true,if_false,decide_true,decide_false]
  · rfl
  · intro i hi; omega
  · have k1 : decide ((64 : Int) ≤ ((0 : Nat) : Int)) = false := rfl
    have k2 : decide (0 < 9223372036854775808) = true := rfl
    simp only [EE,EX,Nat.reduceLeDiff,Nat.reduceEqDiff,Int.reduceEq,reduceCtorEq,Nat.reduceAdd,Nat.reduceMul,if_true,if_false,decide_true,decide_false, k1, k2]

/-- What is left lies in a row of its own. -/
def RestOk (H : Heap) (kh : Nat) (r : V) : Prop := r = .nils ∨ ∃ (k : Nat) (l : List Nat), r = .hs 1 k 0 l.length l.length ∧ 0 < l.length ∧ l.length < 64 ∧ row H k = some (us 8 l) ∧ k ≠ kh

/-- Appending onto nil. -/
theorem ap_new {H : Heap} {l : List Nat} (h0 : l ≠ []) (hl : l.length < 2000000) : appO H 1 1 (some (us 8 l)) (some l.length) .nils = some (.hs 1 H.length 0 l.length l.length, H ++ [some (us 8 l)]) := by
  have h1 : decide (l.length = 0) = false := decide_eq_false (by simpa using h0)
  have h2 : okA 1 1 l.length l.length (us 8 l) = true := by
    rw [GE, show roomOk l.length 1 = true by simp [roomOk]; omega]; simp
  rw [Gs, h1, h2, Gu]

theorem ap_zero {H : Heap} : appO H 1 1 (some []) (some 0) .nils = some (.nils, H) := by
  rw [Gs]; rfl

/-- One byte more. -/
theorem ap_one {H : Heap} {k : Nat} {l : List Nat} {b : Nat} (hk : row H k = some (us 8 l)) (hl : l.length < 2000000) :
    appO H 1 1 (some [V.u 8 b]) (some 1) (.hs 1 k 0 l.length l.length) = some (.hs 1 H.length 0 (l.length + 1) (l.length + 1), H.set k none ++ [some (us 8 (l ++ [b]))]) := by
  have h1 : decide (0 + l.length * 1 ≤ (us 8 l).length) = true := decide_eq_true (by rw [us_len]; omega)
  have h2 : okA 1 1 (l.length + 1) 1 [V.u 8 b] = true := by
    simp only [okA, show roomOk (l.length + 1) 1 = true by simp [roomOk]; omega]; rfl
  have h3 : ((us 8 l).drop 0).take (l.length * 1) ++ [V.u 8 b] = us 8 (l ++ [b]) := by
    rw [List.drop_zero, Nat.mul_one, List.take_of_length_le (by rw [us_len]; omega)]; simp [us]
  rw [Gv, hk, Gw, h1, h2, Gx, h3]

theorem r_Write {H : Heap} {kh : Nat} {m : List Nat} {s : Int} {hh kk : List Nat} (hr : row H kh = some (hRow s hh kk .nils 0)) (h8 : hh.length = 8) (h64 : kk.length = 64) (hm : m.length < 2000000) :
    ∃ (H' : Heap) (hh' : List Nat) (r' : V) (n' : Nat), Run T f_sha256_Hash_Write [.hp kh 0, .s m] H = some (.i 0, H') ∧ hh'.length = 8 ∧ row H' kh = some (hRow s hh' kk r' n') ∧ RestOk H' kh r' ∧ (∀ j, j ≠ kh → j < H.length → row H' j = row H j) := by
  rw [Run_at T _ (show T f_sha256_Hash_Write = some m_sha256_Hash_Write from rfl)]
  simp only [c_sha256_Hash_Write]
  have nq : eqV .ptr (.hp kh 0) .nilp = some false := rfl
  have p1 := hRow_n (s := s) (r := .nils) (n := 0) h8 h64
  have p2 : ∀ n, part (hRow s hh kk .nils n) 73 none = some .nils := fun n => hRow_r h8 h64
  have d1 : decide (m.length < 9223372036854775808) = true := decide_eq_true (by omega)
  have d2 : ∀ n r, decide (74 + 1 ≤ (hRow s hh kk r n).length) = true := fun n r => decide_eq_true (by rw [hRow_len h8 h64]; omega)
  have d3 : ∀ hh' n r, hh'.length = 8 → decide (74 ≤ (hRow s hh' kk r n).length) = true := fun hh' n r h8 => decide_eq_true (by rw [hRow_len h8 h64]; omega)
  have s1 : ∀ v, splice (hRow s hh kk .nils 0) 74 [V.u 64 v] = hRow s hh kk .nils v := fun v => hRow_setn h8 h64
  have s2 : ∀ (G : Heap) l, setRow G kh l = G.set kh (some l) := fun _ _ => rfl
  have e1 := fun n => sh_eq (hRow s hh kk .nils n) (sh_lt hr)
  have s3 : ∀ (G : Heap) x l, setRow (G.set kh x) kh l = G.set kh (some l) := fun G x l => sh_set G kh x l
  obtain ⟨N, hN⟩ : ∃ N, N = ((m.length : Int) % 2 ^ 64).toNat % 2 ^ 64 := ⟨_, rfl⟩
  have khl := sh_lt hr
  by_cases h0 : m = []
  · have a1 : decide (m.length = 0) = true := by subst h0; rfl
    have e2 : part (hRow s hh kk .nils N) 73 none = some .nils := p2 N
    have s4 : splice (hRow s hh kk .nils N) 73 [V.nils] = hRow s hh kk .nils N := hRow_setr h8 h64
    refine ⟨H.set kh (some (hRow s hh kk .nils N)), hh, .nils, N, ?_, h8, e1 N, .inl rfl, fun j hj _ => sh_ne _ (Ne.symm hj)⟩
    simp only [EE,EX,Nat.reduceLeDiff,Nat.reduceEqDiff,Int.reduceEq,reduceCtorEq,Nat.reduceAdd,Nat.reduceMul,if_true,if_false,decide_true,decide_false, nq, hr, p1, p2, d1, d2, s1, s2, e1, ← hN, a1, r_blocks0, s4, ap_zero, d3 hh _ _ h8, List.set_set]
  · have a1 : decide (m.length = 0) = false := decide_eq_false (by simpa using h0)
    have a2 : roomOk m.length 1 = true := by simp [roomOk]; omega
    obtain ⟨H1, hH1⟩ : ∃ H1, H1 = H.set kh (some (hRow s hh kk .nils N)) ++ [some (us 8 m)] := ⟨_, rfl⟩
    have hl1 : (H.set kh (some (hRow s hh kk .nils N))).length = H.length := List.length_set
    have b1 : row H1 kh = some (hRow s hh kk .nils N) := by rw [hH1]; exact sh_app (e1 N) _
    have b2 : row H1 H.length = some (us 8 m) := by rw [hH1, ← hl1]; exact sh_new _ _
    obtain ⟨hh', c, hh8, c1⟩ := r_blocks (len := m.length) (cap := m.length) b1 h8 h64 b2 (by omega) (Nat.le_refl _) hm (Nat.le_refl _) (by omega)
    obtain ⟨H2, hH2⟩ : ∃ H2, H2 = H1.set kh (some (hRow s hh' kk .nils N)) := ⟨_, rfl⟩
    rw [← hH2] at c1
    have b3 : row H2 kh = some (hRow s hh' kk .nils N) := by rw [hH2]; exact sh_eq _ (sh_lt b1)
    have b4 : row H2 H.length = some (us 8 m) := by rw [hH2, sh_ne _ (by omega)]; exact b2
    have b5 : sliceCells H2 (.hs 1 H.length (64 * (m.length / 64)) (m.length % 64) c) = some (us 8 ((m.drop (64 * (m.length / 64))).take (m.length % 64))) := by
      rw [GM, b4]
      exact GN _ _ _ _ (by omega)
    obtain ⟨R, hR⟩ : ∃ R, R = (m.drop (64 * (m.length / 64))).take (m.length % 64) := ⟨_, rfl⟩
    rw [← hR] at b5
    have hRl : R.length = m.length % 64 := by rw [hR, List.length_take, List.length_drop]; omega
    rw [← hRl] at b5 c1
    have oth : ∀ j, j ≠ kh → j < H.length → row H2 j = row H j := fun j hj hjl => by
      rw [hH2, sh_ne _ (Ne.symm hj), hH1]
      unfold row
      rw [List.getElem?_append_left (by rw [hl1]; exact hjl), List.getElem?_set_ne (Ne.symm hj)]
    have s5 : ∀ v, splice (hRow s hh' kk .nils N) 73 [v] = hRow s hh' kk v N := fun v => hRow_setr hh8 h64
    have d4 := fun n r => d3 hh' n r hh8
    by_cases hR0 : R = []
    · have e3 : appO H2 1 1 (some (us 8 R)) (some R.length) .nils = some (.nils, H2) := by rw [hR0]; exact ap_zero
      refine ⟨H2, hh', .nils, N, ?_, hh8, b3, .inl rfl, oth⟩
      have s6 : H2.set kh (some (hRow s hh' kk .nils N)) = H2 := sh_self b3
      have t1 : R.length = 0 := by rw [hR0]; rfl
      simp only [EE,EX,Nat.reduceLeDiff,Nat.reduceEqDiff,Int.reduceEq,reduceCtorEq,Nat.reduceAdd,Nat.reduceMul,if_true,if_false,decide_true,decide_false, nq, hr, p1, p2, d1, d2, s1, s2, e1, ← hN, a1, a2, hl1, ← hH1, c1, b5, e3, b3, d4, s5, s6]
    · have a3 : decide (R.length = 0) = false := decide_eq_false (by simpa using hR0)
      have hR64 : R.length < 64 := by rw [hRl]; omega
      have a4 : roomOk R.length 1 = true := by simp [roomOk]; omega
      have hl2 : H2.length = H1.length := by rw [hH2, List.length_set]
      obtain ⟨H3, hH3⟩ : ∃ H3, H3 = H2 ++ [some (us 8 R)] := ⟨_, rfl⟩
      have b6 : row H3 kh = some (hRow s hh' kk .nils N) := by rw [hH3]; exact sh_app b3 _
      have b7 : row H3 H2.length = some (us 8 R) := by rw [hH3]; exact sh_new _ _
      have e3 : appO H2 1 1 (some (us 8 R)) (some R.length) .nils = some (.hs 1 H2.length 0 R.length R.length, H3) := by rw [hH3]; exact ap_new hR0 (by omega)
      have k2 := sh_lt b3
      refine ⟨H3.set kh (some (hRow s hh' kk (.hs 1 H2.length 0 R.length R.length) N)), hh', _, N, ?_, hh8, sh_eq _ (sh_lt b6), .inr ⟨H2.length, R, rfl, List.length_pos_iff.2 hR0, hR64, ?_, by omega⟩, fun j hj hjl => ?_⟩
      · simp only [EE,EX,Nat.reduceLeDiff,Nat.reduceEqDiff,Int.reduceEq,reduceCtorEq,Nat.reduceAdd,Nat.reduceMul,if_true,if_false,decide_true,decide_false, nq, hr, p1, p2, d1, d2, s1, s2, e1, ← hN, a1, a2, hl1, ← hH1, c1, b5, e3, b6, d4, s5]
      · rw [sh_ne _ (by omega)]; exact b7
      · rw [sh_ne _ (Ne.symm hj), hH3]
        have := oth j hj hjl
        unfold row at this ⊢
        rw [List.getElem?_append_left (by rw [hl2, hH1, List.length_append, hl1]; omega)]
        exact this

end Mir

namespace Mir

/-- A row of bytes beside two rows that stay. -/
structure Sm (kh ko : Nat) (A B : List V) (G : Heap) (k : Nat) (l : List Nat) : Prop where
  r : row G k = some (us 8 l)
  nh : k ≠ kh
  no : k ≠ ko
  h : row G kh = some A
  o : row G ko = some B

theorem Sm.step {kh ko : Nat} {A B : List V} {G : Heap} {k : Nat} {l : List Nat} (h : Sm kh ko A B G k l) (b : Nat) : Sm kh ko A B (G.set k none ++ [some (us 8 (l ++ [b]))]) G.length (l ++ [b]) := by
  have e : (G.set k none).length = G.length := List.length_set
  refine ⟨?_, fun c => ?_, fun c => ?_, ?_, ?_⟩
  · have := sh_new (G.set k none) (us 8 (l ++ [b])); rw [e] at this; exact this
  · have := sh_lt h.h; omega
  · have := sh_lt h.o; omega
  · exact sh_app (by rw [sh_ne _ h.nh]; exact h.h) _
  · exact sh_app (by rw [sh_ne _ h.no]; exact h.o) _

theorem last_start {kh ko : Nat} {A B : List V} {H : Heap} {r : V} (hr : RestOk H kh r) (h1 : row H kh = some A) (h2 : row H ko = some B) (hko : ∀ k l, r = .hs 1 k 0 l l → k ≠ ko) :
    ∃ (v : V) (H2 G : Heap) (k : Nat) (l : List Nat), evV r = r ∧ san r = r ∧ evV v = v ∧ san v = v ∧ appO H 1 1 (appC H r) (appL r) .nils = some (v, H2) ∧ appO H2 1 1 (some [.u 8 128]) (some 1) v = some (.hs 1 k 0 l.length l.length, G) ∧
      Sm kh ko A B G k l ∧ 1 ≤ l.length ∧ l.length ≤ 64 := by
  rcases hr with rfl | ⟨k0, l0, rfl, hp, hl, hk0, hn⟩
  · refine ⟨.nils, H, H ++ [some (us 8 [128])], H.length, [128], rfl, rfl, rfl, rfl, rfl, ?_, ⟨sh_new _ _, ?_, ?_, sh_app h1 _, sh_app h2 _⟩, by decide, by decide⟩
    · exact ap_new (l := [128]) (by simp) (by simp)
    · have := sh_lt h1; omega
    · have := sh_lt h2; omega
  · have hn2 := hko k0 l0.length rfl
    have e1 : appC H (.hs 1 k0 0 l0.length l0.length) = some (us 8 l0) := by
      rw [GK, GM, hk0, GN _ _ _ _ (by omega), List.drop_zero, List.take_of_length_le (Nat.le_refl _)]
    have e2 := ap_new (H := H) (l := l0) (List.length_pos_iff.1 hp) (by omega)
    have s0 : Sm kh ko A B (H ++ [some (us 8 l0)]) H.length l0 := ⟨sh_new _ _, by have := sh_lt h1; omega, by have := sh_lt h2; omega, sh_app h1 _, sh_app h2 _⟩
    have e3 := ap_one (b := 128) s0.r (by omega)
    refine ⟨.hs 1 H.length 0 l0.length l0.length, H ++ [some (us 8 l0)], _, _, l0 ++ [128], rfl, rfl, rfl, rfl, ?_, ?_, s0.step 128, ?_, ?_⟩
    · rw [e1]; exact e2
    · rw [e3]; simp
    · simp
    · simp; omega

/-- What is handed out so far. -/
structure So (kh : Nat) (A : List V) (G : Heap) (v : V) (l : List Nat) : Prop where
  v : (l = [] ∧ v = .nils) ∨ ∃ k, v = .hs 1 k 0 l.length l.length ∧ row G k = some (us 8 l) ∧ k ≠ kh
  h : row G kh = some A
  b : ∀ x ∈ l, x < 256

theorem So.ev {kh : Nat} {A : List V} {G : Heap} {v : V} {l : List Nat} (h : So kh A G v l) : evV v = v ∧ san v = v := by
  rcases h.v with ⟨_, rfl⟩ | ⟨k, rfl, _⟩ <;> exact ⟨rfl, rfl⟩

theorem So.step {kh : Nat} {A : List V} {G : Heap} {v : V} {l : List Nat} (h : So kh A G v l) (hl : l.length < 1000) {b : Nat} (hb : b < 256) :
    ∃ (v' : V) (G' : Heap), appO G 1 1 (some [V.u 8 b]) (some 1) v = some (v', G') ∧ So kh A G' v' (l ++ [b]) := by
  have hb' : ∀ x ∈ l ++ [b], x < 256 := fun x hx => by
    rw [List.mem_append, List.mem_singleton] at hx
    rcases hx with hx | rfl
    · exact h.b x hx
    · exact hb
  have kl := sh_lt h.h
  rcases h.v with ⟨rfl, rfl⟩ | ⟨k, rfl, hk, hn⟩
  · exact ⟨_, _, ap_new (l := [b]) (by simp) (by simp), .inr ⟨G.length, rfl, sh_new _ _, by omega⟩, sh_app h.h _, hb'⟩
  · refine ⟨_, _, ap_one (b := b) hk (by omega), .inr ⟨G.length, by simp, ?_, by omega⟩, sh_app (by rw [sh_ne _ hn]; exact h.h) _, hb'⟩
    have := sh_new (G.set k none) (us 8 (l ++ [b]))
    rwa [List.length_set] at this

theorem hRow_all {s : Int} {hh kk : List Nat} {r : V} {n : Nat} (hr : cellV r = true) : (hRow s hh kk r n).all cellV = true := by
  simp only [hRow, List.all_cons, List.all_append, us_cellV, List.all_nil, hr]
  rfl

theorem r_shaSum {H : Heap} {kh : Nat} {hh kk : List Nat} {r : V} {n : Nat} (hr : row H kh = some (hRow 256 hh kk r n)) (h8 : hh.length = 8) (h64 : kk.length = 64) (hR : RestOk H kh r) :
    ∃ (d : List Nat) (H' : Heap), d.length = 32 ∧ (∀ b ∈ d, b < 256) ∧ Run T f_sha256_Hash_Sum [.hp kh 0] H = some (.s d, H') := by
  rw [Run_at T _ (show T f_sha256_Hash_Sum = some m_sha256_Hash_Sum from rfl)]
  simp only [c_sha256_Hash_Sum]
  have nq : eqV .ptr (.hp kh 0) .nilp = some false := rfl
  obtain ⟨A, hA⟩ : ∃ A, A = hRow 256 hh kk r n := ⟨_, rfl⟩
  have hAl : A.length = 75 := by rw [hA]; exact hRow_len h8 h64
  have hAc : A.all cellV = true := by rw [hA]; exact hRow_all (by rcases hR with rfl | ⟨_, _, rfl, _⟩ <;> rfl)
  have p0 : part A 0 (some 75) = some (.agg A) := by
    simp only [part]
    rw [if_pos (by omega), List.drop_zero, List.take_of_length_le (by omega)]
  have ok : okc 75 A 0 75 = true := by simp [okc, hAl, hAc]
  have pr : part A 73 none = some r := by rw [hA]; exact hRow_r h8 h64
  have s1 : ∀ L : List V, L.length = 75 → splice L 0 A = A := fun L hL => by
    have : ∀ x : V, A ≠ [x] := fun x h => by rw [h] at hAl; simp at hAl
    match A, hAl, this with
    | [], h, _ => simp at h
    | [x], _, t => exact absurd rfl (t x)
    | a :: b :: A, h, _ =>
      simp only [splice, h, Nat.zero_add, List.take_zero, List.nil_append]
      rw [List.drop_of_length_le (by omega), List.append_nil]
  obtain ⟨H1, hH1⟩ : ∃ H1, H1 = H ++ [some A] := ⟨_, rfl⟩
  have s2 : ∀ L x, setRow (H ++ [some L]) H.length x = H ++ [some x] := fun L x => by simp [setRow]
  have khl := sh_lt hr
  rw [← hA] at hr
  have g1 : row H1 kh = some A := by rw [hH1]; exact sh_app hr _
  have g2 : row H1 H.length = some A := by rw [hH1]; exact sh_new _ _
  have R1 : RestOk H1 kh r := by
    rcases hR with rfl | ⟨k0, l0, rfl, hp, hl, hk0, hn⟩
    · exact .inl rfl
    · exact .inr ⟨k0, l0, rfl, hp, hl, by rw [hH1]; exact sh_app hk0 _, hn⟩
  obtain ⟨v, H2, G, k, l, v1, v2, v3, v4, v5, v6, sm, l1, l64⟩ := last_start R1 g1 g2 (fun k l h => by
    rcases hR with rfl | ⟨k0, l0, rfl, hp, hl, hk0, hn⟩
    · cases h
    · cases h
      have := sh_lt hk0
      omega)
  have o1 : okc 1 [V.u 8 128] 0 [V.u 8 0].length = true := rfl
  have nw := sh_new H
  obtain ⟨ko, hko⟩ : ∃ ko, ko = H.length := ⟨_, rfl⟩
  simp only [EE,EX,Nat.reduceLeDiff,Nat.reduceEqDiff,Int.reduceEq,reduceCtorEq,Nat.reduceAdd,Nat.reduceMul,if_true,if_false,decide_true,decide_false, nq, hr, p0, s1, s2, nw, ok, ← hH1, g1, pr, v1, v2, v3, v4, v5, v6, List.set_cons_zero]
  rw [← hko] at sm ⊢
  generalize hL : Loop T _ _ = L
  obtain ⟨z, hz⟩ : ∃ z, z = (120 - l.length % 64) % 64 := ⟨_, rfl⟩
  obtain ⟨⟨G, k, l'⟩, ⟨sm, hl'⟩, hL2⟩ : ∃ g : Heap × Nat × List Nat, (Sm kh ko A A g.1 g.2.1 g.2.2 ∧ g.2.2.length = l.length + z) ∧ L = some (.exit 0, ⟨[(0, .hp kh 0), (3, .hp ko 0), (4, .hs 1 g.2.1 0 g.2.2.length g.2.2.length)], g.1⟩) := by
    subst hL
    refine loop_ex (fun i (g : Heap × Nat × List Nat) => ⟨[(0, .hp kh 0), (3, .hp ko 0), (4, .hs 1 g.2.1 0 g.2.2.length g.2.2.length)], g.1⟩) (fun i g => Sm kh ko A A g.1 g.2.1 g.2.2 ∧ g.2.2.length = l.length + i) z (G, k, l) _ ?h0 ⟨sm, rfl⟩ ?hs ?hn (by simp)
    · rfl
    · rintro i ⟨G, k, l'⟩ hi ⟨sm, hl'⟩
      simp only at sm hl'
      obtain ⟨m, hm⟩ : ∃ m, m = l'.length := ⟨_, rfl⟩
      have c1 := ap_one (b := 0) sm.r (by omega)
      rw [← hm] at c1 hl'
      have d1 : decide (m < 9223372036854775808) = true := decide_eq_true (by omega)
      have d2 : F (Int.tmod ((m : Nat) : Int) 64) ((m % 64 : Nat) : Int) := ⟨by rw [Int.tmod_eq_emod_of_nonneg (by omega)]; omega⟩
      have d3 : decide (((m % 64 : Nat) : Int) = 56) = false := decide_eq_false (by omega)
      refine ⟨(_, _, _), ⟨sm.step 0, by simp only [List.length_append, ← hm]; simp; omega⟩, ?_⟩
      simp only [← hm, List.length_append, List.length_cons, List.length_nil, Nat.zero_add]
      simp only [EE,EX,Nat.reduceLeDiff,Nat.reduceEqDiff,Int.reduceEq,reduceCtorEq,Nat.reduceAdd,Nat.reduceMul,if_true,if_false,decide_true,decide_false, d1, d2.eq, d3, c1, List.set_cons_zero]
    · rintro ⟨G, k, l'⟩ ⟨sm, hl'⟩
      simp only at sm hl'
      obtain ⟨m, hm⟩ : ∃ m, m = l'.length := ⟨_, rfl⟩
      simp only [← hm]
      rw [← hm] at hl'
      have d1 : decide (m < 9223372036854775808) = true := decide_eq_true (by omega)
      have d2 : F (Int.tmod ((m : Nat) : Int) 64) ((m % 64 : Nat) : Int) := ⟨by rw [Int.tmod_eq_emod_of_nonneg (by omega)]; omega⟩
      have d3 : decide (((m % 64 : Nat) : Int) = 56) = true := decide_eq_true (by omega)
      simp only [EE,EX,Nat.reduceLeDiff,Nat.reduceEqDiff,Int.reduceEq,reduceCtorEq,Nat.reduceAdd,Nat.reduceMul,if_true,if_false,decide_true,decide_false, d1, d2.eq, d3]
  rw [hL2]
  simp only at sm hl'
  clear hL hL2 v4 v5 v6
  simp only [EE,EX,Nat.reduceLeDiff,Nat.reduceEqDiff,Int.reduceEq,reduceCtorEq,Nat.reduceAdd,Nat.reduceMul,if_true,if_false,decide_true,decide_false]
  rw [loop_use T (fun _ => ⟨[(0, .hp kh 0), (3, .hp ko 0), (4, .hs 1 k 0 l'.length l'.length), (29, .i 0)], G⟩) 0 (.exit 2, ⟨[(0, .hp kh 0), (3, .hp ko 0), (4, .hs 1 k 0 l'.length l'.length)], G⟩) ?ia (by simp) ?ib ?ic]
  case ia => rfl
  case ib => intro i hi; omega
  case ic =>
    have d1 : decide ((0 : Int) < 0) = false := rfl
    simp only [EE,EX,Nat.reduceLeDiff,Nat.reduceEqDiff,Int.reduceEq,reduceCtorEq,Nat.reduceAdd,Nat.reduceMul,if_true,if_false,decide_true,decide_false, d1]
  simp only [EE,EX,Nat.reduceLeDiff,Nat.reduceEqDiff,Int.reduceEq,reduceCtorEq,Nat.reduceAdd,Nat.reduceMul,if_true,if_false,decide_true,decide_false]
  obtain ⟨l0, hl0⟩ : ∃ l0, l0 = l'.length := ⟨_, rfl⟩
  have hl0b : l0 ≤ 128 := by omega
  generalize hL : Loop T _ _ = L
  obtain ⟨⟨G2, k2, l2⟩, ⟨sm2, hl2⟩, hL2⟩ : ∃ g : Heap × Nat × List Nat, (Sm kh ko A A g.1 g.2.1 g.2.2 ∧ g.2.2.length = l0 + 8) ∧ L = some (.exit 4, ⟨[(0, .hp kh 0), (3, .hp ko 0), (4, .hs 1 g.2.1 0 g.2.2.length g.2.2.length)], g.1⟩) := by
    subst hL
    refine loop_ex (fun i (g : Heap × Nat × List Nat) => ⟨[(0, .hp kh 0), (3, .hp ko 0), (4, .hs 1 g.2.1 0 g.2.2.length g.2.2.length), (35, .i (i : Int))], g.1⟩) (fun i g => Sm kh ko A A g.1 g.2.1 g.2.2 ∧ g.2.2.length = l0 + i) 8 (G, k, l') _ ?ja ⟨sm, hl0.symm⟩ ?jb ?jc (by simp)
    · rfl
    · rintro i ⟨G, k, l'⟩ hi ⟨sm, hl'⟩
      simp only at sm hl'
      have c1 := fun b => ap_one (b := b) sm.r (by omega)
      have k1 : decide ((i : Int) < 8) = true := decide_eq_true (by omega)
      have k2 : F (w64 ((i : Int) + 1)) ((i + 1 : Nat) : Int) := ⟨by unfold w64; omega⟩
      have k3 : F (w64 (56 - w64 (8 * (i : Int)))) ((56 - 8 * i : Nat) : Int) := ⟨by rw [w64_of (z := 8 * (i : Int)) (by omega) (by omega), w64_of (by omega) (by omega)]; omega⟩
      have g3 := sm.h
      have pn : part A 74 none = some (.u 64 n) := by rw [hA]; exact hRow_n h8 h64
      simp only [EE,EX,Nat.reduceLeDiff,Nat.reduceEqDiff,Int.reduceEq,reduceCtorEq,Nat.reduceAdd,Nat.reduceMul,if_true,if_false,decide_true,decide_false, k1, k2.eq, k3.eq, g3, pn, c1, List.set_cons_zero]
      generalize n * 2 ^ min 3 64 % 2 ^ 64 / 2 ^ min (56 - 8 * i) 64 % 2 ^ 8 = b
      refine ⟨(_, _, l' ++ [b]), ⟨sm.step b, by simp only [List.length_append, List.length_cons, List.length_nil]; omega⟩, ?_⟩
      simp only [List.length_append, List.length_cons, List.length_nil, Nat.zero_add]
    · rintro ⟨G, k, l'⟩ ⟨sm, hl'⟩
      simp only at sm hl'
      have d1 : decide (((8 : Nat) : Int) < 8) = false := rfl
      simp only [EE,EX,Nat.reduceLeDiff,Nat.reduceEqDiff,Int.reduceEq,reduceCtorEq,Nat.reduceAdd,Nat.reduceMul,if_true,if_false,decide_true,decide_false, d1]
  rw [hL2]
  simp only at sm2 hl2
  clear hL hL2
  obtain ⟨hh', c', hh8, c1⟩ := r_blocks (len := l2.length) (cap := l2.length) (hA ▸ sm2.o) h8 h64 sm2.r (Ne.symm sm2.no) (Nat.le_refl _) (by omega) (Nat.le_refl _) (by omega)
  obtain ⟨G3, hG3⟩ : ∃ G3, G3 = G2.set ko (some (hRow 256 hh' kk r n)) := ⟨_, rfl⟩
  rw [← hG3] at c1
  have g3 : row G3 ko = some (hRow 256 hh' kk r n) := by rw [hG3]; exact sh_eq _ (sh_lt sm2.o)
  have g4 : row G3 kh = some A := by rw [hG3, sh_ne _ (by omega)]; exact sm2.h
  have ph := hRow_h (s := 256) (kk := kk) (r := r) (n := n) hh8
  simp only [EE,EX,Nat.reduceLeDiff,Nat.reduceEqDiff,Int.reduceEq,reduceCtorEq,Nat.reduceAdd,Nat.reduceMul,if_true,if_false,decide_true,decide_false, c1, g3, ph]
  clear c1 ph g3 hG3 g2 g1 R1 hH1 s2
  generalize hL : Loop T _ _ = L
  obtain ⟨⟨G4, w, d⟩, ⟨so, hd⟩, hL2⟩ : ∃ g : Heap × V × List Nat, (So kh A g.1 g.2.1 g.2.2 ∧ g.2.2.length = 4 * 8) ∧ L = some (.exit 6, ⟨[(0, .hp kh 0), (6, g.2.1)], g.1⟩) := by
    subst hL
    refine loop_ex (fun i (g : Heap × V × List Nat) => ⟨[(0, .hp kh 0), (6, g.2.1), (56, .agg (us 32 hh')), (57, .i (i : Int))], g.1⟩) (fun i g => So kh A g.1 g.2.1 g.2.2 ∧ g.2.2.length = 4 * i) 8 (G3, .nils, []) _ ?ka ⟨⟨.inl ⟨rfl, rfl⟩, g4, by simp⟩, rfl⟩ ?kb ?kc (by simp)
    · rfl
    · rintro i ⟨G, v, l⟩ hi ⟨so, hl⟩
      simp only at so hl
      have k1 : decide ((i : Int) < 8) = true := decide_eq_true (by omega)
      have k2 : F (w64 ((i : Int) + 1)) ((i + 1 : Nat) : Int) := ⟨by unfold w64; omega⟩
      have k3 := ixOf_nat (n := 8) (k := i) (by omega)
      have k4 := us_part (w := 32) hh8 (j := i) (by omega)
      obtain ⟨t1, t2⟩ := so.ev
      simp only [Nat.mul_one]
      simp only [EE,EX,Nat.reduceLeDiff,Nat.reduceEqDiff,Int.reduceEq,reduceCtorEq,Nat.reduceAdd,Nat.reduceMul,if_true,if_false,decide_true,decide_false, k1, k2.eq, k3, k4, t1, t2]
      generalize hM : Loop T _ _ = M
      obtain ⟨⟨G5, w, d⟩, ⟨so2, hd⟩, hM2⟩ : ∃ g : Heap × V × List Nat, (So kh A g.1 g.2.1 g.2.2 ∧ g.2.2.length = 4 * i + 4) ∧ M = some (.exit 8, ⟨[(0, .hp kh 0), (6, g.2.1), (56, .agg (us 32 hh')), (57, .i (i : Int))], g.1⟩) := by
        subst hM
        refine loop_ex (fun j (g : Heap × V × List Nat) => ⟨[(0, .hp kh 0), (6, g.2.1), (8, .u 32 (hh'.getD i 0)), (56, .agg (us 32 hh')), (57, .i (i : Int)), (60, .i (j : Int))], g.1⟩) (fun j g => So kh A g.1 g.2.1 g.2.2 ∧ g.2.2.length = 4 * i + j) 4 (G, v, l) _ ?la ⟨so, hl⟩ ?lb ?lc (by simp)
        · rfl
        · rintro j ⟨G, v, l⟩ hj ⟨so, hl⟩
          simp only at so hl
          obtain ⟨t1, t2⟩ := so.ev
          have k1 : decide ((j : Int) < 4) = true := decide_eq_true (by omega)
          have k2 : F (w64 ((j : Int) + 1)) ((j + 1 : Nat) : Int) := ⟨by unfold w64; omega⟩
          have k3 : F (w64 (24 - w64 (8 * (j : Int)))) ((24 - 8 * j : Nat) : Int) := ⟨by rw [w64_of (z := 8 * (j : Int)) (by omega) (by omega), w64_of (by omega) (by omega)]; omega⟩
          obtain ⟨b, hb⟩ : ∃ b, b = hh'.getD i 0 / 2 ^ min (24 - 8 * j) 32 % 2 ^ 8 := ⟨_, rfl⟩
          have hb256 : b < 256 := by rw [hb]; exact Nat.mod_lt _ (by decide)
          obtain ⟨v', G', c1, so'⟩ := so.step (by omega) hb256
          obtain ⟨t3, t4⟩ := so'.ev
          refine ⟨(G', v', l ++ [b]), ⟨so', by simp only [List.length_append, List.length_cons, List.length_nil]; omega⟩, ?_⟩
          simp only [EE,EX,Nat.reduceLeDiff,Nat.reduceEqDiff,Int.reduceEq,reduceCtorEq,Nat.reduceAdd,Nat.reduceMul,if_true,if_false,decide_true,decide_false, k1, k2.eq, k3.eq, t1, t2, List.set_cons_zero, ← hb, c1, t3, t4]
        · rintro ⟨G, v, l⟩ ⟨so, hl⟩
          simp only at so hl
          obtain ⟨t1, t2⟩ := so.ev
          have k1 : decide (((4 : Nat) : Int) < 4) = false := rfl
          simp only [EE,EX,Nat.reduceLeDiff,Nat.reduceEqDiff,Int.reduceEq,reduceCtorEq,Nat.reduceAdd,Nat.reduceMul,if_true,if_false,decide_true,decide_false, k1, t1, t2]
      rw [hM2]
      simp only at so2 hd
      obtain ⟨t3, t4⟩ := so2.ev
      refine ⟨(G5, w, d), ⟨so2, by simp only; omega⟩, ?_⟩
      simp only [EE,EX,Nat.reduceLeDiff,Nat.reduceEqDiff,Int.reduceEq,reduceCtorEq,Nat.reduceAdd,Nat.reduceMul,if_true,if_false,decide_true,decide_false, k2.eq, t3, t4]
    · rintro ⟨G, v, l⟩ ⟨so, hl⟩
      simp only at so hl
      obtain ⟨t1, t2⟩ := so.ev
      have d1 : decide (((8 : Nat) : Int) < 8) = false := rfl
      simp only [EE,EX,Nat.reduceLeDiff,Nat.reduceEqDiff,Int.reduceEq,reduceCtorEq,Nat.reduceAdd,Nat.reduceMul,if_true,if_false,decide_true,decide_false, d1, t1, t2]
  rw [hL2]
  simp only at so hd
  clear hL hL2
  obtain ⟨k6, rfl, hk6, hn6⟩ := so.v.resolve_left (fun h => by rw [h.1] at hd; simp at hd)
  have q1 : F (w64 (Int.tdiv 256 8)) 32 := ⟨rfl⟩
  have pz : part A 0 none = some (.i 256) := by rw [hA]; rfl
  have g6 := so.h
  have x1 : ixOf (d.length + 1) (.i 32) = some 32 := ixOf_nat (k := 32) (by omega)
  have d8 : decide ((8 : Int) = 0) = false := rfl
  refine ⟨d, G4, by omega, so.b, ?_⟩
  have qb : b2sV false G4 (.hs 1 k6 0 32 d.length) = some (.s d) := by
    have e : sliceCells G4 (.hs 1 k6 0 32 d.length) = some (us 8 d) := by
      rw [GM, hk6, GN _ _ _ _ (by omega), List.drop_zero, List.take_of_length_le (by omega)]
    have h32 : d.length = 32 := by omega
    have f : (if false = true then ([] : Heap) else G4) = G4 := if_neg (by decide)
    unfold b2sV
    rw [f, e]
    dsimp only
    rw [mapM_us]
    dsimp only
    rw [Gg, h32, if_pos rfl]
  simp only [EE,EX,Nat.reduceLeDiff,Nat.reduceEqDiff,Int.reduceEq,reduceCtorEq,Nat.reduceAdd,Nat.reduceMul,if_true,if_false,decide_true,decide_false, g6, pz, q1.eq, x1, d8, qb]

end Mir

namespace Mir

def hA : V := .fn f_hash_bind_sha256_Hash_1 [] [.vr [.fn f_sha256_Hash_Write [] []] 0, .vr [.hp 2 0] 0]
def hB : V := .fn f_hash_bind_sha256_Hash_2 [] [.vr [.fn f_sha256_Hash_Sum [] []] 0, .vr [.hp 2 0] 0]
def hI : List Nat := [1779033703, 3144134277, 1013904242, 2773480762, 1359893119, 2600822924, 528734635, 1541459225]
def hK : List Nat := [1116352408, 1899447441, 3049323471, 3921009573, 961987163, 1508970993, 2453635748, 2870763221, 3624381080, 310598401, 607225278, 1426881987, 1925078388, 2162078206, 2614888103, 3248222580, 3835390401, 4022224774, 264347078, 604807628, 770255983, 1249150122, 1555081692, 1996064986, 2554220882, 2821834349, 2952996808, 3210313671, 3336571891, 3584528711, 113926993, 338241895, 666307205, 773529912, 1294757372, 1396182291, 1695183700, 1986661051, 2177026350, 2456956037, 2730485921, 2820302411, 3259730800, 3345764771, 3516065817, 3600352804, 4094571909, 275423344, 430227734, 506948616, 659060556, 883997877, 958139571, 1322822218, 1537002063, 1747873779, 1955562222, 2024104815, 2227730452, 2361852424, 2428436474, 2756734187, 3204031479, 3329325298]
def hH0 : Heap := [some [hA, hB], some (us 32 hI), some (hRow 256 hI hK .nils 0)]

theorem r_hashNew : Run T f_hash_New [.i 2] [] = some (.tup [.hp 0 0, .i 0], hH0) := (Run_some T).2 ⟨30, by kernel_rfl⟩
theorem r_hashSize : Run T f_hash_Size [.i 2] [] = some (.i 32, []) := (Run_some T).2 ⟨30, by kernel_rfl⟩

theorem r_bind1 {H H' : Heap} {m : List Nat} (c : Run T f_sha256_Hash_Write [.hp 2 0, .s m] H = some (.i 0, H')) :
    Run T f_hash_bind_sha256_Hash_1 [.s m, .vr [.fn f_sha256_Hash_Write [] []] 0, .vr [.hp 2 0] 0] H = some (.i 0, H') := by
  rw [Run_at T _ (show T f_hash_bind_sha256_Hash_1 = some m_hash_bind_sha256_Hash_1 from rfl)]
  simp only [c_hash_bind_sha256_Hash_1]
  have p0 : ∀ v : V, part [v] 0 none = some v := fun _ => rfl
  simp only [EE,EX,Nat.reduceLeDiff,Nat.reduceEqDiff,Int.reduceEq,reduceCtorEq,Nat.reduceAdd,Nat.reduceMul,if_true,if_false,decide_true,decide_false, c, p0]

theorem r_bind2 {H H' : Heap} {d : List Nat} (c : Run T f_sha256_Hash_Sum [.hp 2 0] H = some (.s d, H')) :
    Run T f_hash_bind_sha256_Hash_2 [.vr [.fn f_sha256_Hash_Sum [] []] 0, .vr [.hp 2 0] 0] H = some (.s d, H') := by
  rw [Run_at T _ (show T f_hash_bind_sha256_Hash_2 = some m_hash_bind_sha256_Hash_2 from rfl)]
  simp only [c_hash_bind_sha256_Hash_2]
  have p0 : ∀ v : V, part [v] 0 none = some v := fun _ => rfl
  simp only [EE,EX,Nat.reduceLeDiff,Nat.reduceEqDiff,Int.reduceEq,reduceCtorEq,Nat.reduceAdd,Nat.reduceMul,if_true,if_false,decide_true,decide_false, c, p0]

theorem r_sWrite {H H' : Heap} {m : List Nat} (h0 : row H 0 = some [hA, hB]) (c : Run T f_sha256_Hash_Write [.hp 2 0, .s m] H = some (.i 0, H')) :
    Run T f_hash_Stream_Write [.hp 0 0, .s m] H = some (.i 0, H') := by
  rw [Run_at T _ (show T f_hash_Stream_Write = some m_hash_Stream_Write from rfl)]
  simp only [c_hash_Stream_Write]
  have c1 : calG T H (.fn f_hash_bind_sha256_Hash_1 [] [.vr [.fn f_sha256_Hash_Write [] []] 0, .vr [.hp 2 0] 0]) [.s m] = some (.i 0, H') :=
    (show calG T H (.fn f_hash_bind_sha256_Hash_1 [] [.vr [.fn f_sha256_Hash_Write [] []] 0, .vr [.hp 2 0] 0]) [.s m] = cR T H f_hash_bind_sha256_Hash_1 [.s m, .vr [.fn f_sha256_Hash_Write [] []] 0, .vr [.hp 2 0] 0] false from rfl).trans ((K0 ..).trans (r_bind1 c))
  have nq : eqV .ptr (.hp 0 0) .nilp = some false := rfl
  have nf : ∀ f a c, eqV .func (.fn f a c) .nilf = some false := fun _ _ _ => rfl
  have p0 : ∀ a b : V, part [a, b] 0 none = some a := fun _ _ => rfl
  simp only [hA, hB] at h0
  simp only [EE,EX,Nat.reduceLeDiff,Nat.reduceEqDiff,Int.reduceEq,reduceCtorEq,Nat.reduceAdd,Nat.reduceMul,if_true,if_false,decide_true,decide_false, nq, h0, p0, nf, c1]

theorem r_sSum {H H' : Heap} {d : List Nat} (h0 : row H 0 = some [hA, hB]) (c : Run T f_sha256_Hash_Sum [.hp 2 0] H = some (.s d, H')) :
    Run T f_hash_Stream_Sum [.hp 0 0] H = some (.s d, H') := by
  rw [Run_at T _ (show T f_hash_Stream_Sum = some m_hash_Stream_Sum from rfl)]
  simp only [c_hash_Stream_Sum]
  have c1 : calG T H (.fn f_hash_bind_sha256_Hash_2 [] [.vr [.fn f_sha256_Hash_Sum [] []] 0, .vr [.hp 2 0] 0]) [] = some (.s d, H') :=
    (show calG T H (.fn f_hash_bind_sha256_Hash_2 [] [.vr [.fn f_sha256_Hash_Sum [] []] 0, .vr [.hp 2 0] 0]) [] = cR T H f_hash_bind_sha256_Hash_2 [.vr [.fn f_sha256_Hash_Sum [] []] 0, .vr [.hp 2 0] 0] false from rfl).trans ((K0 ..).trans (r_bind2 c))
  have nq : eqV .ptr (.hp 0 0) .nilp = some false := rfl
  have nf : ∀ f a c, eqV .func (.fn f a c) .nilf = some false := fun _ _ _ => rfl
  have p0 : ∀ a b : V, part [a, b] 1 none = some b := fun _ _ => rfl
  simp only [hA, hB] at h0
  simp only [EE,EX,Nat.reduceLeDiff,Nat.reduceEqDiff,Int.reduceEq,reduceCtorEq,Nat.reduceAdd,Nat.reduceMul,if_true,if_false,decide_true,decide_false, nq, h0, p0, nf, c1]

theorem r_hashOf {m : List Nat} (hm : m.length < 2000000) : ∃ d : List Nat, d.length = 32 ∧ (∀ b ∈ d, b < 256) ∧ Run T f_hash_Of [.i 2, .s m] [] = some (.tup [.s d, .i 0], []) := by
  have hr : row hH0 2 = some (hRow 256 hI hK .nils 0) := rfl
  obtain ⟨H1, hh', r', n', c1, hh8, hr1, hR, oth⟩ := r_Write (m := m) hr rfl rfl hm
  obtain ⟨d, H2, hd, hdb, c2⟩ := r_shaSum hr1 hh8 rfl hR
  have h1 : row H1 0 = some [hA, hB] := (oth 0 (by decide) (by decide)).trans rfl
  have c3 := r_sWrite (H := hH0) rfl c1
  have c4 := r_sSum h1 c2
  have c5 := r_hashNew
  refine ⟨d, hd, hdb, ?_⟩
  rw [Run_at T _ (show T f_hash_Of = some m_hash_Of from rfl)]
  simp only [c_hash_Of]
  simp only [EE,EX,Nat.reduceLeDiff,Nat.reduceEqDiff,Int.reduceEq,reduceCtorEq,Nat.reduceAdd,Nat.reduceMul,if_true,if_false,decide_true,decide_false, c3, c4, c5]

end Mir

