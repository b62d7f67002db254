/- One module of several texts (TopA TopB TopC TopD TopE TopF TopG TopH TopI TopJ TopK TopL TopM TopN). Conditions: none. -/
import Derived.Test.YtmfbmdbabebhmaaGreatAllF
import Derived.KernelRfl
import Derived.Test.YtmfbmdbabebhmaaGreatAllN
import Derived.Test.YtmfbmdbabebhmaaGreatWinB
set_option linter.unusedVariables false
set_option linter.unusedSectionVars false
set_option linter.unusedSimpArgs false
set_option exponentiation.threshold 5000
set_option maxRecDepth 100000
set_option maxRecDepth 20000
set_option maxHeartbeats 2000000
namespace Mir

/-- A as package curve writes it. -/
def crA3 (k : Nat) : List Nat := if crS k 1 = [45] then [45, 51] else crS k 1
theorem r_rows {k : Nat} (h : Cid k) : Run T f_curve_rows [.i (k : Int)] [] = some (.agg [.s (crA3 k), .s (crS k 2), .s (crS k 3), .s (crS k 4), .s (crS k 5)], []) := by
  cases h
  all_goals exact (Run_some T).2 ⟨8, by kernel_rfl⟩
end Mir

namespace Mir

def ptL (x y : Nat) (b : Bool) : List V := us 64 (dl 64 9 x) ++ (us 64 (dl 64 9 y) ++ [.b b])
def pjL (x y z : Nat) : List V := us 64 (dl 64 9 x) ++ (us 64 (dl 64 9 y) ++ us 64 (dl 64 9 z))
abbrev ptv (x y : Nat) (b : Bool) : V := .agg (ptL x y b)
abbrev pjv (x y z : Nat) : V := .agg (pjL x y z)
/-- A curve's first 59 cells. -/
def cvH (i : Int) (p a b n x y : Nat) (bits size : Int) (leg : Bool) : List V := .i i :: (us 64 (dl 64 9 p) ++ (us 64 (dl 64 9 a) ++ (us 64 (dl 64 9 b) ++ (us 64 (dl 64 9 n) ++ (ptL x y false ++ [.i bits, .i size, .b leg])))))
def cvG (i : Int) (p a b n x y : Nat) (bits size : Int) (leg : Bool) (f : V) (t : Nat) : List V := .i i :: (us 64 (dl 64 9 p) ++ (us 64 (dl 64 9 a) ++ (us 64 (dl 64 9 b) ++ (us 64 (dl 64 9 n) ++ (ptL x y false ++ ([.i bits, .i size, .b leg, f] ++ us 64 (dl 64 9 t)))))))
theorem zeroPt : z19 = ptL 0 0 false := rfl
theorem zeroPj : z27 = pjL 0 0 0 := rfl
theorem zeroCv : z59 = cvH 0 0 0 0 0 0 0 0 0 false := rfl
theorem zeroOp : [V.i 0, V.u 64 0, V.u 64 0, V.u 64 0, V.u 64 0, V.u 64 0, V.u 64 0, V.u 64 0, V.u 64 0, V.u 64 0, V.u 64 0, V.u 64 0, V.u 64 0, V.u 64 0, V.u 64 0, V.u 64 0, V.u 64 0, V.u 64 0, V.u 64 0, V.u 64 0, V.u 64 0, V.u 64 0, V.u 64 0, V.u 64 0, V.u 64 0, V.u 64 0, V.u 64 0, V.u 64 0, V.u 64 0, V.u 64 0, V.u 64 0, V.u 64 0, V.u 64 0, V.u 64 0, V.u 64 0, V.u 64 0, V.u 64 0, V.u 64 0, V.u 64 0, V.u 64 0, V.u 64 0, V.u 64 0, V.u 64 0, V.u 64 0, V.u 64 0, V.u 64 0, V.u 64 0, V.u 64 0, V.u 64 0, V.u 64 0, V.u 64 0, V.u 64 0, V.u 64 0, V.u 64 0, V.u 64 0, V.b false, V.i 0, V.i 0, V.b false, V.nilp, V.u 64 0, V.u 64 0, V.u 64 0, V.u 64 0, V.u 64 0, V.u 64 0, V.u 64 0, V.u 64 0, V.u 64 0] = cvG 0 0 0 0 0 0 0 0 0 false .nilp 0 := rfl

section
variable (x y z u v w : Nat) (b c : Bool)
theorem pt_x : part (ptL x y b) 0 (some 9) = some (natv x) := rfl
theorem pt_y : part (ptL x y b) 9 (some 9) = some (natv y) := rfl
theorem pt_b : part (ptL x y b) 18 none = some (.b b) := rfl
theorem pt_a : part (ptL x y b) 0 (some 19) = some (ptv x y b) := rfl
theorem pt_len : (ptL x y b).length = 19 := rfl
theorem pt_sx : splice (ptL x y b) 0 (us 64 (dl 64 9 u)) = ptL u y b := rfl
theorem pt_sy : splice (ptL x y b) 9 (us 64 (dl 64 9 u)) = ptL x u b := rfl
theorem pt_sb : (ptL x y b).set 18 (.b c) = ptL x y c := rfl
theorem pt_sa : splice (ptL x y b) 0 (ptL u v c) = ptL u v c := rfl
theorem pt_ok (n o l : Nat) : okc n (ptL x y b) o l = (decide (19 = n) && decide (o + n ≤ l)) := rfl
theorem pt_hp (k : Nat) : (ptL x y b).all (noHp (k + 1)) = true := by
  simp only [ptL, List.all_append, us_noHp, List.all_cons, List.all_nil, Bool.and_true, Bool.true_and]; rfl
theorem pj_x : part (pjL x y z) 0 (some 9) = some (natv x) := rfl
theorem pj_y : part (pjL x y z) 9 (some 9) = some (natv y) := rfl
theorem pj_z : part (pjL x y z) 18 (some 9) = some (natv z) := rfl
theorem pj_a : part (pjL x y z) 0 (some 27) = some (pjv x y z) := rfl
theorem pj_len : (pjL x y z).length = 27 := rfl
theorem pj_sx : splice (pjL x y z) 0 (us 64 (dl 64 9 u)) = pjL u y z := rfl
theorem pj_sy : splice (pjL x y z) 9 (us 64 (dl 64 9 u)) = pjL x u z := rfl
theorem pj_sz : splice (pjL x y z) 18 (us 64 (dl 64 9 u)) = pjL x y u := rfl
theorem pj_sa : splice (pjL x y z) 0 (pjL u v w) = pjL u v w := rfl
theorem pj_ok (n o l : Nat) : okc n (pjL x y z) o l = (decide (27 = n) && decide (o + n ≤ l)) := rfl
theorem pj_hp (k : Nat) : (pjL x y z).all (noHp (k + 1)) = true := by
  simp only [pjL, List.all_append, us_noHp, Bool.and_true]
theorem pt_np (k : Nat) : noHp (k + 2) (ptv x y b) = true := pt_hp x y b k
theorem pj_np (k : Nat) : noHp (k + 2) (pjv x y z) = true := pj_hp x y z k
theorem mapO_con {f : V → Option V} {v : V} {l : List V} (h1 : f v = some v) (h2 : mapO f l = some l) : mapO f (v :: l) = some (v :: l) := by rw [mapO, h1, h2]
theorem mapO_app {f : V → Option V} {m : List V} : ∀ {l : List V}, mapO f l = some l → mapO f m = some m → mapO f (l ++ m) = some (l ++ m)
  | [], _, h => h
  | a :: l, h1, h2 => by
    simp only [mapO] at h1
    split at h1
    · rename_i p q e1 e2
      simp only [Option.some.injEq, List.cons.injEq] at h1
      obtain ⟨rfl, rfl⟩ := h1
      rw [List.cons_append, mapO, e1, mapO_app e2 h2]
    · simp at h1
theorem pt_mo (nk : Bool) (h : Heap) (k m : Nat) : mapO (fzV nk h k (m + 1)) (ptL x y b) = some (ptL x y b) := by
  unfold ptL
  exact mapO_app (mapO_us nk h k m 64 _) (mapO_app (mapO_us nk h k m 64 _) rfl)
theorem pj_mo (nk : Bool) (h : Heap) (k m : Nat) : mapO (fzV nk h k (m + 1)) (pjL x y z) = some (pjL x y z) := by
  unfold pjL
  exact mapO_app (mapO_us nk h k m 64 _) (mapO_app (mapO_us nk h k m 64 _) (mapO_us nk h k m 64 _))
theorem pt_fz (nk : Bool) (h : Heap) (k m : Nat) : fzV nk h k (m + 1 + 1) (ptv x y b) = some (ptv x y b) := by
  show (mapO (fzV nk h k (m + 1)) (ptL x y b)).map V.agg = _
  rw [pt_mo]; rfl
theorem pj_fz (nk : Bool) (h : Heap) (k m : Nat) : fzV nk h k (m + 1 + 1) (pjv x y z) = some (pjv x y z) := by
  show (mapO (fzV nk h k (m + 1)) (pjL x y z)).map V.agg = _
  rw [pj_mo]; rfl
end

section
variable (i : Int) (p a b n x y : Nat) (bits size : Int) (leg : Bool) (f : V) (t : Nat)
theorem cv_len : (cvG i p a b n x y bits size leg f t).length = 69 := rfl
theorem cv_si (j : Int) : (cvG i p a b n x y bits size leg f t).set 0 (.i j) = cvG j p a b n x y bits size leg f t := rfl
theorem cv_sp (u : Nat) : splice (cvG i p a b n x y bits size leg f t) 1 (us 64 (dl 64 9 u)) = cvG i u a b n x y bits size leg f t := rfl
theorem cv_sA (u : Nat) : splice (cvG i p a b n x y bits size leg f t) 10 (us 64 (dl 64 9 u)) = cvG i p u b n x y bits size leg f t := rfl
theorem cv_sB (u : Nat) : splice (cvG i p a b n x y bits size leg f t) 19 (us 64 (dl 64 9 u)) = cvG i p a u n x y bits size leg f t := rfl
theorem cv_sn (u : Nat) : splice (cvG i p a b n x y bits size leg f t) 28 (us 64 (dl 64 9 u)) = cvG i p a b u x y bits size leg f t := rfl
theorem cv_sg (u v : Nat) : splice (cvG i p a b n x y bits size leg f t) 37 (ptL u v false) = cvG i p a b n u v bits size leg f t := rfl
theorem cv_sb (j : Int) : (cvG i p a b n x y bits size leg f t).set 56 (.i j) = cvG i p a b n x y j size leg f t := rfl
theorem cv_ss (j : Int) : (cvG i p a b n x y bits size leg f t).set 57 (.i j) = cvG i p a b n x y bits j leg f t := rfl
theorem cv_sl (j : Bool) : (cvG i p a b n x y bits size leg f t).set 58 (.b j) = cvG i p a b n x y bits size j f t := rfl
theorem cv_sf (j : V) : (cvG i p a b n x y bits size leg f t).set 59 j = cvG i p a b n x y bits size leg j t := rfl
theorem cv_st (u : Nat) : splice (cvG i p a b n x y bits size leg f t) 60 (us 64 (dl 64 9 u)) = cvG i p a b n x y bits size leg f u := rfl
theorem cv_h : part (cvG i p a b n x y bits size leg f t) 0 (some 59) = some (.agg (cvH i p a b n x y bits size leg)) := rfl
theorem cv_a : part (cvG i p a b n x y bits size leg f t) 10 (some 9) = some (natv a) := rfl
theorem cv_bb : part (cvG i p a b n x y bits size leg f t) 19 (some 9) = some (natv b) := rfl
theorem cv_n : part (cvG i p a b n x y bits size leg f t) 28 (some 9) = some (natv n) := rfl
theorem cv_g : part (cvG i p a b n x y bits size leg f t) 37 (some 19) = some (ptv x y false) := rfl
theorem cv_bits : part (cvG i p a b n x y bits size leg f t) 56 none = some (.i bits) := rfl
theorem cv_f : part (cvG i p a b n x y bits size leg f t) 59 none = some f := rfl
theorem cv_t : part (cvG i p a b n x y bits size leg f t) 60 (some 9) = some (natv t) := rfl
theorem ch_len : (cvH i p a b n x y bits size leg).length = 59 := rfl
theorem ch_a : part (cvH i p a b n x y bits size leg) 0 (some 59) = some (.agg (cvH i p a b n x y bits size leg)) := rfl
theorem ch_n : part (cvH i p a b n x y bits size leg) 28 (some 9) = some (natv n) := rfl
theorem ch_g : part (cvH i p a b n x y bits size leg) 37 (some 19) = some (ptv x y false) := rfl
theorem ch_gb : part (cvH i p a b n x y bits size leg) 55 none = some (.b false) := rfl
theorem ch_sa (i' : Int) (p' a' b' n' x' y' : Nat) (bits' size' : Int) (leg' : Bool) : splice (cvH i p a b n x y bits size leg) 0 (cvH i' p' a' b' n' x' y' bits' size' leg') = cvH i' p' a' b' n' x' y' bits' size' leg' := rfl
theorem ch_ok (k o l : Nat) : okc k (cvH i p a b n x y bits size leg) o l = (decide (59 = k) && decide (o + k ≤ l)) := rfl
theorem ch_hp (k : Nat) : (cvH i p a b n x y bits size leg).all (noHp (k + 1)) = true := by
  simp only [cvH, List.all_append, us_noHp, pt_hp, List.all_cons, List.all_nil, Bool.and_true, Bool.true_and]; rfl
theorem ch_np (k : Nat) : noHp (k + 2) (.agg (cvH i p a b n x y bits size leg)) = true := ch_hp i p a b n x y bits size leg k
theorem ch_fz (nk : Bool) (h : Heap) (k m : Nat) : fzV nk h k (m + 1 + 1) (.agg (cvH i p a b n x y bits size leg)) = some (.agg (cvH i p a b n x y bits size leg)) := by
  have h1 : mapO (fzV nk h k (m + 1)) (cvH i p a b n x y bits size leg) = some (cvH i p a b n x y bits size leg) := by
    unfold cvH
    have h2 : mapO (fzV nk h k (m + 1)) [V.i bits, V.i size, V.b leg] = some [V.i bits, V.i size, V.b leg] := rfl
    refine mapO_con rfl ?_
    exact mapO_app (mapO_us nk h k m 64 _) (mapO_app (mapO_us nk h k m 64 _) (mapO_app (mapO_us nk h k m 64 _) (mapO_app (mapO_us nk h k m 64 _) (mapO_app (pt_mo _ _ _ nk h k m) h2))))
  show (mapO (fzV nk h k (m + 1)) (cvH i p a b n x y bits size leg)).map V.agg = _
  rw [h1]; rfl
theorem cv_mo (nk : Bool) (h : Heap) (k m : Nat) (hf : fzV nk h k (m + 1) f = some f) : mapO (fzV nk h k (m + 1)) (cvG i p a b n x y bits size leg f t) = some (cvG i p a b n x y bits size leg f t) := by
  unfold cvG
  have h2 : mapO (fzV nk h k (m + 1)) [V.i bits, V.i size, V.b leg, f] = some [V.i bits, V.i size, V.b leg, f] := mapO_con rfl (mapO_con rfl (mapO_con rfl (mapO_con hf rfl)))
  refine mapO_con rfl ?_
  exact mapO_app (mapO_us nk h k m 64 _) (mapO_app (mapO_us nk h k m 64 _) (mapO_app (mapO_us nk h k m 64 _) (mapO_app (mapO_us nk h k m 64 _) (mapO_app (pt_mo _ _ _ nk h k m) (mapO_app h2 (mapO_us nk h k m 64 _))))))
theorem cv_np (k : Nat) (hf : noHp (k + 1) f = true) : noHp (k + 2) (.vr (cvG i p a b n x y bits size leg f t) 0) = true := by
  show (cvG i p a b n x y bits size leg f t).all (noHp (k + 1)) = true
  simp only [cvG, List.all_append, us_noHp, pt_hp, List.all_cons, List.all_nil, hf, Bool.and_true, Bool.true_and]; rfl
end

/-- Three times B; what else a curve's numbers are. -/
def crT (k : Nat) : Nat := ((crB k + crB k) % crP k + crB k) % crP k
def crBits (k : Nat) : Nat := bl (crN k)
def crSize (k : Nat) : Nat := (bl (crP k) + 7) / 8
def crLeg (k : Nat) : Bool := decide ((k : Int) = 1) || decide ((k : Int) = 7)
def cvL (k : Nat) : List V := cvG k (crP k) (crA k) (crB k) (crN k) (crX k) (crY k) (crBits k : Int) (crSize k : Int) (crLeg k) (fld (crP k)) (crT k)
abbrev cv (k : Nat) : V := .vr (cvL k) 0
def cvhL (k : Nat) : List V := cvH k (crP k) (crA k) (crB k) (crN k) (crX k) (crY k) (crBits k : Int) (crSize k : Int) (crLeg k)
abbrev cvh (k : Nat) : V := .agg (cvhL k)
theorem cv_np8 (k : Nat) : noHp 8 (cv k) = true := cv_np _ _ _ _ _ _ _ _ _ _ _ _ 6 (fld_noHp _ 4)
theorem cvh_np8 (k : Nat) : noHp 8 (cvh k) = true := ch_np _ _ _ _ _ _ _ _ _ _ 6

theorem open_fz (i : Int) (p a b n x y : Nat) (bits size : Int) (leg : Bool) (q t : Nat) :
    fzV false [some (cvG i p a b n x y bits size leg (fld q) t)] 0 6 (.hp 0 0) = some (.vr (cvG i p a b n x y bits size leg (fld q) t) 0) := by
  have h := cv_mo i p a b n x y bits size leg (fld q) t false [some (cvG i p a b n x y bits size leg (fld q) t)] 0 4 (by
    have := fld_noHp q 5
    simp only [fzV, this, if_true])
  show (mapO (fzV false [some (cvG i p a b n x y bits size leg (fld q) t)] 0 5) (cvG i p a b n x y bits size leg (fld q) t)).map (fun m => V.vr m 0) = _
  rw [h]; rfl

theorem r_Open {k : Nat} (h : Cid k) : Run T f_curve_Open [.i (k : Int)] [] = some (cv k, []) := by
  rw [Run_at T _ (show T f_curve_Open = some m_curve_Open from rfl)]
  simp only [c_curve_Open, zeroOp, zeroPt]
  have c := cv_ok h
  have lt := c.lt
  have big := c.big
  have Bl := c.B
  have Nl := c.N
  have c0 := r_fOf h
  have c1 := r_rows h
  have x2 := r_hv (s := crS k 2) (okS_ok c.sB).2.1 (okS_ok c.sB).1
  have x3 := r_hv (s := crS k 3) (okS_ok c.sN).2.1 (okS_ok c.sN).1
  have x4 := r_hv (s := crS k 4) (okS_ok c.sX).2.1 (okS_ok c.sX).1
  have x5 := r_hv (s := crS k 5) (okS_ok c.sY).2.1 (okS_ok c.sY).1
  have b1 := r_natBits c.N
  have b2 := r_natBits c.lt
  have a1 := r_FAdd c.lt c.B c.B
  have a2 := r_FAdd c.lt (Nat.mod_lt (crB k + crB k) (by omega : 0 < crP k)) c.B
  have hA := c.sA
  have eA : crA k = if crS k 1 = [45] then crP k - 3 else hv (crS k 1) := rfl
  have e3 : crA3 k = if crS k 1 = [45] then [45, 51] else crS k 1 := rfl
  have s3 := r_natSmall 3 (by omega)
  rw [show (3 : Int).toNat = 3 from rfl] at s3
  have blP : bl (crP k) ≤ 576 := bl_le_iff.2 lt
  obtain ⟨bp, hbp⟩ : ∃ bp, bp = bl (crP k) := ⟨_, rfl⟩
  have g1 : F (w64 ((bp : Int) + 7)) ((bp + 7 : Nat) : Int) := ⟨by rw [hbp]; exact w64_of (by omega) (by omega)⟩
  have g2 : F (w64 (Int.tdiv ((bp + 7 : Nat) : Int) 8)) (((bp + 7) / 8 : Nat) : Int) := ⟨by
    rw [Int.tdiv_eq_ediv_of_nonneg (by omega)]
    exact w64_of (by omega) (by omega)⟩
  have g3 : decide ((8 : Int) = 0) = false := rfl
  simp only [cv, cvL, crT, crBits, crSize, crLeg]
  rw [← hbp] at b2 ⊢
  obtain ⟨l1, hl1⟩ : ∃ l1, decide ((k : Int) = 1) = l1 := ⟨_, rfl⟩
  have fz := fun i p a b n x y bits size leg t => open_fz i p a b n x y bits size leg (crP k) t
  have nf := fld_noHp8 (crP k)
  have kp := fld_p (crP k)
  have s5 : ∀ a b c d e f g h i j : V, splice [a, b, c, d, e] 0 [f, g, h, i, j] = [f, g, h, i, j] := fun _ _ _ _ _ _ _ _ _ _ => rfl
  have o5 : ∀ a b c d e, okc 5 [V.s a, .s b, .s c, .s d, .s e] 0 5 = true := fun _ _ _ _ _ => rfl
  have q0 : ∀ a b c d e : V, part [a, b, c, d, e] 0 none = some a := fun _ _ _ _ _ => rfl
  have q1 : ∀ a b c d e : V, part [a, b, c, d, e] 1 none = some b := fun _ _ _ _ _ => rfl
  have q2 : ∀ a b c d e : V, part [a, b, c, d, e] 2 none = some c := fun _ _ _ _ _ => rfl
  have q3 : ∀ a b c d e : V, part [a, b, c, d, e] 3 none = some d := fun _ _ _ _ _ => rfl
  have q4 : ∀ a b c d e : V, part [a, b, c, d, e] 4 none = some e := fun _ _ _ _ _ => rfl
  rcases hA with hA | ⟨hA, hA2⟩
  · rw [if_pos hA] at eA e3
    have s4 := r_natSub (x := crP k) (y := 3) lt (by omega)
    have e4 : (crP k + M - 3) % M = crP k - 3 := by
      rw [show crP k + M - 3 = crP k - 3 + M by omega, Nat.add_mod_right, Nat.mod_eq_of_lt (by omega)]
    rw [e4] at s4
    rw [eA]
    rw [e3] at c1
    have d1 : ([45, 51] == [45, 51]) = true := rfl
    unfold crP at *
    unfold crB crN crX crY at *
    clear eA e3 hA e4 h c
    generalize crS k 0 = s0 at *
    generalize crS k 2 = t2 at *
    generalize crS k 3 = t3 at *
    generalize crS k 4 = t4 at *
    generalize crS k 5 = t5 at *
    simp only [fld] at *
    generalize fldL (hv s0) = X at *
    cases l1 <;> simp only [EE,EX,Nat.reduceLeDiff,Nat.reduceEqDiff,Int.reduceEq,reduceCtorEq,Nat.reduceAdd,Nat.reduceMul,if_true,if_false,decide_true,decide_false, hl1, Bool.true_or, Bool.false_or, c0, c1, x2, x3, x4, x5, b1, b2, a1, a2, s3, g1.eq, g2.eq, g3, fz, nf, kp, fld_np, s5, o5, q0, q1, q2, q3, q4, d1, natv_noHp, cv_len, cv_si, cv_sp, cv_sA, cv_sB, cv_sn, cv_sg, cv_sb, cv_ss, cv_sl, cv_sf, cv_st, cv_n, cv_bb, pt_len, pt_sx, pt_sy, pt_ok, pt_np, s4]
  · rw [if_neg hA] at eA e3
    have x1 := r_hv (s := crS k 1) (okS_ok hA2).2.1 (okS_ok hA2).1
    rw [eA]
    rw [e3] at c1
    have d1 : (crS k 1 == [45, 51]) = false := beq_eq_false_iff_ne.2 (by
      intro e
      have := (okS_ok hA2).1
      rw [e] at this
      simp [isHex] at this)
    unfold crP at *
    unfold crB crN crX crY at *
    clear eA e3 hA hA2 h c
    generalize crS k 0 = s0 at *
    generalize crS k 2 = t2 at *
    generalize crS k 3 = t3 at *
    generalize crS k 4 = t4 at *
    generalize crS k 5 = t5 at *
    generalize crS k 1 = t1 at *
    simp only [fld] at *
    generalize fldL (hv s0) = X at *
    cases l1 <;> simp only [EE,EX,Nat.reduceLeDiff,Nat.reduceEqDiff,Int.reduceEq,reduceCtorEq,Nat.reduceAdd,Nat.reduceMul,if_true,if_false,decide_true,decide_false, hl1, Bool.true_or, Bool.false_or, c0, c1, x2, x3, x4, x5, b1, b2, a1, a2, s3, g1.eq, g2.eq, g3, fz, nf, kp, fld_np, s5, o5, q0, q1, q2, q3, q4, d1, natv_noHp, cv_len, cv_si, cv_sp, cv_sA, cv_sB, cv_sn, cv_sg, cv_sb, cv_ss, cv_sl, cv_sf, cv_st, cv_n, cv_bb, pt_len, pt_sx, pt_sy, pt_ok, pt_np, x1]
end Mir

namespace Mir

/-- A point; a triple. -/
structure P2 where
  x : Nat
  y : Nat
  i : Bool
structure P3 where
  x : Nat
  y : Nat
  z : Nat
abbrev pt (q : P2) : V := ptv q.x q.y q.i
abbrev pj (t : P3) : V := pjv t.x t.y t.z
def P2.inf : P2 := ⟨0, 0, true⟩
def P3.inf : P3 := ⟨0, 1, 0⟩
def P2.tri (q : P2) : P3 := bif q.i then .inf else ⟨q.x, q.y, 1⟩

theorem eqL_cat : ∀ {ks : List CK} {l m : List V} {x : Bool} {ks' : List CK} {l' m' : List V} {y : Bool}, eqL ks l m = some x → eqL ks' l' m' = some y → eqL (ks ++ ks') (l ++ l') (m ++ m') = some (x && y)
  | [], [], [], x, _, _, _, y, h, h' => by
    simp only [eqL, Option.some.injEq] at h
    subst h
    simpa using h'
  | k :: ks, a :: l, c :: m, x, ks', l', m', y, h, h' => by
    simp only [eqL] at h
    split at h
    · rename_i p q e1 e2
      simp only [Option.some.injEq] at h
      subst h
      simp only [List.cons_append, eqL, e1, eqL_cat e2 h', Bool.and_assoc]
    · simp at h
  | [], _ :: _, _, _, _, _, _, _, h, _ => by simp [eqL] at h
  | [], [], _ :: _, _, _, _, _, _, h, _ => by simp [eqL] at h
  | _ :: _, [], _, _, _, _, _, _, h, _ => by simp [eqL] at h
  | _ :: _, _ :: _, [], _, _, _, _, _, h, _ => by simp [eqL] at h
theorem eq19 {x y u v : Nat} {b c : Bool} (hx : x < M) (hy : y < M) (hu : u < M) (hv : v < M) :
    eqV (.agg [.u 64, .u 64, .u 64, .u 64, .u 64, .u 64, .u 64, .u 64, .u 64, .u 64, .u 64, .u 64, .u 64, .u 64, .u 64, .u 64, .u 64, .u 64, .b]) (ptv x y b) (ptv u v c) = some (decide (x = u) && (decide (y = v) && (b == c))) := by
  have h1 := eq9 hx hu
  have h2 := eq9 hy hv
  simp only [eqV] at h1 h2 ⊢
  have h3 : eqL [.b] [V.b b] [V.b c] = some (b == c) := by simp [eqL, eqC]
  exact eqL_cat h1 (eqL_cat h2 h3)

theorem r_Open_np {l : List V} {o : Nat} : eqV .ptr (.vr l o) .nilp = some false := rfl

theorem r_cGet {k : Nat} (h : Cid k) : Run T f_curve_Get [.i (k : Int)] [] = some (.tup [cvh k, .i 0], []) := by
  rw [Run_at T _ (show T f_curve_Get = some m_curve_Get from rfl)]
  simp only [c_curve_Get, zeroCv]
  have c1 := r_Open h
  have n1 := cv_np8 k
  simp only [cvh, cvhL, cv, cvL] at *
  simp only [EE,EX,Nat.reduceLeDiff,Nat.reduceEqDiff,Int.reduceEq,reduceCtorEq,Nat.reduceAdd,Nat.reduceMul,if_true,if_false,decide_true,decide_false, c1, n1, r_Open_np, cv_h, ch_ok, ch_len, ch_sa, ch_a, ch_fz]

def rightN (p a b x : Nat) : Nat := ((x * x % p + a) % p * x % p + b) % p
theorem r_Right {k x : Nat} (h : Cid k) (hx : x < crP k) : Run T f_curve_Curve_Right [cv k, natv x] [] = some (natv (rightN (crP k) (crA k) (crB k) x), []) := by
  rw [Run_at T _ (show T f_curve_Curve_Right = some m_curve_Curve_Right from rfl)]
  simp only [c_curve_Curve_Right, zero9]
  have c := cv_ok h
  have lt := c.lt
  have big := c.big
  have hA := c.A
  have hB := c.B
  have p0 : 0 < crP k := by omega
  have ml : ∀ a, a % crP k < crP k := fun a => Nat.mod_lt _ p0
  have c1 := r_FMul (a := x) (b := x) lt p0 (by omega) (by omega)
  have l1 := ml (x * x)
  have c2 := r_FAdd lt l1 hA
  have l2 := ml (x * x % crP k + crA k)
  have c3 := r_FMul (a := (x * x % crP k + crA k) % crP k) (b := x) lt p0 (by omega) (by omega)
  have l3 := ml ((x * x % crP k + crA k) % crP k * x)
  have c4 := r_FAdd lt l3 hB
  have nf := fld_noHp8 (crP k)
  simp only [rightN, cv, cvL]
  generalize crBits k = z1
  generalize crSize k = z2
  generalize crLeg k = z3
  generalize crT k = z4
  generalize crN k = z5
  generalize crX k = z6
  generalize crY k = z7
  generalize crP k = p at *
  generalize crA k = a at *
  generalize crB k = b at *
  generalize x * x % p = q1 at *
  generalize (q1 + a) % p = q2 at *
  generalize q2 * x % p = q3 at *
  generalize (q3 + b) % p = q4 at *
  simp only [fld] at *
  generalize fldL p = X at *
  simp only [EE,EX,Nat.reduceLeDiff,Nat.reduceEqDiff,Int.reduceEq,reduceCtorEq,Nat.reduceAdd,Nat.reduceMul,if_true,if_false,decide_true,decide_false, c1, c2, c3, c4, nf, natv_noHp, cv_f, cv_a, cv_bb]

/-- A point as it should be: on the curve, or infinity. -/
structure OnP (k : Nat) (q : P2) : Prop where
  x : q.x < crP k
  y : q.y < crP k
  i : q.i = true → q.x = 0 ∧ q.y = 0
  e : q.i = false → q.y * q.y % crP k = rightN (crP k) (crA k) (crB k) q.x

theorem rightN_lt {k x : Nat} (h : Cid k) : rightN (crP k) (crA k) (crB k) x < crP k := Nat.mod_lt _ (by have := (cv_ok h).big; omega)

theorem r_On {k : Nat} {q : P2} (h : Cid k) (hq : OnP k q) : Run T f_curve_Curve_On [cv k, pt q] [] = some (.b true, []) := by
  rw [Run_at T _ (show T f_curve_Curve_On = some m_curve_Curve_On from rfl)]
  simp only [c_curve_Curve_On, zeroPt]
  have c := cv_ok h
  have lt := c.lt
  have big := c.big
  obtain ⟨x, y, i⟩ := q
  obtain ⟨hx, hy, hi, he⟩ := hq
  simp only at hx hy hi he
  have p0 : 0 < crP k := by omega
  simp only [pt]
  cases i
  · have he := he rfl
    have c1 := r_Has (p := crP k) (a := x) lt (by omega)
    have c2 := r_Has (p := crP k) (a := y) lt (by omega)
    have c3 := r_FMul (a := y) (b := y) lt p0 (by omega) (by omega)
    have c4 := r_Right h hx
    rw [decide_eq_true hx] at c1
    rw [decide_eq_true hy] at c2
    rw [he] at c3
    have c5 := eq9s (rightN (crP k) (crA k) (crB k) x)
    have nf := fld_noHp8 (crP k)
    have nc := cv_np8 k
    generalize rightN (crP k) (crA k) (crB k) x = r at *
    simp only [cv, cvL] at *
    generalize crBits k = z1 at *
    generalize crSize k = z2 at *
    generalize crLeg k = z3 at *
    generalize crT k = z4 at *
    generalize crN k = z5 at *
    generalize crX k = z6 at *
    generalize crY k = z7 at *
    generalize crP k = p at *
    generalize crA k = a at *
    generalize crB k = b at *
    simp only [fld] at *
    generalize fldL p = X at *
    simp only [EE,EX,Nat.reduceLeDiff,Nat.reduceEqDiff,Int.reduceEq,reduceCtorEq,Nat.reduceAdd,Nat.reduceMul,if_true,if_false,decide_true,decide_false, c1, c2, c3, c4, c5, nf, nc, natv_noHp, pt_b, pt_x, pt_y, cv_f]
  · obtain ⟨rfl, rfl⟩ := hi rfl
    have c5 := eq19 (x := 0) (y := 0) (u := 0) (v := 0) (b := true) (c := true) (by omega) (by omega) (by omega) (by omega)
    have e1 : decide ((0 : Nat) = 0) = true := rfl
    have e2 : (true == true) = true := rfl
    rw [e1, e2] at c5
    simp only [EE,EX,Nat.reduceLeDiff,Nat.reduceEqDiff,Int.reduceEq,reduceCtorEq,Nat.reduceAdd,Nat.reduceMul,if_true,if_false,decide_true,decide_false, pt_b, pt_a, pt_sb, pt_len, c5]

theorem r_None : Run T f_curve_None [] [] = some (pj .inf, []) := by
  rw [Run_at T _ (show T f_curve_None = some m_curve_None from rfl)]
  simp only [c_curve_None, zeroPj]
  have c1 := r_natSmall 1 (by omega)
  rw [show (1 : Int).toNat = 1 from rfl] at c1
  simp only [pj, P3.inf]
  simp only [EE,EX,Nat.reduceLeDiff,Nat.reduceEqDiff,Int.reduceEq,reduceCtorEq,Nat.reduceAdd,Nat.reduceMul,if_true,if_false,decide_true,decide_false, c1, pj_len, pj_sy, pj_ok, pj_sa, pj_a, pj_fz]

theorem r_Triple {q : P2} : Run T f_curve_Triple [pt q] [] = some (pj q.tri, []) := by
  rw [Run_at T _ (show T f_curve_Triple = some m_curve_Triple from rfl)]
  simp only [c_curve_Triple, zeroPj]
  have c1 := r_natSmall 1 (by omega)
  rw [show (1 : Int).toNat = 1 from rfl] at c1
  have c2 := r_None
  obtain ⟨x, y, i⟩ := q
  cases i
  · simp only [pj, pt, P2.tri, cond_false]
    simp only [EE,EX,Nat.reduceLeDiff,Nat.reduceEqDiff,Int.reduceEq,reduceCtorEq,Nat.reduceAdd,Nat.reduceMul,if_true,if_false,decide_true,decide_false, c1, pt_b, pt_x, pt_y, pj_len, pj_sx, pj_sy, pj_sz, pj_ok, pj_sa, pj_a, pj_fz]
  · simp only [pj, pt, P2.tri, cond_true, P3.inf] at *
    simp only [EE,EX,Nat.reduceLeDiff,Nat.reduceEqDiff,Int.reduceEq,reduceCtorEq,Nat.reduceAdd,Nat.reduceMul,if_true,if_false,decide_true,decide_false, c2, pt_b, pt_x, pt_y, pj_len, pj_sx, pj_sy, pj_sz, pj_ok, pj_sa, pj_a, pj_fz]

theorem r_Key {k d : Nat} (h : Cid k) (h0 : d ≠ 0) (hd : d < crN k) : Run T f_curve_Curve_Key [cv k, natv d] [] = some (.b true, []) := by
  rw [Run_at T _ (show T f_curve_Curve_Key = some m_curve_Curve_Key from rfl)]
  simp only [c_curve_Curve_Key, zero9]
  have c := cv_ok h
  have lt := c.N
  have c1 := eq9 (x := d) (y := 0) (by omega) (by omega)
  rw [decide_eq_false h0] at c1
  have c2 := r_natCmp (x := d) (y := crN k) (by omega) lt
  have d1 : decide (cmpI d (crN k) < 0) = true := by
    unfold cmpI
    rw [if_pos hd]; rfl
  simp only [cv, cvL]
  generalize crN k = n at *
  generalize cmpI d n = e at *
  simp only [EE,EX,Nat.reduceLeDiff,Nat.reduceEqDiff,Int.reduceEq,reduceCtorEq,Nat.reduceAdd,Nat.reduceMul,if_true,if_false,decide_true,decide_false, c1, c2, d1, natv_noHp, cv_n, Bool.not_false]

end Mir

namespace Mir

/-- The row of products (a: A; b: three times B). -/
def sumN (p a b : Nat) (s t : P3) : P3 :=
  let t0 := s.x * t.x % p
  let t1 := s.y * t.y % p
  let t2 := s.z * t.z % p
  let u0 := (s.x + s.y) % p
  let u1 := (t.x + t.y) % p
  let u2 := u0 * u1 % p
  let u3 := (t0 + t1) % p
  let t3 := (u2 + p - u3) % p
  let u4 := (s.x + s.z) % p
  let u5 := (t.x + t.z) % p
  let u6 := u4 * u5 % p
  let u7 := (t0 + t2) % p
  let t4 := (u6 + p - u7) % p
  let u8 := (s.y + s.z) % p
  let u9 := (t.y + t.z) % p
  let v0 := u8 * u9 % p
  let v1 := (t1 + t2) % p
  let t5 := (v0 + p - v1) % p
  let v2 := b * t2 % p
  let v3 := a * t4 % p
  let z0 := (v2 + v3) % p
  let x0 := (t1 + p - z0) % p
  let z1 := (t1 + z0) % p
  let y0 := x0 * z1 % p
  let v4 := (t0 + t0) % p
  let s1 := (v4 + t0) % p
  let s2 := a * t2 % p
  let s4 := b * t4 % p
  let w1 := (s1 + s2) % p
  let v5 := (t0 + p - s2) % p
  let w2 := a * v5 % p
  let w4 := (s4 + w2) % p
  let v6 := w1 * w4 % p
  let y1 := (y0 + v6) % p
  let v7 := t3 * x0 % p
  let v8 := t5 * w4 % p
  let x1 := (v7 + p - v8) % p
  let v9 := t5 * z1 % p
  let r0 := t3 * w1 % p
  let z2 := (v9 + r0) % p
  ⟨x1, y1, z2⟩

/-- Coordinates below p. -/
structure Lt3 (p : Nat) (t : P3) : Prop where
  x : t.x < p
  y : t.y < p
  z : t.z < p

theorem sumN_lt {p a b : Nat} {s t : P3} (hp : 0 < p) : Lt3 p (sumN p a b s t) := ⟨Nat.mod_lt _ hp, Nat.mod_lt _ hp, Nat.mod_lt _ hp⟩
abbrev sumK (k : Nat) (s t : P3) : P3 := sumN (crP k) (crA k) (crT k) s t
theorem crT_lt {k : Nat} (h : Cid k) : crT k < crP k := Nat.mod_lt _ (by have := (cv_ok h).big; omega)
theorem r_Sum {k : Nat} {s t : P3} (h : Cid k) (hs : Lt3 (crP k) s) (ht : Lt3 (crP k) t) : Run T f_curve_Curve_Sum [cv k, pj s, pj t] [] = some (pj (sumK k s t), []) := by
  rw [Run_at T _ (show T f_curve_Curve_Sum = some m_curve_Curve_Sum from rfl)]
  simp only [c_curve_Curve_Sum, zeroPj, zero9]
  have c := cv_ok h
  have lt := c.lt
  have big := c.big
  have la := c.A
  have lb := crT_lt h
  have nf := fld_noHp8 (crP k)
  have ad : ∀ x y v, x < crP k → y < crP k → (x + y) % crP k = v → Run T f_field_Field_Add [fld (crP k), natv x, natv y] [] = some (natv v, []) := fun x y v hx hy hv => hv ▸ r_FAdd lt hx hy
  have su : ∀ x y v, x < crP k → y < crP k → (x + crP k - y) % crP k = v → Run T f_field_Field_Sub [fld (crP k), natv x, natv y] [] = some (natv v, []) := fun x y v hx hy hv => hv ▸ r_FSub lt hx hy
  have mu : ∀ x y v, x < crP k → y < crP k → x * y % crP k = v → Run T f_field_Field_Mul [fld (crP k), natv x, natv y] [] = some (natv v, []) := fun x y v hx hy hv => hv ▸ r_FMul lt (by omega) (by omega) (by omega)
  have ml : ∀ a, a % crP k < crP k := fun a => Nat.mod_lt _ (by omega)
  obtain ⟨X1, Y1, Z1⟩ := s
  obtain ⟨X2, Y2, Z2⟩ := t
  obtain ⟨lX1, lY1, lZ1⟩ := hs
  obtain ⟨lX2, lY2, lZ2⟩ := ht
  simp only at lX1 lY1 lZ1 lX2 lY2 lZ2
  simp only [pj, sumK, cv, cvL]
  generalize crBits k = q1 at *
  generalize crSize k = q2 at *
  generalize crLeg k = q3 at *
  generalize crT k = b at *
  generalize crN k = q5 at *
  generalize crX k = q6 at *
  generalize crY k = q7 at *
  generalize crB k = q8 at *
  generalize crA k = a at *
  generalize crP k = p at *
  simp only [fld] at *
  generalize fldL p = X at *
  clear h c lt big
  obtain ⟨t0, ht0⟩ : ∃ v, X1 * X2 % p = v := ⟨_, rfl⟩
  obtain ⟨t1, ht1⟩ : ∃ v, Y1 * Y2 % p = v := ⟨_, rfl⟩
  obtain ⟨t2, ht2⟩ : ∃ v, Z1 * Z2 % p = v := ⟨_, rfl⟩
  obtain ⟨u0, hu0⟩ : ∃ v, (X1 + Y1) % p = v := ⟨_, rfl⟩
  obtain ⟨u1, hu1⟩ : ∃ v, (X2 + Y2) % p = v := ⟨_, rfl⟩
  obtain ⟨u2, hu2⟩ : ∃ v, u0 * u1 % p = v := ⟨_, rfl⟩
  obtain ⟨u3, hu3⟩ : ∃ v, (t0 + t1) % p = v := ⟨_, rfl⟩
  obtain ⟨t3, ht3⟩ : ∃ v, (u2 + p - u3) % p = v := ⟨_, rfl⟩
  obtain ⟨u4, hu4⟩ : ∃ v, (X1 + Z1) % p = v := ⟨_, rfl⟩
  obtain ⟨u5, hu5⟩ : ∃ v, (X2 + Z2) % p = v := ⟨_, rfl⟩
  obtain ⟨u6, hu6⟩ : ∃ v, u4 * u5 % p = v := ⟨_, rfl⟩
  obtain ⟨u7, hu7⟩ : ∃ v, (t0 + t2) % p = v := ⟨_, rfl⟩
  obtain ⟨t4, ht4⟩ : ∃ v, (u6 + p - u7) % p = v := ⟨_, rfl⟩
  obtain ⟨u8, hu8⟩ : ∃ v, (Y1 + Z1) % p = v := ⟨_, rfl⟩
  obtain ⟨u9, hu9⟩ : ∃ v, (Y2 + Z2) % p = v := ⟨_, rfl⟩
  obtain ⟨v0, hv0⟩ : ∃ v, u8 * u9 % p = v := ⟨_, rfl⟩
  obtain ⟨v1, hv1⟩ : ∃ v, (t1 + t2) % p = v := ⟨_, rfl⟩
  obtain ⟨t5, ht5⟩ : ∃ v, (v0 + p - v1) % p = v := ⟨_, rfl⟩
  obtain ⟨v2, hv2⟩ : ∃ v, b * t2 % p = v := ⟨_, rfl⟩
  obtain ⟨v3, hv3⟩ : ∃ v, a * t4 % p = v := ⟨_, rfl⟩
  obtain ⟨z0, hz0⟩ : ∃ v, (v2 + v3) % p = v := ⟨_, rfl⟩
  obtain ⟨x0, hx0⟩ : ∃ v, (t1 + p - z0) % p = v := ⟨_, rfl⟩
  obtain ⟨z1, hz1⟩ : ∃ v, (t1 + z0) % p = v := ⟨_, rfl⟩
  obtain ⟨y0, hy0⟩ : ∃ v, x0 * z1 % p = v := ⟨_, rfl⟩
  obtain ⟨v4, hv4⟩ : ∃ v, (t0 + t0) % p = v := ⟨_, rfl⟩
  obtain ⟨s1, hs1⟩ : ∃ v, (v4 + t0) % p = v := ⟨_, rfl⟩
  obtain ⟨s2, hs2⟩ : ∃ v, a * t2 % p = v := ⟨_, rfl⟩
  obtain ⟨s4, hs4⟩ : ∃ v, b * t4 % p = v := ⟨_, rfl⟩
  obtain ⟨w1, hw1⟩ : ∃ v, (s1 + s2) % p = v := ⟨_, rfl⟩
  obtain ⟨v5, hv5⟩ : ∃ v, (t0 + p - s2) % p = v := ⟨_, rfl⟩
  obtain ⟨w2, hw2⟩ : ∃ v, a * v5 % p = v := ⟨_, rfl⟩
  obtain ⟨w4, hw4⟩ : ∃ v, (s4 + w2) % p = v := ⟨_, rfl⟩
  obtain ⟨v6, hv6⟩ : ∃ v, w1 * w4 % p = v := ⟨_, rfl⟩
  obtain ⟨y1, hy1⟩ : ∃ v, (y0 + v6) % p = v := ⟨_, rfl⟩
  obtain ⟨v7, hv7⟩ : ∃ v, t3 * x0 % p = v := ⟨_, rfl⟩
  obtain ⟨v8, hv8⟩ : ∃ v, t5 * w4 % p = v := ⟨_, rfl⟩
  obtain ⟨x1, hx1⟩ : ∃ v, (v7 + p - v8) % p = v := ⟨_, rfl⟩
  obtain ⟨v9, hv9⟩ : ∃ v, t5 * z1 % p = v := ⟨_, rfl⟩
  obtain ⟨r0, hr0⟩ : ∃ v, t3 * w1 % p = v := ⟨_, rfl⟩
  obtain ⟨z2, hz2⟩ : ∃ v, (v9 + r0) % p = v := ⟨_, rfl⟩
  have e : sumN p a b ⟨X1, Y1, Z1⟩ ⟨X2, Y2, Z2⟩ = ⟨x1, y1, z2⟩ := by simp only [sumN, ht0, ht1, ht2, hu0, hu1, hu2, hu3, ht3, hu4, hu5, hu6, hu7, ht4, hu8, hu9, hv0, hv1, ht5, hv2, hv3, hz0, hx0, hz1, hy0, hv4, hs1, hs2, hs4, hw1, hv5, hw2, hw4, hv6, hy1, hv7, hv8, hx1, hv9, hr0, hz2]
  rw [e]
  have lt0 : t0 < p := ht0 ▸ ml _
  have ct0 := mu _ _ _ lX1 lX2 ht0
  have lt1 : t1 < p := ht1 ▸ ml _
  have ct1 := mu _ _ _ lY1 lY2 ht1
  have lt2 : t2 < p := ht2 ▸ ml _
  have ct2 := mu _ _ _ lZ1 lZ2 ht2
  have lu0 : u0 < p := hu0 ▸ ml _
  have cu0 := ad _ _ _ lX1 lY1 hu0
  have lu1 : u1 < p := hu1 ▸ ml _
  have cu1 := ad _ _ _ lX2 lY2 hu1
  have lu2 : u2 < p := hu2 ▸ ml _
  have cu2 := mu _ _ _ lu0 lu1 hu2
  have lu3 : u3 < p := hu3 ▸ ml _
  have cu3 := ad _ _ _ lt0 lt1 hu3
  have lt3 : t3 < p := ht3 ▸ ml _
  have ct3 := su _ _ _ lu2 lu3 ht3
  have lu4 : u4 < p := hu4 ▸ ml _
  have cu4 := ad _ _ _ lX1 lZ1 hu4
  have lu5 : u5 < p := hu5 ▸ ml _
  have cu5 := ad _ _ _ lX2 lZ2 hu5
  have lu6 : u6 < p := hu6 ▸ ml _
  have cu6 := mu _ _ _ lu4 lu5 hu6
  have lu7 : u7 < p := hu7 ▸ ml _
  have cu7 := ad _ _ _ lt0 lt2 hu7
  have lt4 : t4 < p := ht4 ▸ ml _
  have ct4 := su _ _ _ lu6 lu7 ht4
  have lu8 : u8 < p := hu8 ▸ ml _
  have cu8 := ad _ _ _ lY1 lZ1 hu8
  have lu9 : u9 < p := hu9 ▸ ml _
  have cu9 := ad _ _ _ lY2 lZ2 hu9
  have lv0 : v0 < p := hv0 ▸ ml _
  have cv0 := mu _ _ _ lu8 lu9 hv0
  have lv1 : v1 < p := hv1 ▸ ml _
  have cv1 := ad _ _ _ lt1 lt2 hv1
  have lt5 : t5 < p := ht5 ▸ ml _
  have ct5 := su _ _ _ lv0 lv1 ht5
  have lv2 : v2 < p := hv2 ▸ ml _
  have cv2 := mu _ _ _ lb lt2 hv2
  have lv3 : v3 < p := hv3 ▸ ml _
  have cv3 := mu _ _ _ la lt4 hv3
  have lz0 : z0 < p := hz0 ▸ ml _
  have cz0 := ad _ _ _ lv2 lv3 hz0
  have lx0 : x0 < p := hx0 ▸ ml _
  have cx0 := su _ _ _ lt1 lz0 hx0
  have lz1 : z1 < p := hz1 ▸ ml _
  have cz1 := ad _ _ _ lt1 lz0 hz1
  have ly0 : y0 < p := hy0 ▸ ml _
  have cy0 := mu _ _ _ lx0 lz1 hy0
  have lv4 : v4 < p := hv4 ▸ ml _
  have cv4 := ad _ _ _ lt0 lt0 hv4
  have ls1 : s1 < p := hs1 ▸ ml _
  have cs1 := ad _ _ _ lv4 lt0 hs1
  have ls2 : s2 < p := hs2 ▸ ml _
  have cs2 := mu _ _ _ la lt2 hs2
  have ls4 : s4 < p := hs4 ▸ ml _
  have cs4 := mu _ _ _ lb lt4 hs4
  have lw1 : w1 < p := hw1 ▸ ml _
  have cw1 := ad _ _ _ ls1 ls2 hw1
  have lv5 : v5 < p := hv5 ▸ ml _
  have cv5 := su _ _ _ lt0 ls2 hv5
  have lw2 : w2 < p := hw2 ▸ ml _
  have cw2 := mu _ _ _ la lv5 hw2
  have lw4 : w4 < p := hw4 ▸ ml _
  have cw4 := ad _ _ _ ls4 lw2 hw4
  have lv6 : v6 < p := hv6 ▸ ml _
  have cv6 := mu _ _ _ lw1 lw4 hv6
  have ly1 : y1 < p := hy1 ▸ ml _
  have cy1 := ad _ _ _ ly0 lv6 hy1
  have lv7 : v7 < p := hv7 ▸ ml _
  have cv7 := mu _ _ _ lt3 lx0 hv7
  have lv8 : v8 < p := hv8 ▸ ml _
  have cv8 := mu _ _ _ lt5 lw4 hv8
  have lx1 : x1 < p := hx1 ▸ ml _
  have cx1 := su _ _ _ lv7 lv8 hx1
  have lv9 : v9 < p := hv9 ▸ ml _
  have cv9 := mu _ _ _ lt5 lz1 hv9
  have lr0 : r0 < p := hr0 ▸ ml _
  have cr0 := mu _ _ _ lt3 lw1 hr0
  have lz2 : z2 < p := hz2 ▸ ml _
  have cz2 := ad _ _ _ lv9 lr0 hz2
  clear ad su mu ml ht0 ht1 ht2 hu0 hu1 hu2 hu3 ht3 hu4 hu5 hu6 hu7 ht4 hu8 hu9 hv0 hv1 ht5 hv2 hv3 hz0 hx0 hz1 hy0 hv4 hs1 hs2 hs4 hw1 hv5 hw2 hw4 hv6 hy1 hv7 hv8 hx1 hv9 hr0 hz2 lt0 lt1 lt2 lu0 lu1 lu2 lu3 lt3 lu4 lu5 lu6 lu7 lt4 lu8 lu9 lv0 lv1 lt5 lv2 lv3 lz0 lx0 lz1 ly0 lv4 ls1 ls2 ls4 lw1 lv5 lw2 lw4 lv6 ly1 lv7 lv8 lx1 lv9 lr0 lz2
  simp only [EE,EX,Nat.reduceLeDiff,Nat.reduceEqDiff,Int.reduceEq,reduceCtorEq,Nat.reduceAdd,Nat.reduceMul,if_true,if_false,decide_true,decide_false, ct0, ct1, ct2, cu0, cu1, cu2, cu3, ct3, cu4, cu5, cu6, cu7, ct4, cu8, cu9, cv0, cv1, ct5, cv2, cv3, cz0, cx0, cz1, cy0, cv4, cs1, cs2, cs4, cw1, cv5, cw2, cw4, cv6, cy1, cv7, cv8, cx1, cv9, cr0, cz2, nf, natv_noHp, cv_f, cv_a, cv_t, pj_len, pj_x, pj_y, pj_z, pj_sx, pj_sy, pj_sz, pj_ok, pj_sa, pj_a, pj_fz]

end Mir

namespace Mir

/-- A triple is a point's. -/
structure Rep (k : Nat) (t : P3) (q : P2) : Prop where
  lt : Lt3 (crP k) t
  x : q.x < crP k
  y : q.y < crP k
  e : (q.i = true ∧ t.z = 0 ∧ q.x = 0 ∧ q.y = 0) ∨ (q.i = false ∧ t.z ≠ 0 ∧ q.x * t.z % crP k = t.x ∧ q.y * t.z % crP k = t.y)

theorem undo {p x z i t : Nat} (hx : x < p) (hi : i * z % p = 1) (h : x * z % p = t) : t * i % p = x := by
  rw [← h, Nat.mod_mul_mod, Nat.mul_assoc, Nat.mul_comm z i, Nat.mul_mod, hi, Nat.mul_one, Nat.mod_mod, Nat.mod_eq_of_lt hx]

theorem r_Plain {k : Nat} {t : P3} {q : P2} (h : Cid k) (hr : Rep k t q) : Run T f_curve_Curve_Plain [cv k, pj t] [] = some (pt q, []) := by
  rw [Run_at T _ (show T f_curve_Curve_Plain = some m_curve_Curve_Plain from rfl)]
  simp only [c_curve_Curve_Plain, zeroPt, zero9]
  have c := cv_ok h
  have lt := c.lt
  have big := c.big
  obtain ⟨⟨lx, ly, lz⟩, qx, qy, e⟩ := hr
  obtain ⟨X, Y, Z⟩ := t
  obtain ⟨x, y, i⟩ := q
  simp only at lx ly lz qx qy e
  have p0 : 0 < crP k := by omega
  have c0 := eq9 (x := Z) (y := 0) (by omega) (by omega)
  rcases e with ⟨rfl, rfl, rfl, rfl⟩ | ⟨rfl, e0, e1, e2⟩
  · rw [decide_eq_true rfl] at c0
    simp only [pj, pt]
    simp only [EE,EX,Nat.reduceLeDiff,Nat.reduceEqDiff,Int.reduceEq,reduceCtorEq,Nat.reduceAdd,Nat.reduceMul,if_true,if_false,decide_true,decide_false, c0, pj_z, pt_len, pt_sb, pt_ok, pt_sa, pt_a, pt_fz]
  · rw [decide_eq_false e0] at c0
    obtain ⟨j, j1, j2, j3⟩ := r_Inverse (a := Z) (m := crP k) (by omega) lt (by omega) (by omega) (c.pr.gcd (c.pr.mod_ne (by omega) lz))
    have c1 := r_FInv j3
    have c2 := r_FMul (a := X) (b := j) lt p0 (by omega) (by omega)
    have c3 := r_FMul (a := Y) (b := j) lt p0 (by omega) (by omega)
    rw [undo qx j2 e1] at c2
    rw [undo qy j2 e2] at c3
    have nf := fld_noHp8 (crP k)
    simp only [pj, pt, cv, cvL]
    generalize crBits k = z1 at *
    generalize crSize k = z2 at *
    generalize crLeg k = z3 at *
    generalize crT k = z4 at *
    generalize crN k = z5 at *
    generalize crX k = z6 at *
    generalize crY k = z7 at *
    generalize crA k = a at *
    generalize crB k = b at *
    clear h c e1 e2 j2
    generalize crP k = p at *
    simp only [fld] at *
    generalize fldL p = L at *
    simp only [EE,EX,Nat.reduceLeDiff,Nat.reduceEqDiff,Int.reduceEq,reduceCtorEq,Nat.reduceAdd,Nat.reduceMul,if_true,if_false,decide_true,decide_false, c0, c1, c2, c3, nf, natv_noHp, cv_f, pj_x, pj_y, pj_z, pt_len, pt_sx, pt_sy, pt_ok, pt_sa, pt_a, pt_fz]

/-- x times, the highest bit first: after i of n bits. -/
def tmN (S : P3 → P3 → P3) (t : P3) (x n : Nat) : Nat → P3
  | 0 => .inf
  | i + 1 => let d := S (tmN S t x n i) (tmN S t x n i); bif Nat.beq (x / 2 ^ (n - 1 - i) % 2) 1 then S d t else d
theorem lt_inf {k : Nat} (h : Cid k) : Lt3 (crP k) .inf := by
  have := (cv_ok h).big
  exact ⟨show 0 < _ by omega, show 1 < _ by omega, show 0 < _ by omega⟩
theorem sumK_lt {k : Nat} {s t : P3} (h : Cid k) : Lt3 (crP k) (sumK k s t) := sumN_lt (by have := (cv_ok h).big; omega)
theorem tmN_lt {k x n : Nat} {t : P3} (h : Cid k) : ∀ i, Lt3 (crP k) (tmN (sumK k) t x n i)
  | 0 => lt_inf h
  | i + 1 => by
    simp only [tmN]
    cases Nat.beq (x / 2 ^ (n - 1 - i) % 2) 1
    · exact sumK_lt h
    · exact sumK_lt h
theorem cv_npk (k : Nat) : noHp 8 (cv k) = true := cv_np8 k

theorem r_Times {k x : Nat} {t : P3} (h : Cid k) (hx : x < M) (ht : Lt3 (crP k) t) : Run T f_curve_Curve_Times [cv k, natv x, pj t] [] = some (pj (tmN (sumK k) t x (bl x) (bl x)), []) := by
  rw [Run_at T _ (show T f_curve_Curve_Times = some m_curve_Curve_Times from rfl)]
  simp only [c_curve_Curve_Times, zeroPj]
  have c0 := r_None
  have c1 := r_natBits hx
  have hb := bl_le_iff.2 (show x < 2 ^ 576 from hx)
  obtain ⟨n, hn⟩ : ∃ n, n = bl x := ⟨_, rfl⟩
  rw [← hn] at c1 hb ⊢
  obtain ⟨a, ha⟩ : ∃ a : Nat → Int, ∀ i, a i = (n : Int) - 1 - (i : Int) := ⟨_, fun _ => rfl⟩
  have a0 := ha 0
  have g1 : F (w64 ((n : Int) - 1)) (a 0) := ⟨by unfold w64; omega⟩
  obtain ⟨u, hu⟩ : ∃ u : Nat → P3, u = tmN (sumK k) t x n := ⟨_, rfl⟩
  have ul : ∀ i, Lt3 (crP k) (u i) := fun i => hu ▸ tmN_lt h i
  have u0 : u 0 = .inf := by rw [hu]; rfl
  have us1 : ∀ i, u (i + 1) = bif Nat.beq (x / 2 ^ (n - 1 - i) % 2) 1 then sumK k (sumK k (u i) (u i)) t else sumK k (u i) (u i) := fun i => by rw [hu]; rfl
  rw [← hu]
  have sm : ∀ s t, Lt3 (crP k) s → Lt3 (crP k) t → Run T f_curve_Curve_Sum [cv k, pj s, pj t] [] = some (pj (sumK k s t), []) := fun s t hs ht => r_Sum h hs ht
  have nc := cv_npk k
  have sl := fun s t => sumK_lt (s := s) (t := t) h
  generalize sumK k = S at *
  generalize hCV : cv k = CV at *
  have e1 : evV CV = CV := hCV ▸ rfl
  have e2 : san CV = CV := hCV ▸ rfl
  clear hu
  simp only [pj] at *
  simp only [EE,EX,Nat.reduceLeDiff,Nat.reduceEqDiff,Int.reduceEq,reduceCtorEq,Nat.reduceAdd,Nat.reduceMul,if_true,if_false,decide_true,decide_false, e1, e2, c0, c1, g1.eq, natv_noHp, pj_len, pj_sa, pj_ok]
  rw [loop_use T (fun i => ⟨[(0, CV), (4, .vr (us 64 (dl 64 9 x)) 0), (5, .vr (pjL t.x t.y t.z) 0), (6, .loc (pjL 0 0 0)), (7, .loc (pjL (u i).x (u i).y (u i).z)), (8, .i (a i))], []⟩) n
    (.exit 0, ⟨[(6, .loc (pjL 0 0 0)), (7, .loc (pjL (u n).x (u n).y (u n).z))], []⟩) ?h0 (by simp) ?hs ?hn]
  · simp only [EE,EX,Nat.reduceLeDiff,Nat.reduceEqDiff,Int.reduceEq,reduceCtorEq,Nat.reduceAdd,Nat.reduceMul,if_true,if_false,decide_true,decide_false, pj_a, pj_ok, pj_len, pj_sa, pj_fz]
  · rw [u0]
  · intro i hi
    obtain ⟨m, hm⟩ : ∃ m, m = n - 1 - i := ⟨_, rfl⟩
    have hai : a i = (m : Int) := by rw [ha]; omega
    have hai1 : a (i + 1) = (m : Int) - 1 := by rw [ha]; omega
    have k1 : decide ((0 : Int) ≤ a i) = true := by rw [hai]; simp
    have k2 := r_natBit (x := x) (i := m) (by omega)
    have k3 : F (w64 (a i - 1)) (a (i + 1)) := ⟨by rw [hai, hai1]; exact w64_of (by omega) (by omega)⟩
    have k4 := sm (u i) (u i) (ul i) (ul i)
    have k5 := sm (S (u i) (u i)) t (sl _ _) ht
    have us2 := us1 i
    rw [← hm] at us2
    rw [← hai] at k2
    obtain ⟨z, hz⟩ : ∃ z, z = x / 2 ^ m % 2 := ⟨_, rfl⟩
    have hz2 : z < 2 := by omega
    rw [← hz] at us2 k2
    generalize S (u i) (u i) = d at *
    generalize a i = ai at *
    generalize a (i + 1) = aj at *
    generalize u i = ui at *
    have n2 := fun a b c => pj_np a b c 6
    rcases (show z = 0 ∨ z = 1 by omega) with rfl | rfl
    · have us3 : u (i + 1) = d := us2
      rw [us3]
      have d1 : decide (((0 : Nat) : Int) = 1) = false := rfl
      simp only [EE,EX,Nat.reduceLeDiff,Nat.reduceEqDiff,Int.reduceEq,reduceCtorEq,Nat.reduceAdd,Nat.reduceMul,if_true,if_false,decide_true,decide_false, e1, e2, k1, k2, k3.eq, k4, nc, n2, d1, natv_noHp, pj_a, pj_len, pj_sa, pj_ok]
    · have us3 : u (i + 1) = S d t := us2
      rw [us3]
      generalize S d t = d2 at *
      have d1 : decide (((1 : Nat) : Int) = 1) = true := rfl
      simp only [EE,EX,Nat.reduceLeDiff,Nat.reduceEqDiff,Int.reduceEq,reduceCtorEq,Nat.reduceAdd,Nat.reduceMul,if_true,if_false,decide_true,decide_false, e1, e2, k1, k2, k3.eq, k4, k5, nc, n2, d1, natv_noHp, pj_a, pj_len, pj_sa, pj_ok]
  · have k1 : decide ((0 : Int) ≤ a n) = false := decide_eq_false (by rw [ha]; omega)
    simp only [EE,EX,Nat.reduceLeDiff,Nat.reduceEqDiff,Int.reduceEq,reduceCtorEq,Nat.reduceAdd,Nat.reduceMul,if_true,if_false,decide_true,decide_false, k1]

end Mir

namespace Mir

def ones (c : Bool) : Nat := bif c then 18446744073709551615 else 0
theorem r_spread {b : Nat} : Run T f_mask_spread [.u 64 b] [] = some (.u 64 ((2 ^ 64 - (b &&& 1)) % 2 ^ 64), []) := by
  rw [Run_at T _ (show T f_mask_spread = some m_mask_spread from rfl)]
  simp only [c_mask_spread]
  simp only [EE,EX,Nat.reduceLeDiff,Nat.reduceEqDiff,Int.reduceEq,reduceCtorEq,Nat.reduceAdd,Nat.reduceMul,if_true,if_false,decide_true,decide_false]
theorem zero_ok : ∀ x, x < 16 → (2 ^ 64 - ((2 ^ 64 - 1 - (x ||| (2 ^ 64 - x) % 2 ^ 64)) / 2 ^ 63 &&& 1)) % 2 ^ 64 = ones (decide (x = 0)) := by decide
theorem r_mZero {x : Nat} (hx : x < 16) : Run T f_mask_Zero [.u 64 x] [] = some (.u 64 (ones (decide (x = 0))), []) := by
  rw [Run_at T _ (show T f_mask_Zero = some m_mask_Zero from rfl)]
  simp only [c_mask_Zero]
  have c1 := r_spread (b := (2 ^ 64 - 1 - (x ||| (2 ^ 64 - x) % 2 ^ 64)) / 2 ^ 63)
  rw [zero_ok x hx] at c1
  have c2 : min 63 64 = 63 := rfl
  generalize ones (decide (x = 0)) = r at *
  simp only [EE,EX,Nat.reduceLeDiff,Nat.reduceEqDiff,Int.reduceEq,reduceCtorEq,Nat.reduceAdd,Nat.reduceMul,if_true,if_false,decide_true,decide_false, c2, c1]
theorem r_mEqual {a b : Nat} (ha : a < 16) (hb : b < 16) : Run T f_mask_Equal [.u 64 a, .u 64 b] [] = some (.u 64 (ones (decide (a = b))), []) := by
  rw [Run_at T _ (show T f_mask_Equal = some m_mask_Equal from rfl)]
  simp only [c_mask_Equal]
  have c1 := r_mZero (x := a ^^^ b) (Nat.xor_lt_two_pow (n := 4) ha hb)
  have e : decide (a ^^^ b = 0) = decide (a = b) := by
    by_cases h : a = b
    · subst h; simp
    · rw [decide_eq_false h, decide_eq_false]
      intro h'
      refine h ?_
      have : a ^^^ b ^^^ b = 0 ^^^ b := by rw [h']
      rwa [Nat.xor_assoc, Nat.xor_self, Nat.xor_zero, Nat.zero_xor] at this
  rw [e] at c1
  simp only [EE,EX,Nat.reduceLeDiff,Nat.reduceEqDiff,Int.reduceEq,reduceCtorEq,Nat.reduceAdd,Nat.reduceMul,if_true,if_false,decide_true,decide_false, c1]

theorem r_word {m a b : Nat} : Run T f_mask_chooser_word [.agg [.u 64 m], .u 64 a, .u 64 b] [] = some (.u 64 (a &&& m ||| b &&& (2 ^ 64 - 1 - m)), []) := by
  rw [Run_at T _ (show T f_mask_chooser_word = some m_mask_chooser_word from rfl)]
  simp only [c_mask_chooser_word]
  have q0 : ∀ m, part [V.u 64 m] 0 none = some (.u 64 m) := fun _ => rfl
  simp only [EE,EX,Nat.reduceLeDiff,Nat.reduceEqDiff,Int.reduceEq,reduceCtorEq,Nat.reduceAdd,Nat.reduceMul,if_true,if_false,decide_true,decide_false, q0]
theorem word_ok {c : Bool} {a b : Nat} (ha : a < 2 ^ 64) (hb : b < 2 ^ 64) : (a &&& ones c ||| b &&& (2 ^ 64 - 1 - ones c)) = bif c then a else b := by
  have f : ∀ x, x < 2 ^ 64 → x &&& 18446744073709551615 = x := fun x hx => by
    rw [show (18446744073709551615 : Nat) = 2 ^ 64 - 1 from rfl, Nat.and_two_pow_sub_one_eq_mod, Nat.mod_eq_of_lt hx]
  cases c
  · show (a &&& 0 ||| b &&& 18446744073709551615) = b
    rw [Nat.and_zero, f b hb, Nat.zero_or]
  · show (a &&& 18446744073709551615 ||| b &&& 0) = a
    rw [Nat.and_zero, f a ha, Nat.or_zero]

theorem r_maskNat {c : Bool} {x y : Nat} : Run T f_mask_nat [.fn f_mask_chooser_word [.agg [.u 64 (ones c)]] [], natv x, natv y] [] = some (natv (bif c then x else y), []) := by
  rw [Run_at T _ (show T f_mask_nat = some m_mask_nat from rfl)]
  simp only [c_mask_nat, zero9]
  obtain ⟨p, hp⟩ : ∃ p : Nat → Nat, ∀ i, p i = x / 2 ^ (64 * i) % 2 ^ 64 := ⟨_, fun _ => rfl⟩
  obtain ⟨q, hq⟩ : ∃ q : Nat → Nat, ∀ i, q i = y / 2 ^ (64 * i) % 2 ^ 64 := ⟨_, fun _ => rfl⟩
  obtain ⟨s, hs⟩ : ∃ s : Nat → Nat, ∀ i, s i = (bif c then x else y) / 2 ^ (64 * i) % 2 ^ 64 := ⟨_, fun _ => rfl⟩
  have pl : ∀ i, p i < 2 ^ 64 := fun i => by rw [hp]; exact Nat.mod_lt _ (by omega)
  have ql : ∀ i, q i < 2 ^ 64 := fun i => by rw [hq]; exact Nat.mod_lt _ (by omega)
  have sc : ∀ i, s i = bif c then p i else q i := fun i => by rw [hs, hp, hq]; cases c <;> rfl
  have hl : dl 64 9 x = tb 9 p := tb_congr fun j hj => (hp j).symm
  have hl2 : dl 64 9 y = tb 9 q := tb_congr fun j hj => (hq j).symm
  have hpp : ∀ i, i < 9 → part (us 64 (tb 9 q)) i none = some (.u 64 (q i)) := fun i hi => by simp only [part]; exact us_get (tb_get hi)
  have ho : ∀ (f : Nat → Nat) i, i < 9 → part (us 64 (tb 9 f)) i none = some (.u 64 (f i)) := fun f i hi => by simp only [part]; exact us_get (tb_get hi)
  have cw : ∀ i, Run T f_mask_chooser_word [.agg [.u 64 (ones c)], .u 64 (p i), .u 64 (q i)] [] = some (.u 64 (s i), []) := fun i => by
    rw [r_word, word_ok (pl i) (ql i), sc]
  simp only [natv, hl, hl2]
  simp only [EE,EX,Nat.reduceLeDiff,Nat.reduceEqDiff,Int.reduceEq,reduceCtorEq,Nat.reduceAdd,Nat.reduceMul,if_true,if_false,decide_true,decide_false]
  have n1 : ∀ (k m : Nat), noHp (k + 2) (.agg [.u 64 m]) = true := fun _ _ => rfl
  rw [loop_use T (fun i => ⟨[(0, .fn f_mask_chooser_word [.agg [.u 64 (ones c)]] []), (4, .loc (us 64 (tb 9 fun j => if j < i then s j else p j))), (5, .vr (us 64 (tb 9 q)) 0), (6, .loc (us 64 (dl 64 9 0))), (8, .i (i : Int))], []⟩) 9
    (.exit 0, ⟨[(4, .loc (us 64 (tb 9 fun j => if j < 9 then s j else p j))), (6, .loc (us 64 (dl 64 9 0)))], []⟩) ?h0 (by simp) ?hs ?hn]
  · have k1 : tb 9 (fun j => if j < 9 then s j else p j) = dl 64 9 (bif c then x else y) := tb_congr fun j hj => by rw [if_pos hj, hs]
    have k2 := part_us (w := 64) (dl_len 64 9 (bif c then x else y))
    have k3 : splice (us 64 (dl 64 9 0)) 0 (us 64 (dl 64 9 (bif c then x else y))) = us 64 (dl 64 9 (bif c then x else y)) := sp_us (by rw [us_len, dl_len, dl_len])
    simp only [EE,EX,Nat.reduceLeDiff,Nat.reduceEqDiff,Int.reduceEq,reduceCtorEq,Nat.reduceAdd,Nat.reduceMul,if_true,if_false,decide_true,decide_false, k1, k2, k3]
  · simp only [Nat.not_lt_zero, if_false]; rfl
  · intro i hi
    have k1 : decide ((i : Int) < 9) = true := by simp; omega
    obtain ⟨i1, hi1⟩ : ∃ i1, i1 = i + 1 := ⟨_, rfl⟩
    have k2 : F (w64 ((i : Int) + 1)) (i1 : Int) := ⟨by unfold w64; omega⟩
    have k3 := ixOf_nat (show i < 9 by omega)
    have k4 := hpp i hi
    have k5 := ho (fun j => if j < i then s j else p j) i hi
    rw [if_neg (Nat.lt_irrefl i)] at k5
    have k6 : (i + 1 ≤ 9) = True := by simp; omega
    have k7 : tb 9 (fun j => if j = i then s i else if j < i then s j else p j) = tb 9 (fun j => if j < i1 then s j else p j) := tb_congr fun a ha => by
      by_cases h : a = i
      · rw [if_pos h, if_pos (by omega), h]
      · rw [if_neg h]
        by_cases h2 : a < i
        · rw [if_pos h2, if_pos (by omega)]
        · rw [if_neg h2, if_neg (by omega)]
    have k8 := cw i
    rw [← hi1]
    generalize ones c = oc at *
    simp only [EE,EX,Nat.reduceLeDiff,Nat.reduceEqDiff,Int.reduceEq,reduceCtorEq,Nat.reduceAdd,Nat.reduceMul,if_true,if_false,decide_true,decide_false, k1, k2.eq, k3, k4, k5, k6, k7, k8, n1]
  · have k1 : decide (((9 : Nat) : Int) < 9) = false := by simp
    simp only [EE,EX,Nat.reduceLeDiff,Nat.reduceEqDiff,Int.reduceEq,reduceCtorEq,Nat.reduceAdd,Nat.reduceMul,if_true,if_false,decide_true,decide_false, k1]

theorem r_Select {c : Bool} {x y : Nat} : Run T f_mask_Select [.u 64 (ones c), natv x, natv y] [] = some (natv (bif c then x else y), []) := by
  rw [Run_at T _ (show T f_mask_Select = some m_mask_Select from rfl)]
  simp only [c_mask_Select, zero9]
  have c1 := r_maskNat (c := c) (x := x) (y := y)
  have n1 : ∀ (l : List V), noHp 8 (.fn f_mask_chooser_word l []) = false := fun _ => rfl
  generalize ones c = oc at *
  generalize (bif c then x else y) = z at *
  have b1 : splice [V.u 64 0] 0 [V.u 64 oc] = [V.u 64 oc] := rfl
  simp only [EE,EX,Nat.reduceLeDiff,Nat.reduceEqDiff,Int.reduceEq,reduceCtorEq,Nat.reduceAdd,Nat.reduceMul,if_true,if_false,decide_true,decide_false, c1, n1, b1, List.set_cons_zero]

end Mir

namespace Mir

/-- A trace, or none: memory when it has so many events. -/
structure TrOk (tr : V) (P : List Nat → Heap → Prop) : Prop where
  ev : evV tr = tr
  sn : san tr = tr
  st : ∀ l H (i : Nat), l.length < 100000 → i < 16 → P l H → ∃ H' e, Run T f_trace_Trace_Index [tr, .i (i : Int)] H = some (.i e, H') ∧ P (l ++ [i]) H'

theorem r_IndexNil {i : Int} {H : Heap} : Run T f_trace_Trace_Index [.nilp, .i i] H = some (.i 1, H) := by
  rw [Run_at T _ (show T f_trace_Trace_Index = some m_trace_Trace_Index from rfl)]
  simp only [c_trace_Trace_Index]
  have q : eqV .ptr .nilp .nilp = some true := rfl
  simp only [EE,EX,Nat.reduceLeDiff,Nat.reduceEqDiff,Int.reduceEq,reduceCtorEq,Nat.reduceAdd,Nat.reduceMul,if_true,if_false,decide_true,decide_false, q]
theorem nilTr (H0 : Heap) : TrOk .nilp (fun _ H => H = H0) := ⟨rfl, rfl, fun l H i _ _ h => ⟨H, 1, r_IndexNil, h⟩⟩

theorem trSeq {tr : V} {P : List Nat → Heap → Prop} (ht : TrOk tr P) {l : List Nat} {H : Heap} (hl : l.length + 16 ≤ 100000) (hP : P l H) : ∀ n : Nat, n ≤ 16 →
    ∃ (Hs : Nat → Heap) (es : Nat → Int), Hs 0 = H ∧ (∀ i : Nat, i < n → Run T f_trace_Trace_Index [tr, .i (i : Int)] (Hs i) = some (.i (es i), Hs (i + 1))) ∧ P (l ++ List.range n) (Hs n)
  | 0, _ => ⟨fun _ => H, fun _ => 0, rfl, fun i h => absurd h (by omega), by simpa using hP⟩
  | n + 1, h => by
    obtain ⟨Hs, es, h0, h1, h2⟩ := trSeq ht hl hP n (by omega)
    obtain ⟨H', e, h3, h4⟩ := ht.st _ _ n (by simp; omega) (by omega) h2
    refine ⟨fun j => if j = n + 1 then H' else Hs j, fun j => if j = n then e else es j, ?_, fun i hi => ?_, ?_⟩
    · simp [h0]
    · simp only [if_neg (show i ≠ n + 1 by omega)]
      by_cases hin : i = n
      · subst hin
        simp only [if_true]
        exact h3
      · simp only [if_neg hin, if_neg (show i + 1 ≠ n + 1 by omega)]
        exact h1 i (by omega)
    · simp only [if_true]
      rw [List.range_succ, ← List.append_assoc]
      exact h4

/-- A table's cells. -/
def tbl (q : Nat → P2) : Nat → List V
  | 0 => []
  | n + 1 => tbl q n ++ ptL (q n).x (q n).y (q n).i
theorem tbl_len (q : Nat → P2) : ∀ n, (tbl q n).length = n * 19
  | 0 => rfl
  | n + 1 => by rw [tbl, List.length_append, tbl_len q n, pt_len]; omega
theorem tbl_part (q : Nat → P2) : ∀ n i, i < n → part (tbl q n) (i * 19) (some 19) = some (pt (q i))
  | 0, i, h => absurd h (by omega)
  | n + 1, i, h => by
    have hl := tbl_len q n
    simp only [part, tbl, List.length_append, hl, pt_len]
    rw [if_pos (by omega)]
    rcases Nat.lt_or_ge i n with h1 | h1
    · have h2 := tbl_part q n i h1
      simp only [part, hl] at h2
      rw [if_pos (by omega)] at h2
      rw [List.drop_append_of_le_length (by omega), List.take_append_of_le_length (by rw [List.length_drop]; omega)]
      exact h2
    · have : i = n := by omega
      subst this
      rw [List.drop_append_of_le_length (by omega), List.drop_of_length_le (by omega), List.nil_append, List.take_of_length_le (by rw [pt_len]; omega)]
theorem tbl_mo (q : Nat → P2) (nk : Bool) (h : Heap) (k m : Nat) : ∀ n, mapO (fzV nk h k (m + 1)) (tbl q n) = some (tbl q n)
  | 0 => rfl
  | n + 1 => by rw [tbl]; exact mapO_app (tbl_mo q nk h k m n) (pt_mo ..)
abbrev tab16 (q : Nat → P2) : V := .vr [.vs 16 (tbl q 16)] 0
theorem r_Pick {tr : V} {P : List Nat → Heap → Prop} (ht : TrOk tr P) {q : Nat → P2} {d : Nat} (hd : d < 16) {l : List Nat} {H : Heap} (hl : l.length + 16 ≤ 100000) (hP : P l H) :
    ∃ H', Run T f_table_Table_Pick [tab16 q, tr, .i (d : Int)] H = some (.tup [pt (q d), .i 0], H') ∧ P (l ++ List.range 16) H' := by
  obtain ⟨Hs, es, h0, h1, h2⟩ := trSeq ht hl hP 16 (Nat.le_refl _)
  refine ⟨Hs 16, ?_, h2⟩
  rw [Run_at T _ (show T f_table_Table_Pick = some m_table_Table_Pick from rfl)]
  simp only [c_table_Table_Pick, zeroPt]
  have q0 : ∀ v : V, part [v] 0 none = some v := fun _ => rfl
  have t1 := ht.ev
  have t2 := ht.sn
  have g1 : decide ((d : Int) < 0) = false := decide_eq_false (by omega)
  have g3 : decide ((16 : Nat) < 9223372036854775808) = true := rfl
  have g2 : decide ((16 : Int) ≤ (d : Int)) = false := decide_eq_false (by omega)
  have e16 : ((16 : Nat) : Int) = 16 := rfl
  have kp := tbl_part q 16
  obtain ⟨L, hL⟩ : ∃ L, L = tbl q 16 := ⟨_, rfl⟩
  simp only [tab16]
  rw [← hL] at kp ⊢
  rw [← h0]
  obtain ⟨ax, hax⟩ : ∃ f : Nat → Nat, ∀ i, f i = bif decide (d < i) then (q d).x else 0 := ⟨_, fun _ => rfl⟩
  obtain ⟨ay, hay⟩ : ∃ f : Nat → Nat, ∀ i, f i = bif decide (d < i) then (q d).y else 0 := ⟨_, fun _ => rfl⟩
  obtain ⟨ai, hai⟩ : ∃ f : Nat → Nat, ∀ i, f i = bif decide (d < i) && (q d).i then 1 else 0 := ⟨_, fun _ => rfl⟩
  have sx : ∀ i, (bif decide (i = d) then (q i).x else ax i) = ax (i + 1) := fun i => by
    rw [hax, hax]
    by_cases h : i = d
    · subst h; rw [decide_eq_true rfl, decide_eq_true (show i < i + 1 by omega)]; rfl
    · rw [decide_eq_false h, cond_false, show decide (d < i + 1) = decide (d < i) from decide_eq_decide.2 (by omega)]
  have sy : ∀ i, (bif decide (i = d) then (q i).y else ay i) = ay (i + 1) := fun i => by
    rw [hay, hay]
    by_cases h : i = d
    · subst h; rw [decide_eq_true rfl, decide_eq_true (show i < i + 1 by omega)]; rfl
    · rw [decide_eq_false h, cond_false, show decide (d < i + 1) = decide (d < i) from decide_eq_decide.2 (by omega)]
  have si : ∀ i, (ai i ||| ((bif (q i).i then 1 else 0) &&& ones (decide (i = d)))) = ai (i + 1) := fun i => by
    rw [hai, hai]
    by_cases h : i = d
    · subst h
      rw [decide_eq_true rfl, decide_eq_true (show i < i + 1 by omega), decide_eq_false (show ¬ i < i by omega)]
      cases (q i).i <;> rfl
    · rw [decide_eq_false h, show decide (d < i + 1) = decide (d < i) from decide_eq_decide.2 (by omega)]
      show (_ ||| (_ &&& 0)) = _
      rw [Nat.and_zero, Nat.or_zero]
  have sl : ∀ (c : Bool) x y, Run T f_mask_Select [.u 64 (ones c), natv x, natv y] [] = some (natv (bif c then x else y), []) := fun c x y => r_Select
  have fp : ∀ (x y : Nat) (b c : Bool), fzV false (Hs 16) 0 5 (ptv x y b) = some (ptv x y b) := fun x y b c => pt_fz ..
  simp only [EE,EX,Nat.reduceLeDiff,Nat.reduceEqDiff,Int.reduceEq,reduceCtorEq,Nat.reduceAdd,Nat.reduceMul,if_true,if_false,decide_true,decide_false, t1, t2, g1, g3, q0, e16, g2, pt_len, r_Open_np]
  rw [loop_use T (fun i => ⟨[(1, tr), (2, .i (d : Int)), (6, .loc (ptL 0 0 false)), (8, .loc (ptL (ax i) (ay i) false)), (9, .u 64 (ai i)), (34, .vs 16 L), (35, .i 16), (36, .i (i : Int))], Hs i⟩) 16
    (.exit 1, ⟨[(6, .loc (ptL 0 0 false)), (8, .loc (ptL (ax 16) (ay 16) false)), (9, .u 64 (ai 16))], Hs 16⟩) ?h0 (by simp) ?hs ?hn]
  · have e1 : ax 16 = (q d).x := by rw [hax, decide_eq_true hd]; rfl
    have e2 : ay 16 = (q d).y := by rw [hay, decide_eq_true hd]; rfl
    have e3 : decide (ai 16 = 1) = (q d).i := by
      rw [hai, decide_eq_true hd]
      cases (q d).i <;> rfl
    rw [e1, e2]
    simp only [EE,EX,Nat.reduceLeDiff,Nat.reduceEqDiff,Int.reduceEq,reduceCtorEq,Nat.reduceAdd,Nat.reduceMul,if_true,if_false,decide_true,decide_false, e3, pt_len, pt_sb, pt_a, pt_ok, pt_sa]
  · have e1 : ax 0 = 0 := by rw [hax]; rfl
    have e2 : ay 0 = 0 := by rw [hay]; rfl
    have e3 : ai 0 = 0 := by rw [hai]; rfl
    rw [e1, e2, e3]; rfl
  · intro i hi
    have k1 : decide ((i : Int) < 16) = true := by simp; omega
    have k2 : F (w64 ((i : Int) + 1)) ((i + 1 : Nat) : Int) := ⟨by unfold w64; omega⟩
    have k3 : F (((i : Int) % 2 ^ 64).toNat) i := ⟨by omega⟩
    have k4 : F (((d : Int) % 2 ^ 64).toNat) d := ⟨by omega⟩
    have k5 := ixOf_nat (show i < 16 by omega)
    have k6 := kp i hi
    have k7 := h1 i hi
    have k8 := r_mEqual hi hd
    have k9 := sl (decide (i = d)) (q i).x (ax i)
    have k10 := sl (decide (i = d)) (q i).y (ay i)
    rw [sx i] at k9
    rw [sy i] at k10
    have s1 := si i
    have fu : ∀ n : Nat, noHp 8 (.u 64 n) = true := fun _ => rfl
    generalize ones (decide (i = d)) = oc at *
    generalize Hs i = Hi at *
    generalize Hs (i + 1) = Hj at *
    generalize ax i = a1 at *
    generalize ax (i + 1) = a2 at *
    generalize ay i = b1 at *
    generalize ay (i + 1) = b2 at *
    generalize ai i = i1 at *
    generalize ai (i + 1) = i2 at *
    generalize q i = qi at *
    obtain ⟨x, y, b⟩ := qi
    simp only [pt] at k6 k9 k10 s1
    cases b
    · simp only [cond_false] at s1
      simp only [EE,EX,Nat.reduceLeDiff,Nat.reduceEqDiff,Int.reduceEq,reduceCtorEq,Nat.reduceAdd,Nat.reduceMul,if_true,if_false,decide_true,decide_false, t1, t2, k1, k2.eq, k3.eq, k4.eq, k5, k6, k7, k8, k9, k10, s1, fu, natv_noHp, pt_len, pt_sa, pt_sx, pt_sy, pt_x, pt_y, pt_b, pt_ok]
    · simp only [cond_true] at s1
      simp only [EE,EX,Nat.reduceLeDiff,Nat.reduceEqDiff,Int.reduceEq,reduceCtorEq,Nat.reduceAdd,Nat.reduceMul,if_true,if_false,decide_true,decide_false, t1, t2, k1, k2.eq, k3.eq, k4.eq, k5, k6, k7, k8, k9, k10, s1, fu, natv_noHp, pt_len, pt_sa, pt_sx, pt_sy, pt_x, pt_y, pt_b, pt_ok]
  · have k1 : decide (((16 : Nat) : Int) < 16) = false := rfl
    simp only [EE,EX,Nat.reduceLeDiff,Nat.reduceEqDiff,Int.reduceEq,reduceCtorEq,Nat.reduceAdd,Nat.reduceMul,if_true,if_false,decide_true,decide_false, t1, t2, k1]

end Mir

namespace Mir

/-- A point's multiples, one after another. -/
def atN (S : P3 → P3 → P3) (t : P3) : Nat → P3
  | 0 => .inf
  | i + 1 => S (atN S t i) t
theorem atN_lt {k : Nat} {t : P3} (h : Cid k) : ∀ i, Lt3 (crP k) (atN (sumK k) t i)
  | 0 => lt_inf h
  | i + 1 => sumK_lt h
theorem Rep.tri {k : Nat} {t : P3} {q : P2} (h : Cid k) (hr : Rep k t q) : Lt3 (crP k) q.tri := by
  obtain ⟨x, y, i⟩ := q
  cases i
  · exact ⟨hr.x, hr.y, show 1 < _ by have := (cv_ok h).big; omega⟩
  · exact lt_inf h
theorem OnP.tri {k : Nat} {q : P2} (h : Cid k) (hr : OnP k q) : Lt3 (crP k) q.tri := by
  obtain ⟨x, y, i⟩ := q
  cases i
  · exact ⟨hr.x, hr.y, show 1 < _ by have := (cv_ok h).big; omega⟩
  · exact lt_inf h

/-- Memory while a table is made. -/
def tbV : Nat → V
  | 0 => .nils
  | i + 1 => .hs 19 (i + 1) 0 (i + 1) (i + 1)
def tbR (q : Nat → P2) : Nat → Heap
  | 0 => []
  | i + 1 => List.replicate i none ++ [some (tbl q (i + 1))]
theorem tbR_len (q : Nat → P2) (i : Nat) : (tbR q i).length = i := by
  cases i with
  | zero => rfl
  | succ i => simp [tbR]
theorem tbR_row (q : Nat → P2) (i : Nat) (x : Option (List V)) : row (x :: tbR q (i + 1)) (i + 1) = some (tbl q (i + 1)) := by
  simp [row, tbR]
theorem tbR_next (q : Nat → P2) (i : Nat) (x : Option (List V)) : (x :: tbR q (i + 1)).set (i + 1) none ++ [some (tbl q (i + 2))] = x :: tbR q (i + 2) := by
  have : ((List.replicate i (none : Option (List V)) ++ [some (tbl q (i + 1))]).set i none) = List.replicate (i + 1) none := by
    apply List.ext_getElem
    · simp
    · intro k h1 h2
      simp only [List.length_set, List.length_append, List.length_replicate, List.length_singleton] at h1
      by_cases h : k = i
      · subst h; simp
      · rw [List.getElem_set_ne (Ne.symm h)]
        rw [List.getElem_append_left (by simp; omega)]
        simp
  simp only [tbR, List.set_cons_succ, this, List.cons_append]
theorem tb_app (q : Nat → P2) (x : Option (List V)) (i : Nat) (hi : i < 1000) : appO (x :: tbR q i) 19 152 (some (ptL (q i).x (q i).y (q i).i)) (some 1) (tbV i) = some (tbV (i + 1), x :: tbR q (i + 1)) := by
  have ok1 : okA 19 152 (i + 1) 1 (ptL (q i).x (q i).y (q i).i) = true := by
    have h1 : roomOk (i + 1) 152 = true := by simp [roomOk]; omega
    simp only [okA, h1, pt_len]
    rfl
  cases i with
  | zero =>
    have ok0 : okA 19 152 1 1 (ptL (q 0).x (q 0).y (q 0).i) = true := ok1
    have h1 : decide (1 = 0) = false := rfl
    simp only [tbV, Gs, ok0, h1, Gu, tbR]
    rfl
  | succ i =>
    have h1 : decide (0 + (i + 1) * 19 ≤ (tbl q (i + 1)).length) = true := by rw [tbl_len]; exact decide_eq_true (by omega)
    have h2 : ((tbl q (i + 1)).drop 0).take ((i + 1) * 19) ++ ptL (q (i + 1)).x (q (i + 1)).y (q (i + 1)).i = tbl q (i + 2) := by
      rw [List.drop_zero, List.take_of_length_le (by rw [tbl_len]; omega)]; rfl
    simp only [tbV, Gv, tbR_row, Gw, h1, ok1, Gx, h2, tbR_next, List.length_cons, tbR_len]

theorem r_tabOf {k : Nat} {p : P2} {q : Nat → P2} (h : Cid k) (hp : Lt3 (crP k) p.tri) (hq : ∀ i, i < 16 → Rep k (atN (sumK k) p.tri i) (q i)) :
    Run T f_table_Of [cv k, pt p, .i 16] [] = some (tab16 q, []) := by
  rw [Run_at T _ (show T f_table_Of = some m_table_Of from rfl)]
  simp only [c_table_Of, zeroPj, zeroPt]
  have c0 := r_None
  have c1 := r_Triple (q := p)
  have n0 := fun a b c => pt_np a b c 6
  have n1 := fun a b c => pj_np a b c 6
  obtain ⟨t, hT⟩ : ∃ t, t = p.tri := ⟨_, rfl⟩
  rw [← hT] at c1 hp hq
  obtain ⟨u, hu⟩ : ∃ u : Nat → P3, u = atN (sumK k) t := ⟨_, rfl⟩
  have ul : ∀ i, Lt3 (crP k) (u i) := fun i => hu ▸ atN_lt h i
  have u0 : u 0 = .inf := by rw [hu]; rfl
  have pl : ∀ i, i < 16 → Run T f_curve_Curve_Plain [cv k, pj (u i)] [] = some (pt (q i), []) := fun i hi => r_Plain h (hu ▸ hq i hi)
  have sm : ∀ i, Run T f_curve_Curve_Sum [cv k, pj (u i), pj t] [] = some (pj (u (i + 1)), []) := fun i => by
    rw [show u (i + 1) = sumK k (u i) t by rw [hu]; rfl]
    exact r_Sum h (ul i) hp
  have nc := cv_npk k
  generalize hCV : cv k = CV at *
  have e1 : evV CV = CV := hCV ▸ rfl
  have e2 : san CV = CV := hCV ▸ rfl
  have b1 : splice [V.nils] 0 [V.nils] = [V.nils] := rfl
  have q0 : ∀ v : V, part [v] 0 none = some v := fun _ => rfl
  simp only [pj, pt] at *
  simp only [EE,EX,Nat.reduceLeDiff,Nat.reduceEqDiff,Int.reduceEq,reduceCtorEq,Nat.reduceAdd,Nat.reduceMul,if_true,if_false,decide_true,decide_false, e1, e2, c0, c1, b1, n0, pj_len, pj_sa, pj_ok, pt_a]
  rw [loop_use T (fun i => ⟨[(0, CV), (7, .hp 0 0), (8, .loc (pjL t.x t.y t.z)), (9, .loc (pjL (u i).x (u i).y (u i).z)), (15, .i 16), (16, .i (i : Int))], some [tbV i] :: tbR q i⟩) 16
    (.exit 0, ⟨[(7, .hp 0 0)], some [tbV 16] :: tbR q 16⟩) ?h0 (by simp) ?hs ?hn]
  · have fz : fzV false (some [tbV 16] :: tbR q 16) 0 6 (.hp 0 0) = some (tab16 q) := by
      have h1 : fzV false (some [tbV 16] :: tbR q 16) 0 5 (tbV 16) = some (.vs 16 (tbl q 16)) := by
        show fzV false _ 0 (4 + 1) (.hs 19 (15 + 1) 0 16 16) = _
        rw [YS]
        simp only [hsB, Nat.not_lt_zero, decide_false, tbR_row, hsR]
        rw [if_pos (by rw [tbl_len]; omega), List.drop_zero, List.take_of_length_le (by rw [tbl_len]; omega), tbl_mo]
        rfl
      show (mapO (fzV false (some [tbV 16] :: tbR q 16) 0 5) [tbV 16]).map (fun m => V.vr m 0) = _
      rw [mapO, h1]; rfl
    simp only [EE,EX,Nat.reduceLeDiff,Nat.reduceEqDiff,Int.reduceEq,reduceCtorEq,Nat.reduceAdd,Nat.reduceMul,if_true,if_false,decide_true,decide_false, fz]
  · rw [u0]; rfl
  · intro i hi
    have k1 : decide ((i : Int) < 16) = true := by simp; omega
    have k2 : F (w64 ((i : Int) + 1)) ((i + 1 : Nat) : Int) := ⟨by unfold w64; omega⟩
    have k3 := pl i hi
    have k4 := sm i
    have k5 := tb_app q (some [tbV i]) i (by omega)
    have v1 : evV (tbV i) = tbV i := by cases i <;> rfl
    have v2 : evV (tbV (i + 1)) = tbV (i + 1) := rfl
    have v3 : okc 1 [tbV (i + 1)] 0 1 = true := rfl
    have v4 : cells (tbV (i + 1)) = [tbV (i + 1)] := rfl
    have v5 : ∀ a b : V, ([a] : List V).set 0 b = [b] := fun _ _ => rfl
    simp only [EE,EX,Nat.reduceLeDiff,Nat.reduceEqDiff,Int.reduceEq,reduceCtorEq,Nat.reduceAdd,Nat.reduceMul,if_true,if_false,decide_true,decide_false, e1, e2, k1, k2.eq, k3, k4, k5, nc, n0, n1, q0, v1, v2, v3, v4, v5, pj_a, pj_len, pj_sa, pj_ok, pt_len, pt_ok, pt_sa]
  · have k1 : decide (((16 : Nat) : Int) < 16) = false := rfl
    simp only [EE,EX,Nat.reduceLeDiff,Nat.reduceEqDiff,Int.reduceEq,reduceCtorEq,Nat.reduceAdd,Nat.reduceMul,if_true,if_false,decide_true,decide_false, k1]

end Mir

namespace Mir

def dbN (S : P3 → P3 → P3) (t : P3) : Nat → P3
  | 0 => t
  | j + 1 => let u := dbN S t j; S u u
def wnN (S : P3 → P3 → P3) (g : Nat → P3) : Nat → P3
  | 0 => .inf
  | i + 1 => S (dbN S (wnN S g i) 4) (g i)
def evN : Nat → List Nat
  | 0 => []
  | i + 1 => evN i ++ List.range 16
theorem evN_len : ∀ n, (evN n).length = n * 16
  | 0 => rfl
  | n + 1 => by rw [evN, List.length_append, evN_len n, List.length_range]; omega
theorem dbN_lt {k : Nat} {t : P3} (h : Cid k) (ht : Lt3 (crP k) t) : ∀ j, Lt3 (crP k) (dbN (sumK k) t j)
  | 0 => ht
  | j + 1 => sumK_lt h
theorem wnN_lt {k : Nat} {g : Nat → P3} (h : Cid k) : ∀ j, Lt3 (crP k) (wnN (sumK k) g j)
  | 0 => lt_inf h
  | j + 1 => sumK_lt h

theorem pkSeq {tr : V} {P : List Nat → Heap → Prop} (ht : TrOk tr P) {q : Nat → P2} {f : Nat → Nat} (hf : ∀ i, f i < 16) {l : List Nat} {H : Heap} : ∀ n : Nat, l.length + n * 16 ≤ 100000 → P l H →
    ∃ Hs : Nat → Heap, Hs 0 = H ∧ (∀ i : Nat, i < n → Run T f_table_Table_Pick [tab16 q, tr, .i ((f i : Nat) : Int)] (Hs i) = some (.tup [pt (q (f i)), .i 0], Hs (i + 1))) ∧ P (l ++ evN n) (Hs n)
  | 0, _, hP => ⟨fun _ => H, rfl, fun i h => absurd h (by omega), by simpa [evN] using hP⟩
  | n + 1, hl, hP => by
    obtain ⟨Hs, h0, h1, h2⟩ := pkSeq ht hf n (by omega) hP
    obtain ⟨H', h3, h4⟩ := r_Pick ht (q := q) (hf n) (l := l ++ evN n) (by rw [List.length_append, evN_len]; omega) h2
    refine ⟨fun j => if j = n + 1 then H' else Hs j, ?_, fun i hi => ?_, ?_⟩
    · simp [h0]
    · simp only [if_neg (show i ≠ n + 1 by omega)]
      by_cases hin : i = n
      · subst hin
        simp only [if_true]
        exact h3
      · simp only [if_neg (show i + 1 ≠ n + 1 by omega)]
        exact h1 i (by omega)
    · simp only [if_true]
      rw [evN, ← List.append_assoc]
      exact h4

/-- How many windows a curve's secrets have. -/
def crW (k : Nat) : Nat := (crBits k + 4 - 1) / 4
theorem crBits_le {k : Nat} (h : Cid k) : crBits k ≤ 576 := bl_le_iff.2 (show crN k < 2 ^ 576 from (cv_ok h).N)

theorem r_MTimes {tr : V} {P : List Nat → Heap → Prop} (ht : TrOk tr P) {k d : Nat} {q : Nat → P2} {r : P2} (h : Cid k) (hb1 : 1 ≤ crBits k) (hd : d < crN k) (hq : ∀ i, i < 16 → Lt3 (crP k) (q i).tri)
    (hr : Rep k (wnN (sumK k) (fun i => (q (dgt d 4 (crW k) i)).tri) (crW k)) r) {l : List Nat} {H : Heap} (hl : l.length + crW k * 16 ≤ 100000) (hP : P l H) :
    ∃ H', Run T f_mult_Times [tr, cv k, natv d, tab16 q] H = some (pt r, H') ∧ P (l ++ evN (crW k)) H' := by
  have lN := (cv_ok h).N
  have hbl : bl d ≤ crBits k := bl_le_iff.2 (Nat.lt_trans hd (bl_le_iff.1 (Nat.le_refl (bl (crN k)))))
  have hb2 := crBits_le h
  have c1 := r_Digits (x := d) (b := crBits k) (w := 4) (by omega) hb1 hb2 (by omega) (by omega) hbl
  obtain ⟨n, hn⟩ : ∃ n, n = crW k := ⟨_, rfl⟩
  have hn' : n = (crBits k + 4 - 1) / 4 := hn
  rw [← hn'] at c1
  rw [← hn] at hr hl ⊢
  obtain ⟨f, hf⟩ : ∃ f : Nat → Nat, f = dgt d 4 n := ⟨_, rfl⟩
  have fl : ∀ i, f i < 16 := fun i => by rw [hf]; exact Nat.mod_lt _ (by omega)
  rw [← hf] at c1 hr
  obtain ⟨Hs, h0, h1, h2⟩ := pkSeq ht (q := q) fl n hl hP
  refine ⟨Hs n, ?_, h2⟩
  rw [Run_at T _ (show T f_mult_Times = some m_mult_Times from rfl)]
  simp only [c_mult_Times, zeroPj, zeroPt]
  have c0 := r_None
  have n0 := fun a b c => pt_np a b c 6
  have n1 := fun a b c => pj_np a b c 6
  have t1 := ht.ev
  have t2 := ht.sn
  obtain ⟨g, hg⟩ : ∃ g : Nat → P3, g = fun i => (q (f i)).tri := ⟨_, rfl⟩
  have gt : ∀ i, Run T f_curve_Triple [pt (q (f i))] [] = some (pj (g i), []) := fun i => by rw [hg]; exact r_Triple
  have gl : ∀ i, Lt3 (crP k) (g i) := fun i => by rw [hg]; exact hq _ (fl i)
  have hr' : Rep k (wnN (sumK k) g n) r := by rw [hg]; exact hr
  obtain ⟨u, hu⟩ : ∃ u : Nat → P3, u = wnN (sumK k) g := ⟨_, rfl⟩
  have ul : ∀ i, Lt3 (crP k) (u i) := fun i => hu ▸ wnN_lt h i
  have u0 : u 0 = .inf := by rw [hu]; rfl
  have us1 : ∀ i, u (i + 1) = sumK k (dbN (sumK k) (u i) 4) (g i) := fun i => by rw [hu]; rfl
  rw [← hu] at hr'
  have c3 := r_Plain h hr'
  have sm : ∀ s t, Lt3 (crP k) s → Lt3 (crP k) t → Run T f_curve_Curve_Sum [cv k, pj s, pj t] [] = some (pj (sumK k s t), []) := fun s t hs ht => r_Sum h hs ht
  have dl := fun t (ht : Lt3 (crP k) t) => dbN_lt h ht
  have nc := cv_npk k
  have kb : part (cvL k) 56 none = some (.i (crBits k : Int)) := cv_bits _ _ _ _ _ _ _ _ _ _ _ _
  have db0 : ∀ t, dbN (sumK k) t 0 = t := fun _ => rfl
  have db1 : ∀ t j, dbN (sumK k) t (j + 1) = sumK k (dbN (sumK k) t j) (dbN (sumK k) t j) := fun _ _ => rfl
  generalize crBits k = bits at *
  generalize sumK k = S at *
  simp only [cv] at *
  generalize cvL k = CL at *
  have c4 : ((4 : Nat) : Int) = 4 := rfl
  rw [c4] at c1
  simp only [tab16] at *
  generalize [V.vs 16 (tbl q 16)] = TL at *
  have hn1 : n ≤ 576 := by omega
  have d1 : decide (n < 9223372036854775808) = true := decide_eq_true (by omega)
  clear hg hf hr hu hbl hP hl h2
  simp only [pj, pt] at *
  rw [← h0]
  simp only [EE,EX,Nat.reduceLeDiff,Nat.reduceEqDiff,Int.reduceEq,reduceCtorEq,Nat.reduceAdd,Nat.reduceMul,if_true,if_false,decide_true,decide_false, t1, t2, c0, c1, kb, d1, nc, natv_noHp, pj_len, pj_ok, pj_sa]
  rw [loop_use T (fun i => ⟨[(0, tr), (1, .vr CL 0), (3, .vr TL 0), (8, .loc (ptL 0 0 false)), (11, .loc (pjL (u i).x (u i).y (u i).z)), (27, .vs n (ints n f)), (28, .i (n : Int)), (29, .i (i : Int))], Hs i⟩) n
    (.exit 0, ⟨[(1, .vr CL 0), (8, .loc (ptL 0 0 false)), (11, .loc (pjL (u n).x (u n).y (u n).z))], Hs n⟩) ?h0 (by simp) ?hs ?hn]
  · simp only [EE,EX,Nat.reduceLeDiff,Nat.reduceEqDiff,Int.reduceEq,reduceCtorEq,Nat.reduceAdd,Nat.reduceMul,if_true,if_false,decide_true,decide_false, c3, nc, n1, pj_a, pt_len, pt_ok, pt_sa, pt_a]
  · rw [u0]; rfl
  · intro i hi
    have k1 : decide ((i : Int) < (n : Int)) = true := by simp; omega
    have k2 : F (w64 ((i : Int) + 1)) ((i + 1 : Nat) : Int) := ⟨by unfold w64; omega⟩
    have k3 := ixOf_nat hi
    have k4 : part (ints n f) i none = some (.i ((f i : Nat) : Int)) := by simp only [part, ints]; exact is_get (tb_get hi)
    have k5 := h1 i hi
    have k6 := gt i
    have k7 := sm (dbN S (u i) 4) (g i) (dl _ (ul i) 4) (gl i)
    rw [← us1 i] at k7
    have dd := fun j => dl _ (ul i) j
    have db2 := db0 (u i)
    have db3 := db1 (u i)
    generalize g i = gi at *
    generalize u (i + 1) = uj at *
    generalize u i = ui at *
    generalize Hs i = Hi at *
    generalize Hs (i + 1) = Hj at *
    generalize f i = fi at *
    simp only [EE,EX,Nat.reduceLeDiff,Nat.reduceEqDiff,Int.reduceEq,reduceCtorEq,Nat.reduceAdd,Nat.reduceMul,if_true,if_false,decide_true,decide_false, t1, t2, k1, k3, k4]
    rw [loop_use T (fun j => ⟨[(0, tr), (1, .vr CL 0), (3, .vr TL 0), (8, .loc (ptL 0 0 false)), (11, .loc (pjL (dbN S ui j).x (dbN S ui j).y (dbN S ui j).z)), (13, .i (fi : Int)), (27, .vs n (ints n f)), (28, .i (n : Int)), (29, .i (i : Int)), (33, .i (j : Int))], Hi⟩) 4
      (.exit 2, ⟨[(0, tr), (1, .vr CL 0), (3, .vr TL 0), (8, .loc (ptL 0 0 false)), (11, .loc (pjL (dbN S ui 4).x (dbN S ui 4).y (dbN S ui 4).z)), (13, .i (fi : Int)), (27, .vs n (ints n f)), (28, .i (n : Int)), (29, .i (i : Int))], Hi⟩) ?h1 (by simp) ?hs1 ?hn1]
    · generalize dbN S ui 4 = u4 at *
      simp only [EE,EX,Nat.reduceLeDiff,Nat.reduceEqDiff,Int.reduceEq,reduceCtorEq,Nat.reduceAdd,Nat.reduceMul,if_true,if_false,decide_true,decide_false, t1, t2, k2.eq, k5, k6, k7, nc, n0, n1, pj_a, pj_len, pj_ok, pj_sa, pt_a, pt_len, pt_ok, pt_sa]
    · rfl
    · intro j hj
      have j1 : decide ((j : Int) < 4) = true := by simp; omega
      have j2 : F (w64 ((j : Int) + 1)) ((j + 1 : Nat) : Int) := ⟨by unfold w64; omega⟩
      have j3 := sm _ _ (dd j) (dd j)
      rw [← db3 j] at j3
      generalize dbN S ui (j + 1) = v2 at *
      generalize dbN S ui j = v1 at *
      simp only [EE,EX,Nat.reduceLeDiff,Nat.reduceEqDiff,Int.reduceEq,reduceCtorEq,Nat.reduceAdd,Nat.reduceMul,if_true,if_false,decide_true,decide_false, t1, t2, j1, j2.eq, j3, nc, n1, pj_a, pj_len, pj_ok, pj_sa]
    · have j1 : decide (((4 : Nat) : Int) < 4) = false := rfl
      simp only [EE,EX,Nat.reduceLeDiff,Nat.reduceEqDiff,Int.reduceEq,reduceCtorEq,Nat.reduceAdd,Nat.reduceMul,if_true,if_false,decide_true,decide_false, t1, t2, j1]
  · have k1 : decide ((n : Int) < (n : Int)) = false := decide_eq_false (by omega)
    simp only [EE,EX,Nat.reduceLeDiff,Nat.reduceEqDiff,Int.reduceEq,reduceCtorEq,Nat.reduceAdd,Nat.reduceMul,if_true,if_false,decide_true,decide_false, k1, t1, t2]

end Mir

namespace Mir

/-- r is d times p, as the windows go. -/
def WinOk (k : Nat) (p : P2) (d : Nat) (r : P2) : Prop :=
  ∃ q : Nat → P2, (∀ i, i < 16 → Rep k (atN (sumK k) p.tri i) (q i)) ∧ Rep k (wnN (sumK k) (fun i => (q (dgt d 4 (crW k) i)).tri) (crW k)) r
def crG (k : Nat) : P2 := ⟨crX k, crY k, false⟩
theorem crG_lt {k : Nat} (h : Cid k) : Lt3 (crP k) (crG k).tri := ⟨(cv_ok h).X, (cv_ok h).Y, show 1 < _ by have := (cv_ok h).big; omega⟩
theorem crBits_pos {k d : Nat} (hd : d < crN k) : 1 ≤ crBits k := by
  rcases Nat.eq_zero_or_pos (crBits k) with h | h
  · have := bl_le_iff.1 (show bl (crN k) ≤ 0 by unfold crBits at h; omega)
    omega
  · exact h

section
variable {tr : V} {P : List Nat → Heap → Prop} (ht : TrOk tr P) {k d : Nat} {p r : P2} (h : Cid k) (hd : d < crN k) {l : List Nat} {H : Heap} (hl : l.length + crW k * 16 ≤ 100000) (hP : P l H)
include ht h hd hl hP

theorem r_baseTimes (w : WinOk k (crG k) d r) : ∃ H', Run T f_base_Times [tr, cv k, natv d] H = some (pt r, H') ∧ P (l ++ evN (crW k)) H' := by
  obtain ⟨q, hq, hr⟩ := w
  have c1 := r_tabOf (p := crG k) h (crG_lt h) hq
  obtain ⟨H', c2, h2⟩ := r_MTimes ht h (crBits_pos hd) hd (fun i hi => (hq i hi).tri h) hr hl hP
  refine ⟨H', ?_, h2⟩
  rw [Run_at T _ (show T f_base_Times = some m_base_Times from rfl)]
  simp only [c_base_Times, zeroPt]
  have t1 := ht.ev
  have t2 := ht.sn
  have nc := cv_npk k
  have n0 := fun a b c => pt_np a b c 6
  have kg : part (cvL k) 37 (some 19) = some (pt (crG k)) := cv_g _ _ _ _ _ _ _ _ _ _ _ _
  have ni : ∀ z, noHp 8 (.i z) = true := fun _ => rfl
  simp only [cv] at *
  generalize cvL k = CL at *
  simp only [tab16, pt] at *
  generalize [V.vs 16 (tbl q 16)] = TL at *
  simp only [EE,EX,Nat.reduceLeDiff,Nat.reduceEqDiff,Int.reduceEq,reduceCtorEq,Nat.reduceAdd,Nat.reduceMul,if_true,if_false,decide_true,decide_false, t1, t2, c1, c2, kg, nc, n0, ni, pt_len, pt_ok, pt_sa, pt_a]

theorem r_baseMul (w : WinOk k (crG k) d r) : ∃ H', Run T f_base_Mul [tr, .i (k : Int), natv d] H = some (.tup [pt r, .i 0], H') ∧ P (l ++ evN (crW k)) H' := by
  obtain ⟨H', c2, h2⟩ := r_baseTimes ht h hd hl hP w
  refine ⟨H', ?_, h2⟩
  rw [Run_at T _ (show T f_base_Mul = some m_base_Mul from rfl)]
  simp only [c_base_Mul, zeroPt]
  have lN := (cv_ok h).N
  have c1 := r_Open h
  have c3 := r_natCmp (x := d) (y := crN k) (by omega) lN
  have d1 : decide (0 ≤ cmpI d (crN k)) = false := by
    unfold cmpI
    rw [if_pos hd]; rfl
  have t1 := ht.ev
  have t2 := ht.sn
  have nc := cv_npk k
  have kn : part (cvL k) 28 (some 9) = some (natv (crN k)) := cv_n _ _ _ _ _ _ _ _ _ _ _ _
  simp only [cv] at *
  generalize cvL k = CL at *
  simp only [pt] at *
  generalize cmpI d (crN k) = e at *
  simp only [EE,EX,Nat.reduceLeDiff,Nat.reduceEqDiff,Int.reduceEq,reduceCtorEq,Nat.reduceAdd,Nat.reduceMul,if_true,if_false,decide_true,decide_false, t1, t2, c1, c2, c3, d1, kn, nc, natv_noHp, r_Open_np, pt_len, pt_ok, pt_sa, pt_a]

end

theorem cgc (h : Heap) (f : Nat) (a b c x : V) : calG T h (.fn f [] [x]) [a, b, c] = cR T h f [a, b, c, x] ([a, b, c, x].all (noHp 8)) := by simp [calG]

/-- x times p, by adding. -/
def MulOk (k : Nat) (p : P2) (x : Nat) (r : P2) : Prop := Rep k (tmN (sumK k) p.tri x (bl x) (bl x)) r

theorem r_affMul {k x : Nat} {p r : P2} (h : Cid k) (hx : x < M) (hp : OnP k p) (hr : MulOk k p x r) : Run T f_affine_Mul [.i (k : Int), natv x, pt p] [] = some (.tup [pt r, .i 0], []) := by
  have nc := cv_npk k
  have n0 := fun a b c => pt_np a b c 6
  have n1 := fun a b c => pj_np a b c 6
  have c1 : Run T f_affine_Mul_1 [.agg [cv k], pt p, pt p, .vr (us 64 (dl 64 9 x)) 0] [] = some (pt r, []) := by
    rw [Run_at T _ (show T f_affine_Mul_1 = some m_affine_Mul_1 from rfl)]
    simp only [c_affine_Mul_1, zeroPt]
    have c1 := r_Triple (q := p)
    have c2 := r_Times h hx (hp.tri h)
    have c3 := r_Plain h hr
    have q0 : ∀ v : V, part [v] 0 none = some v := fun _ => rfl
    generalize tmN (sumK k) p.tri x (bl x) (bl x) = t at *
    simp only [cv, pt, pj] at *
    generalize cvL k = CL at *
    simp only [EE,EX,Nat.reduceLeDiff,Nat.reduceEqDiff,Int.reduceEq,reduceCtorEq,Nat.reduceAdd,Nat.reduceMul,if_true,if_false,decide_true,decide_false, c1, c2, c3, q0, nc, n0, n1, natv_noHp, pt_len, pt_ok, pt_sa, pt_a, pt_fz]
  have c2 : ∀ f, Run T f [.agg [cv k], pt p, pt p, .vr (us 64 (dl 64 9 x)) 0] [] = some (pt r, []) → Run T f_affine_do [.i (k : Int), pt p, pt p, .fn f [] [.vr (us 64 (dl 64 9 x)) 0]] [] = some (.tup [pt r, .i 0], []) := by
    intro f hf
    rw [Run_at T _ (show T f_affine_do = some m_affine_do from rfl)]
    simp only [c_affine_do, zeroPt]
    have c1 := r_Open h
    have c5 := r_On h hp
    have na : noHp 8 (.agg [cv k]) = true := by
      show (noHp 7 (cv k) && true) = true
      rw [Bool.and_true]
      exact cv_np _ _ _ _ _ _ _ _ _ _ _ _ 5 (fld_noHp _ 3)
    have b1 : ∀ l : List V, ([V.nilp].set 0 (.vr l 0)) = [.vr l 0] := fun _ => rfl
    simp only [cv, pt] at *
    generalize cvL k = CL at *
    simp only [EE,EX,Nat.reduceLeDiff,Nat.reduceEqDiff,Int.reduceEq,reduceCtorEq,Nat.reduceAdd,Nat.reduceMul,if_true,if_false,decide_true,decide_false, c1, c5, hf, cgc, na, nc, n0, b1, GY, r_Open_np, pt_len, pt_ok, pt_sa, pt_a, pt_fz]
  have c3 := c2 _ c1
  rw [Run_at T _ (show T f_affine_Mul = some m_affine_Mul from rfl)]
  simp only [c_affine_Mul, zeroPt]
  have nf : ∀ f v, noHp 8 (.fn f [] [v]) = false := fun _ _ => rfl
  simp only [pt] at *
  simp only [EE,EX,Nat.reduceLeDiff,Nat.reduceEqDiff,Int.reduceEq,reduceCtorEq,Nat.reduceAdd,Nat.reduceMul,if_true,if_false,decide_true,decide_false, c3, nf, n0, pt_len, pt_ok, pt_sa, pt_a, pt_fz]

end Mir

namespace Mir

def repB (k : Nat) (t : P3) (q : P2) : Bool :=
  Nat.ble (t.x + 1) (crP k) && Nat.ble (t.y + 1) (crP k) && Nat.ble (t.z + 1) (crP k) && Nat.ble (q.x + 1) (crP k) && Nat.ble (q.y + 1) (crP k) &&
  (bif q.i then Nat.beq t.z 0 && Nat.beq q.x 0 && Nat.beq q.y 0 else !Nat.beq t.z 0 && Nat.beq (q.x * t.z % crP k) t.x && Nat.beq (q.y * t.z % crP k) t.y)
theorem repB_ok {k : Nat} {t : P3} {q : P2} (h : repB k t q = true) : Rep k t q := by
  obtain ⟨x, y, i⟩ := q
  simp only [repB, Bool.and_eq_true, Nat.ble_eq] at h
  obtain ⟨⟨⟨⟨⟨h1, h2⟩, h3⟩, h4⟩, h5⟩, h6⟩ := h
  refine ⟨⟨h1, h2, h3⟩, h4, h5, ?_⟩
  cases i
  · simp only [cond_false, Bool.and_eq_true, Bool.not_eq_true', Nat.beq_eq] at h6
    exact .inr ⟨rfl, fun e => by rw [e] at h6; simp at h6, h6.1.2, h6.2⟩
  · simp only [cond_true, Bool.and_eq_true, Nat.beq_eq] at h6
    exact .inl ⟨rfl, h6.1.1, h6.1.2, h6.2⟩

def t13 : List P2 := [⟨0, 0, true⟩, ⟨2, 84, false⟩, ⟨241, 78, false⟩, ⟨71, 7, false⟩, ⟨33, 67, false⟩, ⟨40, 34, false⟩, ⟨112, 140, false⟩, ⟨178, 228, false⟩, ⟨53, 34, false⟩, ⟨149, 193, false⟩, ⟨60, 194, false⟩, ⟨192, 49, false⟩, ⟨206, 231, false⟩, ⟨158, 217, false⟩, ⟨103, 208, false⟩, ⟨215, 72, false⟩]
def q13 (i : Nat) : P2 := t13.getD i .inf
theorem aw_tab : (List.range 16).all (fun i => repB 13 (atN (sumK 13) (crG 13).tri i) (q13 i)) = true := by kernel_rfl
theorem aw_win : repB 13 (wnN (sumK 13) (fun i => (q13 (dgt 1 4 (crW 13) i)).tri) (crW 13)) (crG 13) = true := by kernel_rfl
theorem aw_mul : repB 13 (tmN (sumK 13) (crG 13).tri (crN 13) (bl (crN 13)) (bl (crN 13))) .inf = true := by kernel_rfl
theorem aw_on : Nat.beq (crY 13 * crY 13 % crP 13) (rightN (crP 13) (crA 13) (crB 13) (crX 13)) = true := by kernel_rfl
theorem aw_one : Nat.ble 2 (crN 13) = true := by kernel_rfl

theorem r_topAwake : Run T f_curvettop_awake [] [] = some (.b true, []) := by
  rw [Run_at T _ (show T f_curvettop_awake = some m_curvettop_awake from rfl)]
  simp only [c_curvettop_awake, zeroCv, zeroPt]
  have h : Cid 13 := .c13
  have c := cv_ok h
  have c1 := r_cGet h
  have hG : OnP 13 (crG 13) := ⟨c.X, c.Y, fun e => by simp [crG] at e, fun _ => Nat.eq_of_beq_eq_true aw_on⟩
  have c2 := r_affMul h c.N hG (repB_ok aw_mul)
  have c3 := r_One (x := 1) (by omega)
  obtain ⟨H', c4, hH⟩ := r_baseMul (nilTr []) (l := []) (H := []) (d := 1) h (by have := aw_one; rw [Nat.ble_eq] at this; omega) (by decide) rfl ⟨q13, fun i hi => repB_ok (List.all_eq_true.1 aw_tab i (List.mem_range.2 hi)), repB_ok aw_win⟩
  subst hH
  have c5 := r_Num 0
  have e13 : ((13 : Nat) : Int) = 13 := rfl
  rw [e13] at c1 c2 c4
  have lt := c.lt
  have lX := c.X
  have lY := c.Y
  have eq := eq19 (x := crX 13) (y := crY 13) (u := crX 13) (v := crY 13) (b := false) (c := false) (by omega) (by omega) (by omega) (by omega)
  rw [decide_eq_true rfl, decide_eq_true rfl, show (false == false) = true from rfl] at eq
  have nc := cvh_np8 13
  simp only [crG] at *
  simp only [pt, P2.inf] at *
  simp only [cvh, cvhL] at *
  generalize crBits 13 = z1 at *
  generalize crSize 13 = z2 at *
  generalize crLeg 13 = z3 at *
  generalize crN 13 = z5 at *
  generalize crX 13 = z6 at *
  generalize crY 13 = z7 at *
  generalize crA 13 = z8 at *
  generalize crB 13 = z9 at *
  generalize crP 13 = z10 at *
  have n0 := fun a b c => pt_np a b c 6
  have d0 : decide ((0 : Int) = 0) = true := rfl
  simp only [EE,EX,Nat.reduceLeDiff,Nat.reduceEqDiff,Int.reduceEq,reduceCtorEq,Nat.reduceAdd,Nat.reduceMul,if_true,if_false,decide_true,decide_false, c1, c2, c3, c4, c5, eq, nc, n0, d0, natv_noHp, pt_len, pt_ok, pt_sa, pt_a, pt_b, ch_ok, ch_len, ch_sa, ch_n, ch_g, ch_gb, Bool.not_false]

end Mir

namespace Mir

/-- A point's bytes. -/
def enc (k : Nat) (q : P2) (short : Bool) : List Nat := bif short then (2 + q.y % 2) :: bs (crSize k) q.x else 4 :: (bs (crSize k) q.x ++ bs (crSize k) q.y)

theorem OnP.y_ne {k : Nat} {q : P2} (h : Cid k) (hr : rightN (crP k) (crA k) (crB k) q.x ≠ 0) (hq : OnP k q) (hi : q.i = false) : q.y ≠ 0 := fun e => by
  have := hq.e hi
  rw [e, Nat.zero_mul, Nat.zero_mod] at this
  exact hr this.symm

end Mir

namespace Mir

section
variable {tr : V} {P : List Nat → Heap → Prop} (ht : TrOk tr P) {k d : Nat} {p r : P2} (h : Cid k) (h0 : d ≠ 0) (hd : d < crN k) {l : List Nat} {H : Heap} (hl : l.length + crW k * 16 ≤ 100000) (hP : P l H)
include ht h h0 hd hl hP

end
end Mir

namespace Mir

/-- The third point of a line through two points, turned over. -/
def slN (p l : Nat) (s t : P2) : P2 :=
  let x := ((l * l % p + p - s.x) % p + p - t.x) % p
  ⟨x, (l * ((s.x + p - x) % p) % p + p - s.y) % p, false⟩

/-- A slope by an inverse. -/
def Inv (p a j : Nat) : Prop := j < p ∧ j * a % p = 1
def xx3 (p a x : Nat) : Nat := (((x * x % p + x * x % p) % p + x * x % p) % p + a) % p

/-- What two points' sum is. -/
inductive GAdd (k : Nat) (s t : P2) : P2 → Prop
  | far (j : Nat) : s.x ≠ t.x → Inv (crP k) ((t.x + crP k - s.x) % crP k) j → GAdd k s t (slN (crP k) ((t.y + crP k - s.y) % crP k * j % crP k) s t)
  | off : s.x = t.x → s.y ≠ t.y → GAdd k s t .inf
  | dbl (j : Nat) : s.x = t.x → s.y = t.y → Inv (crP k) ((s.y + s.y) % crP k) j → GAdd k s t (slN (crP k) (xx3 (crP k) (crA k) s.x * j % crP k) s t)

end Mir

