/- One module of several texts (TopO TopP). Conditions: none. -/
import Derived.Test.YtmfbmdbabebhmaaAllT
import Derived.Test.YtmfbmdbabebhmaaAllF
set_option linter.unusedVariables false
set_option linter.unusedSectionVars false
set_option linter.unusedSimpArgs false
set_option exponentiation.threshold 5000
set_option maxRecDepth 20000
namespace Mir

def evI : List Nat → List Int
  | [] => []
  | i :: l => 2 :: (i : Int) :: evI l
theorem evI_app (i : Nat) : ∀ l, evI (l ++ [i]) = evI l ++ [2, (i : Int)]
  | [] => rfl
  | j :: l => by rw [List.cons_append, evI, evI, evI_app i l]; rfl
theorem evI_len : ∀ l, (evI l).length = l.length * 2
  | [] => rfl
  | j :: l => by rw [evI, List.length_cons, List.length_cons, List.length_cons, evI_len l]; omega
def evL (l : List Nat) : List V := is (evI l)
theorem evL_len (l : List Nat) : (evL l).length = l.length * 2 := by rw [evL, is_len, evI_len]
theorem evL_app (l : List Nat) (i : Nat) : evL l ++ [.i 2, .i (i : Int)] = evL (l ++ [i]) := by
  rw [evL, evL, evI_app, is, is, List.map_append]; rfl

theorem rowLt {H : Heap} {k : Nat} {l : List V} (h : row H k = some l) : k < H.length := by
  rcases Nat.lt_or_ge k H.length with h' | h'
  · exact h'
  · unfold row at h; rw [List.getElem?_eq_none h'] at h; simp at h
theorem row_app {H : Heap} {k : Nat} {l : List V} (h : row H k = some l) (x : List (Option (List V))) : row (H ++ x) k = some l := by
  have hk := rowLt h
  unfold row at h ⊢
  rw [List.getElem?_append_left hk]; exact h
theorem row_new (H : Heap) (l : List V) : row (H ++ [some l]) H.length = some l := by simp [row]
theorem row_ne {H : Heap} {k j : Nat} (x : Option (List V)) (h : k ≠ j) : row (H.set k x) j = row H j := by
  unfold row; rw [List.getElem?_set_ne h]
theorem row_set_eq {H : Heap} {k : Nat} (l : List V) (h : k < H.length) : row (H.set k (some l)) k = some l := by
  unfold row; rw [List.getElem?_set_self h]
theorem lowV_mono {a b : Nat} (h : a ≤ b) {v : V} (hv : lowV a v = true) : lowV b v = true := by
  cases v <;> simp only [lowV] at hv ⊢ <;> try exact hv
  · exact decide_eq_true (Nat.lt_of_lt_of_le (of_decide_eq_true hv) h)
  · exact decide_eq_true (Nat.lt_of_lt_of_le (of_decide_eq_true hv) h)
theorem lowR_mono {a b : Nat} (h : a ≤ b) {r : Option (List V)} (hr : lowR a r = true) : lowR b r = true := by
  cases r with
  | none => rfl
  | some l =>
    simp only [lowR, List.all_eq_true] at hr ⊢
    exact fun v hv => lowV_mono h (hr v hv)
def Low (H : Heap) : Prop := ∀ r ∈ H, lowR H.length r = true
theorem Low.all {H : Heap} (h : Low H) : H.all (lowR H.length) = true := List.all_eq_true.2 h
theorem evL_low (l : List Nat) (b : Nat) : (evL l).all (lowV b) = true := is_low b _

/-- A trace's slice of events. -/
def SlOk (H : Heap) (s : V) (l : List Nat) : Prop := (l = [] ∧ s = .nils) ∨ ∃ k, 2 ≤ k ∧ s = .hs 2 k 0 l.length l.length ∧ row H k = some (evL l)
/-- Two traces lie in memory. -/
structure Tr2 (a b : List Nat) (H : Heap) : Prop where
  len : 2 ≤ H.length
  low : Low H
  ex : ∃ s t, row H 0 = some [s] ∧ row H 1 = some [t] ∧ SlOk H s a ∧ SlOk H t b ∧ ∀ k n m j n' m', s = .hs 2 k 0 n m → t = .hs 2 j 0 n' m' → k ≠ j

/-- One event more. -/
theorem ev_app {H : Heap} {s : V} {l : List Nat} {i : Nat} (hs : SlOk H s l) (hl : l.length < 100000) :
    ∃ H1, appO H 2 16 (some [V.i 2, V.i (i : Int)]) (some 1) s = some (.hs 2 H.length 0 (l.length + 1) (l.length + 1), H1) ∧
      (H1 = H ++ [some (evL (l ++ [i]))] ∨ ∃ k n m, s = .hs 2 k 0 n m ∧ k < H.length ∧ 2 ≤ k ∧ H1 = H.set k none ++ [some (evL (l ++ [i]))]) := by
  have okA1 : okA 2 16 (l.length + 1) 1 [V.i 2, V.i (i : Int)] = true := by
    simp [okA, roomOk, cellV]; omega
  rcases hs with ⟨rfl, rfl⟩ | ⟨k, h2, rfl, hr⟩
  · refine ⟨H ++ [some (evL ([] ++ [i]))], ?_, .inl rfl⟩
    have : okA 2 16 1 1 [V.i 2, V.i (i : Int)] = true := okA1
    rw [Gi, this, show decide (1 = 0) = false from rfl, Gk]
    rfl
  · refine ⟨H.set k none ++ [some (evL (l ++ [i]))], ?_, .inr ⟨k, _, _, rfl, rowLt hr, h2, rfl⟩⟩
    rw [Gl, hr, Gm, okA1, show decide (0 + l.length * 2 ≤ (evL l).length) = true by rw [evL_len]; exact decide_eq_true (by omega), Gn, List.drop_zero, List.take_of_length_le (by rw [evL_len]; omega), evL_app]

theorem ev_step {H : Heap} {s t : V} {l : List Nat} {i j : Nat} (hj : j < 2) (hH : 2 ≤ H.length) (hlow : Low H) (hr : row H j = some [s]) (ho : row H (1 - j) = some [t]) (hs : SlOk H s l) (hl : l.length < 100000)
    {l' : List Nat} (ht : SlOk H t l') (hd : ∀ k n m j n' m', s = .hs 2 k 0 n m → t = .hs 2 j 0 n' m' → k ≠ j) :
    ∃ H', Run T f_trace_Trace_Index [.hp j 0, .i (i : Int)] H = some (.i 0, H') ∧ 2 ≤ H'.length ∧ Low H' ∧
      ∃ s', row H' j = some [s'] ∧ row H' (1 - j) = some [t] ∧ SlOk H' s' (l ++ [i]) ∧ SlOk H' t l' ∧ ∀ k n m j n' m', s' = .hs 2 k 0 n m → t = .hs 2 j 0 n' m' → k ≠ j := by
  obtain ⟨H1, ap, hH1⟩ := ev_app (i := i) hs hl
  have len1 : H1.length = H.length + 1 := by
    rcases hH1 with rfl | ⟨k, n, m, _, _, _, rfl⟩ <;> simp
  have keep : ∀ q, q < 2 → row H1 q = row H q := by
    intro q hq
    rcases hH1 with rfl | ⟨k, n, m, _, _, h2, rfl⟩
    · unfold row; rw [List.getElem?_append_left (by omega)]
    · unfold row; rw [List.getElem?_append_left (by simp; omega), List.getElem?_set_ne (by omega)]
  have r1 : row H1 j = some [s] := (keep j hj).trans hr
  have o1 : row H1 (1 - j) = some [t] := (keep (1 - j) (by omega)).trans ho
  have new1 : row H1 H.length = some (evL (l ++ [i])) := by
    rcases hH1 with rfl | ⟨k, n, m, _, hk, _, rfl⟩
    · exact row_new H _
    · have := row_new (H.set k none) (evL (l ++ [i]))
      rw [List.length_set] at this
      exact this
  have okt : ∀ l' : List Nat, SlOk H t l' → SlOk H1 t l' := by
    rintro l' (h | ⟨q, hq, e, hrow⟩)
    · exact .inl h
    · right
      refine ⟨q, hq, e, ?_⟩
      rcases hH1 with rfl | ⟨k, n, m, es, _, _, rfl⟩
      · exact row_app hrow _
      · refine row_app ?_ _
        rw [row_ne _ (hd k n m q _ _ es e)]
        exact hrow
  have low1 : ∀ r ∈ H1, lowR (H.length + 1) r = true := by
    intro r hr'
    rcases hH1 with rfl | ⟨k, n, m, _, _, _, rfl⟩
    · rcases List.mem_append.1 hr' with h | h
      · exact lowR_mono (by omega) (hlow r h)
      · rw [List.mem_singleton.1 h]; exact evL_low _ _
    · rcases List.mem_append.1 hr' with h | h
      · rcases List.mem_or_eq_of_mem_set h with h | h
        · exact lowR_mono (by omega) (hlow r h)
        · rw [h]; rfl
      · rw [List.mem_singleton.1 h]; exact evL_low _ _
  have hjl : j < H1.length := by omega
  have s2 : setRow H1 j [.hs 2 H.length 0 (l.length + 1) (l.length + 1)] = H1.set j (some [.hs 2 H.length 0 (l.length + 1) (l.length + 1)]) := rfl
  refine ⟨H1.set j (some [.hs 2 H.length 0 (l.length + 1) (l.length + 1)]), ?_, by simp; omega, ?_, .hs 2 H.length 0 (l.length + 1) (l.length + 1), ?_, ?_, ?_, ?_, ?_⟩
  · rw [Run_at T _ (show T f_trace_Trace_Index = some m_trace_Trace_Index from rfl)]
    simp only [c_trace_Trace_Index]
    have q0 : ∀ v : V, part [v] 0 none = some v := fun _ => rfl
    have nq : eqV .ptr (.hp j 0) .nilp = some false := rfl
    have sl : ∀ v : V, lenV (.vs 1 [v]) = some 1 := fun _ => rfl
    have z2 : splice [V.i 0, V.i 0] 0 [V.i 2, V.i (i : Int)] = [V.i 2, V.i (i : Int)] := rfl
    have z1 : ∀ z : Int, ([V.i 0, V.i 0].set 0 (.i z)).set 1 (.i (i : Int)) = [V.i z, V.i (i : Int)] := fun _ => rfl
    have z3 : ∀ a b : V, [a, b].set 0 (.i 2) = [.i 2, b] := fun _ _ => rfl
    have z4 : ∀ a b c : V, [a, b].set 1 c = [a, c] := fun _ _ _ => rfl
    have ok2 : okc 2 [V.i 2, V.i (i : Int)] 0 2 = true := rfl
    have es : evV s = s := by
      rcases hs with ⟨_, rfl⟩ | ⟨_, _, rfl, _⟩ <;> rfl
    have v3 : ∀ n : Nat, okc 1 [V.hs 2 n 0 (l.length + 1) (l.length + 1)] 0 1 = true := fun _ => rfl
    have v5 : ∀ a b : V, ([a] : List V).set 0 b = [b] := fun _ _ => rfl
    simp only [EE,EX,Nat.reduceLeDiff,Nat.reduceEqDiff,Int.reduceEq,reduceCtorEq,Nat.reduceAdd,Nat.reduceMul,if_true,if_false,decide_true,decide_false, hr, r1, ap, q0, nq, z2, z3, z4, ok2, es, v3, v5, s2]
  · intro r hr'
    rw [List.length_set, len1]
    rcases List.mem_or_eq_of_mem_set hr' with h | h
    · exact low1 r h
    · rw [h]
      simp [lowR, lowV]
  · exact row_set_eq _ hjl
  · rw [row_ne _ (by omega)]; exact o1
  · right
    refine ⟨H.length, hH, ?_, ?_⟩
    · rw [List.length_append]; rfl
    · rw [row_ne _ (by omega)]; exact new1
  · rcases okt l' ht with h | ⟨q, hq, e, hrow⟩
    · exact .inl h
    · exact .inr ⟨q, hq, e, by rw [row_ne _ (by omega)]; exact hrow⟩
  · intro k n m j' n' m' e1 e2
    simp only [V.hs.injEq] at e1
    obtain ⟨_, rfl, _⟩ := e1
    rcases ht with ⟨_, rfl⟩ | ⟨q, hq, e, hrow⟩
    · simp at e2
    · rw [e] at e2
      simp only [V.hs.injEq] at e2
      obtain ⟨_, rfl, _⟩ := e2
      have := rowLt hrow
      omega

theorem tr0 (b : List Nat) : TrOk (.hp 0 0) (fun l H => Tr2 l b H) := ⟨rfl, rfl, fun l H i hl hi h => by
  obtain ⟨h1, h2, s, t, h3, h4, h5, h6, h7⟩ := h
  obtain ⟨H', c, g1, g2, s', g3, g4, g5, g6, g7⟩ := ev_step (i := i) (j := 0) (by omega) h1 h2 h3 h4 h5 hl h6 h7
  exact ⟨H', 0, c, g1, g2, s', t, g3, g4, g5, g6, g7⟩⟩
theorem tr1 (a : List Nat) : TrOk (.hp 1 0) (fun l H => Tr2 a l H) := ⟨rfl, rfl, fun l H i hl hi h => by
  obtain ⟨h1, h2, s, t, h3, h4, h5, h6, h7⟩ := h
  obtain ⟨H', c, g1, g2, s', g3, g4, g5, g6, g7⟩ := ev_step (i := i) (j := 1) (by omega) h1 h2 h4 h3 h6 hl h5 (fun k n m j n' m' e1 e2 => Ne.symm (h7 j n' m' k n m e2 e1))
  exact ⟨H', 0, c, g1, g2, s, s', g4, g3, g6, g5, fun k n m j n' m' e1 e2 => Ne.symm (g7 j n' m' k n m e2 e1)⟩⟩

end Mir

namespace Mir

theorem evL_part {l : List Nat} {i : Nat} (h : i < l.length) : part (evL l) (i * 2) (some 2) = some (.agg [.i 2, .i ((l[i] : Nat) : Int)]) := by
  induction l generalizing i with
  | nil => simp at h
  | cons a l ih =>
    have e : evL (a :: l) = V.i 2 :: V.i (a : Int) :: evL l := rfl
    cases i with
    | zero => rw [e]; simp [part]
    | succ i =>
      have h' : i < l.length := by simpa using h
      have := ih h'
      simp only [part, evL_len, List.length_cons] at this ⊢
      rw [if_pos (by omega)] at this ⊢
      rw [show (i + 1) * 2 = i * 2 + 1 + 1 by omega, e, List.drop_succ_cons, List.drop_succ_cons, this]
      simp

theorem r_Equal {l : List Nat} (hl : l.length < 100000) : Run T f_slices_Equal_api_Event_api_Event [.vs l.length (evL l), .vs l.length (evL l)] [] = some (.b true, []) := by
  rw [Run_at T _ (show T f_slices_Equal_api_Event_api_Event = some m_slices_Equal_api_Event_api_Event from rfl)]
  simp only [c_slices_Equal_api_Event_api_Event]
  have d1 : decide (l.length < 9223372036854775808) = true := decide_eq_true (by omega)
  have d2 : decide ((l.length : Int) = (l.length : Int)) = true := decide_eq_true rfl
  have kp := fun i (h : i < l.length) => evL_part h
  obtain ⟨L, hL⟩ : ∃ L, L = evL l := ⟨_, rfl⟩
  obtain ⟨n, hn⟩ : ∃ n, n = l.length := ⟨_, rfl⟩
  rw [← hL] at kp ⊢
  rw [← hn] at d1 d2 ⊢
  simp only [EE,EX,Nat.reduceLeDiff,Nat.reduceEqDiff,Int.reduceEq,reduceCtorEq,Nat.reduceAdd,Nat.reduceMul,if_true,if_false,decide_true,decide_false, d1, d2, Bool.not_true]
  rw [loop_use T (fun i => ⟨[(0, .vs n L), (1, .vs n L), (12, .i (n : Int)), (13, .i (i : Int))], []⟩) n (.exit 0, ⟨[], []⟩) ?h0 (by simp) ?hs ?hn]
  · simp only [EE,EX,Nat.reduceLeDiff,Nat.reduceEqDiff,Int.reduceEq,reduceCtorEq,Nat.reduceAdd,Nat.reduceMul,if_true,if_false,decide_true,decide_false]
  · rfl
  · intro i hi
    have k1 : decide ((i : Int) < (n : Int)) = true := by simp; omega
    have k2 : F (w64 ((i : Int) + 1)) ((i + 1 : Nat) : Int) := ⟨by unfold w64; omega⟩
    have k3 := ixOf_nat hi
    have k4 := kp i (by omega)
    have k5 : ∀ z : Int, eqV (.agg [.i, .i]) (.agg [.i 2, .i z]) (.agg [.i 2, .i z]) = some true := fun z => by simp [eqV, eqL, eqC]
    simp only [EE,EX,Nat.reduceLeDiff,Nat.reduceEqDiff,Int.reduceEq,reduceCtorEq,Nat.reduceAdd,Nat.reduceMul,if_true,if_false,decide_true,decide_false, k1, k2.eq, k3, k4, k5, Bool.not_true]
  · have k1 : decide ((n : Int) < (n : Int)) = false := decide_eq_false (by omega)
    simp only [EE,EX,Nat.reduceLeDiff,Nat.reduceEqDiff,Int.reduceEq,reduceCtorEq,Nat.reduceAdd,Nat.reduceMul,if_true,if_false,decide_true,decide_false, k1]

theorem r_Same {l : List Nat} (hl : l.length < 100000) : Run T f_trace_Same [.vs l.length (evL l), .vs l.length (evL l)] [] = some (.b true, []) := by
  rw [Run_at T _ (show T f_trace_Same = some m_trace_Same from rfl)]
  simp only [c_trace_Same]
  have c1 := r_Equal hl
  have n1 : noHp 8 (.vs l.length (evL l)) = true := GJ 6 _ _
  generalize evL l = L at *
  generalize l.length = n at *
  simp only [EE,EX,Nat.reduceLeDiff,Nat.reduceEqDiff,Int.reduceEq,reduceCtorEq,Nat.reduceAdd,Nat.reduceMul,if_true,if_false,decide_true,decide_false, c1, n1]

section
variable {H : Heap} (hlow : Low H) {l : List Nat} (hl : l.length < 100000)
include hlow hl

theorem r_Clone {k : Nat} (hr : row H k = some (evL l)) : Run T f_slices_Clone_api_Event_api_Event [.hs 2 k 0 l.length l.length] H = some (.vs l.length (evL l), H) := by
  rw [Run_at T _ (show T f_slices_Clone_api_Event_api_Event = some m_slices_Clone_api_Event_api_Event from rfl)]
  simp only [c_slices_Clone_api_Event_api_Event]
  have q : eqV .slice (.hs 2 k 0 l.length l.length) .nils = some false := rfl
  have f0 : fill [] (parts [(0, V.hs 2 k 0 l.length l.length), (0, V.hs 2 k 0 l.length l.length)] []) = some [] := rfl
  have sc : sliceCells (H ++ [some []]) (.hs 2 k 0 l.length l.length) = some (evL l) := by
    rw [Gz, row_app hr]
    simp only [scR]
    rw [if_pos (by rw [evL_len]; omega), List.drop_zero, List.take_of_length_le (by rw [evL_len]; omega)]
  obtain ⟨G, hG⟩ : ∃ G, G = (H ++ [some []]).set H.length none ++ [some (evL l)] := ⟨_, rfl⟩
  have ap : appO (H ++ [some []]) 2 16 (some (evL l)) (some l.length) (.hs 2 H.length 0 0 0) = some (.hs 2 (H.length + 1) 0 l.length l.length, G) := by
    have ok : okA 2 16 (0 + l.length) l.length (evL l) = true := by
      simp only [okA, evL_len]
      rw [show roomOk (0 + l.length) 16 = true by simp [roomOk]; omega, show (evL l).all cellV = true from is_cellV _]
      simp
    rw [Gl, row_new, Gm, ok, show decide (0 + 0 * 2 ≤ ([] : List V).length) = true from rfl, Gn, hG]
    simp
  have gt : G.take H.length = H := by
    rw [hG]
    apply List.ext_getElem
    · simp
    · intro i h1 h2
      simp only [List.getElem_take]
      rw [List.getElem_append_left (by simp; omega), List.getElem_set_ne (by omega), List.getElem_append_left h2]
  have gr : row G (H.length + 1) = some (evL l) := by
    have := row_new ((H ++ [some []]).set H.length none) (evL l)
    rw [List.length_set, List.length_append] at this
    rw [hG]; exact this
  have fz : fzV false G H.length 6 (.hs 2 (H.length + 1) 0 l.length l.length) = some (.vs l.length (evL l)) := by
    rw [YN, decide_eq_false (by omega)]
    simp only [hsB, gr, hsR]
    rw [if_pos (by rw [evL_len]; omega), List.drop_zero, List.take_of_length_le (by rw [evL_len]; omega), evL, mapO_is]
    rfl
  have lw := hlow.all
  simp only [EE,EX,Nat.reduceLeDiff,Nat.reduceEqDiff,Int.reduceEq,reduceCtorEq,Nat.reduceAdd,Nat.reduceMul,if_true,if_false,decide_true,decide_false, q, ap, sc, gt, lw, fz]

theorem r_Events {j : Nat} {s : V} (hr : row H j = some [s]) (hs : SlOk H s l) (h0 : l ≠ []) : Run T f_trace_Trace_Events [.hp j 0] H = some (.vs l.length (evL l), H) := by
  rw [Run_at T _ (show T f_trace_Trace_Events = some m_trace_Trace_Events from rfl)]
  simp only [c_trace_Trace_Events]
  obtain ⟨k, _, rfl, hk⟩ := hs.resolve_left (fun h => h0 h.1)
  have c1 := r_Clone hlow hl hk
  have q0 : ∀ v : V, part [v] 0 none = some v := fun _ => rfl
  have nq : eqV .ptr (.hp j 0) .nilp = some false := rfl
  have lw := hlow.all
  have tk : H.take H.length = H := List.take_length
  have fz : fzV false H H.length 6 (.vs l.length (evL l)) = some (.vs l.length (evL l)) := GP ..
  generalize evL l = L at *
  generalize l.length = n at *
  simp only [EE,EX,Nat.reduceLeDiff,Nat.reduceEqDiff,Int.reduceEq,reduceCtorEq,Nat.reduceAdd,Nat.reduceMul,if_true,if_false,decide_true,decide_false, hr, q0, nq, c1, lw, tk, fz]

theorem r_Len {j : Nat} {s : V} (hr : row H j = some [s]) (hs : SlOk H s l) (h0 : l ≠ []) : Run T f_trace_Trace_Len [.hp j 0] H = some (.i (l.length : Int), H) := by
  rw [Run_at T _ (show T f_trace_Trace_Len = some m_trace_Trace_Len from rfl)]
  simp only [c_trace_Trace_Len]
  obtain ⟨k, _, rfl, hk⟩ := hs.resolve_left (fun h => h0 h.1)
  have q0 : ∀ v : V, part [v] 0 none = some v := fun _ => rfl
  have nq : eqV .ptr (.hp j 0) .nilp = some false := rfl
  have lw := hlow.all
  have tk : H.take H.length = H := List.take_length
  have d1 : decide (l.length < 9223372036854775808) = true := decide_eq_true (by omega)
  generalize l.length = n at *
  simp only [EE,EX,Nat.reduceLeDiff,Nat.reduceEqDiff,Int.reduceEq,reduceCtorEq,Nat.reduceAdd,Nat.reduceMul,if_true,if_false,decide_true,decide_false, hr, q0, nq, lw, tk, d1]
end

theorem r_tNew {H : Heap} : Run T f_trace_New [] H = some (.hp H.length 0, H ++ [some [.nils]]) := by
  rw [Run_at T _ (show T f_trace_New = some m_trace_New from rfl)]
  simp only [c_trace_New]
  simp only [EE,EX,Nat.reduceLeDiff,Nat.reduceEqDiff,Int.reduceEq,reduceCtorEq,Nat.reduceAdd,Nat.reduceMul,if_true,if_false,decide_true,decide_false]

/- ## pick -/
def pkL : List Nat := [13, 14, 15, 2, 3, 6, 8, 13, 14, 15, 4, 9, 10, 5, 11, 12]
def pkN (z : Int) : Nat := pkL.getD ((z % 18446744073709551616).toNat % 16) 13
theorem pk_ok : ∀ m, m < 16 → 1 ≤ pkL.getD m 13 ∧ pkL.getD m 13 ≤ 15 := by decide
theorem pkN_cid (z : Int) : Cid (pkN z) := cid_of (pk_ok _ (Nat.mod_lt _ (by omega))).1 (pk_ok _ (Nat.mod_lt _ (by omega))).2
theorem pk_part : ∀ m, m < 16 → part [V.i 13, V.i 14, V.i 15, V.i 2, V.i 3, V.i 6, V.i 8, V.i 13, V.i 14, V.i 15, V.i 4, V.i 9, V.i 10, V.i 5, V.i 11, V.i 12] m none = some (.i ((pkL.getD m 13 : Nat) : Int)) := by
  intro m hm
  rcases (show m = 0 ∨ m = 1 ∨ m = 2 ∨ m = 3 ∨ m = 4 ∨ m = 5 ∨ m = 6 ∨ m = 7 ∨ m = 8 ∨ m = 9 ∨ m = 10 ∨ m = 11 ∨ m = 12 ∨ m = 13 ∨ m = 14 ∨ m = 15 by omega) with h | h | h | h | h | h | h | h | h | h | h | h | h | h | h | h <;> (subst h; rfl)
theorem r_pick {z : Int} : Run T f_curvettop_pick [.i z] [] = some (.i ((pkN z : Nat) : Int), []) := by
  rw [Run_at T _ (show T f_curvettop_pick = some m_curvettop_pick from rfl)]
  simp only [c_curvettop_pick]
  obtain ⟨m, hm⟩ : ∃ m, m = (z % 2 ^ 64).toNat % 16 := ⟨_, rfl⟩
  have hl : m < 16 := hm ▸ Nat.mod_lt _ (by omega)
  have e : pkN z = pkL.getD m 13 := by rw [hm]; rfl
  have g0 : decide ((16 : Nat) = 0) = false := rfl
  have ix : ixOf 16 (.u 64 m) = some m := by simp only [ixOf]; rw [if_pos hl]
  have kp := pk_part m hl
  rw [e]
  generalize pkL.getD m 13 = y at *
  simp only [EE,EX,Nat.reduceLeDiff,Nat.reduceEqDiff,Int.reduceEq,reduceCtorEq,Nat.reduceAdd,Nat.reduceMul,if_true,if_false,decide_true,decide_false, ← hm, g0, ix, kp, List.set_cons_succ, List.set_cons_zero, Nat.reduceLeDiff, Nat.reduceAdd]
end Mir

