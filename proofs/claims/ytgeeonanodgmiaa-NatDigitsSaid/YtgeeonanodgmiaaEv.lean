/- Rules for following the small language by hand, one equation a step: each side is plain, nothing is left to be unfolded. Conditions: none. -/
import Derived.Test.YtgeeonanodgmiaaDigs
set_option linter.unusedVariables false
set_option linter.unusedSimpArgs false
set_option exponentiation.threshold 5000
set_option maxRecDepth 20000
namespace Mir

section
variable (T : Nat → Option MFn) (r : List MO) (kp : List Nat) (e : Env) (h : Heap) (d : Option Nat)

/- ## Regions -/

noncomputable def rg (ops : List MO) : Option (Ex × St) := match execOps (Run T) ops ⟨e, h⟩ with
  | some st' => some (.norm, ⟨keepE kp st'.e, st'.h⟩)
  | none => none
noncomputable def rv (o : Option V) : Option (Ex × St) := match o with
  | some v => rg T kp (put d v e) h r
  | none => none
noncomputable def rh (o : Option (V × Heap)) : Option (Ex × St) := match o with
  | some (v, h') => rg T kp (put d v e) h' r
  | none => none
noncomputable def rl (s : Nat) (o : Option (List V)) : Option (Ex × St) := match o with
  | some l => rg T kp ((s, .loc l) :: e) h r
  | none => none

theorem Y_reg (ops : List MO) : Exec T (.reg ops kp) ⟨e, h⟩ = rg T kp e h ops := Eq.trans rfl rfl
theorem rg_nil : rg T kp e h [] = some (.norm, ⟨keepE kp e, h⟩) := Eq.trans rfl rfl
theorem rv_some (v : V) : rv T r kp e h d (some v) = rg T kp (put d v e) h r := Eq.trans rfl rfl
theorem rh_some (v : V) (h' : Heap) : rh T r kp e d (some (v, h')) = rg T kp (put d v e) h' r := Eq.trans rfl rfl
theorem rl_some (s : Nat) (l : List V) : rl T r kp e h s (some l) = rg T kp ((s, .loc l) :: e) h r := Eq.trans rfl rfl
theorem put_s (s : Nat) (v : V) : put (some s) v e = (s, v) :: e := Eq.trans rfl rfl
theorem put_n (v : V) : put none v e = e := Eq.trans rfl rfl

theorem rg_step (o : MO) : rg T kp e h (o :: r) = match stepO (Run T) o ⟨e, h⟩ with
    | some st => rg T kp st.e st.h r
    | none => none := by
  simp only [rg, execOps]
  cases stepO (Run T) o ⟨e, h⟩ <;> rfl

theorem rg_val {op : MOp} {ov : Option V} (h1 : doO (Run T) ⟨d, none, op⟩ ⟨e, h⟩ = match evalO (Run T) op e h with | some (v, h') => some ⟨put d v e, h'⟩ | none => none) (h2 : evalO (Run T) op e h = ov.map fun v => (v, h)) :
    rg T kp e h (⟨d, none, op⟩ :: r) = rv T r kp e h d ov := by
  rw [rg_step]
  show (match doO (Run T) ⟨d, none, op⟩ ⟨e, h⟩ with | some st => rg T kp st.e st.h r | none => none) = _
  rw [h1, h2]
  cases ov <;> rfl

theorem rg_hp {op : MOp} {oh : Option (V × Heap)} (h1 : doO (Run T) ⟨d, none, op⟩ ⟨e, h⟩ = match evalO (Run T) op e h with | some (v, h') => some ⟨put d v e, h'⟩ | none => none) (h2 : evalO (Run T) op e h = oh) :
    rg T kp e h (⟨d, none, op⟩ :: r) = rh T r kp e d oh := by
  rw [rg_step]
  show (match doO (Run T) ⟨d, none, op⟩ ⟨e, h⟩ with | some st => rg T kp st.e st.h r | none => none) = _
  rw [h1, h2]
  cases oh <;> rfl

/-- A guarded operation. -/
noncomputable def gd (op : MOp) (w : Bool) (v : V) : Option (Ex × St) := match v with
  | .b x => if x = w then rg T kp e h (⟨d, none, op⟩ :: r) else rg T kp (put d (.tup []) e) h r
  | .tup [] => rg T kp (put d (.tup []) e) h r
  | _ => none
theorem S_gd (op : MOp) (s : Nat) (w : Bool) : rg T kp e h (⟨d, some (s, w), op⟩ :: r) = gd T r kp e h d op w (get e s) := by
  have key : rg T kp e h (⟨d, none, op⟩ :: r) = match doO (Run T) ⟨d, some (s, w), op⟩ ⟨e, h⟩ with
      | some st => rg T kp st.e st.h r
      | none => none := by
    rw [rg_step]
    have : stepO (Run T) ⟨d, none, op⟩ ⟨e, h⟩ = doO (Run T) ⟨d, some (s, w), op⟩ ⟨e, h⟩ := by
      simp only [stepO, doO]
    rw [this]
  rw [rg_step]
  simp only [stepO, gd, key]
  cases hg : get e s with
  | b x => by_cases hx : x = w <;> simp [hx]
  | tup l => cases l <;> simp
  | _ => simp
theorem gd_tt (op : MOp) : gd T r kp e h d op true (.b true) = rg T kp e h (⟨d, none, op⟩ :: r) := Eq.trans rfl rfl
theorem gd_ff (op : MOp) : gd T r kp e h d op false (.b false) = rg T kp e h (⟨d, none, op⟩ :: r) := Eq.trans rfl rfl
theorem gd_tf (op : MOp) : gd T r kp e h d op true (.b false) = rg T kp (put d (.tup []) e) h r := Eq.trans rfl rfl
theorem gd_ft (op : MOp) : gd T r kp e h d op false (.b true) = rg T kp (put d (.tup []) e) h r := Eq.trans rfl rfl
theorem gd_n (op : MOp) (w : Bool) : gd T r kp e h d op w (.tup []) = rg T kp (put d (.tup []) e) h r := Eq.trans rfl rfl

/- ## Slots -/

theorem g_c (t : Nat) (v : V) (s : Nat) : get ((t, v) :: e) s = if t = s then v else get e s := gc t v e s

def evV : V → V
  | .loc _ => .undef
  | v => v
def eaV (s : Nat) : V → V
  | .loc _ => .lp s 0
  | v => v
theorem ev_t (s : Nat) : ev e (.t s) = evV (get e s) := by
  simp only [ev]; cases get e s <;> rfl
theorem ev_c (v : V) : ev e (.c v) = v := Eq.trans rfl rfl
theorem ea_t (s : Nat) : ea e (.t s) = eaV s (get e s) := by
  simp only [ea]; cases get e s <;> rfl
theorem ea_c (v : V) : ea e (.c v) = v := Eq.trans rfl rfl

theorem kp_nil : keepE [] e = [] := Eq.trans rfl rfl
theorem kp_cons (s : Nat) (ks : List Nat) : keepE (s :: ks) e = (s, san (get e s)) :: keepE ks e := Eq.trans rfl rfl
theorem evs_nil : evAll e [] = [] := Eq.trans rfl rfl
theorem evs_cons (x : Opd) (xs : List Opd) : evAll e (x :: xs) = ev e x :: evAll e xs := Eq.trans rfl rfl
theorem pt_nil : parts e [] = [] := Eq.trans rfl rfl
theorem pt_cons (a b : Nat) (x : Opd) (xs : List (Nat × Nat × Opd)) : parts e ((a, b, x) :: xs) = (a, b, ev e x) :: parts e xs := Eq.trans rfl rfl
theorem zp_nil (n : Nat) : zipE n [] = [] := Eq.trans rfl rfl
theorem zp_cons (n : Nat) (v : V) (l : List V) : zipE n (v :: l) = (n, v) :: zipE (n + 1) l := Eq.trans rfl rfl

end

section
variable (n w o : Nat) (z : Int) (x : Bool) (l : List V) (s : List Nat) (k : Nat)
variable (m : Nat) (l2 : List V)
theorem ev_i : evV (.i z : V) = .i z := Eq.trans rfl rfl
theorem ea_i (q : Nat) : eaV q (.i z : V) = .i z := Eq.trans rfl rfl
theorem san_i : san (.i z : V) = .i z := Eq.trans rfl rfl
theorem cells_i : cells (.i z : V) = [.i z] := Eq.trans rfl rfl
theorem cv_i : cellV (.i z : V) = true := Eq.trans rfl rfl
theorem ev_u : evV (.u w n : V) = .u w n := Eq.trans rfl rfl
theorem ea_u (q : Nat) : eaV q (.u w n : V) = .u w n := Eq.trans rfl rfl
theorem san_u : san (.u w n : V) = .u w n := Eq.trans rfl rfl
theorem cells_u : cells (.u w n : V) = [.u w n] := Eq.trans rfl rfl
theorem cv_u : cellV (.u w n : V) = true := Eq.trans rfl rfl
theorem ev_b : evV (.b x : V) = .b x := Eq.trans rfl rfl
theorem ea_b (q : Nat) : eaV q (.b x : V) = .b x := Eq.trans rfl rfl
theorem san_b : san (.b x : V) = .b x := Eq.trans rfl rfl
theorem cells_b : cells (.b x : V) = [.b x] := Eq.trans rfl rfl
theorem cv_b : cellV (.b x : V) = true := Eq.trans rfl rfl
theorem ev_s : evV (.s s : V) = .s s := Eq.trans rfl rfl
theorem ea_s (q : Nat) : eaV q (.s s : V) = .s s := Eq.trans rfl rfl
theorem san_s : san (.s s : V) = .s s := Eq.trans rfl rfl
theorem cells_s : cells (.s s : V) = [.s s] := Eq.trans rfl rfl
theorem cv_s : cellV (.s s : V) = true := Eq.trans rfl rfl
theorem ev_agg : evV (.agg l : V) = .agg l := Eq.trans rfl rfl
theorem ea_agg (q : Nat) : eaV q (.agg l : V) = .agg l := Eq.trans rfl rfl
theorem san_agg : san (.agg l : V) = .agg l := Eq.trans rfl rfl
theorem cells_agg : cells (.agg l : V) = l := Eq.trans rfl rfl
theorem ev_tup : evV (.tup l : V) = .tup l := Eq.trans rfl rfl
theorem ea_tup (q : Nat) : eaV q (.tup l : V) = .tup l := Eq.trans rfl rfl
theorem san_tup : san (.tup l : V) = .tup l := Eq.trans rfl rfl
theorem cells_tup : cells (.tup l : V) = [.tup l] := Eq.trans rfl rfl
theorem ev_nilp : evV (.nilp : V) = .nilp := Eq.trans rfl rfl
theorem ea_nilp (q : Nat) : eaV q (.nilp : V) = .nilp := Eq.trans rfl rfl
theorem san_nilp : san (.nilp : V) = .nilp := Eq.trans rfl rfl
theorem cells_nilp : cells (.nilp : V) = [.nilp] := Eq.trans rfl rfl
theorem cv_nilp : cellV (.nilp : V) = true := Eq.trans rfl rfl
theorem ev_vr : evV (.vr l o : V) = .vr l o := Eq.trans rfl rfl
theorem ea_vr (q : Nat) : eaV q (.vr l o : V) = .vr l o := Eq.trans rfl rfl
theorem san_vr : san (.vr l o : V) = .vr l o := Eq.trans rfl rfl
theorem cells_vr : cells (.vr l o : V) = [.vr l o] := Eq.trans rfl rfl
theorem cv_vr : cellV (.vr l o : V) = true := Eq.trans rfl rfl
theorem ev_hp : evV (.hp k o : V) = .hp k o := Eq.trans rfl rfl
theorem ea_hp (q : Nat) : eaV q (.hp k o : V) = .hp k o := Eq.trans rfl rfl
theorem san_hp : san (.hp k o : V) = .hp k o := Eq.trans rfl rfl
theorem cells_hp : cells (.hp k o : V) = [.hp k o] := Eq.trans rfl rfl
theorem cv_hp : cellV (.hp k o : V) = true := Eq.trans rfl rfl
theorem ev_nils : evV (.nils : V) = .nils := Eq.trans rfl rfl
theorem ea_nils (q : Nat) : eaV q (.nils : V) = .nils := Eq.trans rfl rfl
theorem san_nils : san (.nils : V) = .nils := Eq.trans rfl rfl
theorem cells_nils : cells (.nils : V) = [.nils] := Eq.trans rfl rfl
theorem cv_nils : cellV (.nils : V) = true := Eq.trans rfl rfl
theorem ev_vs : evV (.vs n l : V) = .vs n l := Eq.trans rfl rfl
theorem ea_vs (q : Nat) : eaV q (.vs n l : V) = .vs n l := Eq.trans rfl rfl
theorem san_vs : san (.vs n l : V) = .vs n l := Eq.trans rfl rfl
theorem cells_vs : cells (.vs n l : V) = [.vs n l] := Eq.trans rfl rfl
theorem cv_vs : cellV (.vs n l : V) = true := Eq.trans rfl rfl
theorem ev_hs : evV (.hs n k o w m : V) = .hs n k o w m := Eq.trans rfl rfl
theorem ea_hs (q : Nat) : eaV q (.hs n k o w m : V) = .hs n k o w m := Eq.trans rfl rfl
theorem san_hs : san (.hs n k o w m : V) = .hs n k o w m := Eq.trans rfl rfl
theorem cells_hs : cells (.hs n k o w m : V) = [.hs n k o w m] := Eq.trans rfl rfl
theorem cv_hs : cellV (.hs n k o w m : V) = true := Eq.trans rfl rfl
theorem ev_fn : evV (.fn n l l2 : V) = .fn n l l2 := Eq.trans rfl rfl
theorem ea_fn (q : Nat) : eaV q (.fn n l l2 : V) = .fn n l l2 := Eq.trans rfl rfl
theorem san_fn : san (.fn n l l2 : V) = .fn n l l2 := Eq.trans rfl rfl
theorem cells_fn : cells (.fn n l l2 : V) = [.fn n l l2] := Eq.trans rfl rfl
theorem cv_fn : cellV (.fn n l l2 : V) = true := Eq.trans rfl rfl
theorem ev_lp : evV (.lp k o : V) = .lp k o := Eq.trans rfl rfl
theorem ea_lp (q : Nat) : eaV q (.lp k o : V) = .lp k o := Eq.trans rfl rfl
theorem san_lp : san (.lp k o : V) = .undef := Eq.trans rfl rfl
theorem cells_lp : cells (.lp k o : V) = [.lp k o] := Eq.trans rfl rfl
theorem ev_ls : evV (.ls n k o w m : V) = .ls n k o w m := Eq.trans rfl rfl
theorem ea_ls (q : Nat) : eaV q (.ls n k o w m : V) = .ls n k o w m := Eq.trans rfl rfl
theorem san_ls : san (.ls n k o w m : V) = .undef := Eq.trans rfl rfl
theorem cells_ls : cells (.ls n k o w m : V) = [.ls n k o w m] := Eq.trans rfl rfl
theorem ev_undef : evV (.undef : V) = .undef := Eq.trans rfl rfl
theorem ea_undef (q : Nat) : eaV q (.undef : V) = .undef := Eq.trans rfl rfl
theorem san_undef : san (.undef : V) = .undef := Eq.trans rfl rfl
theorem cells_undef : cells (.undef : V) = [.undef] := Eq.trans rfl rfl
theorem ev_loc : evV (.loc l) = .undef := Eq.trans rfl rfl
theorem ea_loc (q : Nat) : eaV q (.loc l) = .lp q 0 := Eq.trans rfl rfl
theorem san_loc : san (.loc l) = .loc l := Eq.trans rfl rfl

end

/- ## Statements -/

section
variable (T : Nat → Option MFn) (e : Env) (h : Heap)

noncomputable def sq (x : Option (Ex × St)) (b : Stm) : Option (Ex × St) := match x with
  | some (.norm, st') => Exec T b st'
  | r => r
noncomputable def cd (v : V) (a b : Stm) : Option (Ex × St) := match v with
  | .b x => if x then Exec T a ⟨e, h⟩ else Exec T b ⟨e, h⟩
  | _ => none
def bk (id : Nat) (x : Option (Ex × St)) : Option (Ex × St) := match x with
  | some (.exit j, st') => if j = id then some (.norm, st') else some (.exit j, st')
  | r => r

theorem Y_seq (a b : Stm) (st : St) : Exec T (.seq a b) st = sq T (Exec T a st) b := by
  show (match Exec T a st with | some (.norm, st') => Exec T b st' | r => r) = _
  rfl
theorem sq_n (st : St) (b : Stm) : sq T (some (.norm, st)) b = Exec T b st := Eq.trans rfl rfl
theorem sq_e (i : Nat) (st : St) (b : Stm) : sq T (some (.exit i, st)) b = some (.exit i, st) := Eq.trans rfl rfl
theorem sq_r (st : St) (b : Stm) : sq T (some (.ret, st)) b = some (.ret, st) := Eq.trans rfl rfl
theorem Y_cond (c : Opd) (a b : Stm) : Exec T (.cond c a b) ⟨e, h⟩ = cd T e h (ev e c) a b := by
  show (match ev e c with | .b x => if x then Exec T a ⟨e, h⟩ else Exec T b ⟨e, h⟩ | _ => none) = _
  rfl
theorem cd_t (a b : Stm) : cd T e h (.b true) a b = Exec T a ⟨e, h⟩ := Eq.trans rfl rfl
theorem cd_f (a b : Stm) : cd T e h (.b false) a b = Exec T b ⟨e, h⟩ := Eq.trans rfl rfl
theorem Y_block (id : Nat) (a : Stm) (st : St) : Exec T (.block id a) st = bk id (Exec T a st) := by
  show (match Exec T a st with | some (Ex.exit j, st') => if j = id then some (Ex.norm, st') else some (Ex.exit j, st') | r => r) = _
  rfl
theorem bk_n (id : Nat) (st : St) : bk id (some (.norm, st)) = some (.norm, st) := Eq.trans rfl rfl
theorem bk_e (id : Nat) (st : St) : bk id (some (.exit id, st)) = some (.norm, st) := by simp [bk]
theorem bk_x (id j : Nat) (st : St) (hj : (j == id) = false) : bk id (some (.exit j, st)) = some (.exit j, st) := by
  have : j ≠ id := by simpa using hj
  simp [bk, this]
theorem bk_r (id : Nat) (st : St) : bk id (some (.ret, st)) = some (.ret, st) := Eq.trans rfl rfl
theorem Y_loop (kp : List Nat) (a : Stm) : Exec T (.loop kp a) ⟨e, h⟩ = Loop T a ⟨keepE kp e, h⟩ := Eq.trans rfl rfl
theorem Y_exit (id : Nat) (kp : List Nat) : Exec T (.exit id kp) ⟨e, h⟩ = some (.exit id, ⟨keepE kp e, h⟩) := Eq.trans rfl rfl
theorem Y_ret (st : St) : Exec T .ret st = some (.ret, st) := Eq.trans rfl rfl

/- ## Results -/

def fv (mode base : Nat) (h : Heap) (o : Option V) : Option (V × Heap) := match o with
  | some v => retV mode base h v
  | none => none
def fin (res : List Res) (mode base : Nat) (x : Option (Ex × St)) : Option (V × Heap) := match x with
  | some (.exit _, _) => none
  | some (_, st) => fv mode base st.h (resV st.e res)
  | none => none
theorem Run_at {c : Stm} {res : List Res} {mode f : Nat} (hT : T f = some ⟨c, res, mode⟩) (args : List V) : Run T f args h = fin res mode h.length (Exec T c ⟨zipE 0 args, h⟩) := by
  rw [Run_eq, hT]
  show finish ⟨c, res, mode⟩ h.length (Exec T c ⟨zipE 0 args, h⟩) = _
  cases Exec T c ⟨zipE 0 args, h⟩ with
  | none => rfl
  | some p => obtain ⟨ex, st⟩ := p; cases ex <;> rfl
theorem fin_r (res : List Res) (mode base : Nat) : fin res mode base (some (.ret, ⟨e, h⟩)) = fv mode base h (resV e res) := Eq.trans rfl rfl
theorem fin_n (res : List Res) (mode base : Nat) : fin res mode base (some (.norm, ⟨e, h⟩)) = fv mode base h (resV e res) := Eq.trans rfl rfl

def cellR (v : V) (n : Option Nat) : Option V := match v with
  | .loc l => part l 0 n
  | _ => none
theorem cellR_l (l : List V) (n : Option Nat) : cellR (.loc l) n = part l 0 n := Eq.trans rfl rfl
theorem ro_t (s : Nat) : resOne e (.tmp s) = some (evV (get e s)) := by
  show some (ev e (.t s)) = _
  rw [ev_t]
theorem ro_c (s : Nat) (n : Option Nat) : resOne e (.cell s n) = cellR (get e s) n := by
  simp only [resOne, cellR]; cases get e s <;> rfl
def rcons (x : Option V) (xs : Option (List V)) : Option (List V) := match x, xs with
  | some v, some vs => some (v :: vs)
  | _, _ => none
theorem rcons_s (v : V) (vs : List V) : rcons (some v) (some vs) = some (v :: vs) := Eq.trans rfl rfl
theorem rl_nil : resAll e [] = some [] := Eq.trans rfl rfl
theorem rl_cons (x : Res) (xs : List Res) : resAll e (x :: xs) = rcons (resOne e x) (resAll e xs) := by
  simp only [resAll, rcons]
  rfl
def tupO (x : Option (List V)) : Option V := match x with
  | some l => some (.tup l)
  | none => none
theorem tupO_s (l : List V) : tupO (some l) = some (.tup l) := Eq.trans rfl rfl
theorem rs_1 (x : Res) : resV e [x] = resOne e x := Eq.trans rfl rfl
theorem rs_0 : resV e [] = some (.tup []) := Eq.trans rfl rfl
theorem rs_2 (x y : Res) (xs : List Res) : resV e (x :: y :: xs) = tupO (resAll e (x :: y :: xs)) := by
  show (resAll e (x :: y :: xs)).map V.tup = _
  cases resAll e (x :: y :: xs) <;> rfl

def rtB (mode base : Nat) (h : Heap) (v : V) (t : Bool) : Option (V × Heap) := match t with
  | true => handV mode base h v
  | false => none
theorem fv_s (mode base : Nat) (v : V) : fv mode base h (some v) = rtB mode base h v ((h.take base).all (lowR base)) := by
  simp only [fv, retV, rtB]
  cases (h.take base).all (lowR base) <;> rfl
def h0 (base : Nat) (h : Heap) (o : Option V) : Option (V × Heap) := match o with
  | some x => some (x, h.take base)
  | none => none
theorem h0_s (base : Nat) (x : V) : h0 base h (some x) = some (x, h.take base) := Eq.trans rfl rfl
theorem rt_0 (base : Nat) (v : V) : rtB 0 base h v true = h0 base h (fzV false h base 6 v) := by
  show (fzV false h base 6 v).map (fun x => (x, h.take base)) = _
  cases fzV false h base 6 v <;> rfl
theorem rt_2 (base : Nat) (v : V) : rtB 2 base h v true = h0 base h (fzV true h base 6 v) := by
  show (fzV true h base 6 v).map (fun x => (x, h.take base)) = _
  cases fzV true h base 6 v <;> rfl
theorem take_nil (b : Nat) : ([] : Heap).take b = [] := by simp
theorem take_zero (h : Heap) : h.take 0 = [] := by simp
theorem all_nil (f : Option (List V) → Bool) : ([] : Heap).all f = true := Eq.trans rfl rfl
theorem allv_nil (f : V → Bool) : ([] : List V).all f = true := Eq.trans rfl rfl
theorem allv_cons (f : V → Bool) (v : V) (l : List V) : (v :: l).all f = (f v && l.all f) := Eq.trans rfl rfl
theorem len_nil : ([] : Heap).length = 0 := Eq.trans rfl rfl
theorem len_cons (x : Option (List V)) (h : Heap) : (x :: h).length = h.length + 1 := Eq.trans rfl rfl
theorem san_map_nil : List.map san [] = [] := Eq.trans rfl rfl
theorem san_map_cons (v : V) (l : List V) : List.map san (v :: l) = san v :: List.map san l := Eq.trans rfl rfl
theorem tt : (true && true) = true := Eq.trans rfl rfl

section
variable (nk : Bool) (b m w k n : Nat) (l : List Nat) (li : List Int) (L : List V)
def tupM (o : Option (List V)) : Option V := match o with
  | some l => some (.tup l)
  | none => none
theorem tupM_s (l : List V) : tupM (some l) = some (.tup l) := Eq.trans rfl rfl
theorem z_i (z : Int) : fzV nk h b (m + 1) (.i z) = some (.i z) := Eq.trans rfl rfl
theorem z_u (z : Nat) : fzV nk h b (m + 1) (.u w z) = some (.u w z) := Eq.trans rfl rfl
theorem z_b (z : Bool) : fzV nk h b (m + 1) (.b z) = some (.b z) := Eq.trans rfl rfl
theorem z_s : fzV nk h b (m + 1) (.s l) = some (.s l) := Eq.trans rfl rfl
theorem z_nilp : fzV nk h b (m + 1) .nilp = some .nilp := Eq.trans rfl rfl
theorem z_nils : fzV false h b (m + 1) .nils = some (.vs 0 []) := Eq.trans rfl rfl
theorem z_tup : fzV nk h b (m + 1) (.tup L) = tupM (mapO (fzV nk h b m) L) := by
  show (mapO (fzV nk h b m) L).map V.tup = _
  cases mapO (fzV nk h b m) L <;> rfl
theorem z_ml : mapO (fzV nk h b m) [] = some [] := Eq.trans rfl rfl
theorem z_mc (v : V) : mapO (fzV nk h b m) (v :: L) = rcons (fzV nk h b m v) (mapO (fzV nk h b m) L) := by
  simp only [mapO, rcons]
  rfl
def hsC (nk : Bool) (h : Heap) (b m len : Nat) (o : Option (List V)) : Option V := match o with
  | some l => some (.vs len l)
  | none => none
theorem hsC_s (L : List V) : hsC nk h b m n (some L) = some (.vs n L) := Eq.trans rfl rfl
def hsR (nk : Bool) (h : Heap) (b m sz o len : Nat) (x : Option (List V)) : Option V := match x with
  | some l => if o + len * sz ≤ l.length then hsC nk h b m len (mapO (fzV nk h b m) ((l.drop o).take (len * sz))) else none
  | none => none
theorem hsR_us (o len : Nat) (hl : o + len ≤ l.length) : hsR nk h b (m + 1) 1 o len (some (us w l)) = some (.vs len (us w ((l.drop o).take len))) := by
  simp only [hsR, us_len, Nat.mul_one, hl, if_true, us_drop, us_take, mapO_us, hsC]
theorem hsR_is (o len : Nat) (hl : o + len ≤ li.length) : hsR nk h b (m + 1) 1 o len (some (is li)) = some (.vs len (is ((li.drop o).take len))) := by
  simp only [hsR, is_len, Nat.mul_one, hl, if_true, is_drop, is_take, mapO_is, hsC]
def hsB (nk : Bool) (h : Heap) (b m sz k o len cap : Nat) (t : Bool) : Option V := match t with
  | true => some (.hs sz k o len cap)
  | false => hsR nk h b m sz o len (row h k)
theorem hsB_t (sz o len cap : Nat) : hsB nk h b m sz k o len cap true = some (.hs sz k o len cap) := Eq.trans rfl rfl
theorem hsB_f (sz o len cap : Nat) : hsB nk h b m sz k o len cap false = hsR nk h b m sz o len (row h k) := Eq.trans rfl rfl
theorem z_hs (sz o len cap : Nat) : fzV nk h b (m + 1) (.hs sz k o len cap) = hsB nk h b m sz k o len cap (decide (k < b)) := by
  simp only [fzV, hsB]
  by_cases hk : k < b
  · simp [hk]
  · simp only [hk, if_false, decide_false, hsR, hsC]
    cases row h k with
    | none => rfl
    | some l =>
      show (if _ then _ else _) = (if _ then _ else _)
      congr 1
      cases mapO (fzV nk h b m) ((l.drop o).take (len * sz)) <;> rfl
end
end

end Mir
