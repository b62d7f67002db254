/- Rules for following the small language by hand, one equation a step: each side is plain, nothing is left to be unfolded. Conditions: none. -/
import Derived.Test.YtmfbmdbabebhmaaGreatDigs
set_option linter.unusedVariables false
set_option linter.unusedSimpArgs false
set_option exponentiation.threshold 5000
set_option maxRecDepth 20000
namespace Mir

section
variable (T : Nat → Option MFn) (r : List MO) (kp : List Nat) (e : Env) (h : Heap) (d : Option Nat)

/- ## Regions -/

noncomputable def rg (ops : List MO) : Option (Ex × St) := match execOps (Run T) ops ⟨e, h⟩ with
  | some st' => some (.norm, ⟨keepE kp st'.e, st'.h⟩)
  | none => none
noncomputable def rv (o : Option V) : Option (Ex × St) := match o with
  | some v => rg T kp (put d v e) h r
  | none => none
noncomputable def rh (o : Option (V × Heap)) : Option (Ex × St) := match o with
  | some (v, h') => rg T kp (put d v e) h' r
  | none => none
noncomputable def rl (s : Nat) (o : Option (List V)) : Option (Ex × St) := match o with
  | some l => rg T kp ((s, .loc l) :: e) h r
  | none => none

theorem Qa (ops : List MO) : Exec T (.reg ops kp) ⟨e, h⟩ = rg T kp e h ops := Eq.trans rfl rfl
theorem Qb : rg T kp e h [] = some (.norm, ⟨keepE kp e, h⟩) := Eq.trans rfl rfl
theorem Qc (v : V) : rv T r kp e h d (some v) = rg T kp (put d v e) h r := Eq.trans rfl rfl
theorem Qd (v : V) (h' : Heap) : rh T r kp e d (some (v, h')) = rg T kp (put d v e) h' r := Eq.trans rfl rfl
theorem Qe (s : Nat) (l : List V) : rl T r kp e h s (some l) = rg T kp ((s, .loc l) :: e) h r := Eq.trans rfl rfl
theorem Qf (s : Nat) (v : V) : put (some s) v e = (s, v) :: e := Eq.trans rfl rfl
theorem Qg (v : V) : put none v e = e := Eq.trans rfl rfl

theorem rg_step (o : MO) : rg T kp e h (o :: r) = match stepO (Run T) o ⟨e, h⟩ with
    | some st => rg T kp st.e st.h r
    | none => none := by
  simp only [rg, execOps]
  cases stepO (Run T) o ⟨e, h⟩ <;> rfl

theorem rg_val {op : MOp} {ov : Option V} (h1 : doO (Run T) ⟨d, none, op⟩ ⟨e, h⟩ = match evalO (Run T) op e h with | some (v, h') => some ⟨put d v e, h'⟩ | none => none) (h2 : evalO (Run T) op e h = ov.map fun v => (v, h)) :
    rg T kp e h (⟨d, none, op⟩ :: r) = rv T r kp e h d ov := by
  rw [rg_step]
  show (match doO (Run T) ⟨d, none, op⟩ ⟨e, h⟩ with | some st => rg T kp st.e st.h r | none => none) = _
  rw [h1, h2]
  cases ov <;> rfl

theorem rg_hp {op : MOp} {oh : Option (V × Heap)} (h1 : doO (Run T) ⟨d, none, op⟩ ⟨e, h⟩ = match evalO (Run T) op e h with | some (v, h') => some ⟨put d v e, h'⟩ | none => none) (h2 : evalO (Run T) op e h = oh) :
    rg T kp e h (⟨d, none, op⟩ :: r) = rh T r kp e d oh := by
  rw [rg_step]
  show (match doO (Run T) ⟨d, none, op⟩ ⟨e, h⟩ with | some st => rg T kp st.e st.h r | none => none) = _
  rw [h1, h2]
  cases oh <;> rfl

/-- A guarded operation. -/
noncomputable def gd (op : MOp) (w : Bool) (v : V) : Option (Ex × St) := match v with
  | .b x => if x = w then rg T kp e h (⟨d, none, op⟩ :: r) else rg T kp (put d (.tup []) e) h r
  | .tup [] => rg T kp (put d (.tup []) e) h r
  | _ => none
theorem Qh (op : MOp) (s : Nat) (w : Bool) : rg T kp e h (⟨d, some (s, w), op⟩ :: r) = gd T r kp e h d op w (get e s) := by
  have key : rg T kp e h (⟨d, none, op⟩ :: r) = match doO (Run T) ⟨d, some (s, w), op⟩ ⟨e, h⟩ with
      | some st => rg T kp st.e st.h r
      | none => none := by
    rw [rg_step]
    have : stepO (Run T) ⟨d, none, op⟩ ⟨e, h⟩ = doO (Run T) ⟨d, some (s, w), op⟩ ⟨e, h⟩ := by
      simp only [stepO, doO]
    rw [this]
  rw [rg_step]
  simp only [stepO, gd, key]
  cases hg : get e s with
  | b x => by_cases hx : x = w <;> simp [hx]
  | tup l => cases l <;> simp
  | _ => simp
theorem Qi (op : MOp) : gd T r kp e h d op true (.b true) = rg T kp e h (⟨d, none, op⟩ :: r) := Eq.trans rfl rfl
theorem Qj (op : MOp) : gd T r kp e h d op false (.b false) = rg T kp e h (⟨d, none, op⟩ :: r) := Eq.trans rfl rfl
theorem Qk (op : MOp) : gd T r kp e h d op true (.b false) = rg T kp (put d (.tup []) e) h r := Eq.trans rfl rfl
theorem Ql (op : MOp) : gd T r kp e h d op false (.b true) = rg T kp (put d (.tup []) e) h r := Eq.trans rfl rfl
theorem Qm (op : MOp) (w : Bool) : gd T r kp e h d op w (.tup []) = rg T kp (put d (.tup []) e) h r := Eq.trans rfl rfl

/- ## Slots -/

theorem Qn (t : Nat) (v : V) (s : Nat) : get ((t, v) :: e) s = if t = s then v else get e s := gc t v e s

def evV : V → V
  | .loc _ => .undef
  | v => v
def eaV (s : Nat) : V → V
  | .loc _ => .lp s 0
  | v => v
theorem Qo (s : Nat) : ev e (.t s) = evV (get e s) := by
  simp only [ev]; cases get e s <;> rfl
theorem Qp (v : V) : ev e (.c v) = v := Eq.trans rfl rfl
theorem Qq (s : Nat) : ea e (.t s) = eaV s (get e s) := by
  simp only [ea]; cases get e s <;> rfl
theorem Qr (v : V) : ea e (.c v) = v := Eq.trans rfl rfl

theorem Qs : keepE [] e = [] := Eq.trans rfl rfl
theorem Qt (s : Nat) (ks : List Nat) : keepE (s :: ks) e = (s, san (get e s)) :: keepE ks e := Eq.trans rfl rfl
theorem Qu : evAll e [] = [] := Eq.trans rfl rfl
theorem Qv (x : Opd) (xs : List Opd) : evAll e (x :: xs) = ev e x :: evAll e xs := Eq.trans rfl rfl
theorem Qw : parts e [] = [] := Eq.trans rfl rfl
theorem Qx (a b : Nat) (x : Opd) (xs : List (Nat × Nat × Opd)) : parts e ((a, b, x) :: xs) = (a, b, ev e x) :: parts e xs := Eq.trans rfl rfl
theorem Qy (n : Nat) : zipE n [] = [] := Eq.trans rfl rfl
theorem Qz (n : Nat) (v : V) (l : List V) : zipE n (v :: l) = (n, v) :: zipE (n + 1) l := Eq.trans rfl rfl

end

section
variable (n w o : Nat) (z : Int) (x : Bool) (l : List V) (s : List Nat) (k : Nat)
variable (m : Nat) (l2 : List V)
theorem QA : evV (.i z : V) = .i z := Eq.trans rfl rfl
theorem QB (q : Nat) : eaV q (.i z : V) = .i z := Eq.trans rfl rfl
theorem QC : san (.i z : V) = .i z := Eq.trans rfl rfl
theorem QD : cells (.i z : V) = [.i z] := Eq.trans rfl rfl
theorem QE : cellV (.i z : V) = true := Eq.trans rfl rfl
theorem QF : evV (.u w n : V) = .u w n := Eq.trans rfl rfl
theorem QG (q : Nat) : eaV q (.u w n : V) = .u w n := Eq.trans rfl rfl
theorem QH : san (.u w n : V) = .u w n := Eq.trans rfl rfl
theorem QI : cells (.u w n : V) = [.u w n] := Eq.trans rfl rfl
theorem QJ : cellV (.u w n : V) = true := Eq.trans rfl rfl
theorem QK : evV (.b x : V) = .b x := Eq.trans rfl rfl
theorem QL (q : Nat) : eaV q (.b x : V) = .b x := Eq.trans rfl rfl
theorem QM : san (.b x : V) = .b x := Eq.trans rfl rfl
theorem QN : cells (.b x : V) = [.b x] := Eq.trans rfl rfl
theorem QO : cellV (.b x : V) = true := Eq.trans rfl rfl
theorem QP : evV (.s s : V) = .s s := Eq.trans rfl rfl
theorem QQ (q : Nat) : eaV q (.s s : V) = .s s := Eq.trans rfl rfl
theorem QR : san (.s s : V) = .s s := Eq.trans rfl rfl
theorem QS : cells (.s s : V) = [.s s] := Eq.trans rfl rfl
theorem QT : cellV (.s s : V) = true := Eq.trans rfl rfl
theorem QU : evV (.agg l : V) = .agg l := Eq.trans rfl rfl
theorem QV (q : Nat) : eaV q (.agg l : V) = .agg l := Eq.trans rfl rfl
theorem QW : san (.agg l : V) = .agg l := Eq.trans rfl rfl
theorem QX : cells (.agg l : V) = l := Eq.trans rfl rfl
theorem QY : evV (.tup l : V) = .tup l := Eq.trans rfl rfl
theorem QZ (q : Nat) : eaV q (.tup l : V) = .tup l := Eq.trans rfl rfl
theorem Q0 : san (.tup l : V) = .tup l := Eq.trans rfl rfl
theorem Q1 : cells (.tup l : V) = [.tup l] := Eq.trans rfl rfl
theorem Q2 : evV (.nilp : V) = .nilp := Eq.trans rfl rfl
theorem Q3 (q : Nat) : eaV q (.nilp : V) = .nilp := Eq.trans rfl rfl
theorem Q4 : san (.nilp : V) = .nilp := Eq.trans rfl rfl
theorem Q5 : cells (.nilp : V) = [.nilp] := Eq.trans rfl rfl
theorem Q6 : cellV (.nilp : V) = true := Eq.trans rfl rfl
theorem Q7 : evV (.vr l o : V) = .vr l o := Eq.trans rfl rfl
theorem Q8 (q : Nat) : eaV q (.vr l o : V) = .vr l o := Eq.trans rfl rfl
theorem Q9 : san (.vr l o : V) = .vr l o := Eq.trans rfl rfl
theorem Xa : cells (.vr l o : V) = [.vr l o] := Eq.trans rfl rfl
theorem Xb : cellV (.vr l o : V) = true := Eq.trans rfl rfl
theorem Xc : evV (.hp k o : V) = .hp k o := Eq.trans rfl rfl
theorem Xd (q : Nat) : eaV q (.hp k o : V) = .hp k o := Eq.trans rfl rfl
theorem Xe : san (.hp k o : V) = .hp k o := Eq.trans rfl rfl
theorem Xf : cells (.hp k o : V) = [.hp k o] := Eq.trans rfl rfl
theorem Xg : cellV (.hp k o : V) = true := Eq.trans rfl rfl
theorem Xh : evV (.nils : V) = .nils := Eq.trans rfl rfl
theorem Xi (q : Nat) : eaV q (.nils : V) = .nils := Eq.trans rfl rfl
theorem Xj : san (.nils : V) = .nils := Eq.trans rfl rfl
theorem Xk : cells (.nils : V) = [.nils] := Eq.trans rfl rfl
theorem Xl : cellV (.nils : V) = true := Eq.trans rfl rfl
theorem Xm : evV (.vs n l : V) = .vs n l := Eq.trans rfl rfl
theorem Xn (q : Nat) : eaV q (.vs n l : V) = .vs n l := Eq.trans rfl rfl
theorem Xo : san (.vs n l : V) = .vs n l := Eq.trans rfl rfl
theorem Xp : cells (.vs n l : V) = [.vs n l] := Eq.trans rfl rfl
theorem Xq : cellV (.vs n l : V) = true := Eq.trans rfl rfl
theorem Xr : evV (.hs n k o w m : V) = .hs n k o w m := Eq.trans rfl rfl
theorem Xs (q : Nat) : eaV q (.hs n k o w m : V) = .hs n k o w m := Eq.trans rfl rfl
theorem Xt : san (.hs n k o w m : V) = .hs n k o w m := Eq.trans rfl rfl
theorem Xu : cells (.hs n k o w m : V) = [.hs n k o w m] := Eq.trans rfl rfl
theorem Xv : cellV (.hs n k o w m : V) = true := Eq.trans rfl rfl
theorem Xw : evV (.fn n l l2 : V) = .fn n l l2 := Eq.trans rfl rfl
theorem Xx (q : Nat) : eaV q (.fn n l l2 : V) = .fn n l l2 := Eq.trans rfl rfl
theorem Xy : san (.fn n l l2 : V) = .fn n l l2 := Eq.trans rfl rfl
theorem Xz : cells (.fn n l l2 : V) = [.fn n l l2] := Eq.trans rfl rfl
theorem XA : cellV (.fn n l l2 : V) = true := Eq.trans rfl rfl
theorem XB : evV (.lp k o : V) = .lp k o := Eq.trans rfl rfl
theorem XC (q : Nat) : eaV q (.lp k o : V) = .lp k o := Eq.trans rfl rfl
theorem XD : san (.lp k o : V) = .undef := Eq.trans rfl rfl
theorem XE : cells (.lp k o : V) = [.lp k o] := Eq.trans rfl rfl
theorem XF : evV (.ls n k o w m : V) = .ls n k o w m := Eq.trans rfl rfl
theorem XG (q : Nat) : eaV q (.ls n k o w m : V) = .ls n k o w m := Eq.trans rfl rfl
theorem XH : san (.ls n k o w m : V) = .undef := Eq.trans rfl rfl
theorem XI : cells (.ls n k o w m : V) = [.ls n k o w m] := Eq.trans rfl rfl
theorem XJ : evV (.undef : V) = .undef := Eq.trans rfl rfl
theorem XK (q : Nat) : eaV q (.undef : V) = .undef := Eq.trans rfl rfl
theorem XL : san (.undef : V) = .undef := Eq.trans rfl rfl
theorem XM : cells (.undef : V) = [.undef] := Eq.trans rfl rfl
theorem XN : evV (.nilf : V) = .nilf := Eq.trans rfl rfl
theorem XO (q : Nat) : eaV q (.nilf : V) = .nilf := Eq.trans rfl rfl
theorem XP : san (.nilf : V) = .nilf := Eq.trans rfl rfl
theorem XQ : cells (.nilf : V) = [.nilf] := Eq.trans rfl rfl
theorem XR : cellV (.nilf : V) = true := Eq.trans rfl rfl
theorem XS : evV (.loc l) = .undef := Eq.trans rfl rfl
theorem XT (q : Nat) : eaV q (.loc l) = .lp q 0 := Eq.trans rfl rfl
theorem XU : san (.loc l) = .loc l := Eq.trans rfl rfl

end

/- ## Statements -/

section
variable (T : Nat → Option MFn) (e : Env) (h : Heap)

noncomputable def sq (x : Option (Ex × St)) (b : Stm) : Option (Ex × St) := match x with
  | some (.norm, st') => Exec T b st'
  | r => r
noncomputable def cd (v : V) (a b : Stm) : Option (Ex × St) := match v with
  | .b x => if x then Exec T a ⟨e, h⟩ else Exec T b ⟨e, h⟩
  | _ => none
def bk (id : Nat) (x : Option (Ex × St)) : Option (Ex × St) := match x with
  | some (.exit j, st') => if j = id then some (.norm, st') else some (.exit j, st')
  | r => r

theorem XV (a b : Stm) (st : St) : Exec T (.seq a b) st = sq T (Exec T a st) b := by
  show (match Exec T a st with | some (.norm, st') => Exec T b st' | r => r) = _
  rfl
theorem XW (st : St) (b : Stm) : sq T (some (.norm, st)) b = Exec T b st := Eq.trans rfl rfl
theorem XX (i : Nat) (st : St) (b : Stm) : sq T (some (.exit i, st)) b = some (.exit i, st) := Eq.trans rfl rfl
theorem XY (st : St) (b : Stm) : sq T (some (.ret, st)) b = some (.ret, st) := Eq.trans rfl rfl
theorem XZ (c : Opd) (a b : Stm) : Exec T (.cond c a b) ⟨e, h⟩ = cd T e h (ev e c) a b := by
  show (match ev e c with | .b x => if x then Exec T a ⟨e, h⟩ else Exec T b ⟨e, h⟩ | _ => none) = _
  rfl
theorem X0 (a b : Stm) : cd T e h (.b true) a b = Exec T a ⟨e, h⟩ := Eq.trans rfl rfl
theorem X1 (a b : Stm) : cd T e h (.b false) a b = Exec T b ⟨e, h⟩ := Eq.trans rfl rfl
theorem X2 (id : Nat) (a : Stm) (st : St) : Exec T (.block id a) st = bk id (Exec T a st) := by
  show (match Exec T a st with | some (Ex.exit j, st') => if j = id then some (Ex.norm, st') else some (Ex.exit j, st') | r => r) = _
  rfl
theorem X3 (id : Nat) (st : St) : bk id (some (.norm, st)) = some (.norm, st) := Eq.trans rfl rfl
theorem X4 (id : Nat) (st : St) : bk id (some (.exit id, st)) = some (.norm, st) := by simp [bk]
theorem X5 (id j : Nat) (st : St) (hj : (j == id) = false) : bk id (some (.exit j, st)) = some (.exit j, st) := by
  have : j ≠ id := by simpa using hj
  simp [bk, this]
theorem X6 (id : Nat) (st : St) : bk id (some (.ret, st)) = some (.ret, st) := Eq.trans rfl rfl
theorem X7 (kp : List Nat) (a : Stm) : Exec T (.loop kp a) ⟨e, h⟩ = Loop T a ⟨keepE kp e, h⟩ := Eq.trans rfl rfl
theorem X8 (id : Nat) (kp : List Nat) : Exec T (.exit id kp) ⟨e, h⟩ = some (.exit id, ⟨keepE kp e, h⟩) := Eq.trans rfl rfl
theorem X9 (st : St) : Exec T .ret st = some (.ret, st) := Eq.trans rfl rfl

/- ## Results -/

def fv (mode base : Nat) (h : Heap) (o : Option V) : Option (V × Heap) := match o with
  | some v => retV mode base h v
  | none => none
def fin (res : List Res) (mode base : Nat) (x : Option (Ex × St)) : Option (V × Heap) := match x with
  | some (.exit _, _) => none
  | some (_, st) => fv mode base st.h (resV st.e res)
  | none => none
theorem Run_at {c : Stm} {res : List Res} {mode f : Nat} (hT : T f = some ⟨c, res, mode⟩) (args : List V) : Run T f args h = fin res mode h.length (Exec T c ⟨zipE 0 args, h⟩) := by
  rw [Run_eq, hT]
  show finish ⟨c, res, mode⟩ h.length (Exec T c ⟨zipE 0 args, h⟩) = _
  cases Exec T c ⟨zipE 0 args, h⟩ with
  | none => rfl
  | some p => obtain ⟨ex, st⟩ := p; cases ex <;> rfl
theorem Ya (res : List Res) (mode base : Nat) : fin res mode base (some (.ret, ⟨e, h⟩)) = fv mode base h (resV e res) := Eq.trans rfl rfl
theorem Yb (res : List Res) (mode base : Nat) : fin res mode base (some (.norm, ⟨e, h⟩)) = fv mode base h (resV e res) := Eq.trans rfl rfl

def cellR (v : V) (n : Option Nat) : Option V := match v with
  | .loc l => part l 0 n
  | _ => none
theorem Yc (l : List V) (n : Option Nat) : cellR (.loc l) n = part l 0 n := Eq.trans rfl rfl
theorem Yd (s : Nat) : resOne e (.tmp s) = some (evV (get e s)) := by
  show some (ev e (.t s)) = _
  rw [Qo]
theorem Ye (s : Nat) (n : Option Nat) : resOne e (.cell s n) = cellR (get e s) n := by
  simp only [resOne, cellR]; cases get e s <;> rfl
def rcons (x : Option V) (xs : Option (List V)) : Option (List V) := match x, xs with
  | some v, some vs => some (v :: vs)
  | _, _ => none
theorem Yf (v : V) (vs : List V) : rcons (some v) (some vs) = some (v :: vs) := Eq.trans rfl rfl
theorem Yg : resAll e [] = some [] := Eq.trans rfl rfl
theorem Yh (x : Res) (xs : List Res) : resAll e (x :: xs) = rcons (resOne e x) (resAll e xs) := by
  simp only [resAll, rcons]
  rfl
def tupO (x : Option (List V)) : Option V := match x with
  | some l => some (.tup l)
  | none => none
theorem Yi (l : List V) : tupO (some l) = some (.tup l) := Eq.trans rfl rfl
theorem Yj (x : Res) : resV e [x] = resOne e x := Eq.trans rfl rfl
theorem Yk : resV e [] = some (.tup []) := Eq.trans rfl rfl
theorem Yl (x y : Res) (xs : List Res) : resV e (x :: y :: xs) = tupO (resAll e (x :: y :: xs)) := by
  show (resAll e (x :: y :: xs)).map V.tup = _
  cases resAll e (x :: y :: xs) <;> rfl

def rtB (mode base : Nat) (h : Heap) (v : V) (t : Bool) : Option (V × Heap) := match t with
  | true => handV mode base h v
  | false => none
theorem Ym (base : Nat) (v : V) : fv 0 base h (some v) = rtB 0 base h v ((h.take base).all (lowR base)) := by
  simp only [fv, retV, rtB]
  cases (h.take base).all (lowR base) <;> rfl
theorem Yn (base : Nat) (v : V) : fv 1 base h (some v) = rtB 1 base h v ((h.take base).all (lowR base)) := by
  simp only [fv, retV, rtB]
  cases (h.take base).all (lowR base) <;> rfl
theorem Yo (base : Nat) (v : V) : fv 2 base h (some v) = rtB 2 base h v ((h.take base).all (lowR base)) := by
  simp only [fv, retV, rtB]
  cases (h.take base).all (lowR base) <;> rfl
theorem Yp (base : Nat) (v : V) : fv 3 base h (some v) = some (v, h) := Eq.trans rfl rfl
def h0 (base : Nat) (h : Heap) (o : Option V) : Option (V × Heap) := match o with
  | some x => some (x, h.take base)
  | none => none
theorem Yq (base : Nat) (x : V) : h0 base h (some x) = some (x, h.take base) := Eq.trans rfl rfl
theorem Yr (base : Nat) (v : V) : rtB 0 base h v true = h0 base h (fzV false h base 6 v) := by
  show (fzV false h base 6 v).map (fun x => (x, h.take base)) = _
  cases fzV false h base 6 v <;> rfl
theorem Ys (base : Nat) (v : V) : rtB 2 base h v true = h0 base h (fzV true h base 6 v) := by
  show (fzV true h base 6 v).map (fun x => (x, h.take base)) = _
  cases fzV true h base 6 v <;> rfl
theorem Yt (b : Nat) : ([] : Heap).take b = [] := by simp
theorem Yu (h : Heap) : h.take 0 = [] := by simp
theorem Yv (f : Option (List V) → Bool) : ([] : Heap).all f = true := Eq.trans rfl rfl
theorem Yw (f : V → Bool) : ([] : List V).all f = true := Eq.trans rfl rfl
theorem Yx (f : V → Bool) (v : V) (l : List V) : (v :: l).all f = (f v && l.all f) := Eq.trans rfl rfl
theorem Yy : ([] : Heap).length = 0 := Eq.trans rfl rfl
theorem Yz (x : Option (List V)) (h : Heap) : (x :: h).length = h.length + 1 := Eq.trans rfl rfl
theorem YA : List.map san [] = [] := Eq.trans rfl rfl
theorem YB (v : V) (l : List V) : List.map san (v :: l) = san v :: List.map san l := Eq.trans rfl rfl
theorem YC : (true && true) = true := Eq.trans rfl rfl

section
variable (nk : Bool) (b m w k n : Nat) (l : List Nat) (li : List Int) (L : List V)
def tupM (o : Option (List V)) : Option V := match o with
  | some l => some (.tup l)
  | none => none
theorem YD (l : List V) : tupM (some l) = some (.tup l) := Eq.trans rfl rfl
theorem YE (z : Int) : fzV nk h b (m + 1) (.i z) = some (.i z) := Eq.trans rfl rfl
theorem YF (z : Nat) : fzV nk h b (m + 1) (.u w z) = some (.u w z) := Eq.trans rfl rfl
theorem YG (z : Bool) : fzV nk h b (m + 1) (.b z) = some (.b z) := Eq.trans rfl rfl
theorem YH : fzV nk h b (m + 1) (.s l) = some (.s l) := Eq.trans rfl rfl
theorem YI : fzV nk h b (m + 1) .nilp = some .nilp := Eq.trans rfl rfl
theorem YJ : fzV false h b (m + 1) .nils = some (.vs 0 []) := Eq.trans rfl rfl
theorem YK : fzV nk h b (m + 1) (.tup L) = tupM (mapO (fzV nk h b m) L) := by
  show (mapO (fzV nk h b m) L).map V.tup = _
  cases mapO (fzV nk h b m) L <;> rfl
theorem YL : mapO (fzV nk h b m) [] = some [] := Eq.trans rfl rfl
theorem YM (v : V) : mapO (fzV nk h b m) (v :: L) = rcons (fzV nk h b m v) (mapO (fzV nk h b m) L) := by
  simp only [mapO, rcons]
  rfl
def hsC (nk : Bool) (h : Heap) (b m len : Nat) (o : Option (List V)) : Option V := match o with
  | some l => some (.vs len l)
  | none => none
theorem YN (L : List V) : hsC nk h b m n (some L) = some (.vs n L) := Eq.trans rfl rfl
def hsR (nk : Bool) (h : Heap) (b m sz o len : Nat) (x : Option (List V)) : Option V := match x with
  | some l => if o + len * sz ≤ l.length then hsC nk h b m len (mapO (fzV nk h b m) ((l.drop o).take (len * sz))) else none
  | none => none
theorem YO (o len : Nat) (hl : o + len ≤ l.length) : hsR nk h b (m + 1) 1 o len (some (us w l)) = some (.vs len (us w ((l.drop o).take len))) := by
  simp only [hsR, us_len, Nat.mul_one, hl, if_true, us_drop, us_take, mapO_us, hsC]
theorem YP (o len : Nat) (hl : o + len ≤ li.length) : hsR nk h b (m + 1) 1 o len (some (is li)) = some (.vs len (is ((li.drop o).take len))) := by
  simp only [hsR, is_len, Nat.mul_one, hl, if_true, is_drop, is_take, mapO_is, hsC]
def hsB (nk : Bool) (h : Heap) (b m sz k o len cap : Nat) (t : Bool) : Option V := match t with
  | true => some (.hs sz k o len cap)
  | false => hsR nk h b m sz o len (row h k)
theorem YQ (sz o len cap : Nat) : hsB nk h b m sz k o len cap true = some (.hs sz k o len cap) := Eq.trans rfl rfl
theorem YR (sz o len cap : Nat) : hsB nk h b m sz k o len cap false = hsR nk h b m sz o len (row h k) := Eq.trans rfl rfl
theorem YS (sz o len cap : Nat) : fzV nk h b (m + 1) (.hs sz k o len cap) = hsB nk h b m sz k o len cap (decide (k < b)) := by
  simp only [fzV, hsB]
  by_cases hk : k < b
  · simp [hk]
  · simp only [hk, if_false, decide_false, hsR, hsC]
    cases row h k with
    | none => rfl
    | some l =>
      show (if _ then _ else _) = (if _ then _ else _)
      congr 1
      cases mapO (fzV nk h b m) ((l.drop o).take (len * sz)) <;> rfl
end
end

end Mir
