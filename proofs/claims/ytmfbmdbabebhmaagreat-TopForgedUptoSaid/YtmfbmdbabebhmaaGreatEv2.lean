/- Rules for following the small language by hand: each operation. Conditions: none. -/
import Derived.Test.YtmfbmdbabebhmaaGreatEv
set_option linter.unusedVariables false
set_option linter.unusedSimpArgs false
set_option exponentiation.threshold 5000
set_option maxRecDepth 20000
namespace Mir

def pkV (c a b : V) : Option V := match c with
  | .b x => some (if x then a else b)
  | _ => none
def eqR (neg : Bool) (o : Option Bool) : Option V := match o with
  | some x => some (.b (x != neg))
  | none => none
def s2bO (h : Heap) (v : V) : Option (V × Heap) := match v with
  | .s l => some (.hs 1 h.length 0 l.length l.length, h ++ [some (l.map (.u 8))])
  | _ => none
def b2sV (imm : Bool) (h : Heap) (v : V) : Option V := match sliceCells (if imm then [] else h) v with
    | some l => match l.mapM byteOf with
      | some m => if lenV v = some m.length then some (.s m) else none
      | none => none
    | none => none
def aggO (o : Option (List V)) : Option V := match o with
  | some l => some (.agg l)
  | none => none
def boxO (v : V) : Option V := if boxable v then some (.loc (cells v)) else none
def boxvO (v : V) : Option V := if boxable v then some (.vr (cells v) 0) else none
def boxhO (h : Heap) (v : V) : Option (V × Heap) := if boxable v then some (.hp h.length 0, h ++ [some (cells v)]) else none
def litO (h : Heap) (imm : Bool) (sz n : Nat) (o : Option (List V)) : Option (V × Heap) := match o with
  | some l => if imm then some (.vs n l, h) else some (.hs sz h.length 0 n n, h ++ [some l])
  | none => none
def mkR (h : Heap) (sz : Nat) (z : List V) (m k : Nat) (t : Bool) : Option (V × Heap) := match t with
  | true => some (.hs sz h.length 0 m k, h ++ [some (List.replicate k z).flatten])
  | false => none
def mkQ (h : Heap) (sz bytes : Nat) (z : List V) (k : Nat) (o : Option Nat) : Option (V × Heap) := match o with
  | some m => mkR h sz z m k (roomOk k bytes)
  | none => none
def mkO (h : Heap) (sz bytes : Nat) (z : List V) (v : V) (o : Option Nat) : Option (V × Heap) := match o with
  | some k => mkQ h sz bytes z k (ixOf (k + 1) v)
  | none => none
def idxO (sz : Nat) (p : V) (o : Option Nat) : Option V := match o with
  | some j => offV (j * sz) p
  | none => none
def ldR (n : Option Nat) (o : Nat) (x : Option (List V)) : Option V := match x with
  | some l => part l o n
  | none => none
def ldV (imm : Bool) (h : Heap) (n : Option Nat) (v : V) : Option V := match v with
  | .vr l o => part l o n
  | .hp k o => ldR n o (row (if imm then [] else h) k)
  | _ => none
def ldlV (s : Nat) (n : Option Nat) (p g : V) : Option V := match p with
  | .lp s' o => if s' = s then match g with
        | .loc l => part l o n
        | _ => none
      else none
  | _ => none
def okc (n : Nat) (cs : List V) (o len : Nat) : Bool := decide (cs.length = n) && (cs.all cellV && decide (o + n ≤ len))
def stT (h : Heap) (k o : Nat) (cs l : List V) (t : Bool) : Option (V × Heap) := match t with
  | true => some (.tup [], setRow h k (splice l o cs))
  | false => none
def stR (h : Heap) (n k o : Nat) (cs : List V) (x : Option (List V)) : Option (V × Heap) := match x with
  | some l => stT h k o cs l (okc n cs o l.length)
  | none => none
def stO (h : Heap) (n : Nat) (p : V) (cs : List V) : Option (V × Heap) := match p with
  | .hp k o => stR h n k o cs (row h k)
  | _ => none
def nckV (v : V) : Option V := match v with
  | .vr l o => some (.vr l o)
  | .hp k o => some (.hp k o)
  | .lp s o => some (.lp s o)
  | .fn f a c => some (.fn f a c)
  | _ => none
def fldV (n : Option Nat) (o : Nat) (v : V) : Option V := match v with
  | .agg l => part l o n
  | _ => none
def idxvV (sz : Nat) (agg : Bool) (v : V) (o : Option Nat) : Option V := match v, o with
  | .agg l, some j => part l (j * sz) (if agg then some sz else none)
  | _, _ => none
def byR (o : Option Nat) : Option V := match o with
  | some c => some (.u 8 c)
  | none => none
def byJ (l : List Nat) (o : Option Nat) : Option V := match o with
  | some j => byR l[j]?
  | none => none
def idxbV (v i : V) : Option V := match v with
  | .s l => byJ l (ixOf l.length i)
  | _ => none
def bd (e : Env) (lo : Option Opd) (o : Option Nat) : Option (Nat × Nat) := match o with
  | none => none
  | some h => match (match lo with | some x => ixOf (h + 1) (ev e x) | none => some 0) with
    | none => none
    | some l => some (l, h)
def slsR (l : List Nat) (o : Option (Nat × Nat)) : Option V := match o with
  | some (a, z) => some (.s ((l.take z).drop a))
  | none => none
def slsV (e : Env) (lo hi : Option Opd) (v : V) : Option V := match v with
  | .s l => slsR l (bounds l.length l.length e lo hi)
  | _ => none
def slaO (imm : Bool) (h : Heap) (n sz : Nat) (o : Option (Nat × Nat)) (p : V) : Option V := match o with
  | some (a, z) => match p with
    | .vr l o => if o + n * sz ≤ l.length then some (.vs (z - a) ((l.drop (o + a * sz)).take ((z - a) * sz))) else none
    | .hp k o => match row (if imm then [] else h) k with
      | some l => if o + n * sz ≤ l.length then some (.hs sz k (o + a * sz) (z - a) (n - a)) else none
      | none => none
    | .lp s o => some (.ls sz s (o + a * sz) (z - a) (n - a))
    | _ => none
  | none => none
def extV (k : Nat) (v : V) : Option V := match v with
  | .tup l => l[k]?
  | _ => none
def cS (h : Heap) (o : Option (V × Heap)) : Option (V × Heap) := match o with
  | some (v, []) => some (v, h)
  | _ => none
noncomputable def cR (T : Nat → Option MFn) (h : Heap) (f : Nat) (vs : List V) (t : Bool) : Option (V × Heap) := match t with
  | true => cS h (Run T f vs [])
  | false => Run T f vs h
def cL (h : Heap) (o : Option (V × Heap)) : Option (V × Heap) := match o with
  | some (v, _) => if noPtr v then some (v, h) else none
  | none => none
noncomputable def cM (T : Nat → Option MFn) (h : Heap) (f : Nat) (o : Option (List V)) : Option (V × Heap) := match o with
  | some vs => if vs.all (noHp 3) then cL h (Run T f vs []) else none
  | none => none
noncomputable def callO (T : Nat → Option MFn) (e : Env) (h : Heap) (f : Nat) (rs : List Nat) (args : List Opd) : Option (V × Heap) := match rs with
  | [] => cR T h f ((evAll e args).map san) (((evAll e args).map san).all (noHp 8))
  | a :: rs => cM T h f (lendAll e (a :: rs) (args.map (ea e)))
noncomputable def calG (T : Nat → Option MFn) (h : Heap) (g : V) (vs : List V) : Option (V × Heap) := match g with
  | .fn f a c => cR T h f (a ++ vs ++ c) ((a ++ vs ++ c).all (noHp 8))
  | _ => none
def fnT (f : Nat) (a c : List V) (t : Bool) : Option V := match t with
  | true => some (.fn f a c)
  | false => none
noncomputable def cpT (T : Nat → Option MFn) (h : Heap) (f : Nat) (vs : List V) (t : Bool) : Option (V × Heap) := match t with
  | true => cS h (Run T f vs [])
  | false => none
def lenT (n : Nat) (t : Bool) : Option V := match t with
  | true => some (.i n)
  | false => none
def lenO (o : Option Nat) : Option V := match o with
  | some n => lenT n (decide (n < 9223372036854775808))
  | none => none
def lensO (v : V) : Option V := match v with
  | .s l => lenT l.length (decide (l.length < 9223372036854775808))
  | _ => none
def mnO (x y : V) : Option V := match x, y with
  | .i a, .i b => some (.i (if b < a then b else a))
  | _, _ => none
def mxO (x y : V) : Option V := match x, y with
  | .i a, .i b => some (.i (if a < b then b else a))
  | _, _ => none
def appO (h : Heap) (sz bytes : Nat) (m : Option (List V)) (b : Option Nat) (x : V) : Option (V × Heap) := match m, b with
  | some m, some b => match x with
      | .nils => if b = 0 then some (.nils, h) else
          if roomOk b bytes ∧ m.length = b * sz ∧ m.all cellV then some (.hs sz h.length 0 b b, h ++ [some m]) else none
      | .hs sz' k off len _ => match row h k with
        | some r => if sz' = sz ∧ off + len * sz ≤ r.length ∧ roomOk (len + b) bytes ∧ m.length = b * sz ∧ m.all cellV then
            some (.hs sz h.length 0 (len + b) (len + b), h.set k none ++ [some ((r.drop off).take (len * sz) ++ m)]) else none
        | none => none
      | _ => none
  | _, _ => none
def frT (h : Heap) (k len : Nat) (l : List V) (t u : Bool) : Option (V × Heap) := match t, u with
  | true, true => some (.vs len l, h.set k none)
  | _, _ => none
def frR (h : Heap) (sz k off len : Nat) (o : Option (List V)) : Option (V × Heap) := match o with
  | some l => frT h k len ((l.drop off).take (len * sz)) (decide (off + len * sz ≤ l.length)) (((l.drop off).take (len * sz)).all flat)
  | none => none
def frzO (h : Heap) (x : V) : Option (V × Heap) := match x with
  | .hs sz k off len _ => frR h sz k off len (row h k)
  | .nils => some (.vs 0 [], h)
  | .vs n l => some (.vs n l, h)
  | _ => none
def cpyO (h : Heap) (sz : Nat) (m : Option (List V)) (b : Option Nat) (x : V) : Option (V × Heap) := match x, m, b with
    | .hs sz' k off len _, some m, some b => if sz' = sz ∧ m.length = b * sz ∧ m.all cellV ∧ b < 9223372036854775808 then match row h k with
        | some l => if off + len * sz ≤ l.length then
            some (.i (min b len : Nat), setRow h k (l.take off ++ m.take (min b len * sz) ++ l.drop (off + min b len * sz))) else none
        | none => none
      else none
    | _, _, _ => none
def slT (o : Nat) (cs l : List V) (t : Bool) : Option (List V) := match t with
  | true => some (splice l o cs)
  | false => none
def slO (s n : Nat) (p g : V) (cs : List V) : Option (List V) := match p with
  | .lp s' o => if s' = s then match g with
      | .loc l => slT o cs l (okc n cs o l.length)
      | _ => none
    else none
  | _ => none

section
variable (T : Nat → Option MFn) (r : List MO) (kp : List Nat) (e : Env) (h : Heap) (d : Option Nat)
theorem YT (x : Opd) : rg T kp e h (⟨d, none, .mov x⟩ :: r) = rv T r kp e h d (some (ev e x)) :=
  rg_val T r kp e h d rfl (by
    simp only [evalO]; rfl)
theorem YU (c a b : Opd) : rg T kp e h (⟨d, none, .pick c a b⟩ :: r) = rv T r kp e h d (pkV (ev e c) (ev e a) (ev e b)) :=
  rg_val T r kp e h d rfl (by
    simp only [evalO, pkV]; cases ev e c <;> rfl)
theorem YV (o : Bin) (x y : Opd) : rg T kp e h (⟨d, none, .bin o x y⟩ :: r) = rv T r kp e h d (binV o (ev e x) (ev e y)) :=
  rg_val T r kp e h d rfl (by
    simp only [evalO])
theorem YW (k : EqK) (neg : Bool) (x y : Opd) : rg T kp e h (⟨d, none, .eqv k neg x y⟩ :: r) = rv T r kp e h d (eqR neg (eqV k (ev e x) (ev e y))) :=
  rg_val T r kp e h d rfl (by
    simp only [evalO, eqR]; cases eqV k (ev e x) (ev e y) <;> rfl)
theorem YX (o : Un) (x : Opd) : rg T kp e h (⟨d, none, .un o x⟩ :: r) = rv T r kp e h d (unV o (ev e x)) :=
  rg_val T r kp e h d rfl (by
    simp only [evalO])
theorem YY (x : Opd) : rg T kp e h (⟨d, none, .cvi x⟩ :: r) = rv T r kp e h d (toI (ev e x)) :=
  rg_val T r kp e h d rfl (by
    simp only [evalO])
theorem YZ (w : Nat) (x : Opd) : rg T kp e h (⟨d, none, .cvu w x⟩ :: r) = rv T r kp e h d (toU w (ev e x)) :=
  rg_val T r kp e h d rfl (by
    simp only [evalO])
theorem Y0 (x : Opd) : rg T kp e h (⟨d, none, .s2b x⟩ :: r) = rh T r kp e d (s2bO h (ev e x)) :=
  rg_hp T r kp e h d rfl (by
    simp only [evalO, s2bO]; cases ev e x <;> rfl)
theorem Y1 (imm : Bool) (x : Opd) : rg T kp e h (⟨d, none, .b2s imm x⟩ :: r) = rv T r kp e h d (b2sV imm h (ev e x)) :=
  rg_val T r kp e h d rfl (by
    simp only [evalO, b2sV]; cases sliceCells (if imm then [] else h) (ev e x) with
    | none => rfl
    | some l =>
      dsimp only
      cases l.mapM byteOf with
      | none => rfl
      | some m => dsimp only; split <;> rfl)
theorem Y2 (z : List V) (ps : List (Nat × Nat × Opd)) : rg T kp e h (⟨d, none, .build z ps⟩ :: r) = rv T r kp e h d (aggO (fill z (parts e ps))) :=
  rg_val T r kp e h d rfl (by
    simp only [evalO, aggO]; cases fill z (parts e ps) <;> rfl)
theorem Y3 (x : Opd) : rg T kp e h (⟨d, none, .box x⟩ :: r) = rv T r kp e h d (boxO (ev e x)) :=
  rg_val T r kp e h d rfl (by
    simp only [evalO, boxO]; split <;> rfl)
theorem Y4 (x : Opd) : rg T kp e h (⟨d, none, .boxv x⟩ :: r) = rv T r kp e h d (boxvO (ev e x)) :=
  rg_val T r kp e h d rfl (by
    simp only [evalO, boxvO]; split <;> rfl)
theorem Y5 (x : Opd) : rg T kp e h (⟨d, none, .boxh x⟩ :: r) = rh T r kp e d (boxhO h (ev e x)) :=
  rg_hp T r kp e h d rfl (by
    simp only [evalO, boxhO])
theorem Y6 (imm : Bool) (sz n : Nat) (z : List V) (ps : List (Nat × Nat × Opd)) : rg T kp e h (⟨d, none, .lit imm sz n z ps⟩ :: r) = rh T r kp e d (litO h imm sz n (fill z (parts e ps))) :=
  rg_hp T r kp e h d rfl (by
    simp only [evalO, litO]; rfl)
theorem Y7 (sz bytes : Nat) (z : List V) (n c : Opd) : rg T kp e h (⟨d, none, .mks sz bytes z n c⟩ :: r) = rh T r kp e d (mkO h sz bytes z (ev e n) (ixOf 140737488355329 (ev e c))) :=
  rg_hp T r kp e h d rfl (by
    simp only [evalO, mkO]; cases ixOf 140737488355329 (ev e c) with
    | none => rfl
    | some k =>
      dsimp only [mkQ]
      cases ixOf (k + 1) (ev e n) with
      | none => rfl
      | some m => dsimp only [mkR]; cases roomOk k bytes <;> rfl)
theorem Y8 (k : Nat) (x : Opd) : rg T kp e h (⟨d, none, .off k x⟩ :: r) = rv T r kp e h d (offV k (ea e x)) :=
  rg_val T r kp e h d rfl (by
    simp only [evalO])
theorem Y9 (n sz : Nat) (x i : Opd) : rg T kp e h (⟨d, none, .idx n sz x i⟩ :: r) = rv T r kp e h d (idxO sz (ea e x) (ixOf n (ev e i))) :=
  rg_val T r kp e h d rfl (by
    simp only [evalO, idxO]; cases ixOf n (ev e i) <;> rfl)
theorem Za (sz : Nat) (x i : Opd) : rg T kp e h (⟨d, none, .idxs sz x i⟩ :: r) = rv T r kp e h d (idxsV sz (ea e x) (ev e i)) :=
  rg_val T r kp e h d rfl (by
    simp only [evalO])
theorem Zb (imm : Bool) (n : Option Nat) (x : Opd) : rg T kp e h (⟨d, none, .ld imm n x⟩ :: r) = rv T r kp e h d (ldV imm h n (ev e x)) :=
  rg_val T r kp e h d rfl (by
    simp only [evalO, ldV]; cases ev e x <;> try rfl
    dsimp only [ldR]
    rename_i k o
    cases row (if imm then [] else h) k <;> rfl)
theorem Zc (s : Nat) (n : Option Nat) (x : Opd) : rg T kp e h (⟨d, none, .ldl s n x⟩ :: r) = rv T r kp e h d (ldlV s n (ea e x) (get e s)) :=
  rg_val T r kp e h d rfl (by
    simp only [evalO, ldlV]; cases ea e x <;> try rfl
    dsimp only
    split
    · cases get e s <;> rfl
    · rfl)
theorem Zd (n : Nat) (x v : Opd) : rg T kp e h (⟨d, none, .st n x v⟩ :: r) = rh T r kp e d (stO h n (ev e x) (cells (ev e v))) :=
  rg_hp T r kp e h d rfl (by
    simp only [evalO, stO]; cases ev e x <;> try rfl
    dsimp only [stR]
    rename_i k o
    cases row h k with
    | none => rfl
    | some l =>
      dsimp only [stT, okc]
      by_cases h1 : (cells (ev e v)).length = n <;> by_cases h2 : (cells (ev e v)).all cellV = true <;> by_cases h3 : o + n ≤ l.length <;> simp [h1, h2, h3])
theorem Ze (x : Opd) : rg T kp e h (⟨d, none, .nck x⟩ :: r) = rv T r kp e h d (nckV (ea e x)) :=
  rg_val T r kp e h d rfl (by
    simp only [evalO, nckV]; cases ea e x <;> rfl)
theorem Zf (n : Option Nat) (o : Nat) (x : Opd) : rg T kp e h (⟨d, none, .fld n o x⟩ :: r) = rv T r kp e h d (fldV n o (ev e x)) :=
  rg_val T r kp e h d rfl (by
    simp only [evalO, fldV]; cases ev e x <;> rfl)
theorem Zg (n sz : Nat) (agg : Bool) (x i : Opd) : rg T kp e h (⟨d, none, .idxv n sz agg x i⟩ :: r) = rv T r kp e h d (idxvV sz agg (ev e x) (ixOf n (ev e i))) :=
  rg_val T r kp e h d rfl (by
    simp only [evalO, idxvV]; cases ev e x <;> cases ixOf n (ev e i) <;> rfl)
theorem Zh (x i : Opd) : rg T kp e h (⟨d, none, .idxb x i⟩ :: r) = rv T r kp e h d (idxbV (ev e x) (ev e i)) :=
  rg_val T r kp e h d rfl (by
    simp only [evalO, idxbV]; cases ev e x <;> try rfl
    dsimp only [byJ]
    rename_i l
    cases ixOf l.length (ev e i) with
    | none => rfl
    | some j => dsimp only; cases l[j]? <;> rfl)
theorem Zi (x : Opd) (lo hi : Option Opd) : rg T kp e h (⟨d, none, .sls x lo hi⟩ :: r) = rv T r kp e h d (slsV e lo hi (ev e x)) :=
  rg_val T r kp e h d rfl (by
    simp only [evalO, slsV]; cases ev e x <;> try rfl
    dsimp only [slsR]
    rename_i l
    cases bounds l.length l.length e lo hi <;> rfl)
theorem Zj (sz : Nat) (x : Opd) (lo hi : Option Opd) : rg T kp e h (⟨d, none, .slv sz x lo hi⟩ :: r) = rv T r kp e h d (slcV e sz lo hi (ev e x)) :=
  rg_val T r kp e h d rfl (by
    simp only [evalO])
theorem Zk (imm : Bool) (n sz : Nat) (x : Opd) (lo hi : Option Opd) : rg T kp e h (⟨d, none, .sla imm n sz x lo hi⟩ :: r) = rv T r kp e h d (slaO imm h n sz (bounds n n e lo hi) (ea e x)) :=
  rg_val T r kp e h d rfl (by
    simp only [evalO, slaO, slaV]; cases bounds n n e lo hi <;> rfl)
theorem Zl (n : Nat) (x : Opd) : rg T kp e h (⟨d, none, .s2a n x⟩ :: r) = rv T r kp e h d (s2aV n (ev e x)) :=
  rg_val T r kp e h d rfl (by
    simp only [evalO])
theorem Zm (k : Nat) (x : Opd) : rg T kp e h (⟨d, none, .ext k x⟩ :: r) = rv T r kp e h d (extV k (ev e x)) :=
  rg_val T r kp e h d rfl (by
    simp only [evalO, extV]; cases ev e x <;> rfl)
theorem Zn (f : Nat) (rs : List Nat) (args : List Opd) : rg T kp e h (⟨d, none, .call f rs args⟩ :: r) = rh T r kp e d (callO T e h f rs args) :=
  rg_hp T r kp e h d rfl (by
    simp only [evalO, callV]; cases rs with
    | nil =>
      simp only [callO]
      cases hx : ((evAll e args).map san).all (noHp 8) with
      | true =>
        simp only [if_true, cR, cS]
        cases Run T f ((evAll e args).map san) [] with
        | none => rfl
        | some p => obtain ⟨v, hh⟩ := p; cases hh <;> rfl
      | false => simp [cR]
    | cons a rs =>
      simp only [callO, cM]
      cases lendAll e (a :: rs) (args.map (ea e)) with
      | none => rfl
      | some vs =>
        simp only [cL]
        split
        · cases Run T f vs [] with
          | none => rfl
          | some p => rfl
        · rfl)
theorem Zo (f : Nat) (args : List Opd) : rg T kp e h (⟨d, none, .callo f args⟩ :: r) = rh T r kp e d (Run T f ((evAll e args).map san) h) :=
  rg_hp T r kp e h d rfl (by
    simp only [evalO])
theorem Zp (g : Opd) (args : List Opd) : rg T kp e h (⟨d, none, .cal g args⟩ :: r) = rh T r kp e d (calG T h (ev e g) ((evAll e args).map san)) :=
  rg_hp T r kp e h d rfl (by
    simp only [evalO, callV, calG]; cases ev e g <;> try rfl
    rename_i f a c
    dsimp only
    generalize a ++ (evAll e args).map san ++ c = L
    cases hx : L.all (noHp 8) with
    | true =>
      simp only [if_true, cR, cS]
      cases Run T f L [] with
      | none => rfl
      | some p => obtain ⟨v, hh⟩ := p; cases hh <;> rfl
    | false => simp [cR])
theorem Zq (f : Nat) (a c : List Opd) : rg T kp e h (⟨d, none, .fun_ f a c⟩ :: r) = rv T r kp e h d (fnT f (evAll e a) (evAll e c) ((evAll e a).all plainV && (evAll e c).all plainV)) :=
  rg_val T r kp e h d rfl (by
    simp only [evalO]; cases h1 : (evAll e a).all plainV <;> cases h2 : (evAll e c).all plainV <;> simp [fnT])
theorem Zr (f : Nat) (args : List Opd) : rg T kp e h (⟨d, none, .callp f args⟩ :: r) = rh T r kp e d (cpT T h f ((evAll e args).map san) (((evAll e args).map san).all (noHp 8))) :=
  rg_hp T r kp e h d rfl (by
    simp only [evalO, cpT, cS]; cases hx : ((evAll e args).map san).all (noHp 8) with
    | true =>
      simp only [if_true]
      cases Run T f ((evAll e args).map san) [] with
      | none => rfl
      | some p => obtain ⟨v, hh⟩ := p; cases hh <;> rfl
    | false => simp)
theorem Zs (p : Prim) (args : List Opd) : rg T kp e h (⟨d, none, .prim p args⟩ :: r) = rv T r kp e h d (primV p (evAll e args)) :=
  rg_val T r kp e h d rfl (by
    simp only [evalO])
theorem Zt (x : Opd) : rg T kp e h (⟨d, none, .len x⟩ :: r) = rv T r kp e h d (lenO (lenV (ev e x))) :=
  rg_val T r kp e h d rfl (by
    simp only [evalO, lenO]; cases lenV (ev e x) with
    | none => rfl
    | some n =>
      dsimp only [lenT]
      by_cases hn : n < 9223372036854775808 <;> simp [hn])
theorem Zu (x : Opd) : rg T kp e h (⟨d, none, .lens x⟩ :: r) = rv T r kp e h d (lensO (ev e x)) :=
  rg_val T r kp e h d rfl (by
    simp only [evalO, lensO]; cases ev e x <;> try rfl
    rename_i l
    dsimp only [lenT]
    by_cases hn : l.length < 9223372036854775808 <;> simp [hn])
theorem Zv (x y : Opd) : rg T kp e h (⟨d, none, .mn x y⟩ :: r) = rv T r kp e h d (mnO (ev e x) (ev e y)) :=
  rg_val T r kp e h d rfl (by
    simp only [evalO, mnO]; cases ev e x <;> try rfl
    cases ev e y <;> rfl)
theorem Zw (x y : Opd) : rg T kp e h (⟨d, none, .mx x y⟩ :: r) = rv T r kp e h d (mxO (ev e x) (ev e y)) :=
  rg_val T r kp e h d rfl (by
    simp only [evalO, mxO]; cases ev e x <;> try rfl
    cases ev e y <;> rfl)
theorem Zx (sz bytes : Nat) (x y : Opd) : rg T kp e h (⟨d, none, .app sz bytes x y⟩ :: r) = rh T r kp e d (appO h sz bytes (appC h (ev e y)) (appL (ev e y)) (ev e x)) :=
  rg_hp T r kp e h d rfl (by
    simp only [evalO, appO]; cases appC h (ev e y) <;> cases appL (ev e y) <;> rfl)
theorem Zy (x : Opd) : rg T kp e h (⟨d, none, .frz x⟩ :: r) = rh T r kp e d (frzO h (ev e x)) :=
  rg_hp T r kp e h d rfl (by
    simp only [evalO, frzO]; cases ev e x <;> try rfl
    case hs sz k off len cap =>
      dsimp only [frR]
      cases row h k with
      | none => rfl
      | some l =>
        dsimp only [frT]
        by_cases h1 : off + len * sz ≤ l.length <;> cases h2 : ((l.drop off).take (len * sz)).all flat <;> simp [h1, h2])
theorem Zz (sz : Nat) (x y : Opd) : rg T kp e h (⟨d, none, .cpy sz x y⟩ :: r) = rh T r kp e d (cpyO h sz (sliceCells h (ev e y)) (lenV (ev e y)) (ev e x)) :=
  rg_hp T r kp e h d rfl (by
    simp only [evalO, cpyO]; cases ev e x <;> cases sliceCells h (ev e y) <;> cases lenV (ev e y) <;> rfl)

theorem ZA (s n : Nat) (x v : Opd) : rg T kp e h (⟨d, none, .stl s n x v⟩ :: r) = rl T r kp e h s (slO s n (ea e x) (get e s) (cells (ev e v))) := by
  rw [rg_step]
  simp only [stepO, doO, slO]
  cases ea e x <;> try rfl
  rename_i s' o
  by_cases hs : s' = s
  · simp only [hs, if_true]
    cases get e s <;> try rfl
    rename_i l
    dsimp only [slT, okc]
    by_cases h1 : (cells (ev e v)).length = n <;> by_cases h2 : (cells (ev e v)).all cellV = true <;> by_cases h3 : o + n ≤ l.length <;> simp [h1, h2, h3, rl]
  · simp [hs, rl]
end

theorem ZB (a b : V) : pkV (.b true) a b = some a := Eq.trans rfl rfl
theorem ZC (a b : V) : pkV (.b false) a b = some b := Eq.trans rfl rfl
theorem ZD (b : Bool) : eqR false (some b) = some (.b b) := by cases b <;> rfl
theorem ZE (b : Bool) : eqR true (some b) = some (.b (!b)) := by cases b <;> rfl
theorem ZF (a c : Int) : binV .add (.i a) (.i c) = some (.i (w64 (a + c))) := Eq.trans rfl rfl
theorem ZG (a c : Int) : binV .sub (.i a) (.i c) = some (.i (w64 (a - c))) := Eq.trans rfl rfl
theorem ZH (a c : Int) : binV .mul (.i a) (.i c) = some (.i (w64 (a * c))) := Eq.trans rfl rfl
theorem ZI (a c : Int) : binV .eql (.i a) (.i c) = some (.b (decide (a = c))) := Eq.trans rfl rfl
theorem ZJ (a c : Int) : binV .neq (.i a) (.i c) = some (.b (!decide (a = c))) := Eq.trans rfl rfl
theorem ZK (a c : Int) : binV .lss (.i a) (.i c) = some (.b (decide (a < c))) := Eq.trans rfl rfl
theorem ZL (a c : Int) : binV .leq (.i a) (.i c) = some (.b (decide (a ≤ c))) := Eq.trans rfl rfl
theorem ZM (a c : Int) : binV .gtr (.i a) (.i c) = some (.b (decide (c < a))) := Eq.trans rfl rfl
theorem ZN (a c : Int) : binV .geq (.i a) (.i c) = some (.b (decide (c ≤ a))) := Eq.trans rfl rfl
def qI (a c : Int) (t : Bool) : Option V := match t with
  | true => none
  | false => some (.i (w64 (a.tdiv c)))
def rI (a c : Int) (t : Bool) : Option V := match t with
  | true => none
  | false => some (.i (a.tmod c))
theorem ZO (a c : Int) : binV .quo (.i a) (.i c) = qI a c (decide (c = 0)) := by show (if c = 0 then none else _) = _; by_cases hc : c = 0 <;> simp [hc, qI]
theorem ZP (a c : Int) : binV .rem (.i a) (.i c) = rI a c (decide (c = 0)) := by show (if c = 0 then none else _) = _; by_cases hc : c = 0 <;> simp [hc, rI]
theorem ZQ (a c : Int) : qI a c false = some (.i (w64 (a.tdiv c))) := Eq.trans rfl rfl
theorem ZR (a c : Int) : rI a c false = some (.i (a.tmod c)) := Eq.trans rfl rfl
def qU (w a c : Nat) (t : Bool) : Option V := match t with
  | true => none
  | false => some (.u w (a / c))
def rU (w a c : Nat) (t : Bool) : Option V := match t with
  | true => none
  | false => some (.u w (a % c))
theorem ZS (w a c : Nat) : binV .add (.u w a) (.u w c) = some (.u w ((a + c) % 2 ^ w)) := by
  show (if w = w then arithU .add w a c else none) = _
  rw [if_pos rfl]
  rfl
theorem ZT (w a c : Nat) : binV .sub (.u w a) (.u w c) = some (.u w ((a + 2 ^ w - c) % 2 ^ w)) := by
  show (if w = w then arithU .sub w a c else none) = _
  rw [if_pos rfl]
  rfl
theorem ZU (w a c : Nat) : binV .mul (.u w a) (.u w c) = some (.u w (a * c % 2 ^ w)) := by
  show (if w = w then arithU .mul w a c else none) = _
  rw [if_pos rfl]
  rfl
theorem ZV (w a c : Nat) : binV .and (.u w a) (.u w c) = some (.u w (a &&& c)) := by
  show (if w = w then arithU .and w a c else none) = _
  rw [if_pos rfl]
  rfl
theorem ZW (w a c : Nat) : binV .or (.u w a) (.u w c) = some (.u w (a ||| c)) := by
  show (if w = w then arithU .or w a c else none) = _
  rw [if_pos rfl]
  rfl
theorem ZX (w a c : Nat) : binV .xor (.u w a) (.u w c) = some (.u w (a ^^^ c)) := by
  show (if w = w then arithU .xor w a c else none) = _
  rw [if_pos rfl]
  rfl
theorem ZY (w a c : Nat) : binV .quo (.u w a) (.u w c) = qU w a c (decide (c = 0)) := by
  show (if w = w then arithU .quo w a c else none) = _
  rw [if_pos rfl]
  show (if c = 0 then none else _) = _
  by_cases hc : c = 0 <;> simp [hc, qU]
theorem ZZ (w a c : Nat) : binV .rem (.u w a) (.u w c) = rU w a c (decide (c = 0)) := by
  show (if w = w then arithU .rem w a c else none) = _
  rw [if_pos rfl]
  show (if c = 0 then none else _) = _
  by_cases hc : c = 0 <;> simp [hc, rU]
theorem Z0 (w a c : Nat) : qU w a c false = some (.u w (a / c)) := Eq.trans rfl rfl
theorem Z1 (w a c : Nat) : rU w a c false = some (.u w (a % c)) := Eq.trans rfl rfl
theorem Z2 (w a c : Nat) : binV .eql (.u w a) (.u w c) = some (.b (decide (a = c))) := by
  show (if w = w then arithU .eql w a c else none) = _
  rw [if_pos rfl]
  rfl
theorem Z3 (w a c : Nat) : binV .neq (.u w a) (.u w c) = some (.b (!decide (a = c))) := by
  show (if w = w then arithU .neq w a c else none) = _
  rw [if_pos rfl]
  rfl
theorem Z4 (w a c : Nat) : binV .lss (.u w a) (.u w c) = some (.b (decide (a < c))) := by
  show (if w = w then arithU .lss w a c else none) = _
  rw [if_pos rfl]
  rfl
theorem Z5 (w a c : Nat) : binV .leq (.u w a) (.u w c) = some (.b (decide (a ≤ c))) := by
  show (if w = w then arithU .leq w a c else none) = _
  rw [if_pos rfl]
  rfl
theorem Z6 (w a c : Nat) : binV .gtr (.u w a) (.u w c) = some (.b (decide (c < a))) := by
  show (if w = w then arithU .gtr w a c else none) = _
  rw [if_pos rfl]
  rfl
theorem Z7 (w a c : Nat) : binV .geq (.u w a) (.u w c) = some (.b (decide (c ≤ a))) := by
  show (if w = w then arithU .geq w a c else none) = _
  rw [if_pos rfl]
  rfl
def shO (f : Nat → V) (o : Option Nat) : Option V := match o with
  | some n => some (f n)
  | none => none
theorem Z8 (f : Nat → V) (n : Nat) : shO f (some n) = some (f n) := Eq.trans rfl rfl
theorem Z9 (w a : Nat) (y : V) : binV .shl (.u w a) y = shO (shlU w a) (count w y) := by
  show (count w y).map _ = _
  cases count w y <;> rfl
theorem Ja (w a : Nat) (y : V) : binV .shr (.u w a) y = shO (shrU w a) (count w y) := by
  show (count w y).map _ = _
  cases count w y <;> rfl
def shlJ (a : Int) (n : Nat) : V := .i (w64 (a * 2 ^ n))
def shrJ (a : Int) (n : Nat) : V := .i (a / 2 ^ n)
theorem Jb (a : Int) (y : V) : binV .shl (.i a) y = shO (shlJ a) (count 64 y) := by
  show (count 64 y).map _ = _
  cases count 64 y <;> rfl
theorem Jc (a : Int) (y : V) : binV .shr (.i a) y = shO (shrJ a) (count 64 y) := by
  show (count 64 y).map _ = _
  cases count 64 y <;> rfl
theorem Jd (w a n : Nat) : shlU w a n = .u w (a * 2 ^ n % 2 ^ w) := Eq.trans rfl rfl
theorem Je (w a n : Nat) : shrU w a n = .u w (a / 2 ^ n) := Eq.trans rfl rfl
theorem Jf (a : Int) (n : Nat) : shlJ a n = .i (w64 (a * 2 ^ n)) := Eq.trans rfl rfl
theorem Jg (a : Int) (n : Nat) : shrJ a n = .i (a / 2 ^ n) := Eq.trans rfl rfl
theorem Jh (w v n : Nat) : count w (.u v n) = some (min n w) := Eq.trans rfl rfl
theorem Ji (w n : Nat) : count w (.i (n : Int)) = some (min n w) := by
  show (if 0 ≤ (n : Int) then some (min ((n : Int).toNat) w) else none) = _
  rw [if_pos (by omega)]; simp
theorem Jj (w n : Nat) : count w (.i (no_index (OfNat.ofNat n : Int))) = some (min (OfNat.ofNat n : Nat) w) := Ji w (OfNat.ofNat n)
theorem Jk (w : Nat) : count w (.i 0) = some 0 := by have := Ji w 0; simpa using this
theorem Jl (w : Nat) : count w (.i 1) = some (min 1 w) := Ji w 1
theorem Jm (a c : List Nat) : binV .eql (.s a) (.s c) = some (.b (a == c)) := Eq.trans rfl rfl
theorem Jn (a c : List Nat) : binV .neq (.s a) (.s c) = some (.b (!(a == c))) := Eq.trans rfl rfl
theorem Jo (n : Int) : unV .neg (.i n) = some (.i (w64 (0 - n))) := Eq.trans rfl rfl
theorem Jp (x : Bool) : unV .not (.b x) = some (.b (!x)) := Eq.trans rfl rfl
theorem Jq (w n : Nat) : unV .xor (.u w n) = some (.u w (2 ^ w - 1 - n)) := Eq.trans rfl rfl
theorem Jr (w n : Nat) : unV .neg (.u w n) = some (.u w ((2 ^ w - n) % 2 ^ w)) := Eq.trans rfl rfl
theorem Js (n : Int) : toI (.i n) = some (.i n) := Eq.trans rfl rfl
theorem Jt (w n : Nat) : toI (.u w n) = some (.i (w64 n)) := Eq.trans rfl rfl
theorem Ju (w : Nat) (n : Int) : toU w (.i n) = some (.u w (n % 2 ^ w).toNat) := Eq.trans rfl rfl
theorem Jv (w v n : Nat) : toU w (.u v n) = some (.u w (n % 2 ^ w)) := Eq.trans rfl rfl
theorem Jw (l : List V) : aggO (some l) = some (.agg l) := Eq.trans rfl rfl
theorem Jx (z : Int) : boxO (.i z) = some (.loc [.i z]) := Eq.trans rfl rfl
theorem Jy (z : Int) : boxvO (.i z) = some (.vr [.i z] 0) := Eq.trans rfl rfl
theorem Jz (z : Int) (h : Heap) : boxhO h (.i z) = some (.hp h.length 0, h ++ [some [.i z]]) := Eq.trans rfl rfl
theorem JA (n : Nat) (w : Nat) : boxO (.u w n) = some (.loc [.u w n]) := Eq.trans rfl rfl
theorem JB (n : Nat) (w : Nat) : boxvO (.u w n) = some (.vr [.u w n] 0) := Eq.trans rfl rfl
theorem JC (n : Nat) (w : Nat) (h : Heap) : boxhO h (.u w n) = some (.hp h.length 0, h ++ [some [.u w n]]) := Eq.trans rfl rfl
theorem JD (x : Bool) : boxO (.b x) = some (.loc [.b x]) := Eq.trans rfl rfl
theorem JE (x : Bool) : boxvO (.b x) = some (.vr [.b x] 0) := Eq.trans rfl rfl
theorem JF (x : Bool) (h : Heap) : boxhO h (.b x) = some (.hp h.length 0, h ++ [some [.b x]]) := Eq.trans rfl rfl
theorem JG (s : List Nat) : boxO (.s s) = some (.loc [.s s]) := Eq.trans rfl rfl
theorem JH (s : List Nat) : boxvO (.s s) = some (.vr [.s s] 0) := Eq.trans rfl rfl
theorem JI (s : List Nat) (h : Heap) : boxhO h (.s s) = some (.hp h.length 0, h ++ [some [.s s]]) := Eq.trans rfl rfl
theorem JJ (l : List V) : boxO (.agg l) = some (.loc l) := Eq.trans rfl rfl
theorem JK (l : List V) : boxvO (.agg l) = some (.vr l 0) := Eq.trans rfl rfl
theorem JL (l : List V) (h : Heap) : boxhO h (.agg l) = some (.hp h.length 0, h ++ [some l]) := Eq.trans rfl rfl
theorem JM  : boxO (.nilp) = some (.loc [.nilp]) := Eq.trans rfl rfl
theorem JN  : boxvO (.nilp) = some (.vr [.nilp] 0) := Eq.trans rfl rfl
theorem JO  (h : Heap) : boxhO h (.nilp) = some (.hp h.length 0, h ++ [some [.nilp]]) := Eq.trans rfl rfl
theorem JP (o : Nat) (l : List V) : boxO (.vr l o) = some (.loc [.vr l o]) := Eq.trans rfl rfl
theorem JQ (o : Nat) (l : List V) : boxvO (.vr l o) = some (.vr [.vr l o] 0) := Eq.trans rfl rfl
theorem JR (o : Nat) (l : List V) (h : Heap) : boxhO h (.vr l o) = some (.hp h.length 0, h ++ [some [.vr l o]]) := Eq.trans rfl rfl
theorem JS (o : Nat) (k : Nat) : boxO (.hp k o) = some (.loc [.hp k o]) := Eq.trans rfl rfl
theorem JT (o : Nat) (k : Nat) : boxvO (.hp k o) = some (.vr [.hp k o] 0) := Eq.trans rfl rfl
theorem JU (o : Nat) (k : Nat) (h : Heap) : boxhO h (.hp k o) = some (.hp h.length 0, h ++ [some [.hp k o]]) := Eq.trans rfl rfl
theorem JV  : boxO (.nils) = some (.loc [.nils]) := Eq.trans rfl rfl
theorem JW  : boxvO (.nils) = some (.vr [.nils] 0) := Eq.trans rfl rfl
theorem JX  (h : Heap) : boxhO h (.nils) = some (.hp h.length 0, h ++ [some [.nils]]) := Eq.trans rfl rfl
theorem JY (n : Nat) (l : List V) : boxO (.vs n l) = some (.loc [.vs n l]) := Eq.trans rfl rfl
theorem JZ (n : Nat) (l : List V) : boxvO (.vs n l) = some (.vr [.vs n l] 0) := Eq.trans rfl rfl
theorem J0 (n : Nat) (l : List V) (h : Heap) : boxhO h (.vs n l) = some (.hp h.length 0, h ++ [some [.vs n l]]) := Eq.trans rfl rfl
theorem J1 (n : Nat) (w : Nat) (o : Nat) (m : Nat) (k : Nat) : boxO (.hs n k o w m) = some (.loc [.hs n k o w m]) := Eq.trans rfl rfl
theorem J2 (n : Nat) (w : Nat) (o : Nat) (m : Nat) (k : Nat) : boxvO (.hs n k o w m) = some (.vr [.hs n k o w m] 0) := Eq.trans rfl rfl
theorem J3 (n : Nat) (w : Nat) (o : Nat) (m : Nat) (k : Nat) (h : Heap) : boxhO h (.hs n k o w m) = some (.hp h.length 0, h ++ [some [.hs n k o w m]]) := Eq.trans rfl rfl
theorem J4 (n : Nat) (l : List V) (l2 : List V) : boxO (.fn n l l2) = some (.loc [.fn n l l2]) := Eq.trans rfl rfl
theorem J5 (n : Nat) (l : List V) (l2 : List V) : boxvO (.fn n l l2) = some (.vr [.fn n l l2] 0) := Eq.trans rfl rfl
theorem J6 (n : Nat) (l : List V) (l2 : List V) (h : Heap) : boxhO h (.fn n l l2) = some (.hp h.length 0, h ++ [some [.fn n l l2]]) := Eq.trans rfl rfl
theorem J7 (h : Heap) (sz n : Nat) (l : List V) : litO h true sz n (some l) = some (.vs n l, h) := Eq.trans rfl rfl
theorem J8 (h : Heap) (sz n : Nat) (l : List V) : litO h false sz n (some l) = some (.hs sz h.length 0 n n, h ++ [some l]) := Eq.trans rfl rfl
theorem J9 (h : Heap) (sz bytes : Nat) (z : List V) (v : V) (k : Nat) : mkO h sz bytes z v (some k) = mkQ h sz bytes z k (ixOf (k + 1) v) := Eq.trans rfl rfl
theorem Ka (h : Heap) (sz bytes : Nat) (z : List V) (k m : Nat) : mkQ h sz bytes z k (some m) = mkR h sz z m k (roomOk k bytes) := Eq.trans rfl rfl
theorem Kb (h : Heap) (sz m k : Nat) (z : List V) : mkR h sz z m k true = some (.hs sz h.length 0 m k, h ++ [some (List.replicate k z).flatten]) := Eq.trans rfl rfl
theorem Kc (sz j : Nat) (p : V) : idxO sz p (some j) = offV (j * sz) p := Eq.trans rfl rfl
theorem Kd (k o : Nat) (l : List V) : offV k (.vr l o) = some (.vr l (o + k)) := Eq.trans rfl rfl
theorem Ke (k j o : Nat) : offV k (.hp j o) = some (.hp j (o + k)) := Eq.trans rfl rfl
theorem Kf (k s o : Nat) : offV k (.lp s o) = some (.lp s (o + k)) := Eq.trans rfl rfl
def ivO (l : List V) (sz : Nat) (o : Option Nat) : Option V := match o with
  | some j => some (.vr l (j * sz))
  | none => none
def ihO (k off sz : Nat) (o : Option Nat) : Option V := match o with
  | some j => some (.hp k (off + j * sz))
  | none => none
def ilO (s off sz : Nat) (o : Option Nat) : Option V := match o with
  | some j => some (.lp s (off + j * sz))
  | none => none
theorem Kg (l : List V) (sz j : Nat) : ivO l sz (some j) = some (.vr l (j * sz)) := Eq.trans rfl rfl
theorem Kh (k off sz j : Nat) : ihO k off sz (some j) = some (.hp k (off + j * sz)) := Eq.trans rfl rfl
theorem Ki (s off sz j : Nat) : ilO s off sz (some j) = some (.lp s (off + j * sz)) := Eq.trans rfl rfl
theorem Kj (sz n : Nat) (l : List V) (i : V) : idxsV sz (.vs n l) i = ivO l sz (ixOf n i) := by
  show (ixOf n i).map _ = _
  cases ixOf n i <;> rfl
theorem Kk (sz k off len cap : Nat) (i : V) : idxsV sz (.hs sz k off len cap) i = ihO k off sz (ixOf len i) := by
  show (if sz = sz then (ixOf len i).map _ else none) = _
  rw [if_pos rfl]
  cases ixOf len i <;> rfl
theorem Kl (sz s off len cap : Nat) (i : V) : idxsV sz (.ls sz s off len cap) i = ilO s off sz (ixOf len i) := by
  show (if sz = sz then (ixOf len i).map _ else none) = _
  rw [if_pos rfl]
  cases ixOf len i <;> rfl
theorem Km (imm : Bool) (h : Heap) (n : Option Nat) (l : List V) (o : Nat) : ldV imm h n (.vr l o) = part l o n := Eq.trans rfl rfl
theorem Kn (h : Heap) (n : Option Nat) (k o : Nat) : ldV false h n (.hp k o) = ldR n o (row h k) := Eq.trans rfl rfl
theorem Ko (n : Option Nat) (o : Nat) (l : List V) : ldR n o (some l) = part l o n := Eq.trans rfl rfl
theorem Kp (s o : Nat) (n : Option Nat) (l : List V) : ldlV s n (.lp s o) (.loc l) = part l o n := by simp [ldlV]
theorem Kq (h : Heap) (n k o : Nat) (cs : List V) : stO h n (.hp k o) cs = stR h n k o cs (row h k) := Eq.trans rfl rfl
theorem Kr (h : Heap) (n k o : Nat) (cs l : List V) : stR h n k o cs (some l) = stT h k o cs l (okc n cs o l.length) := Eq.trans rfl rfl
theorem Ks (h : Heap) (k o : Nat) (cs l : List V) : stT h k o cs l true = some (.tup [], setRow h k (splice l o cs)) := Eq.trans rfl rfl
theorem Kt (v : V) (o len : Nat) : okc 1 [v] o len = (cellV v && decide (o + 1 ≤ len)) := by simp [okc]
theorem Ku (n w o len : Nat) (l : List Nat) : okc n (us w l) o len = (decide (l.length = n) && decide (o + n ≤ len)) := by simp only [okc, us_len, us_cellV, Bool.true_and]
theorem Kv (n o len : Nat) (l : List Int) : okc n (is l) o len = (decide (l.length = n) && decide (o + n ≤ len)) := by simp only [okc, is_len, is_cellV, Bool.true_and]
theorem Kw (s n o : Nat) (l cs : List V) : slO s n (.lp s o) (.loc l) cs = slT o cs l (okc n cs o l.length) := by simp [slO]
theorem Kx (o : Nat) (cs l : List V) : slT o cs l true = some (splice l o cs) := Eq.trans rfl rfl
theorem Ky (l : List V) (o : Nat) : nckV (.vr l o) = some (.vr l o) := Eq.trans rfl rfl
theorem Kz (k o : Nat) : nckV (.hp k o) = some (.hp k o) := Eq.trans rfl rfl
theorem KA (k o : Nat) : nckV (.lp k o) = some (.lp k o) := Eq.trans rfl rfl
theorem KB (n : Option Nat) (o : Nat) (l : List V) : fldV n o (.agg l) = part l o n := Eq.trans rfl rfl
theorem KC (sz j : Nat) (l : List V) : idxvV sz false (.agg l) (some j) = part l (j * sz) none := Eq.trans rfl rfl
theorem KD (sz j : Nat) (l : List V) : idxvV sz true (.agg l) (some j) = part l (j * sz) (some sz) := Eq.trans rfl rfl
theorem KE (l : List Nat) (i : V) : idxbV (.s l) i = byJ l (ixOf l.length i) := Eq.trans rfl rfl
theorem KF (l : List Nat) (j : Nat) : byJ l (some j) = byR l[j]? := Eq.trans rfl rfl
theorem KG (c : Nat) : byR (some c) = some (.u 8 c) := Eq.trans rfl rfl
def bdL (h : Nat) (o : Option Nat) : Option (Nat × Nat) := match o with
  | none => none
  | some l => some (l, h)
theorem KH (h l : Nat) : bdL h (some l) = some (l, h) := Eq.trans rfl rfl
theorem KI (len cap : Nat) (e : Env) (lo : Option Opd) : bounds len cap e lo none = bd e lo (some len) := Eq.trans rfl rfl
theorem KJ (len cap : Nat) (e : Env) (lo : Option Opd) (x : Opd) : bounds len cap e lo (some x) = bd e lo (ixOf (cap + 1) (ev e x)) := by
  simp only [bounds, bd]; cases ixOf (cap + 1) (ev e x) <;> rfl
theorem KK (e : Env) (h : Nat) : bd e none (some h) = some (0, h) := Eq.trans rfl rfl
theorem KL (e : Env) (h : Nat) (x : Opd) : bd e (some x) (some h) = bdL h (ixOf (h + 1) (ev e x)) := by
  simp only [bd, bdL]
theorem KM (e : Env) (lo hi : Option Opd) (l : List Nat) : slsV e lo hi (.s l) = slsR l (bounds l.length l.length e lo hi) := Eq.trans rfl rfl
theorem KN (l : List Nat) (a z : Nat) : slsR l (some (a, z)) = some (.s ((l.take z).drop a)) := Eq.trans rfl rfl
def slvR (sz : Nat) (l : List V) (o : Option (Nat × Nat)) : Option V := match o with
  | some (a, z) => some (.vs (z - a) ((l.drop (a * sz)).take ((z - a) * sz)))
  | none => none
def slhR (sz k off cap : Nat) (o : Option (Nat × Nat)) : Option V := match o with
  | some (a, z) => some (.hs sz k (off + a * sz) (z - a) (cap - a))
  | none => none
theorem KO (sz : Nat) (l : List V) (a z : Nat) : slvR sz l (some (a, z)) = some (.vs (z - a) ((l.drop (a * sz)).take ((z - a) * sz))) := Eq.trans rfl rfl
theorem KP (sz k off cap a z : Nat) : slhR sz k off cap (some (a, z)) = some (.hs sz k (off + a * sz) (z - a) (cap - a)) := Eq.trans rfl rfl
theorem KQ (e : Env) (sz : Nat) (lo hi : Option Opd) (n : Nat) (l : List V) : slcV e sz lo hi (.vs n l) = slvR sz l (bounds n n e lo hi) := by
  simp only [slcV, slvR]
  cases bounds n n e lo hi <;> rfl
theorem KR (e : Env) (sz : Nat) (lo hi : Option Opd) (k off len cap : Nat) : slcV e sz lo hi (.hs sz k off len cap) = slhR sz k off cap (bounds len cap e lo hi) := by
  simp only [slcV, slhR, if_true]
  cases bounds len cap e lo hi <;> rfl
theorem KS (imm : Bool) (h : Heap) (n sz a z s o : Nat) : slaO imm h n sz (some (a, z)) (.lp s o) = some (.ls sz s (o + a * sz) (z - a) (n - a)) := Eq.trans rfl rfl
def slaT (l : List V) (sz o a z : Nat) (t : Bool) : Option V := match t with
  | true => some (.vs (z - a) ((l.drop (o + a * sz)).take ((z - a) * sz)))
  | false => none
theorem KT (l : List V) (sz o a z : Nat) : slaT l sz o a z true = some (.vs (z - a) ((l.drop (o + a * sz)).take ((z - a) * sz))) := Eq.trans rfl rfl
theorem KU (imm : Bool) (h : Heap) (n sz a z o : Nat) (l : List V) : slaO imm h n sz (some (a, z)) (.vr l o) = slaT l sz o a z (decide (o + n * sz ≤ l.length)) := by
  simp only [slaO, slaT]
  by_cases hc : o + n * sz ≤ l.length <;> simp [hc]
theorem KV (a : V) (l : List V) : extV 0 (.tup (a :: l)) = some a := Eq.trans rfl rfl
theorem KW (a b : V) (l : List V) : extV 1 (.tup (a :: b :: l)) = some b := Eq.trans rfl rfl
theorem KX (a b c : V) (l : List V) : extV 2 (.tup (a :: b :: c :: l)) = some c := Eq.trans rfl rfl
theorem KY (T : Nat → Option MFn) (h : Heap) (f : Nat) (e : Env) (args : List Opd) : callO T e h f [] args = cR T h f ((evAll e args).map san) (((evAll e args).map san).all (noHp 8)) := Eq.trans rfl rfl
theorem KZ (T : Nat → Option MFn) (h : Heap) (f : Nat) (vs : List V) : cR T h f vs true = cS h (Run T f vs []) := Eq.trans rfl rfl
theorem K0 (T : Nat → Option MFn) (h : Heap) (f : Nat) (vs : List V) : cR T h f vs false = Run T f vs h := Eq.trans rfl rfl
theorem K1 (h : Heap) (v : V) : cS h (some (v, [])) = some (v, h) := Eq.trans rfl rfl
theorem K2 (T : Nat → Option MFn) (h : Heap) (f : Nat) (vs : List V) : calG T h (.fn f [] []) vs = cR T h f vs (vs.all (noHp 8)) := by simp [calG]
theorem K3 (T : Nat → Option MFn) (h : Heap) (f : Nat) (x : V) (vs : List V) : calG T h (.fn f [x] []) vs = cR T h f (x :: vs) ((x :: vs).all (noHp 8)) := by simp [calG]
theorem K4 (f : Nat) (a c : List V) : fnT f a c true = some (.fn f a c) := Eq.trans rfl rfl
theorem K5 (T : Nat → Option MFn) (h : Heap) (f : Nat) (vs : List V) : cpT T h f vs true = cS h (Run T f vs []) := Eq.trans rfl rfl
theorem K6 (z : Int) : scalar (.i z) = true := Eq.trans rfl rfl
theorem K7 (n : Nat) (w : Nat) : scalar (.u w n) = true := Eq.trans rfl rfl
theorem K8 (x : Bool) : scalar (.b x) = true := Eq.trans rfl rfl
theorem K9 (s : List Nat) : scalar (.s s) = true := Eq.trans rfl rfl
def paT (x y c : Nat) (t : Bool) : Option V := match t with
  | true => some (.tup [.u 64 ((x + y + c) % 2 ^ 64), .u 64 ((x + y + c) / 2 ^ 64)])
  | false => none
def psT (x y c : Nat) (t : Bool) : Option V := match t with
  | true => some (.tup [.u 64 ((x + 2 ^ 64 - y - c) % 2 ^ 64), .u 64 (if x < y + c then 1 else 0)])
  | false => none
theorem Ga (x y c : Nat) : primV .add64 [.u 64 x, .u 64 y, .u 64 c] = paT x y c (decide (c ≤ 1)) := by
  show (if c ≤ 1 then _ else none) = _
  by_cases hc : c ≤ 1 <;> simp [hc, paT]
theorem Gb (x y c : Nat) : primV .sub64 [.u 64 x, .u 64 y, .u 64 c] = psT x y c (decide (c ≤ 1)) := by
  show (if c ≤ 1 then _ else none) = _
  by_cases hc : c ≤ 1 <;> simp [hc, psT]
theorem Gc (x y c : Nat) : paT x y c true = some (.tup [.u 64 ((x + y + c) % 2 ^ 64), .u 64 ((x + y + c) / 2 ^ 64)]) := Eq.trans rfl rfl
theorem Gd (x y c : Nat) : psT x y c true = some (.tup [.u 64 ((x + 2 ^ 64 - y - c) % 2 ^ 64), .u 64 (if x < y + c then 1 else 0)]) := Eq.trans rfl rfl
theorem Ge  : lenV .nils = some 0 := Eq.trans rfl rfl
theorem Gf (n : Nat) (l : List V) : lenV (.vs n l) = some n := Eq.trans rfl rfl
theorem Gg (sz k o n c : Nat) : lenV (.hs sz k o n c) = some n := Eq.trans rfl rfl
theorem Gh (sz k o n c : Nat) : lenV (.ls sz k o n c) = some n := Eq.trans rfl rfl
theorem Gi  : appL .nils = some 0 := Eq.trans rfl rfl
theorem Gj (n : Nat) (l : List V) : appL (.vs n l) = some n := Eq.trans rfl rfl
theorem Gk (sz k o n c : Nat) : appL (.hs sz k o n c) = some n := Eq.trans rfl rfl
theorem Gl (l : List Nat) : appL (.s l) = some l.length := Eq.trans rfl rfl
theorem Gm (n : Nat) : lenO (some n) = lenT n (decide (n < 9223372036854775808)) := Eq.trans rfl rfl
theorem Gn (n : Nat) : lenT n true = some (.i n) := Eq.trans rfl rfl
theorem Gp (l : List Nat) : lensO (.s l) = lenT l.length (decide (l.length < 9223372036854775808)) := Eq.trans rfl rfl
theorem Gq (a b : Int) : mnO (.i a) (.i b) = some (.i (if b < a then b else a)) := Eq.trans rfl rfl
theorem Gr (a b : Int) : mxO (.i a) (.i b) = some (.i (if a < b then b else a)) := Eq.trans rfl rfl
def okA (sz bytes n b : Nat) (m : List V) : Bool := roomOk n bytes && (decide (m.length = b * sz) && m.all cellV)
def apA (h : Heap) (sz b : Nat) (m : List V) (z t : Bool) : Option (V × Heap) := match z with
  | true => some (.nils, h)
  | false => match t with
    | true => some (.hs sz h.length 0 b b, h ++ [some m])
    | false => none
theorem Gs (h : Heap) (sz bytes b : Nat) (m : List V) : appO h sz bytes (some m) (some b) .nils = apA h sz b m (decide (b = 0)) (okA sz bytes b b m) := by
  simp only [appO, apA, okA]
  by_cases h0 : b = 0 <;> by_cases h1 : roomOk b bytes = true <;> by_cases h2 : m.length = b * sz <;> by_cases h3 : m.all cellV = true <;> simp [h0, h1, h2, h3]
theorem Gt (h : Heap) (sz b : Nat) (m : List V) (t : Bool) : apA h sz b m true t = some (.nils, h) := Eq.trans rfl rfl
theorem Gu (h : Heap) (sz b : Nat) (m : List V) : apA h sz b m false true = some (.hs sz h.length 0 b b, h ++ [some m]) := Eq.trans rfl rfl
def apD (h : Heap) (sz k off len b : Nat) (m l : List V) (t1 t2 : Bool) : Option (V × Heap) := match t1 && t2 with
  | true => some (.hs sz h.length 0 (len + b) (len + b), h.set k none ++ [some ((l.drop off).take (len * sz) ++ m)])
  | false => none
def apB (h : Heap) (sz bytes k off len b : Nat) (m : List V) (o : Option (List V)) : Option (V × Heap) := match o with
  | some l => apD h sz k off len b m l (decide (off + len * sz ≤ l.length)) (okA sz bytes (len + b) b m)
  | none => none
theorem Gv (h : Heap) (sz bytes b k off len cap : Nat) (m : List V) : appO h sz bytes (some m) (some b) (.hs sz k off len cap) = apB h sz bytes k off len b m (row h k) := by
  simp only [appO, apB, apD, okA]
  cases row h k with
  | none => rfl
  | some l => by_cases h0 : off + len * sz ≤ l.length <;> by_cases h1 : roomOk (len + b) bytes = true <;> by_cases h2 : m.length = b * sz <;> by_cases h3 : m.all cellV = true <;> simp [h0, h1, h2, h3]
theorem Gw (h : Heap) (sz bytes k off len b : Nat) (m l : List V) : apB h sz bytes k off len b m (some l) = apD h sz k off len b m l (decide (off + len * sz ≤ l.length)) (okA sz bytes (len + b) b m) := Eq.trans rfl rfl
theorem Gx (h : Heap) (sz k off len b : Nat) (m l : List V) : apD h sz k off len b m l true true = some (.hs sz h.length 0 (len + b) (len + b), h.set k none ++ [some ((l.drop off).take (len * sz) ++ m)]) := Eq.trans rfl rfl
theorem Gy (h : Heap) (sz k off len cap : Nat) : frzO h (.hs sz k off len cap) = frR h sz k off len (row h k) := Eq.trans rfl rfl
theorem Gz (h : Heap) : frzO h .nils = some (.vs 0 [], h) := Eq.trans rfl rfl
theorem GA (h : Heap) (n : Nat) (l : List V) : frzO h (.vs n l) = some (.vs n l, h) := Eq.trans rfl rfl
theorem GB (h : Heap) (k off len w : Nat) (l : List Nat) : frR h 1 k off len (some (us w l)) = frT h k len (us w ((l.drop off).take len)) (decide (off + len ≤ l.length)) true := by
  simp only [frR, us_len, Nat.mul_one, us_drop, us_take, us_flat]
theorem GC (h : Heap) (k off len : Nat) (l : List Int) : frR h 1 k off len (some (is l)) = frT h k len (is ((l.drop off).take len)) (decide (off + len ≤ l.length)) true := by
  simp only [frR, is_len, Nat.mul_one, is_drop, is_take, is_flat]
theorem GD (h : Heap) (k len : Nat) (l : List V) : frT h k len l true true = some (.vs len l, h.set k none) := Eq.trans rfl rfl
theorem GE (bytes n b w : Nat) (l : List Nat) : okA 1 bytes n b (us w l) = (roomOk n bytes && decide (l.length = b)) := by simp only [okA, us_len, us_cellV, Nat.mul_one, Bool.and_true]
theorem GF (bytes n b : Nat) (l : List Int) : okA 1 bytes n b (is l) = (roomOk n bytes && decide (l.length = b)) := by simp only [okA, is_len, is_cellV, Nat.mul_one, Bool.and_true]
theorem GG (h : Heap) : sliceCells h .nils = some [] := Eq.trans rfl rfl
theorem GH (h : Heap) : appC h .nils = some [] := Eq.trans rfl rfl
theorem GI (h : Heap) (n : Nat) (l : List V) : appC h (.vs n l) = some l := Eq.trans rfl rfl
theorem GJ (h : Heap) (l : List Nat) : appC h (.s l) = some (us 8 l) := Eq.trans rfl rfl
theorem GK (h : Heap) (sz k off len cap : Nat) : appC h (.hs sz k off len cap) = sliceCells h (.hs sz k off len cap) := Eq.trans rfl rfl
theorem GL (h : Heap) (n : Nat) (l : List V) : sliceCells h (.vs n l) = some l := Eq.trans rfl rfl
def scR (sz off len : Nat) (o : Option (List V)) : Option (List V) := match o with
  | some l => if off + len * sz ≤ l.length then some ((l.drop off).take (len * sz)) else none
  | none => none
theorem GM (h : Heap) (sz k off len cap : Nat) : sliceCells h (.hs sz k off len cap) = scR sz off len (row h k) := by
  simp only [sliceCells, scR]; cases row h k <;> rfl
theorem GN (off len w : Nat) (l : List Nat) (hl : off + len ≤ l.length) : scR 1 off len (some (us w l)) = some (us w ((l.drop off).take len)) := by
  simp only [scR, us_len, Nat.mul_one, hl, if_true, us_drop, us_take]
theorem GO (off len : Nat) (l : List Int) (hl : off + len ≤ l.length) : scR 1 off len (some (is l)) = some (is ((l.drop off).take len)) := by
  simp only [scR, is_len, Nat.mul_one, hl, if_true, is_drop, is_take]
theorem GP (m : Nat) (z : Int) : noHp (m + 1) (.i z) = true := Eq.trans rfl rfl
theorem GQ (n : Nat) (w : Nat) (m : Nat) : noHp (m + 1) (.u w n) = true := Eq.trans rfl rfl
theorem GR (m : Nat) (x : Bool) : noHp (m + 1) (.b x) = true := Eq.trans rfl rfl
theorem GS (m : Nat) (s : List Nat) : noHp (m + 1) (.s s) = true := Eq.trans rfl rfl
theorem GT (m : Nat) : noHp (m + 1) (.nilp) = true := Eq.trans rfl rfl
theorem GU (m : Nat) : noHp (m + 1) (.nils) = true := Eq.trans rfl rfl

theorem GV (m w k : Nat) (l : List Nat) : noHp (m + 1 + 1) (.vs k (us w l)) = true := by simp only [noHp]; exact us_noHp w m l
theorem GW (m k : Nat) (l : List Int) : noHp (m + 1 + 1) (.vs k (is l)) = true := by simp only [noHp]; exact is_noHp m l
theorem GX (m w : Nat) (l : List Nat) : noHp (m + 1 + 1) (.agg (us w l)) = true := by simp only [noHp]; exact us_noHp w m l
theorem GY (m w k : Nat) (l : List Nat) : noHp (m + 1 + 1) (.vr (us w l) k) = true := by simp only [noHp]; exact us_noHp w m l
theorem GZ (m sz k o len cap : Nat) : noHp m (.hs sz k o len cap) = false := by cases m <;> rfl
theorem G0 (m k o : Nat) : noHp m (.hp k o) = false := by cases m <;> rfl
theorem G1 (nk : Bool) (h : Heap) (b m k w : Nat) (l : List Nat) : fzV nk h b (m + 1) (.vs k (us w l)) = some (.vs k (us w l)) := fz_vs_us nk h b m w k l
theorem G2 (nk : Bool) (h : Heap) (b m k : Nat) (l : List Int) : fzV nk h b (m + 1) (.vs k (is l)) = some (.vs k (is l)) := fz_vs_is nk h b m k l
theorem G3 (nk : Bool) (h : Heap) (b m w : Nat) (l : List Nat) : fzV nk h b (m + 1 + 1) (.agg (us w l)) = some (.agg (us w l)) := fz_agg_us nk h b m w l
theorem G4 (l : List V) (o : Nat) (v : V) : splice l o [v] = l.set o v := Eq.trans rfl rfl
def fiT (z : List V) (o : Nat) (v : V) (n : Nat) (r : List (Nat × Nat × V)) (t : Bool) : Option (List V) := match t with
  | true => fill (splice z o (cells v)) r
  | false => none
theorem G5 (z : List V) : fill z [] = some z := Eq.trans rfl rfl
theorem G6 (z : List V) (o n : Nat) (v : V) (r : List (Nat × Nat × V)) : fill z ((o, n, v) :: r) = fiT z o v n r (okc n (cells v) o z.length) := by
  simp only [fill, fiT, okc]
  by_cases h1 : (cells v).length = n <;> by_cases h2 : (cells v).all cellV = true <;> by_cases h3 : o + n ≤ z.length <;> simp [h1, h2, h3]
theorem G7 (z : List V) (o : Nat) (v : V) (n : Nat) (r : List (Nat × Nat × V)) : fiT z o v n r true = fill (splice z o (cells v)) r := Eq.trans rfl rfl
theorem G8 (l : List V) (h : Heap) : row (some l :: h) 0 = some l := Eq.trans rfl rfl
theorem G9 (x : Option (List V)) (l : List V) (h : Heap) : row (x :: some l :: h) 1 = some l := Eq.trans rfl rfl
theorem ζa (x y : Option (List V)) (l : List V) (h : Heap) : row (x :: y :: some l :: h) 2 = some l := Eq.trans rfl rfl
theorem ζb (x : Option (List V)) (h : Heap) (l : List V) : setRow (x :: h) 0 l = some l :: h := Eq.trans rfl rfl
theorem ζc (x y : Option (List V)) (h : Heap) (l : List V) : setRow (x :: y :: h) 1 l = x :: some l :: h := Eq.trans rfl rfl
theorem ζd (x y z : Option (List V)) (h : Heap) (l : List V) : setRow (x :: y :: z :: h) 2 l = x :: y :: some l :: h := Eq.trans rfl rfl
theorem ζe (l : List (Option (List V))) : ([] : Heap) ++ l = l := Eq.trans rfl rfl
theorem ζf (x : Option (List V)) (h l : Heap) : (x :: h) ++ l = x :: (h ++ l) := Eq.trans rfl rfl
theorem ζg (x y : Option (List V)) (h : Heap) : (x :: h).set 0 y = y :: h := Eq.trans rfl rfl
theorem ζh (x x2 y : Option (List V)) (h : Heap) : (x :: x2 :: h).set 1 y = x :: y :: h := Eq.trans rfl rfl
theorem ζi (x x2 x3 y : Option (List V)) (h : Heap) : (x :: x2 :: x3 :: h).set 2 y = x :: x2 :: y :: h := Eq.trans rfl rfl
theorem ζj (w a c : Nat) : binV .andNot (.u w a) (.u w c) = some (.u w (a &&& (2 ^ w - 1 - c))) := by show (if w = w then arithU .andNot w a c else none) = _; simp [arithU]
theorem ζk (k o : Nat) : plainV (.hp k o) = true := Eq.trans rfl rfl
theorem ζl (l : List V) (o : Nat) : plainV (.vr l o) = true := Eq.trans rfl rfl
theorem ζm (l : List V) : plainV (.agg l) = true := Eq.trans rfl rfl

theorem ζn (d s : Nat) : mv d s = ⟨some d, none, .mov (.t s)⟩ := Eq.trans rfl rfl
theorem ζo (d : Nat) (x : MOp) : op d x = ⟨some d, none, x⟩ := Eq.trans rfl rfl
theorem ζp (x : Nat) : part (us 64 (dl 64 9 x)) 0 (some 9) = some (.agg (us 64 (dl 64 9 x))) := part_us (dl_len 64 9 x)
theorem ζq (x : Nat) : part (us 64 (dl 64 18 x)) 0 (some 18) = some (.agg (us 64 (dl 64 18 x))) := part_us (dl_len 64 18 x)
theorem ζr (x y : Nat) : splice (us 64 (dl 64 9 x)) 0 (us 64 (dl 64 9 y)) = us 64 (dl 64 9 y) := sp_us (by rw [us_len, dl_len, dl_len])
theorem ζs (x y : Nat) : splice (us 64 (dl 64 18 x)) 0 (us 64 (dl 64 18 y)) = us 64 (dl 64 18 y) := sp_us (by rw [us_len, dl_len, dl_len])

/-- An equation that the decision procedures for numbers shall not look at. -/
structure F {α : Type} (a b : α) : Prop where
  eq : a = b

set_option linter.defProp false in
/-- All rules in one (simp takes it apart). -/
def EE := (And.intro (And.intro (And.intro (And.intro (And.intro (And.intro (And.intro (And.intro @Qa (And.intro @Qb @Qc)) (And.intro (And.intro @Qd @Qe) (And.intro @Qf @Qg))) (And.intro (And.intro @Qh (And.intro @Qi @Qj)) (And.intro (And.intro @Qk @Ql) (And.intro @Qm @Qn)))) (And.intro (And.intro (And.intro @Qo (And.intro @Qp @Qq)) (And.intro (And.intro @Qr @Qs) (And.intro @Qt @Qu))) (And.intro (And.intro @Qv (And.intro @Qw @Qx)) (And.intro (And.intro @Qy @Qz) (And.intro @QA @QB))))) (And.intro (And.intro (And.intro (And.intro @QC (And.intro @QD @QE)) (And.intro (And.intro @QF @QG) (And.intro @QH @QI))) (And.intro (And.intro @QJ (And.intro @QK @QL)) (And.intro (And.intro @QM @QN) (And.intro @QO @QP)))) (And.intro (And.intro (And.intro @QQ (And.intro @QR @QS)) (And.intro (And.intro @QT @QU) (And.intro @QV @QW))) (And.intro (And.intro @QX (And.intro @QY @QZ)) (And.intro (And.intro @Q0 @Q1) (And.intro @Q2 @Q3)))))) (And.intro (And.intro (And.intro (And.intro (And.intro @Q4 (And.intro @Q5 @Q6)) (And.intro (And.intro @Q7 @Q8) (And.intro @Q9 @Xa))) (And.intro (And.intro @Xb (And.intro @Xc @Xd)) (And.intro (And.intro @Xe @Xf) (And.intro @Xg @Xh)))) (And.intro (And.intro (And.intro @Xi (And.intro @Xj @Xk)) (And.intro (And.intro @Xl @Xm) (And.intro @Xn @Xo))) (And.intro (And.intro @Xp (And.intro @Xq @Xr)) (And.intro (And.intro @Xs @Xt) (And.intro @Xu @Xv))))) (And.intro (And.intro (And.intro (And.intro @Xw (And.intro @Xx @Xy)) (And.intro (And.intro @Xz @XA) (And.intro @XB @XC))) (And.intro (And.intro @XD (And.intro @XE @XF)) (And.intro (And.intro @XG @XH) (And.intro @XI @XJ)))) (And.intro (And.intro (And.intro @XK (And.intro @XL @XM)) (And.intro (And.intro @XN @XO) (And.intro @XP @XQ))) (And.intro (And.intro (And.intro @XR @XS) (And.intro @XT @XU)) (And.intro (And.intro @XV @XW) (And.intro @XX @XY))))))) (And.intro (And.intro (And.intro (And.intro (And.intro (And.intro @XZ (And.intro @X0 @X1)) (And.intro (And.intro @X2 @X3) (And.intro @X4 @X5))) (And.intro (And.intro @X6 (And.intro @X7 @X8)) (And.intro (And.intro @X9 @Ya) (And.intro @Yb @Yc)))) (And.intro (And.intro (And.intro @Yd (And.intro @Ye @Yf)) (And.intro (And.intro @Yg @Yh) (And.intro @Yi @Yj))) (And.intro (And.intro @Yk (And.intro @Yl @Ym)) (And.intro (And.intro @Yn @Yo) (And.intro @Yp @Yq))))) (And.intro (And.intro (And.intro (And.intro @Yr (And.intro @Ys @Yt)) (And.intro (And.intro @Yu @Yv) (And.intro @Yw @Yx))) (And.intro (And.intro @Yy (And.intro @Yz @YA)) (And.intro (And.intro @YB @YC) (And.intro @YD @YE)))) (And.intro (And.intro (And.intro @YF (And.intro @YG @YH)) (And.intro (And.intro @YI @YJ) (And.intro @YK @YL))) (And.intro (And.intro @YM (And.intro @YN @YO)) (And.intro (And.intro @YP @YQ) (And.intro @YR @YS)))))) (And.intro (And.intro (And.intro (And.intro (And.intro @YT (And.intro @YU @YV)) (And.intro (And.intro @YW @YX) (And.intro @YY @YZ))) (And.intro (And.intro @Y0 (And.intro @Y1 @Y2)) (And.intro (And.intro @Y3 @Y4) (And.intro @Y5 @Y6)))) (And.intro (And.intro (And.intro @Y7 (And.intro @Y8 @Y9)) (And.intro (And.intro @Za @Zb) (And.intro @Zc @Zd))) (And.intro (And.intro @Ze (And.intro @Zf @Zg)) (And.intro (And.intro @Zh @Zi) (And.intro @Zj @Zk))))) (And.intro (And.intro (And.intro (And.intro @Zl (And.intro @Zm @Zn)) (And.intro (And.intro @Zo @Zp) (And.intro @Zq @Zr))) (And.intro (And.intro @Zs (And.intro @Zt @Zu)) (And.intro (And.intro @Zv @Zw) (And.intro @Zx @Zy)))) (And.intro (And.intro (And.intro @Zz (And.intro @ZA @ZB)) (And.intro (And.intro @ZC @ZD) (And.intro @ZE @ZF))) (And.intro (And.intro (And.intro @ZG @ZH) (And.intro @ZI @ZJ)) (And.intro (And.intro @ZK @ZL) (And.intro @ZM @ZN)))))))) (And.intro (And.intro (And.intro (And.intro (And.intro (And.intro (And.intro @ZO (And.intro @ZP @ZQ)) (And.intro (And.intro @ZR @ZS) (And.intro @ZT @ZU))) (And.intro (And.intro @ZV (And.intro @ZW @ZX)) (And.intro (And.intro @ZY @ZZ) (And.intro @Z0 @Z1)))) (And.intro (And.intro (And.intro @Z2 (And.intro @Z3 @Z4)) (And.intro (And.intro @Z5 @Z6) (And.intro @Z7 @Z8))) (And.intro (And.intro @Z9 (And.intro @Ja @Jb)) (And.intro (And.intro @Jc @Jd) (And.intro @Je @Jf))))) (And.intro (And.intro (And.intro (And.intro @Jg (And.intro @Jh @Ji)) (And.intro (And.intro @Jj @Jk) (And.intro @Jl @Jm))) (And.intro (And.intro @Jn (And.intro @Jo @Jp)) (And.intro (And.intro @Jq @Jr) (And.intro @Js @Jt)))) (And.intro (And.intro (And.intro @Ju (And.intro @Jv @Jw)) (And.intro (And.intro @Jx @Jy) (And.intro @Jz @JA))) (And.intro (And.intro @JB (And.intro @JC @JD)) (And.intro (And.intro @JE @JF) (And.intro @JG @JH)))))) (And.intro (And.intro (And.intro (And.intro (And.intro @JI (And.intro @JJ @JK)) (And.intro (And.intro @JL @JM) (And.intro @JN @JO))) (And.intro (And.intro @JP (And.intro @JQ @JR)) (And.intro (And.intro @JS @JT) (And.intro @JU @JV)))) (And.intro (And.intro (And.intro @JW (And.intro @JX @JY)) (And.intro (And.intro @JZ @J0) (And.intro @J1 @J2))) (And.intro (And.intro @J3 (And.intro @J4 @J5)) (And.intro (And.intro @J6 @J7) (And.intro @J8 @J9))))) (And.intro (And.intro (And.intro (And.intro @Ka (And.intro @Kb @Kc)) (And.intro (And.intro @Kd @Ke) (And.intro @Kf @Kg))) (And.intro (And.intro @Kh (And.intro @Ki @Kj)) (And.intro (And.intro @Kk @Kl) (And.intro @Km @Kn)))) (And.intro (And.intro (And.intro @Ko (And.intro @Kp @Kq)) (And.intro (And.intro @Kr @Ks) (And.intro @Kt @Ku))) (And.intro (And.intro (And.intro @Kv @Kw) (And.intro @Kx @Ky)) (And.intro (And.intro @Kz @KA) (And.intro @KB @KC))))))) (And.intro (And.intro (And.intro (And.intro (And.intro (And.intro @KD (And.intro @KE @KF)) (And.intro (And.intro @KG @KH) (And.intro @KI @KJ))) (And.intro (And.intro @KK (And.intro @KL @KM)) (And.intro (And.intro @KN @KO) (And.intro @KP @KQ)))) (And.intro (And.intro (And.intro @KR (And.intro @KS @KT)) (And.intro (And.intro @KU @KV) (And.intro @KW @KX))) (And.intro (And.intro @KY (And.intro @KZ @K0)) (And.intro (And.intro @K1 @K2) (And.intro @K3 @K4))))) (And.intro (And.intro (And.intro (And.intro @K5 (And.intro @K6 @K7)) (And.intro (And.intro @K8 @K9) (And.intro @Ga @Gb))) (And.intro (And.intro @Gc (And.intro @Gd @Ge)) (And.intro (And.intro @Gf @Gg) (And.intro @Gh @Gi)))) (And.intro (And.intro (And.intro @Gj (And.intro @Gk @Gl)) (And.intro (And.intro @Gm @Gn) (And.intro @Gp @Gq))) (And.intro (And.intro @Gr (And.intro @Gs @Gt)) (And.intro (And.intro @Gu @Gv) (And.intro @Gw @Gx)))))) (And.intro (And.intro (And.intro (And.intro (And.intro @Gy (And.intro @Gz @GA)) (And.intro (And.intro @GB @GC) (And.intro @GD @GE))) (And.intro (And.intro @GF (And.intro @GG @GH)) (And.intro (And.intro @GI @GJ) (And.intro @GK @GL)))) (And.intro (And.intro (And.intro @GM (And.intro @GN @GO)) (And.intro (And.intro @GP @GQ) (And.intro @GR @GS))) (And.intro (And.intro @GT (And.intro @GU @GV)) (And.intro (And.intro @GW @GX) (And.intro @GY @GZ))))) (And.intro (And.intro (And.intro (And.intro @G0 (And.intro @G1 @G2)) (And.intro (And.intro @G3 @G4) (And.intro @G5 @G6))) (And.intro (And.intro @G7 (And.intro @G8 @G9)) (And.intro (And.intro @ζa @ζb) (And.intro @ζc @ζd)))) (And.intro (And.intro (And.intro @ζe (And.intro @ζf @ζg)) (And.intro (And.intro @ζh @ζi) (And.intro @ζj @ζk))) (And.intro (And.intro (And.intro @ζl @ζm) (And.intro @ζn @ζo)) (And.intro (And.intro @ζp @ζq) (And.intro @ζr @ζs)))))))))

set_option linter.defProp false in
/-- The library's rules that all texts use. -/
def EX := (And.intro (And.intro (And.intro (And.intro (And.intro @Nat.le_refl @List.drop_zero.{0}) (And.intro @us_take @us_drop)) (And.intro (And.intro @is_take @is_drop) (And.intro @List.take_zero.{0} @gn))) (And.intro (And.intro (And.intro @Nat.succ_ne_self @Nat.zero_add) (And.intro @Nat.add_zero @Nat.mul_one)) (And.intro (And.intro @Nat.one_mul @Nat.zero_mul) (And.intro @Nat.sub_zero (And.intro @Bool.and_self @Bool.and_true))))) (And.intro (And.intro (And.intro (And.intro @Bool.true_and @Bool.false_and) (And.intro @Bool.and_false @Bool.not_true)) (And.intro (And.intro @Bool.not_false @List.length_cons.{0}) (And.intro @List.length_nil.{0} (And.intro @us_len @is_len)))) (And.intro (And.intro (And.intro @tb_len @dl_len) (And.intro @us_set @is_set)) (And.intro (And.intro @tb_set @Nat.not_lt_zero) (And.intro @List.nil_append.{0} (And.intro @us_rep @is_rep))))))
end Mir
