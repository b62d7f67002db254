/- A small deterministic language in which a Go function's operations are written down again, and its interpreter. Conditions: none. -/
namespace Mir

/-- Values as trees. 'i': int; 'u w': an unsigned number of w bits; 's': a string's bytes; 'agg': a struct's or an array's cells;
'tup': several results ([]: none); 'vr': a pointer to cells that nobody writes any more; 'hp', 'hs': a pointer, a slice into the
small heap; 'vs': a slice of cells that nobody writes any more; 'loc': (a slot that holds a pointer to) a local variable's cells;
'lp', 'ls': a pointer, a slice into the local variable of a slot. -/
inductive V where
  | i (n : Int)
  | u (w : Nat) (n : Nat)
  | b (x : Bool)
  | s (l : List Nat)
  | agg (l : List V)
  | tup (l : List V)
  | nilp
  | vr (l : List V) (off : Nat)
  | hp (k off : Nat)
  | nils
  | vs (n : Nat) (l : List V)
  | hs (sz k off len cap : Nat)
  | fn (f : Nat) (first captured : List V)
  | loc (l : List V)
  | lp (s off : Nat)
  | ls (sz s off len cap : Nat)
  | undef
  | nilf

instance : Inhabited V := ⟨.undef⟩

abbrev Env := List (Nat × V)
abbrev Heap := List (Option (List V))

structure St where
  e : Env
  h : Heap

inductive Opd where
  | t (s : Nat)
  | c (v : V)

inductive Bin where
  | add | sub | mul | quo | rem | and | or | xor | andNot | shl | shr | eql | neq | lss | leq | gtr | geq

inductive Un where
  | neg | not | xor

/-- The kind of one cell. -/
inductive CK where
  | i | u (w : Nat) | b

inductive EqK where
  | bool | ptr | slice | agg (ks : List CK) | func

inductive Prim where
  | add64 | sub64

inductive MOp where
  | fail
  | mov (x : Opd)
  | pick (c a b : Opd)
  | bin (o : Bin) (x y : Opd)
  | eqv (k : EqK) (neg : Bool) (x y : Opd)
  | un (o : Un) (x : Opd)
  | cvi (x : Opd)
  | cvu (w : Nat) (x : Opd)
  | s2b (x : Opd)
  | b2s (imm : Bool) (x : Opd)
  | build (z : List V) (ps : List (Nat × Nat × Opd))
  | box (x : Opd)
  | boxv (x : Opd)
  | boxh (x : Opd)
  | lit (imm : Bool) (sz n : Nat) (z : List V) (ps : List (Nat × Nat × Opd))
  | mks (sz bytes : Nat) (z : List V) (n c : Opd)
  | off (k : Nat) (x : Opd)
  | idx (n sz : Nat) (x i : Opd)
  | idxs (sz : Nat) (x i : Opd)
  | ld (imm : Bool) (n : Option Nat) (x : Opd)
  | ldl (s : Nat) (n : Option Nat) (x : Opd)
  | st (n : Nat) (x v : Opd)
  | stl (s n : Nat) (x v : Opd)
  | nck (x : Opd)
  | fld (n : Option Nat) (o : Nat) (x : Opd)
  | idxv (n sz : Nat) (agg : Bool) (x i : Opd)
  | idxb (x i : Opd)
  | sls (x : Opd) (lo hi : Option Opd)
  | slv (sz : Nat) (x : Opd) (lo hi : Option Opd)
  | sla (imm : Bool) (n sz : Nat) (x : Opd) (lo hi : Option Opd)
  | s2a (n : Nat) (x : Opd)
  | ext (k : Nat) (x : Opd)
  | fun_ (f : Nat) (first captured : List Opd)
  | call (f : Nat) (rs : List Nat) (args : List Opd)
  | callp (f : Nat) (args : List Opd)
  | cal (g : Opd) (args : List Opd)
  | callo (f : Nat) (args : List Opd)
  | prim (p : Prim) (args : List Opd)
  | len (x : Opd)
  | lens (x : Opd)
  | mn (x y : Opd)
  | mx (x y : Opd)
  | app (sz bytes : Nat) (x y : Opd)
  | cpy (sz : Nat) (x y : Opd)
  | cpyl (s sz : Nat) (rs : List Nat) (x y : Opd)
  | frz (x : Opd)

structure MO where
  d : Option Nat
  g : Option (Nat × Bool)
  op : MOp

inductive Stm where
  | reg (ops : List MO) (keep : List Nat)
  | seq (a b : Stm)
  | cond (c : Opd) (a b : Stm)
  | block (id : Nat) (a : Stm)
  | loop (keep : List Nat) (a : Stm)
  | exit (id : Nat) (keep : List Nat)
  | ret

inductive Res where
  | tmp (s : Nat)
  | cell (s : Nat) (n : Option Nat)

structure MFn where
  body : Stm
  res : List Res
  mode : Nat

inductive Ex where
  | norm | exit (id : Nat) | ret

/- ## Reading and writing -/

def get : Env → Nat → V
  | [], _ => .undef
  | (t, v) :: e, s => bif Nat.beq t s then v else get e s

/-- An operand as a plain value. -/
def ev (e : Env) : Opd → V
  | .t s => match get e s with
    | .loc _ => .undef
    | v => v
  | .c v => v

/-- An operand as an address. -/
def ea (e : Env) : Opd → V
  | .t s => match get e s with
    | .loc _ => .lp s 0
    | v => v
  | .c v => v

def cells : V → List V
  | .agg l => l
  | v => [v]

/-- May a value be stored in one cell? -/
def cellV : V → Bool
  | .i _ | .u _ _ | .b _ | .s _ | .nilp | .vr _ _ | .hp _ _ | .nils | .vs _ _ | .hs _ _ _ _ _ | .fn _ _ _ | .nilf => true
  | _ => false

def splice (l : List V) (o : Nat) (cs : List V) : List V :=
  match cs with
  | [v] => l.set o v
  | _ => l.take o ++ cs ++ l.drop (o + cs.length)

/-- n cells from o on, as a value. -/
def part (l : List V) (o : Nat) : Option Nat → Option V
  | none => l[o]?
  | some n => if o + n ≤ l.length then some (.agg ((l.drop o).take n)) else none

def row (h : Heap) (k : Nat) : Option (List V) :=
  match h[k]? with
  | some (some l) => some l
  | _ => none

def fill (z : List V) : List (Nat × Nat × V) → Option (List V)
  | [] => some z
  | (o, n, v) :: r =>
    if (cells v).length = n ∧ o + n ≤ z.length ∧ (cells v).all cellV then fill (splice z o (cells v)) r else none

/- ## Numbers -/

def w64 (z : Int) : Int := (z + 9223372036854775808) % 18446744073709551616 - 9223372036854775808

def count (w : Nat) : V → Option Nat
  | .u _ n => some (min n w)
  | .i n => if 0 ≤ n then some (min n.toNat w) else none
  | _ => none

def arithI (o : Bin) (x y : Int) : Option V :=
  match o with
  | .add => some (.i (w64 (x + y)))
  | .sub => some (.i (w64 (x - y)))
  | .mul => some (.i (w64 (x * y)))
  | .quo => if y = 0 then none else some (.i (w64 (x.tdiv y)))
  | .rem => if y = 0 then none else some (.i (x.tmod y))
  | .and => if 0 ≤ x ∧ 0 ≤ y then some (.i ((x.toNat &&& y.toNat : Nat) : Int))
            else some (.i (w64 (((x % 18446744073709551616).toNat &&& (y % 18446744073709551616).toNat : Nat) : Int)))
  | .or => some (.i (w64 (((x % 18446744073709551616).toNat ||| (y % 18446744073709551616).toNat : Nat) : Int)))
  | .xor => some (.i (w64 (((x % 18446744073709551616).toNat ^^^ (y % 18446744073709551616).toNat : Nat) : Int)))
  | .eql => some (.b (decide (x = y)))
  | .neq => some (.b (!decide (x = y)))
  | .lss => some (.b (decide (x < y)))
  | .leq => some (.b (decide (x ≤ y)))
  | .gtr => some (.b (decide (y < x)))
  | .geq => some (.b (decide (y ≤ x)))
  | _ => none

def arithU (o : Bin) (w x y : Nat) : Option V :=
  match o with
  | .add => some (.u w ((x + y) % 2 ^ w))
  | .sub => some (.u w ((x + 2 ^ w - y) % 2 ^ w))
  | .mul => some (.u w (x * y % 2 ^ w))
  | .quo => if y = 0 then none else some (.u w (x / y))
  | .rem => if y = 0 then none else some (.u w (x % y))
  | .and => some (.u w (x &&& y))
  | .or => some (.u w (x ||| y))
  | .xor => some (.u w (x ^^^ y))
  | .andNot => some (.u w (x &&& (2 ^ w - 1 - y)))
  | .eql => some (.b (decide (x = y)))
  | .neq => some (.b (!decide (x = y)))
  | .lss => some (.b (decide (x < y)))
  | .leq => some (.b (decide (x ≤ y)))
  | .gtr => some (.b (decide (y < x)))
  | .geq => some (.b (decide (y ≤ x)))
  | _ => none

/-- Are two cells' values of a kind the same? -/
def eqC : CK → V → V → Option Bool
  | .i, .i x, .i y => some (decide (x = y))
  | .u k, .u w x, .u w' y => if w = k ∧ w' = k then some (decide (x = y)) else none
  | .b, .b x, .b y => some (x == y)
  | _, _, _ => none

def eqL : List CK → List V → List V → Option Bool
  | [], [], [] => some true
  | k :: ks, a :: l, c :: m => match eqC k a c, eqL ks l m with
    | some x, some y => some (x && y)
    | _, _ => none
  | _, _, _ => none

def eqV : EqK → V → V → Option Bool
  | .bool, .b x, .b y => some (x == y)
  | .agg ks, .agg l, .agg m => eqL ks l m
  | .ptr, .nilp, .nilp => some true
  | .ptr, .nilp, .vr _ _ => some false
  | .ptr, .vr _ _, .nilp => some false
  | .ptr, .nilp, .hp _ _ => some false
  | .ptr, .hp _ _, .nilp => some false
  | .slice, .nils, .nils => some true
  | .slice, .hs _ _ _ _ _, .nils => some false
  | .slice, .vs n _, .nils => if n = 0 then none else some false
  | .func, .fn _ _ _, .nilf => some false
  | .func, .nilf, .nilf => some true
  | _, _, _ => none

def shlU (w x n : Nat) : V := .u w (x * 2 ^ n % 2 ^ w)
def shrU (w x n : Nat) : V := .u w (x / 2 ^ n)

def binV (o : Bin) (x y : V) : Option V :=
  match o with
  | .shl => match x with
    | .u w a => (count w y).map (shlU w a)
    | .i a => (count 64 y).map fun n => .i (w64 (a * 2 ^ n))
    | _ => none
  | .shr => match x with
    | .u w a => (count w y).map (shrU w a)
    | .i a => (count 64 y).map fun n => .i (a / 2 ^ n)
    | _ => none
  | _ => match x, y with
    | .i a, .i c => arithI o a c
    | .u w a, .u w' c => if w = w' then arithU o w a c else none
    | .s a, .s c => match o with
      | .add => if a.length + c.length < 9223372036854775808 then some (.s (a ++ c)) else none
      | .eql => some (.b (a == c))
      | .neq => some (.b (!(a == c)))
      | _ => none
    | _, _ => none

def unV (o : Un) (x : V) : Option V :=
  match o, x with
  | .neg, .i n => some (.i (w64 (0 - n)))
  | .neg, .u w n => some (.u w ((2 ^ w - n) % 2 ^ w))
  | .not, .b x => some (.b (!x))
  | .xor, .u w n => some (.u w (2 ^ w - 1 - n))
  | _, _ => none

def toI : V → Option V
  | .i n => some (.i n)
  | .u _ n => some (.i (w64 n))
  | _ => none

def toU (w : Nat) : V → Option V
  | .i n => some (.u w (n % 2 ^ w).toNat)
  | .u _ n => some (.u w (n % 2 ^ w))
  | _ => none

def byteOf : V → Option Nat
  | .u 8 n => some n
  | _ => none

/-- A number from 0 on below a bound. -/
def ixOf (n : Nat) : V → Option Nat
  | .i z => if 0 ≤ z ∧ z < n then some z.toNat else none
  | .u _ k => if k < n then some k else none
  | _ => none

/- ## Slices and pointers -/

/-- A slice's cells. -/
def sliceCells (h : Heap) : V → Option (List V)
  | .nils => some []
  | .vs _ l => some l
  | .hs sz k off len _ => match row h k with
    | some l => if off + len * sz ≤ l.length then some ((l.drop off).take (len * sz)) else none
    | none => none
  | _ => none

/-- The same, of a slice into a local variable of the list too. -/
def sliceCellsL (e : Env) (h : Heap) (rs : List Nat) : V → Option (List V)
  | .ls sz s off len _ => if rs.contains s then match get e s with
      | .loc l => if off + len * sz ≤ l.length then some ((l.drop off).take (len * sz)) else none
      | _ => none
    else none
  | v => sliceCells h v

/-- How many elements a slice has. -/
def lenV : V → Option Nat
  | .nils => some 0
  | .vs n _ => some n
  | .hs _ _ _ len _ => some len
  | .ls _ _ _ len _ => some len
  | _ => none

/-- What an append appends: a slice's cells, a string's bytes. -/
def appC (h : Heap) : V → Option (List V)
  | .s l => some (l.map (V.u 8))
  | v => sliceCells h v

def appL : V → Option Nat
  | .s l => some l.length
  | v => lenV v

def offV (k : Nat) : V → Option V
  | .vr l o => some (.vr l (o + k))
  | .hp j o => some (.hp j (o + k))
  | .lp s o => some (.lp s (o + k))
  | _ => none

def bounds (len cap : Nat) (e : Env) (lo hi : Option Opd) : Option (Nat × Nat) :=
  match (match hi with | some x => ixOf (cap + 1) (ev e x) | none => some len) with
  | none => none
  | some h => match (match lo with | some x => ixOf (h + 1) (ev e x) | none => some 0) with
    | none => none
    | some l => some (l, h)

def slcV (e : Env) (sz : Nat) (lo hi : Option Opd) : V → Option V
  | .nils => match bounds 0 0 e lo hi with
    | some _ => some .nils
    | none => none
  | .vs n l => match bounds n n e lo hi with
    | some (a, z) => some (.vs (z - a) ((l.drop (a * sz)).take ((z - a) * sz)))
    | none => none
  | .hs sz' k off len cap => if sz' = sz then match bounds len cap e lo hi with
      | some (a, z) => some (.hs sz k (off + a * sz) (z - a) (cap - a))
      | none => none
    else none
  | _ => none

def slaV (e : Env) (h : Heap) (n sz : Nat) (lo hi : Option Opd) (p : V) : Option V :=
  match bounds n n e lo hi with
  | some (a, z) => match p with
    | .vr l o => if o + n * sz ≤ l.length then some (.vs (z - a) ((l.drop (o + a * sz)).take ((z - a) * sz))) else none
    | .hp k o => match row h k with
      | some l => if o + n * sz ≤ l.length then some (.hs sz k (o + a * sz) (z - a) (n - a)) else none
      | none => none
    | .lp s o => some (.ls sz s (o + a * sz) (z - a) (n - a))
    | _ => none
  | none => none

def s2aV (n : Nat) : V → Option V
  | .hs _ k off len _ => if 0 < n ∧ n ≤ len then some (.hp k off) else none
  | .ls _ s off len _ => if 0 < n ∧ n ≤ len then some (.lp s off) else none
  | .vs m l => if 0 < n ∧ n ≤ m then some (.vr l 0) else none
  | _ => none

def idxsV (sz : Nat) (x : V) (i : V) : Option V :=
  match x with
  | .hs sz' k off len _ => if sz' = sz then (ixOf len i).map fun j => .hp k (off + j * sz) else none
  | .ls sz' s off len _ => if sz' = sz then (ixOf len i).map fun j => .lp s (off + j * sz) else none
  | .vs n l => (ixOf n i).map fun j => .vr l (j * sz)
  | _ => none

/-- What a callee sees of an argument: of a local variable its cells as they stand (rs: the slots of such). -/
def lend (e : Env) (rs : List Nat) : V → Option V
  | .lp s o => if rs.contains s then match get e s with
      | .loc l => some (.vr l o)
      | _ => none
    else none
  | .ls sz s o n _ => if rs.contains s then match get e s with
      | .loc l => if o + n * sz ≤ l.length then some (.vs n ((l.drop o).take (n * sz))) else none
      | _ => none
    else none
  | v => some v

def lendAll (e : Env) (rs : List Nat) : List V → Option (List V)
  | [] => some []
  | v :: r => match lend e rs v, lendAll e rs r with
    | some x, some y => some (x :: y)
    | _, _ => none

def flat : V → Bool
  | .i _ | .u _ _ | .b _ | .s _ | .nilp | .nils => true
  | _ => false

def flat1 : V → Bool
  | .agg l => l.all flat
  | v => flat v

/-- No pointer to anything, no slice in it. -/
def noPtr : V → Bool
  | .tup l => l.all flat1
  | v => flat1 v

/-- No pointer, no slice into the small heap in it. -/
def noHp : Nat → V → Bool
  | 0, _ => false
  | n + 1, v => match v with
    | .i _ | .u _ _ | .b _ | .s _ | .nilp | .nils => true
    | .agg l => l.all (noHp n)
    | .vr l _ => l.all (noHp n)
    | .vs _ l => l.all (noHp n)
    | _ => false

def mapO (f : V → Option V) : List V → Option (List V)
  | [] => some []
  | v :: r => match f v, mapO f r with
    | some x, some y => some (x :: y)
    | _, _ => none

/-- A value on its way out of a function: what points into blocks of the function's own (from 'base' on) is read once and for all. -/
def fzV (nk : Bool) (h : Heap) (base : Nat) : Nat → V → Option V
  | 0, _ => none
  | n + 1, v => match v with
    | .i x => some (.i x)
    | .u w x => some (.u w x)
    | .b x => some (.b x)
    | .s l => some (.s l)
    | .nilp => some .nilp
    | .nils => some (if nk then .nils else .vs 0 [])
    | .vs k l => if noHp 8 (.vs k l) then some (.vs k l) else none
    | .vr l o => if noHp 8 (.vr l o) then some (.vr l o) else none
    | .fn f a c => if a.all (noHp 8) && c.all (noHp 8) then some (.fn f a c) else none
    | .agg l => (mapO (fzV nk h base n) l).map .agg
    | .tup l => (mapO (fzV nk h base n) l).map .tup
    | .hp k o => if k < base then some (.hp k o) else match row h k with
      | some l => (mapO (fzV nk h base n) l).map fun m => .vr m o
      | none => none
    | .hs sz k o len cap => if k < base then some (.hs sz k o len cap) else match row h k with
      | some l => if o + len * sz ≤ l.length then (mapO (fzV nk h base n) ((l.drop o).take (len * sz))).map fun m => .vs len m
        else none
      | none => none
    | _ => none

/-- A slice of the function's own that is handed out to be written on: its block is handed out with it. -/
def ownV (h : Heap) (base : Nat) : V → Option (V × Heap)
  | .hs sz k o len cap => if k < base then none else match row h k with
    | some l => if o + cap * sz ≤ l.length ∧ ((l.drop o).take (cap * sz)).all flat then
        some (.hs sz base 0 len cap, h.take base ++ [some ((l.drop o).take (cap * sz))])
      else none
    | none => none
  | .nils => some (.nils, h.take base)
  | _ => none

/-- A cell of an old row that holds no pointer to a row from 'base' on. -/
def lowV (base : Nat) : V → Bool
  | .i _ | .u _ _ | .b _ | .s _ | .nilp | .nils => true
  | .hp k _ => decide (k < base)
  | .hs _ k _ _ _ => decide (k < base)
  | .vr l o => noHp 8 (.vr l o)
  | .vs n l => noHp 8 (.vs n l)
  | .fn _ a c => a.all (noHp 8) && c.all (noHp 8)
  | _ => false

def lowR (base : Nat) : Option (List V) → Bool
  | some l => l.all (lowV base)
  | none => true

/-- mode 0: a nil slice is an empty one; 1: the (first) result is a slice to be written on; 2: a nil slice stays one; 3: all memory is handed back as it stands. -/
def handV (mode : Nat) (base : Nat) (h : Heap) (v : V) : Option (V × Heap) :=
  match mode with
  | 0 => (fzV false h base 6 v).map fun x => (x, h.take base)
  | 2 => (fzV true h base 6 v).map fun x => (x, h.take base)
  | _ => match v with
    | .tup (x :: r) => match ownV h base x with
      | some (y, h') => if r.all flat1 then some (.tup (y :: r), h') else none
      | none => none
    | x => ownV h base x

def retV (mode : Nat) (base : Nat) (h : Heap) (v : V) : Option (V × Heap) :=
  bif Nat.beq mode 3 then some (v, h) else if (h.take base).all (lowR base) then handV mode base h v else none

/- ## Operations -/

/-- No address of a local variable. -/
def plainV : V → Bool
  | .lp _ _ | .ls _ _ _ _ _ | .loc _ => false
  | _ => true

def scalar : V → Bool
  | .i _ | .u _ _ | .b _ | .s _ => true
  | _ => false

def boxable : V → Bool
  | .tup _ | .loc _ | .lp _ _ | .ls _ _ _ _ _ | .undef => false
  | _ => true

/-- What is kept of a slot at a region's end, what a callee gets: no addresses of local variables. -/
def san : V → V
  | .lp _ _ => .undef
  | .ls _ _ _ _ _ => .undef
  | v => v

def evAll (e : Env) (xs : List Opd) : List V := xs.map (ev e)

def parts (e : Env) (ps : List (Nat × Nat × Opd)) : List (Nat × Nat × V) := ps.map fun p => (p.1, p.2.1, ev e p.2.2)

def primV : Prim → List V → Option V
  | .add64, [.u 64 x, .u 64 y, .u 64 c] => if c ≤ 1 then some (.tup [.u 64 ((x + y + c) % 2 ^ 64), .u 64 ((x + y + c) / 2 ^ 64)]) else none
  | .sub64, [.u 64 x, .u 64 y, .u 64 c] => if c ≤ 1 then some (.tup [.u 64 ((x + 2 ^ 64 - y - c) % 2 ^ 64), .u 64 (if x < y + c then 1 else 0)]) else none
  | _, _ => none

def roomOk (n bytes : Nat) : Bool := n * bytes ≤ 140737488355328

def setRow (h : Heap) (k : Nat) (l : List V) : Heap := h.set k (some l)

section
variable (call : Nat → List V → Heap → Option (V × Heap))

def callV (e : Env) (h : Heap) (f : Nat) (rs : List Nat) (args : List V) : Option (V × Heap) :=
  match rs with
  | [] => if args.all (noHp 8) then match call f args [] with
      | some (v, []) => some (v, h)
      | _ => none
    else call f args h
  | _ => match lendAll e rs args with
    | some vs => if vs.all (noHp 3) then match call f vs [] with
        | some (v, _) => if noPtr v then some (v, h) else none
        | none => none
      else none
    | none => none

def evalO (o : MOp) (e : Env) (h : Heap) : Option (V × Heap) :=
  match o with
  | .mov x => some (ev e x, h)
  | .pick c a b => match ev e c with
    | .b x => some (if x then ev e a else ev e b, h)
    | _ => none
  | .bin o x y => (binV o (ev e x) (ev e y)).map fun v => (v, h)
  | .eqv k neg x y => (eqV k (ev e x) (ev e y)).map fun r => (.b (r != neg), h)
  | .un o x => (unV o (ev e x)).map fun v => (v, h)
  | .cvi x => (toI (ev e x)).map fun v => (v, h)
  | .cvu w x => (toU w (ev e x)).map fun v => (v, h)
  | .s2b x => match ev e x with
    | .s l => some (.hs 1 h.length 0 l.length l.length, h ++ [some (l.map (.u 8))])
    | _ => none
  | .b2s imm x => match sliceCells (if imm then [] else h) (ev e x) with
    | some l => match l.mapM byteOf with
      | some m => if lenV (ev e x) = some m.length then some (.s m, h) else none
      | none => none
    | none => none
  | .build z ps => (fill z (parts e ps)).map fun l => (.agg l, h)
  | .box x => if boxable (ev e x) then some (.loc (cells (ev e x)), h) else none
  | .boxv x => if boxable (ev e x) then some (.vr (cells (ev e x)) 0, h) else none
  | .boxh x => if boxable (ev e x) then some (.hp h.length 0, h ++ [some (cells (ev e x))]) else none
  | .lit imm sz n z ps => match fill z (parts e ps) with
    | some l => if imm then some (.vs n l, h) else some (.hs sz h.length 0 n n, h ++ [some l])
    | none => none
  | .mks sz bytes z n c => match ixOf 140737488355329 (ev e c) with
    | some k => match ixOf (k + 1) (ev e n) with
      | some m => if roomOk k bytes then some (.hs sz h.length 0 m k, h ++ [some (List.replicate k z).flatten]) else none
      | none => none
    | none => none
  | .off k x => (offV k (ea e x)).map fun v => (v, h)
  | .idx n sz x i => match ixOf n (ev e i) with
    | some j => (offV (j * sz) (ea e x)).map fun v => (v, h)
    | none => none
  | .idxs sz x i => (idxsV sz (ea e x) (ev e i)).map fun v => (v, h)
  | .ld imm n x => match ev e x with
    | .vr l o => (part l o n).map fun v => (v, h)
    | .hp k o => match row (if imm then [] else h) k with
      | some l => (part l o n).map fun v => (v, h)
      | none => none
    | _ => none
  | .ldl s n x => match ea e x with
    | .lp s' o => if s' = s then match get e s with
        | .loc l => (part l o n).map fun v => (v, h)
        | _ => none
      else none
    | _ => none
  | .st n x v => match ev e x with
    | .hp k o => match row h k with
      | some l => if (cells (ev e v)).length = n ∧ (cells (ev e v)).all cellV ∧ o + n ≤ l.length then
          some (.tup [], setRow h k (splice l o (cells (ev e v)))) else none
      | none => none
    | _ => none
  | .nck x => match ea e x with
    | .vr l o => some (.vr l o, h)
    | .hp k o => some (.hp k o, h)
    | .lp s o => some (.lp s o, h)
    | .fn f a c => some (.fn f a c, h)
    | _ => none
  | .fld n o x => match ev e x with
    | .agg l => (part l o n).map fun v => (v, h)
    | _ => none
  | .idxv n sz agg x i => match ev e x, ixOf n (ev e i) with
    | .agg l, some j => (part l (j * sz) (if agg then some sz else none)).map fun v => (v, h)
    | _, _ => none
  | .idxb x i => match ev e x with
    | .s l => match ixOf l.length (ev e i) with
      | some j => (l[j]?).map fun c => (.u 8 c, h)
      | none => none
    | _ => none
  | .sls x lo hi => match ev e x with
    | .s l => match bounds l.length l.length e lo hi with
      | some (a, z) => some (.s ((l.take z).drop a), h)
      | none => none
    | _ => none
  | .slv sz x lo hi => (slcV e sz lo hi (ev e x)).map fun v => (v, h)
  | .sla imm n sz x lo hi => (slaV e (if imm then [] else h) n sz lo hi (ea e x)).map fun v => (v, h)
  | .s2a n x => (s2aV n (ev e x)).map fun v => (v, h)
  | .ext k x => match ev e x with
    | .tup l => (l[k]?).map fun v => (v, h)
    | _ => none
  | .fun_ f a c => if (evAll e a).all plainV && (evAll e c).all plainV then some (.fn f (evAll e a) (evAll e c), h) else none
  | .call f rs args => callV call e h f rs (match rs with | [] => (evAll e args).map san | _ => args.map (ea e))
  | .callp f args => if ((evAll e args).map san).all (noHp 8) then match call f ((evAll e args).map san) [] with
      | some (v, []) => some (v, h)
      | _ => none
    else none
  | .cal g args => match ev e g with
    | .fn f a c => callV call e h f [] (a ++ (evAll e args).map san ++ c)
    | _ => none
  | .callo f args => call f ((evAll e args).map san) h
  | .prim p args => (primV p (evAll e args)).map fun v => (v, h)
  | .len x => match lenV (ev e x) with
    | some n => if n < 9223372036854775808 then some (.i n, h) else none
    | none => none
  | .lens x => match ev e x with
    | .s l => if l.length < 9223372036854775808 then some (.i l.length, h) else none
    | _ => none
  | .mn x y => match ev e x, ev e y with
    | .i a, .i b => some (.i (if b < a then b else a), h)
    | _, _ => none
  | .mx x y => match ev e x, ev e y with
    | .i a, .i b => some (.i (if a < b then b else a), h)
    | _, _ => none
  | .app sz bytes x y => match appC h (ev e y), appL (ev e y) with
    | some m, some b => match ev e x with
      | .nils => if b = 0 then some (.nils, h) else
          if roomOk b bytes ∧ m.length = b * sz ∧ m.all cellV then some (.hs sz h.length 0 b b, h ++ [some m]) else none
      | .hs sz' k off len _ => match row h k with
        | some r => if sz' = sz ∧ off + len * sz ≤ r.length ∧ roomOk (len + b) bytes ∧ m.length = b * sz ∧ m.all cellV then
            some (.hs sz h.length 0 (len + b) (len + b), h.set k none ++ [some ((r.drop off).take (len * sz) ++ m)]) else none
        | none => none
      | _ => none
    | _, _ => none
  | .cpy sz x y => match ev e x, sliceCells h (ev e y), lenV (ev e y) with
    | .hs sz' k off len _, some m, some b => if sz' = sz ∧ m.length = b * sz ∧ m.all cellV ∧ b < 9223372036854775808 then match row h k with
        | some l => if off + len * sz ≤ l.length then
            some (.i (min b len : Nat), setRow h k (l.take off ++ m.take (min b len * sz) ++ l.drop (off + min b len * sz))) else none
        | none => none
      else none
    | _, _, _ => none
  | .frz x => match ev e x with
    | .hs sz k off len _ => match row h k with
      | some l => if off + len * sz ≤ l.length ∧ ((l.drop off).take (len * sz)).all flat then some (.vs len ((l.drop off).take (len * sz)), h.set k none) else none
      | none => none
    | .nils => some (.vs 0 [], h)
    | .vs n l => some (.vs n l, h)
    | _ => none
  | _ => none

def put (d : Option Nat) (v : V) (e : Env) : Env :=
  match d with
  | some s => (s, v) :: e
  | none => e

def doO (o : MO) (st : St) : Option St :=
  match o.op with
  | .stl s n x v => match ea st.e x with
    | .lp s' k => if s' = s then match get st.e s with
        | .loc l => if (cells (ev st.e v)).length = n ∧ (cells (ev st.e v)).all cellV ∧ k + n ≤ l.length then
            some ⟨(s, .loc (splice l k (cells (ev st.e v)))) :: st.e, st.h⟩ else none
        | _ => none
      else none
    | _ => none
  | .cpyl s sz rs x y => match ev st.e x with
    | .ls sz' s' off len _ => if s' = s ∧ sz' = sz then match get st.e s, sliceCellsL st.e st.h rs (ev st.e y), lenV (ev st.e y) with
        | .loc l, some m, some b => if m.length = b * sz ∧ m.all cellV ∧ off + len * sz ≤ l.length ∧ b < 9223372036854775808 then
            some ⟨put o.d (.i (min b len : Nat)) ((s, .loc (l.take off ++ m.take (min b len * sz) ++ l.drop (off + min b len * sz))) :: st.e), st.h⟩
          else none
        | _, _, _ => none
      else none
    | _ => none
  | op => match evalO call op st.e st.h with
    | some (v, h) => some ⟨put o.d v st.e, h⟩
    | none => none

def stepO (o : MO) (st : St) : Option St :=
  match o.g with
  | none => doO call o st
  | some (s, w) => match get st.e s with
    | .b x => if x = w then doO call o st else some ⟨put o.d (.tup []) st.e, st.h⟩
    | .tup [] => some ⟨put o.d (.tup []) st.e, st.h⟩
    | _ => none

def execOps : List MO → St → Option St
  | [], st => some st
  | o :: r, st => match stepO call o st with
    | some st' => execOps r st'
    | none => none

def keepE (ks : List Nat) (e : Env) : Env := ks.map fun s => (s, san (get e s))

def iter : Nat → (St → Option (Ex × St)) → St → Option (Ex × St)
  | 0, _, _ => none
  | n + 1, f, st => match f st with
    | some (.norm, st') => iter n f st'
    | r => r

/-- Statements; what a loop comes to is handed in ('it'). -/
def execW (it : (St → Option (Ex × St)) → St → Option (Ex × St)) : Stm → St → Option (Ex × St)
  | .reg ops keep, st => match execOps call ops st with
    | some st' => some (.norm, ⟨keepE keep st'.e, st'.h⟩)
    | none => none
  | .seq a b, st => match execW it a st with
    | some (.norm, st') => execW it b st'
    | r => r
  | .cond c a b, st => match ev st.e c with
    | .b x => if x then execW it a st else execW it b st
    | _ => none
  | .block id a, st => match execW it a st with
    | some (.exit j, st') => if j = id then some (.norm, st') else some (.exit j, st')
    | r => r
  | .loop keep a, st => it (execW it a) ⟨keepE keep st.e, st.h⟩
  | .exit id keep, st => some (.exit id, ⟨keepE keep st.e, st.h⟩)
  | .ret, st => some (.ret, st)

end

def resOne (e : Env) : Res → Option V
  | .tmp s => some (ev e (.t s))
  | .cell s n => match get e s with
    | .loc l => part l 0 n
    | _ => none

def resAll (e : Env) : List Res → Option (List V)
  | [] => some []
  | r :: rs => match resOne e r, resAll e rs with
    | some v, some vs => some (v :: vs)
    | _, _ => none

def resV (e : Env) : List Res → Option V
  | [r] => resOne e r
  | rs => (resAll e rs).map .tup

def zipE : Nat → List V → Env
  | _, [] => []
  | n, v :: r => (n, v) :: zipE (n + 1) r

def finish (fn : MFn) (base : Nat) : Option (Ex × St) → Option (V × Heap)
  | some (.exit _, _) => none
  | some (_, st) => match resV st.e fn.res with
    | some v => retV fn.mode base st.h v
    | none => none
  | none => none

/-- A call, with so much fuel. -/
def run (T : Nat → Option MFn) : Nat → Nat → List V → Heap → Option (V × Heap)
  | 0, _, _, _ => none
  | n + 1, f, args, h => match T f with
    | some fn => finish fn h.length (execW (run T n) (iter n) fn.body ⟨zipE 0 args, h⟩)
    | none => none

/- ## Short forms for tables -/

def z9 : List V := [.u 64 0, .u 64 0, .u 64 0, .u 64 0, .u 64 0, .u 64 0, .u 64 0, .u 64 0, .u 64 0]
def z18 : List V := [.u 64 0, .u 64 0, .u 64 0, .u 64 0, .u 64 0, .u 64 0, .u 64 0, .u 64 0, .u 64 0, .u 64 0, .u 64 0, .u 64 0, .u 64 0, .u 64 0, .u 64 0, .u 64 0, .u 64 0, .u 64 0]
def z19 : List V := [.u 64 0, .u 64 0, .u 64 0, .u 64 0, .u 64 0, .u 64 0, .u 64 0, .u 64 0, .u 64 0, .u 64 0, .u 64 0, .u 64 0, .u 64 0, .u 64 0, .u 64 0, .u 64 0, .u 64 0, .u 64 0, .b false]
def z27 : List V := [.u 64 0, .u 64 0, .u 64 0, .u 64 0, .u 64 0, .u 64 0, .u 64 0, .u 64 0, .u 64 0, .u 64 0, .u 64 0, .u 64 0, .u 64 0, .u 64 0, .u 64 0, .u 64 0, .u 64 0, .u 64 0, .u 64 0, .u 64 0, .u 64 0, .u 64 0, .u 64 0, .u 64 0, .u 64 0, .u 64 0, .u 64 0]
def z59 : List V := [.i 0, .u 64 0, .u 64 0, .u 64 0, .u 64 0, .u 64 0, .u 64 0, .u 64 0, .u 64 0, .u 64 0, .u 64 0, .u 64 0, .u 64 0, .u 64 0, .u 64 0, .u 64 0, .u 64 0, .u 64 0, .u 64 0, .u 64 0, .u 64 0, .u 64 0, .u 64 0, .u 64 0, .u 64 0, .u 64 0, .u 64 0, .u 64 0, .u 64 0, .u 64 0, .u 64 0, .u 64 0, .u 64 0, .u 64 0, .u 64 0, .u 64 0, .u 64 0, .u 64 0, .u 64 0, .u 64 0, .u 64 0, .u 64 0, .u 64 0, .u 64 0, .u 64 0, .u 64 0, .u 64 0, .u 64 0, .u 64 0, .u 64 0, .u 64 0, .u 64 0, .u 64 0, .u 64 0, .u 64 0, .b false, .i 0, .i 0, .b false]
def mv (d s : Nat) : MO := ⟨some d, none, .mov (.t s)⟩
def op (d : Nat) (x : MOp) : MO := ⟨some d, none, x⟩

end Mir
