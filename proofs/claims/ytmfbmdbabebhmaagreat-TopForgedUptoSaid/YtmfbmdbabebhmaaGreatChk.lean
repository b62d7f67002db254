/- The checker: is a text of the small language a faithful copy of a Go function's operations? A Bool function. Conditions: none. -/
import Derived.Test.YtmfbmdbabebhmaaGreatRel
set_option linter.unusedVariables false
namespace Mir
open Go (Value Addr IntKind World Obj Program FuncId TypeId Operand Op Oper Code TypeDesc)

section
variable (P : Program) (φ : Nat → Option FuncId) (ψ : Prim → FuncId → Bool)

/-- A constant of one cell. -/
def chkC : V → Value → Bool
  | .i n, .int .i64 m => m == n && decide (-9223372036854775808 ≤ n) && decide (n < 9223372036854775808)
  | .u w n, .int k m => ukind w == some k && m == (n : Int) && decide (n < 2 ^ w)
  | .b x, .bool y => x == y
  | .s l, .string ba => ba.data.toList.map UInt8.toNat == l
  | .nilp, .pointer none => true
  | .nilf, .nilFunc => true
  | .nils, .slice none a b => a == 0 && b == 0
  | .vs 0 [], .slice none a b => a == 0 && b == 0
  | .fn f [] [], .func (.func F) a b => φ f == some F && a.size == 0 && b.size == 0
  | _, _ => false

def chkVs : List V → List Value → Bool
  | [], [] => true
  | a :: l, b :: m => chkC φ a b && chkVs l m
  | _, _ => false

def chkV : V → Value → Bool
  | .agg l, .agg cs => chkVs φ l cs.toList
  | .tup l, .tuple cs => chkVs φ l cs.toList
  | v, x => chkC φ v x

def chkX : Operand → Opd → Bool
  | .tmp t, .t s => t == s
  | .const v, .c x => chkV φ x v
  | .func F, .c (.fn f [] []) => φ f == some F
  | _, _ => false

def chkXs : List Operand → List Opd → Bool
  | [], [] => true
  | a :: l, b :: m => chkX φ a b && chkXs l m
  | _, _ => false

def chkO : Option Operand → Option Opd → Bool
  | none, none => true
  | some a, some b => chkX φ a b
  | _, _ => false

def isAggT (t : TypeId) : Bool :=
  match P.underlying t with
  | some (.struct _) | some (.array _ _) => true
  | _ => false

def sizeT (t : TypeId) : Option Nat := (P.info? t).map (·.size)
def bytesT (t : TypeId) : Option Nat := (P.info? t).map (·.bytes)

/-- A variable of type t: one cell that is no aggregate, or an aggregate of n cells. -/
def partOk (t : TypeId) : Option Nat → Bool
  | none => (P.underlying t).isSome && !isAggT P t && sizeT P t == some 1
  | some n => isAggT P t && sizeT P t == some n

/-- The zero cells of type t. -/
def zeroOk (t : TypeId) (z : List V) : Bool :=
  match (P.info? t).bind (·.zero) with
  | some v => chkVs φ z v.cells.toList
  | none => false

def sliceT (t : TypeId) : Option TypeId :=
  match P.underlying t with
  | some (.slice e) => some e
  | _ => none

def arrayT (t : TypeId) : Option (Nat × TypeId) :=
  match P.underlying t with
  | some (.array n e) => some (n, e)
  | _ => none

def structT (t : TypeId) : Option (Array Go.Field) :=
  match P.underlying t with
  | some (.struct fs) => some fs
  | _ => none

def intT (t : TypeId) : Option IntKind :=
  match P.underlying t with
  | some (.int k) => some k
  | _ => none

def strT (t : TypeId) : Bool :=
  match P.underlying t with
  | some .string => true
  | _ => false

def chkBin : Go.BinOp → Bin → Bool
  | .add, .add | .sub, .sub | .mul, .mul | .quo, .quo | .rem, .rem | .and, .and | .or, .or | .xor, .xor | .andNot, .andNot
  | .shl, .shl | .shr, .shr | .eql, .eql | .neq, .neq | .lss, .lss | .leq, .leq | .gtr, .gtr | .geq, .geq => true
  | _, _ => false

def chkUn : Go.UnOp → Un → Bool
  | .neg, .neg | .not, .not | .xor, .xor => true
  | _, _ => false

def ckOf : IntKind → Option CK
  | .i64 => some .i
  | .u8 => some (.u 8)
  | .u16 => some (.u 16)
  | .u32 => some (.u 32)
  | .u64 => some (.u 64)
  | _ => none

def leafFs (lf : TypeId → Option (List CK)) : Nat → List Go.Field → Option (List CK)
  | _, [] => some []
  | o, f :: fs => if f.name != "_" && f.offset == o then match lf f.type, sizeT P f.type with
      | some l, some k => if l.length = k ∧ 0 < k then match leafFs lf (o + k) fs with
          | some m => some (l ++ m)
          | none => none
        else none
      | _, _ => none
    else none

/-- The kinds of a type's cells, if all are numbers and bools and its values can be compared cell by cell. -/
def leaves : Nat → TypeId → Option (List CK)
  | 0, _ => none
  | d + 1, t => match P.underlying t with
    | some .bool => some [.b]
    | some (.int k) => (ckOf k).map fun c => [c]
    | some (.struct fs) => if P.stoodInHeld t then none else leafFs P (leaves d) 0 fs.toList
    | some (.array n e) => match leaves d e, sizeT P e with
      | some l, some k => if l.length = k ∧ 0 < k then some (List.replicate n l).flatten else none
      | _, _ => none
    | _ => none

def CK.beq : CK → CK → Bool
  | .i, .i => true
  | .u w, .u v => w == v
  | .b, .b => true
  | _, _ => false

def CKs.beq : List CK → List CK → Bool
  | [], [] => true
  | x :: l, y :: m => x.beq y && CKs.beq l m
  | _, _ => false

def eqTypOk (t : TypeId) (k : EqK) : Bool :=
  match P.underlying t, k with
  | some .bool, .bool => true
  | some (.pointer _), .ptr => true
  | some (.slice _), .slice => true
  | some (.func _ _ _), .func => true
  | some (.struct _), .agg ks => (match leaves P 20 t with
    | some l => CKs.beq l ks
    | none => false)
  | some (.array _ _), .agg ks => (match leaves P 20 t with
    | some l => CKs.beq l ks
    | none => false)
  | _, _ => false

def eqOpOk : Go.BinOp → Bool → Bool
  | .eql, false => true
  | .neq, true => true
  | _, _ => false

def chkParts (place : Nat → Option (Nat × Nat)) : List (Nat × Operand) → List (Nat × Nat × Opd) → Bool
  | [], [] => true
  | (i, a) :: l, (o, n, b) :: m => place i == some (o, n) && chkX φ a b && chkParts place l m
  | _, _ => false

def bodyOk (F : FuncId) : Bool := match P.funcs[F]? with
  | some fn => fn.body.isSome && fn.name != "runtime.NumGoroutine"
  | none => false

def placesOf (fs : Array Go.Field) : Option (List (Nat × Nat)) := fs.toList.mapM fun f => (P.info? f.type).map fun i => (f.offset, i.size)

def chkBuiltin (b : Go.Builtin) (args : List Operand) (ts : List TypeId) : MOp → Bool
  | .mov (.c (.i n)) => b == .len && (match ts with
      | t :: _ => (match arrayT P t with
        | some (k, _) => decide (n = (k : Int)) && decide (k < 9223372036854775808)
        | none => false)
      | [] => false) && args.length == 1
  | .len x => b == .len && chkXs φ args [x] && (match ts with
      | t :: _ => (sliceT P t).isSome
      | [] => false)
  | .lens x => b == .len && chkXs φ args [x] && (match ts with
      | t :: _ => strT P t
      | [] => false)
  | .mn x y => b == .min && chkXs φ args [x, y]
  | .mx x y => b == .max && chkXs φ args [x, y]
  | .app sz bytes x y => b == .append && chkXs φ args [x, y] && (match ts with
      | [s, t] => (match sliceT P s with
        | some e => sizeT P e == some sz && bytesT P e == some bytes && decide (0 < bytes) && ((sliceT P t).isSome || strT P t) && (match (P.info? e).bind (·.zero) with
            | some v => v.cells.size == sz
            | none => false)
        | none => false)
      | _ => false)
  | .cpy sz x y => b == .copy && chkXs φ args [x, y] && (match ts with
      | s :: _ => (match sliceT P s with
        | some e => sizeT P e == some sz
        | none => false)
      | _ => false)
  | .cpyl _ sz _ x y => b == .copy && chkXs φ args [x, y] && (match ts with
      | s :: _ => (match sliceT P s with
        | some e => sizeT P e == some sz
        | none => false)
      | _ => false)
  | _ => false

def chkBox (o : Op) (x : Opd) : Bool :=
  match o with
  | .box _ x' => chkX φ x' x
  | .alloc t => (match x, (P.info? t).bind (·.zero) with
    | .c v, some zv => chkV φ v zv
    | _, _ => false)
  | _ => false

def chkOp (o : Op) (m : MOp) : Bool :=
  match m with
  | .fail => true
  | .mov y => (match o with
    | .move x | .assign x => chkX φ x y
    | .call { callee := .builtin b, args, argTypes } => chkBuiltin P φ b args.toList argTypes.toList (.mov y)
    | _ => false)
  | .pick c a b => (match o with
    | .pick c' a' b' => chkX φ c' c && chkX φ a' a && chkX φ b' b
    | _ => false)
  | .bin b x y => (match o with
    | .binOp b' _ x' y' _ => chkBin b' b && chkX φ x' x && chkX φ y' y
    | _ => false)
  | .eqv k neg x y => (match o with
    | .binOp b' t x' y' _ => eqOpOk b' neg && chkX φ x' x && chkX φ y' y && !P.eqGuardType P.depth t && eqTypOk P t k
    | _ => false)
  | .un u x => (match o with
    | .unOp u' _ x' => chkUn u' u && chkX φ x' x
    | _ => false)
  | .cvi x => (match o with
    | .convert s d x' => chkX φ x' x && (P.underlying s).isSome && intT P d == some .i64
    | _ => false)
  | .cvu w x => (match o with
    | .convert s d x' => chkX φ x' x && (P.underlying s).isSome && (match intT P d with
      | some k => ukind w == some k
      | none => false)
    | _ => false)
  | .s2b x => (match o with
    | .convert s d x' => chkX φ x' x && strT P s && (match sliceT P d with
      | some e => intT P e == some .u8
      | none => false)
    | _ => false)
  | .b2s _ x => (match o with
    | .convert s d x' => chkX φ x' x && strT P d && (match sliceT P s with
      | some e => intT P e == some .u8
      | none => false)
    | _ => false)
  | .build z ps => (match o with
    | .build t ps' => zeroOk P φ t z && (match P.underlying t with
      | some (.struct fs) => (match placesOf P fs with
        | some pl => chkParts φ (pl.toArray[·]?) ps'.toList ps
        | none => false)
      | some (.array _ e) => (match sizeT P e with
        | some k => chkParts φ (fun i => some (i * k, k)) ps'.toList ps
        | none => false)
      | _ => false)
    | _ => false)
  | .box x => chkBox P φ o x
  | .boxv x => chkBox P φ o x
  | .boxh x => chkBox P φ o x
  | .lit _ sz n z ps => (match o with
    | .buildSlice t k ps' => n == k && (match sliceT P t with
      | some e => sizeT P e == some sz && decide (k * sz ≤ 16777216) && decide (z.length = k * sz) && (k * sz == 0 || zeroOk P φ e (z.take sz)) &&
          (List.range (k * sz)).all (fun j => match z[j]?, z[j % sz]?, (P.info? e).bind (·.zero) with
            | some a, some _, some v => (match v.cells[j % sz]? with
              | some y => chkV φ a y
              | none => false)
            | _, _, _ => false) && chkParts φ (fun i => some (i * sz, sz)) ps'.toList ps
      | none => false)
    | _ => false)
  | .mks sz bytes z n c => (match o with
    | .makeSlice t n' c' => chkX φ n' n && chkX φ c' c && (match sliceT P t with
      | some e => sizeT P e == some sz && bytesT P e == some bytes && decide (0 < bytes) && decide (0 < sz) && zeroOk P φ e z && decide (z.length = sz)
      | none => false)
    | _ => false)
  | .off k x => (match o with
    | .fieldAddr t x' f => chkX φ x' x && (match structT P t with
      | some fs => (match fs[f]? with
        | some fd => fd.offset == k && (match sizeT P fd.type with
          | some n => decide (0 < n)
          | none => false)
        | none => false)
      | none => false)
    | _ => false)
  | .idx n sz x i => (match o with
    | .indexAddr t x' i' => chkX φ x' x && chkX φ i' i && (match arrayT P t with
      | some (k, e) => k == n && sizeT P e == some sz
      | none => false)
    | _ => false)
  | .idxs sz x i => (match o with
    | .indexAddr t x' i' => chkX φ x' x && chkX φ i' i && (match sliceT P t with
      | some e => sizeT P e == some sz
      | none => false)
    | _ => false)
  | .ld _ n x => (match o with
    | .load t x' => chkX φ x' x && partOk P t n
    | _ => false)
  | .ldl _ n x => (match o with
    | .load t x' => chkX φ x' x && partOk P t n
    | _ => false)
  | .st n x v => (match o with
    | .store t x' v' => chkX φ x' x && chkX φ v' v && sizeT P t == some n
    | _ => false)
  | .stl _ n x v => (match o with
    | .store t x' v' => chkX φ x' x && chkX φ v' v && sizeT P t == some n
    | _ => false)
  | .nck x => (match o with
    | .nilCheck x' => chkX φ x' x
    | _ => false)
  | .fld n k x => (match o with
    | .field t x' f => chkX φ x' x && (match structT P t with
      | some fs => (match fs[f]? with
        | some fd => fd.offset == k && partOk P fd.type n
        | none => false)
      | none => false)
    | _ => false)
  | .idxv n sz agg x i => (match o with
    | .index t x' i' => chkX φ x' x && chkX φ i' i && (match arrayT P t with
      | some (k, e) => k == n && sizeT P e == some sz && partOk P e (if agg then some sz else none)
      | none => false)
    | _ => false)
  | .idxb x i => (match o with
    | .index t x' i' => chkX φ x' x && chkX φ i' i && strT P t
    | _ => false)
  | .sls x lo hi => (match o with
    | .slice t x' lo' hi' mx => chkX φ x' x && chkO φ lo' lo && chkO φ hi' hi && mx.isNone && strT P t
    | _ => false)
  | .slv sz x lo hi => (match o with
    | .slice t x' lo' hi' mx => chkX φ x' x && chkO φ lo' lo && chkO φ hi' hi && mx.isNone && (match sliceT P t with
      | some e => sizeT P e == some sz
      | none => false)
    | _ => false)
  | .sla _ n sz x lo hi => (match o with
    | .slice t x' lo' hi' mx => chkX φ x' x && chkO φ lo' lo && chkO φ hi' hi && mx.isNone && (match arrayT P t with
      | some (k, e) => k == n && sizeT P e == some sz
      | none => false)
    | _ => false)
  | .s2a n x => (match o with
    | .sliceToArrayPointer t x' => chkX φ x' x && (match arrayT P t with
      | some (k, _) => k == n
      | none => false)
    | _ => false)
  | .ext k x => (match o with
    | .extract x' k' => chkX φ x' x && k == k'
    | _ => false)
  | .fun_ f a c => (match o with
    | .makeFunc (.func F) a' c' => φ f == some F && chkXs φ a'.toList a && chkXs φ c'.toList c
    | _ => false)
  | .call f rs args => (match o with
    | .call { callee := .value (.func F), args := args', argTypes := _ } => φ f == some F && bodyOk P F && chkXs φ args'.toList args
    | _ => false)
  | .callp f args => (match o with
    | .call { callee := .value (.func F), args := args', argTypes := _ } => φ f == some F && bodyOk P F && chkXs φ args'.toList args
    | _ => false)
  | .callo f args => (match o with
    | .call { callee := .value (.func F), args := args', argTypes := _ } => φ f == some F && bodyOk P F && chkXs φ args'.toList args
    | _ => false)
  | .cal g args => (match o with
    | .call { callee := .value g', args := args', argTypes := _ } => chkX φ g' g && chkXs φ args'.toList args
    | _ => false)
  | .prim p args => (match o with
    | .call { callee := .value (.func F), args := args', argTypes := _ } => ψ p F && chkXs φ args'.toList args
    | _ => false)
  | .len x => (match o with
    | .call { callee := .builtin b, args, argTypes } => chkBuiltin P φ b args.toList argTypes.toList (.len x)
    | _ => false)
  | .lens x => (match o with
    | .call { callee := .builtin b, args, argTypes } => chkBuiltin P φ b args.toList argTypes.toList (.lens x)
    | _ => false)
  | .mn x y => (match o with
    | .call { callee := .builtin b, args, argTypes } => chkBuiltin P φ b args.toList argTypes.toList (.mn x y)
    | _ => false)
  | .mx x y => (match o with
    | .call { callee := .builtin b, args, argTypes } => chkBuiltin P φ b args.toList argTypes.toList (.mx x y)
    | _ => false)
  | .app sz bytes x y => (match o with
    | .call { callee := .builtin b, args, argTypes } => chkBuiltin P φ b args.toList argTypes.toList (.app sz bytes x y)
    | _ => false)
  | .cpy sz x y => (match o with
    | .call { callee := .builtin b, args, argTypes } => chkBuiltin P φ b args.toList argTypes.toList (.cpy sz x y)
    | _ => false)
  | .cpyl s sz rs x y => (match o with
    | .call { callee := .builtin b, args, argTypes } => chkBuiltin P φ b args.toList argTypes.toList (.cpyl s sz rs x y)
    | _ => false)
  | .frz y => (match o with
    | .move x | .assign x => chkX φ x y
    | _ => false)

/- ## Slots of an operation -/

def Opd.slots : Opd → List Nat
  | .t s => [s]
  | .c _ => []

def oslots : Option Opd → List Nat
  | some x => x.slots
  | none => []

/-- What an operation reads. -/
def MOp.reads : MOp → List Nat
  | .fail => []
  | .mov x | .un _ x | .cvi x | .cvu _ x | .s2b x | .b2s _ x | .box x | .boxv x | .boxh x | .off _ x | .ld _ _ x | .nck x | .fld _ _ x | .s2a _ x | .ext _ x | .len x | .lens x | .frz x => x.slots
  | .pick c a b => c.slots ++ a.slots ++ b.slots
  | .bin _ x y | .eqv _ _ x y | .idx _ _ x y | .idxs _ x y | .st _ x y | .idxv _ _ _ x y | .idxb x y | .mn x y | .mx x y | .app _ _ x y | .cpy _ x y | .mks _ _ _ x y => x.slots ++ y.slots
  | .build _ ps | .lit _ _ _ _ ps => ps.flatMap fun p => p.2.2.slots
  | .ldl s _ x => s :: x.slots
  | .stl s _ x v => s :: (x.slots ++ v.slots)
  | .sls x lo hi | .slv _ x lo hi | .sla _ _ _ x lo hi => x.slots ++ oslots lo ++ oslots hi
  | .fun_ _ a c => a.flatMap Opd.slots ++ c.flatMap Opd.slots
  | .call _ rs args => rs ++ args.flatMap Opd.slots
  | .callp _ args => args.flatMap Opd.slots
  | .callo _ args => args.flatMap Opd.slots
  | .cal g args => g.slots ++ args.flatMap Opd.slots
  | .prim _ args => args.flatMap Opd.slots
  | .cpyl s _ rs x y => s :: (rs ++ x.slots ++ y.slots)

/-- Slots of which an operation may make an address. -/
def MOp.addrs : MOp → List Nat
  | .off _ x | .nck x | .ldl _ _ x => x.slots
  | .idx _ _ x _ | .idxs _ x _ => x.slots
  | .sla _ _ _ x _ _ => x.slots
  | .stl _ _ x _ => x.slots
  | .call _ _ args => args.flatMap Opd.slots
  | _ => []

def MO.reads (o : MO) : List Nat := (match o.g with
  | some (s, _) => [s]
  | none => []) ++ o.op.reads

def MO.writes (o : MO) : List Nat := match o.op with
  | .stl s _ _ _ => [s]
  | .cpyl s _ _ _ _ => s :: o.d.toList
  | _ => o.d.toList

/-- How an operation stands to the small heap: 0: not at all; 1: it reads; 2: it writes. -/
def MOp.cls : MOp → Nat
  | .ld imm _ _ => if imm then 0 else 1
  | .b2s imm _ => if imm then 0 else 1
  | .sla imm _ _ _ _ _ => if imm then 0 else 1
  | .lit imm _ _ _ _ => if imm then 0 else 2
  | .call _ _ _ | .cal _ _ | .callo _ _ | .s2b _ | .boxh _ | .mks _ _ _ _ _ | .st _ _ _ | .app _ _ _ _ | .cpy _ _ _ | .cpyl _ _ _ _ _ | .frz _ => 2
  | _ => 0

end
end Mir
