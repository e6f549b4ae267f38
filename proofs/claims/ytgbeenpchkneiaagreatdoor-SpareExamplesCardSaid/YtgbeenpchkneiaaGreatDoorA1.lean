/- The abstract machine: values, heaps, the compiler, the evaluation. -/
import GoSem.Core.Program
import GoSem.Core.View
import GoSem.Core.Region
import GoSem.Op.Equal
set_option linter.unusedVariables false
set_option linter.unusedSimpArgs false
set_option linter.constructorNameAsVariable false
set_option linter.unusedSectionVars false
namespace Go.Am
open Go
/-! ### places -/
inductive P | z | l (p : P) | r (p : P)
def P.succ : P → P | .z => .l .z | .l p => .r p | .r p => .l p.succ
def P.of : Nat → P | 0 => .z | n + 1 => (P.of n).succ
def P.num : P → Nat | .z => 0 | .l p => 2 * p.num + 1 | .r p => 2 * p.num + 2
def P.beq : P → P → Bool
  | .z, .z => true
  | .l p, .l q => p.beq q
  | .r p, .r q => p.beq q
  | _, _ => false
inductive T (α : Type) | e | n (l : T α) (v : Option α) (r : T α)
def T.get {α : Type} : P → T α → Option α
  | _, .e => none
  | .z, .n _ v _ => v
  | .l p, .n l _ _ => T.get p l
  | .r p, .n _ _ r => T.get p r
def T.set {α : Type} (x : α) : P → T α → T α
  | .z, .e => .n .e (some x) .e
  | .z, .n l _ r => .n l (some x) r
  | .l p, .e => .n (T.set x p .e) none .e
  | .l p, .n l v r => .n (T.set x p l) v r
  | .r p, .e => .n .e none (T.set x p .e)
  | .r p, .n l v r => .n l v (T.set x p r)
/-! ### values -/
/-- a capacity: known, or that of what was appended to (elements of so many cells) -/
inductive Cap | k (n : Nat) | op (esz : Nat) | any
inductive V
  | u | b (x : Bool) | i (k : IntKind) (n : Int) | s (x : List Nat)
  | p (o : P) (off : Nat) | pn | sl (o : P) (off len : Nat) (cap : Cap) | sn | m (o : P) | mn
  | f (g : Nat) (first cap : List V) | fn | y (l : P)
  | a (xs : List V) | t (xs : List V)
/-- kinds of keys -/
inductive KK | i | s | a (n : Nat)
inductive A | t (p : P) | c (v : V)
/-- operations that only look at the frame -/
inductive OP
  | mv (x : A) | pick (c a b : A) | build (zero : List V) (parts : List (Nat × Nat × A)) | nilck (x : A)
  | bin (op : BinOp) (x y : A) | eqs (n : Nat) (neg : Bool) (x y : A) | eqb (neg : Bool) (x y : A) | eqn (neg : Bool) (x y : A) | not (x : A) | neg (x : A) | conv (k : IntKind) (x : A)
  | mkf (g : Nat) (first cap : List A) | fld (off : Nat) (x : A) | fieldv (off : Nat) (agg : Option Nat) (x : A)
  | idx (esz : Nat) (x i : A) | idxa (n esz : Nat) (x i : A) | index (n esz : Nat) (agg : Option Nat) (x i : A) | sidx (x i : A)
  | slice (esz : Nat) (x : A) (lo hi : Option A) | ext (x : A) (i : Nat) | len (x : A) | lenc (n : Nat)
  | mx (x : A) (l : List A) | mn (x : A) (l : List A)
/-- operations that look at memory -/
inductive OR
  | load (agg : Option Nat) (x : A) | look (kk : KK) (zero : V) (ok : Bool) (x k : A) | mlen (x : A) | bstr (x : A) | entry (x : A)
/-- operations that make one object -/
inductive OA
  | alloc (cells : List V) | box (x : A) | bslice (len : Nat) (zero : List V) (parts : List (Nat × Nat × A)) | mkm | mks (esz : Nat) (zero : List V) (l c : A)
inductive OL
  | store (n : Nat) (a x : A) | mupd (kk : KK) (m k v : A) | del (kk : KK) (m k : A) | rng (x : A) | next (x : A) | app (esz : Nat) (s x : A) | clear (esz : Nat) (zero : List V) (x : A)
  | call (f : A) (args : List A) | bad (why : String)
inductive Op | p (o : OP) | r (o : OR) | a (o : OA) | l (o : OL)
structure O where
  dst : Option P
  gd : Option (P × Bool)
  op : Op
  hi : Nat
  sl : List P
inductive C
  | reg (ops : List O) (draw : Bool) | seq (a b : C) | cond (x : A) (a b : C) | block (id : Nat) (c : C) | loop (c : C) | sc (c : C)
  | rf (f : A) (ps : List P) (asg body : C) | rmap (it : A) (nx ok : P) (body : C) | exit (id : Nat) | ret | skip | bad (why : String)
inductive X | normal | exit (id : Nat) | ret
inductive LS | ready | busy | done
inductive Obj
  | c (vs : List V) (ro : Bool) | dead
  | m (es : List (V × V × Nat)) (clock : Nat)
  | it (m : Option P) (since : Nat) (seen : List Nat) (last : Nat)
  | lp (f : T V) (ps : List P) (asg body : C) (st : LS) (pend : Option X)
structure H where
  objs : T Obj
  next : P
/-- a function: parameters' count, free, results, body -/
inductive RV | t (p : P) | c (p : P) (agg : Option Nat)
structure F where
  res : List RV
  nt : Nat
  body : C
end Go.Am
namespace Go.Am
open Go
def A.ev (f : T V) : A → V
  | .t p => match T.get p f with | some v => v | none => .u
  | .c v => v
def evs (f : T V) : List A → List V
  | [] => [] | x :: l => x.ev f :: evs f l
/-! ### lists -/
def nth {α : Type} : List α → Nat → Option α
  | [], _ => none | x :: _, 0 => some x | _ :: l, n + 1 => nth l n
def takeN {α : Type} : Nat → List α → Option (List α)
  | 0, _ => some [] | _ + 1, [] => none | n + 1, x :: l => match takeN n l with | some r => some (x :: r) | none => none
def dropN {α : Type} : Nat → List α → List α
  | 0, l => l | _ + 1, [] => [] | n + 1, _ :: l => dropN n l
/-- puts cells in at a place: none if they don't fit -/
def putN {α : Type} : Nat → List α → List α → Option (List α)
  | 0, [], l => some l
  | 0, _ :: _, [] => none
  | 0, y :: ys, _ :: l => match putN 0 ys l with | some r => some (y :: r) | none => none
  | n + 1, ys, x :: l => match putN n ys l with | some r => some (x :: r) | none => none
  | _ + 1, _, [] => none
def rep {α : Type} : Nat → List α → List α
  | 0, _ => [] | n + 1, l => l ++ rep n l
/-! ### values -/
def cbeq : Cap → Cap → Bool | .k m, .k n => m == n | .op m, .op n => m == n | .any, .any => true | _, _ => false
def vbeq0 : V → V → Bool
  | .u, .u => true
  | .b x, .b y => x == y
  | .i k n, .i k' n' => k == k' && n == n'
  | .s x, .s y => x == y
  | .p o n, .p o' n' => o.beq o' && n == n'
  | .pn, .pn => true
  | .sl o a l c, .sl o' a' l' c' => o.beq o' && a == a' && l == l' && cbeq c c'
  | .sn, .sn => true
  | .m o, .m o' => o.beq o'
  | .mn, .mn => true
  | .fn, .fn => true
  | .y o, .y o' => o.beq o'
  | _, _ => false
def all2 {α : Type} (p : α → α → Bool) : List α → List α → Bool
  | [], [] => true | x :: l, y :: r => p x y && all2 p l r | _, _ => false
def vbeq1 : V → V → Bool
  | .f g a b, .f g' a' b' => g == g' && all2 vbeq0 a a' && all2 vbeq0 b b'
  | x, y => vbeq0 x y
def vbeq : V → V → Bool
  | .a x, .a y => all2 vbeq1 x y
  | .t x, .t y => all2 vbeq1 x y
  | x, y => vbeq1 x y
def vcells : V → Option (List V)
  | .a xs => some xs | .u => none | .t _ => none | v => some [v]
def vone : V → Bool | .u => false | .a _ => false | .t _ => false | _ => true
def allOne : List V → Bool | [] => true | v :: r => vone v && allOne r
def ikeys : List V → List V → Option Bool
  | [], [] => some true
  | .i k n :: l, .i k' n' :: r => if k == k' then (if n == n' then ikeys l r else some false) else none
  | _, _ => none
def allI : List V → Bool | [] => true | .i _ _ :: r => allI r | _ => false
def keyOk : KK → V → Bool
  | .i, .i _ _ => true | .s, .s _ => true | .a n, .a l => l.length == n && allI l | _, _ => false
/-- are two keys (numbers, texts, rows of numbers) the same; none: not such keys -/
def vkey (kk : KK) (x y : V) : Option Bool := match kk, x, y with
  | .i, .i k n, .i k' n' => if k == k' then some (decide (n = n')) else none
  | .s, .s x, .s y => some (x == y)
  | .a n, .a x, .a y => if x.length = n then ikeys x y else none
  | _, _, _ => none
def cmpI (op : BinOp) (x y : Int) : Option Bool := match op with
  | .eql => some (decide (x = y)) | .neq => some (!decide (x = y)) | .lss => some (decide (x < y)) | .leq => some (decide (x ≤ y))
  | .gtr => some (decide (y < x)) | .geq => some (decide (y ≤ x)) | _ => none
def bitsI (op : BinOp) (k : IntKind) (x y : Int) : Int :=
  let a := (x % 2 ^ k.bits).toNat
  let b := (y % 2 ^ k.bits).toNat
  k.wrap (match op with | .and => a &&& b | .or => a ||| b | .xor => a ^^^ b | _ => 0 : Nat)
def binI (op : BinOp) (k : IntKind) (x y : Int) : Option V := match op with
  | .add => some (.i k (k.wrap (x + y))) | .sub => some (.i k (k.wrap (x - y))) | .mul => some (.i k (k.wrap (x * y)))
  | .quo => if y = 0 then none else some (.i k (k.wrap (x.tdiv y)))
  | .rem => if y = 0 then none else some (.i k (x.tmod y))
  | .and | .or | .xor => some (.i k (bitsI op k x y))
  | .shl => if y < 0 then none else some (.i k (k.wrap (x * 2 ^ (min y.toNat k.bits))))
  | .shr => if y < 0 then none else some (.i k (x.fdiv (2 ^ (min y.toNat k.bits))))
  | _ => match cmpI op x y with | some b => some (.b b) | none => none
def bin (op : BinOp) (x y : V) : Option V := match x, y with
  | .i k x, .i k' y => match op with
    | .shl | .shr => binI op k x y
    | _ => if k == k' then binI op k x y else none
  | _, _ => none
def fillP (f : T V) : List V → List (Nat × Nat × A) → Option (List V)
  | cs, [] => some cs
  | cs, (off, size, x) :: r => match vcells (x.ev f) with
    | some xc => if xc.length = size then match putN off xc cs with | some cs' => fillP f cs' r | none => none else none
    | none => none
def extI (mx : Bool) : Int → List V → IntKind → Option V
  | n, [], k => some (.i k n)
  | n, .i _ m :: r, k => extI mx (if mx then (if m > n then m else n) else (if m < n then m else n)) r k
  | _, _, _ => none
def capTop (len : Nat) : Cap → Nat | .k c => c | _ => len
/-- a bound of a cut: from 0 to most, or what is meant -/
def sbound (x : Option A) (meant most : Nat) (f : T V) : Option Nat := match x with
  | none => some meant
  | some a => match a.ev f with | .i _ n => if 0 ≤ n then if n ≤ most then some n.toNat else none else none | _ => none
def partV (agg : Option Nat) (off : Nat) (cs : List V) : Option V := match agg with
  | none => nth cs off
  | some n => match takeN n (dropN off cs) with | some l => some (.a l) | none => none
def evP (f : T V) : OP → Option V
  | .mv x => some (x.ev f)
  | .pick c a b => match c.ev f with | .b true => some (a.ev f) | .b false => some (b.ev f) | _ => none
  | .build zero parts => match fillP f zero parts with | some cs => some (.a cs) | none => none
  | .nilck x => match x.ev f with | .pn | .fn => none | .p o n => some (.p o n) | .f g a b => some (.f g a b) | .y l => some (.y l) | _ => none
  | .bin op x y => bin op (x.ev f) (y.ev f)
  | .eqs n ng x y => match x.ev f, y.ev f with
    | .a xs, .a ys => if xs.length = n then match ikeys xs ys with | some b => some (.b (b != ng)) | none => none else none
    | _, _ => none
  | .eqb ng x y => match x.ev f, y.ev f with
    | .b x, .b y => some (.b ((x == y) != ng))
    | _, _ => none
  | .eqn ng x y => match x.ev f, y.ev f with
    | .sn, .sn => some (.b (true != ng))
    | .sl .., .sn => some (.b (false != ng))
    | _, _ => none
  | .not x => match x.ev f with | .b b => some (.b !b) | _ => none
  | .neg x => match x.ev f with | .i k n => some (.i k (k.wrap (0 - n))) | _ => none
  | .conv k x => match x.ev f with | .i _ n => some (.i k (k.wrap n)) | _ => none
  | .mkf g first cap => some (.f g (evs f first) (evs f cap))
  | .fld off x => match x.ev f with | .p o n => some (.p o (n + off)) | _ => none
  | .fieldv off agg x => match x.ev f with
    | .a cs => partV agg off cs
    | _ => none
  | .idx esz x i => match x.ev f, i.ev f with
    | .sl o off len _, .i _ n => if 0 ≤ n then if n < len then some (.p o (off + n.toNat * esz)) else none else none
    | _, _ => none
  | .idxa len esz x i => match x.ev f, i.ev f with
    | .p o off, .i _ n => if 0 ≤ n then if n < len then some (.p o (off + n.toNat * esz)) else none else none
    | _, _ => none
  | .index len esz agg x i => match x.ev f, i.ev f with
    | .a cs, .i _ n => if 0 ≤ n then if n < len then partV agg (n.toNat * esz) cs else none else none
    | _, _ => none
  | .sidx x i => match x.ev f, i.ev f with
    | .s cs, .i _ n => if 0 ≤ n then match nth cs n.toNat with | some b => some (.i .u8 b) | none => none else none
    | _, _ => none
  | .slice esz x lo hi => match x.ev f with
    | .sl o off len cap =>
      match sbound hi len (capTop len cap) f with
      | none => none
      | some h => match sbound lo 0 h f with
        | none => none
        | some l => match cap with
          | .k c => some (.sl o (if c = l then off else off + l * esz) (h - l) (.k (c - l)))
          | .op e => if e = esz then some (.sl o (off + l * esz) (h - l) (.op e)) else none
          | .any => some (.sl o (off + l * esz) (h - l) .any)
    | .sn => match sbound hi 0 0 f with
      | none => none
      | some h => match sbound lo 0 h f with
        | none => none
        | some _ => some .sn
    | _ => none
  | .ext x i => match x.ev f with | .t vs => nth vs i | _ => none
  | .len x => match x.ev f with | .sl _ _ n _ => some (.i .i64 n) | .sn => some (.i .i64 0) | _ => none
  | .lenc n => some (.i .i64 n)
  | .mx x l => match x.ev f with | .i k n => extI true n (evs f l) k | _ => none
  | .mn x l => match x.ev f with | .i k n => extI false n (evs f l) k | _ => none
def H.get (h : H) (o : P) : Option Obj := T.get o h.objs
def H.set (h : H) (o : P) (x : Obj) : H := ⟨T.set x o h.objs, h.next⟩
def H.new (h : H) (x : Obj) : H := ⟨T.set x h.next h.objs, h.next.succ⟩
def ldN (h : H) (o : P) (off n : Nat) : Option (List V) := match h.get o with
  | some (.c vs _) => takeN n (dropN off vs)
  | _ => none
def ld (h : H) (o : P) (off : Nat) : Option V := match h.get o with
  | some (.c vs _) => nth vs off
  | _ => none
/-- where an entry is, what it holds, when it was born; none: the keys are of another kind -/
def findE (kk : KK) (k : V) : List (V × V × Nat) → Nat → Option (Option (Nat × V × Nat))
  | [], _ => some none
  | (k', v, bn) :: r, i => match vkey kk k k' with | some true => some (some (i, v, bn)) | some false => findE kk k r (i + 1) | none => none
def strOf : List V → Option (List Nat)
  | [] => some []
  | .i .u8 n :: r => match strOf r with | some l => some (n.toNat % 256 :: l) | none => none
  | _ => none
def bornIn (bn : Nat) : List (V × V × Nat) → Option (V × V)
  | [] => none | (k, v, c) :: r => if c = bn then some (k, v) else bornIn bn r
def evR (f : T V) (h : H) : OR → Option V
  | .load agg x => match x.ev f with
    | .p o off => match agg with
      | none => ld h o off
      | some n => match ldN h o off n with | some l => some (.a l) | none => none
    | _ => none
  | .look kk zero ok x k => if keyOk kk (k.ev f) then match x.ev f with
    | .mn => if ok then some (.t [zero, .b false]) else some zero
    | .m o => match h.get o with
      | some (.m es _) => match findE kk (k.ev f) es 0 with
        | some (some (_, v, _)) => if ok then some (.t [v, .b true]) else some v
        | some none => if ok then some (.t [zero, .b false]) else some zero
        | none => none
      | _ => none
    | _ => none
    else none
  | .mlen x => match x.ev f with
    | .mn => some (.i .i64 0)
    | .m o => match h.get o with | some (.m es _) => some (.i .i64 es.length) | _ => none
    | _ => none
  | .bstr x => match x.ev f with
    | .sn => some (.s [])
    | .sl o off len _ => match ldN h o off len with | some l => (match strOf l with | some s => some (.s s) | none => none) | none => none
    | _ => none
  | .entry x => match x.ev f with
    | .p o 0 => match h.get o with
      | some (.it (some m) _ seen last) => match seen, h.get m with
        | bn :: _, some (.m es clock) => if clock = last then match bornIn bn es with | some (k, v) => some (.t [k, v]) | none => none else none
        | _, _ => none
      | _ => none
    | _ => none
def evA (f : T V) (id : P) : OA → Option (Obj × V)
  | .alloc cells => some (.c cells false, .p id 0)
  | .box x => match vcells (x.ev f) with | some xc => some (.c xc false, .p id 0) | none => none
  | .bslice len zero parts => match fillP f zero parts with | some cs => some (.c cs false, .sl id 0 len (.k len)) | none => none
  | .mkm => some (.m [] 0, .m id)
  | .mks esz zero l c => match l.ev f, c.ev f with
    | .i _ l, .i _ c => if 0 ≤ l then if l ≤ c then if c ≤ 1000000 then some (.c (rep c.toNat zero) false, .sl id 0 l.toNat (.k c.toNat)) else none else none else none
    | _, _ => none
def setE (x : V × V × Nat) : Nat → List (V × V × Nat) → List (V × V × Nat)
  | _, [] => [] | 0, _ :: r => x :: r | n + 1, y :: r => y :: setE x n r
def eraseE : Nat → List (V × V × Nat) → List (V × V × Nat)
  | _, [] => [] | 0, _ :: r => r | n + 1, y :: r => y :: eraseE n r
def elems (h : H) (esz : Nat) : V → Option (Nat × List V)
  | .sn => some (0, [])
  | .sl o off n _ => match ldN h o off (n * esz) with | some l => some (n, l) | none => none
  | _ => none
def appendTo (h : H) (esz : Nat) (s : V) (n : Nat) (xc : List V) : Option (V × H) :=
  if n = 0 then (match s with | .sn => some (s, h) | .sl _ _ _ _ => some (s, h) | _ => none) else
  match s with
  | .sn => if n ≤ 1000000 then some (.sl h.next 0 n (.op esz), h.new (.c xc false)) else none
  | .sl o off len cap => if 1000000 < len + n then none else match h.get o with
    | some (.c vs ro) =>
      let fresh : Option (List V) := match takeN (len * esz) (dropN off vs) with | some l => some (l ++ xc) | none => none
      match cap with
      | .k c => if len + n ≤ c then (if ro || !allOne xc then none else match putN (off + len * esz) xc vs with | some vs' => some (.sl o off (len + n) cap, h.set o (.c vs' ro)) | none => none)
        else match fresh with | some l => some (.sl h.next 0 (len + n) (.op esz), h.new (.c l false)) | none => none
      | .op e => if ro || !allOne xc || e != esz then none else if off + len * esz = vs.length then match fresh with | some l => some (.sl h.next 0 (len + n) (.op esz), (h.set o .dead).new (.c l false)) | none => none else none
      | .any => none
    | _ => none
  | _ => none
abbrev CF := V → List V → H → Option (V × H)
def evL (cf : CF) (f : T V) (h : H) : OL → Option (V × H)
  | .store n a x => match a.ev f with
    | .p o off => match h.get o with
      | some (.c vs ro) => if ro then none else match vcells (x.ev f) with
        | some xc => if xc.length = n && allOne xc then match putN off xc vs with | some vs' => some (.u, h.set o (.c vs' ro)) | none => none else none
        | none => none
      | _ => none
    | _ => none
  | .mupd kk m k v => if keyOk kk (k.ev f) then match m.ev f with
    | .m o => match h.get o with
      | some (.m es clock) => match findE kk (k.ev f) es 0 with
        | some (some (i, _, bn)) => some (.u, h.set o (.m (setE (k.ev f, v.ev f, bn) i es) clock))
        | some none => some (.u, h.set o (.m (es ++ [(k.ev f, v.ev f, clock)]) (clock + 1)))
        | none => none
      | _ => none
    | _ => none
    else none
  | .del kk m k => if keyOk kk (k.ev f) then match m.ev f with
    | .mn => some (.t [], h)
    | .m o => match h.get o with
      | some (.m es clock) => match findE kk (k.ev f) es 0 with
        | some (some (i, _, _)) => some (.t [], h.set o (.m (eraseE i es) clock))
        | some none => some (.t [], h)
        | none => none
      | _ => none
    | _ => none
    else none
  | .rng x => match x.ev f with
    | .mn => some (.p h.next 0, h.new (.it none 0 [] 0))
    | .m o => match h.get o with
      | some (.m _ clock) => some (.p h.next 0, h.new (.it (some o) clock [] clock))
      | _ => none
    | _ => none
  | .next x => none
  | .app esz s x => match elems h esz (x.ev f) with
    | some (n, xc) => appendTo h esz (s.ev f) n xc
    | none => none
  | .clear esz zero x => match x.ev f with
    | .sn => some (.t [], h)
    | .sl o off n _ => if n = 0 then some (.t [], h) else match h.get o with
      | some (.c vs ro) => if ro || !allOne zero then none else match putN off (rep n zero) vs with | some vs' => some (.t [], h.set o (.c vs' ro)) | none => none
      | _ => none
    | _ => none
  | .call fv args => cf (fv.ev f) (evs f args) h
  | .bad _ => none
def put (f : T V) (d : Option P) (v : V) : T V := match d with | some p => T.set v p f | none => f
/-- is an operation carried out, by its guard; none: it cannot be seen -/
def wanted (f : T V) : Option (P × Bool) → Option Bool
  | none => some true
  | some (p, w) => match T.get p f with | some (.b b) => some (b == w) | some (.t _) => some false | _ => none
end Go.Am
namespace Go.Am
open Go
def initT : P → List V → T V
  | _, [] => .e
  | p, v :: l => T.set v p (initT p.succ l)
def setAll (f : T V) : List P → List V → Option (T V)
  | [], [] => some f
  | p :: ps, v :: vs => setAll (T.set v p f) ps vs
  | _, _ => none
def resV (f : T V) (h : H) : List RV → Option (List V)
  | [] => some []
  | .t p :: r => match resV f h r with | some l => some ((match T.get p f with | some v => v | none => .u) :: l) | none => none
  | .c p agg :: r => match evR f h (.load agg (.t p)) with
    | some v => match resV f h r with | some l => some (v :: l) | none => none
    | none => none
def oneV (l : List V) : V := match l with | [v] => v | l => .t l
/-- of a frame only what is named -/
def restr (f : T V) : List P → T V
  | [] => .e
  | p :: r => match T.get p f with | some v => T.set v p (restr f r) | none => restr f r
/-- what must still hold later: what was read, what was made -/
inductive PK | r (q : OR) (g : T V) (v : V) | a (id : P) (x : Obj)
def obeq : Obj → Obj → Bool
  | .c l ro, .c l' ro' => all2 vbeq1 l l' && ro == ro'
  | .m [] c, .m [] c' => c == c'
  | _, _ => false
def chkK (h : H) : PK → Bool
  | .r q g v => match evR g h q with | some w => vbeq w v | none => false
  | .a id x => match T.get id h.objs with | some y => obeq y x | none => false
def chkAll (h : H) : List (PK × Nat) → Bool | [] => true | x :: r => chkK h x.1 && chkAll h r
def keep (c : Nat) : List (PK × Nat) → List (PK × Nat) | [] => [] | x :: r => if Nat.blt c x.2 then x :: keep c r else keep c r
def Op.loud : Op → Bool | .l _ => true | _ => false
/-- one operation -/
def evO (cf : CF) (f : T V) (h : H) : Op → Option (V × H)
  | .p q => match evP f q with | some v => some (v, h) | none => none
  | .r q => match evR f h q with | some v => some (v, h) | none => none
  | .a q => match evA f h.next q with | some (x, v) => some (v, h.new x) | none => none
  | .l q => evL cf f h q
/-- the operations in the order of the text -/
def runO (cf : CF) : List O → T V → H → Option (T V × H)
  | [], f, h => some (f, h)
  | o :: r, f, h => match wanted f o.gd with
    | some true => (match evO cf f h o.op with | some (v, h') => runO cf r (put f o.dst v) h' | none => none)
    | some false => runO cf r (put f o.dst (.t [])) h
    | none => none
def pkOf (o : O) (g : T V) (h : H) (v : V) (c : Nat) (pend : List (PK × Nat)) : List (PK × Nat) := match o.op with
  | .r q => (.r q g v, o.hi) :: pend
  | .a q => match evA g h.next q with | some (x, _) => (.a h.next x, o.hi) :: pend | none => pend
  | .l _ => keep c pend
  | .p _ => pend
/-- the operations in one of many orders -/
def runD (cf : CF) : List O → Nat → T V → H → List (PK × Nat) → Option (T V × H)
  | [], _, f, h, pend => if chkAll h pend then some (f, h) else none
  | o :: r, c, f, h, pend => if !o.op.loud || chkAll h pend then match wanted (restr f o.sl) o.gd with
    | some true => (match evO cf (restr f o.sl) h o.op with | some (v, h') => runD cf r (c + 1) (put f o.dst v) h' (pkOf o (restr f o.sl) h v c pend) | none => none)
    | some false => runD cf r (c + 1) (put f o.dst (.t [])) h (if o.op.loud then keep c pend else pend)
    | none => none
    else none
def X.beq : X → X → Bool | .normal, .normal => true | .exit i, .exit j => i == j | .ret, .ret => true | _, _ => false
abbrev Es := List (V × V × Nat)
def esBeq : Es → Es → Bool
  | [], [] => true | (a, b, c) :: l, (x, y, z) :: r => vbeq a x && vbeq b y && c == z && esBeq l r | _, _ => false
def hasN (n : Nat) : List Nat → Bool | [] => false | m :: r => n == m || hasN n r
def leftE (seen : List Nat) : Es → Es
  | [] => [] | (k, v, b) :: r => if hasN b seen then leftE seen r else (k, v, b) :: leftE seen r
def oldE (since : Nat) : Es → Bool | [] => true | (_, _, b) :: r => decide (b < since) && oldE since r
/-- what of the frame a way left as it was -/
def meet : T V → T V → T V
  | .n l v r, .n l' v' r' => .n (meet l l') (match v, v' with | some x, some y => if vbeq x y then some x else none | _, _ => none) (meet r r')
  | _, _ => .e
abbrev Out := X × Es × Nat × T V
def sameOut : Out → Out → Option Out
  | (x, es, c, f), (y, fs, d, g) => if X.beq x y && esBeq es fs && c == d then some (x, es, c, meet f g) else none
/-- all ways give the same -/
def agree (k : (V × V × Nat) → Option Out) : Es → Option Out
  | [] => none
  | [e] => k e
  | e :: r => match k e, agree k r with
    | some a, some b => sameOut a b
    | _, _ => none
def roObj : Obj → Obj
  | .c vs _ => .c vs true
  | .dead => .dead
  | _ => .c [] true
def roT : T Obj → T Obj
  | .e => .e
  | .n l v r => .n (roT l) (match v with | some x => some (roObj x) | none => none) (roT r)
structure Env where
  fn : Nat → Option F
  /-- what is known of a call ahead -/
  memo : Nat → List V → H → Option (Option (V × H))
def isNorm : X → Bool | .normal => true | _ => false
def pendOf : X → Option X | .normal => none | x => some x
/-- holds no place -/
def bare1 : V → Bool | .b _ => true | .i _ _ => true | .s _ => true | _ => false
def bareL : List V → Bool | [] => true | v :: r => bare1 v && bareL r
def bareV : V → Bool | .a l => bareL l | v => bare1 v
def bare : Es → Bool | [] => true | (k, v, _) :: r => bareV k && bareV v && bare r
def isIt (it : P) : V → Bool | .p o 0 => o.beq it | _ => false
mutual
/-- the rounds of a range over a map, each order; g: the frame before -/
def rounds (E : Env) : Nat → C → A → P → P → P → P → T V → T V → H → Option Out
  | 0, _, _, _, _, _, _, _, _, _ => none
  | n + 1, c, ia, it, m, nx, ok, g, f, h => match T.get it h.objs, T.get m h.objs with
    | some (.it (some m') since seen last), some (.m es clock) =>
      if isIt it (ia.ev f) && m'.beq m && oldE since es && Nat.ble since last then
        match leftE seen es with
        | [] => match exec E n c (T.set (.b false) ok (T.set (.t [.b false]) nx f)) h with
          | some (.normal, _, _) => none
          | some (x, f', h') => match T.get m h'.objs with | some (.m es' c') => some (x, es', c', meet g f') | _ => none
          | none => none
        | l => agree (fun e => match exec E n c (T.set (.b true) ok (T.set (.t [.b true, e.1, e.2.1]) nx f)) (h.set it (.it (some m) since (e.2.2 :: seen) clock)) with
          | some (.normal, f', h') => rounds E n c ia it m nx ok g f' h'
          | some (x, f', h') => match T.get m h'.objs with | some (.m es' c') => some (x, es', c', meet g f') | _ => none
          | none => none) l
      else none
    | _, _ => none
def exec (E : Env) : Nat → C → T V → H → Option (X × T V × H)
  | 0, _, _, _ => none
  | n + 1, c, f, h => match c with
    | .reg ops dr => match (if dr then runD (callV E n) ops 0 f h [] else runO (callV E n) ops f h) with
      | some (f', h') => some (.normal, f', h')
      | none => none
    | .seq a b => match exec E n a f h with
      | some (.normal, f', h') => exec E n b f' h'
      | q => q
    | .cond x a b => match x.ev f with
      | .b true => exec E n a f h
      | .b false => exec E n b f h
      | _ => none
    | .block id c => match exec E n c f h with
      | some (.exit j, f', h') => if j = id then some (.normal, f', h') else some (.exit j, f', h')
      | q => q
    | .loop c => match exec E n c f h with
      | some (.normal, f', h') => exec E n (.loop c) f' h'
      | q => q
    | .sc c => exec E n c f h
    | .rf g ps asg body =>
      match callV E n (g.ev f) [.y h.next] (h.new (.lp f ps asg body .ready none)) with
      | some (_, h') => match T.get h.next h'.objs with
        | some (.lp _ _ _ _ st pend) => match st with
          | .busy => none
          | _ => match pend with
            | none => some (.normal, f, h'.set h.next .dead)
            | some x => some (x, f, h'.set h.next .dead)
        | _ => none
      | none => none
    | .rmap ia nx ok c => match ia.ev f with
      | .p it 0 => match T.get it h.objs with
        | some (.it (some m) since [] last) => match T.get m h.objs with
          | some (.m es clock) => match rounds E n c ia it m nx ok f f ((⟨roT h.objs, h.next⟩ : H).set it (.it (some m) since [] last) |>.set m (.m es clock)) with
            | some (x, es', c', f') => if bare es' then some (x, f', (h.set m (.m es' c')).set it .dead) else none
            | none => none
          | _ => none
        | _ => none
      | _ => none
    | .exit id => some (.exit id, f, h)
    | .ret => some (.ret, f, h)
    | .skip => some (.normal, f, h)
    | .bad _ => none
def callV (E : Env) : Nat → V → List V → H → Option (V × H)
  | 0, _, _, _ => none
  | n + 1, g, args, h => match g with
    | .f g first cap => match E.memo g (first ++ args ++ cap) h with
      | some r => r
      | none => match E.fn g with
        | some F => if Nat.ble (first ++ args ++ cap).length F.nt then match exec E n F.body (initT .z (first ++ args ++ cap)) h with
          | some (x, f', h') => match x with
            | .exit _ => none
            | _ => match resV f' h' F.res with | some l => some (oneV l, h') | none => none
          | none => none else none
        | none => none
    | .y l => match T.get l h.objs with
      | some (.lp f ps asg body st _) => match st with
        | .ready => match setAll f ps args with
          | some f1 => match exec E n asg f1 h with
            | some (.normal, f2, h2) => match T.get l h2.objs with
              | some (.lp g2 ps2 a2 b2 .ready pd2) => match exec E n body f2 (h2.set l (.lp g2 ps2 a2 b2 .busy pd2)) with
                | some (x, _, h4) => match T.get l h4.objs with
                  | some (.lp g4 ps4 a4 b4 _ _) => some (.b (isNorm x), h4.set l (.lp g4 ps4 a4 b4 (if isNorm x then .ready else .done) (pendOf x)))
                  | _ => none
                | none => none
              | _ => none
            | _ => none
          | none => none
        | _ => none
      | _ => none
    | _ => none
end
end Go.Am
namespace Go.Am
open Go
def leafV : Value → Option V
  | .bool b => some (.b b) | .int k n => some (.i k n) | .string s => some (.s (s.data.toList.map (·.toNat)))
  | .pointer none => some .pn | .slice none 0 0 => some .sn | .map none => some .mn | .nilFunc => some .fn
  | _ => none
def leaves : List Value → Option (List V)
  | [] => some [] | v :: r => match leafV v, leaves r with | some x, some l => some (x :: l) | _, _ => none
def cv : Value → Option V
  | .agg cs => match leaves cs.toList with | some l => some (.a l) | none => none
  | .tuple cs => match leaves cs.toList with | some l => some (.t l) | none => none
  | v => leafV v
def co (p : Program) : Operand → Option A
  | .tmp t => some (.t (P.of t)) | .const v => (cv v).map .c | .global g => if g < p.globals.size then some (.c (.p (P.of g) 0)) else none | .func f => some (.c (.f f [] []))
def coL (p : Program) : List Operand → Option (List A)
  | [] => some [] | x :: r => match co p x, coL p r with | some a, some l => some (a :: l) | _, _ => none
def coO (p : Program) : Option Operand → Option (Option A)
  | none => some none
  | some x => (co p x).map some
def cos (p : Program) (l : Array Operand) : Option (List A) := coL p l.toList
def szOf (p : Program) (t : TypeId) : Option Nat := (p.info? t).map (·.size)
def zeroOf (p : Program) (t : TypeId) : Option (List V) := do let i ← p.info? t; let z ← i.zero; let v ← cv z; vcells v
def aggOf (p : Program) (t : TypeId) : Option (Option Nat) := do
  match ← p.underlying t with | .struct _ | .array _ _ => pure (some (← szOf p t)) | _ => pure none
def intsFrom (p : Program) : Nat → List Field → Bool
  | _, [] => true
  | k, f :: r => f.name != "_" && f.offset == k && (match p.underlying f.type with | some (.int _) => true | _ => false) && intsFrom p (k + 1) r
def intsOnly (p : Program) (fs : Array Field) : Bool := intsFrom p 0 fs.toList
/-- where the parts of a struct, or of a row, lie -/
def placeOf (p : Program) (t : TypeId) (i : Nat) : Option (Nat × Nat) := match p.underlying t with
  | some (.struct fs) => match fs[i]? with | some f => (match szOf p f.type with | some s => some (f.offset, s) | none => none) | none => none
  | some (.array _ e) => (match szOf p e with | some s => some (i * s, s) | none => none)
  | some (.slice e) => (match szOf p e with | some s => some (i * s, s) | none => none)
  | _ => none
def cpartsL (p : Program) (t : TypeId) : List (Nat × Operand) → Option (List (Nat × Nat × A))
  | [] => some []
  | (i, x) :: r => match placeOf p t i, co p x, cpartsL p t r with
    | some (o, s), some a, some l => some ((o, s, a) :: l)
    | _, _, _ => none
def sized (p : Program) (t : TypeId) : Bool := match p.underlying t with
  | some (.struct fs) => fs.toList.all fun f => (szOf p f.type).isSome
  | some (.array _ e) => (szOf p e).isSome
  | _ => false
def keyKind (p : Program) (t : TypeId) : Option KK := match p.underlying t with
  | some (.int _) => some .i
  | some .string => some .s
  | some (.struct fs) => if intsOnly p fs && !p.stoodInHeld t then some (.a fs.size) else none
  | _ => none
/-- what an element takes, where rows of it may grow -/
def appOk (p : Program) (e : TypeId) : Option Nat := match zeroOf p e, szOf p e, p.info? e with
  | some z, some s, some i => if z.length = s ∧ i.bytes ≤ 1000000 then some s else none
  | _, _, _ => none
def compOp (p : Program) (o : Oper) : Option Op := do
  match o.op with
  | .move x | .assign x => pure (.p (.mv (← co p x)))
  | .pick c a b => pure (.p (.pick (← co p c) (← co p a) (← co p b)))
  | .alloc e => pure (.a (.alloc (← zeroOf p e)))
  | .box _ x => pure (.a (.box (← co p x)))
  | .build t ps => if sized p t then (do pure (.p (.build (← zeroOf p t) (← cpartsL p t ps.toList)))) else none
  | .buildSlice t n ps =>
    let .slice e ← p.underlying t | none
    let z ← zeroOf p e
    let s ← szOf p e
    if z.length = s ∧ n * s ≤ 2 ^ 24 then (do pure (.a (.bslice n (rep n z) (← cpartsL p t ps.toList)))) else none
  | .insert t m k v | .mapUpdate t m k v =>
    let .map kt _ ← p.underlying t | none
    pure (.l (.mupd (← keyKind p kt) (← co p m) (← co p k) (← co p v)))
  | .load t x => pure (.r (.load (← aggOf p t) (← co p x)))
  | .store t a x => pure (.l (.store (← szOf p t) (← co p a) (← co p x)))
  | .nilCheck x => pure (.p (.nilck (← co p x)))
  | .binOp op t x y _ => do
    let a ← co p x
    let b ← co p y
    match ← p.underlying t with
    | .int _ => (match op with | .andNot => none | op => pure (.p (.bin op a b)))
    | .struct fs => if intsOnly p fs && !p.stoodInHeld t && !p.eqGuardType p.depth t then (match op with | .eql => pure (.p (.eqs fs.size false a b)) | .neq => pure (.p (.eqs fs.size true a b)) | _ => none) else none
    | .bool => (match op with | .eql => pure (.p (.eqb false a b)) | .neq => pure (.p (.eqb true a b)) | _ => none)
    | .slice _ => (match op with | .eql => pure (.p (.eqn false a b)) | .neq => pure (.p (.eqn true a b)) | _ => none)
    | _ => none
  | .unOp .not _ x => pure (.p (.not (← co p x)))
  | .unOp .neg _ x => pure (.p (.neg (← co p x)))
  | .convert s t x => match ← p.underlying s, ← p.underlying t with
    | .int _, .int k => pure (.p (.conv k (← co p x)))
    | .slice e, .string => match p.underlying e with | some (.int .u8) => pure (.r (.bstr (← co p x))) | _ => none
    | _, _ => none
  | .makeFunc (.func g) a b => pure (.p (.mkf g (← cos p a) (← cos p b)))
  | .makeMap _ none => pure (.a .mkm)
  | .makeSlice t l c =>
    let .slice e ← p.underlying t | none
    let z ← zeroOf p e
    let s ← szOf p e
    let i ← p.info? e
    if z.length = s ∧ i.bytes ≤ 1000000 then (do pure (.a (.mks s z (← co p l) (← co p c)))) else none
  | .slice t x lo hi none =>
    let .slice e ← p.underlying t | none
    pure (.p (.slice (← szOf p e) (← co p x) (← coO p lo) (← coO p hi)))
  | .fieldAddr t x i => do
    let .struct fs ← p.underlying t | none
    let f ← fs[i]?
    if (← szOf p f.type) = 0 then none else pure (.p (.fld f.offset (← co p x)))
  | .field t x i => do
    let .struct fs ← p.underlying t | none
    let f ← fs[i]?
    pure (.p (.fieldv f.offset (← aggOf p f.type) (← co p x)))
  | .indexAddr t x i => match ← p.underlying t with
    | .slice e => do pure (.p (.idx (← szOf p e) (← co p x) (← co p i)))
    | .array n e => do pure (.p (.idxa n (← szOf p e) (← co p x) (← co p i)))
    | _ => none
  | .index t x i => match ← p.underlying t with
    | .array n e => do pure (.p (.index n (← szOf p e) (← aggOf p e) (← co p x) (← co p i)))
    | .string => do pure (.p (.sidx (← co p x) (← co p i)))
    | _ => none
  | .lookup t x k ok => do
    let .map kt e ← p.underlying t | none
    let i ← p.info? e
    let z ← i.zero
    pure (.r (.look (← keyKind p kt) (← cv z) ok (← co p x) (← co p k)))
  | .range t x =>
    let .map _ _ ← p.underlying t | none
    pure (.l (.rng (← co p x)))
  | .next x false => pure (.l (.next (← co p x)))
  | .entry x => pure (.r (.entry (← co p x)))
  | .extract x i => pure (.p (.ext (← co p x) i))
  | .call c => match c.callee with
    | .value g => pure (.l (.call (← co p g) (← cos p c.args)))
    | .builtin .len => do
      let t ← c.argTypes[0]?
      match ← p.underlying t with
      | .map _ _ => pure (.r (.mlen (← co p (← c.args[0]?))))
      | .array n _ => do let _ ← c.args[0]?; pure (.p (.lenc n))
      | .slice _ => pure (.p (.len (← co p (← c.args[0]?))))
      | _ => none
    | .builtin .append => do
      let t ← c.argTypes[0]?
      let .slice e ← p.underlying t | none
      let t2 ← c.argTypes[1]?
      let .slice _ ← p.underlying t2 | none
      pure (.l (.app (← appOk p e) (← co p (← c.args[0]?)) (← co p (← c.args[1]?))))
    | .builtin .delete => do
      let .map kt _ ← p.underlying (← c.argTypes[0]?) | none
      pure (.l (.del (← keyKind p kt) (← co p (← c.args[0]?)) (← co p (← c.args[1]?))))
    | .builtin .clear => do
      let t ← c.argTypes[0]?
      let .slice e ← p.underlying t | none
      pure (.l (.clear (← szOf p e) (← zeroOf p e) (← co p (← c.args[0]?))))
    | .builtin .max => do match ← cos p c.args with | x :: l => pure (.p (.mx x l)) | [] => none
    | .builtin .min => do match ← cos p c.args with | x :: l => pure (.p (.mn x l)) | [] => none
    | _ => none
  | _ => none
def compGd (ops : Array Oper) : Option (Nat × Bool) → Option (Option (P × Bool))
  | none => some none
  | some (j, b) => match (ops[j]?).bind (·.dst) with | some t => some (some (P.of t, b)) | none => none
def dstOk (nt : Nat) : Option Tmp → Bool | none => true | some t => Nat.blt t nt
def compOr (p : Program) (o : Oper) : Op := match compOp p o with | some x => x | none => .l (.bad o.pos)
def compL (p : Program) (nt : Nat) (ops : Array Oper) : List Oper → Nat → Option (List O)
  | [], _ => some []
  | o :: r, i => match compGd ops o.guard, dstOk nt o.dst, compL p nt ops r (i + 1) with
    | some gd, true, some l => some ({ dst := o.dst.map P.of, gd, op := compOr p o, hi := 0, sl := [] } :: l)
    | _, _, _ => none
/-! ### regions of many orders -/
def slots (ops : Array Oper) (o : Oper) : List P :=
  (o.op.operands.toList.filterMap fun | .tmp t => some (P.of t) | _ => none) ++ (match compGd ops o.guard with | some (some (p, _)) => [p] | _ => [])
def compD1 (p : Program) (nt : Nat) (ops : Array Oper) (o : Oper) : Option O := match compGd ops o.guard, dstOk nt o.dst with
  | some gd, true => some { dst := o.dst.map P.of, gd, op := compOr p o, hi := 0, sl := slots ops o }
  | _, _ => none
def compDL (p : Program) (nt : Nat) (ops : Array Oper) : List Nat → Option (List O)
  | [] => some []
  | i :: r => match ops[i]? with
    | some o => match compD1 p nt ops o, compDL p nt ops r with
      | some x, some l => some (x :: l)
      | _, _ => none
    | none => none
def depsIn (seen : Nat) (o : Oper) : Bool := o.after.toList.all fun e => !Region.binds .any e || seen.testBit e.on
/-- the first that may come: quiet ones ahead of loud ones -/
def pickNext (seen : Nat) (loud : Bool) : List (Oper × Bool) → Nat → Option Nat
  | [], _ => none
  | (o, l) :: r, i => if !seen.testBit i && (l == loud) && depsIn seen o then some i else pickNext seen loud r (i + 1)
def ordOf (l : List (Oper × Bool)) : Nat → Nat → List Nat
  | 0, _ => []
  | n + 1, seen => match pickNext seen false l 0 with
    | some i => i :: ordOf l n (seen ||| 2 ^ i)
    | none => match pickNext seen true l 0 with
      | some i => i :: ordOf l n (seen ||| 2 ^ i)
      | none => []
def posIn (i : Nat) : List Nat → Nat → Option Nat
  | [], _ => none
  | j :: r, k => if i == j then some k else posIn i r (k + 1)
/-- which places come before each, by what is asked of the order -/
def befOf (ops : Array Oper) (ord : List Nat) : List Nat → List Nat → List Nat
  | [], acc => acc
  | i :: r, acc => befOf ops ord r (acc ++ [match ops[i]? with
    | some o => o.after.toList.foldl (fun m e => if Region.binds .any e then (match posIn e.on ord 0 with | some p => m ||| 2 ^ p ||| acc.getD p 0 | none => m) else m) 0
    | none => 0])
def hiOf (c : Nat) : List O → List Nat → Nat → Nat
  | o :: r, m :: s, k => if o.op.loud && m.testBit c then k else hiOf c r s (k + 1)
  | _, _, k => k
def setHi (os : List O) (bf : List Nat) : List O → Nat → List O
  | [], _ => []
  | o :: r, c => { o with hi := hiOf c os bf 0 } :: setHi os bf r (c + 1)
def inP (d : Option P) (l : List P) : Bool := match d with | none => false | some p => l.any (p.beq ·)
def sameD : Option P → Option P → Bool | some p, some q => p.beq q | _, _ => false
def pairOk (a b : O) (bit : Bool) : Bool := (bit || (!a.op.loud && !inP a.dst b.sl && !inP b.dst a.sl)) && !sameD a.dst b.dst
def depAt (ord : List Nat) (c : Nat) (e : Edge) : Bool := !Region.binds .any e || (List.range c).any fun p => ord[p]? == some e.on
def bitAt (ord bf : List Nat) (n c' : Nat) (e : Edge) : Bool := Region.binds .any e && (List.range n).any fun p => ord[p]? == some e.on && (p == c' || (bf.getD p 0).testBit c')
def chkAt (ops : Array Oper) (ord bf : List Nat) (os : List O) (c : Nat) : Bool := match ord[c]?, os[c]? with
  | some i, some o => match ops[i]? with
    | some op => op.after.toList.all (depAt ord c)
      && (List.range os.length).all (fun c' => !(bf.getD c 0).testBit c' || op.after.toList.any (bitAt ord bf os.length c'))
      && (o.hi == os.length || (match os[o.hi]? with | some o' => o'.op.loud && (bf.getD o.hi 0).testBit c | none => false))
      && (List.range c).all (fun c' => match ord[c']?, os[c']? with | some i', some o' => i' != i && pairOk o' o ((bf.getD c 0).testBit c') | _, _ => false)
    | none => false
  | _, _ => false
def chkD (ops : Array Oper) (ord bf : List Nat) (os : List O) : Bool :=
  ord.length == os.length && ord.length == ops.size && (List.range ops.size).all (fun i => ord.contains i) && (List.range os.length).all (chkAt ops ord bf os)
def compD (p : Program) (nt : Nat) (ops : Array Oper) : Option (List Nat × List Nat × List O) :=
  let ord := ordOf (ops.toList.map fun o => (o, (compOr p o).loud)) ops.size 0
  match compDL p nt ops ord with
  | some os => let bf := befOf ops ord ord []; some (ord, bf, setHi os bf os 0)
  | none => none
def compOps (p : Program) (nt : Nat) (ops : Array Oper) (draw : Bool) : Option (List O) :=
  if draw then match compD p nt ops with
    | some (ord, bf, os) => if chkD ops ord bf os then some os else none
    | none => none
  else compL p nt ops ops.toList 0
def compLoop (p : Program) (nt : Nat) (c : Code) (cc : C) : C := match c, cc with
  | .seq (.region _ ops false) _, .seq a rest => match ops.toList with
    | [⟨some d1, .next it false, _, _, _, none⟩, ⟨some d2, .extract (.tmp d1') 0, _, _, _, none⟩] => match co p it with
      | some x => if d1 = d1' ∧ d1 < nt ∧ d2 < nt then .rmap x (P.of d1) (P.of d2) rest else .bad "rmap"
      | none => .bad "rmap"
    | _ => .loop cc
  | _, _ => .loop cc
def comp (p : Program) (nt : Nat) : Code → C
  | .skip => .skip
  | .region id ops d => match compOps p nt ops d with | some l => .reg l d | none => .bad "region"
  | .seq a b => .seq (comp p nt a) (comp p nt b)
  | .cond c a b => match co p c with | some x => .cond x (comp p nt a) (comp p nt b) | none => .bad "cond"
  | .block id c => .block id (comp p nt c)
  | .loop c => compLoop p nt c (comp p nt c)
  | .rangeFunc f ps a b => if !(ps.toList.all fun t => Nat.blt t nt) then .bad "ps" else match co p f with | some x => .rf x (ps.toList.map P.of) (comp p nt a) (comp p nt b) | none => .bad "rf"
  | .exit id => .exit id
  | .scope c => .sc (comp p nt c)
  | .label _ => .skip
  | .goto _ => .bad "goto"
  | .ret => .ret
  | .refuse w => .bad w
def cRes (p : Program) : List ResultVar → Option (List RV)
  | [] => some []
  | .tmp t :: r => match cRes p r with | some l => some (.t (P.of t) :: l) | none => none
  | .cell a t :: r => match aggOf p t, cRes p r with | some g, some l => some (.c (P.of a) g :: l) | _, _ => none
def compF (p : Program) (f : Func) : Option F :=
  if f.name == "runtime.NumGoroutine" then none else
  match f.body, cRes p f.results.toList with
  | some b, some r => some { res := r, nt := f.ntmps, body := comp p f.ntmps b }
  | _, _ => none
def fnOf (p : Program) (g : Nat) : Option F := match p.funcs[g]? with | some f => compF p f | none => none
end Go.Am
namespace Go.Am
open Go
/-! ### what is known of calls ahead -/
/-- trees of values, one beside the other: rows hold their cells -/
inductive Ts | e | s (v : V) (r : Ts) | sl (n k : Nat) (c r : Ts) | a (c r : Ts) | t (c r : Ts)
def lay : Ts → H → List V × H
  | .e, h => ([], h)
  | .s v r, h => match lay r h with | (l, h') => (v :: l, h')
  | .sl n _ c r, h => match lay c h with
    | (vs, h1) => match lay r (h1.new (.c vs true)) with | (l, h2) => (.sl h1.next 0 n .any :: l, h2)
  | .a c r, h => match lay c h with | (vs, h1) => match lay r h1 with | (l, h2) => (.a vs :: l, h2)
  | .t c r, h => match lay c h with | (vs, h1) => match lay r h1 with | (l, h2) => (.t vs :: l, h2)
def leafOk : V → Bool
  | .b _ => true | .i _ _ => true | .s _ => true | .pn => true | .sn => true | .mn => true | .fn => true | .f _ [] [] => true | _ => false
/-- are the values as the trees tell, each row at a place from n on -/
def matchT (n : Nat) (h : H) : Ts → List V → Bool
  | .e, [] => true
  | .s v r, x :: l => leafOk v && vbeq x v && matchT n h r l
  | .sl m k c r, .sl o off len _ :: l => m == len && Nat.ble n o.num && (match T.get o h.objs with
    | some (.c vs _) => (match takeN k (dropN off vs) with | some cs => matchT n h c cs | none => false)
    | _ => false) && matchT n h r l
  | .a c r, .a vs :: l => matchT n h c vs && matchT n h r l
  | .t c r, .t vs :: l => matchT n h c vs && matchT n h r l
  | _, _ => false
structure En where
  g : Nat
  base : List (Nat × Ts)
  args : Ts
  res : Ts
def layBase : List (Nat × Ts) → H → H
  | [], h => h
  | (b, ts) :: r, h => match lay ts h with | (vs, h1) => layBase r (h1.set (P.of b) (.c vs true))
def blankT : Nat → T Obj → T Obj
  | 0, t => t
  | n + 1, t => T.set (.c [] true) (P.of n) (blankT n t)
/-- the small heap of an entry -/
def heap0 (gs : Nat) (base : List (Nat × Ts)) : H := layBase base ⟨blankT gs .e, P.of gs⟩
def enOk (E : Env) (n gs : Nat) (e : En) : Bool := e.base.all (fun x => Nat.blt x.1 gs) && match lay e.args (heap0 gs e.base) with
  | (vs, h1) => match callV E n (.f e.g [] []) vs h1 with
    | some (v, h2) => matchT h1.next.num h2 e.res [v]
    | none => false
def matchB (h : H) : List (Nat × Ts) → Bool
  | [] => true
  | (b, ts) :: r => (match T.get (P.of b) h.objs with | some (.c vs _) => matchT 0 h ts vs | _ => false) && matchB h r
def lookE (g : Nat) (args : List V) (h : H) : List En → Option En
  | [] => none
  | e :: r => if e.g == g && matchT 0 h e.args args && matchB h e.base then some e else lookE g args h r
def memoE (es : List En) (g : Nat) (args : List V) (h : H) : Option (Option (V × H)) := match lookE g args h es with
  | some e => (match lay e.res h with | ([v], h') => some (some (v, h')) | _ => none)
  | none => none
end Go.Am
