/- Operations on values by numbers, and the translation of the model's operations into them. Nothing is proved of the program here. -/
import Derived.Test.YtdefefeifcdogaaGreatVb
set_option linter.unusedSimpArgs false
set_option linter.unusedVariables false
namespace Go.Proofs.YtdefefeifcdogaaGreat
open Go.RowKit

inductive VO where
  | mv
  | pick
  | alloc (t : TypeId) (z : List V)
  | box (t : TypeId)
  | boxE
  | build (z : List V) (pl : List (Nat × Nat))
  | mksl (n size : Nat) (z : List V) (pl : List (Nat × Nat))
  | ld1
  | ldA (n : Nat)
  | st (n : Nat)
  | nilck
  | fld (off n : Nat) (agg : Bool)
  | fldA (off : Nat)
  | ixA (size : Nat)
  | ixAA (len size : Nat)
  | ixV (len size : Nat) (agg : Bool)
  | ixS
  | slc (size : Nat) (lo hi : Bool)
  | slS (lo hi : Bool)
  | mk (e : TypeId) (size bytes : Nat) (z : List V)
  | ext (i : Nat)
  | mkfn (f : FuncId)
  | len
  | lenS
  | app (e : TypeId) (size bytes : Nat)
  | appB (e : TypeId) (size bytes : Nat)
  | appM (e : TypeId) (size bytes : Nat)
  | appL (e : TypeId) (size bytes : Nat)
  | mkslB (e : TypeId) (n size : Nat) (z : List V) (pl : List (Nat × Nat))
  | bin (op : BinOp)
  | eqB (neg : Bool)
  | eqP (offs : List (Nat × Nat)) (neg : Bool)
  | eqN (neg : Bool)
  | eqQ (neg : Bool)
  | eqI (neg : Bool)
  | sl00
  | un (op : UnOp)
  | cvt (k : IntKind)
  | cvtS
  | mn
  | mx
  | call (f : FuncId)
  | callv
  | callB (f : FuncId)
  | callL (f : FuncId) (js : List Nat)
  | mkmap (ks : List Nat)
  | mlk (ks : List Nat) (ok : Bool)
  | mput (ks : List Nat)
  | cpy
  | clr (size : Nat) (z : List V)
  | stL (n : Nat)
  | ld1W
  | runes
deriving Inhabited

inductive Opd where
  | t (n : Nat)
  | c (v : V)
deriving Inhabited

structure VI where
  dst : Option Nat
  guard : Option (Nat × Bool)
  op : VO
  args : List Opd
  mode : Option (List Nat)
deriving Inhabited

inductive VC where
  | skip
  | ret
  | ops (k : Nat) (l : List VI)
  | seq (a b : VC)
  | cond (c : Opd) (a b : VC)
  | block (id : Nat) (b : VC)
  | loop (b : VC)
  | exit (id : Nat)
  | scope (b : VC)
  | rangeF (nt : Nat) (f : Opd) (ps : Array Nat) (as bd : Code)
  | bad
deriving Inhabited

def V.cells : V → List V
  | .agg cs => cs
  | v => [v]
def vint (n : Int) : V := .lit (.int .i64 n)
def vbool (b : Bool) : V := .lit (.bool b)
def vund : V := .lit (.tuple #[])

mutual
def V.norm : V → V
  | .sl n xs _ => .sl n xs .no
  | .agg cs => .agg (V.norms cs)
  | .tup cs => .tup (V.norms cs)
  | v => v
def V.norms : List V → List V
  | [] => []
  | v :: l => V.norm v :: V.norms l
end

def splice (cs : List V) (off : Nat) (vs : List V) : List V := cs.take off ++ vs ++ cs.drop (off + vs.length)

def vfill (cells : List V) : List ((Nat × Nat) × V) → Option (List V)
  | [] => some cells
  | ((off, size), v) :: rest => if v.cells.length = size ∧ off + size ≤ cells.length then vfill (splice cells off v.cells) rest else none

def vbinI (op : BinOp) (k : IntKind) (a b : Int) : Option Value :=
  match op with
  | .add => some (.int k (k.wrap (a + b)))
  | .sub => some (.int k (k.wrap (a - b)))
  | .mul => some (.int k (k.wrap (a * b)))
  | .quo => if b = 0 then none else some (.int k (k.wrap (a.tdiv b)))
  | .rem => if b = 0 then none else some (.int k (a.tmod b))
  | .eql => some (.bool (a == b))
  | .neq => some (.bool (a != b))
  | .lss => some (.bool (a < b))
  | .leq => some (.bool (a ≤ b))
  | .gtr => some (.bool (a > b))
  | .geq => some (.bool (a ≥ b))
  | .shr => if 0 ≤ b then some (.int k (a / 2 ^ min b.toNat k.bits)) else none
  | _ => none
def vbinS (op : BinOp) (x y : ByteArray) : Option Value :=
  match op with
  | .add => if x.size + y.size ≤ 9223372036854775807 then some (.string (x ++ y)) else none
  | .eql => some (.bool (x.toList == y.toList))
  | .neq => some (.bool !(x.toList == y.toList))
  | _ => none

/-- Two cells of a kind (0: numbers, 1: bools, 2: strings) are compared. -/
def eqSc (k : Nat) (a b : Value) : Option Bool :=
  match k with
  | 0 => match a, b with | .int k a, .int k' b => if k = k' then some (a == b) else none | _, _ => none
  | 1 => match a, b with | .bool a, .bool b => some (a == b) | _, _ => none
  | _ => match a, b with | .string a, .string b => some (a.toList == b.toList) | _, _ => none
def eqOffs (xs ys : List V) : List (Nat × Nat) → Option Bool
  | [] => some true
  | (o, k) :: r => match xs[o]?, ys[o]? with
    | some (.lit a), some (.lit b) => (eqSc k a b).bind fun e => (eqOffs xs ys r).map fun t => e && t
    | _, _ => none

/-- The bounds of a cut. -/
def bnds (lo hi : Bool) (d : Int) (bs : List V) : Option (Int × Int) :=
  if lo = true then (match bs with
    | .lit (.int _ l) :: r => if hi = true then (match r with | [.lit (.int _ h)] => some (l, h) | _ => none) else (match r with | [] => some (l, d) | _ => none)
    | _ => none)
  else if hi = true then (match bs with | [.lit (.int _ h)] => some (0, h) | _ => none) else (match bs with | [] => some (0, d) | _ => none)
/-- A slice that is cut. -/
def vslc (size : Nat) (lo hi : Bool) (v : V) (bs : List V) : Option V :=
  match v with
  | .sl n xs _ => match bnds lo hi n bs with
    | some (l, h) => if 0 ≤ l ∧ l ≤ h ∧ h ≤ n then some (.sl (h.toNat - l.toNat) ((xs.drop (l.toNat * size)).take ((h.toNat - l.toNat) * size)) .no) else none
    | none => none
  | .bsl i off n cap => match bnds lo hi n bs with
    | some (l, h) => if 0 ≤ l ∧ l ≤ h ∧ h ≤ cap then (if l < cap ∨ l = 0 then some (.bsl i (off + l.toNat * size) (h.toNat - l.toNat) (cap - l.toNat)) else some (.sl 0 [] .no)) else none
    | none => none
  | .gsl i n s => match bnds lo hi n bs with
    | some (l, h) => if 0 ≤ l ∧ l ≤ h ∧ h ≤ n then (if l = 0 then some (.gsl i h.toNat s) else if l < n then some (.bsl i (l.toNat * size) (h.toNat - l.toNat) (n - l.toNat)) else some (.sl 0 [] .no)) else none
    | none => none
  | _ => none
def vslS (lo hi : Bool) (s : ByteArray) (bs : List V) : Option V :=
  match bnds lo hi s.size bs with
  | some (l, h) => if 0 ≤ l ∧ l ≤ h ∧ h ≤ s.size then some (.lit (.string (s.extract l.toNat h.toNat))) else none
  | none => none

/-! Keys of maps. -/
def ckOf : Nat → V → Option MK
  | 0, .lit (.int .i64 n) => some (.int n)
  | 1, .lit (.bool b) => some (.bool b)
  | 2, .lit (.string s) => some (.str s.data.toList)
  | _, _ => none
def cksOf : List Nat → List V → Option (List MK)
  | [], [] => some []
  | k :: ks, v :: vs => (ckOf k v).bind fun x => (cksOf ks vs).map fun r => x :: r
  | _, _ => none
def keyOf (ks : List Nat) (v : V) : Option (List MK) :=
  match ks with
  | [k] => (ckOf k v).map fun x => [x]
  | _ => match v with
    | .agg cs => cksOf ks cs
    | _ => none
def mget : List (List MK × Int) → List MK → Option Int
  | [], _ => none
  | x :: r, k => if x.1 = k then some x.2 else mget r k
def mset : List (List MK × Int) → List MK → Int → List (List MK × Int)
  | [], k, n => [(k, n)]
  | x :: r, k, n => if x.1 = k then (x.1, n) :: r else x :: mset r k n
def mans (ok : Bool) (x : Option Int) : V := if ok = true then .tup [vint (x.getD 0), vbool x.isSome] else vint (x.getD 0)
/-- A rune. -/
def runeOf : V → Option Int
  | .lit (.int .i32 n) => some n
  | _ => none
/-- A text of runes. -/
def runesS (l : List Int) : ByteArray := l.foldl (fun s n => s ++ Utf8.encode n) .empty

/-- What an operation gives that does not look at memory. -/
def pureSem (op : VO) (vals : List V) : Option V :=
  match op with
  | .mv => match vals with | [x] => some x | _ => none
  | .pick => match vals with | [.lit (.bool t), a, b] => some (if t then a else b) | _ => none
  | .build z pl => if pl.length = vals.length then (vfill z (pl.zip vals)).map .agg else none
  | .mksl n size z pl => if pl.length = vals.length ∧ z.length = n * size then (V.pubs vals).bind fun us => (vfill z (pl.zip us)).bind fun cs => if cs.all V.one then some (.sl n cs .exact) else none else none
  | .boxE => match vals with | [x] => (V.pub x).bind fun u => if u.cells.all V.one then some (.ept u.cells 0) else none | _ => none
  | .nilck => match vals with | [.ptr i o] => some (.ptr i o) | [.ept xs o] => some (.ept xs o) | [.fn f cs] => some (.fn f cs) | _ => none
  | .fld off n agg => match vals with
    | [.agg cs] => if agg then (if off + n ≤ cs.length then some (.agg ((cs.drop off).take n)) else none) else cs[off]?
    | _ => none
  | .fldA off => match vals with | [.ptr i o] => some (.ptr i (o + off)) | [.ept xs o] => some (.ept xs (o + off)) | _ => none
  | .ixA size => match vals with
    | [.sl n xs _, .lit (.int _ i)] => if 0 ≤ i ∧ i < n ∧ xs.length = n * size ∧ 0 < size then some (.ept xs (i.toNat * size)) else none
    | [.bsl b off n _, .lit (.int _ i)] => if 0 ≤ i ∧ i < n then some (.ptr b (off + i.toNat * size)) else none
    | [.gsl b n _, .lit (.int _ i)] => if 0 ≤ i ∧ i < n then some (.ptr b (i.toNat * size)) else none
    | _ => none
  | .ixAA len size => match vals with
    | [.ptr b off, .lit (.int _ i)] => if 0 ≤ i ∧ i < len then some (.ptr b (off + i.toNat * size)) else none
    | [.ept xs off, .lit (.int _ i)] => if 0 ≤ i ∧ i < len then some (.ept xs (off + i.toNat * size)) else none
    | _ => none
  | .ixV len size agg => match vals with
    | [.agg cs, .lit (.int _ i)] => if 0 ≤ i ∧ i < len then
        (if agg then (if i.toNat * size + size ≤ cs.length then some (.agg ((cs.drop (i.toNat * size)).take size)) else none) else cs[i.toNat * size]?) else none
    | _ => none
  | .ixS => match vals with | [.lit (.string s), .lit (.int _ i)] => if 0 ≤ i then (s[i.toNat]?).map fun b => .lit (.int .u8 b.toNat) else none | _ => none
  | .slc size lo hi => match vals with | x :: bs => vslc size lo hi x bs | _ => none
  | .slS lo hi => match vals with | .lit (.string s) :: bs => vslS lo hi s bs | _ => none
  | .ext i => match vals with | [.tup vs] => vs[i]? | _ => none
  | .mkfn f => some (.fn f vals)
  | .len => match vals with | [.sl n _ _] => some (vint n) | [.bsl _ _ n _] => some (vint n) | [.gsl _ n _] => some (vint n) | _ => none
  | .lenS => match vals with | [.lit (.string s)] => some (vint s.size) | _ => none
  | .bin op => match vals with
    | [.lit (.int k a), .lit (.int k' b)] => if k = k' then (vbinI op k a b).map .lit else none
    | [.lit (.string a), .lit (.string b)] => (vbinS op a b).map .lit
    | _ => none
  | .eqB neg => match vals with | [.lit (.bool a), .lit (.bool b)] => some (vbool ((a == b) != neg)) | _ => none
  | .eqP offs neg => match vals with | [.agg xs, .agg ys] => (eqOffs xs ys offs).map fun b => vbool (b != neg) | _ => none
  | .eqQ neg => match vals with | [.lit (.pointer none)] => some (vbool !neg) | [.ptr _ _] => some (vbool neg) | [.ept _ _] => some (vbool neg) | _ => none
  | .eqI neg => match vals with | [.lit .nilIface] => some (vbool !neg) | [.lit (.iface _ _)] => some (vbool neg) | _ => none
  | .sl00 => match vals with | [.sl _ _ _] => some (.sl 0 [] .exact) | [.bsl _ _ _ _] => some (.sl 0 [] .exact) | [.gsl _ _ _] => some (.sl 0 [] .exact) | _ => none
  | .un op => match op, vals with
    | .neg, [.lit (.int k n)] => some (.lit (.int k (k.wrap (0 - n))))
    | .not, [.lit (.bool b)] => some (vbool !b)
    | _, _ => none
  | .cvt k => match vals with | [.lit (.int _ n)] => some (.lit (.int k (k.wrap n))) | _ => none
  | .cvtS => match vals with | [.lit (.string s)] => some (.lit (.string s)) | _ => none
  | .mn => match vals with | [.lit (.int k x), .lit (.int _ y)] => some (.lit (.int k (if y < x then y else x))) | _ => none
  | .mx => match vals with | [.lit (.int k x), .lit (.int _ y)] => some (.lit (.int k (if y > x then y else x))) | _ => none
  | .runes => match vals with | [.sl n xs _] => if xs.length = n then (xs.mapM runeOf).map fun l => .lit (.string (runesS l)) else none | _ => none
  | _ => none

/-- The cells behind a slice that is read. -/
def rdS (m : Mm) (size : Nat) (y : V) : Option (Nat × List V) :=
  match y with
  | .sl j ys _ => if ys.length = j * size then some (j, ys) else none
  | .bsl i off j _ => match m.obj i with
    | some (.box cs _) => if off + j * size ≤ cs.length ∧ ((cs.drop off).take (j * size)).all V.one = true then some (j, (cs.drop off).take (j * size)) else none
    | _ => none
  | .gsl i j _ => match m.obj i with
    | some (.box cs _) => if j * size ≤ cs.length ∧ (cs.take (j * size)).all V.one = true then some (j, cs.take (j * size)) else none
    | _ => none
  | _ => none

/-- The cells behind a slice that says them itself. -/
def rdL (size : Nat) (y : V) : Option (Nat × List V) :=
  match y with
  | .sl j ys _ => if ys.length = j * size then some (j, ys) else none
  | _ => none

/-- May this box be written in this order? -/
def stOk (md : Option (List Nat)) (base i : Nat) : Bool :=
  match md with
  | none => true
  | some anc => decide (base ≤ i) && anc.contains (i - base)
/-- May this row grow in this order? -/
def ownOk (md : Option (List Nat)) (base t : Nat) : Bool :=
  match md with
  | none => true
  | some anc => !anc.isEmpty && (decide (t < base) || anc.contains (t - base))
/-- May this box be read in this order? -/
def rdable (md : Option (List Nat)) (base i : Nat) : Bool :=
  match md with
  | none => true
  | some anc => decide (i < base) || anc.contains (i - base)

def callable (P : Program) (f : FuncId) : Bool :=
  match P.funcs[f]? with
  | some fn => fn.body.isSome && fn.name != "runtime.NumGoroutine"
  | none => false

/-- An object goes. -/
def Mm.del (m : Mm) (i : Nat) : Mm := ⟨fun j => if j = i then none else m.obj j, m.next⟩
/-- m' agrees with m on what an operation of mode anc may look at. -/
def Agree (base : Nat) (anc : List Nat) (m m' : Mm) : Prop := ∀ i, (i < base ∨ i - base ∈ anc) → m'.obj i = m.obj i

/-- A round of loop i, called with values. -/
def YFn (P : Program) (G : Ground) (i : Nat) (args : List V) (m : Mm) (Post : V → Mm → Prop) : Prop :=
  ∀ (E : Env) (w : World) (cargs : Array Value) (l : Nat), G.ok E.M w → MemR E m w → VRs E args cargs.toList → E.φ i = some l →
    ∃ fn tmps as bd, (Instr.yield l cargs).run P w = .ok (.round l fn tmps as bd) w ∧
      RoundIn Fence.wide 0 P l fn tmps as bd w fun e w' => ∃ v r m' E', e = .returned v ∧ Post r m' ∧ Step NoX E m w E' m' w' ∧ MemR E' m' w' ∧ VR E' r v
theorem YFn.mono {P : Program} {G : Ground} {i : Nat} {args : List V} {m : Mm} {Post Post' : V → Mm → Prop} (h : YFn P G i args m Post) (hp : ∀ r m', Post r m' → Post' r m') : YFn P G i args m Post' :=
  fun E w cargs l hG hm hv hl => by
    obtain ⟨fn, tmps, as, bd, hy, hr⟩ := h E w cargs l hG hm hv hl
    exact ⟨fn, tmps, as, bd, hy, hr.mono fun _ _ ⟨v, r, m', E', he, hP, hs, hm', hr⟩ => ⟨v, r, m', E', he, hp _ _ hP, hs, hm', hr⟩⟩

/-- Numbers of this region at which nothing stands stay so. -/
def KeepL (base : Nat) (js : List Nat) (m m' : Mm) : Prop := m.next ≤ m'.next ∧ ∀ j ∈ js, base + j < m.next → m.obj (base + j) = none → m'.obj (base + j) = none
section
variable (P : Program) (G : Ground)
def yldSem (md : Option (List Nat)) (i : Nat) (vals : List V) (m : Mm) (K : V → Mm → Prop) : Prop :=
  match md with
  | none => ∃ vs' Post, (vs' = vals ∨ vs' = V.norms vals) ∧ YFn P G i vs' m Post ∧ (∃ r m', Post r m') ∧ ∀ r m', Post r m' → K r m'
  | some _ => False
/-- What an operation gives. -/
def callSem (base : Nat) (md : Option (List Nat)) (f : FuncId) (vals : List V) (m : Mm) (K : V → Mm → Prop) : Prop :=
  match md with
  | none => ∃ vs' Post, (vs' = vals ∨ vs' = V.norms vals) ∧ SFn P G f vs' m Post ∧ (∃ r m', Post r m') ∧ ∀ r m', Post r m' → K r m'
  | some anc => ∃ vs' r, (vs' = vals ∨ vs' = V.norms vals) ∧ (∀ m', Agree base anc m m' → m'.next = m.next → SFn P G f vs' m' fun r' m'' => r' = r ∧ m'' = m') ∧ K r m

/-- A call that gives a box of its own, in this order. -/
def BFnM (base : Nat) (md : Option (List Nat)) (f : FuncId) (vs : List V) (n : Nat) (xs : List V) (e : TypeId) (m : Mm) : Prop :=
  match md with
  | none => SFn P G f vs m (BPost n xs e m)
  | some anc => ∀ m', Agree base anc m m' → m'.next = m.next → SFn P G f vs m' (BPost n xs e m')

/-- A pointer away from a box. -/
def offS (i : Nat) (p : V) : Bool :=
  match p with
  | .ept _ _ => true
  | .ptr b _ => b != i
  | _ => false
/-- May a load of this pointer stand before or behind an append to x? -/
def offP (id : Nat) (x p : V) : Bool :=
  match p with
  | .ept _ _ => true
  | .ptr b _ => b != id && (match x with | .gsl i _ _ => b != i | _ => true)
  | _ => false
def sem (id base : Nat) (md : Option (List Nat)) (op : VO) (vals : List V) (m : Mm) (K : V → Mm → Prop) : Prop :=
  match op with
  | .alloc t z => K (.ptr id 0) (m.put id (.box z t))
  | .box t => match vals with | [x] => K (.ptr id 0) (m.put id (.box x.cells t)) | _ => False
  | .mk e size bytes z => match vals with
    | [.lit (.int _ l), .lit (.int _ c)] => 0 ≤ l ∧ l ≤ c ∧ c * bytes ≤ 140737488355328 ∧ c ≤ 140737488355328 ∧ z.length = size ∧ K (.bsl id 0 l.toNat c.toNat) (m.put id (.box (List.flatten (List.replicate c.toNat z)) e))
    | _ => False
  | .ld1 => match vals with
    | [.ept xs o] => match xs[o]? with | some v => K v m | none => False
    | [.ptr i o] => rdable md base i = true ∧ match m.obj i with
      | some (.box cs _) => match cs[o]? with | some v => K v m | none => False
      | _ => False
    | _ => False
  | .ldA n => match vals with
    | [.ept xs o] => o + n ≤ xs.length ∧ K (.agg ((xs.drop o).take n)) m
    | [.ptr i o] => rdable md base i = true ∧ match m.obj i with
      | some (.box cs _) => o + n ≤ cs.length ∧ K (.agg ((cs.drop o).take n)) m
      | _ => False
    | _ => False
  | .st n => match vals with
    | [.ptr i o, v] => stOk md base i = true ∧ match m.obj i with
      | some (.box cs t) => v.cells.length = n ∧ v.cells.all V.one = true ∧ o + n ≤ cs.length ∧ K vund (m.put i (.box (splice cs o v.cells) t))
      | _ => False
    | _ => False
  | .app e size bytes => match vals with
    | [.sl n xs k, .sl j ys _] => xs.length = n * size ∧ ys.length = j * size ∧ (n + j) * bytes ≤ 140737488355328 ∧ n + j ≤ maxLen ∧ match k with
      | .exact => K (.sl (n + j) (xs ++ ys) (.own id)) (m.put id (.row (n + j) e size))
      | .own t => ownOk md base t = true ∧ match m.obj t with
        | some (.row n' e' s') => n' = n ∧ e' = e ∧ s' = size ∧ K (.sl (n + j) (xs ++ ys) (.own t)) (m.put t (.row (n + j) e size))
        | _ => False
      | .no => False
    | _ => False
  | .appB e size bytes => match vals with
    | [.sl n xs k, y] => match (if md = none then rdS m size y else rdL size y) with
      | some (j, ys) => xs.length = n * size ∧ (n + j) * bytes ≤ 140737488355328 ∧ n + j ≤ maxLen ∧ k = .exact ∧
        if j = 0 then K (.sl n xs .exact) m else K (.bsl id 0 (n + j) (n + j)) (m.put id (.box (xs ++ ys) e))
      | none => False
    | _ => False
  | .appM e size bytes => match md, vals with
    | none, [x, y] => match rdS m size y with
      | some (j, ys) => match x with
        | .sl n xs k => k = .exact ∧ xs.length = n * size ∧ (n + j) * bytes ≤ 140737488355328 ∧ n + j ≤ maxLen ∧ if j = 0 then K (.sl n xs .exact) m else K (.gsl id (n + j) size) (m.put id (.box (xs ++ ys) e))
        | .gsl i n s => s = size ∧ (n + j) * bytes ≤ 140737488355328 ∧ n + j ≤ maxLen ∧ match m.obj i with
          | some (.box cs t) => t = e ∧ n * size ≤ cs.length ∧ (cs.take (n * size)).all V.one = true ∧ K (.gsl id (n + j) size) ((m.del i).put id (.box (cs.take (n * size) ++ ys) e))
          | _ => False
        | _ => False
      | none => False
    | _, _ => False
  | .appL e size bytes => match md, vals with
    | none, x :: y :: ps => ps.all (offP id x) = true ∧ match rdS m size y with
      | some (j, ys) => match x with
        | .sl n xs k => k = .exact ∧ xs.length = n * size ∧ (n + j) * bytes ≤ 140737488355328 ∧ n + j ≤ maxLen ∧ if j = 0 then K (.sl n xs .exact) m else K (.gsl id (n + j) size) (m.put id (.box (xs ++ ys) e))
        | .gsl i n s => s = size ∧ (n + j) * bytes ≤ 140737488355328 ∧ n + j ≤ maxLen ∧ match m.obj i with
          | some (.box cs t) => t = e ∧ n * size ≤ cs.length ∧ (cs.take (n * size)).all V.one = true ∧ K (.gsl id (n + j) size) ((m.del i).put id (.box (cs.take (n * size) ++ ys) e))
          | _ => False
        | _ => False
      | none => False
    | _, _ => False
  | .mkslB e n size z pl => if pl.length = vals.length ∧ z.length = n * size then (match vfill z (pl.zip vals) with | some cs => K (.gsl id n size) (m.put id (.box cs e)) | none => False) else False
  | .eqN neg => match md, vals with
    | none, [.sl _ xs _] => ∀ b, (xs ≠ [] → b = neg) → K (vbool b) m
    | none, [.bsl _ _ _ _] => K (vbool neg) m
    | none, [.gsl _ _ _] => K (vbool neg) m
    | _, _ => False
  | .call f => callSem P G base md f vals m K
  | .callB f => ∃ vs' n xs e, (vs' = vals ∨ vs' = V.norms vals) ∧ BFnM P G base md f vs' n xs e m ∧ (if n = 0 then K (.sl 0 [] .exact) m else K (.bsl id 0 n n) (m.put id (.box xs e)))
  | .callL f js => match md with
    | none => ∃ vs' Post, (vs' = vals ∨ vs' = V.norms vals) ∧ SFn P G f vs' m Post ∧ (∃ r m', Post r m' ∧ KeepL base js m m') ∧ ∀ r m', Post r m' → KeepL base js m m' → K r m'
    | some _ => False
  | .callv => match vals with
    | .fn f cs :: vs => callable P f = true ∧ callSem P G base md f (vs ++ cs) m K
    | .yld i :: vs => yldSem P G md i vs m K
    | _ => False
  | .mkmap ks => match md with
    | none => K (.mp id) (m.put id (.oth (.map ks [])))
    | some _ => False
  | .mlk ks ok => match md, vals with
    | none, [.mp i, key] => match m.obj i, keyOf ks key with
      | some (.oth (.map ks' es)), some k => ks' = ks ∧ K (mans ok (mget es k)) m
      | _, _ => False
    | _, _ => False
  | .mput ks => match md, vals with
    | none, [.mp i, key, .lit (.int .i64 n)] => match m.obj i, keyOf ks key with
      | some (.oth (.map ks' es)), some k => ks' = ks ∧ K vund (m.put i (.oth (.map ks (mset es k n))))
      | _, _ => False
    | _, _ => False
  | .cpy => match md, vals with
    | none, [.bsl i off n cap, y] => match m.obj i, rdS m 1 y with
      | some (.box cs t), some (j, ys) => off + n ≤ cs.length ∧ K (vint ((min n j : Nat) : Int)) (m.put i (.box (splice cs off (ys.take (min n j))) t))
      | _, _ => False
    | _, _ => False
  | .ld1W => match vals with
    | [.ptr i o, .ptr j _] => j = i ∧ rdable md base i = true ∧ match m.obj i with
      | some (.box cs _) => match cs[o]? with | some v => K v m | none => False
      | _ => False
    | _ => False
  | .stL n => match md, vals with
    | none, .ptr i o :: v :: ps => ps.all (offS i) = true ∧ match m.obj i with
      | some (.box cs t) => (v.cells.length = n ∧ v.cells.all V.one = true ∧ o + n ≤ cs.length) ∧ K vund (m.put i (.box (splice cs o v.cells) t))
      | _ => False
    | _, _ => False
  | .clr size z => match md, vals with
    | none, [.bsl i off n _] => match m.obj i with
      | some (.box cs t) => (z.length = size ∧ off + n * size ≤ cs.length) ∧ K vund (m.put i (.box (splice cs off (List.flatten (List.replicate n z))) t))
      | _ => False
    | _, _ => False
  | op => match pureSem op vals with | some r => K r m | none => False
end

structure St where
  t : Nat → V
  m : Mm

def St.ev (s : St) : Opd → V
  | .t n => s.t n
  | .c v => v
def putT (t : Nat → V) (d : Option Nat) (v : V) : Nat → V :=
  match d with
  | some n => fun i => if i = n then v else t i
  | none => t
def onB : V → Bool → Bool
  | .lit (.bool b), w => b == w
  | _, _ => false
def VI.on (vi : VI) (s : St) : Bool :=
  match vi.guard with
  | none => true
  | some (g, w) => onB (s.t g) w

inductive VX where
  | nrm
  | exit (id : Nat)
  | ret
deriving DecidableEq

section
variable (P : Program) (G : Ground)
def vstep (base idx : Nat) (vi : VI) (s : St) (K : St → Prop) : Prop :=
  if vi.on s = true then sem P G (base + idx) base vi.mode vi.op (vi.args.map s.ev) s.m fun r m' => K ⟨putT s.t vi.dst r, m'⟩
  else K ⟨putT s.t vi.dst vund, s.m⟩
def vrun (base : Nat) : Nat → List VI → St → (St → Prop) → Prop
  | _, [], s, K => K s
  | i, vi :: l, s, K => vstep P G base i vi s fun s' => vrun base (i + 1) l s' K

def VX.then (K : St → Prop) (Q : VX → St → Prop) : VX → St → Prop
  | .nrm, s => K s
  | e, s => Q e s
def VX.inBlock (id : Nat) (Q : VX → St → Prop) : VX → St → Prop
  | .exit id', s => if id' = id then Q .nrm s else Q (.exit id') s
  | e, s => Q e s

/-- The slots, as a loop's record keeps them. -/
def slots (nt : Nat) (t : Nat → V) : List V := (List.range nt).map t
/-- How it goes on behind a loop over a function. -/
def afterF (i : Nat) (t : Nat → V) (Q : VX → St → Prop) (m : Mm) : Prop :=
  match m.obj i with
  | some (.oth (.loop _ _ _ _ .ready)) => Q .nrm ⟨t, m.del i⟩
  | some (.oth (.loop _ _ _ _ (.done .ret))) => Q .ret ⟨t, m.del i⟩
  | some (.oth (.loop _ _ _ _ (.done (.exit id)))) => Q (.exit id) ⟨t, m.del i⟩
  | _ => False
def VC.vx : VC → (VX → St → Prop) → St → Prop
  | .skip, Q, s => Q .nrm s
  | .ret, Q, s => Q .ret s
  | .ops k l, Q, s => vrun P G s.m.next 0 l ⟨s.t, ⟨s.m.obj, s.m.next + k⟩⟩ (Q .nrm)
  | .seq a b, Q, s => a.vx (VX.then (b.vx Q) Q) s
  | .cond c a b, Q, s => match s.ev c with
    | .lit (.bool t) => if t = true then a.vx Q s else b.vx Q s
    | _ => False
  | .block id b, Q, s => b.vx (VX.inBlock id Q) s
  | .loop b, Q, s => ∃ (I : St → Prop) (μ : St → Nat), I s ∧ ∀ s', I s' → b.vx (VX.then (fun s'' => I s'' ∧ μ s'' < μ s') Q) s'
  | .exit id, Q, s => Q (.exit id) s
  | .scope b, Q, s => b.vx Q s
  | .rangeF nt f ps as bd, Q, s => match s.ev f with
    | .fn g cs => callable P g = true ∧ ∃ Post, SFn P G g (.yld s.m.next :: cs) ⟨(s.m.put s.m.next (.oth (.loop (slots nt s.t) ps as bd .ready))).obj, s.m.next + 1⟩ Post ∧ ∀ r m', Post r m' → afterF s.m.next s.t Q m'
    | _ => False
  | .bad, _, _ => False
end
end Go.Proofs.YtdefefeifcdogaaGreat
