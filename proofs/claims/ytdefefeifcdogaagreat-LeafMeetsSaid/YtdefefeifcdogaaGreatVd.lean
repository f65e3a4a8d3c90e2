/- The translation of the model's code into code on values by numbers. Nothing is proved of the program here. -/
import Derived.Test.YtdefefeifcdogaaGreatVc
set_option linter.unusedSimpArgs false
set_option linter.unusedVariables false
namespace Go.Proofs.YtdefefeifcdogaaGreat
open Go.RowKit

/-- One cell's value, if it holds no address. -/
def ofCell : Value → Option V
  | .slice a n c => if a = none ∧ n = 0 ∧ c = 0 then some (.sl 0 [] .exact) else none
  | .func fn first cap => match fn with
    | .func f => if first.size = 0 ∧ cap.size = 0 then some (.fn f []) else none
    | _ => none
  | .agg _ => none
  | .tuple _ => none
  | v => if flat v then some (.lit v) else none
def ofVal : Value → Option V
  | .agg a => (a.toList.mapM ofCell).map .agg
  | v => ofCell v

section
variable (P : Program) (bx : Nat → Bool)
def isAggB (t : TypeId) : Bool :=
  match P.underlying t with
  | some (.struct _) => true
  | some (.array _ _) => true
  | _ => false
def szOf (t : TypeId) : Option Nat := (P.info? t).map (·.size)
def zeroV (t : TypeId) : Option (List V) :=
  match P.info? t with
  | some i => match i.zero with
    | some z => z.cells.toList.mapM ofCell
    | none => none
  | none => none
def under? (t : TypeId) : Option TypeDesc :=  P.underlying t

def plB (fields : Array Field) (i : Nat) : Option (Nat × Nat) :=
  match fields[i]? with
  | some f => match P.info? f.type with
    | some j => some (f.offset, j.size)
    | none => none
  | none => none

/-- The offsets of a struct's fields that are compared one by one. -/
def eqFs : List Field → Option (List (Nat × Nat))
  | [] => some []
  | f :: r => if f.name = "_" then none else match P.underlying f.type with
    | some (.int _) => (eqFs r).map ((f.offset, 0) :: ·)
    | some .bool => (eqFs r).map ((f.offset, 1) :: ·)
    | some .string => (eqFs r).map ((f.offset, 2) :: ·)
    | _ => none

/-- The kinds of the parts of a map's keys; its values are numbers. -/
def mapKs (k e : TypeId) : Option (List Nat) :=
  match P.underlying e, (P.info? e).bind (·.zero) with
  | some (.int .i64), some (.int .i64 0) => match P.underlying k with
    | some (.int .i64) => some [0]
    | some .bool => some [1]
    | some .string => some [2]
    | some (.struct fs) => if P.stoodInHeld k = false then match eqFs P fs.toList with
        | some offs => if 2 ≤ offs.length ∧ offs = (List.range offs.length).zip (offs.map (·.2)) then some (offs.map (·.2)) else none
        | none => none
      else none
    | _ => none
  | _, _ => none
def bxOf (bx : Nat → Bool) : Option Nat → Bool
  | some d => bx d
  | none => false
/-- Of those slots: whose append moves the box. -/
def mxOf (bx : Nat → Bool) : Option Nat → Bool
  | some d => bx (d + 1000000)
  | none => false
/-- The constant nil of a slice type. -/
def isNilC : Operand → Bool
  | .const (.slice none 0 0) => true
  | _ => false

/-- The constant nil of a pointer type. -/
def isNilP : Operand → Bool
  | .const (.pointer none) => true
  | _ => false
/-- The constant nil of an interface type. -/
def isNilI : Operand → Bool
  | .const .nilIface => true
  | _ => false
/-- The constant 0. -/
def isZeroC : Operand → Bool
  | .const (.int .i64 n) => n == 0
  | _ => false

def cvOp (o : Oper) : Option (VO × List Operand) :=
  match o.op with
  | .move x => some (.mv, [x])
  | .assign x => some (.mv, [x])
  | .pick c a b => some (.pick, [c, a, b])
  | .alloc t => (zeroV P t).map fun z => (.alloc t z, [])
  | .box t x => some (if mxOf bx o.dst = true then .boxE else .box t, [x])
  | .build t parts => match P.underlying t, zeroV P t with
    | some (.struct fields), some z =>
      if fields.toList.all fun f => (P.info? f.type).isSome then (parts.toList.mapM fun p => plB P fields p.1).map fun pl => (.build z pl, parts.toList.map (·.2)) else none
    | some (.array _ e), some z => (szOf P e).map fun s => (.build z (parts.toList.map fun p => (p.1 * s, s)), parts.toList.map (·.2))
    | _, _ => none
  | .buildSlice t n parts => match P.underlying t with
    | some (.slice e) => match szOf P e, zeroV P e with
      | some s, some z => if n * s ≤ 16777216 ∧ z.length = s ∧ 0 < s then
          some (if bxOf bx o.dst = true then .mkslB e n s (List.flatten (List.replicate n z)) (parts.toList.map fun p => (p.1 * s, s)) else .mksl n s (List.flatten (List.replicate n z)) (parts.toList.map fun p => (p.1 * s, s)), parts.toList.map (·.2)) else none
      | _, _ => none
    | _ => none
  | .load t a => match P.underlying t, szOf P t with
    | some _, some s => some (if isAggB P t then .ldA s else .ld1, [a])
    | _, _ => none
  | .store t a v => (szOf P t).map fun s => (.st s, [a, v])
  | .nilCheck x => some (.nilck, [x])
  | .binOp op xt x y _ => match op with
    | .eql => match P.underlying xt with
      | some (.int _) => some (.bin .eql, [x, y])
      | some .string => some (.bin .eql, [x, y])
      | some .bool => some (.eqB false, [x, y])
      | some (.slice _) => if isNilC y then some (.eqN false, [x]) else none
      | some (.pointer _) => if isNilP y then some (.eqQ false, [x]) else none
      | some (.struct fs) => if P.stoodInHeld xt = false ∧ P.eqGuardType P.depth xt = false then (eqFs P fs.toList).map fun l => (.eqP l false, [x, y]) else none
      | some (.interface _) => if isNilI y then some (.eqI false, [x]) else none
      | _ => none
    | .neq => match P.underlying xt with
      | some (.int _) => some (.bin .neq, [x, y])
      | some .string => some (.bin .neq, [x, y])
      | some .bool => some (.eqB true, [x, y])
      | some (.slice _) => if isNilC y then some (.eqN true, [x]) else none
      | some (.pointer _) => if isNilP y then some (.eqQ true, [x]) else none
      | some (.struct fs) => if P.stoodInHeld xt = false ∧ P.eqGuardType P.depth xt = false then (eqFs P fs.toList).map fun l => (.eqP l true, [x, y]) else none
      | some (.interface _) => if isNilI y then some (.eqI true, [x]) else none
      | _ => none
    | op => some (.bin op, [x, y])
  | .unOp op _ x => some (.un op, [x])
  | .convert s d x => match P.underlying s, P.underlying d with
    | some (.int _), some (.int k) => some (.cvt k, [x])
    | some .string, some .string => some (.cvtS, [x])
    | some (.slice e), some .string => match P.underlying e with
      | some (.int .i32) => some (.runes, [x])
      | _ => none
    | _, _ => none
  | .slice t x lo hi none => match P.underlying t with
    | some (.slice e) => (szOf P e).map fun s => (.slc s lo.isSome hi.isSome, [x] ++ lo.toList ++ hi.toList)
    | some .string => some (.slS lo.isSome hi.isSome, [x] ++ lo.toList ++ hi.toList)
    | _ => none
  | .slice t x none (some hi) (some mx) => match P.underlying t with
    | some (.slice e) => if isZeroC hi = true ∧ isZeroC mx = true then (szOf P e).map fun _ => (.sl00, [x]) else none
    | _ => none
  | .fieldAddr t x i => match P.underlying t with
    | some (.struct fields) => match fields[i]? with
      | some f => match szOf P f.type with
        | some s => if s = 0 then none else some (.fldA f.offset, [x])
        | none => none
      | none => none
    | _ => none
  | .field t x i => match P.underlying t with
    | some (.struct fields) => match fields[i]? with
      | some f => match szOf P f.type, P.underlying f.type with
        | some s, some _ => some (.fld f.offset s (isAggB P f.type), [x])
        | _, _ => none
      | none => none
    | _ => none
  | .indexAddr t x i => match P.underlying t with
    | some (.slice e) => (szOf P e).map fun s => (.ixA s, [x, i])
    | some (.array n e) => (szOf P e).map fun s => (.ixAA n s, [x, i])
    | _ => none
  | .index t x i => match P.underlying t with
    | some (.array n e) => match szOf P e, P.underlying e with
      | some s, some _ => some (.ixV n s (isAggB P e), [x, i])
      | _, _ => none
    | some .string => some (.ixS, [x, i])
    | _ => none
  | .makeSlice t l c => match P.underlying t with
    | some (.slice e) => match P.info? e, zeroV P e with
      | some i, some z => if z.length = i.size ∧ 0 < i.size then some (.mk e i.size i.bytes z, [l, c]) else none
      | _, _ => none
    | _ => none
  | .makeMap t none => match P.underlying t with
    | some (.map k e) => (mapKs P k e).map fun ks => (.mkmap ks, [])
    | _ => none
  | .lookup t x i ok => match P.underlying t with
    | some (.map k e) => (mapKs P k e).map fun ks => (.mlk ks ok, [x, i])
    | _ => none
  | .mapUpdate t x i v => match P.underlying t with
    | some (.map k e) => (mapKs P k e).map fun ks => (.mput ks, [x, i, v])
    | _ => none
  | .extract x i => some (.ext i, [x])
  | .makeFunc (.func f) first cap => if first.size = 0 then some (.mkfn f, cap.toList) else none
  | .call c => match c.callee with
    | .builtin .len => match c.argTypes[0]? with
      | some t => match P.underlying t with
        | some (.slice _) => match c.args.toList with | [x] => some (.len, [x]) | _ => none
        | some .string => match c.args.toList with | [x] => some (.lenS, [x]) | _ => none
        | _ => none
      | none => none
    | .builtin .append => match c.argTypes.toList with
      | [t, t2] => match P.underlying t, P.underlying t2 with
        | some (.slice e), some (.slice _) => match P.info? e, zeroV P e with
          | some i, some z => if z.length = i.size ∧ 0 < i.size then match c.args.toList with | [s, x] => some (if bxOf bx o.dst = true then (if mxOf bx o.dst = true then .appM e i.size i.bytes else .appB e i.size i.bytes) else .app e i.size i.bytes, [s, x]) | _ => none else none
          | _, _ => none
        | _, _ => none
      | _ => none
    | .builtin .copy => match c.argTypes.toList with
      | [t, t2] => match P.underlying t, P.underlying t2 with
        | some (.slice e), some (.slice _) => if (P.info? e).map (·.size) = some 1 then (match c.args.toList with | [s, x] => some (.cpy, [s, x]) | _ => none) else none
        | _, _ => none
      | _ => none
    | .builtin .clear => match c.argTypes.toList with
      | [t] => match P.underlying t with
        | some (.slice e) => match P.info? e, zeroV P e with
          | some i, some z => if z.length = i.size ∧ 0 < i.size then (match c.args.toList with | [s] => some (.clr i.size z, [s]) | _ => none) else none
          | _, _ => none
        | _ => none
      | _ => none
    | .builtin .min => match c.args.toList with | [x, y] => some (.mn, [x, y]) | _ => none
    | .builtin .max => match c.args.toList with | [x, y] => some (.mx, [x, y]) | _ => none
    | .value (.func f) => if callable P f then some (if bxOf bx o.dst = true ∧ mxOf bx o.dst = false then .callB f else .call f, c.args.toList) else none
    | .value x => some (.callv, x :: c.args.toList)
    | _ => none
  | _ => none
end

section
variable (tab : Nat → List V) (nt : Nat)
def cvOpd : Operand → Option Opd
  | .tmp t => if t < nt then some (.t t) else none
  | .const v => (ofVal v).map .c
  | .global g => if (tab g).isEmpty then none else some (.c (.ept (tab g) 0))
  | .func f => some (.c (.fn f []))
end

/-- Does it look at memory that can change? -/
def VO.isMem : VO → Bool
  | .alloc _ _ | .box _ | .mk _ _ _ _ | .mkslB _ _ _ _ _ | .ld1 | .ldA _ | .st _ | .app _ _ _ | .appB _ _ _ | .appM _ _ _ | .eqN _ | .call _ | .callv | .callB _ | .callL _ _ | .appL _ _ _ | .mkmap _ | .mlk _ _ | .mput _ | .cpy | .clr _ _ | .stL _ | .ld1W => true
  | _ => false
def VO.makes : VO → Bool
  | .alloc _ _ | .box _ | .mk _ _ _ _ | .mkslB _ _ _ _ _ | .app _ _ _ | .appB _ _ _ | .appM _ _ _ | .appL _ _ _ | .callB _ | .mkmap _ => true
  | _ => false

/-- Which operations must stand before one, as bits. -/
def ancs (ops : Array Oper) : List Nat :=
  (ops.toList.foldl (fun (acc : Array Nat) o => acc.push (o.after.toList.foldl (fun s e => if Region.binds .any e then s ||| 2 ^ e.on ||| acc.getD e.on 0 else s) 0)) #[]).toList

/-- No loop over a function. -/
def VC.plain : VC → Bool
  | .seq a b => a.plain && b.plain
  | .cond _ a b => a.plain && b.plain
  | .block _ b => b.plain
  | .loop b => b.plain
  | .scope b => b.plain
  | .rangeF _ _ _ _ _ => false
  | _ => true
section
variable (P : Program) (bx : Nat → Bool) (tab : Nat → List V) (nt : Nat)
def cvGuard (ops : Array Oper) (o : Oper) : Option (Option (Nat × Bool)) :=
  match o.guard with
  | none => some none
  | some (j, w) => match (ops[j]?).bind (·.dst) with
    | some d => if d < nt then some (some (d, w)) else none
    | none => none
def dstOk (nt : Nat) : Option Nat → Bool
  | some d => decide (d < nt)
  | none => true
/-- An operation, without its mode. -/
def cvOne (ops : Array Oper) (o : Oper) : Option VI :=
  match cvOp P bx o, cvGuard nt ops o with
  | some (vo, args), some g => match args.mapM (cvOpd tab nt) with
    | some l => if dstOk nt o.dst = true then some ⟨o.dst, g, vo, l, none⟩ else none
    | none => none
  | _, _ => none
/-- Of two operations, i ahead of j in the text, one stands surely before the other. -/
def ordered (anc : List Nat) (i j : Nat) : Bool := (anc.getD j 0).testBit i
/-- Does it leave rows alone? -/
def VO.tame : VO → Bool
  | .alloc _ _ | .box _ | .mk _ _ _ _ | .mkslB _ _ _ _ _ | .ld1 | .ldA _ | .st _ => true
  | _ => false
/-- Of a store: the operation of this region that made the box. -/
def stTgt (anc : List Nat) (l : List VI) (i : Nat) : Option Nat :=
  match l[i]? with
  | some vi => match vi.op with
    | .st _ => match vi.args with
      | .t d :: _ => (List.range i).find? fun j => ordered anc j i && (match l[j]? with | some vj => vj.dst == some d | none => false)
      | _ => none
    | _ => none
  | none => none
/-- Another one that looks at memory, and may stand before i or behind it. -/
def unord (anc : List Nat) (l : List VI) (i j : Nat) : Bool :=
  j != i && (match l[j]? with | some vj => vj.op.isMem | none => false) && !(if j < i then ordered anc j i else ordered anc i j)
def modeC (anc : List Nat) (l : List VI) (i : Nat) (op : VO) : List Nat :=
  match op with
  | .st _ => (stTgt anc l i).toList
  | .app _ _ _ => if (List.range l.length).any (fun j => unord anc l i j && !(match l[j]? with | some vj => vj.op.tame | none => true)) then [] else (List.range i).filter fun j => ordered anc j i
  | _ => (List.range i).filter fun j => ordered anc j i
def modeL (anc : List Nat) (l : List VI) (i : Nat) (op : VO) : List Nat :=
  (modeC anc l i op).filter fun a => !((List.range l.length).any fun k => unord anc l i k && stTgt anc l k == some a)
def modeOf (anc : List Nat) (l : List VI) (i : Nat) : Option (List Nat) :=
  match l[i]? with
  | some vi => if vi.op.isMem && (List.range l.length).any (unord anc l i) then some (modeL anc l i vi.op) else none
  | none => none
def isAlc (l : List VI) (j : Nat) : Bool := match l[j]? with | some vj => (match vj.op with | .alloc _ _ => true | _ => false) | none => false
/-- The boxes that are made later in the text. -/
def lates (l : List VI) (i : Nat) : List Nat := (List.range l.length).filter fun j => decide (i < j) && isAlc l j
/-- A call that is unordered only with boxes made later. -/
def lateC (anc : List Nat) (l : List VI) (i : Nat) : Option Nat :=
  match l[i]? with
  | some vi => (match vi.op with
    | .call f => if (List.range l.length).any (unord anc l i) && (List.range l.length).all (fun j => !unord anc l i j || (decide (i < j) && isAlc l j)) then some f else none
    | _ => none)
  | none => none
/-- A load of what a pointer points to. -/
def loadP (l : List VI) (j : Nat) : Option Opd :=
  match l[j]? with
  | some vj => (match vj.op, vj.guard, vj.args with
    | .ld1, none, [.t p] => some (.t p)
    | .ld1W, none, [.t _, .t q] => some (.t q)
    | _, _, _ => none)
  | none => none
/-- Of a load: a slot that nothing here writes, which points into what the load looks into. -/
def witQ (l : List VI) (j : Nat) : Option Nat :=
  match l[j]? with
  | some vj => (match vj.op, vj.guard, vj.args with
    | .ld1, none, [.t p] => (match ((List.range j).find? fun k => (match l[k]? with | some vk => vk.dst == some p | none => false)).bind fun k => l[k]? with
      | some vk => (match vk.op, vk.guard, vk.args with
        | .fldA _, none, [.t q] => if l.any (fun v => v.dst == some q) then none else some q
        | _, _, _ => none)
      | none => none)
    | _, _, _ => none)
  | none => none
/-- A store into a row that was there before. -/
def oldSt (anc : List Nat) (l : List VI) (i : Nat) : Bool :=
  match l[i]? with
  | some vi => (match vi.op with
    | .st _ => (match (stTgt anc l i).bind fun j => l[j]? with
      | some vj => (match vj.op with | .ixA _ => true | _ => false)
      | none => false)
    | _ => false)
  | none => false
/-- A load beside such a store shows that slot. -/
def witL (anc : List Nat) (l : List VI) (j : Nat) (vi : VI) : VI :=
  if (List.range l.length).any (fun i => oldSt anc l i && unord anc l i j) then (match vi.op, vi.args, witQ l j with
    | .ld1, [.t p], some q => ⟨vi.dst, vi.guard, .ld1W, [.t p, .t q], vi.mode⟩
    | _, _, _ => vi) else vi
def witsL (anc : List Nat) (l : List VI) : List VI := l.zipIdx.map fun p => witL anc l p.2 p.1
/-- What an append, or a store into a row, becomes where loads may stand beside it. -/
def lateO (anc : List Nat) (l : List VI) (i : Nat) (op : VO) : Option VO :=
  match op with
  | .appM e s b => some (.appL e s b)
  | .st n => match (stTgt anc l i).bind fun j => l[j]? with
    | some vj => (match vj.op with
      | .ixA _ => some (.stL n)
      | _ => none)
    | none => none
  | _ => none
/-- Such an operation that is unordered only with loads that stand before it in the text. -/
def lateM (anc : List Nat) (l : List VI) (i : Nat) : Option VO :=
  match l[i]? with
  | some vi => (match lateO anc l i vi.op, vi.guard, vi.args with
    | some o, none, [_, _] => if (List.range l.length).any (unord anc l i) && (List.range l.length).all (fun j => !unord anc l i j || (decide (j < i) && (loadP l j).isSome)) then some o else none
    | _, _, _ => none)
  | none => none
/-- The pointers of these loads. -/
def loadsP (anc : List Nat) (l : List VI) (i : Nat) : List Opd := (List.range l.length).filterMap fun j => if unord anc l i j = true then loadP l j else none
def opL (anc : List Nat) (l : List VI) (i : Nat) (op : VO) : VO :=
  match lateC anc l i with
  | some f => .callL f (lates l i)
  | none => match lateM anc l i with
    | some o => o
    | none => op
def mdL (anc : List Nat) (l : List VI) (i : Nat) : Option (List Nat) :=
  match lateC anc l i with
  | some _ => none
  | none => match lateM anc l i with
    | some _ => none
    | none => modeOf anc l i
def argL (anc : List Nat) (l : List VI) (i : Nat) (args : List Opd) : List Opd :=
  match lateM anc l i with
  | some _ => args ++ loadsP anc l i
  | none => args
def VI.looks (vi : VI) : List Nat := (vi.args.filterMap fun | .t n => some n | .c _ => none) ++ (match vi.guard with | some (g, _) => [g] | none => [])
def VI.apart (x y : VI) : Bool :=
  (match x.dst with | some d => !(y.looks.contains d) && y.dst != some d | none => true) && (match y.dst with | some d => !(x.looks.contains d) | none => true)
def apartAll (l : List VI) (anc : List Nat) : Bool :=
  (List.range l.length).all fun j => (List.range j).all fun i => ordered anc i j || (match l[i]?, l[j]? with | some x, some y => x.apart y | _, _ => true)
def edgesBack (ops : Array Oper) : Bool :=
  ops.toList.zipIdx.all fun (o, i) => o.after.toList.all fun e => !Region.binds .any e || decide (e.on < i)
def cvRegion (ops : Array Oper) (draw : Bool) : Option VC :=
  match ops.toList.mapM (cvOne P bx tab nt ops) with
  | some l =>
    let k := if l.any (·.op.makes) then l.length else 0
    if draw then
      let anc := ancs ops
      let l := witsL anc l
      let L := l.zipIdx.map fun p => (⟨p.1.dst, p.1.guard, opL anc l p.2 p.1.op, argL anc l p.2 p.1.args, mdL anc l p.2⟩ : VI)
      if apartAll L anc = true ∧ edgesBack ops = true ∧ P.follows .mixedOrders = true then some (.ops k L) else none
    else some (.ops k l)
  | none => none
/-- Code on values by numbers; what is not served is never reached. -/
def cvCode : Code → VC
  | .skip => .skip
  | .ret => .ret
  | .region _ ops draw => (cvRegion P bx tab nt ops draw).getD .bad
  | .seq a b => .seq (cvCode a) (cvCode b)
  | .cond c a b => match cvOpd tab nt c with
    | some x => .cond x (cvCode a) (cvCode b)
    | none => .bad
  | .block id b => .block id (cvCode b)
  | .loop b => .loop (cvCode b)
  | .exit id => .exit id
  | .scope b => .scope (cvCode b)
  | .label _ => .skip
  | .rangeFunc f ps as bd => match cvOpd tab nt f with
    | some x => .rangeF nt x ps as bd
    | none => .bad
  | _ => .bad
end
end Go.Proofs.YtdefefeifcdogaaGreat
