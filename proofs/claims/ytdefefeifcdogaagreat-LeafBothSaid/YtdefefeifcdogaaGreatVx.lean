/- Running code on values by numbers outright, once more: each operation's text stands by itself, so that the kernel copies no text that it does not run. It is the evaluator of before. Printed by a program. Nothing is proved of the program here. -/
import Derived.Test.YtdefefeifcdogaaGreatVe
set_option linter.unusedSimpArgs false
set_option linter.unusedVariables false
namespace Go.Proofs.YtdefefeifcdogaaGreat
open Go.RowKit
noncomputable section
abbrev OpF := Nat → Nat → Option (List Nat) → List V → Mm → Option (V × Upd)
abbrev TbF := Nat → Option Fe
abbrev EcF := VC → ES → Option (VX × ES)
abbrev InF := TbF → EcF → Nat → Nat → Option Nat → Option (List Nat) → List V → ES → Option ES
abbrev CoF := TbF → EcF → ES → Option (VX × ES)
def iN (g : OpF) : InF := fun _ _ base idx d md vals s =>
  match g (base + idx) base md vals s.st.m with
  | some (r, us) => (match updT s.o us, putE s.t d r with | some o, some t => some ⟨t, o, s.nx⟩ | _, _ => none)
  | none => none
def iv_call (f : FuncId) : InF := fun T ec base idx d md vals s =>
    (match evCall T ec base md f (vals) s.o s.nx with
      | some (r, o, nx) => (match putE s.t d r with | some t => some ⟨t, o, nx⟩ | none => none)
      | none => none)
def iv_callL (f : FuncId) (js : List Nat) : InF := fun T ec base idx d md vals s =>
    (match md, evF T ec f (vals) s.o s.nx with
      | none, some (r, o, nx) => bif Nat.ble s.nx nx && js.all (fun j => (s.o.get (base + j + 1)).isSome || (o.get (base + j + 1)).isNone) then (match putE s.t d r with | some t => some ⟨t, o, nx⟩ | none => none) else none
      | _, _ => none)
def iv_callv : InF := fun T ec base idx d md vals s =>
    (match vals with
      | .fn f cs :: vs => (match evCall T ec base md f (vs ++ cs) s.o s.nx with
        | some (r, o, nx) => (match putE s.t d r with | some t => some ⟨t, o, nx⟩ | none => none)
        | none => none)
      | .yld i :: vs => (match md, evY T ec i vs s.o s.nx with
        | none, some (r, o, nx) => (match putE s.t d r with | some t => some ⟨t, o, nx⟩ | none => none)
        | _, _ => none)
      | _ => none)
def iv_callB (f : FuncId) : InF := fun T ec base idx d md vals s =>
    (match T (f + clb), vals with
      | some (.cln size e), [y] => (match rdV md base s.st.m size y with
        | some (n, xs) => bif V.clean xs && Nat.ble n 1000000 then (bif Nat.beq n 0 then (match putE s.t d (.sl 0 [] .exact) with | some t => some ⟨t, s.o, s.nx⟩ | none => none)
          else (match updT s.o [(base + idx, some (.box xs e))], putE s.t d (.bsl (base + idx) 0 n n) with | some o, some t => some ⟨t, o, s.nx⟩ | _, _ => none)) else none
        | none => none)
      | _, vals => (match mapO (viewV 60 s.st.m (match md with | none => allS | some anc => seen anc base)) vals with
        | some us => bif V.pures us then (match evF T ec f us .e 0 with
          | some (.sl 0 [] .exact, _, _) => (match putE s.t d (.sl 0 [] .exact) with | some t => some ⟨t, s.o, s.nx⟩ | none => none)
          | some (.gsl i n _, o', _) => (match o'.get (i + 1) with
            | some (.box xs e) => bif (!Nat.beq n 0) && (V.drys xs && xs.all V.one) then (match updT s.o [(base + idx, some (.box xs e))], putE s.t d (.bsl (base + idx) 0 n n) with | some o, some t => some ⟨t, o, s.nx⟩ | _, _ => none) else none
            | _ => none)
          | _ => none) else none
        | none => none))
def pv_mv (vals : List V) : Option V :=
  match vals with | [x] => some x | _ => none
def ov_mv : OpF := fun _ _ _ vals _ => (pv_mv vals).map fun v => (v, [])
def pv_pick (vals : List V) : Option V :=
  match vals with | [.lit (.bool t), a, b] => some (if t then a else b) | _ => none
def ov_pick : OpF := fun _ _ _ vals _ => (pv_pick vals).map fun v => (v, [])
def ov_alloc (t : TypeId) (z : List V) : OpF := fun id base md vals m =>
  some (.ptr id 0, [(id, some (.box z t))])
def ov_box (t : TypeId) : OpF := fun id base md vals m =>
  match vals with | [x] => some (.ptr id 0, [(id, some (.box x.cells t))]) | _ => none
def pv_boxE (vals : List V) : Option V :=
  match vals with | [x] => (V.pub x).bind fun u => if u.cells.all V.one then some (.ept u.cells 0) else none | _ => none
def ov_boxE : OpF := fun _ _ _ vals _ => (pv_boxE vals).map fun v => (v, [])
def pv_build (z : List V) (pl : List (Nat × Nat)) (vals : List V) : Option V :=
  if pl.length = vals.length then (vfill z (pl.zip vals)).map .agg else none
def ov_build (z : List V) (pl : List (Nat × Nat)) : OpF := fun _ _ _ vals _ => (pv_build z pl vals).map fun v => (v, [])
def pv_mksl (n : Nat) (size : Nat) (z : List V) (pl : List (Nat × Nat)) (vals : List V) : Option V :=
  if pl.length = vals.length ∧ z.length = n * size then (V.pubs vals).bind fun us => (vfill z (pl.zip us)).bind fun cs => if cs.all V.one then some (.sl n cs .exact) else none else none
def ov_mksl (n : Nat) (size : Nat) (z : List V) (pl : List (Nat × Nat)) : OpF := fun _ _ _ vals _ => (pv_mksl n size z pl vals).map fun v => (v, [])
def ov_ld1 : OpF := fun id base md vals m =>
  match vals with
    | [.ept xs o] => (xs[o]?).map fun v => (v, [])
    | [.ptr i o] => if rdable md base i = true then (match m.obj i with | some (.box cs _) => (cs[o]?).map fun v => (v, []) | _ => none) else none
    | _ => none
def ov_ldA (n : Nat) : OpF := fun id base md vals m =>
  match vals with
    | [.ept xs o] => if o + n ≤ xs.length then some (.agg ((xs.drop o).take n), []) else none
    | [.ptr i o] => if rdable md base i = true then (match m.obj i with | some (.box cs _) => if o + n ≤ cs.length then some (.agg ((cs.drop o).take n), []) else none | _ => none) else none
    | _ => none
def ov_st (n : Nat) : OpF := fun id base md vals m =>
  match vals with
    | [.ptr i o, v] => if stOk md base i = true then (match m.obj i with
      | some (.box cs t) => if v.cells.length = n ∧ v.cells.all V.one = true ∧ o + n ≤ cs.length then some (vund, [(i, some (.box (splice cs o v.cells) t))]) else none
      | _ => none) else none
    | _ => none
def pv_nilck (vals : List V) : Option V :=
  match vals with | [.ptr i o] => some (.ptr i o) | [.ept xs o] => some (.ept xs o) | [.fn f cs] => some (.fn f cs) | _ => none
def ov_nilck : OpF := fun _ _ _ vals _ => (pv_nilck vals).map fun v => (v, [])
def pv_fld (off : Nat) (n : Nat) (agg : Bool) (vals : List V) : Option V :=
  match vals with
    | [.agg cs] => if agg then (if off + n ≤ cs.length then some (.agg ((cs.drop off).take n)) else none) else cs[off]?
    | _ => none
def ov_fld (off : Nat) (n : Nat) (agg : Bool) : OpF := fun _ _ _ vals _ => (pv_fld off n agg vals).map fun v => (v, [])
def pv_fldA (off : Nat) (vals : List V) : Option V :=
  match vals with | [.ptr i o] => some (.ptr i (o + off)) | [.ept xs o] => some (.ept xs (o + off)) | _ => none
def ov_fldA (off : Nat) : OpF := fun _ _ _ vals _ => (pv_fldA off vals).map fun v => (v, [])
def pv_ixA (size : Nat) (vals : List V) : Option V :=
  match vals with
    | [.sl n xs _, .lit (.int _ i)] => if 0 ≤ i ∧ i < n ∧ xs.length = n * size ∧ 0 < size then some (.ept xs (i.toNat * size)) else none
    | [.bsl b off n _, .lit (.int _ i)] => if 0 ≤ i ∧ i < n then some (.ptr b (off + i.toNat * size)) else none
    | [.gsl b n _, .lit (.int _ i)] => if 0 ≤ i ∧ i < n then some (.ptr b (i.toNat * size)) else none
    | _ => none
def ov_ixA (size : Nat) : OpF := fun _ _ _ vals _ => (pv_ixA size vals).map fun v => (v, [])
def pv_ixAA (len : Nat) (size : Nat) (vals : List V) : Option V :=
  match vals with
    | [.ptr b off, .lit (.int _ i)] => if 0 ≤ i ∧ i < len then some (.ptr b (off + i.toNat * size)) else none
    | [.ept xs off, .lit (.int _ i)] => if 0 ≤ i ∧ i < len then some (.ept xs (off + i.toNat * size)) else none
    | _ => none
def ov_ixAA (len : Nat) (size : Nat) : OpF := fun _ _ _ vals _ => (pv_ixAA len size vals).map fun v => (v, [])
def pv_ixV (len : Nat) (size : Nat) (agg : Bool) (vals : List V) : Option V :=
  match vals with
    | [.agg cs, .lit (.int _ i)] => if 0 ≤ i ∧ i < len then
        (if agg then (if i.toNat * size + size ≤ cs.length then some (.agg ((cs.drop (i.toNat * size)).take size)) else none) else cs[i.toNat * size]?) else none
    | _ => none
def ov_ixV (len : Nat) (size : Nat) (agg : Bool) : OpF := fun _ _ _ vals _ => (pv_ixV len size agg vals).map fun v => (v, [])
def pv_ixS (vals : List V) : Option V :=
  match vals with | [.lit (.string s), .lit (.int _ i)] => if 0 ≤ i then (s[i.toNat]?).map fun b => .lit (.int .u8 b.toNat) else none | _ => none
def ov_ixS : OpF := fun _ _ _ vals _ => (pv_ixS vals).map fun v => (v, [])
def pv_slc (size : Nat) (lo : Bool) (hi : Bool) (vals : List V) : Option V :=
  match vals with | x :: bs => vslc size lo hi x bs | _ => none
def ov_slc (size : Nat) (lo : Bool) (hi : Bool) : OpF := fun _ _ _ vals _ => (pv_slc size lo hi vals).map fun v => (v, [])
def pv_slS (lo : Bool) (hi : Bool) (vals : List V) : Option V :=
  match vals with | .lit (.string s) :: bs => vslS lo hi s bs | _ => none
def ov_slS (lo : Bool) (hi : Bool) : OpF := fun _ _ _ vals _ => (pv_slS lo hi vals).map fun v => (v, [])
def ov_mk (e : TypeId) (size : Nat) (bytes : Nat) (z : List V) : OpF := fun id base md vals m =>
  match vals with
    | [.lit (.int _ l), .lit (.int _ c)] => if 0 ≤ l ∧ l ≤ c ∧ c * bytes ≤ 140737488355328 ∧ c ≤ 140737488355328 ∧ z.length = size then some (.bsl id 0 l.toNat c.toNat, [(id, some (.box (List.flatten (List.replicate c.toNat z)) e))]) else none
    | _ => none
def pv_ext (i : Nat) (vals : List V) : Option V :=
  match vals with | [.tup vs] => vs[i]? | _ => none
def ov_ext (i : Nat) : OpF := fun _ _ _ vals _ => (pv_ext i vals).map fun v => (v, [])
def pv_mkfn (f : FuncId) (vals : List V) : Option V :=
  some (.fn f vals)
def ov_mkfn (f : FuncId) : OpF := fun _ _ _ vals _ => (pv_mkfn f vals).map fun v => (v, [])
def pv_len (vals : List V) : Option V :=
  match vals with | [.sl n _ _] => some (vint n) | [.bsl _ _ n _] => some (vint n) | [.gsl _ n _] => some (vint n) | _ => none
def ov_len : OpF := fun _ _ _ vals _ => (pv_len vals).map fun v => (v, [])
def pv_lenS (vals : List V) : Option V :=
  match vals with | [.lit (.string s)] => some (vint s.size) | _ => none
def ov_lenS : OpF := fun _ _ _ vals _ => (pv_lenS vals).map fun v => (v, [])
def ov_app (e : TypeId) (size : Nat) (bytes : Nat) : OpF := fun id base md vals m =>
  match vals with
    | [.sl n xs k, .sl j ys _] => match k with
      | .exact => if xs.length = n * size ∧ ys.length = j * size ∧ (n + j) * bytes ≤ 140737488355328 ∧ n + j ≤ maxLen then some (.sl (n + j) (xs ++ ys) (.own id), [(id, some (.row (n + j) e size))]) else none
      | .own t => match ownOk md base t, m.obj t with
        | true, some (.row n' e' s') => if (xs.length = n * size ∧ ys.length = j * size ∧ (n + j) * bytes ≤ 140737488355328 ∧ n + j ≤ maxLen) ∧ n' = n ∧ e' = e ∧ s' = size then some (.sl (n + j) (xs ++ ys) (.own t), [(t, some (.row (n + j) e size))]) else none
        | _, _ => none
      | .no => none
    | _ => none
def ov_appB (e : TypeId) (size : Nat) (bytes : Nat) : OpF := fun id base md vals m =>
  none
def ov_appM (e : TypeId) (size : Nat) (bytes : Nat) : OpF := fun id base md vals m =>
  match md, vals with
    | none, [x, y] => match rdS m size y with
      | some (j, ys) => match x with
        | .sl n xs k => if k = .exact ∧ xs.length = n * size ∧ (n + j) * bytes ≤ 140737488355328 ∧ n + j ≤ maxLen then (if j = 0 then some (.sl n xs .exact, []) else some (.gsl id (n + j) size, [(id, some (.box (xs ++ ys) e))])) else none
        | .gsl i n s => match m.obj i with
          | some (.box cs t) => if (s = size ∧ (n + j) * bytes ≤ 140737488355328 ∧ n + j ≤ maxLen) ∧ t = e ∧ n * size ≤ cs.length ∧ (cs.take (n * size)).all V.one = true then some (.gsl id (n + j) size, [(i, none), (id, some (.box (cs.take (n * size) ++ ys) e))]) else none
          | _ => none
        | _ => none
      | none => none
    | _, _ => none
def ov_appL (e : TypeId) (size : Nat) (bytes : Nat) : OpF := fun id base md vals m =>
  match md, vals with
    | none, x :: y :: ps => bif ps.all (offP id x) then (match rdS m size y with
      | some (j, ys) => match x with
        | .sl n xs k => if k = .exact ∧ xs.length = n * size ∧ (n + j) * bytes ≤ 140737488355328 ∧ n + j ≤ maxLen then (if j = 0 then some (.sl n xs .exact, []) else some (.gsl id (n + j) size, [(id, some (.box (xs ++ ys) e))])) else none
        | .gsl i n s => match m.obj i with
          | some (.box cs t) => if (s = size ∧ (n + j) * bytes ≤ 140737488355328 ∧ n + j ≤ maxLen) ∧ t = e ∧ n * size ≤ cs.length ∧ (cs.take (n * size)).all V.one = true then some (.gsl id (n + j) size, [(i, none), (id, some (.box (cs.take (n * size) ++ ys) e))]) else none
          | _ => none
        | _ => none
      | none => none) else none
    | _, _ => none
def ov_mkslB (e : TypeId) (n : Nat) (size : Nat) (z : List V) (pl : List (Nat × Nat)) : OpF := fun id base md vals m =>
  if pl.length = vals.length ∧ z.length = n * size then (vfill z (pl.zip vals)).map fun cs => (.gsl id n size, [(id, some (.box cs e))]) else none
def pv_bin (op : BinOp) (vals : List V) : Option V :=
  match vals with
    | [.lit (.int k a), .lit (.int k' b)] => if k = k' then (vbinI op k a b).map .lit else none
    | [.lit (.string a), .lit (.string b)] => (vbinS op a b).map .lit
    | _ => none
def ov_bin (op : BinOp) : OpF := fun _ _ _ vals _ => (pv_bin op vals).map fun v => (v, [])
def pv_eqB (neg : Bool) (vals : List V) : Option V :=
  match vals with | [.lit (.bool a), .lit (.bool b)] => some (vbool ((a == b) != neg)) | _ => none
def ov_eqB (neg : Bool) : OpF := fun _ _ _ vals _ => (pv_eqB neg vals).map fun v => (v, [])
def pv_eqP (offs : List (Nat × Nat)) (neg : Bool) (vals : List V) : Option V :=
  match vals with | [.agg xs, .agg ys] => (eqOffs xs ys offs).map fun b => vbool (b != neg) | _ => none
def ov_eqP (offs : List (Nat × Nat)) (neg : Bool) : OpF := fun _ _ _ vals _ => (pv_eqP offs neg vals).map fun v => (v, [])
def ov_eqN (neg : Bool) : OpF := fun id base md vals m =>
  match md, vals with
    | none, [.sl _ (_ :: _) _] => some (vbool neg, [])
    | none, [.bsl _ _ _ _] => some (vbool neg, [])
    | none, [.gsl _ _ _] => some (vbool neg, [])
    | _, _ => none
def pv_eqQ (neg : Bool) (vals : List V) : Option V :=
  match vals with | [.lit (.pointer none)] => some (vbool !neg) | [.ptr _ _] => some (vbool neg) | [.ept _ _] => some (vbool neg) | _ => none
def ov_eqQ (neg : Bool) : OpF := fun _ _ _ vals _ => (pv_eqQ neg vals).map fun v => (v, [])
def pv_eqI (neg : Bool) (vals : List V) : Option V :=
  match vals with | [.lit .nilIface] => some (vbool !neg) | [.lit (.iface _ _)] => some (vbool neg) | _ => none
def ov_eqI (neg : Bool) : OpF := fun _ _ _ vals _ => (pv_eqI neg vals).map fun v => (v, [])
def pv_sl00 (vals : List V) : Option V :=
  match vals with | [.sl _ _ _] => some (.sl 0 [] .exact) | [.bsl _ _ _ _] => some (.sl 0 [] .exact) | [.gsl _ _ _] => some (.sl 0 [] .exact) | _ => none
def ov_sl00 : OpF := fun _ _ _ vals _ => (pv_sl00 vals).map fun v => (v, [])
def pv_un (op : UnOp) (vals : List V) : Option V :=
  match op, vals with
    | .neg, [.lit (.int k n)] => some (.lit (.int k (k.wrap (0 - n))))
    | .not, [.lit (.bool b)] => some (vbool !b)
    | _, _ => none
def ov_un (op : UnOp) : OpF := fun _ _ _ vals _ => (pv_un op vals).map fun v => (v, [])
def pv_cvt (k : IntKind) (vals : List V) : Option V :=
  match vals with | [.lit (.int _ n)] => some (.lit (.int k (k.wrap n))) | _ => none
def ov_cvt (k : IntKind) : OpF := fun _ _ _ vals _ => (pv_cvt k vals).map fun v => (v, [])
def pv_cvtS (vals : List V) : Option V :=
  match vals with | [.lit (.string s)] => some (.lit (.string s)) | _ => none
def ov_cvtS : OpF := fun _ _ _ vals _ => (pv_cvtS vals).map fun v => (v, [])
def pv_mn (vals : List V) : Option V :=
  match vals with | [.lit (.int k x), .lit (.int _ y)] => some (.lit (.int k (if y < x then y else x))) | _ => none
def ov_mn : OpF := fun _ _ _ vals _ => (pv_mn vals).map fun v => (v, [])
def pv_mx (vals : List V) : Option V :=
  match vals with | [.lit (.int k x), .lit (.int _ y)] => some (.lit (.int k (if y > x then y else x))) | _ => none
def ov_mx : OpF := fun _ _ _ vals _ => (pv_mx vals).map fun v => (v, [])
def ov_mkmap (ks : List Nat) : OpF := fun id base md vals m =>
  if md = none then some (.mp id, [(id, some (.oth (.map ks [])))]) else none
def ov_mlk (ks : List Nat) (ok : Bool) : OpF := fun id base md vals m =>
  if md = none then (match vals with
    | [.mp i, key] => match m.obj i, keyOf ks key with
      | some (.oth (.map ks' es)), some k => if ks' = ks then some (mans ok (mget es k), []) else none
      | _, _ => none
    | _ => none) else none
def ov_mput (ks : List Nat) : OpF := fun id base md vals m =>
  if md = none then (match vals with
    | [.mp i, key, .lit (.int .i64 n)] => match m.obj i, keyOf ks key with
      | some (.oth (.map ks' es)), some k => if ks' = ks then some (vund, [(i, some (.oth (.map ks (mset es k n))))]) else none
      | _, _ => none
    | _ => none) else none
def ov_cpy : OpF := fun id base md vals m =>
  match md, vals with
    | none, [.bsl i off n _, y] => match m.obj i, rdS m 1 y with
      | some (.box cs t), some (j, ys) => if off + n ≤ cs.length then some (vint ((min n j : Nat) : Int), [(i, some (.box (splice cs off (ys.take (min n j))) t))]) else none
      | _, _ => none
    | _, _ => none
def ov_clr (size : Nat) (z : List V) : OpF := fun id base md vals m =>
  match md, vals with
    | none, [.bsl i off n _] => match m.obj i with
      | some (.box cs t) => if z.length = size ∧ off + n * size ≤ cs.length then some (vund, [(i, some (.box (splice cs off (List.flatten (List.replicate n z))) t))]) else none
      | _ => none
    | _, _ => none
def pv_runes (vals : List V) : Option V :=
  match vals with | [.sl n xs _] => if xs.length = n then (xs.mapM runeOf).map fun l => .lit (.string (runesS l)) else none | _ => none
def ov_runes : OpF := fun _ _ _ vals _ => (pv_runes vals).map fun v => (v, [])
def evIO : VO → InF := VO.rec (motive := fun _ => InF)
  (iN ov_mv)
  (iN ov_pick)
  (fun t z => iN (ov_alloc t z))
  (fun t => iN (ov_box t))
  (iN ov_boxE)
  (fun z pl => iN (ov_build z pl))
  (fun n size z pl => iN (ov_mksl n size z pl))
  (iN ov_ld1)
  (fun n => iN (ov_ldA n))
  (fun n => iN (ov_st n))
  (iN ov_nilck)
  (fun off n agg => iN (ov_fld off n agg))
  (fun off => iN (ov_fldA off))
  (fun size => iN (ov_ixA size))
  (fun len size => iN (ov_ixAA len size))
  (fun len size agg => iN (ov_ixV len size agg))
  (iN ov_ixS)
  (fun size lo hi => iN (ov_slc size lo hi))
  (fun lo hi => iN (ov_slS lo hi))
  (fun e size bytes z => iN (ov_mk e size bytes z))
  (fun i => iN (ov_ext i))
  (fun f => iN (ov_mkfn f))
  (iN ov_len)
  (iN ov_lenS)
  (fun e size bytes => iN (ov_app e size bytes))
  (fun e size bytes => iN (ov_appB e size bytes))
  (fun e size bytes => iN (ov_appM e size bytes))
  (fun e size bytes => iN (ov_appL e size bytes))
  (fun e n size z pl => iN (ov_mkslB e n size z pl))
  (fun op => iN (ov_bin op))
  (fun neg => iN (ov_eqB neg))
  (fun offs neg => iN (ov_eqP offs neg))
  (fun neg => iN (ov_eqN neg))
  (fun neg => iN (ov_eqQ neg))
  (fun neg => iN (ov_eqI neg))
  (iN ov_sl00)
  (fun op => iN (ov_un op))
  (fun k => iN (ov_cvt k))
  (iN ov_cvtS)
  (iN ov_mn)
  (iN ov_mx)
  (fun f => iv_call f)
  iv_callv
  (fun f => iv_callB f)
  (fun f js => iv_callL f js)
  (fun ks => iN (ov_mkmap ks))
  (fun ks ok => iN (ov_mlk ks ok))
  (fun ks => iN (ov_mput ks))
  (iN ov_cpy)
  (fun size z => iN (ov_clr size z))
  (iN ov_runes)
def evA (t : Tr V) : Opd → V := Opd.rec (motive := fun _ => V) (fun n => Option.rec (motive := fun _ => V) vund (fun v => v) (t.get (Nat.succ n))) (fun v => v)
def mapA (t : Tr V) (l : List Opd) : List V := List.rec (motive := fun _ => List V) [] (fun a _ ih => evA t a :: ih) l
theorem mapA_eq (s : ES) (l : List Opd) : mapA s.t l = l.map s.st.ev := by
  induction l with
  | nil => rfl
  | cons a l ih =>
    show evA s.t a :: mapA s.t l = s.st.ev a :: l.map s.st.ev
    rw [ih]
    congr 1
    cases a with
    | t n =>
      show Option.rec (motive := fun _ => V) vund (fun v => v) (s.t.get (n + 1)) = (s.t.get (n + 1)).getD vund
      cases s.t.get (n + 1) <;> rfl
    | c v => rfl
def onG (t : Tr V) (g : Option (Nat × Bool)) : Bool := Option.rec (motive := fun _ => Bool) true (fun p => onB (evA t (.t p.1)) p.2) g
theorem onG_eq (s : ES) (vi : VI) : onG s.t vi.guard = vi.on s.st := by
  obtain ⟨d, g, op, args, md⟩ := vi
  cases g with
  | none => rfl
  | some p =>
    obtain ⟨n, w⟩ := p
    show onB (Option.rec (motive := fun _ => V) vund (fun v => v) (s.t.get (n + 1))) w = onB ((s.t.get (n + 1)).getD vund) w
    cases s.t.get (n + 1) <;> rfl
def evIE (T : TbF) (ec : EcF) (base idx : Nat) (vi : VI) (s : ES) : Option ES :=
  Bool.rec (motive := fun _ => Option ES) (match putE s.t vi.dst vund with | some t => some ⟨t, s.o, s.nx⟩ | none => none) (evIO vi.op T ec base idx vi.dst vi.mode (mapA s.t vi.args) s) (onG s.t vi.guard)
theorem evIE_eq (T : TbF) (ec : EcF) (base idx : Nat) (vi : VI) (s : ES) : evIE T ec base idx vi s = evI T ec base idx vi s := by
  unfold evIE evI
  rw [onG_eq, mapA_eq]
  cases vi.on s.st with
  | false => rfl
  | true =>
    obtain ⟨d, g, op, args, md⟩ := vi
    dsimp only
    generalize args.map s.st.ev = vals
    cases op <;> rfl
def evRE (T : TbF) (ec : EcF) (base : Nat) (l : List VI) : Nat → ES → Option ES :=
  List.rec (motive := fun _ => Nat → ES → Option ES) (fun _ s => some s) (fun vi _ ih i s => Option.rec (motive := fun _ => Option ES) none (fun s' => ih (Nat.succ i) s') (evIE T ec base i vi s)) l
theorem evRE_eq (T : TbF) (ec : EcF) (base : Nat) : ∀ (l : List VI) (i : Nat) (s : ES), evRE T ec base l i s = evR T ec base l i s
  | [], i, s => rfl
  | vi :: l, i, s => by
    show Option.rec (motive := fun _ => Option ES) none (fun s' => evRE T ec base l (i + 1) s') (evIE T ec base i vi s) = _
    rw [evR, evIE_eq]
    cases evI T ec base i vi s with
    | none => rfl
    | some s' => exact evRE_eq T ec base l (i + 1) s'
def kv_skip : CoF := fun _ _ s => some (.nrm, s)
def kv_ret : CoF := fun _ _ s => some (.ret, s)
def kv_ops (k : Nat) (l : List VI) : CoF := fun T ec s => match evRE T ec s.nx l 0 ⟨s.t, s.o, s.nx + k⟩ with | some s' => some (.nrm, s') | none => none
def kv_seq (a b : VC) : CoF := fun _ ec s => match ec a s with
  | some (.nrm, s') => ec b s'
  | r => r
def kv_cond (c : Opd) (a b : VC) : CoF := fun _ ec s => match evA s.t c with
  | .lit (.bool true) => ec a s
  | .lit (.bool false) => ec b s
  | _ => none
def kv_block (id : Nat) (b : VC) : CoF := fun _ ec s => match ec b s with
  | some (.exit i, s') => bif Nat.beq i id then some (.nrm, s') else some (.exit i, s')
  | r => r
def kv_loop (b : VC) : CoF := fun _ ec s => match ec b s with
  | some (.nrm, s') => ec (.loop b) s'
  | r => r
def kv_exit (id : Nat) : CoF := fun _ _ s => some (.exit id, s)
def kv_scope (b : VC) : CoF := fun _ ec s => ec b s
def kv_range (nt : Nat) (f : Opd) (ps : Array Nat) (as bd : Code) : CoF := fun T ec s => (match s.st.ev f with
      | .fn g cs => (match updT s.o [(s.nx, some (.oth (.loop (slots nt s.st.t) ps as bd .ready)))] with
        | some o1 => (match evF T ec g (.yld s.nx :: cs) o1 (s.nx + 1) with
          | some (_, o2, nx2) => (match o2.get (s.nx + 1) with
            | some (.oth (.loop _ _ _ _ .ready)) => (updT o2 [(s.nx, none)]).map fun o3 => (.nrm, ⟨s.t, o3, nx2⟩)
            | some (.oth (.loop _ _ _ _ (.done .ret))) => (updT o2 [(s.nx, none)]).map fun o3 => (.ret, ⟨s.t, o3, nx2⟩)
            | some (.oth (.loop _ _ _ _ (.done (.exit id)))) => (updT o2 [(s.nx, none)]).map fun o3 => (.exit id, ⟨s.t, o3, nx2⟩)
            | _ => none)
          | none => none)
        | none => none)
      | _ => none)
def evC1 : VC → CoF := VC.rec (motive := fun _ => CoF) kv_skip kv_ret kv_ops (fun a b _ _ => kv_seq a b) (fun c a b _ _ => kv_cond c a b) (fun id b _ => kv_block id b) (fun b _ => kv_loop b) kv_exit (fun b _ => kv_scope b) kv_range (fun _ _ _ => none)
def evCE (T : TbF) (n : Nat) : EcF := Nat.rec (motive := fun _ => EcF) (fun _ _ => none) (fun _ ec c s => evC1 c T ec s) n
theorem evCE_eq (T : TbF) : ∀ n, evCE T n = evC T n
  | 0 => by funext c s; rw [evC]; rfl
  | n + 1 => by
    funext c s
    show evC1 c T (evCE T n) s = _
    rw [evCE_eq T n]
    cases c with
    | ops k l =>
      rw [evC]
      show (match evRE T (evC T n) s.nx l 0 ⟨s.t, s.o, s.nx + k⟩ with | some s' => some (VX.nrm, s') | none => none) = _
      rw [evRE_eq]
      cases evR T (evC T n) s.nx l 0 ⟨s.t, s.o, s.nx + k⟩ <;> rfl
    | cond c a b =>
      rw [evC]
      show (match evA s.t c with
        | .lit (.bool true) => evC T n a s
        | .lit (.bool false) => evC T n b s
        | _ => none) = _
      rw [show evA s.t c = s.st.ev c from by
        have := mapA_eq s [c]
        exact (List.cons.inj this).1]
      rfl
    | _ => rw [evC]; rfl
/-- A call of a function on values without boxes, run outright. -/
theorem Fn.of_evX {P : Program} {G : Ground} {T : TbF} (hT : TabOk P G T) (n : Nat) {f : Nat} {vals : List V} {r : V} (hp : V.pures vals = true) (hd : r.dry = true) (h : (evF T (evCE T n) f vals .e 0).map (·.1) = some r) : Fn P G f vals r :=
  Fn.of_ev hT n hp hd (by rw [← evCE_eq]; exact h)
/-- The same; its boxes are shown. -/
theorem Fn.of_evV {P : Program} {G : Ground} {T : TbF} (hT : TabOk P G T) (n : Nat) {f : Nat} {vals : List V} {u : V} (hp : V.pures vals = true) (h : ((evF T (evCE T n) f vals .e 0).bind fun x => viewV 60 (mmT x.2.1 x.2.2) allS x.1) = some u) : Fn P G f vals u := by
  rw [Option.bind_eq_some_iff, evCE_eq] at h
  obtain ⟨⟨r, o, nx⟩, h, hv⟩ := h
  exact Fn.of_empty hp ((show SFn P G f vals M0 _ from evF_ok hT (evC_ok hT n) h).mono (by rintro r' m' ⟨rfl, rfl⟩; exact view_ok _ _ _ _ _ hv))
end
end Go.Proofs.YtdefefeifcdogaaGreat
