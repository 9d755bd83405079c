/-
  One operation of the machine over plain data; a list of them; code.
-/
import Derived.Test.YtpdhbdacbiamdaaWfB
set_option linter.unusedVariables false
set_option linter.unusedSimpArgs false
set_option linter.unnecessarySimpa false
namespace Wf
open Go Go.RowKit

section
variable {M : GM}

/-- A load through a place. -/
def aload (P : Program) (M : GM) (L : Loc) (G : Option M.S) (t : TypeId) (p : V) : Option V :=
  match tyAgg P t, tySize P t with
  | some ag, some n =>
    match p with
    | .d (.at_ x) => if x.isAgg = ag ∧ x.width = n ∧ x.cell = !ag then some (.d x) else none
    | .d (.h k off) => (G.bind fun s => M.load s k off n).bind fun ds => if ag then some (.d (.agg ds)) else match ds with
      | [x] => some (.d x)
      | _ => none
    | .ptr g l off => match L.get g l with
      | .box _ ds => (partD ag n off ds).map .d
      | .vbox v => if ag = false ∧ off = 0 then some v else none
      | _ => none
    | .ept g l i off => match L.get g l with
      | .arr _ els _ => (els[i]?).bind fun x => match x with
        | .agg cs => (partD ag n off cs).map .d
        | .undef | .tup _ => none
        | x => if ag = false ∧ off = 0 then some (.d x) else none
      | _ => none
    | _ => none
  | _, _ => none

/-- A store through a place. -/
def astore (P : Program) (M : GM) (L : Loc) (G : Option M.S) (t : TypeId) (p v : V) : Option (Out M.S) :=
  match tyAgg P t, tySize P t with
  | some ag, some n =>
    match p with
    | .ptr g l off => match L.get g l with
      | .box a ds => match v with
        | .d (.agg xs) => if ag = true ∧ xs.length = n ∧ off + n ≤ ds.length then some { v := .d (.tup []), wr := [(g, (l, .box a (ds.take off ++ xs ++ ds.drop (off + n))))] } else none
        | .ref g' l' off' len' => if ag = false ∧ n = 1 ∧ off = 0 ∧ ds.length = 1 ∧ a = false then some { v := .d (.tup []), wr := [(g, (l, .vbox (.ref g' l' off' len')))] } else none
        | .d x => if ag = false ∧ n = 1 ∧ x.cell = true ∧ off < ds.length then some { v := .d (.tup []), wr := [(g, (l, .box a (ds.set off x)))] } else none
        | _ => none
      | .vbox _ => match v with
        | .ref g' l' off' len' => if ag = false ∧ n = 1 ∧ off = 0 then some { v := .d (.tup []), wr := [(g, (l, .vbox (.ref g' l' off' len')))] } else none
        | .d x => if ag = false ∧ n = 1 ∧ x.cell = true ∧ off = 0 then some { v := .d (.tup []), wr := [(g, (l, .box false [x]))] } else none
        | _ => none
      | _ => none
    | .ept g l i off => match L.get g l with
      | .arr sz els true => match els[i]?, v with
        | some _, .d (.agg xs) => if ag = true ∧ xs.length = n ∧ off = 0 ∧ n = sz then some { v := .d (.tup []), wr := [(g, (l, .arr sz (els.set i (.agg xs)) true))] } else none
        | some (.agg cs), .d x => if ag = false ∧ n = 1 ∧ x.cell = true ∧ off < cs.length then some { v := .d (.tup []), wr := [(g, (l, .arr sz (els.set i (.agg (cs.set off x))) true))] } else none
        | some _, .d x => if ag = false ∧ n = 1 ∧ x.cell = true ∧ off = 0 ∧ sz = 1 then some { v := .d (.tup []), wr := [(g, (l, .arr sz (els.set i x) true))] } else none
        | some _, .ref g' l' off' len' => if ag = false ∧ n = 1 ∧ off = 0 ∧ sz = 1 ∧ g ≠ g' then (toD L (.ref g' l' off' len')).map fun r => { v := .d (.tup []), wr := r.2 ++ [(g, (l, .arr sz (els.set i r.1) true))] } else none
        | _, _ => none
      | _ => none
    | .d (.h k off) => match v with
      | .d (.agg xs) => if ag = true ∧ xs.length = n ∧ xs.all D.flat then (G.bind fun s => M.store s k off xs).map fun s => { v := .d (.tup []), gs := some s } else none
      | .d x => if ag = false ∧ n = 1 ∧ x.flat = true then (G.bind fun s => M.store s k off [x]).map fun s => { v := .d (.tup []), gs := some s } else none
      | _ => none
    | _ => none
  | _, _ => none

/-- What append wants of its element type: its size, and that there is room. -/
def appendTy (P : Program) (ty : TypeId) (n : Nat) : Option Nat :=
  match P.underlying ty with
  | some (.slice e) => match P.info? e, tyZero P e with
    | some i, some z => if 0 < i.size ∧ z.width = i.size ∧ (z.cell || z.isAgg) = true ∧ i.bytes ≤ 4096 ∧ n ≤ 2 ^ 32 then some i.size else none
    | _, _ => none
  | _ => none

def okEls (sz : Nat) (l : List D) : Bool := l.all fun d => d.width == sz && (d.cell || d.isAgg)

def alen (P : Program) (L : Loc) (ty : TypeId) : V → Option Nat
  | .d (.str s) => if tyStr P ty = true then some s.size else none
  | v => if (tyElem P ty).isSome = true then (elsOf L v).map List.length else none

/-- append(s, x...): t is the row that comes of it. -/
def aappend (P : Program) (L : Loc) (t : Nat) (ty : TypeId) (s x : V) : Option (Out M.S) :=
  match elsOf L x with
  | some xs =>
    match s with
    | .d (.sl .full []) => (appendTy P ty xs.length).bind fun sz => if okEls sz xs then some { v := .ref t (L.new t) 0 xs.length, wr := [(t, (L.new t, .arr sz xs true))] } else none
    | .d (.sl .full (y :: l)) => match xs with
      | [] => none
      | _ => (appendTy P ty ((y :: l).length + xs.length)).bind fun sz => if okEls sz xs ∧ okEls sz (y :: l) then
          some { v := .ref t (L.new t) 0 ((y :: l).length + xs.length), wr := [(t, (L.new t, .arr sz (y :: l ++ xs) true))] } else none
    | .ref g n off len => match off, L.get g n with
      | 0, .arr sz' els true => (appendTy P ty (len + xs.length)).bind fun sz => if okEls sz xs ∧ len = els.length ∧ sz' = sz then
          some { v := .ref t (L.new t) 0 (len + xs.length), wr := [(g, (n, .dead)), (t, (L.new t, .arr sz (els ++ xs) true))] } else none
      | _, _ => none
    | _ => none
  | none => none

def acopy (P : Program) (L : Loc) (ty : TypeId) (s x : V) : Option (Out M.S) :=
  match s, elsOf L x, tyElem P ty with
  | .ref g n off len, some xs, some ez => match L.get g n with
    | .arr sz els true => if off + len ≤ els.length ∧ sz = 1 ∧ ez = 1 ∧ xs.all (fun d => d.cell) then
        some { v := .d (.int .i64 ((min xs.length len : Nat) : Int)), wr := [(g, (n, .arr sz (els.take off ++ xs.take len ++ els.drop (off + (xs.take len).length)) true))] } else none
    | _ => none
  | _, _, _ => none

def optD : Option V → Option (Option Int)
  | none => some none
  | some (.d (.int _ n)) => some (some n)
  | _ => none

def sliceTag (tg : Tag) (mx whole : Bool) : Tag :=
  match tg with
  | .lent => .lent
  | .full => if mx || whole then .full else .fresh
  | _ => if mx then .full else .fresh

theorem sliceTag_full {tg : Tag} {mx whole : Bool} (h : sliceTag tg mx whole = .full) : mx = true ∨ (tg = .full ∧ whole = true) := by
  cases tg <;> cases mx <;> cases whole <;> simp_all [sliceTag]
theorem sliceTag_lent {tg : Tag} {mx whole : Bool} (h : sliceTag tg mx whole ≠ .lent) : tg ≠ .lent := by
  rintro rfl; exact h rfl

/-- x[lo:hi:max]. -/
def aslice (P : Program) (L : Loc) (t : TypeId) (x : V) (lo hi mx : Option V) : Option V :=
  match optD lo, optD hi, optD mx with
  | some lo, some hi, some mx =>
    match x with
    | .d (.sl tg l) =>
      let h := hi.getD l.length
      let a := lo.getD 0
      let m := mx.getD h
      if (tyElem P t).isSome ∧ 0 ≤ a ∧ a ≤ h ∧ h ≤ l.length ∧ m = h ∧ (mx.isNone || hi.isSome) = true ∧ l.all (fun d => d.cell || d.isAgg) ∧ l.all (fun d => some d.width = tyElem P t) then
        some (.d (.sl (sliceTag tg mx.isSome (decide (h = l.length))) ((l.drop a.toNat).take (h - a).toNat))) else none
    | .d (.str s) =>
      let h := hi.getD s.size
      let a := lo.getD 0
      if tyStr P t = true ∧ mx = none ∧ 0 ≤ a ∧ a ≤ h ∧ h ≤ s.size then some (.d (.str (s.extract a.toNat h.toNat))) else none
    | .ref g n off len =>
      let h := hi.getD len
      let a := lo.getD 0
      match tyElem P t, L.get g n with
      | some sz, .arr sz' _ _ => if sz = sz' ∧ mx = none ∧ 0 ≤ a ∧ a ≤ h ∧ h ≤ len then some (.ref g n (off + a.toNat) (h - a).toNat) else none
      | _, _ => none
    | .ptr g n off => match off, tyArr P t, L.get g n with
      | 0, some (k, sz, _), .box _ ds =>
        let h := hi.getD k
        let a := lo.getD 0
        if k = ds.length ∧ sz = 1 ∧ mx = none ∧ 0 ≤ a ∧ a ≤ h ∧ h ≤ k ∧ (a = 0 ∨ a < k) then some (.bref g n a.toNat (h - a).toNat) else none
      | _, _, _ => none
    | _ => none
  | _, _, _ => none

def aindexAddr (P : Program) (L : Loc) (t : TypeId) (x i : V) : Option V :=
  match i with
  | .d (.int _ i) => if i < 0 then none else
    match x with
    | .d (.sl _ l) => match tyElem P t, l[i.toNat]? with
      | some sz, some d => if d.width = sz ∧ (d.cell || d.isAgg) = true then some (.d (.at_ d)) else none
      | _, _ => none
    | .ref g l off n => match tyElem P t, L.get g l with
      | some sz, .arr sz' _ _ => if i.toNat < n ∧ sz' = sz then some (.ept g l (off + i.toNat) 0) else none
      | _, _ => none
    | .bref g l off n => match tyElem P t with
      | some sz => if sz = 1 ∧ i.toNat < n then some (.ptr g l (off + i.toNat)) else none
      | none => none
    | .ptr g l off => match tyArr P t with
      | some (n, sz, _) => if i.toNat < n then some (.ptr g l (off + i.toNat * sz)) else none
      | none => none
    | .d (.at_ (.agg cs)) => match tyArr P t with
      | some (n, sz, ag) => if i.toNat < n then (partD ag sz (i.toNat * sz) cs).map fun d => .d (.at_ d) else none
      | none => none
    | .d (.h k off) => match tyArr P t with
      | some (n, sz, _) => if i.toNat < n then some (.d (.h k (off + i.toNat * sz))) else none
      | none => none
    | _ => none
  | _ => none

def afieldAddr (P : Program) (s : TypeId) (x : V) (f : Nat) : Option V :=
  match tyFld P s f, tyFldAgg P s f with
  | some (off, size), some ag => if size = 0 then none else
    match x with
    | .ptr g l o => some (.ptr g l (o + off))
    | .ept g l i o => some (.ept g l i (o + off))
    | .d (.at_ (.agg cs)) => (partD ag size off cs).map fun d => .d (.at_ d)
    | .d (.h k o) => some (.d (.h k (o + off)))
    | _ => none
  | _, _ => none

/-- Where a composite's parts lie. -/
def placesOf (P : Program) (t : TypeId) : Option (Nat → Option (Nat × Nat)) :=
  match P.underlying t with
  | some (.struct fs) => if (List.range fs.size).all (fun i => (tyFld P t i).isSome) then some fun i => tyFld P t i else none
  | some (.array _ e) => (tySize P e).map fun sz => fun i => some (i * sz, sz)
  | _ => none

def abuild (P : Program) (L : Loc) (t : TypeId) (parts : List (Nat × V)) : Option (Out M.S) :=
  match tyZero P t, toDs L (parts.map (·.2)), placesOf P t with
  | some (.agg zs), some (ds, w), some pl => (lay pl zs ((parts.map (·.1)).zip ds)).map fun cs => { v := .d (.agg cs), wr := w }
  | _, _, _ => none

/-- A slice literal. -/
def abuildSlice (P : Program) (L : Loc) (t : TypeId) (n : Nat) (parts : List (Nat × V)) : Option (Out M.S) :=
  match appendTy P t n, toDs L (parts.map (·.2)) with
  | some sz, some (ds, w) =>
    if parts.map (·.1) = List.range n ∧ n * sz ≤ 2 ^ 24 ∧ okEls sz ds then
      some { v := .d (.sl .full ds), wr := w } else none
  | _, _ => none

def amakeSlice (P : Program) (L : Loc) (t : Nat) (ty : TypeId) (n c : V) : Option (Out M.S) :=
  match P.underlying ty, n, c with
  | some (.slice e), .d (.int .i64 n), .d (.int .i64 c) =>
    match tyZero P e, tySize P e, P.info? e with
    | some z, some sz, some i => if 0 ≤ n ∧ n = c ∧ n * i.bytes ≤ 2 ^ 47 ∧ n ≤ 2 ^ 47 ∧ z.width = sz ∧ 0 < sz then
        some { v := .ref t (L.new t) 0 n.toNat, wr := [(t, (L.new t, .arr sz (List.replicate n.toNat z) true))] } else none
    | _, _, _ => none
  | _, _, _ => none

def findD (n : Int) : List (Int × D) → Option D
  | [] => none
  | (a, v) :: r => if n = a then some v else findD n r

def setD (n : Int) (v : D) : List (Int × D) → List (Int × D)
  | [] => [(n, v)]
  | (a, u) :: r => if n = a then (n, v) :: r else (a, u) :: setD n v r

def tyMap (P : Program) (t : TypeId) : Option (IntKind × TypeId) :=
  match P.underlying t with
  | some (.map kt et) => (tyInt P kt).map fun k => (k, et)
  | _ => none

def amapUpdate (P : Program) (L : Loc) (t : TypeId) (m k v : V) : Option (Out M.S) :=
  match tyMap P t, m, k with
  | some (kk, _), .map g l, .d (.int kk' n) => match L.get g l, toD L v with
    | .map ok es, some (x, w) => if kk = kk' ∧ ok = kk ∧ g ∉ v.ids then some { v := .d (.tup []), wr := w ++ [(g, (l, .map kk (setD n x es)))] } else none
    | _, _ => none
  | _, _, _ => none

def alookup (P : Program) (L : Loc) (t : TypeId) (m k : V) (ok : Bool) : Option V :=
  match tyMap P t, m, k with
  | some (kk, et), .map g l, .d (.int kk' n) => match L.get g l, tyZero P et with
    | .map mk es, some z => if kk = kk' ∧ mk = kk then
        (match findD n es with
        | some x => some (if ok then .d (.tup [x, .bool true]) else .d x)
        | none => some (if ok then .d (.tup [z, .bool false]) else .d z)) else none
    | _, _ => none
  | _, _, _ => none

def acallee : V → Option (FuncId × List V × List V)
  | .clo f a b => some (f, a, b)
  | .d (.fn f a b) => some (f, a.map .d, b.map .d)
  | _ => none

def acall (Γ : Env M) (L : Loc) (G : Option M.S) (t : Nat) (f : V) (args : List V) : Option (Out M.S) :=
  match acallee f with
  | some (k, a, b) => match (a ++ args ++ b).mapM (lend L), Γ k with
    | some ds, some (.pure szs F) => (F ds).bind fun r => (adopt L t szs r).map fun x => { v := x.1, wr := x.2 }
    | some ds, some (.st szs F) => (G.bind fun s => F ds s).bind fun r => (adopt L t szs r.1).map fun x => { v := x.1, wr := x.2, gs := some r.2 }
    | _, _ => none
  | none => none

def okRef (L : Loc) : V → Bool
  | .ref g n off len => (elsOf L (.ref g n off len)).isSome
  | _ => true

def okPtr (L : Loc) : V → Bool
  | .ptr g n _ => match L.get g n with
    | .box .. | .vbox _ => true
    | _ => false
  | .ept g n i _ => match L.get g n with
    | .arr _ els _ => decide (i < els.length)
    | _ => false
  | .bref g n _ _ => match L.get g n with
    | .box .. => true
    | _ => false
  | _ => true

def out (v : Option V) : Option (Out M.S) := v.map fun v => { v }

/-- What an operation does. -/
def aop (P : Program) (Γ : Env M) (o : Oper) (ρ : Operand → V) (L : Loc) (G : Option M.S) : Option (Out M.S) :=
  let t := o.dst.getD 0
  match o.op with
  | .move x | .assign x => some { v := ρ x }
  | .pick c a b => match ρ c with
    | .d (.bool b') => some { v := if b' then ρ a else ρ b }
    | _ => none
  | .alloc e => match tyZero P e with
    | some (.agg cs) => some { v := .ptr t (L.new t) 0, wr := [(t, (L.new t, .box true cs))] }
    | some x => if x.cell then some { v := .ptr t (L.new t) 0, wr := [(t, (L.new t, .box false [x]))] } else none
    | none => none
  | .box _ x => match ρ x with
    | .d (.agg cs) => some { v := .ptr t (L.new t) 0, wr := [(t, (L.new t, .box true cs))] }
    | .d x => if x.cell then some { v := .ptr t (L.new t) 0, wr := [(t, (L.new t, .box false [x]))] } else none
    | .ref g n off len => if okRef L (.ref g n off len) then some { v := .ptr t (L.new t) 0, wr := [(t, (L.new t, .vbox (.ref g n off len)))] } else none
    | _ => none
  | .build ty ps => abuild P L ty (ps.toList.map fun (i, x) => (i, ρ x))
  | .buildSlice ty n ps => abuildSlice P L ty n (ps.toList.map fun (i, x) => (i, ρ x))
  | .load ty a => out (aload P M L G ty (ρ a))
  | .store ty a x => if okRef L (ρ x) then astore P M L G ty (ρ a) (ρ x) else none
  | .binOp op ty x y _ => match ρ x, ρ y with
    | .d (.agg a), .d (.agg b) => if P.eqGuardType P.depth ty then none else match op with
      | .eql => out ((aeq P 5 ty (.agg a) (.agg b)).map fun r => .d (.bool r))
      | .neq => out ((aeq P 5 ty (.agg a) (.agg b)).map fun r => .d (.bool !r))
      | _ => none
    | .d a, .d b => out ((abin (tyBool P ty) op a b).map .d)
    | _, _ => none
  | .unOp op _ x => match ρ x with
    | .d a => out ((aun op a).map .d)
    | _ => none
  | .convert src dst x => match tyInt P src, tyInt P dst, ρ x with
    | some _, some k, .d (.int _ n) => some { v := .d (.int k (k.wrap n)) }
    | _, _, _ => none
  | .makeFunc (.func f) a b => some { v := .clo f (a.toList.map ρ) (b.toList.map ρ) }
  | .makeMap ty none => match tyMap P ty with
    | some (k, _) => some { v := .map t (L.new t), wr := [(t, (L.new t, .map k []))] }
    | none => none
  | .makeSlice ty n c => amakeSlice P L t ty (ρ n) (ρ c)
  | .slice ty x lo hi mx => out (aslice P L ty (ρ x) (lo.map ρ) (hi.map ρ) (mx.map ρ))
  | .fieldAddr s x f => if okPtr L (ρ x) then out (afieldAddr P s (ρ x) f) else none
  | .field s x f => match ρ x, tyFld P s f, tyFldAgg P s f with
    | .d (.agg cs), some (off, size), some ag => out ((partD ag size off cs).map .d)
    | _, _, _ => none
  | .indexAddr ty x i => if okPtr L (ρ x) then out (aindexAddr P L ty (ρ x) (ρ i)) else none
  | .index ty x i => match ρ x, ρ i with
    | .d (.agg cs), .d (.int _ n) => match tyArr P ty with
      | some (k, sz, ag) => if 0 ≤ n ∧ n < k then out ((partD ag sz (n.toNat * sz) cs).map .d) else none
      | none => none
    | _, _ => none
  | .lookup ty m k ok => out (alookup P L ty (ρ m) (ρ k) ok)
  | .mapUpdate ty m k v | .insert ty m k v => amapUpdate P L ty (ρ m) (ρ k) (ρ v)
  | .extract x i => match ρ x with
    | .d (.tup l) => out ((l[i]?).map .d)
    | .tup l => out l[i]?
    | _ => none
  | .nilCheck x => match ρ x with
    | .ptr g n o => if okPtr L (.ptr g n o) then some { v := .ptr g n o } else none
    | .ept g n i o => if okPtr L (.ept g n i o) then some { v := .ept g n i o } else none
    | .d (.h n o) => some { v := .d (.h n o) }
    | .d (.at_ x) => some { v := .d (.at_ x) }
    | .clo f a b => some { v := .clo f a b }
    | .d (.fn f a b) => some { v := .d (.fn f a b) }
    | _ => none
  | .call { callee := .builtin .len, args, argTypes } => match args.toList, argTypes.toList with
    | [x], [ty] => (alen P L ty (ρ x)).map fun n => { v := .d (.int .i64 n) }
    | _, _ => none
  | .call { callee := .builtin .min, args, .. } => match args.toList.map ρ with
    | [.d (.int .i64 a), .d (.int .i64 b)] => some { v := .d (.int .i64 (min a b)) }
    | _ => none
  | .call { callee := .builtin .max, args, .. } => match args.toList.map ρ with
    | [.d (.int .i64 a), .d (.int .i64 b)] => some { v := .d (.int .i64 (max a b)) }
    | _ => none
  | .call { callee := .builtin .append, args, argTypes } => match args.toList, argTypes.toList with
    | [s, x], [ty, ty2] => if (tyElem P ty2).isSome then aappend P L t ty (ρ s) (ρ x) else none
    | _, _ => none
  | .call { callee := .builtin .copy, args, argTypes } => match args.toList, argTypes.toList with
    | [s, x], ty :: _ => acopy P L ty (ρ s) (ρ x)
    | _, _ => none
  | .call { callee := .value f, args, .. } => acall Γ L G t (ρ f) (args.toList.map ρ)
  | _ => none

end
end Wf
