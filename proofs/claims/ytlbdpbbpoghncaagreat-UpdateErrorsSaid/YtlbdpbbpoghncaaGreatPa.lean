/- A part of the proof: lemmas that the law's row leans on. -/
import Derived.WalkKit
import Derived.Deep.QuietTactic
import Derived.Laws.StructEq
set_option linter.all false
namespace Wf
theorem zBU:∀ (x x' y y':Nat),2 ^ x*(2*y+1)=2 ^ x'*(2*y'+1)→x=x'∧y=y'
 | 0,0,y,y',h=>⟨rfl,by simp at h; omega⟩
 | 0,x'+1,y,y',h=>by rw [Nat.pow_succ,Nat.mul_comm (2 ^ x') 2,Nat.mul_assoc] at h; generalize 2 ^ x'*(2*y'+1)=q at h; simp at h; omega
 | x+1,0,y,y',h=>by rw [Nat.pow_succ,Nat.mul_comm (2 ^ x) 2,Nat.mul_assoc] at h; generalize 2 ^ x*(2*y+1)=q at h; simp at h; omega
 | x+1,x'+1,y,y',h=>by
  rw [Nat.pow_succ,Nat.mul_comm (2 ^ x) 2,Nat.mul_assoc,Nat.pow_succ,Nat.mul_comm (2 ^ x') 2,Nat.mul_assoc] at h
  have:=zBU x x' y y' (by omega)
  omega
def zig (n:Int):Nat:=if 0≤n then 2*n.toNat else 2*(-n).toNat+1
theorem zBV {a b:Int} (h:zig a=zig b):a=b:=by unfold zig at h; split at h<;>split at h<;>omega
def zIc:{ f:Int→Int→Int // ∀ a b c d,f a b=f c d↔a=c∧b=d }:=
 ⟨fun a b=>((2 ^ zig a*(2*zig b+1):Nat):Int),fun a b c d=>by
  constructor
  ·intro h;obtain ⟨h1,h2⟩:=zBU _ _ _ _ (Int.ofNat.inj h);exact ⟨zBV h1,zBV h2⟩
  ·rintro ⟨rfl,rfl⟩; rfl⟩
def zfx (a b:Int):Int:=zIc.1 a b
theorem zre (a b c d:Int):zfx a b=zfx c d↔a=c∧b=d:=zIc.2 a b c d
inductive MK where
 | int (k:Go.IntKind)
 | pair
 deriving DecidableEq
def znL (a b:Int):Go.Value:=.agg #[.int .i64 a,.int .i64 b]
def zmR:MK→Int→Go.Value→Prop
 | .int k,n,v=>v=.int k n
 | .pair,n,v=>∃ a b,n=zfx a b∧v=znL a b
end Wf

namespace Wf
open Go Go.RowKit
inductive Tag where
 | lent | fresh | full | own | nil | nn | nul
 deriving DecidableEq,Inhabited
inductive D where
 | undef
 | bool (b:Bool)
 | int (k:IntKind) (n:Int)
 | str (s:ByteArray)
 | agg (cs:List D)
 | sl (t:Tag) (l:List D)
 | mp (t:Tag) (k:MK) (es:List (Int×D))
 | nilm
 | nilp
 | at_ (d:D)
 | fn (f:FuncId) (first caps:List D)
 | nilfn
 | tup (l:List D)
 | h (c i off:Nat)
 deriving Inhabited
def zdZ (w:World) (b o:Nat) (v:Value):Prop:=∀ j u,v.cells[j]? =some u→w.cell? ⟨b,o+j,none⟩=some u
inductive Rep (w:World) (A:Nat→Prop) (N:Nat) (γ:Nat→Nat→Option Nat):D→Value→Prop where
 | undef (v):Rep w A N γ .undef v
 | bool (b):Rep w A N γ (.bool b) (.bool b)
 | int (k n):Rep w A N γ (.int k n) (.int k n)
 | str (s):Rep w A N γ (.str s) (.string s)
 | nilp:Rep w A N γ .nilp (.pointer none)
 | nilfn:Rep w A N γ .nilfn .nilFunc
 | agg (cs:List D) (vs:Array Value):vs.size=cs.length→(∀ (i:Nat) (d:D) (v:Value),cs[i]? =some d→vs[i]? =some v→Rep w A N γ d v)→
   (∀ (i:Nat) (v:Value),vs[i]? =some v→v.oneCell'=true)→Rep w A N γ (.agg cs) (.agg vs)
 | tup (cs:List D) (vs:Array Value):vs.size=cs.length→(∀ (i:Nat) (d:D) (v:Value),cs[i]? =some d→vs[i]? =some v→Rep w A N γ d v)→Rep w A N γ (.tup cs) (.tuple vs)
 | fn (f) (a b:List D) (va vb:Array Value):va.size=a.length→vb.size=b.length→(∀ (i:Nat) (d:D) (v:Value),a[i]? =some d→va[i]? =some v→Rep w A N γ d v)→
   (∀ (i:Nat) (d:D) (v:Value),b[i]? =some d→vb[i]? =some v→Rep w A N γ d v)→Rep w A N γ (.fn f a b) (.func (.func f) va vb)
 | slE (t a cap):(t=.full→cap=0)→(t=.nil→a=none∧cap=0)→((t=.nn→a≠none)∧(t=.nul→a=none))→Rep w A N γ (.sl t []) (.slice a 0 cap)
 | sl (t) (l:List D) (b o sz cap:Nat) (vs:Nat→Value):l≠[]→t≠.nil→l.length≤cap→(t=.full→cap=l.length)→¬ A b→(t≠.lent→N≤b)→b < w.heap.size→
   (∀ (i:Nat) (d:D),l[i]? =some d→Rep w A N γ d (vs i))→(∀ i,i < l.length→(vs i).cells.size=sz∧zdZ w b (o+i*sz) (vs i))→
   Rep w A N γ (.sl t l) (.slice (some ⟨b,o,none⟩) l.length cap)
 | at_ (d v b o):¬ A b→b < w.heap.size→zdZ w b o v→Rep w A N γ d v→Rep w A N γ (.at_ d) (.pointer (some ⟨b,o,none⟩))
 | h (k i off b):γ k i=some b→Rep w A N γ (.h k i off) (.pointer (some ⟨b,off,none⟩))
 | nilm:Rep w A N γ .nilm (.map none)
 | mp (t) (k:MK) (es:List (Int×D)) (b:Nat) (m:Array MapEntry) (ck:Nat):¬ A b→(t=.own→N≤b)→b < w.heap.size→w.heap[b]? =some (.map m ck)→m.size=es.length→
   (∀ (i:Nat) (e:MapEntry) (p:Int×D),m[i]? =some e→es[i]? =some p→zmR k p.1 e.key)→
   (∀ (i:Nat) (e:MapEntry) (p:Int×D),m[i]? =some e→es[i]? =some p→Rep w A N γ p.2 e.val)→Rep w A N γ (.mp t k es) (.map (some b))
theorem zdZ.mono {w w':World} {b o:Nat} {v:Value} (h:zdZ w b o v) (hb:w'.heap[b]? =w.heap[b]?):zdZ w' b o v:=by
 intro j u hj;rw [World.cell?_of_block (w:=w) hb]; exact h j u hj
theorem Rep.mono {w w':World} {A A':Nat→Prop} {N N':Nat} {γ γ':Nat→Nat→Option Nat} {d:D} {v:Value} (h:Rep w A N γ d v)
  (hw:∀ b,¬ A b→b < w.heap.size→w'.heap[b]? =w.heap[b]?) (hA:∀ b,b < w.heap.size→A' b→A b) (hN:N'≤N)
  (hs:w.heap.size≤w'.heap.size) (hγ:∀ k i a,γ k i=some a→γ' k i=some a):Rep w' A' N' γ' d v:=by
 induction h with
 | undef v=>exact .undef v
 | bool b=>exact .bool b
 | int k n=>exact .int k n
 | str s=>exact .str s
 | nilp=>exact .nilp
 | nilfn=>exact .nilfn
 | agg cs vs h1 _ h3 ih=>exact .agg cs vs h1 ih h3
 | tup cs vs h1 _ ih=>exact .tup cs vs h1 ih
 | fn f a b va vb h1 h2 _ _ ih1 ih2=>exact .fn f a b va vb h1 h2 ih1 ih2
 | slE t a cap h h' h''=>exact .slE t a cap h h' h''
 | sl t l b o sz cap vs h1 h1' h2 h3 h4 h5 h6 _ h8 ih=>
  exact .sl t l b o sz cap vs h1 h1' h2 h3 (fun hb=>h4 (hA b h6 hb)) (fun ht=>Nat.le_trans hN (h5 ht)) (by omega) ih
   (fun i hi=>⟨(h8 i hi).1,(h8 i hi).2.mono (hw b h4 h6)⟩)
 | at_ d v b o h1 h2 h3 _ ih=>exact .at_ d v b o (fun hb=>h1 (hA b h2 hb)) (by omega) (h3.mono (hw b h1 h2)) ih
 | h k i off b hn=>exact .h k i off b (hγ _ _ _ hn)
 | nilm=>exact .nilm
 | mp t k es b m ck h1 h2 h3 h4 h5 h6 _ ih=>
  exact .mp t k es b m ck (fun hb=>h1 (hA b h3 hb)) (fun ht=>Nat.le_trans hN (h2 ht)) (by omega) (by rw [hw b h1 h3]; exact h4) h5 h6 ih
def Reps (w:World) (A:Nat→Prop) (N:Nat) (γ:Nat→Nat→Option Nat) (ds:List D) (vs:List Value):Prop:=
 vs.length=ds.length∧∀ (i:Nat) (d:D) (v:Value),ds[i]? =some d→vs[i]? =some v→Rep w A N γ d v
theorem Reps.nil {w A N γ}:Reps w A N γ [] []:=⟨rfl,by simp⟩
theorem Reps.cons {w A N γ d v ds vs} (h:Rep w A N γ d v) (hs:Reps w A N γ ds vs):Reps w A N γ (d::ds) (v::vs):=
 ⟨by simp [hs.1],fun i d' v' hd hv=>by
  cases i with
  | zero=>simp at hd hv; subst hd; subst hv; exact h
  | succ i=>exact hs.2 i d' v' (by simpa using hd) (by simpa using hv)⟩
theorem Reps.cons_inv {w A N γ d ds vs} (h:Reps w A N γ (d::ds) vs):∃ v vs',vs=v::vs'∧Rep w A N γ d v∧Reps w A N γ ds vs':=by
 obtain ⟨h1,h2⟩:=h
 cases vs with
 | nil=>simp at h1
 | cons v vs=>exact ⟨v,vs,rfl,h2 0 d v (by simp) (by simp),by simpa using h1,fun i d' v' hd hv=>h2 (i+1) d' v' (by simpa using hd) (by simpa using hv)⟩
theorem Reps.nil_inv {w A N γ vs} (h:Reps w A N γ [] vs):vs=[]:=by
 have:=h.1; simpa using this
theorem Reps.mono {w w':World} {A A':Nat→Prop} {N N':Nat} {γ γ':Nat→Nat→Option Nat} {ds:List D} {vs:List Value} (h:Reps w A N γ ds vs)
  (hw:∀ b,¬ A b→b < w.heap.size→w'.heap[b]? =w.heap[b]?) (hA:∀ b,b < w.heap.size→A' b→A b) (hN:N'≤N)
  (hs:w.heap.size≤w'.heap.size) (hγ:∀ k i a,γ k i=some a→γ' k i=some a):Reps w' A' N' γ' ds vs:=
 ⟨h.1,fun i d v hd hv=>(h.2 i d v hd hv).mono hw hA hN hs hγ⟩
theorem Reps.append {w A N γ ds vs ds' vs'} (h:Reps w A N γ ds vs) (h':Reps w A N γ ds' vs'):Reps w A N γ (ds++ds') (vs++vs'):=by
 refine ⟨by simp [h.1,h'.1],fun i d v hd hv=>?_⟩
 by_cases hi:i < ds.length
 ·rw [List.getElem?_append_left hi] at hd
  rw [List.getElem?_append_left (by rw [h.1]; exact hi)] at hv
  exact h.2 i d v hd hv
 ·rw [List.getElem?_append_right (by omega)] at hd
  rw [List.getElem?_append_right (by rw [h.1]; omega),h.1] at hv
  exact h'.2 _ d v hd hv
def D.isAgg:D→Bool
 | .agg _=>true
 | _=>false
def D.width:D→Nat
 | .agg cs=>cs.length
 | _=>1
def D.cell:D→Bool
 | .agg _ | .tup _ | .undef=>false
 | _=>true
theorem Rep.cell {w A N γ d v} (h:Rep w A N γ d v) (hd:d.cell=true):v.oneCell'=true:=by
 cases h<;>simp_all [D.cell,Value.oneCell']
theorem zbm {v:Value} (h:v.oneCell'=true):v.cells=#[v]:=by
 cases v<;>simp_all [Value.oneCell',Value.cells]
end Wf

namespace Wf
open Go Go.RowKit
inductive V where
 | d (x:D)
 | ptr (g n off:Nat)
 | ept (g n i off:Nat)
 | ref (g n off len:Nat)
 | bref (g n off len:Nat)
 | map (g n:Nat)
 | vref (k n i o lo len:Nat)
 | vept (k n i o j off:Nat)
 | vmap (k n i o:Nat)
 | p (k:Nat) (x:D)
 | agg (ds:List D) (ks:List Nat) (vs:List V)
 | clo (f:FuncId) (first caps:List V)
 | tup (l:List V)
 deriving Inhabited
def zcS (k _o:Nat):Nat:=if k % 64=0 then 1 else k % 64
def tb (k:Nat):Nat:=100000+k
mutual
def V.ids:V→List Nat
 | .d _ | .p _ _=>[]
 | .ptr g _ _ | .ept g _ _ _ | .ref g _ _ _ | .bref g _ _ _ | .map g _=>[g]
 | .vref k _ _ _ _ _ | .vept k _ _ _ _ _ | .vmap k _ _ _=>[tb k]
 | .agg _ _ l=>V.idsL l
 | .clo _ a b=>V.idsL a++V.idsL b
 | .tup l=>V.idsL l
def V.idsL:List V→List Nat
 | []=>[]
 | v::r=>v.ids++V.idsL r
end
inductive HObj where
 | dead
 | box (agg:Bool) (ds:List D)
 | vbox (agg:Bool) (ds:List D) (ks:List Nat) (vs:List V)
 | fbox (agg:Bool) (ds:List D)
 | arr (sz:Nat) (els:List D) (live:Bool)
 | map (k:MK) (es:List (Int×D))
 | trow (sz:Nat) (els:List D)
 | tbl (wr:Bool) (T:List (List D))
 deriving Inhabited
abbrev Loc:=Nat→Nat×HObj
def Loc.get (L:Loc) (g n:Nat):HObj:=if (L g).1=n then (L g).2 else .dead
def Loc.set (L:Loc) (g:Nat) (x:Nat×HObj):Loc:=fun k=>if k=g then x else L k
def Loc.new (L:Loc) (g:Nat):Nat:=(L g).1+1
abbrev Wr:=List (Nat×(Nat×HObj))
abbrev Tb:=List (List D)
inductive PM where
 | lent | own | mut
 deriving DecidableEq,Inhabited
structure Ans where
 r:D
 outs:List (List D):=[]
 tbs:List Tb:=[]
inductive Spec where
 | pure (szs:List Nat) (F:List D→Option D)
 | st (pms:List (PM×Nat)) (szs:List Nat) (ks:List (Nat×Bool)) (F:List D→List Tb→Option Ans)
abbrev Env:=FuncId→Option Spec
def D.flat:D→Bool
 | .bool _ | .int _ _ | .str _ | .nilp | .nilm | .nilfn | .h _ _ _=>true
 | _=>false
def D.flatEl:D→Bool
 | .agg cs=>cs.all D.flat
 | d=>d.flat
def D.hide:D→D
 | .sl _ _ | .mp _ _ _=>.undef
 | d=>d
def zkE (P:Program) (t:TypeId):Option Bool:=
 match P.underlying t with
 | some (.struct _) | some (.array _ _)=>some true
 | some _=>some false
 | none=>none
def zb9 (P:Program) (t:TypeId):Option Nat:=(P.info? t).map (·.size)
def zs8 (P:Program) (s f:Nat):Option (Nat×Nat):=
 match P.underlying s with
 | some (.struct fs)=>(fs[f]?).bind fun x=>(P.info? x.type).map fun i=>(x.offset,i.size)
 | _=>none
def zjp (P:Program) (s f:Nat):Option Bool:=
 match P.underlying s with
 | some (.struct fs)=>(fs[f]?).bind fun x=>zkE P x.type
 | _=>none
def zcw (P:Program) (t:TypeId):Option Nat:=
 match P.underlying t with
 | some (.slice e)=>(P.info? e).map (·.size)
 | _=>none
def zhV (P:Program) (t:TypeId):Option (Nat×Nat×Bool):=
 match P.underlying t with
 | some (.array n e)=>(P.info? e).bind fun i=>(zkE P e).map fun a=>(n,i.size,a)
 | _=>none
def zmS (P:Program) (t:TypeId):Bool:=
 match P.underlying t with
 | some .string=>true
 | _=>false
def zrf (P:Program) (t:TypeId):Bool:=
 match P.underlying t with
 | some .bool=>true
 | _=>false
def zs9 (P:Program) (t:TypeId):Option IntKind:=
 match P.underlying t with
 | some (.int k)=>some k
 | _=>none
def zhW:Value→Option D
 | .int k n=>some (.int k n)
 | .bool b=>some (.bool b)
 | .string s=>some (.str s)
 | .pointer none=>some .nilp
 | .slice none 0 0=>some (.sl .nil [])
 | .map none=>some .nilm
 | .nilFunc=>some .nilfn
 | _=>none
def valD:Value→Option D
 | .agg cs=>(cs.toList.mapM zhW).map .agg
 | v=>zhW v
def zgN (P:Program) (t:TypeId):Option D:=((P.info? t).bind (·.zero)).bind valD
def zfb (slots:List V):Operand→V
 | .tmp t=>slots.getD t (.d .undef)
 | .const v=>match zhW v with
  | some d=>.d d
  | none=>.d .undef
 | .global _=>.d .undef
 | .func f=>.clo f [] []
def V.dat:V→Option D
 | .d x=>some x
 | _=>none
def V.unp:V→V
 | .p _ x=>.d x
 | v=>v
def V.one:V→Bool
 | .ptr .. | .ref .. | .bref .. | .map .. | .vref .. | .vmap .. | .clo .. =>true
 | _=>false
def ovs:List Nat→List V→List V→List V
 | k::ks,v::vs,cs=>(ovs ks vs cs).set k v
 | _,_,cs=>cs
def zdr:List Nat→List V→Nat→Option V
 | k::ks,v::vs,off=>if k=off then some v else zdr ks vs off
 | _,_,_=>none
def ovIn (lo n:Nat):List Nat→List V→List Nat×List V
 | k::ks,v::vs=>if lo≤k∧k < lo+n then ((k - lo)::(ovIn lo n ks vs).1,v::(ovIn lo n ks vs).2) else ovIn lo n ks vs
 | _,_=>([],[])
def zdW (lo n:Nat):List Nat→List V→List Nat×List V
 | k::ks,v::vs=>if lo≤k∧k < lo+n then zdW lo n ks vs else (k::(zdW lo n ks vs).1,v::(zdW lo n ks vs).2)
 | _,_=>([],[])
def setL:List D→List Nat→List D→List D
 | ds,k::ks,x::xs=>(setL ds ks xs).set k x
 | ds,_,_=>ds
def okOv (n:Nat) (ks:List Nat) (vs:List V):Bool:=decide ks.Nodup && decide (ks.length=vs.length) && ks.all fun k=>decide (k < n)
def zrg (a:Bool) (ds:List D) (o:List Nat×List V):HObj:=match o.2 with
 | []=>.box a ds
 | _=>.vbox a ds o.1 o.2
def V.mk (ds:List D) (o:List Nat×List V):V:=match o.2 with
 | []=>.d (.agg ds)
 | _=>.agg ds o.1 o.2
def ztN (P:Program):Nat→TypeId→Bool
 | 0,_=>false
 | d+1,t=>match P.underlying t with
  | some (.slice _) | some (.map _ _)=>false
  | some (.struct fs)=>fs.toList.all fun f=>ztN P d f.type
  | some (.array _ e)=>ztN P d e
  | some _=>true
  | none=>false
def za6 (L:Loc) (k:Nat):Option (Bool×Tb):=match (L (tb k)).2 with
 | .tbl w T=>some (w,T)
 | _=>none
def zl8 (L:Loc) (k n:Nat):Option Tb:=match L.get (tb k) n with
 | .tbl _ T=>some T
 | _=>none
def zdc (T:Tb) (i o:Nat):Option D:=(T[i]?).bind fun cs=>cs[o]?
def setT (T:Tb) (i o:Nat) (x:D):Tb:=match T[i]? with
 | some cs=>T.set i (cs.set o x)
 | none=>T
def zeE (L:Loc) (k n i o:Nat):Option (List D):=match (zl8 L k n).bind fun T=>zdc T i o with
 | some (.sl .own l)=>some l
 | _=>none
def ziE (L:Loc) (k n i o:Nat):Option (MK×List (Int×D)):=match (zl8 L k n).bind fun T=>zdc T i o with
 | some (.mp .own kk es)=>some (kk,es)
 | _=>none
def zdH (L:Loc):V→Option (List D)
 | .d (.sl _ l)=>some l
 | .ref g n off len=>match L.get g n with
  | .arr _ els _=>if off+len≤els.length then some ((els.drop off).take len) else none
  | _=>none
 | .bref g n off len=>match L.get g n with
  | .box _ ds=>if off+len≤ds.length then some ((ds.drop off).take len) else none
  | _=>none
 | .vref k n i o lo len=>(zeE L k n i o).bind fun l=>if lo+len≤l.length then some ((l.drop lo).take len) else none
 | _=>none
def esOf (L:Loc):V→Option (MK×List (Int×D))
 | .d (.mp _ k es)=>some (k,es)
 | .map g n=>match L.get g n with
  | .map k es=>some (k,es)
  | _=>none
 | .vmap k n i o=>ziE L k n i o
 | _=>none
def zjq (nw:List Nat) (L:Loc):V→Option D
 | .d x=>some x
 | .p _ x=>some x
 | .ref g n off len=>(zdH L (.ref g n off len)).map (.sl .lent)
 | .bref g n off len=>(zdH L (.bref g n off len)).map (.sl .lent)
 | .vref k n i o lo len=>if k∈nw then none else (zdH L (.vref k n i o lo len)).map (.sl .lent)
 | .map g n=>(esOf L (.map g n)).map fun x=>.mp .lent x.1 x.2
 | .vmap k n i o=>if k∈nw then none else (esOf L (.vmap k n i o)).map fun x=>.mp .lent x.1 x.2
 | _=>none
def znM (nw:List Nat) (L:Loc):List V→Option (List D)
 | []=>some []
 | v::r=>(zjq nw L v).bind fun x=>(znM nw L r).map fun xs=>x::xs
def zqC (nw:List Nat) (L:Loc):V→Option D
 | .ptr g n off=>match off,L.get g n with
  | 0,.box true ds | 0,.fbox true ds=>some (.at_ (.agg ds))
  | 0,.box false [x] | 0,.fbox false [x]=>some (.at_ x)
  | 0,.vbox false [_] [0] [v]=>(zjq nw L v).map .at_
  | _,_=>none
 | v=>zjq nw L v
def lend (nw:List Nat) (L:Loc):V→Option D
 | .clo f a b=>(a.mapM (zqC nw L)).bind fun a'=>(b.mapM (zqC nw L)).map fun b'=>.fn f a' b'
 | .agg ds ks vs=>if okOv ds.length ks vs=true then (znM nw L vs).map fun xs=>.agg (setL ds ks xs) else none
 | v=>zqC nw L v
def ziF (z:Nat) (L:Loc):V→Option (D×Wr)
 | .d (.sl .nil [])=>some (.sl .own [],[])
 | .d (.sl .full [])=>some (.sl .own [],[])
 | .d x=>if x.flat then some (x,[]) else none
 | .p _ x=>if x.flat then some (x,[]) else none
 | .ref g n off len=>match off,L.get g n with
  | 0,.arr sz els true=>if len=els.length∧els.all D.flatEl∧els.all (fun d=>d.width == sz)∧sz=z then some (.sl .own els,[(g,(n,.dead))]) else none
  | 0,.trow sz els=>if len=els.length∧els.all D.flatEl∧els.all (fun d=>d.width == sz)∧sz=z then some (.sl .own els,[(g,(n,.dead))]) else none
  | _,_=>none
 | .map g n=>match L.get g n with
  | .map kk es=>if es.all fun p=>p.2.flatEl then some (.mp .own kk es,[(g,(n,.dead))]) else none
  | _=>none
 | _=>none
def D.own0:D→D
 | .sl .nil [] | .sl .full []=>.sl .own []
 | d=>d
def D.own0ok:D→Bool
 | .sl .nil [] | .sl .full []=>true
 | d=>d.flat
def zBW (ks:List Nat) (ds:List D):Bool:=(setL ds ks (ks.map fun _=>D.nilp)).all D.own0ok
theorem ztO:∀ {ks:List Nat} {xs ds:List D} {i:Nat},i ∉ ks→(setL ds ks xs)[i]? =ds[i]?
 | k::ks,x::xs,ds,i,h=>by
  show ((setL ds ks xs).set k x)[i]? =_
  rw [List.getElem?_set,if_neg (by intro e; exact h (by rw [e]; exact List.mem_cons_self ..)),ztO (fun hi=>h (List.mem_cons_of_mem _ hi))]
 | [],_,_,_,_=>by unfold setL; rfl
 | _::_,[],_,_,_=>by unfold setL; rfl
theorem zAV {ks:List Nat} {ds:List D} (h:zBW ks ds=true) {i:Nat} {d:D} (hi:i ∉ ks) (hd:ds[i]? =some d):d.own0ok=true:=by
 unfold zBW at h;rw [List.all_eq_true] at h;exact h d (List.mem_of_getElem? ((ztO hi).trans hd))
def zhd (L:Loc):List Nat→List V→Option (List D×Wr)
 | z::zs,v::r=>(ziF z L v).bind fun (x,w)=>(zhd L zs r).map fun (xs,ws)=>(x::xs,w++ws)
 | [],[]=>some ([],[])
 | _,_=>none
def za7 (T:Tb) (i off:Nat) (xs:List D):Tb:=match T[i]? with
 | some cs=>T.set i (cs.take off++xs++cs.drop (off+xs.length))
 | none=>T
structure Out where
 v:V
 wr:Wr:=[]
def toD1 (L:Loc):V→Option (D×Wr)
 | .d x=>some (x,[])
 | .p _ x=>some (x,[])
 | .ref g n off len=>match L.get g n with
  | .arr sz els _=>if off+len≤els.length∧g < 90000 then some (.sl .fresh ((els.drop off).take len),[(g,(n,.arr sz els false))]) else none
  | _=>none
 | _=>none
def zrh (L:Loc):List V→Option (List D×Wr)
 | []=>some ([],[])
 | v::r=>(toD1 L v).bind fun (x,w)=>(zrh L r).map fun (xs,ws)=>(x::xs,w++ws)
def toD2 (L:Loc):V→Option (D×Wr)
 | .ptr g n off=>match off,L.get g n with
  | 0,.box true ds=>some (.at_ (.agg ds),[(g,(n,.fbox true ds))])
  | 0,.box false [x]=>some (.at_ x,[(g,(n,.fbox false [x]))])
  | 0,.fbox true ds=>some (.at_ (.agg ds),[])
  | 0,.fbox false [x]=>some (.at_ x,[])
  | 0,.vbox false [_] [0] [v]=>(toD1 L v).map fun (x,w)=>(.at_ x,w++[(g,(n,.fbox false [x]))])
  | _,_=>none
 | v=>toD1 L v
def zu2 (L:Loc):List V→Option (List D×Wr)
 | []=>some ([],[])
 | v::r=>(toD2 L v).bind fun (x,w)=>(zu2 L r).map fun (xs,ws)=>(x::xs,w++ws)
def toD (L:Loc):V→Option (D×Wr)
 | .agg ds ks vs=>if okOv ds.length ks vs=true then (zrh L vs).map fun (xs,w)=>(.agg (setL ds ks xs),w) else none
 | .clo f a b=>(zu2 L a).bind fun (xs,w)=>(zu2 L b).map fun (ys,w')=>(.fn f xs ys,w++w')
 | v=>toD1 L v
def toDs (L:Loc):List V→Option (List D×Wr)
 | []=>some ([],[])
 | v::r=>(toD L v).bind fun (x,w)=>(toDs L r).map fun (xs,ws)=>(x::xs,w++ws)
def ibin (op:BinOp) (k:IntKind) (a b:Int):Option D:=
 match op with
 | .add=>some (.int k (k.wrap (a+b)))
 | .sub=>some (.int k (k.wrap (a - b)))
 | .mul=>some (.int k (k.wrap (a*b)))
 | .quo=>if b=0 then none else some (.int k (k.wrap (a.tdiv b)))
 | .rem=>if b=0 then none else some (.int k (a.tmod b))
 | .and=>some (.int k (bits .and k a b))
 | .or=>some (.int k (bits .or k a b))
 | .xor=>some (.int k (bits .xor k a b))
 | .andNot=>some (.int k (bits .andNot k a b))
 | .eql=>some (.bool (a == b))
 | .neq=>some (.bool (a != b))
 | .lss=>some (.bool (decide (a < b)))
 | .leq=>some (.bool (decide (a≤b)))
 | .gtr=>some (.bool (decide (a > b)))
 | .geq=>some (.bool (decide (a≥b)))
 | _=>none
def zwO (op:BinOp) (k:IntKind) (a b:Int):Option D:=
 if b < 0 then none else
 match op with
 | .shl=>some (.int k (k.wrap (a*2 ^ min b.toNat k.bits)))
 | .shr=>some (.int k (a.fdiv (2 ^ min b.toNat k.bits)))
 | _=>none
def abin (bt:Bool) (op:BinOp) (a b:D):Option D:=
 match op,a,b with
 | .shl,.int k x,.int _ y | .shr,.int k x,.int _ y=>zwO op k x y
 | _,.int k x,.int k' y=>if k=k' then ibin op k x y else none
 | .eql,.bool x,.bool y=>if bt then some (.bool (x == y)) else none
 | .neq,.bool x,.bool y=>if bt then some (.bool (x != y)) else none
 | .eql,.str x,.str y=>some (.bool (x.toList == y.toList))
 | .neq,.str x,.str y=>some (.bool !(x.toList == y.toList))
 | _,_,_=>none
def aun (op:UnOp) (a:D):Option D:=
 match op,a with
 | .neg,.int k n=>some (.int k (k.wrap (0 - n)))
 | .not,.bool b=>some (.bool !b)
 | .xor,.int k n=>some (.int k (bits .xor k (if k.signed then -1 else k.max) n))
 | _,_=>none
def lay (places:Nat→Option (Nat×Nat)):List D→List (Nat×D)→Option (List D)
 | cs,[]=>some cs
 | cs,(i,d)::r=>match places i with
  | none=>none
  | some (off,size)=>
   match d with
   | .agg xs=>if xs.length=size∧off+size≤cs.length then lay places (cs.take off++xs++cs.drop (off+size)) r else none
   | .undef | .tup _=>none
   | x=>if size=1∧off+1≤cs.length then lay places (cs.set off x) r else none
def zhe (agg:Bool) (size off:Nat) (cs:List D):Option D:=
 if agg then (if off+size≤cs.length then some (.agg ((cs.drop off).take size)) else none) else cs[off]?
def zAW (P:Program) (eq:TypeId→D→D→Option Bool) (xs ys:List D):List Field→Option Bool
  | []=>some true
  | f :: fs => if f.name = "_" then none else match zkE P f.type, zb9 P f.type with
    | some ag,some n=>match zhe ag n f.offset xs,zhe ag n f.offset ys with
      | some x,some y=>(eq f.type x y).bind fun r=>(zAW P eq xs ys fs).map fun s=>r && s
      | _,_=>none
    | _,_=>none
def aeq (P:Program):Nat→TypeId→D→D→Option Bool
 | 0,_,_,_=>none
 | d+1,t,x,y=>match P.underlying t with
  | some (.int _)=>match x,y with
   | .int k a,.int k' b=>if k=k' then some (a == b) else none
   | _,_=>none
  | some .bool=>match x,y with
   | .bool a,.bool b=>some (a == b)
   | _,_=>none
  | some (.struct fs)=>match x,y with
   | .agg xs,.agg ys=>if P.stoodInHeld t then none else zAW P (aeq P d) xs ys fs.toList
   | _,_=>none
  | _=>none
def zgr (L:Loc) (id sz:Nat):D→V×Wr
 | .sl .own els=>(.ref id (L.new id) 0 els.length,[(id,(L.new id,.arr sz els true))])
 | x=>(.d x,[])
def zh1 (L:Loc) (t j:Nat):List Nat→List D→List V×Wr
 | sz::szs,d::ds=>
  let r:=zgr L (t+1000*(j+1)) sz d;let rs:=zh1 L t (j+1) szs ds
  (r.1::rs.1,r.2++rs.2)
 | _,_=>([],[])
def zri (L:Loc) (t:Nat) (szs:List Nat) (r:D):Option (V×Wr):=
 match r with
 | .tup ds=>if szs.length=ds.length∧ds.length≤4 then some (.tup (zh1 L t 0 szs ds).1,(zh1 L t 0 szs ds).2) else none
 | d=>match szs with
  | [sz]=>some (zgr L t sz d)
  | _=>none
end Wf

namespace Wf
open Go Go.RowKit
def zBX (L:Loc) (k i off n:Nat) (ag fl:Bool):Option V:=
 match za6 L k with
 | some (_,T)=>match T[i]? with
  | some cs=>if ag then (if off+n≤cs.length then (if fl then (if ((cs.drop off).take n).all D.flat then some (.d (.agg ((cs.drop off).take n))) else none) else some (.d (.agg (((cs.drop off).take n).map D.hide)))) else none)
   else match cs[off]? with
    | some (.sl .own l)=>some (.vref k (L (tb k)).1 i off 0 l.length)
    | some (.mp .own _ _)=>some (.vmap k (L (tb k)).1 i off)
    | some x=>if x.flat then some (.d x) else none
    | none=>none
  | none=>none
 | none=>none
def znN (ag:Bool) (n off:Nat) (ds:List D) (ks:List Nat) (vs:List V):Option V:=
 if ag then (if off+n≤ds.length then some (V.mk ((ds.drop off).take n) (ovIn off n ks vs)) else none)
 else if off < ds.length then (match zdr ks vs off with
  | some v=>some v
  | none=>(ds[off]?).map .d) else none
def eltD (ag:Bool) (n off:Nat):D→Option D
 | .agg cs=>zhe ag n off cs
 | .undef | .tup _=>none
 | x=>if ag=false∧off=0 then some x else none
def zAX (P:Program) (L:Loc) (t:TypeId) (p:V):Option V:=
 match zkE P t,zb9 P t with
 | some ag,some n=>
  match p with
  | .d (.at_ x)=>if x.isAgg=ag∧x.width=n∧x.cell= !ag then some (.d x) else none
  | .d (.h k i off)=>zBX L k i off n ag (ztN P 8 t)
  | .ptr g l off=>match L.get g l with
   | .box _ ds=>(zhe ag n off ds).map .d
   | .fbox _ ds=>(zhe ag n off ds).map .d
   | .vbox _ ds ks vs=>znN ag n off ds ks vs
   | _=>none
  | .ept g l i off=>match L.get g l with
   | .arr _ els _=>(els[i]?).bind fun x=>(eltD ag n off x).map .d
   | _=>none
  | .vept k l i o j off=>(zeE L k l i o).bind fun els=>(els[j]?).bind fun x=>(eltD ag n off x).map .d
  | _=>none
 | _,_=>none
def zgs (ag:Bool) (n sz off:Nat) (e:D) (v:D):Option D:=
 match v with
 | .agg xs=>if ag=true∧xs.length=n∧off=0∧n=sz then some (.agg xs) else none
 | x=>if ag=false∧n=1∧x.cell=true then (match e with
  | .agg cs=>if off < cs.length then some (.agg (cs.set off x)) else none
  | _=>if off=0∧sz=1 then some x else none) else none
def ziG (L:Loc) (k i off n:Nat) (ag fl:Bool) (v:V):Option Out:=
 match za6 L k with
 | some (true,T)=>match T[i]? with
  | some cs=>
   if off+n≤cs.length then
    if fl then (match v with
     | .d (.agg xs)=>if ag=true∧xs.length=n∧xs.all D.flat∧((cs.drop off).take n).all D.flat then
       some { v:=.d (.tup []),wr:=[(tb k,((L (tb k)).1,.tbl true (za7 T i off xs)))] } else none
     | .d x=>if ag=false∧n=1∧x.flat∧((cs.drop off).take n).all D.flat then
       some { v:=.d (.tup []),wr:=[(tb k,((L (tb k)).1,.tbl true (za7 T i off [x])))] } else none
     | _=>none)
    else if ag then (match v with
     | .d (.agg ds)=>if ds.length=n∧ds.all D.own0ok then
      some { v:=.d (.tup []),wr:=[(tb k,(L.new (tb k),.tbl true (za7 T i off (ds.map D.own0))))] } else none
     | .agg ds ks vs=>(zhd L (ks.map fun q=>zcS k (off+q)) vs).bind fun (xs,w)=>if ds.length=n∧zBW ks ds=true∧(w.map (·.1)).Nodup∧okOv ds.length ks vs then
      some { v:=.d (.tup []),wr:=w++[(tb k,(L.new (tb k),.tbl true (za7 T i off (setL (ds.map D.own0) ks xs))))] } else none
     | _=>none)
    else (ziF (zcS k off) L v).bind fun (x,w)=>if n=1 then
      some { v:=.d (.tup []),wr:=w++[(tb k,(L.new (tb k),.tbl true (za7 T i off [x])))] } else none
   else none
  | none=>none
 | _=>none
def zwP (P:Program) (L:Loc) (t:TypeId) (p v:V):Option Out:=
 match zkE P t,zb9 P t with
 | some ag,some n=>
  match p with
  | .ptr g l off=>match L.get g l with
   | .box a ds=>match v with
    | .d (.agg xs)=>if ag=true∧xs.length=n∧off+n≤ds.length then some { v:=.d (.tup []),wr:=[(g,(l,.box a (ds.take off++xs++ds.drop (off+n))))] } else none
    | .agg xs ks vs=>if ag=true∧xs.length=n∧off+n≤ds.length∧okOv n ks vs=true then some { v:=.d (.tup []),wr:=[(g,(l,zrg a (ds.take off++xs++ds.drop (off+n)) (ks.map (· +off),vs)))] } else none
    | .d x=>if ag=false∧n=1∧x.cell=true∧off < ds.length then some { v:=.d (.tup []),wr:=[(g,(l,.box a (ds.set off x)))] } else none
    | v=>if v.one=true∧ag=false∧n=1∧off < ds.length then some { v:=.d (.tup []),wr:=[(g,(l,.vbox a ds [off] [v]))] } else none
   | .vbox a ds ks vs=>match v with
    | .d (.agg xs)=>if ag=true∧xs.length=n∧off+n≤ds.length then some { v:=.d (.tup []),wr:=[(g,(l,zrg a (ds.take off++xs++ds.drop (off+n)) (zdW off n ks vs)))] } else none
    | .agg xs ks' vs'=>if ag=true∧xs.length=n∧off+n≤ds.length∧okOv n ks' vs'=true then some { v:=.d (.tup []),wr:=[(g,(l,zrg a (ds.take off++xs++ds.drop (off+n)) (ks'.map (· +off)++(zdW off n ks vs).1,vs'++(zdW off n ks vs).2)))] } else none
    | .d x=>if ag=false∧n=1∧x.cell=true∧off < ds.length then some { v:=.d (.tup []),wr:=[(g,(l,zrg a (ds.set off x) (zdW off 1 ks vs)))] } else none
    | v=>if v.one=true∧ag=false∧n=1∧off < ds.length then some { v:=.d (.tup []),wr:=[(g,(l,.vbox a ds (off::(zdW off 1 ks vs).1) (v::(zdW off 1 ks vs).2)))] } else none
   | _=>none
  | .ept g l i off=>match L.get g l with
   | .arr sz els true=>(els[i]?).bind fun e=>match v with
    | .d x=>(zgs ag n sz off e x).map fun y=>{ v:=.d (.tup []),wr:=[(g,(l,.arr sz (els.set i y) true))] }
    | v=>(toD L v).bind fun r=>if g∈r.2.map (·.1) then none else (zgs ag n sz off e r.1).map fun y=>{ v:=.d (.tup []),wr:=r.2++[(g,(l,.arr sz (els.set i y) true))] }
   | _=>none
  | .vept k l i o j off=>match v,za6 L k,zeE L k l i o with
   | .d x,some (true,T),some els=>(els[j]?).bind fun e=>(zgs ag n (zcS k o) off e x).bind fun y=>if y.flatEl=true then
     some { v:=.d (.tup []),wr:=[(tb k,(l,.tbl true (setT T i o (.sl .own (els.set j y)))))] } else none
   | _,_,_=>none
  | .d (.h k i off)=>ziG L k i off n ag (ztN P 8 t) v
  | _=>none
 | _,_=>none
def zcK (P:Program) (ty:TypeId) (n:Nat):Option Nat:=
 match P.underlying ty with
 | some (.slice e)=>match P.info? e,zgN P e with
  | some i,some z=>if 0 < i.size∧z.width=i.size∧(z.cell || z.isAgg)=true∧i.bytes≤4096∧n≤2 ^ 32 then some i.size else none
  | _,_=>none
 | _=>none
def zec (sz:Nat) (l:List D):Bool:=l.all fun d=>d.width == sz && (d.cell || d.isAgg)
def zwQ (P:Program) (kt:TypeId):Option MK:=
 match P.underlying kt with
 | some (.int k)=>some (.int k)
 | some (.array n e)=>if n=2∧zs9 P e=some .i64∧zb9 P e=some 1 then some .pair else none
 | _=>none
def zwR:MK→V→Option Int
 | .int k,.d (.int k' n)=>if k=k' then some n else none
 | .pair,.d (.agg [.int .i64 a,.int .i64 b])=>some (zfx a b)
 | _,_=>none
def zl9 (P:Program) (t:TypeId):Option (MK×TypeId):=
 match P.underlying t with
 | some (.map kt et)=>(zwQ P kt).map fun k=>(k,et)
 | _=>none
def alen (P:Program) (L:Loc) (ty:TypeId) (v:V):Option Nat:=
 match v with
 | .d (.str s)=>if zmS P ty=true then some s.size else none
 | .d (.mp _ _ _) | .map _ _ | .vmap _ _ _ _=>if (zl9 P ty).isSome=true then (esOf L v).map fun x=>x.2.length else none
 | v=>if (zcw P ty).isSome=true then (zdH L v).map List.length else none
def zwS (L:Loc) (v:V):Option Out:=
 match v with
 | .ref g n off len=>match L.get g n with
  | .arr _ _ true=>if 0 < len then some { v:=.ref g n off len } else none
  | _=>none
 | _=>none
def zrj (P:Program) (L:Loc) (t:Nat) (ty:TypeId) (s x:V):Option Out:=
 match zdH L x with
 | some xs=>
  match s with
  | .d (.sl .full []) | .d (.sl .nil [])=>(zcK P ty xs.length).bind fun sz=>if zec sz xs then some { v:=.ref t (L.new t) 0 xs.length,wr:=[(t,(L.new t,.arr sz xs true))] } else none
  | .d (.sl .full (y::l))=>match xs with
   | []=>none
   | _=>(zcK P ty ((y::l).length+xs.length)).bind fun sz=>if zec sz xs∧zec sz (y::l) then
     some { v:=.ref t (L.new t) 0 ((y::l).length+xs.length),wr:=[(t,(L.new t,.arr sz (y::l++xs) true))] } else none
  | .ref g n off len=>match off,L.get g n with
   | 0,.arr sz' els true=>(zcK P ty (len+xs.length)).bind fun sz=>if zec sz xs∧len=els.length∧sz'=sz∧g < 90000 then
     some { v:=.ref t (L.new t) 0 (len+xs.length),wr:=[(g,(n,.dead)),(t,(L.new t,.arr sz (els++xs) true))] } else none
   | _,_=>none
  | .vref k n i o lo len=>match lo,za6 L k,zeE L k n i o with
   | 0,some (true,T),some els=>(zcK P ty (len+xs.length)).bind fun sz=>if zec sz xs∧sz=zcS k o∧len=els.length then
     some { v:=.ref t (L.new t) 0 (len+xs.length),wr:=[(tb k,(n,.tbl true (setT T i o .undef))),(t,(L.new t,.trow sz (els++xs)))] } else none
   | _,_,_=>none
  | _=>none
 | none=>none
def ztP (s:ByteArray):List D:=s.data.toList.map fun b=>.int .u8 b.toNat
def zwT (P:Program) (L:Loc) (ty2:TypeId) (x:V):Option (List D):=
 match x with
 | .d (.str s)=>if zmS P ty2=true then some (ztP s) else none
 | x=>if zmS P ty2=true then none else zdH L x
def zAY (P:Program) (L:Loc) (ty ty2:TypeId) (s x:V):Option Out:=
 match s,zwT P L ty2 x,zcw P ty with
 | .ref g n off len,some xs,some ez=>match L.get g n with
  | .arr sz els true=>if off+len≤els.length∧sz=1∧ez=1∧xs.all (fun d=>d.cell) then
    some { v:=.d (.int .i64 ((min xs.length len:Nat):Int)),wr:=[(g,(n,.arr sz (els.take off++xs.take len++els.drop (off+(xs.take len).length)) true))] } else none
  | _=>none
 | .bref g n off len,some xs,some ez=>match L.get g n with
  | .box a ds=>if off+len≤ds.length∧ez=1∧xs.all (fun d=>d.cell) then
    some { v:=.d (.int .i64 ((min xs.length len:Nat):Int)),wr:=[(g,(n,.box a (ds.take off++xs.take len++ds.drop (off+(xs.take len).length))))] } else none
  | _=>none
 | _,_,_=>none
def optD:Option V→Option (Option Int)
 | none=>some none
 | some (.d (.int _ n))=>some (some n)
 | _=>none
def zdP (tg:Tag) (mx whole:Bool):Tag:=
 match tg with
 | .lent=>.lent
 | .full=>if mx || whole then .full else .fresh
 | _=>if mx then .full else .fresh
theorem zjr {tg:Tag} {mx whole:Bool} (h:zdP tg mx whole=.full):mx=true∨(tg=.full∧whole=true):=by
 cases tg<;>cases mx<;>cases whole<;>simp_all [zdP]
theorem zu3 {tg:Tag} {mx whole:Bool} (h:zdP tg mx whole≠.lent):tg≠.lent:=by
 rintro rfl; exact h rfl
theorem zrk {tg:Tag} {mx whole:Bool}:zdP tg mx whole≠.nn:=by
 cases tg<;>cases mx<;>cases whole<;>simp [zdP]
theorem zp8 {tg:Tag} {mx whole:Bool}:zdP tg mx whole≠.nul:=by
 cases tg<;>cases mx<;>cases whole<;>simp [zdP]
theorem zkF {tg:Tag} {mx whole:Bool}:zdP tg mx whole≠.nil:=by
 cases tg<;>cases mx<;>cases whole<;>simp [zdP]
def zwU (P:Program) (L:Loc) (t:TypeId) (x:V) (lo hi mx:Option V):Option V:=
 match optD lo,optD hi,optD mx with
 | some lo,some hi,some mx=>
  match x with
  | .d (.sl tg l)=>
   let h:=hi.getD l.length;let a:=lo.getD 0;let m:=mx.getD h
   if (zcw P t).isSome∧0≤a∧a≤h∧h≤l.length∧m=h∧(mx.isNone || hi.isSome)=true∧l.all (fun d=>d.cell || d.isAgg)∧l.all (fun d=>some d.width=zcw P t) then
    some (.d (.sl (zdP tg mx.isSome (decide (h=l.length))) ((l.drop a.toNat).take (h - a).toNat))) else none
  | .d (.str s)=>
   let h:=hi.getD s.size;let a:=lo.getD 0
   if zmS P t=true∧mx=none∧0≤a∧a≤h∧h≤s.size then some (.d (.str (s.extract a.toNat h.toNat))) else none
  | .ref g n off len=>
   let h:=hi.getD len;let a:=lo.getD 0
   match zcw P t,L.get g n with
   | some sz,.arr sz' _ _=>if sz=sz'∧0≤a∧a≤h∧h≤len∧(mx=none∨(hi.isSome=true∧mx=some h∧a=h)) then
     some (if mx=none then .ref g n (off+a.toNat) (h - a).toNat else .d (.sl .full [])) else none
   | _,_=>none
  | .bref g n off len=>
   let h:=hi.getD len;let a:=lo.getD 0
   match zcw P t,L.get g n with
   | some sz,.box _ ds=>if sz=1∧off+len≤ds.length∧0≤a∧a≤h∧h≤len∧hi.isSome=true∧mx=some h∧a=h then some (.d (.sl .full [])) else none
   | _,_=>none
  | .vref k n i o off len=>
   let h:=hi.getD len;let a:=lo.getD 0
   match zcw P t,zeE L k n i o with
   | some sz,some l=>if sz=zcS k o∧off+len≤l.length∧0≤a∧a≤h∧h≤len∧(mx=none∨(hi.isSome=true∧mx=some h∧a=h)) then
     some (if mx=none then .vref k n i o (off+a.toNat) (h - a).toNat else .d (.sl .full [])) else none
   | _,_=>none
  | .ptr g n off=>match zhV P t,L.get g n with
   | some (k,sz,_),.box _ ds=>
    let h:=hi.getD k;let a:=lo.getD 0
    if off+k≤ds.length∧sz=1∧mx=none∧0≤a∧a≤h∧h≤k∧(a=0∨a < k) then some (.bref g n (off+a.toNat) (h - a).toNat) else none
   | _,_=>none
  | _=>none
 | _,_,_=>none
def ziH (P:Program) (L:Loc) (t:TypeId) (x i:V):Option V:=
 match i with
 | .d (.int _ i)=>if i < 0 then none else
  match x with
  | .d (.sl _ l)=>match zcw P t,l[i.toNat]? with
   | some sz,some d=>if d.width=sz∧(d.cell || d.isAgg)=true then some (.d (.at_ d)) else none
   | _,_=>none
  | .ref g l off n=>match zcw P t,L.get g l with
   | some sz,.arr sz' _ _=>if i.toNat < n∧sz'=sz then some (.ept g l (off+i.toNat) 0) else none
   | _,_=>none
  | .vref k l q o off n=>match zcw P t,zeE L k l q o with
   | some sz,some els=>if i.toNat < n∧sz=zcS k o then some (.vept k l q o (off+i.toNat) 0) else none
   | _,_=>none
  | .bref g l off n=>match zcw P t with
   | some sz=>if sz=1∧i.toNat < n then some (.ptr g l (off+i.toNat)) else none
   | none=>none
  | .ptr g l off=>match zhV P t with
   | some (n,sz,_)=>if i.toNat < n then some (.ptr g l (off+i.toNat*sz)) else none
   | none=>none
  | .d (.at_ (.agg cs))=>match zhV P t with
   | some (n,sz,ag)=>if i.toNat < n then (zhe ag sz (i.toNat*sz) cs).map fun d=>.d (.at_ d) else none
   | none=>none
  | .d (.h k q off)=>match zhV P t with
   | some (n,sz,_)=>if i.toNat < n then some (.d (.h k q (off+i.toNat*sz))) else none
   | none=>none
  | .ept g l q off=>match zhV P t with
   | some (n,sz,_)=>if i.toNat < n then some (.ept g l q (off+i.toNat*sz)) else none
   | none=>none
  | .vept k l q o j off=>match zhV P t with
   | some (n,sz,_)=>if i.toNat < n then some (.vept k l q o j (off+i.toNat*sz)) else none
   | none=>none
  | _=>none
 | _=>none
def zlM (P:Program) (s:TypeId) (x:V) (f:Nat):Option V:=
 match zs8 P s f,zjp P s f with
 | some (off,size),some ag=>if size=0 then none else
  match x with
  | .ptr g l o=>some (.ptr g l (o+off))
  | .ept g l i o=>some (.ept g l i (o+off))
  | .vept k l i q j o=>some (.vept k l i q j (o+off))
  | .d (.at_ (.agg cs))=>(zhe ag size off cs).map fun d=>.d (.at_ d)
  | .d (.h k i o)=>some (.d (.h k i (o+off)))
  | _=>none
 | _,_=>none
def zu4 (P:Program) (t:TypeId):Option (Nat→Option (Nat×Nat)):=
 match P.underlying t with
 | some (.struct fs)=>if (List.range fs.size).all (fun i=>(zs8 P t i).isSome) then some fun i=>zs8 P t i else none
 | some (.array _ e)=>(zb9 P e).map fun sz=>fun i=>some (i*sz,sz)
 | _=>none
def layV (places:Nat→Option (Nat×Nat)):List D×List Nat×List V→List (Nat×V)→Option (List D×List Nat×List V)
 | st,[]=>some st
 | (ds,ks,vs),(i,v)::r=>match places i with
  | none=>none
  | some (off,size)=>
   match v with
   | .d (.agg xs)=>if xs.length=size∧off+size≤ds.length then layV places (ds.take off++xs++ds.drop (off+size),zdW off size ks vs) r else none
   | .agg xs ks' vs'=>if xs.length=size∧off+size≤ds.length∧okOv size ks' vs'=true then
     layV places (ds.take off++xs++ds.drop (off+size),ks'.map (· +off)++(zdW off size ks vs).1,vs'++(zdW off size ks vs).2) r else none
   | .d .undef | .d (.tup _)=>none
   | .d x=>if size=1∧off+1≤ds.length then layV places (ds.set off x,zdW off 1 ks vs) r else none
   | v=>if size=1∧off+1≤ds.length∧v.one=true then layV places (ds,off::(zdW off 1 ks vs).1,v::(zdW off 1 ks vs).2) r else none
def zeF (L:Loc):V→Bool
 | .ref g n off len=>match L.get g n with
  | .arr _ els _=>decide (off+len≤els.length)
  | .trow _ _=>true
  | _=>false
 | .bref g n off len=>(zdH L (.bref g n off len)).isSome
 | .vref k n i o lo len=>(zdH L (.vref k n i o lo len)).isSome
 | .map g n=>(esOf L (.map g n)).isSome
 | .vmap k n i o=>(esOf L (.vmap k n i o)).isSome
 | .ptr g n _=>match L.get g n with
  | .box .. | .vbox .. | .fbox .. =>true
  | _=>false
 | _=>true
def zzP (P:Program) (L:Loc) (t:TypeId) (parts:List (Nat×V)):Option V:=
 match zgN P t,zu4 P t with
 | some (.agg zs),some pl=>match (parts.map (·.2)).mapM V.dat with
  | some ds=>(lay pl zs ((parts.map (·.1)).zip ds)).map fun cs=>.d (.agg cs)
  | none=>if (parts.all fun p=>zeF L p.2)=true then (layV pl (zs,[],[]) parts).map fun x=>V.mk x.1 x.2 else none
 | _,_=>none
def zlN (P:Program) (L:Loc) (t:Nat) (ty:TypeId) (n c:V):Option Out:=
 match P.underlying ty,n,c with
 | some (.slice e),.d (.int .i64 n),.d (.int .i64 c)=>
  match zgN P e,zb9 P e,P.info? e with
  | some z,some sz,some i=>if 0≤n∧n=c∧n*i.bytes≤2 ^ 47∧n≤2 ^ 47∧z.width=sz∧0 < sz then
    some { v:=.ref t (L.new t) 0 n.toNat,wr:=[(t,(L.new t,.arr sz (List.replicate n.toNat z) true))] } else none
  | _,_,_=>none
 | _,_,_=>none
def ziI (n:Int):List (Int×D)→Option D
 | []=>none
 | (a,v)::r=>if n=a then some v else ziI n r
def setD (n:Int) (v:D):List (Int×D)→List (Int×D)
 | []=>[(n,v)]
 | (a,u)::r=>if n=a then (n,v)::r else (a,u)::setD n v r
def zf7 (P:Program) (L:Loc) (t:TypeId) (m k v:V):Option Out:=
 match zl9 P t,m with
 | some (kk,_),.map g l=>match L.get g l,toD L v,zwR kk k with
  | .map ok es,some (x,w),some n=>if ok=kk∧g ∉ w.map (·.1) then some { v:=.d (.tup []),wr:=w++[(g,(l,.map kk (setD n x es)))] } else none
  | _,_,_=>none
 | some (kk,_),.vmap q l i o=>match v,za6 L q,ziE L q l i o,zwR kk k with
  | .d x,some (true,T),some (ok,es),some n=>if ok=kk∧x.flatEl=true then some { v:=.d (.tup []),wr:=[(tb q,(l,.tbl true (setT T i o (.mp .own kk (setD n x es)))))] } else none
  | _,_,_,_=>none
 | _,_=>none
def zu5 (P:Program) (L:Loc) (t:TypeId) (m k:V) (ok:Bool):Option V:=
 match zl9 P t,esOf L m with
 | some (kk,et),some (mk,es)=>match zgN P et,zwR kk k with
  | some z,some n=>if mk=kk then
    (match ziI n es with
    | some x=>some (if ok then .d (.tup [x,.bool true]) else .d x)
    | none=>some (if ok then .d (.tup [z,.bool false]) else .d z)) else none
  | _,_=>none
 | _,_=>none
def zmT:V→Option (FuncId×List V×List V)
 | .clo f a b=>some (f,a,b)
 | .d (.fn f a b)=>some (f,a.map .d,b.map .d)
 | _=>none
def zki (nw:List Nat) (L:Loc) (pm:PM×Nat) (v:V):Option (D×List (Nat×Nat×Nat×Nat)×Wr):=
 match pm with
 | (.lent,_)=>(lend nw L v).map fun d=>(d,[],[])
 | (.own,sz)=>match v with
  | .ref g n off len=>match off,L.get g n with
   | 0,.arr sz' els true=>if len=els.length∧sz'=sz∧g < 90000∧els.all D.flatEl=true then some (.sl .own els,[],[(g,(n,.dead))]) else none
   | _,_=>none
  | .d (.sl .nil []) | .d (.sl .full [])=>some (.sl .own [],[],[])
  | _=>none
 | (.mut,sz)=>match v with
  | .ref g n off len=>match off,L.get g n with
   | 0,.arr sz' els true=>if len=els.length∧sz'=sz∧g < 90000∧els.all D.flatEl=true then some (.sl .own els,[(g,n,sz,len)],[]) else none
   | _,_=>none
  | _=>none
def znO (nw:List Nat) (L:Loc):List (PM×Nat)→List V→Option (List D×List (Nat×Nat×Nat×Nat)×Wr)
 | _,[]=>some ([],[],[])
 | pms,v::vs=>(zki nw L (pms.headD (.lent,0)) v).bind fun x=>(znO nw L pms.tail vs).map fun y=>(x.1::y.1,x.2.1++y.2.1,x.2.2++y.2.2)
def znP (L:Loc) (vs:List V):List Nat:=(V.idsL vs).flatMap fun g=>g::(match (L g).2 with | .vbox _ _ _ us=>V.idsL us | _=>[])
def zmD (L:Loc):List (PM×Nat)→List V→List V→Bool
 | _,_,[]=>true
 | pms,bef,v::vs=>(decide ((pms.headD (.lent,0)).1=.lent) || v.ids.all fun g=> !(znP L (bef++vs)).contains g) && zmD L pms.tail (bef++[v]) vs
def zj7 (L:Loc):List (Nat×Bool)→Option (List Tb)
 | []=>some []
 | (k,w)::r=>match za6 L k with
  | some (w',T)=>if w=true→w'=true then (zj7 L r).map fun Ts=>T::Ts else none
  | none=>none
def zh2 (L:Loc):List Nat→List Tb→Wr
 | k::ks,T::Ts=>(tb k,(L.new (tb k),.tbl true T))::zh2 L ks Ts
 | _,_=>[]
def zj8:List (Nat×Nat×Nat×Nat)→List (List D)→Option Wr
 | [],[]=>some []
 | (g,n,sz,len)::ms,els::os=>if els.length=len then (zj8 ms os).map fun w=>(g,(n,.arr sz els true))::w else none
 | _,_=>none
def ksW (ks:List (Nat×Bool)):List Nat:=(ks.filter (·.2)).map (·.1)
def zBY (Γ:Env) (L:Loc) (t:Nat) (f:V) (args:List V):Option Out:=
 match zmT f with
 | some (q,a,b)=>match Γ q with
  | some (.pure szs F)=>((a++args++b).mapM (lend [] L)).bind fun ds=>(F ds).bind fun r=>(zri L t szs r).map fun x=>{ v:=x.1,wr:=x.2 }
  | some (.st pms szs ks F)=>match znO (ksW ks) L pms (a++args++b),zj7 L ks with
   | some (ds,ms,kl),some Ts=>if zmD L pms [] (a++args++b)=true∧(ks.map (·.1)).Nodup then (F ds Ts).bind fun x=>(zj8 ms x.outs).bind fun wo=>if x.tbs.length=(ksW ks).length then
     (zri L t szs x.r).map fun y=>{ v:=y.1,wr:=kl++wo++zh2 L (ksW ks) x.tbs++y.2 } else none else none
   | _,_=>none
  | none=>none
 | none=>none
def zmU (L:Loc):V→Bool
 | .ptr g n _=>match L.get g n with
  | .box .. | .vbox .. | .fbox .. =>true
  | _=>false
 | .ept g n i _=>match L.get g n with
  | .arr _ els _=>decide (i < els.length)
  | _=>false
 | .bref g n _ _=>match L.get g n with
  | .box .. =>true
  | _=>false
 | .vept k n i o j _=>match zeE L k n i o with
  | some els=>decide (j < els.length)
  | none=>false
 | _=>true
def zqD (L:Loc) (k:Nat) (a:V):Option Bool:=
 if k=0 then (match a with
  | .d .nilp | .p _ .nilp=>some true
  | .d (.h _ _ _) | .d (.at_ _) | .p _ (.h _ _ _) | .p _ (.at_ _)=>some false
  | .ptr g n o=>if zmU L (.ptr g n o) then some false else none
  | _=>none)
 else if k=1 then (match a with
  | .d .nilm=>some true
  | .d (.mp _ _ _)=>some false
  | .map g n=>if zeF L (.map g n) then some false else none
  | .vmap k n i o=>if zeF L (.vmap k n i o) then some false else none
  | _=>none)
 else if k=2 then (match a with
  | .d .nilfn=>some true
  | .d (.fn _ _ _) | .clo _ _ _=>some false
  | _=>none)
 else (match a with
  | .d (.sl t l)=>match l with
   | []=>if t=.nil then some true else if t=.nn then some false else if t=.nul then some true else none
   | _::_=>some false
  | .ref g n off len=>if zeF L (.ref g n off len)∧0 < len then some false else none
  | .vref k n i o lo len=>if zeF L (.vref k n i o lo len)∧0 < len then some false else none
  | _=>none)
def zmV (P:Program) (t:TypeId):Option Nat:=
 match P.underlying t with
 | some (.pointer _)=>some 0
 | some (.map _ _)=>some 1
 | some (.func _ _ _)=>some 2
 | some (.slice _)=>some 3
 | _=>none
def znQ (k:Nat):V→Bool
 | .d .nilp=>k == 0
 | .d .nilm=>k == 1
 | .d .nilfn=>k == 2
 | .d (.sl .nil [])=>k == 3
 | _=>false
def out (v:Option V):Option Out:=v.map fun v=>{ v }
def zzQ:D→UInt8
 | .int _ n=>UInt8.ofNat n.toNat
 | _=>0
def ztQ:D→Bool
 | .int .u8 n=>decide (0≤n∧n < 256)
 | _=>false
def baOf (l:List D):ByteArray:=⟨(l.map zzQ).toArray⟩
def zhf (P:Program) (t:TypeId):Bool:=
 match P.underlying t with
 | some (.slice e)=>decide (zs9 P e=some .u8∧zb9 P e=some 1)
 | _=>false
def zzR (own:Bool) (L:Loc) (i n sz:Nat) (ds:List D) (w:Wr):Out:=match own,w with
 | true,[]=>{ v:=.ref i (L.new i) 0 n,wr:=[(i,(L.new i,.arr sz ds true))] }
 | _,w=>{ v:=.d (.sl .full ds),wr:=w }
def zjs (P:Program) (L:Loc) (i:Nat) (t:TypeId) (n:Nat) (parts:List (Nat×V)):Option Out:=
 match zcK P t n,toDs L (parts.map (·.2)) with
 | some sz,some (ds,w)=>
  if parts.map (·.1)=List.range n∧n*sz≤2 ^ 24∧zec sz ds then
   some (zzR (zhf P t && decide (0 < n)) L i n sz ds w) else none
 | _,_=>none
def znR (P:Program) (L:Loc) (t:Nat) (ty:TypeId) (s:V) (m:Int):Option Out:=
 match s with
 | .ref g n off len=>match off,L.get g n with
  | 0,.arr sz' els true=>(zcK P ty (len+m.toNat)).bind fun sz=>match P.underlying ty with
   | some (.slice e)=>match zgN P e with
    | some z=>if 0≤m∧len=els.length∧sz'=sz∧g < 90000 then
      some { v:=.ref t (L.new t) 0 (len+m.toNat),wr:=[(g,(n,.dead)),(t,(L.new t,.arr sz (els++List.replicate m.toNat z) true))] } else none
    | none=>none
   | _=>none
  | _,_=>none
 | _=>none
def ztR (P:Program):List Field→Nat
 | []=>0
 | f::fs=>match P.underlying f.type with
  | some (.slice e)=>match P.info? e with
   | some i=>if 1 < i.size then i.size else ztR P fs
   | none=>ztR P fs
  | _=>ztR P fs
def zId (P:Program) (e:TypeId):List Field→Nat
 | f::fs=>if f.embedded then (match P.underlying f.type with
  | some (.struct gs)=>64*f.type+ztR P gs.toList % 64
  | _=>64*e+ztR P (f::fs) % 64) else 64*e+ztR P (f::fs) % 64
 | []=>64*e
def zGo (P:Program) (t:TypeId):Option Nat:=match P.underlying t with
 | some (.pointer e)=>match P.underlying e with
  | some (.struct fs)=>some (zId P e fs.toList)
  | _=>none
 | _=>none
def toP (P:Program) (t:TypeId) (v:V):V:=match v with
 | .d x=>match zGo P t with
  | some k=>.p k x
  | none=>.d x
 | v=>v
def aop0 (P:Program) (Γ:Env) (o:Oper) (ρ:Operand→V) (L:Loc):Option Out:=
 let t:=o.dst.getD 0
 match o.op with
 | .move x | .assign x=>some { v:=ρ x }
 | .pick c a b=>match ρ c with
  | .d (.bool b')=>some { v:=if b' then ρ a else ρ b }
  | _=>none
 | .alloc e=>match zgN P e with
  | some (.agg cs)=>some { v:=.ptr t (L.new t) 0,wr:=[(t,(L.new t,.box true cs))] }
  | some x=>if x.cell then some { v:=.ptr t (L.new t) 0,wr:=[(t,(L.new t,.box false [x]))] } else none
  | none=>none
 | .box _ x=>match (ρ x).unp with
  | .d (.agg cs)=>some { v:=.ptr t (L.new t) 0,wr:=[(t,(L.new t,.box true cs))] }
  | .agg ds ks vs=>some { v:=.ptr t (L.new t) 0,wr:=[(t,(L.new t,.vbox true ds ks vs))] }
  | .d x=>if x.cell then some { v:=.ptr t (L.new t) 0,wr:=[(t,(L.new t,.box false [x]))] } else none
  | v=>if v.one=true∧zeF L v=true then some { v:=.ptr t (L.new t) 0,wr:=[(t,(L.new t,.vbox false [.undef] [0] [v]))] } else none
 | .build ty ps=>out (zzP P L ty (ps.toList.map fun (i,x)=>(i,(ρ x).unp)))
 | .buildSlice ty n ps=>zjs P L t ty n (ps.toList.map fun (i,x)=>(i,ρ x))
 | .load ty a=>out (zAX P L ty (ρ a))
 | .store ty a x=>if zeF L (ρ x) then zwP P L ty (ρ a) (ρ x).unp else none
 | .binOp op ty x y _=>match ρ x,ρ y with
  | .d (.agg a),.d (.agg b)=>if P.eqGuardType P.depth ty then none else match op with
   | .eql=>out ((aeq P 5 ty (.agg a) (.agg b)).map fun r=>.d (.bool r))
   | .neq=>out ((aeq P 5 ty (.agg a) (.agg b)).map fun r=>.d (.bool !r))
   | _=>none
  | a,b=>match zmV P ty with
   | some k=>if znQ k b=true then (match op with
    | .eql=>out ((zqD L k a).map fun r=>.d (.bool r))
    | .neq=>out ((zqD L k a).map fun r=>.d (.bool !r))
    | _=>none) else none
   | none=>match a,b with
    | .d a,.d b=>out ((abin (zrf P ty) op a b).map .d)
    | _,_=>none
 | .unOp op _ x=>match ρ x with
  | .d a=>out ((aun op a).map .d)
  | _=>none
 | .convert src dst x=>match ρ x with
  | .d (.int _ n)=>match zs9 P src,zs9 P dst with
   | some _,some k=>some { v:=.d (.int k (k.wrap n)) }
   | _,_=>none
  | v=>if zhf P src=true∧zmS P dst=true then (match zdH L v with
   | some l=>if l.all ztQ=true then some { v:=.d (.str (baOf l)) } else none
   | none=>none) else if src=dst∧zhf P src=true then zwS L v else none
 | .makeFunc (.func f) a b=>some { v:=.clo f (a.toList.map ρ) (b.toList.map ρ) }
 | .makeMap ty none=>match zl9 P ty with
  | some (k,_)=>some { v:=.map t (L.new t),wr:=[(t,(L.new t,.map k []))] }
  | none=>none
 | .makeSlice ty n c=>zlN P L t ty (ρ n) (ρ c)
 | .slice ty x lo hi mx=>out (zwU P L ty (ρ x) (lo.map ρ) (hi.map ρ) (mx.map ρ))
 | .fieldAddr s x f=>if zmU L (ρ x) then out (zlM P s (ρ x) f) else none
 | .field s x f=>match ρ x,zs8 P s f,zjp P s f with
  | .d (.agg cs),some (off,size),some ag=>out ((zhe ag size off cs).map .d)
  | .agg ds ks vs,some (off,size),some ag=>out (znN ag size off ds ks vs)
  | _,_,_=>none
 | .indexAddr ty x i=>if zmU L (ρ x) then out (ziH P L ty (ρ x) (ρ i)) else none
 | .index ty x i=>match ρ x,ρ i with
  | .d (.agg cs),.d (.int _ n)=>match zhV P ty with
   | some (k,sz,ag)=>if 0≤n∧n < k then out ((zhe ag sz (n.toNat*sz) cs).map .d) else none
   | none=>none
  | _,_=>none
 | .lookup ty m k ok=>out (zu5 P L ty (ρ m) (ρ k) ok)
 | .mapUpdate ty m k v | .insert ty m k v=>zf7 P L ty (ρ m) (ρ k) (ρ v).unp
 | .extract x i=>match ρ x with
  | .d (.tup l)=>out ((l[i]?).map .d)
  | .tup l=>out l[i]?
  | _=>none
 | .nilCheck x=>match ρ x with
  | .ptr g n o=>if zmU L (.ptr g n o) then some { v:=.ptr g n o } else none
  | .ept g n i o=>if zmU L (.ept g n i o) then some { v:=.ept g n i o } else none
  | .vept k n i o j f=>if zmU L (.vept k n i o j f) then some { v:=.vept k n i o j f } else none
  | .d (.h k n o)=>some { v:=.d (.h k n o) }
  | .d (.at_ x)=>some { v:=.d (.at_ x) }
  | .p k x=>match x with
   | .h k' i o=>if k'=k∧o=0 then some { v:=.d (.h k i 0) } else none
   | _=>none
  | .clo f a b=>some { v:=.clo f a b }
  | .d (.fn f a b)=>some { v:=.d (.fn f a b) }
  | _=>none
 | .call { callee:=.builtin .len,args,argTypes }=>match args.toList,argTypes.toList with
  | [x],[ty]=>(alen P L ty (ρ x)).map fun n=>{ v:=.d (.int .i64 n) }
  | _,_=>none
 | .call { callee:=.builtin .min,args,.. }=>match args.toList.map ρ with
  | [.d (.int .i64 a),.d (.int .i64 b)]=>some { v:=.d (.int .i64 (min a b)) }
  | _=>none
 | .call { callee:=.builtin .max,args,.. }=>match args.toList.map ρ with
  | [.d (.int .i64 a),.d (.int .i64 b)]=>some { v:=.d (.int .i64 (max a b)) }
  | _=>none
 | .call { callee:=.builtin .append,args,argTypes }=>match args.toList,argTypes.toList with
  | [s,x],[ty,ty2]=>if (zcw P ty2).isSome then zrj P L t ty (ρ s) (ρ x) else if (zs9 P ty2).isSome=true then (match ρ x with
   | .d (.int .i64 m)=>znR P L t ty (ρ s) m
   | _=>none) else none
  | _,_=>none
 | .call { callee:=.builtin .copy,args,argTypes }=>match args.toList,argTypes.toList with
  | [s,x],[ty,ty2]=>zAY P L ty ty2 (ρ s) (ρ x)
  | _,_=>none
 | .call { callee:=.value f,args,.. }=>zBY Γ L t (ρ f) (args.toList.map ρ)
 | .sliceToArrayPointer arr x=>match ρ x with
  | .d (.sl _ l)=>match P.underlying arr with
   | some (.array n e)=>if 0 < n∧l.length=n∧zb9 P e=some 1∧l.all D.cell=true then some { v:=.d (.at_ (.agg l)) } else none
   | _=>none
  | _=>none
 | _=>none
def aop (P:Program) (Γ:Env) (o:Oper) (ρ:Operand→V) (L:Loc):Option Out:=(aop0 P Γ o ρ L).map fun out=>{ out with v:=toP P o.type out.v }
end Wf

namespace Wf
open Go Go.RowKit
structure St where
 slots:List V
 L:Loc
structure Foot where
 rd:List Nat:=[]
 wr:List Nat:=[]
def Foot.quiet (f:Foot):Bool:=f.wr.isEmpty
def zGp (a b:Foot):Bool:=
 (a.wr.all fun g=> !(b.rd.contains g) && !(b.wr.contains g)) && (b.wr.all fun g=> !(a.rd.contains g))
def zIe:Op→Bool
 | .load .. | .store .. | .indexAddr .. | .fieldAddr .. | .nilCheck _ | .slice .. | .lookup .. | .mapUpdate .. | .insert .. | .build .. | .buildSlice .. | .box .. | .binOp .. | .convert .. =>true
 | .call { callee:=.builtin .append,.. } | .call { callee:=.builtin .copy,.. } | .call { callee:=.builtin .len,.. } | .call { callee:=.value _,.. }=>true
 | _=>false
def zfW:Op→Nat
 | .alloc .. | .box .. | .makeMap .. | .makeSlice .. | .buildSlice .. | .convert .. | .call { callee:=.builtin .append,.. }=>1
 | .call { callee:=.value _,.. }=>5
 | _=>0
def zJq (op:Op) (vs:List V):List Nat:=
 match op with
 | .load .. | .store .. =>vs.filterMap fun v=>match v with
  | .d (.h k _ _)=>some (tb k)
  | _=>none
 | _=>[]
def zzS (Γ:Env) (op:Op) (vs:List V):List Nat:=
 match op with
 | .call { callee:=.value _,.. }=>match (vs.head?).bind zmT with
  | some (q,_,_)=>match Γ q with
   | some (.st _ _ ks _)=>ks.map fun k=>tb k.1
   | _=>[]
  | none=>[]
 | _=>[]
def rdOf (Γ:Env) (o:Oper) (vs:List V) (L:Loc):List Nat:=
  (if zIe o.op then (V.idsL vs).flatMap fun g=>g::(match (L g).2 with | .vbox _ _ _ us=>V.idsL us | _=>[]) else [])++
  (match zfW o.op with
   | 0=>[]
   | 1=>[o.dst.getD 0]
   | _=>[o.dst.getD 0,o.dst.getD 0+1000,o.dst.getD 0+2000,o.dst.getD 0+3000,o.dst.getD 0+4000])++(zJq o.op vs++zzS Γ o.op vs)
def Loc.only (L:Loc) (rd:List Nat):Loc:=fun g=>if g∈rd then L g else (0,.dead)
def Loc.upd (L:Loc):Wr→Loc
 | []=>L
 | (g,x)::w=>Loc.upd (L.set g x) w
def putV (slots:List V) (dst:Option Tmp) (v:V):List V:=
 match dst with
 | some d=>slots.set d v
 | none=>slots
def zhg (ops:Array Oper) (slots:List V) (o:Oper):Option Bool:=
 match o.guard with
 | none=>some true
 | some (j,want)=>match ((ops[j]?).bind (·.dst)).bind (slots[·]?) with
  | some (.d (.bool b))=>some (b == want)
  | some (.d (.tup []))=>some false
  | _=>none
section
def zik (P:Program) (Γ:Env) (ops:Array Oper) (o:Oper) (s:St):Option (St×Foot):=
 match zhg ops s.slots o with
 | none=>none
 | some false=>some ({ s with slots:=putV s.slots o.dst (.d (.tup [])) },{})
 | some true=>
  let vs:=o.op.operands.toList.map (zfb s.slots);let rd:=rdOf Γ o vs s.L
  if 90000≤o.dst.getD 0 then none else (aop P Γ o (zfb s.slots) (s.L.only rd)).bind fun out=>
   some ({ slots:=putV s.slots o.dst out.v,L:=s.L.upd out.wr },{ rd,wr:=out.wr.map (·.1) })
def arun (P:Program) (Γ:Env) (ops:Array Oper):List Oper→St→Option St
 | [],s=>some s
 | o::r,s=>(zik P Γ ops o s).bind fun x=>arun P Γ ops r x.1
def zmW (P:Program) (Γ:Env) (ops:Array Oper):List Oper→St→Option (St×List Foot)
 | [],s=>some (s,[])
 | o::r,s=>(zik P Γ ops o s).bind fun x=>(zmW P Γ ops r x.1).map fun y=>(y.1,x.2::y.2)
def edge (ops:Array Oper) (i j:Nat):Bool:=match ops[j]? with
 | some o=>o.after.any fun e=>Region.binds .any e && e.on == i
 | none=>false
def zGq (ops:Array Oper) (i:Nat):List Nat:=(List.range ops.size).foldl (fun acc j=>if acc.any (fun m=>edge ops m j) then j::acc else acc) [i]
def chk (ops:Array Oper) (log:List Foot):Bool:=
 log.all Foot.quiet ||
 (List.range log.length).all fun i=>(List.range log.length).all fun j=>
  !(decide (i < j)) || edge ops i j || match log[i]?,log[j]? with
   | some a,some b=>(a.quiet && b.quiet) || zGp a b || (zGq ops i).contains j
   | _,_=>true
inductive AExit where
 | normal | exit (id:Nat) | ret
 deriving DecidableEq
inductive Wk:St→St→Prop where
 | drop (s s':St) (K:List Nat):s'.slots.length=s.slots.length→
   (∀ k,k∈K→s'.L k=s.L k)→(∀ g,g ∉ K→s'.L g=(0,.dead))→
   (∀ (i:Nat) (v:V),s'.slots[i]? =some v→v=.d .undef∨(s.slots[i]? =some v∧∀ g,g∈v.ids→g∈K))→
   (∀ k,k∈K→∀ a ds ks vs,(s'.L k).2=.vbox a ds ks vs→∀ g,g∈V.idsL vs→g∈K)→Wk s s'
 | nil (s:St) (i g sz:Nat):g < 100000→(s.slots[i]? =some (.d (.sl .full []))∨s.slots[i]? =some (.d (.sl .nil [])))→Wk s { s with slots:=s.slots.set i (.ref g (s.L.new g) 0 0),L:=s.L.set g (s.L.new g,.arr sz [] true) }
 | trans (s t u:St):Wk s t→Wk t u→Wk s u
end
end Wf

namespace Wf
open Go Go.RowKit
structure Ctx where
 ι:Nat→Option Nat
 γ:Nat→Nat→Option Nat
 ρ:Nat→Nat→Nat→Option Nat
 O:Nat→Prop
def HObj.boxLen:HObj→Option Nat
 | .box _ ds | .fbox _ ds | .vbox _ ds _ _=>some ds.length
 | _=>none
def HObj.live:HObj→Bool
 | .dead | .tbl _ _ | .fbox _ _=>false
 | .arr _ _ l=>l
 | _=>true
def own (c:Ctx) (L:Loc) (b:Nat):Prop:=c.O b∨∃ g,c.ι g=some b∧(L g).2.live=true
def SlAt (w:World) (β:Option Nat) (sz off len:Nat) (v:Value):Prop:=
 ∃ a cap,v=.slice a len cap∧len≤cap∧(cap=0∨∃ (b:Nat) (x:Array Value) (T:TypeId) (fz:Nat×Nat),β=some b∧a=some ⟨b,off*sz,none⟩∧w.heap[b]? =some (.cells x T fz)∧(off+cap)*sz≤x.size)
inductive Val (c:Ctx) (L:Loc) (w:World) (N:Nat):V→Value→Prop where
 | d (x v):Rep w (own c L) N c.γ x v→Val c L w N (.d x) v
 | p (k x v):Rep w (own c L) N c.γ x v→Val c L w N (.p k x) v
 | ptr (g n off v):n≤(L g).1→(L.get g n≠.dead→∃ b,c.ι g=some b∧v=.pointer (some ⟨b,off,none⟩))→Val c L w N (.ptr g n off) v
 | ept (g n i off v):n≤(L g).1→(∀ sz els l,L.get g n=.arr sz els l→i < els.length→∃ b,c.ι g=some b∧v=.pointer (some ⟨b,i*sz+off,none⟩))→
   Val c L w N (.ept g n i off) v
 | ref (g n off len v):n≤(L g).1→(∀ sz els l,L.get g n=.arr sz els l→off+len≤els.length∧SlAt w (c.ι g) sz off len v)→(∀ sz els,L.get g n=.trow sz els→off+len≤els.length∧SlAt w (c.ι g) sz off len v)→Val c L w N (.ref g n off len) v
 | bref (g n off len v):n≤(L g).1→(∀ k,(L.get g n).boxLen=some k→off+len≤k∧∃ b cap,c.ι g=some b∧len≤cap∧v=.slice (some ⟨b,off,none⟩) len cap)→
   Val c L w N (.bref g n off len) v
 | map (g n v):n≤(L g).1→(L.get g n≠.dead→∃ b,c.ι g=some b∧v=.map (some b))→Val c L w N (.map g n) v
 | vref (k n i o lo len v):n≤(L (tb k)).1→(∀ l,zeE L k n i o=some l→lo+len≤l.length∧SlAt w (c.ρ k i o) (zcS k o) lo len v)→Val c L w N (.vref k n i o lo len) v
 | vept (k n i o j off v):n≤(L (tb k)).1→(∀ l,zeE L k n i o=some l→j < l.length→∃ b,c.ρ k i o=some b∧v=.pointer (some ⟨b,j*zcS k o+off,none⟩))→
   Val c L w N (.vept k n i o j off) v
 | vmap (k n i o v):n≤(L (tb k)).1→(∀ e,ziE L k n i o=some e→∃ b,c.ρ k i o=some b∧v=.map (some b))→Val c L w N (.vmap k n i o) v
 | agg (ds:List D) (ks:List Nat) (vs:List V) (us:Array Value):us.size=ds.length→(∀ (i:Nat) (v:V) (u:Value),(ovs ks vs (ds.map .d))[i]? =some v→us[i]? =some u→Val c L w N v u)→(∀ (i:Nat) (u:Value),us[i]? =some u→u.oneCell'=true)→Val c L w N (.agg ds ks vs) (.agg us)
 | clo (f) (a b:List V) (va vb:Array Value):va.size=a.length→vb.size=b.length→(∀ (i:Nat) (v:V) (u:Value),a[i]? =some v→va[i]? =some u→Val c L w N v u)→
   (∀ (i:Nat) (v:V) (u:Value),b[i]? =some v→vb[i]? =some u→Val c L w N v u)→Val c L w N (.clo f a b) (.func (.func f) va vb)
 | tup (l:List V) (vs:Array Value):vs.size=l.length→(∀ (i:Nat) (v:V) (u:Value),l[i]? =some v→vs[i]? =some u→Val c L w N v u)→Val c L w N (.tup l) (.tuple vs)
structure Unfrozen (w:World) (b n:Nat):Prop where
 at':∀ i,i < n→w.frozen? ⟨b,i,none⟩=false
 le:∀ (x:Array Value) (T:TypeId) (fz:Nat×Nat),w.heap[b]? =some (.cells x T fz)→fz.1≤fz.2
instance {w:World} {b n:Nat}:CoeFun (Unfrozen w b n) fun _=>∀ i,i < n→w.frozen? ⟨b,i,none⟩=false:=⟨Unfrozen.at'⟩
def zEo (w:World) (A:Nat→Prop) (N:Nat) (γ:Nat→Nat→Option Nat) (b sz:Nat) (els:List D):Prop:=
 ∃ vs:Nat→Value,∀ (i:Nat) (d:D),els[i]? =some d→Rep w A N γ d (vs i)∧(vs i).cells.size=sz∧zdZ w b (i*sz) (vs i)
def zgt (c:Ctx) (L:Loc) (w:World) (N:Nat) (β:Option Nat):HObj→Prop
 | .dead | .tbl _ _=>True
 | .box _ ds=>∃ (b:Nat) (x:Array Value) (T:TypeId) (fz:Nat×Nat),β=some b∧w.heap[b]? =some (.cells x T fz)∧Unfrozen w b x.size∧x.size=ds.length∧
   ∀ (i:Nat) (d:D) (u:Value),ds[i]? =some d→x[i]? =some u→Rep w (own c L) N c.γ d u∧u.oneCell'=true
 | .fbox _ ds=>∃ (b:Nat) (x:Array Value) (T:TypeId) (fz:Nat×Nat),β=some b∧w.heap[b]? =some (.cells x T fz)∧x.size=ds.length∧
   ∀ (i:Nat) (d:D) (u:Value),ds[i]? =some d→x[i]? =some u→Rep w (own c L) N c.γ d u∧u.oneCell'=true
 | .vbox _ ds ks vs=>∃ (b:Nat) (x:Array Value) (T:TypeId) (fz:Nat×Nat),β=some b∧w.heap[b]? =some (.cells x T fz)∧Unfrozen w b x.size∧x.size=ds.length∧
   ∀ (i:Nat) (v:V) (u:Value),(ovs ks vs (ds.map .d))[i]? =some v→x[i]? =some u→Val c L w N v u∧u.oneCell'=true
 | .arr sz els _=>match β with
  | none=>els=[]
  | some b=>∃ (x:Array Value) (T:TypeId) (fz:Nat×Nat),w.heap[b]? =some (.cells x T fz)∧Unfrozen w b x.size∧els.length*sz≤x.size∧zEo w (own c L) N c.γ b sz els
 | .trow sz els=>match β with
  | none=>els=[]
  | some b=>∃ (x:Array Value) (T:TypeId) (fz:Nat×Nat),w.heap[b]? =some (.cells x T fz)∧Unfrozen w b x.size∧els.length*sz≤x.size∧zEo w (own c L) N c.γ b sz els
 | .map kk es=>∃ (b:Nat) (m:Array MapEntry) (k:Nat),β=some b∧w.heap[b]? =some (.map m k)∧m.size=es.length∧
   ∀ (i:Nat) (e:MapEntry) (p:Int×D),m[i]? =some e→es[i]? =some p→zmR kk p.1 e.key∧Rep w (own c L) N c.γ p.2 e.val
def D.isRow:D→Bool
 | .sl .own _ | .mp .own _ _=>true
 | _=>false
inductive CellOk (γ:Nat→Nat→Option Nat) (w:World) (sz:Nat) (β:Option Nat):D→Value→Prop where
 | undef (u):CellOk γ w sz β .undef u
 | flat (d u):d.flat=true→Rep w (fun _=>False) 0 γ d u→CellOk γ w sz β d u
 | rowE (a):β=none→CellOk γ w sz β (.sl .own []) (.slice a 0 0)
 | row (l:List D) (b cap:Nat) (x:Array Value) (T:TypeId) (fz:Nat×Nat) (vs:Nat→Value):β=some b→w.heap[b]? =some (.cells x T fz)→Unfrozen w b x.size→l.length≤cap→cap*sz≤x.size→
   (∀ (i:Nat) (d:D),l[i]? =some d→d.flatEl=true∧Rep w (fun _=>False) 0 γ d (vs i)∧d.width=sz∧(vs i).cells.size=sz∧zdZ w b (i*sz) (vs i))→
   CellOk γ w sz β (.sl .own l) (.slice (some ⟨b,0,none⟩) l.length cap)
 | mp (kk:MK) (es:List (Int×D)) (b:Nat) (m:Array MapEntry) (k:Nat):β=some b→w.heap[b]? =some (.map m k)→m.size=es.length→
   (∀ (i:Nat) (e:MapEntry) (p:Int×D),m[i]? =some e→es[i]? =some p→zmR kk p.1 e.key∧p.2.flatEl=true∧Rep w (fun _=>False) 0 γ p.2 e.val)→CellOk γ w sz β (.mp .own kk es) (.map (some b))
def zcq (L:Loc) (k i:Nat):Option Nat→Prop
 | none=>∃ wr T,za6 L k=some (wr,T)∧i < T.length
 | some o=>∃ wr T x,za6 L k=some (wr,T)∧zdc T i o=some x∧x.isRow=true
def Ctx.tab (c:Ctx) (k i:Nat):Option Nat→Option Nat
 | none=>c.γ k i
 | some o=>c.ρ k i o
structure TabRel (L:Loc) (c:Ctx) (R:Nat→Prop) (w:World):Prop where
 obj:∀ (k:Nat) (wr:Bool) (T:Tb) (i:Nat) (cs:List D),za6 L k=some (wr,T)→T[i]? =some cs→∃ (b:Nat) (x:Array Value) (ty:TypeId) (fz:Nat×Nat),c.γ k i=some b∧w.heap[b]? =some (.cells x ty fz)∧Unfrozen w b x.size∧x.size=cs.length∧
  ∀ (o:Nat) (d:D) (u:Value),cs[o]? =some d→x[o]? =some u→u.oneCell'=true∧CellOk c.γ w (zcS k o) (c.ρ k i o) d u
 tight:∀ (k:Nat) (wr:Bool) (T:Tb) (i b:Nat),za6 L k=some (wr,T)→c.γ k i=some b→i < T.length
 inj:∀ k i q k' i' q' b,zcq L k i q→zcq L k' i' q'→c.tab k i q=some b→c.tab k' i' q'=some b→k=k'∧i=i'∧q=q'
 wr:∀ k T i q b,za6 L k=some (true,T)→zcq L k i q→c.tab k i q=some b→c.O b
 ro:∀ k T i q b,za6 L k=some (false,T)→zcq L k i q→c.tab k i q=some b→¬ c.O b∧R b
structure Mem (c:Ctx) (N:Nat) (w0:World) (O0:Nat→Prop) (L:Loc) (w:World):Prop where
 obj:∀ g,zgt c L w N (c.ι g) (L g).2
 inj:∀ g g' b,c.ι g=some b→c.ι g'=some b→(L g).2≠.dead→(L g').2≠.dead→g=g'
 mine:∀ g b,c.ι g=some b→(L g).2≠.dead→(N≤b∨O0 b)∧b < w.heap.size∧¬ c.O b
 mineN:∀ g b,c.ι g=some b→(L g).2≠.dead→(∀ sz els,(L g).2≠.trow sz els)→g < 90000→N≤b
 tab:TabRel L c (fun b=>b < N∧¬ O0 b) w
 iotab:∀ k,c.ι (tb k)=none
 only:∀ k,(L (tb k)).2=.dead∨∃ wr T,(L (tb k)).2=.tbl wr T
 size:N≤w.heap.size
 size0:w0.heap.size=N
 os:w.os=w0.os
 tape:w.tape=w0.tape
 output:w.output=w0.output
 keep:∀ b,b < N→¬ O0 b→w.heap[b]? =w0.heap[b]?
 osub:∀ b,c.O b→b < w.heap.size∧(O0 b∨N≤b)
def TbOn (T T':Tb):Prop:=∀ i o,(∀ l',zdc T' i o=some (.sl .own l')→∃ l,zdc T i o=some (.sl .own l)∧l'.map D.width=l.map D.width)∧
 (∀ k es',zdc T' i o=some (.mp .own k es')→∃ es,zdc T i o=some (.mp .own k es))
theorem TbOn.refl (T:Tb):TbOn T T:=fun _ _=>⟨fun l h=>⟨l,h,rfl⟩,fun _ es h=>⟨es,h⟩⟩
theorem TbOn.trans {T T' T'':Tb} (h:TbOn T T') (k:TbOn T' T''):TbOn T T'':=fun i o=>
 ⟨fun l hl=>by
  obtain ⟨l',h1,h2⟩:=(k i o).1 l hl;obtain ⟨l'',h3,h4⟩:=(h i o).1 l' h1
  exact ⟨l'',h3,h2.trans h4⟩,fun q es he=>by
  obtain ⟨es',h1⟩:=(k i o).2 q es he;exact (h i o).2 q es' h1⟩
def zb1:HObj→HObj→Prop
 | _,.dead=>True
 | .box _ ds,.box _ ds' | .box _ ds,.fbox _ ds' | .fbox _ ds,.fbox _ ds'=>ds'.length=ds.length
 | .box _ ds,.vbox _ ds' _ _=>ds'.length=ds.length
 | .vbox _ ds _ _,.vbox _ ds' _ _=>ds'.length=ds.length
 | .vbox _ ds _ _,.box _ ds' | .vbox _ ds _ _,.fbox _ ds'=>ds'.length=ds.length
 | .arr sz els _,.arr sz' els' _=>sz'=sz∧els'.length=els.length
 | .map k _,.map k' _=>k'=k
 | .trow sz els,.trow sz' els'=>sz'=sz∧els'.length=els.length
 | .tbl wr T,.tbl wr' T'=>wr'=wr∧TbOn T T'
 | _,_=>False
theorem zb1.refl (x:HObj):zb1 x x:=by cases x<;>simp [zb1,TbOn.refl]
def Stay (c:Ctx) (L:Loc) (c':Ctx) (L':Loc):Prop:=∀ k,(∀ T,za6 L k≠some (true,T))→(∀ T,za6 L' k≠some (true,T))∧c'.γ k=c.γ k∧c'.ρ k=c.ρ k
structure Grow (c:Ctx) (L:Loc) (w:World) (c':Ctx) (L':Loc) (w':World):Prop where
 size:w.heap.size≤w'.heap.size
 old:∀ b,¬ own c L b→b < w.heap.size→w'.heap[b]? =w.heap[b]?
 ownsub:∀ b,b < w.heap.size→own c' L' b→own c L b
 hγ:∀ k i a,c.γ k i=some a→c'.γ k i=some a
 hρ:∀ k i o,(L' (tb k)).1=(L (tb k)).1→zcq L' k i (some o)→c'.ρ k i o=c.ρ k i o
 stay:Stay c L c' L'
 cells:∀ (b:Nat) (x:Array Value) (T:TypeId) (fz:Nat×Nat),w.heap[b]? =some (.cells x T fz)→own c L b→∃ (x':Array Value) (fz':Nat×Nat),w'.heap[b]? =some (.cells x' T fz')∧x'.size=x.size
 gen:∀ g,(L g).1≤(L' g).1
 obj:∀ g,(L' g).1=(L g).1→(L' g).2=.dead∨(c'.ι g=c.ι g∧zb1 (L g).2 (L' g).2)
theorem Grow.cells' {c L w c' L' w'} (h:Grow c L w c' L' w') {b:Nat} {x:Array Value} {T:TypeId} {fz:Nat×Nat} (hb:w.heap[b]? =some (.cells x T fz)):
  ∃ (x':Array Value) (fz':Nat×Nat),w'.heap[b]? =some (.cells x' T fz')∧x'.size=x.size:=by
 by_cases ho:own c L b
 ·exact h.cells b x T fz hb ho
 ·have hlt:b < w.heap.size:=by
   rcases Nat.lt_or_ge b w.heap.size with h' | h'
   ·exact h'
   ·rw [Array.getElem?_eq_none h'] at hb; cases hb
  exact ⟨x,fz,by rw [h.old b ho hlt]; exact hb,rfl⟩
theorem Rep.grow {c L w c' L' w'} (h:Grow c L w c' L' w') {N:Nat} {d:D} {v:Value} (hr:Rep w (own c L) N c.γ d v):Rep w' (own c' L') N c'.γ d v:=
 hr.mono h.old h.ownsub (Nat.le_refl _) h.size h.hγ
theorem SlAt.grow {c L w c' L' w'} (h:Grow c L w c' L' w') {β sz off len v} (hs:SlAt w β sz off len v):SlAt w' β sz off len v:=by
 obtain ⟨a,cap,hv,hle,hc⟩:=hs;refine ⟨a,cap,hv,hle,?_⟩;rcases hc with hc | ⟨b,x,T,fz,h1,h2,h3,h4⟩
 ·exact .inl hc
 ·obtain ⟨x',fz',h5,h6⟩:=h.cells' h3
  exact .inr ⟨b,x',T,fz',h1,h2,h5,by omega⟩
theorem Grow.get {c L w c' L' w'} (h:Grow c L w c' L' w') {g n:Nat} (hn:n≤(L g).1) (hd:L'.get g n≠.dead):
  (L' g).1=n∧(L g).1=n∧c'.ι g=c.ι g∧L.get g n≠.dead∧zb1 (L.get g n) (L'.get g n):=by
 have hg:=h.gen g;unfold Loc.get at hd;split at hd
 ·rename_i e
  have e2:(L g).1=n:=by omega
  rcases h.obj g (by omega) with ho | ⟨h1,h2⟩
  ·exact absurd ho hd
  ·refine ⟨e,e2,h1,?_,?_⟩
   ·unfold Loc.get; rw [if_pos e2];intro e3;rw [e3] at h2;cases hx:(L' g).2<;>simp [hx,zb1] at h2 hd
   ·unfold Loc.get; rw [if_pos e,if_pos e2]; exact h2
 ·exact absurd rfl hd
theorem zo5 {L:Loc} {k n:Nat} {T:Tb} (h:zl8 L k n=some T):∃ wr,L.get (tb k) n=.tbl wr T∧(L (tb k)).1=n∧za6 L k=some (wr,T):=by
 unfold zl8 at h;split at h
 ·rename_i wr T' e;injection h with h; subst h;have e':=e;unfold Loc.get at e;split at e
  ·rename_i hn
   exact ⟨wr,e',hn,by unfold za6; rw [e]⟩
  ·cases e
 ·cases h
theorem zf8 {L:Loc} {k n i o:Nat} {l:List D} (h:zeE L k n i o=some l):∃ wr T,L.get (tb k) n=.tbl wr T∧(L (tb k)).1=n∧za6 L k=some (wr,T)∧zdc T i o=some (.sl .own l):=by
 unfold zeE at h;split at h
 ·rename_i l' e;injection h with h; subst h
  cases hT:zl8 L k n with
  | none=>rw [hT] at e; cases e
  | some T=>
   rw [hT] at e;obtain ⟨wr,h1,h2,h3⟩:=zo5 hT;exact ⟨wr,T,h1,h2,h3,e⟩
 ·cases h
theorem zu6 {L:Loc} {k n i o:Nat} {l:List D} {wr:Bool} {T:Tb} (h:L.get (tb k) n=.tbl wr T) (hc:zdc T i o=some (.sl .own l)):zeE L k n i o=some l:=by
 unfold zeE zl8; rw [h]; dsimp only [Option.bind_some]; rw [hc]
theorem zg9 {L:Loc} {k n i o:Nat} {x:MK×List (Int×D)} (h:ziE L k n i o=some x):∃ wr T,L.get (tb k) n=.tbl wr T∧(L (tb k)).1=n∧za6 L k=some (wr,T)∧zdc T i o=some (.mp .own x.1 x.2):=by
 unfold ziE at h;split at h
 ·rename_i kk es e;injection h with h; subst h
  cases hT:zl8 L k n with
  | none=>rw [hT] at e; cases e
  | some T=>
   rw [hT] at e;obtain ⟨wr,h1,h2,h3⟩:=zo5 hT;exact ⟨wr,T,h1,h2,h3,e⟩
 ·cases h
theorem zu7 {L:Loc} {k n i o:Nat} {kk:MK} {es:List (Int×D)} {wr:Bool} {T:Tb} (h:L.get (tb k) n=.tbl wr T) (hc:zdc T i o=some (.mp .own kk es)):ziE L k n i o=some (kk,es):=by
 unfold ziE zl8; rw [h]; dsimp only [Option.bind_some]; rw [hc]
theorem Grow.row {c L w c' L' w'} (h:Grow c L w c' L' w') {k n i o:Nat} {l':List D} (hn:n≤(L (tb k)).1) (hr:zeE L' k n i o=some l'):
  ∃ l,zeE L k n i o=some l∧l'.map D.width=l.map D.width∧c'.ρ k i o=c.ρ k i o:=by
 obtain ⟨wr,T,h1,h2,h3,h4⟩:=zf8 hr
 obtain ⟨k1,k2,k3,k4,k5⟩:=h.get hn (by rw [h1]; simp)
 rw [h1] at k5;cases hx:L.get (tb k) n<;>simp [hx,zb1] at k5;rename_i wr0 T0;obtain ⟨l,e1,e2⟩:=(k5.2 i o).1 l' h4
 exact ⟨l,zu6 hx e1,e2,h.hρ k i o (by omega) ⟨wr,T,_,h3,h4,rfl⟩⟩
theorem Grow.mapRow {c L w c' L' w'} (h:Grow c L w c' L' w') {k n i o:Nat} {e':MK×List (Int×D)} (hn:n≤(L (tb k)).1) (hr:ziE L' k n i o=some e'):
  ∃ es,ziE L k n i o=some (e'.1,es)∧c'.ρ k i o=c.ρ k i o:=by
 obtain ⟨wr,T,h1,h2,h3,h4⟩:=zg9 hr
 obtain ⟨k1,k2,k3,k4,k5⟩:=h.get hn (by rw [h1]; simp)
 rw [h1] at k5;cases hx:L.get (tb k) n<;>simp [hx,zb1] at k5;rename_i wr0 T0;obtain ⟨es,e1⟩:=(k5.2 i o).2 _ _ h4
 exact ⟨es,zu7 hx e1,h.hρ k i o (by omega) ⟨wr,T,_,h3,h4,rfl⟩⟩
theorem Val.grow {c L w c' L' w'} (h:Grow c L w c' L' w') {N:Nat} {v:V} {u:Value} (hv:Val c L w N v u):Val c' L' w' N v u:=by
 induction hv with
 | d x v hr=>exact .d x v (hr.grow h)
 | p k x v hr=>exact .p k x v (hr.grow h)
 | ptr g n off v hn hp=>
  refine .ptr g n off v (Nat.le_trans hn (h.gen g)) fun hd=>?_
  obtain ⟨_,_,e,hd',_⟩:=h.get hn hd
  rw [e]; exact hp hd'
 | ept g n i off v hn hp=>
  refine .ept g n i off v (Nat.le_trans hn (h.gen g)) fun sz els l he hi=>?_
  obtain ⟨_,_,e,hd',hc⟩:=h.get hn (by rw [he]; simp)
  rw [he] at hc;cases hx:L.get g n<;>simp [hx,zb1] at hc;rename_i sz' els' l';obtain ⟨rfl,hl⟩:=hc
  rw [e]; exact hp _ _ _ hx (by omega)
 | ref g n off len v hn hp hp'=>
  refine .ref g n off len v (Nat.le_trans hn (h.gen g)) (fun sz els l he=>?_) (fun sz els he=>?_)
  ·obtain ⟨_,_,e,hd',hc⟩:=h.get hn (by rw [he]; simp)
   rw [he] at hc;cases hx:L.get g n<;>simp [hx,zb1] at hc;rename_i sz' els' l';obtain ⟨rfl,hl⟩:=hc;obtain ⟨h1,h2⟩:=hp _ _ _ hx
   rw [e]; exact ⟨by omega,h2.grow h⟩
  ·obtain ⟨_,_,e,hd',hc⟩:=h.get hn (by rw [he]; simp)
   rw [he] at hc;cases hx:L.get g n<;>simp [hx,zb1] at hc;rename_i sz' els';obtain ⟨rfl,hl⟩:=hc;obtain ⟨h1,h2⟩:=hp' _ _ hx
   rw [e]; exact ⟨by omega,h2.grow h⟩
 | bref g n off len v hn hp=>
  refine .bref g n off len v (Nat.le_trans hn (h.gen g)) fun k he=>?_
  obtain ⟨_,_,e,hd',hc⟩:=h.get hn (by intro e; rw [e] at he; cases he)
  obtain ⟨h1,h2⟩:=hp k (by
   cases hx:L.get g n<;>cases hy:L'.get g n<;>simp [hx,hy,zb1,HObj.boxLen] at hc he ⊢<;>omega)
  rw [e]; exact ⟨h1,h2⟩
 | map g n v hn hp=>
  refine .map g n v (Nat.le_trans hn (h.gen g)) fun hd=>?_
  obtain ⟨_,_,e,hd',_⟩:=h.get hn hd
  rw [e]; exact hp hd'
 | vref k n i o lo len v hn hp=>
  refine .vref k n i o lo len v (Nat.le_trans hn (h.gen _)) fun l' hl'=>?_
  obtain ⟨l,h1,h2,h3⟩:=h.row hn hl';obtain ⟨p1,p3⟩:=hp l h1
  have q1:l'.length=l.length:=by have:=congrArg List.length h2; simpa using this
  exact ⟨by omega,by rw [h3]; exact p3.grow h⟩
 | vept k n i o j off v hn hp=>
  refine .vept k n i o j off v (Nat.le_trans hn (h.gen _)) fun l' hl' hj=>?_
  obtain ⟨l,h1,h2,h3⟩:=h.row hn hl'
  have hlen:l'.length=l.length:=by have:=congrArg List.length h2; simpa using this
  obtain ⟨b,p1,p3⟩:=hp l h1 (by omega)
  exact ⟨b,by rw [h3]; exact p1,p3⟩
 | vmap k n i o v hn hp=>
  refine .vmap k n i o v (Nat.le_trans hn (h.gen _)) fun e' he'=>?_
  obtain ⟨es,h1,h2⟩:=h.mapRow hn he'
  rw [h2]; exact hp _ h1
 | agg ds ks vs us h1 _ h3 ih=>exact .agg ds ks vs us h1 ih h3
 | clo f a b va vb h1 h2 _ _ ih1 ih2=>exact .clo f a b va vb h1 h2 ih1 ih2
 | tup l vs h1 _ ih=>exact .tup l vs h1 ih
end Wf

namespace Wf
open Go Go.RowKit
theorem zfq {k k':Nat} (h:tb k=tb k'):k=k':=by unfold tb at h; omega
theorem zkj {t k:Nat} (h:t < 100000):tb k≠t:=by unfold tb; omega
theorem Rep.fl {w w':World} {A A':Nat→Prop} {N N':Nat} {γ γ':Nat→Nat→Option Nat} {d:D} {v:Value} (h:Rep w A N γ d v) (hf:d.flat=true) (hγ:∀ k i a,γ k i=some a→γ' k i=some a):Rep w' A' N' γ' d v∧v.oneCell'=true:=by
 cases h<;>simp [D.flat] at hf
 ·exact ⟨.bool _,rfl⟩
 ·exact ⟨.int _ _,rfl⟩
 ·exact ⟨.str _,rfl⟩
 ·exact ⟨.nilp,rfl⟩
 ·exact ⟨.nilfn,rfl⟩
 ·rename_i h; exact ⟨.h _ _ _ _ (hγ _ _ _ h),rfl⟩
 ·exact ⟨.nilm,rfl⟩
theorem Rep.flEl {w w':World} {A A':Nat→Prop} {N N':Nat} {γ γ':Nat→Nat→Option Nat} {d:D} {v:Value} (h:Rep w A N γ d v) (hf:d.flatEl=true) (hγ:∀ k i a,γ k i=some a→γ' k i=some a):Rep w' A' N' γ' d v:=by
 cases d with
 | agg cs=>
  cases h with
  | agg _ vs h1 h2 h3=>
   simp only [D.flatEl,List.all_eq_true] at hf
   exact .agg _ _ h1 (fun i d v hd hv=>((h2 i d v hd hv).fl (hf d (List.mem_of_getElem? hd)) hγ).1) h3
 | _=>exact (h.fl hf hγ).1
theorem zyF {w w':World} {b:Nat} (e:w'.heap[b]? =w.heap[b]?) (i:Nat):w'.frozen? ⟨b,i,none⟩=w.frozen? ⟨b,i,none⟩:=World.frozen?_of_block (w:=w) e
theorem Unfrozen.same {w w':World} {b n:Nat} (h:Unfrozen w b n) (e:w'.heap[b]? =w.heap[b]?):Unfrozen w' b n:=
 ⟨fun i hi=>by rw [zyF e]; exact h.at' i hi,fun x T fz hx=>h.le x T fz (by rw [←e]; exact hx)⟩
theorem CellOk.mono {γ γ':Nat→Nat→Option Nat} {w w':World} {sz:Nat} {β:Option Nat} {d:D} {u:Value} (h:CellOk γ w sz β d u) (hb:∀ b,β=some b→w'.heap[b]? =w.heap[b]?) (hγ:∀ k i a,γ k i=some a→γ' k i=some a):CellOk γ' w' sz β d u:=by
 cases h with
 | undef u=>exact .undef u
 | flat d u h1 h2=>exact .flat d u h1 (h2.fl h1 hγ).1
 | rowE a h=>exact .rowE a h
 | row l b cap x T fz vs h1 h2 h3 h4 h5 h6=>
  have e:=hb b h1
  exact .row l b cap x T fz vs h1 (by rw [e]; exact h2) (h3.same e) h4 h5 fun i d hd=>by
   obtain ⟨p1,p2,p3,p4,p5⟩:=h6 i d hd
   exact ⟨p1,p2.flEl p1 hγ,p3,p4,p5.mono e⟩
 | mp kk es b m k h1 h2 h3 h4=>
  have e:=hb b h1
  exact .mp kk es b m k h1 (by rw [e]; exact h2) h3 fun i p q hp hq=>by
   obtain ⟨p1,p2,p3⟩:=h4 i p q hp hq;exact ⟨p1,p2,p3.flEl p2 hγ⟩
theorem zbd {w:World} {b:Nat} {o:Obj} (h:w.heap[b]? =some o):b < w.heap.size:=by
 rcases Nat.lt_or_ge b w.heap.size with h' | h'
 ·exact h'
 ·rw [Array.getElem?_eq_none h'] at h; cases h
theorem za3 {α:Type} {l:List α} {i:Nat} {a:α} (h:l[i]? =some a):i < l.length:=by
 rcases Nat.lt_or_ge i l.length with h' | h'
 ·exact h'
 ·rw [List.getElem?_eq_none h'] at h; cases h
theorem zd4 {x:Array Value} {cs:List D} {o:Nat} {d:D} (h:x.size=cs.length) (hd:cs[o]? =some d):∃ u,x[o]? =some u:=by
 have ho:o < cs.length:=by
  rcases Nat.lt_or_ge o cs.length with h | h
  ·exact h
  ·rw [List.getElem?_eq_none h] at hd; cases hd
 exact ⟨x[o],by simp [h,ho]⟩
theorem ziJ {T:Tb} {i o:Nat} {x:D} (h:zdc T i o=some x):∃ cs,T[i]? =some cs∧cs[o]? =some x:=by
 unfold zdc at h
 cases hT:T[i]? with
 | none=>rw [hT] at h; cases h
 | some cs=>rw [hT] at h; exact ⟨cs,rfl,h⟩
theorem TabRel.block {L c R w} (h:TabRel L c R w) {k i:Nat} {q:Option Nat} {b:Nat} (ht:zcq L k i q) (hb:c.tab k i q=some b):∃ o,w.heap[b]? =some o:=by
 cases q with
 | none=>
  obtain ⟨wr,T,h1,h2⟩:=ht
  obtain ⟨b',x,ty,fz,p1,p2,_⟩:=h.obj k wr T i T[i] h1 (by simp [h2])
  simp only [Ctx.tab] at hb;rw [p1] at hb; cases hb
  exact ⟨_,p2⟩
 | some o=>
  obtain ⟨wr,T,y,h1,h2,h3⟩:=ht;obtain ⟨cs,e1,e2⟩:=ziJ h2;obtain ⟨b',x,ty,fz,p1,p2,p3,p4,p5⟩:=h.obj k wr T i cs h1 e1;obtain ⟨u,hu⟩:=zd4 p4 e2;obtain ⟨_,q1⟩:=p5 o y u e2 hu;simp only [Ctx.tab] at hb
  cases q1 with
  | undef=>simp [D.isRow] at h3
  | flat _ _ f1 _=>cases y<;>simp_all [D.isRow,D.flat]
  | rowE a e=>rw [e] at hb; cases hb
  | row l b' cap x T fz vs g1 g2=>rw [g1] at hb; cases hb; exact ⟨_,g2⟩
  | mp kk es b' m k g1 g2=>rw [g1] at hb; cases hb; exact ⟨_,g2⟩
theorem zby {L L':Loc} {k:Nat} (h:L' (tb k)=L (tb k)):za6 L' k=za6 L k:=by unfold za6; rw [h]
theorem zcq.same {L L':Loc} {k i:Nat} {q:Option Nat} (h:L' (tb k)=L (tb k)):zcq L' k i q↔zcq L k i q:=by
 cases q<;>simp only [zcq,zby h]
theorem TabRel.stable {L L' c c' R w w'} (h:TabRel L c R w) (hL:∀ k,L' (tb k)=L (tb k)) (hγ:c'.γ=c.γ) (hρ:c'.ρ=c.ρ) (hO:c'.O=c.O)
  (hw:∀ k i q b,zcq L k i q→c.tab k i q=some b→w'.heap[b]? =w.heap[b]?):TabRel L' c' R w':=by
 have ht:∀ k i q,c'.tab k i q=c.tab k i q:=fun k i q=>by cases q<;>simp only [Ctx.tab,hγ,hρ]
 refine ⟨fun k wr T i cs h1 h2=>?_,fun k wr T i b h1 h2=>?_,fun k i q k' i' q' b h1 h2 h3 h4=>?_,fun k T i q b h1 h2 h3=>?_,fun k T i q b h1 h2 h3=>?_⟩
 ·rw [zby (hL k)] at h1;obtain ⟨b,x,ty,fz,p1,p2,p3,p4,p5⟩:=h.obj k wr T i cs h1 h2
  have e:=hw k i none b ⟨wr,T,h1,by
   rcases Nat.lt_or_ge i T.length with h | h
   ·exact h
   ·rw [List.getElem?_eq_none h] at h2; cases h2⟩ p1
  refine ⟨b,x,ty,fz,by rw [hγ]; exact p1,by rw [e]; exact p2,p3.same e,p4,fun o d u hd hu=>⟨(p5 o d u hd hu).1,?_⟩⟩
  have hc:=(p5 o d u hd hu).2;rw [hγ,hρ]
  by_cases hr:d.isRow=true
  ·exact hc.mono (fun b hb=>hw k i (some o) b ⟨wr,T,d,h1,by unfold zdc; rw [h2]; exact hd,hr⟩ hb) fun _ _ _ h=>h
  ·cases hc with
   | undef u=>exact .undef u
   | flat d u h1 h2=>exact .flat d u h1 (h2.fl h1 fun _ _ _ h=>h).1
   | rowE a h=>exact absurd rfl hr
   | row=>exact absurd rfl hr
   | mp=>exact absurd rfl hr
 ·rw [zby (hL k)] at h1;rw [hγ] at h2;exact h.tight k wr T i b h1 h2
 ·rw [zcq.same (hL _)] at h1 h2;rw [ht] at h3 h4;exact h.inj k i q k' i' q' b h1 h2 h3 h4
 ·rw [zby (hL k)] at h1;rw [zcq.same (hL _)] at h2;rw [ht] at h3;rw [hO];exact h.wr k T i q b h1 h2 h3
 ·rw [zby (hL k)] at h1;rw [zcq.same (hL _)] at h2;rw [ht] at h3;rw [hO];exact h.ro k T i q b h1 h2 h3
def Ctx.at (c:Ctx) (t:Nat) (b:Option Nat):Ctx:={ c with ι:=fun g=>if g=t then b else c.ι g }
theorem Loc.set_same (L:Loc) (t x):(L.set t x) t=x:=by simp [Loc.set]
theorem Loc.set_ne (L:Loc) {t g} (x) (h:g≠t):(L.set t x) g=L g:=by simp [Loc.set,h]
theorem Unfrozen.of_heap {w w':World} {b n} (h:Unfrozen w b n) (e:w'.heap[b]? =w.heap[b]?):Unfrozen w' b n:=h.same e
theorem zgt.grow {c L w c' L' w'} (h:Grow c L w c' L' w') {N:Nat} {β:Option Nat} {x:HObj} (ho:zgt c L w N β x)
  (hb:∀ b,β=some b→x≠.dead→w'.heap[b]? =w.heap[b]?):zgt c' L' w' N β x:=by
 cases x with
 | dead=>trivial
 | tbl wr T=>trivial
 | box ag ds=>
  obtain ⟨b,x,T,fz,h1,h2,h3,h4,h5⟩:=ho
  have e:=hb b h1 (by simp)
  exact ⟨b,x,T,fz,h1,by rw [e]; exact h2,h3.of_heap e,h4,fun i d u hd hu=>⟨((h5 i d u hd hu).1).grow h,(h5 i d u hd hu).2⟩⟩
 | fbox ag ds=>
  obtain ⟨b,x,T,fz,h1,h2,h4,h5⟩:=ho
  have e:=hb b h1 (by simp)
  exact ⟨b,x,T,fz,h1,by rw [e]; exact h2,h4,fun i d u hd hu=>⟨((h5 i d u hd hu).1).grow h,(h5 i d u hd hu).2⟩⟩
 | vbox ag ds ks vs=>
  obtain ⟨b,x,T,fz,h1,h2,h3,h4,h5⟩:=ho
  have e:=hb b h1 (by simp)
  exact ⟨b,x,T,fz,h1,by rw [e]; exact h2,h3.of_heap e,h4,fun i d u hd hu=>⟨((h5 i d u hd hu).1).grow h,(h5 i d u hd hu).2⟩⟩
 | arr sz els l=>
  cases β with
  | none=>exact ho
  | some b=>
   obtain ⟨x,T,fz,h2,h3,h4,vs,h5⟩:=ho
   have e:=hb b rfl (by simp)
   exact ⟨x,T,fz,by rw [e]; exact h2,h3.of_heap e,h4,vs,fun i d hd=>⟨((h5 i d hd).1).grow h,(h5 i d hd).2.1,(h5 i d hd).2.2.mono e⟩⟩
 | trow sz els=>
  cases β with
  | none=>exact ho
  | some b=>
   obtain ⟨x,T,fz,h2,h3,h4,vs,h5⟩:=ho
   have e:=hb b rfl (by simp)
   exact ⟨x,T,fz,by rw [e]; exact h2,h3.of_heap e,h4,vs,fun i d hd=>⟨((h5 i d hd).1).grow h,(h5 i d hd).2.1,(h5 i d hd).2.2.mono e⟩⟩
 | map kk es=>
  obtain ⟨b,m,k,h1,h2,h3,h4⟩:=ho
  have e:=hb b h1 (by simp)
  exact ⟨b,m,k,h1,by rw [e]; exact h2,h3,fun i p q hp hq=>⟨(h4 i p q hp hq).1,((h4 i p q hp hq).2).grow h⟩⟩
section
variable {c:Ctx} {N:Nat} {w0 w:World} {O0:Nat→Prop} {L:Loc}
theorem Mem.no_tab (h:Mem c N w0 O0 L w) {g:Nat} (h1:(L g).2≠.dead) (h2:∀ wr T,(L g).2≠.tbl wr T) (k:Nat):tb k≠g:=by
 rintro rfl
 rcases h.only k with e | ⟨wr,T,e⟩
 ·exact h1 e
 ·exact h2 wr T e
theorem Mem.live_tab (h:Mem c N w0 O0 L w) {g:Nat} (h1:(L g).2.live=true) (k:Nat):tb k≠g:=
 h.no_tab (fun e=>by rw [e] at h1; cases h1) (fun wr T e=>by rw [e] at h1; cases h1) k
theorem Mem.not_tab (h:Mem c N w0 O0 L w) {k i:Nat} {q:Option Nat} {b:Nat} (h1:zcq L k i q) (h2:c.tab k i q=some b) (h3:N≤b∨O0 b) (h4:¬ c.O b):False:=by
 have hT:∃ wr T,za6 L k=some (wr,T):=by
  cases q with
  | none=>obtain ⟨wr,T,h,_⟩:=h1; exact ⟨wr,T,h⟩
  | some o=>obtain ⟨wr,T,_,h,_⟩:=h1; exact ⟨wr,T,h⟩
 obtain ⟨wr,T,hT⟩:=hT
 cases wr with
 | true=>exact h4 (h.tab.wr k T i q b hT h1 h2)
 | false=>
  obtain ⟨a1,a2⟩:=(h.tab.ro k T i q b hT h1 h2).2;rcases h3 with h3 | h3
  ·omega
  ·exact a2 h3
theorem zrl {c c':Ctx} {L L':Loc} (hL:∀ k,L' (tb k)=L (tb k)) (hγ:c'.γ=c.γ) (hρ:c'.ρ=c.ρ):Stay c L c' L':=
 fun k h=>⟨by rw [zby (hL k)]; exact h,by rw [hγ],by rw [hρ]⟩
theorem zrm {c c':Ctx} {L L':Loc} {k:Nat} {T:Tb} (hk:za6 L k=some (true,T)) (hL:∀ q,q≠k→L' (tb q)=L (tb q)) (hγ:∀ q,q≠k→c'.γ q=c.γ q) (hρ:∀ q,q≠k→c'.ρ q=c.ρ q):Stay c L c' L':=fun q h=>by
 have e:q≠k:=by rintro rfl; exact h T hk
 exact ⟨by rw [zby (hL q e)]; exact h,hγ q e,hρ q e⟩
theorem zmX {c:Ctx} {L:Loc} {g:Nat} {x:HObj} (hc:zb1 (L g).2 x):Stay c L c (L.set g ((L g).1,x)):=fun k h=>by
 refine ⟨fun T e=>?_,rfl,rfl⟩
 by_cases eg:tb k=g
 ·subst eg;unfold za6 at e h;rw [Loc.set_same] at e;cases x<;>simp at e;obtain ⟨rfl,rfl⟩:=e;cases hx:(L (tb k)).2<;>rw [hx] at hc h<;>simp [zb1] at hc;rename_i wr' T'
  exact h T' (by simp [hc.1])
 ·rw [zby (Loc.set_ne _ _ eg)] at e; exact h T e
theorem Grow.alloc (h:Mem c N w0 O0 L w) (o:Obj) (t n:Nat) (x:HObj) (ht:t < 100000) (hn:(L t).1 < n):
  Grow c L w (c.at t (some w.heap.size)) (L.set t (n,x)) (w.alloc o):=by
 refine ⟨by simp,fun b _ hb=>Below.heap_alloc w o b hb,?_,fun _ _ _ h=>h,fun _ _ _ _ _=>rfl,zrl (fun k=>Loc.set_ne _ _ (zkj ht)) rfl rfl,?_,?_,?_⟩
 ·rintro b hb (ho | ⟨g,h1,h2⟩)
  ·exact .inl ho
  ·by_cases hg:g=t
   ·subst hg;simp [Ctx.at] at h1; omega
   ·simp only [Ctx.at,hg,if_false] at h1;rw [Loc.set_ne _ _ hg] at h2;exact .inr ⟨g,h1,h2⟩
 ·intro b y T fz hb _;refine ⟨y,fz,?_,rfl⟩
  have hlt:b < w.heap.size:=by
   rcases Nat.lt_or_ge b w.heap.size with h' | h'
   ·exact h'
   ·rw [Array.getElem?_eq_none h'] at hb; cases hb
  rw [Below.heap_alloc w o b hlt]; exact hb
 ·intro g
  by_cases hg:g=t
  ·subst hg; rw [Loc.set_same]; omega
  ·rw [Loc.set_ne _ _ hg]; omega
 ·intro g hg'
  by_cases hg:g=t
  ·subst hg; rw [Loc.set_same] at hg'; dsimp at hg'; omega
  ·rw [Loc.set_ne _ _ hg]; simp only [Ctx.at,hg,if_false]; exact .inr ⟨trivial,zb1.refl _⟩
theorem Mem.alloc (h:Mem c N w0 O0 L w) (o:Obj) (t n:Nat) (x:HObj) (ht:t < 100000) (hn:(L t).1 < n)
  (hx:zgt (c.at t (some w.heap.size)) (L.set t (n,x)) (w.alloc o) N (some w.heap.size) x):
  Mem (c.at t (some w.heap.size)) N w0 O0 (L.set t (n,x)) (w.alloc o):=by
 have hg:=Grow.alloc h o t n x ht hn
 have hold:∀ b,b < w.heap.size→(w.alloc o).heap[b]? =w.heap[b]? :=fun b hb=>Below.heap_alloc w o b hb
 refine ⟨?_,?_,?_,?_,?_,?_,?_,?_,h.size0,h.os,h.tape,h.output,?_,?_⟩
 ·intro g
  by_cases e:g=t
  ·subst e; rw [Loc.set_same]; simpa [Ctx.at] using hx
  ·rw [Loc.set_ne _ _ e]; simp only [Ctx.at,e,if_false]
   exact (h.obj g).grow hg fun b hb hd=>hold b (h.mine g b hb hd).2.1
 ·intro g g' b h1 h2 h3 h4
  by_cases e:g=t<;>by_cases e':g'=t
  ·rw [e,e']
  ·subst e;simp only [Ctx.at,if_true,e',if_false] at h1 h2;rw [Loc.set_ne _ _ e'] at h4;have:=(h.mine g' b h2 h4).2.1;simp at h1; omega
  ·subst e';simp only [Ctx.at,if_true,e,if_false] at h1 h2;rw [Loc.set_ne _ _ e] at h3;have:=(h.mine g b h1 h3).2.1;simp at h2; omega
  ·simp only [Ctx.at,e,e',if_false] at h1 h2;rw [Loc.set_ne _ _ e] at h3;rw [Loc.set_ne _ _ e'] at h4;exact h.inj g g' b h1 h2 h3 h4
 ·intro g b h1 h2
  by_cases e:g=t
  ·subst e;simp only [Ctx.at,if_true] at h1;have hs:=h.size;simp at h1
   refine ⟨.inl (by omega),by simp; omega,fun ho=>?_⟩
   have:=(h.osub b ho).1; omega
  ·simp only [Ctx.at,e,if_false] at h1;rw [Loc.set_ne _ _ e] at h2;obtain ⟨a1,a2,a3⟩:=h.mine g b h1 h2
   exact ⟨a1,by simp; omega,a3⟩
 ·intro g b h1 h2 h3
  by_cases e:g=t
  ·subst e;simp only [Ctx.at,if_true] at h1;have hs:=h.size;simp at h1;intro _;omega
  ·simp only [Ctx.at,e,if_false] at h1;rw [Loc.set_ne _ _ e] at h2 h3;exact h.mineN g b h1 h2 h3
 ·exact h.tab.stable (fun k=>Loc.set_ne _ _ (zkj ht)) rfl rfl rfl fun k i q b h1 h2=>hold b (by obtain ⟨o,ho⟩:=h.tab.block h1 h2; exact zbd ho)
 ·intro k; simp only [Ctx.at,zkj ht,if_false]; exact h.iotab k
 ·intro k; rw [Loc.set_ne _ _ (zkj ht)]; exact h.only k
 ·have:=h.size; simp; omega
 ·intro b hb hO; rw [hold b (by have:=h.size; omega)]; exact h.keep b hb hO
 ·intro b hb; obtain ⟨a1,a2⟩:=h.osub b hb; exact ⟨by simp; omega,a2⟩
theorem Grow.less (h:Mem c N w0 O0 L w) (g:Nat) (x:HObj) (hx:x=.dead∨∃ sz els l,(L g).2=.arr sz els l∧x=.arr sz els false):
  Grow c L w c (L.set g ((L g).1,x)) w:=by
 refine ⟨Nat.le_refl _,fun _ _ _=>rfl,?_,fun _ _ _ h=>h,fun _ _ _ _ _=>rfl,zmX (by rcases hx with rfl | ⟨_,_,_,hl,rfl⟩<;>first | (rw [hl]; exact ⟨rfl,rfl⟩) | (cases (L g).2<;>trivial)),fun b y T fz hb _=>⟨y,fz,hb,rfl⟩,?_,?_⟩
 ·rintro b hb (ho | ⟨k,h1,h2⟩)
  ·exact .inl ho
  ·by_cases e:k=g
   ·subst e; rw [Loc.set_same] at h2;rcases hx with rfl | ⟨sz,els,l,_,rfl⟩<;>simp [HObj.live] at h2
   ·rw [Loc.set_ne _ _ e] at h2; exact .inr ⟨k,h1,h2⟩
 ·intro k
  by_cases e:k=g
  ·subst e; rw [Loc.set_same]; exact Nat.le_refl _
  ·rw [Loc.set_ne _ _ e]; exact Nat.le_refl _
 ·intro k _
  by_cases e:k=g
  ·subst e; rw [Loc.set_same];rcases hx with rfl | ⟨sz,els,l,hl,rfl⟩
   ·exact .inl rfl
   ·exact .inr ⟨rfl,by rw [hl]; exact ⟨rfl,rfl⟩⟩
  ·rw [Loc.set_ne _ _ e]; exact .inr ⟨rfl,zb1.refl _⟩
theorem Mem.less (h:Mem c N w0 O0 L w) (g:Nat) (x:HObj) (ht:∀ k,tb k≠g) (hx:x=.dead∨∃ sz els l,(L g).2=.arr sz els l∧x=.arr sz els false):
  Mem c N w0 O0 (L.set g ((L g).1,x)) w:=by
 have hg:=Grow.less h g x hx
 have hnd:∀ k,((L.set g ((L g).1,x)) k).2≠.dead→(L k).2≠.dead:=by
  intro k hk
  by_cases e:k=g
  ·subst e; rw [Loc.set_same] at hk;rcases hx with rfl | ⟨sz,els,l,hl,rfl⟩
   ·exact absurd rfl hk
   ·rw [hl]; simp
  ·rw [Loc.set_ne _ _ e] at hk; exact hk
 refine ⟨?_,fun k k' b h1 h2 h3 h4=>h.inj k k' b h1 h2 (hnd k h3) (hnd k' h4),fun k b h1 h2=>h.mine k b h1 (hnd k h2),fun k b h1 h2 h3=>h.mineN k b h1 (hnd k h2) (fun sz els e=>by
   by_cases ek:k=g
   ·subst ek;rw [Loc.set_same] at h2;rcases hx with rfl | ⟨_,_,_,hl,rfl⟩
    ·exact h2 rfl
    ·rw [hl] at e; cases e
   ·rw [Loc.set_ne _ _ ek] at h3; exact h3 sz els e),h.tab.stable (fun k=>Loc.set_ne _ _ (ht k)) rfl rfl rfl fun _ _ _ _ _ _=>rfl,h.iotab,
  fun k=>by rw [Loc.set_ne _ _ (ht k)]; exact h.only k,h.size,h.size0,h.os,h.tape,h.output,h.keep,h.osub⟩
 intro k
 by_cases e:k=g
 ·subst e; rw [Loc.set_same];rcases hx with rfl | ⟨sz,els,l,hl,rfl⟩
  ·trivial
  ·have h1:=h.obj k;rw [hl] at h1
   exact zgt.grow (x:=.arr sz els false) hg h1 fun _ _ _=>rfl
 ·rw [Loc.set_ne _ _ e]; exact (h.obj k).grow hg fun _ _ _=>rfl
theorem Grow.fix (h:Mem c N w0 O0 L w) (g:Nat) (x:HObj) (hl:x.live=false) (hc:zb1 (L g).2 x):
  Grow c L w c (L.set g ((L g).1,x)) w:=by
 refine ⟨Nat.le_refl _,fun _ _ _=>rfl,?_,fun _ _ _ h=>h,fun _ _ _ _ _=>rfl,zmX hc,fun b y T fz hb _=>⟨y,fz,hb,rfl⟩,?_,?_⟩
 ·rintro b hb (ho | ⟨k,h1,h2⟩)
  ·exact .inl ho
  ·by_cases e:k=g
   ·subst e; rw [Loc.set_same] at h2; rw [hl] at h2; cases h2
   ·rw [Loc.set_ne _ _ e] at h2; exact .inr ⟨k,h1,h2⟩
 ·intro k
  by_cases e:k=g
  ·subst e; rw [Loc.set_same]; exact Nat.le_refl _
  ·rw [Loc.set_ne _ _ e]; exact Nat.le_refl _
 ·intro k _
  by_cases e:k=g
  ·subst e; rw [Loc.set_same]; exact .inr ⟨rfl,hc⟩
  ·rw [Loc.set_ne _ _ e]; exact .inr ⟨rfl,zb1.refl _⟩
theorem Mem.fix (h:Mem c N w0 O0 L w) (g:Nat) (x:HObj) (ht:∀ k,tb k≠g) (hl:x.live=false) (hc:zb1 (L g).2 x) (hnz:(L g).2≠.dead) (hnr:∀ sz els,(L g).2≠.trow sz els) (hx:zgt c (L.set g ((L g).1,x)) w N (c.ι g) x):
  Mem c N w0 O0 (L.set g ((L g).1,x)) w:=by
 have hg:=Grow.fix h g x hl hc
 have hnd:∀ k,((L.set g ((L g).1,x)) k).2≠.dead→(L k).2≠.dead:=by
  intro k hk
  by_cases e:k=g
  ·subst e; exact hnz
  ·rw [Loc.set_ne _ _ e] at hk; exact hk
 refine ⟨?_,fun k k' b h1 h2 h3 h4=>h.inj k k' b h1 h2 (hnd k h3) (hnd k' h4),fun k b h1 h2=>h.mine k b h1 (hnd k h2),fun k b h1 h2 h3=>h.mineN k b h1 (hnd k h2) (fun sz els e=>by
   by_cases ek:k=g
   ·subst ek; exact hnr sz els e
   ·rw [Loc.set_ne _ _ ek] at h3; exact h3 sz els e),h.tab.stable (fun k=>Loc.set_ne _ _ (ht k)) rfl rfl rfl fun _ _ _ _ _ _=>rfl,h.iotab,
  fun k=>by rw [Loc.set_ne _ _ (ht k)]; exact h.only k,h.size,h.size0,h.os,h.tape,h.output,h.keep,h.osub⟩
 intro k
 by_cases e:k=g
 ·subst e; rw [Loc.set_same]; exact hx
 ·rw [Loc.set_ne _ _ e]; exact (h.obj k).grow hg fun _ _ _=>rfl
theorem Grow.write (h:Mem c N w0 O0 L w) {w':World} {g b:Nat} (x:HObj) (hb:c.ι g=some b) (hl:(L g).2.live=true) (hc:zb1 (L g).2 x)
  (hs:w'.heap.size=w.heap.size) (ho:∀ k,k≠b→w'.heap[k]? =w.heap[k]?)
  (hz:∀ y T fz,w.heap[b]? =some (.cells y T fz)→∃ y' fz',w'.heap[b]? =some (.cells y' T fz')∧y'.size=y.size):
  Grow c L w c (L.set g ((L g).1,x)) w':=by
 refine ⟨by omega,?_,?_,fun _ _ _ h=>h,fun _ _ _ _ _=>rfl,zmX hc,?_,?_,?_⟩
 ·intro k hk _
  refine ho k fun e=>hk (.inr ⟨g,?_,hl⟩)
  rw [hb,e]
 ·rintro k _ (hO | ⟨g',h1,h2⟩)
  ·exact .inl hO
  ·by_cases e:g'=g
   ·subst e; exact .inr ⟨g',h1,hl⟩
   ·rw [Loc.set_ne _ _ e] at h2; exact .inr ⟨g',h1,h2⟩
 ·intro k y T fz hk _
  by_cases e:k=b
  ·subst e; exact hz y T fz hk
  ·exact ⟨y,fz,by rw [ho k e]; exact hk,rfl⟩
 ·intro k
  by_cases e:k=g
  ·subst e; rw [Loc.set_same]; exact Nat.le_refl _
  ·rw [Loc.set_ne _ _ e]; exact Nat.le_refl _
 ·intro k _
  by_cases e:k=g
  ·subst e; rw [Loc.set_same]; exact .inr ⟨rfl,hc⟩
  ·rw [Loc.set_ne _ _ e]; exact .inr ⟨rfl,zb1.refl _⟩
theorem Mem.write (h:Mem c N w0 O0 L w) {w':World} {g b:Nat} (x:HObj) (hb:c.ι g=some b) (hnr:∀ sz els,(L g).2≠.trow sz els) (hl:(L g).2.live=true) (hc:zb1 (L g).2 x)
  (hs:w'.heap.size=w.heap.size) (ho:∀ k,k≠b→w'.heap[k]? =w.heap[k]?)
  (hz:∀ y T fz,w.heap[b]? =some (.cells y T fz)→∃ y' fz',w'.heap[b]? =some (.cells y' T fz')∧y'.size=y.size)
  (hos:w'.os=w.os) (htape:w'.tape=w.tape) (hout:w'.output=w.output)
  (hx:zgt c (L.set g ((L g).1,x)) w' N (some b) x):Mem c N w0 O0 (L.set g ((L g).1,x)) w':=by
 have hg:=Grow.write h x hb hl hc hs ho hz;have ht:=h.live_tab hl
 have hld:(L g).2≠.dead:=by intro e; rw [e] at hl; cases hl
 have hnd:∀ k,((L.set g ((L g).1,x)) k).2≠.dead→(L k).2≠.dead:=by
  intro k hk
  by_cases e:k=g
  ·subst e; exact hld
  ·rw [Loc.set_ne _ _ e] at hk; exact hk
 have hmine:=h.mine g b hb hld
 refine ⟨?_,fun k k' y h1 h2 h3 h4=>h.inj k k' y h1 h2 (hnd k h3) (hnd k' h4),fun k y h1 h2=>?_,fun k y h1 h2 h3=>h.mineN k y h1 (hnd k h2) (fun sz els e=>by
   by_cases ek:k=g
   ·subst ek; exact hnr sz els e
   ·rw [Loc.set_ne _ _ ek] at h3; exact h3 sz els e),?_,h.iotab,fun k=>by rw [Loc.set_ne _ _ (ht k)]; exact h.only k,by rw [hs]; exact h.size,h.size0,by rw [hos]; exact h.os,by rw [htape]; exact h.tape,by rw [hout]; exact h.output,?_,fun y hy=>by rw [hs]; exact h.osub y hy⟩
 ·intro k
  by_cases e:k=g
  ·subst e; rw [Loc.set_same,hb]; exact hx
  ·rw [Loc.set_ne _ _ e]
   refine (h.obj k).grow hg fun y hy hd=>ho y fun e2=>e ?_
   subst e2;exact h.inj k g _ hy hb hd hld
 ·obtain ⟨a1,a2,a3⟩:=h.mine k y h1 (hnd k h2)
  exact ⟨a1,by omega,a3⟩
 ·refine h.tab.stable (fun k=>Loc.set_ne _ _ (ht k)) rfl rfl rfl fun k i q y h1 h2=>ho y ?_
  rintro rfl
  exact h.not_tab h1 h2 hmine.1 hmine.2.2
 ·intro y hy hO; rw [ho y (by rintro rfl; rcases hmine.1 with h | h<;>first | exact hO h | omega)]; exact h.keep y hy hO
end
end Wf

namespace Wf
open Go Go.RowKit
theorem zF1 {P:Program} {t:TypeId} {ag:Bool} (h:zkE P t=some ag) (w:World):(isAgg t).run P w=.ok ag w:=by
 unfold zkE at h;unfold isAgg
 cases hu:P.underlying t with
 | none=>rw [hu] at h; cases h
 | some d=>
  rw [hu] at h;simp only [Sem.run_bind,run_underlying hu,Result.andThen_ok];cases d<;>simp at h<;>subst h<;>rfl
theorem zdI {P:Program} {t:TypeId} {n:Nat} (h:zb9 P t=some n) (w:World):(Go.sizeOf t).run P w=.ok n w:=by
 unfold zb9 at h
 cases hi:P.info? t with
 | none=>rw [hi] at h; cases h
 | some i=>
  rw [hi] at h; simp at h;unfold Go.sizeOf typeInfo;simp [hi,h]
theorem zbt {P:Program} {t:TypeId} {d:TypeDesc} (h:P.underlying t=some d) (w:World):(underlying t).run P w=.ok d w:=run_underlying h w
theorem zwV {P:Program} {w:World} {b o:Nat} {vs:Array Value} (h:∀ (j:Nat) (u:Value),vs[j]? =some u→w.cell? ⟨b,o+j,none⟩=some u):
  (loadCells ⟨b,o,none⟩ vs.size).run P w=.ok vs w:=by
 have:=run_loadCells_list (P:=P) w ⟨b,o,none⟩ vs.toList (fun j v hj=>by
  rw [Addr.add_lit]; exact h j v (by simpa using hj))
 simpa using this
theorem zrn {P:Program} {w:World} {t:TypeId} {ag:Bool} {n b o:Nat} {v:Value} (hag:zkE P t=some ag) (hn:zb9 P t=some n)
  (hv:if ag then ∃ vs,v=.agg vs∧vs.size=n else v.oneCell'=true) (hc:zdZ w b o v):(loadVar t ⟨b,o,none⟩).run P w=.ok v w:=by
 unfold loadVar;simp only [Sem.run_bind,zF1 hag,Result.andThen_ok]
 cases ag with
 | true=>
  obtain ⟨vs,rfl,rfl⟩:=by simpa using hv
  simp [zdI hn,zwV (P:=P) (w:=w) (b:=b) (o:=o) (vs:=vs) hc]
 | false=>
  have h1:v.oneCell'=true:=by simpa using hv
  have:=hc 0 v (by rw [zbm h1]; rfl)
  simp at this;simp [this]
def splice (x:Array Value) (k:Nat) (vs:List Value):Array Value:=(x.toList.take k++vs++x.toList.drop (k+vs.length)).toArray
theorem zc0 {x:Array Value} {k:Nat} {vs:List Value} (h:k+vs.length≤x.size):(splice x k vs).size=x.size:=by
 simp [splice]; omega
theorem zcx {x:Array Value} {k:Nat} {vs:List Value} (h:k+vs.length≤x.size) (j:Nat):
  (splice x k vs)[j]? =if k≤j∧j < k+vs.length then vs[j - k]? else x[j]? :=by
 have hk:(x.toList.take k).length=k:=by simp; omega
 simp only [splice,List.getElem?_toArray,List.append_assoc];split
 ·rename_i hj
  rw [List.getElem?_append_right (by omega),hk,List.getElem?_append_left (by omega)]
 ·rename_i hj
  by_cases h1:j < k
  ·rw [List.getElem?_append_left (by omega),List.getElem?_take,if_pos h1]; simp
  ·rw [List.getElem?_append_right (by omega),hk,List.getElem?_append_right (by omega),List.getElem?_drop,
    show k+vs.length+(j - k - vs.length)=j by omega]; simp
def put (w:World) (b:Nat) (x:Array Value) (T:TypeId) (fz:Nat×Nat):World:={ w with heap:=w.heap.setIfInBounds b (.cells x T fz) }
theorem zcy {w:World} {b:Nat} {x T fz} (hb:b < w.heap.size) (k:Nat):(put w b x T fz).heap[k]? =if k=b then some (.cells x T fz) else w.heap[k]? :=by
 unfold put
 by_cases h:k=b
 ·subst h; simp [hb]
 ·simp [h,Array.getElem?_setIfInBounds_ne (Ne.symm h)]
theorem zyG {w:World} {b o:Nat} {x:Array Value} {T fz} (hb:w.heap[b]? =some (.cells x T fz)) (v:Value):
  w.setCell ⟨b,o,none⟩ v=put w b (x.setIfInBounds o v) T fz:=by
 have hlt:b < w.heap.size:=by
  rcases Nat.lt_or_ge b w.heap.size with h' | h'
  ·exact h'
  ·rw [Array.getElem?_eq_none h'] at hb; cases hb
 unfold World.setCell put;congr 1;apply Array.ext_getElem?;intro k;simp only [Array.getElem?_modify]
 by_cases h:k=b
 ·subst h
  have he:w.heap[k]=.cells x T fz:=by rw [Array.getElem?_eq_getElem hlt] at hb; exact Option.some.inj hb
  simp [hlt,he]
 ·simp [Ne.symm h]
theorem ztS {w:World} {b:Nat} {x y:Array Value} {T fz} (hb:w.heap[b]? =some (.cells x T fz)) (i:Nat):(put w b y T fz).frozen? ⟨b,i,none⟩=w.frozen? ⟨b,i,none⟩:=by
 have hlt:b < w.heap.size:=by
  rcases Nat.lt_or_ge b w.heap.size with h' | h'
  ·exact h'
  ·rw [Array.getElem?_eq_none h'] at hb; cases hb
 unfold World.frozen?;rw [zcy hlt]; simp [hb]
theorem Unfrozen.put {w:World} {b n m:Nat} {x y:Array Value} {T fz} (h:Unfrozen w b n) (hb:w.heap[b]? =some (.cells x T fz)) (hm:m≤n):Unfrozen (Wf.put w b y T fz) b m:=by
 have hlt:b < w.heap.size:=by
  rcases Nat.lt_or_ge b w.heap.size with h' | h'
  ·exact h'
  ·rw [Array.getElem?_eq_none h'] at hb; cases hb
 refine ⟨fun i hi=>by rw [ztS hb]; exact h.at' i (by omega),fun x' T' fz' hx=>?_⟩
 rw [zcy hlt,if_pos rfl] at hx;cases hx;exact h.le _ _ _ hb
theorem Unfrozen.new (w:World) (x:Array Value) (T:TypeId):Unfrozen (w.alloc (.cells x T)) w.heap.size x.size:=by
 refine ⟨fun i _=>World.frozen?_alloc_new w x T i,fun x' T' fz' hx=>?_⟩
 have:(w.alloc (.cells x T)).heap[w.heap.size]? =some (.cells x T):=by
  show (w.heap.push _)[w.heap.size]? =_;simp
 rw [this] at hx;cases hx;exact Nat.le_refl _
theorem zro {x:Array Value} {k:Nat} {v:Value} {vs:List Value} (h:k+(v::vs).length≤x.size):splice (x.setIfInBounds k v) (k+1) vs=splice x k (v::vs):=by
 simp at h;apply Array.ext_getElem?;intro j
 rw [zcx (by simp; omega),zcx (by simp; omega)]
 simp only [List.length_cons]
 by_cases h1:j=k
 ·subst h1
  rw [if_neg (by omega),if_pos (by omega)]
  have hj:j < x.size:=by omega
  simp [hj]
 ·by_cases h2:k+1≤j∧j < k+1+vs.length
  ·rw [if_pos h2,if_pos (by omega),show j - k=(j - (k+1))+1 by omega]; simp
  ·rw [if_neg h2,if_neg (by omega),Array.getElem?_setIfInBounds_ne (Ne.symm h1)]
theorem zGr (w:World) (b:Nat) (x y:Array Value) (T fz):put (put w b x T fz) b y T fz=put w b y T fz:=by
 unfold put; simp
theorem ztT (x:Array Value) (k:Nat):splice x k []=x:=by simp [splice]
theorem zzT {w:World} {b:Nat} {x:Array Value} {T fz} (hb:w.heap[b]? =some (.cells x T fz)):put w b x T fz=w:=by
 have hlt:b < w.heap.size:=by
  rcases Nat.lt_or_ge b w.heap.size with h' | h'
  ·exact h'
  ·rw [Array.getElem?_eq_none h'] at hb; cases hb
 have:w.heap.setIfInBounds b (.cells x T fz)=w.heap:=by
  apply Array.ext_getElem?;intro k
  by_cases h:k=b
  ·subst h; rw [hb]; simp [hlt]
  ·rw [Array.getElem?_setIfInBounds_ne (Ne.symm h)]
 unfold put; rw [this]
theorem zdJ {P:Program} {b o:Nat} {T:TypeId} {fz:Nat×Nat}:∀ (vs:List Value) (i:Nat) (x:Array Value) (w:World),w.heap[b]? =some (.cells x T fz)→
  o+i+vs.length≤x.size→(∀ j,o+i≤j→j < o+i+vs.length→w.frozen? ⟨b,j,none⟩=false)→(∀ v∈vs,v.oneCell'=true)→
  (storeCells ⟨b,o,none⟩ vs i).run P w=.ok () (put w b (splice x (o+i) vs) T fz)
 | [],i,x,w,hb,_,_,_=>by
  rw [ztT,zzT hb]; simp [storeCells]
 | v::vs,i,x,w,hb,hs,hf,h1=>by
  simp only [List.length_cons] at hs hf
  have hc:w.cell? ⟨b,o+i,none⟩=some (x[o+i]'(by omega)):=by simp [World.cell?,hb]
  have hf0:=hf (o+i) (by omega) (by omega)
  have hlt:b < w.heap.size:=by
   rcases Nat.lt_or_ge b w.heap.size with h' | h'
   ·exact h'
   ·rw [Array.getElem?_eq_none h'] at hb; cases hb
  have ih:=zdJ (P:=P) (o:=o) (T:=T) (fz:=fz) vs (i+1) (x.setIfInBounds (o+i) v) (put w b (x.setIfInBounds (o+i) v) T fz)
   (by rw [zcy hlt,if_pos rfl]) (by simp; omega) (fun j hj hj'=>by rw [ztS hb]; exact hf j (by omega) (by omega)) (fun u hu=>h1 u (by simp [hu]))
  rw [zGr,show o+(i+1)=o+i+1 by omega,zro (by simp; omega)] at ih
  simp only [storeCells,Sem.run_bind,Addr.add_lit,run_store P w _ v .plain (h1 v (by simp)),hc,hf0]
  simp only [Bool.false_eq_true,if_false,Result.andThen_ok,zyG hb];exact ih
theorem zwW {P:Program} {b o n:Nat} {t T:TypeId} {fz:Nat×Nat} {x:Array Value} {w:World} {v:Value} (hn:zb9 P t=some n) (hb:w.heap[b]? =some (.cells x T fz))
  (hv:v.cells.size=n) (hs:o+n≤x.size) (hf:∀ j,o≤j→j < o+n→w.frozen? ⟨b,j,none⟩=false) (h1:∀ (i:Nat) (u:Value),v.cells[i]? =some u→u.oneCell'=true):
  (storeVar t ⟨b,o,none⟩ v).run P w=.ok () (put w b (splice x o v.cells.toList) T fz):=by
 have hl:v.cells.toList.length=n:=by simpa using hv
 have:=zdJ (P:=P) (b:=b) (o:=o) (T:=T) (fz:=fz) v.cells.toList 0 x w hb (by omega) (fun j hj hj'=>hf j (by omega) (by omega))
  (fun u hu=>by
   obtain ⟨i,hi,rfl⟩:=List.mem_iff_getElem.1 hu
   exact h1 i _ (by simp at hi ⊢))
 unfold storeVar;simp [zdI hn,hv];simpa using this
section
variable {c:Ctx} {L:Loc} {w:World} {N:Nat}
theorem Val.dat {x:D} {u:Value} (h:Val c L w N (.d x) u):Rep w (own c L) N c.γ x u:=by cases h; assumption
theorem Val.int {k n} {u:Value} (h:Val c L w N (.d (.int k n)) u):u=.int k n:=by have:=h.dat; cases this; rfl
theorem Val.bool {b} {u:Value} (h:Val c L w N (.d (.bool b)) u):u=.bool b:=by have:=h.dat; cases this; rfl
theorem Val.datAgg {cs} {u:Value} (h:Val c L w N (.d (.agg cs)) u):∃ vs,u=.agg vs∧vs.size=cs.length∧
  (∀ (i:Nat) (d:D) (v:Value),cs[i]? =some d→vs[i]? =some v→Rep w (own c L) N c.γ d v)∧∀ (i:Nat) (v:Value),vs[i]? =some v→v.oneCell'=true:=by
 have:=h.dat
 cases this with
 | agg cs vs h1 h2 h3=>exact ⟨vs,rfl,h1,h2,h3⟩
end
theorem Rep.cells {w A N γ d v} (h:Rep w A N γ d v) (hd:d.cell=true∨d.isAgg=true):v.cells.size=d.width∧∀ (i:Nat) (u:Value),v.cells[i]? =some u→u.oneCell'=true:=by
 rcases hd with hd | hd
 ·have h1:=h.cell hd;rw [zbm h1]
  refine ⟨by cases d<;>simp_all [D.cell,D.width],fun i u hu=>?_⟩
  cases i with
  | zero=>simp at hu; subst hu; exact h1
  | succ i=>simp at hu
 ·cases d<;>simp [D.isAgg] at hd
  cases h with
  | agg cs vs h1 h2 h3=>exact ⟨h1,h3⟩
theorem Grow.refl (c:Ctx) (L:Loc) (w:World):Grow c L w c L w:=
 ⟨Nat.le_refl _,fun _ _ _=>rfl,fun _ _ h=>h,fun _ _ _ h=>h,fun _ _ _ _ _=>rfl,fun _ h=>⟨h,rfl,rfl⟩,fun _ y _ fz h _=>⟨y,fz,h,rfl⟩,fun _=>Nat.le_refl _,fun _ _=>.inr ⟨rfl,zb1.refl _⟩⟩
theorem zb1.trans {x y z:HObj} (h:zb1 x y) (k:zb1 y z):zb1 x z:=by
 cases x<;>cases y<;>cases z<;>simp_all [zb1];exact h.2.trans k.2
theorem zed {L:Loc} {k:Nat} {wr:Bool} {T:Tb}:za6 L k=some (wr,T)↔(L (tb k)).2=.tbl wr T:=by
 unfold za6;cases h:(L (tb k)).2<;>simp
theorem Grow.trans {c L w c' L' w' c'' L'' w''} (h:Grow c L w c' L' w') (k:Grow c' L' w' c'' L'' w''):Grow c L w c'' L'' w'':=by
 refine ⟨Nat.le_trans h.size k.size,?_,?_,fun n i a e=>k.hγ n i a (h.hγ n i a e),?_,fun q hq=>⟨(k.stay q (h.stay q hq).1).1,(k.stay q (h.stay q hq).1).2.1.trans (h.stay q hq).2.1,(k.stay q (h.stay q hq).1).2.2.trans (h.stay q hq).2.2⟩,?_,fun g=>Nat.le_trans (h.gen g) (k.gen g),?_⟩
 ·intro b hb hlt
  rw [k.old b (fun e=>hb (h.ownsub b hlt e)) (Nat.lt_of_lt_of_le hlt h.size),h.old b hb hlt]
 ·intro b hlt hb;exact h.ownsub b hlt (k.ownsub b (Nat.lt_of_lt_of_le hlt h.size) hb)
 ·intro q i o e ht
  have e1:(L' (tb q)).1=(L (tb q)).1:=by have:=h.gen (tb q); have:=k.gen (tb q); omega
  have e2:(L'' (tb q)).1=(L' (tb q)).1:=by omega
  rw [k.hρ q i o e2 ht];refine h.hρ q i o e1 ?_;obtain ⟨wr,T,x,t1,t2,t3⟩:=ht;rcases k.obj (tb q) e2 with h1 | ⟨_,h2⟩
  ·rw [zed] at t1; rw [h1] at t1; cases t1
  ·rw [zed] at t1; rw [t1] at h2;cases hx:(L' (tb q)).2<;>simp [hx,zb1] at h2;rename_i wr' T';obtain ⟨p1,p2⟩:=h2;cases x<;>simp [D.isRow] at t3
   ·rename_i tg l;cases tg<;>simp at t3;obtain ⟨l',e3,_⟩:=(p2 i o).1 _ t2;exact ⟨wr',T',_,zed.2 hx,e3,rfl⟩
   ·rename_i tg kk es;cases tg<;>simp at t3;obtain ⟨l',e3⟩:=(p2 i o).2 _ _ t2;exact ⟨wr',T',_,zed.2 hx,e3,rfl⟩
 ·intro b x T fz hb _;obtain ⟨x',fz',h1,h2⟩:=h.cells' hb;obtain ⟨x'',fz'',h3,h4⟩:=k.cells' h1
  exact ⟨x'',fz'',h3,by omega⟩
 ·intro g e
  have e1:(L' g).1=(L g).1:=by have:=h.gen g; have:=k.gen g; omega
  rcases k.obj g (by omega) with h1 | ⟨h1,h2⟩
  ·exact .inl h1
  ·rcases h.obj g e1 with h3 | ⟨h3,h4⟩
   ·rw [h3] at h2;refine .inl ?_;cases hx:(L'' g).2<;>simp [hx,zb1] at h2 ⊢
   ·exact .inr ⟨h1.trans h3,h4.trans h2⟩
theorem Loc.upd_append:∀ (a b:Wr) (L:Loc),L.upd (a++b)=(L.upd a).upd b
 | [],_,_=>rfl
 | (_,_)::a,b,_=>Loc.upd_append a b _
section
variable (c:Ctx) (N:Nat) (w0:World) (O0:Nat→Prop) (L:Loc) (w:World)
def Did (out:Out) (u:Value) (w':World):Prop:=
 ∃ c',Mem c' N w0 O0 (L.upd out.wr) w'∧Grow c L w c' (L.upd out.wr) w'∧Val c' (L.upd out.wr) w' N out.v u
end
section
variable {c:Ctx} {N:Nat} {w0:World} {O0:Nat→Prop} {L:Loc} {w:World}
theorem Did.same (h:Mem c N w0 O0 L w) {v:V} {u:Value} (hv:Val c L w N v u):Did c N w0 O0 L w { v } u w:=⟨c,h,Grow.refl ..,hv⟩
end
def Sees (Lr L:Loc):Prop:=∀ g n,Lr.get g n≠.dead→L.get g n=Lr.get g n
theorem Sees.tab {Lr L:Loc} (h:Sees Lr L) {k:Nat} {wr:Bool} {T:Tb} (ht:za6 Lr k=some (wr,T)):za6 L k=some (wr,T)∧(L (tb k)).1=(Lr (tb k)).1:=by
 have h1:=zed.1 ht
 have:=h (tb k) (Lr (tb k)).1 (by unfold Loc.get; rw [if_pos rfl,h1]; simp)
 unfold Loc.get at this;rw [if_pos rfl,h1] at this;split at this
 ·rename_i e; exact ⟨zed.2 this,e⟩
 ·cases this
theorem Sees.row {Lr L:Loc} (h:Sees Lr L) {k n i o:Nat} {l:List D} (hr:zeE Lr k n i o=some l):zeE L k n i o=some l:=by
 obtain ⟨wr,T,h1,h2,h3,h4⟩:=zf8 hr
 exact zu6 (by rw [h _ _ (by rw [h1]; simp)]; exact h1) h4
theorem Sees.mapRow {Lr L:Loc} (h:Sees Lr L) {k n i o:Nat} {e:MK×List (Int×D)} (hr:ziE Lr k n i o=some e):ziE L k n i o=some e:=by
 obtain ⟨wr,T,h1,h2,h3,h4⟩:=zg9 hr
 exact zu7 (by rw [h _ _ (by rw [h1]; simp)]; exact h1) h4
theorem Sees.els {Lr L:Loc} (h:Sees Lr L) {v:V} {l:List D} (he:zdH Lr v=some l):zdH L v=some l:=by
 cases v with
 | ref g n off len=>
  simp only [zdH] at he ⊢;have hg:=h g n;cases hx:Lr.get g n<;>rw [hx] at he<;>simp at he
  rw [hg (by rw [hx]; simp),hx]; simpa using he
 | bref g n off len=>
  simp only [zdH] at he ⊢;have hg:=h g n;cases hx:Lr.get g n<;>rw [hx] at he<;>simp at he
  rw [hg (by rw [hx]; simp),hx]; simpa using he
 | vref k n i o lo len=>
  simp only [zdH] at he ⊢
  cases hx:zeE Lr k n i o with
  | none=>rw [hx] at he; cases he
  | some l'=>rw [h.row hx]; rw [hx] at he; exact he
 | d x=>cases x<;>exact he
 | _=>exact he
theorem Sees.es {Lr L:Loc} (h:Sees Lr L) {v:V} {e:MK×List (Int×D)} (he:esOf Lr v=some e):esOf L v=some e:=by
 cases v with
 | map g n=>
  simp only [esOf] at he ⊢;have hg:=h g n;cases hx:Lr.get g n<;>rw [hx] at he<;>simp at he
  rw [hg (by rw [hx]; simp),hx]; simpa using he
 | vmap k n i o=>exact h.mapRow he
 | d x=>cases x<;>exact he
 | _=>exact he
theorem zbM {L:Loc} {g n:Nat} {x:HObj} (h:L.get g n=x) (hx:x≠.dead):(L g).1=n∧(L g).2=x:=by
 unfold Loc.get at h;split at h
 ·exact ⟨by assumption,h⟩
 ·exact absurd h.symm hx
end Wf

namespace Wf
open Go Go.RowKit
theorem zh3 {w:World} {A:Nat→Prop} {N:Nat} {γ:Nat→Nat→Option Nat} {ag:Bool} {n off:Nat} {ds:List D} {d:D} {x:Array Value}
  (hp:zhe ag n off ds=some d) (hz:x.size=ds.length)
  (hx:∀ (i:Nat) (d:D) (u:Value),ds[i]? =some d→x[i]? =some u→Rep w A N γ d u∧u.oneCell'=true):
  ∃ v,Rep w A N γ d v∧(if ag then v=.agg (x.extract off (off+n))∧(x.extract off (off+n)).size=n else x[off]? =some v∧v.oneCell'=true)∧
   ∀ (j:Nat) (u:Value),v.cells[j]? =some u→x[off+j]? =some u:=by
 unfold zhe at hp
 cases ag with
 | true=>
  simp only [if_true] at hp;split at hp
  ·rename_i hle;simp at hp; subst hp
   have hsz:(x.extract off (off+n)).size=n:=by simp; omega
   refine ⟨.agg (x.extract off (off+n)),.agg _ _ (by rw [hsz]; simp; omega) ?_ ?_,by rw [if_pos rfl]; exact ⟨rfl,hsz⟩,?_⟩
   ·intro i e u he hu;rw [List.getElem?_take] at he;split at he
    ·rw [List.getElem?_drop] at he;rw [Array.getElem?_extract] at hu;split at hu
     ·exact (hx (off+i) e u he hu).1
     ·cases hu
    ·cases he
   ·intro i u hu;rw [Array.getElem?_extract] at hu;split at hu
    ·rename_i hi
     have hlt:off+i < x.size:=by omega
     exact (hx (off+i) (ds[off+i]'(by omega)) u (by simp) hu).2
    ·cases hu
   ·intro j u hu;simp only [Value.cells] at hu;rw [Array.getElem?_extract] at hu;split at hu
    ·exact hu
    ·cases hu
  ·cases hp
 | false=>
  simp only [Bool.false_eq_true,if_false] at hp
  have hlt:off < ds.length:=by
   rcases Nat.lt_or_ge off ds.length with h | h
   ·exact h
   ·rw [List.getElem?_eq_none h] at hp; cases hp
  have hxo:x[off]? =some (x[off]'(by omega)):=by simp
  obtain ⟨h1,h2⟩:=hx off d _ hp hxo
  refine ⟨_,h1,by simp only [Bool.false_eq_true,if_false]; exact ⟨hxo,h2⟩,fun j u hu=>?_⟩
  rw [zbm h2] at hu
  cases j with
  | zero=>simp at hu; subst hu; simpa using hxo
  | succ j=>simp at hu
theorem zfy {w:World} {b o:Nat} {x:Array Value} {T:TypeId} {fz:Nat×Nat} (hb:w.heap[b]? =some (.cells x T fz)) {u:Value} (h:x[o]? =some u):w.cell? ⟨b,o,none⟩=some u:=by
 simp [World.cell?,hb,h]
theorem zBZ:∀ {l:List V} {ds:List D},l.mapM V.dat=some ds→l=ds.map .d
 | [],ds,h=>by simp at h; subst h; rfl
 | v::l,ds,h=>by
  simp only [List.mapM_cons] at h
  cases v with
  | d x=>
   cases hl:l.mapM V.dat with
   | none=>simp [V.dat,hl] at h
   | some r=>
    simp [V.dat,hl] at h; subst h
    rw [zBZ hl]; rfl
  | _=>simp [V.dat] at h
theorem zcE:∀ (ks:List Nat) (vs cs:List V),(ovs ks vs cs).length=cs.length
 | k::ks,v::vs,cs=>by simp [ovs,zcE ks vs cs]
 | [],_,cs=>by simp [ovs]
 | _::_,[],cs=>by simp [ovs]
theorem zfc:∀ (ks:List Nat) (vs cs:List V) (off:Nat),(ovs ks vs cs)[off]? =if off < cs.length then (match zdr ks vs off with
  | some v=>some v
  | none=>cs[off]?) else none
 | k::ks,v::vs,cs,off=>by
  simp only [ovs,zdr,List.getElem?_set,zcE];rw [zfc ks vs cs off]
  by_cases e:k=off
  ·subst e; simp
  ·simp [e]
 | [],_,cs,off=>by
  simp only [ovs,zdr];split
  ·rfl
  ·rw [List.getElem?_eq_none (by omega)]
 | _::_,[],cs,off=>by
  simp only [ovs,zdr];split
  ·rfl
  ·rw [List.getElem?_eq_none (by omega)]
theorem zu8 (lo n:Nat):∀ (ks:List Nat) (vs:List V) (j:Nat),zdr (ovIn lo n ks vs).1 (ovIn lo n ks vs).2 j=if j < n then zdr ks vs (lo+j) else none
 | k::ks,v::vs,j=>by
  simp only [ovIn,zdr];have ih:=zu8 lo n ks vs j
  by_cases h:lo≤k∧k < lo+n
  ·rw [if_pos h];simp only [zdr];rw [ih]
   by_cases e:k=lo+j
   ·subst e; rw [if_pos (by omega),if_pos rfl,if_pos (by omega)]
   ·rw [if_neg (by omega),if_neg e]
  ·rw [if_neg h,ih]
   by_cases hj:j < n
   ·rw [if_pos hj,if_pos hj,if_neg (by omega)]
   ·rw [if_neg hj,if_neg hj]
 | [],_,j=>by simp [ovIn,zdr]
 | _::_,[],j=>by simp [ovIn,zdr]
theorem znS (lo n:Nat):∀ (ks:List Nat) (vs:List V) (j:Nat),zdr (zdW lo n ks vs).1 (zdW lo n ks vs).2 j=if lo≤j∧j < lo+n then none else zdr ks vs j
 | k::ks,v::vs,j=>by
  simp only [zdW,zdr];have ih:=znS lo n ks vs j
  by_cases h:lo≤k∧k < lo+n
  ·rw [if_pos h,ih]
   by_cases e:k=j
   ·subst e; rw [if_pos h,if_pos h]
   ·rw [if_neg e]
  ·rw [if_neg h];simp only [zdr];rw [ih]
   by_cases e:k=j
   ·subst e; rw [if_pos rfl,if_neg h,if_pos rfl]
   ·rw [if_neg e,if_neg e]
 | [],_,j=>by simp [zdW,zdr]
 | _::_,[],j=>by simp [zdW,zdr]
theorem zp9:∀ {ks:List Nat} {vs:List V} (ks':List Nat) (vs':List V) (j:Nat),ks.length=vs.length→zdr (ks++ks') (vs++vs') j=match zdr ks vs j with
  | some v=>some v
  | none=>zdr ks' vs' j
 | [],[],_,_,_,_=>by simp [zdr]
 | k::ks,v::vs,ks',vs',j,h=>by
  simp only [List.cons_append,zdr]
  by_cases e:k=j
  ·simp [e]
  ·simp only [e,if_false]; exact zp9 ks' vs' j (by simpa using h)
 | [],_::_,_,_,_,h=>by simp at h
 | _::_,[],_,_,_,h=>by simp at h
theorem zrp (lo:Nat):∀ (ks:List Nat) (vs:List V) (j:Nat),zdr (ks.map (· +lo)) vs j=if lo≤j then zdr ks vs (j - lo) else none
 | k::ks,v::vs,j=>by
  simp only [List.map_cons,zdr];rw [zrp lo ks vs j]
  by_cases h:lo≤j
  ·rw [if_pos h,if_pos h]
   by_cases e:k+lo=j
   ·rw [if_pos e,if_pos (by omega)]
   ·rw [if_neg e,if_neg (by omega)]
  ·rw [if_neg h,if_neg h,if_neg (by omega)]
 | [],_,j=>by simp [zdr]
 | _::_,[],j=>by simp [zdr]
theorem zwX {p:Nat→Prop}:∀ {ks:List Nat} {vs:List V} {j:Nat} {v:V},(∀ k∈ks,p k)→zdr ks vs j=some v→p j
 | k::ks,v0::vs,j,v,h,hg=>by
  simp only [zdr] at hg;split at hg
  ·rename_i e; subst e; exact h k (by simp)
  ·exact zwX (fun q hq=>h q (by simp [hq])) hg
 | [],_,_,_,_,hg=>by simp [zdr] at hg
 | _::_,[],_,_,_,hg=>by simp [zdr] at hg
theorem zB0 {w:World} {A:Nat→Prop} {N:Nat} {γ:Nat→Nat→Option Nat} {e d:D} {v0:Value} {b o n off:Nat} {ag:Bool} (hr:Rep w A N γ e v0) (hc:zdZ w b o v0) (hd:eltD ag n off e=some d):
  ∃ v,Rep w A N γ d v∧(if ag then ∃ vs,v=.agg vs∧vs.size=n else v.oneCell'=true)∧zdZ w b (o+off) v:=by
 have one:e.cell=true→ag=false∧off=0∧d=e→∃ v,Rep w A N γ d v∧(if ag then ∃ vs,v=.agg vs∧vs.size=n else v.oneCell'=true)∧zdZ w b (o+off) v:=by
  rintro hcell ⟨rfl,rfl,rfl⟩
  exact ⟨v0,hr,by simpa using hr.cell hcell,hc⟩
 cases e with
 | agg cs=>
  simp only [eltD] at hd
  cases hr with
  | agg _ ys q1 q2 q3=>
   obtain ⟨v,p1,p2,p3⟩:=zh3 hd q1 (fun i d u hd hu=>⟨q2 i d u hd hu,q3 i u hu⟩)
   refine ⟨v,p1,?_,fun j u hu=>?_⟩
   ·cases ag with
    | true=>simp at p2; simpa using ⟨_,p2.1,by simpa using p2.2⟩
    | false=>simp at p2; simpa using p2.2
   ·have:=hc (off+j) u (p3 j u hu)
    rw [←Nat.add_assoc] at this; exact this
 | undef=>cases hd
 | tup _=>cases hd
 | _=>
  simp only [eltD] at hd;split at hd
  ·rename_i h
   exact one rfl ⟨h.1,h.2,by simpa using hd.symm⟩
  ·cases hd
section
variable {c:Ctx} {N:Nat} {w0:World} {O0:Nat→Prop} {L Lr:Loc} {w:World}
theorem Mem.get (h:Mem c N w0 O0 L w) {g n:Nat} {x:HObj} (hx:L.get g n=x) (hd:x≠.dead):zgt c L w N (c.ι g) x:=by
 obtain ⟨_,rfl⟩:=zbM hx hd;exact h.obj g
theorem zGs (vs cs:List V):ovs [] vs cs=cs:=by simp [ovs]
theorem Val.mk {ds:List D} {o:List Nat×List V} {vs:Array Value} (h1:vs.size=ds.length) (h2:∀ (i:Nat) (v:V) (u:Value),(ovs o.1 o.2 (ds.map .d))[i]? =some v→vs[i]? =some u→Val c L w N v u) (h3:∀ (i:Nat) (u:Value),vs[i]? =some u→u.oneCell'=true):
  Val c L w N (V.mk ds o) (.agg vs):=by
 unfold V.mk;split
 ·rename_i e
  refine .d _ _ (.agg _ _ h1 (fun i d v hd hv=>?_) h3)
  have:=h2 i (.d d) v (by rw [e]; cases o.1<;>simp [ovs,hd]) hv
  exact this.dat
 ·exact .agg _ _ _ _ h1 h2 h3
theorem zeG {x:Array Value} {off n i:Nat} {u:Value} (h:(x.extract off (off+n))[i]? =some u):x[off+i]? =some u∧i < n:=by
 rw [Array.getElem?_extract] at h;split at h
 ·rename_i hi
  exact ⟨h,by omega⟩
 ·cases h
theorem zh4 {α:Type} {l:List α} {off n i:Nat} {a:α} (h:((l.drop off).take n)[i]? =some a):l[off+i]? =some a:=by
 rw [List.getElem?_take] at h;split at h
 ·rw [List.getElem?_drop] at h; exact h
 ·cases h
theorem CellOk.slAt {γ w sz β l u} (h:CellOk γ w sz β (.sl .own l) u):SlAt w β sz 0 l.length u:=by
 cases h with
 | flat _ _ h=>simp [D.flat] at h
 | rowE a h=>exact ⟨a,0,rfl,by simp,.inl rfl⟩
 | row l b cap x T fz vs h1 h2 h3 h4 h5 h6=>exact ⟨_,cap,rfl,h4,.inr ⟨b,x,T,fz,h1,by simp,h2,by simpa using h5⟩⟩
theorem CellOk.map {γ w sz β k es u} (h:CellOk γ w sz β (.mp .own k es) u):∃ b,β=some b∧u=.map (some b):=by
 cases h with
 | flat _ _ h=>simp [D.flat] at h
 | mp kk es b m k h1 h2 h3 h4=>exact ⟨b,h1,rfl⟩
theorem CellOk.flatRep {γ w sz β d u} (h:CellOk γ w sz β d u) (hf:d.flat=true) (A:Nat→Prop) (N:Nat):Rep w A N γ d u:=by
 cases h with
 | undef u=>exact .undef u
 | flat d u h1 h2=>exact (h2.fl h1 fun _ _ _ h=>h).1
 | _=>simp [D.flat] at hf
theorem CellOk.hideRep {γ w sz β d u} (h:CellOk γ w sz β d u) (A:Nat→Prop) (N:Nat):Rep w A N γ d.hide u:=by
 cases h with
 | undef u=>exact .undef u
 | flat d u h1 h2=>
  have:=(h2.fl (A':=A) (N':=N) (w':=w) h1 fun _ _ _ h=>h).1
  cases d<;>simp [D.flat] at h1<;>exact this
 | _=>exact .undef _
theorem zEp {P:Program} (hm:Mem c N w0 O0 L w) (hs:Sees Lr L) {t:TypeId} {k i off n:Nat} {ag fl:Bool} {v:V} {u:Value} (hag:zkE P t=some ag) (hn:zb9 P t=some n)
  (ha:zBX Lr k i off n ag fl=some v) (hp:Val c L w N (.d (.h k i off)) u):∃ u',(Instr.loadAt t u).run P w=.ok u' w∧Val c L w N v u':=by
 unfold zBX at ha
 cases hT:za6 Lr k with
 | none=>rw [hT] at ha; cases ha
 | some p=>
 obtain ⟨wr,T⟩:=p;rw [hT] at ha;dsimp only at ha
 cases hi:T[i]? with
 | none=>rw [hi] at ha; cases ha
 | some cs=>
 rw [hi] at ha;dsimp only at ha;obtain ⟨hT',hver⟩:=hs.tab hT;obtain ⟨b,x,ty,fz,q1,q2,q3,q4,q5⟩:=hm.tab.obj k wr T i cs hT' hi;have hr:=hp.dat
 cases hr with
 | h _ _ _ b' hk'=>
 rw [q1] at hk'; cases hk'
 have fin:∀ {u':Value},(if ag then ∃ vs,u'=.agg vs∧vs.size=n else u'.oneCell'=true)→zdZ w b off u'→
   (Instr.loadAt t (.pointer (some ⟨b,off,none⟩))).run P w=.ok u' w:=by
  intro u' h1 h2;simp only [Instr.loadAt,Instr.sureAddr,Sem.run_bind,Sem.run_pure,Result.andThen_ok,zrn hag hn h1 h2]
 cases ag with
 | true=>
  simp only [if_true] at ha;split at ha
  ·rename_i hle
   have hsz:(x.extract off (off+n)).size=n:=by simp; omega
   have hf1:=fin (u':=.agg (x.extract off (off+n))) (by simpa using hsz) (fun j y hy=>zfy q2 (zeG (by simpa [Value.cells] using hy)).1)
   have one:∀ (i:Nat) (u:Value),(x.extract off (off+n))[i]? =some u→u.oneCell'=true:=by
    intro i u hu;obtain ⟨h1,h2⟩:=zeG hu
    have hlt:off+i < cs.length:=by omega
    exact (q5 (off+i) cs[off+i] u (by simp [hlt]) h1).1
   refine ⟨_,hf1,?_⟩;split at ha
   ·split at ha
    ·rename_i hfl;simp at ha; subst ha
     refine .d _ _ (.agg _ _ (by rw [hsz]; simp; omega) (fun i d u hd hu=>?_) one)
     have h1:=zh4 hd;obtain ⟨h2,_⟩:=zeG hu;rw [List.all_eq_true] at hfl;exact (q5 _ d u h1 h2).2.flatRep (hfl d (List.mem_of_getElem? hd)) _ _
    ·cases ha
   ·simp at ha; subst ha
    refine .d _ _ (.agg _ _ (by rw [hsz]; simp; omega) (fun i d u hd hu=>?_) one)
    rw [←List.map_drop,←List.map_take,List.getElem?_map] at hd
    cases hd0:((cs.drop off).take n)[i]? with
    | none=>rw [hd0] at hd; cases hd
    | some d0=>
     rw [hd0] at hd; simp at hd; subst hd;have h1:=zh4 hd0;obtain ⟨h2,_⟩:=zeG hu;exact (q5 _ d0 u h1 h2).2.hideRep _ _
  ·cases ha
 | false=>
  simp only [Bool.false_eq_true,if_false] at ha
  cases hd:cs[off]? with
  | none=>rw [hd] at ha; cases ha
  | some d=>
  rw [hd] at ha;obtain ⟨y,hy⟩:=zd4 q4 hd;obtain ⟨y1,y2⟩:=q5 off d y hd hy
  have hf1:=fin (u':=y) (by simpa using y1) (fun j z hz=>by
   rw [zbm y1] at hz
   cases j with
   | zero=>simp at hz; subst hz; exact zfy q2 (by simpa using hy)
   | succ j=>simp at hz)
  have hcell:zdc T i off=some d:=by unfold zdc; rw [hi]; exact hd
  refine ⟨y,hf1,?_⟩
  have flatcase:(if d.flat=true then some (V.d d) else none)=some v→Val c L w N v y:=by
   intro ha;split at ha
   ·rename_i hfl;simp at ha; subst ha;exact .d _ _ (y2.flatRep hfl _ _)
   ·cases ha
  cases d with
  | sl tg l=>
   cases tg with
   | own=>
    simp at ha; subst ha
    refine .vref _ _ _ _ _ _ _ (by omega) fun l' hl'=>?_
    obtain ⟨wr',T',e1,e2,e3,e4⟩:=zf8 hl';rw [hT'] at e3; cases e3;rw [hcell] at e4; cases e4
    exact ⟨by omega,y2.slAt⟩
   | _=>exact flatcase ha
  | mp tg kk es=>
   cases tg with
   | own=>
    simp at ha; subst ha
    refine .vmap _ _ _ _ _ (by omega) fun e' he'=>?_
    obtain ⟨wr',T',e1,e2,e3,e4⟩:=zg9 he';rw [hT'] at e3; cases e3
    exact y2.map
   | _=>exact flatcase ha
  | _=>exact flatcase ha
theorem zzU {P:Program} (hm:Mem c N w0 O0 L w) (hs:Sees Lr L) {t:TypeId} {p v:V} {u:Value}
  (ha:zAX P Lr t p=some v) (hp:Val c L w N p u):∃ u',(Instr.loadAt t u).run P w=.ok u' w∧Val c L w N v u':=by
 unfold zAX at ha
 cases hag:zkE P t with
 | none=>rw [hag] at ha; cases ha
 | some ag=>
 cases hn:zb9 P t with
 | none=>rw [hag,hn] at ha; cases ha
 | some n=>
 rw [hag,hn] at ha;dsimp only at ha
 have fin:∀ {b o:Nat} {u':Value},u=.pointer (some ⟨b,o,none⟩)→(if ag then ∃ vs,u'=.agg vs∧vs.size=n else u'.oneCell'=true)→zdZ w b o u'→
   (Instr.loadAt t u).run P w=.ok u' w:=by
  rintro b o u' rfl h1 h2
  simp only [Instr.loadAt,Instr.sureAddr,Sem.run_bind,Sem.run_pure,Result.andThen_ok,zrn hag hn h1 h2]
 cases p with
 | d x=>
  cases x with
  | at_ x=>
   dsimp only at ha;split at ha
   ·rename_i hc;obtain ⟨h1,h2,h3⟩:=hc;simp at ha; subst ha;have hr:=hp.dat
    cases hr with
    | at_ d v' b o g1 g2 g3 g4=>
     refine ⟨v',fin rfl ?_ g3,.d _ _ g4⟩
     cases ag with
     | true=>
      cases x<;>simp [D.isAgg] at h1
      cases g4 with
      | agg cs vs k1 k2 k3=>simp [D.width] at h2; simp; omega
     | false=>
      simp only [Bool.false_eq_true,if_false]
      exact g4.cell (by simpa using h3)
   ·cases ha
  | h k i off=>exact zEp hm hs hag hn ha hp
  | _=>cases ha
 | ptr g l off=>
  dsimp only at ha;have hg:=hs g l
  cases hx:Lr.get g l with
  | box ag' ds=>
   rw [hx] at ha;dsimp only at ha
   have hL:=hg (by rw [hx]; simp)
   rw [hx] at hL
   obtain ⟨b,x,T,fz,h1,h2,h3,h4,h5⟩:=hm.get hL (by simp)
   cases hp with
   | ptr _ _ _ _ k1 k2=>
    obtain ⟨b',e1,rfl⟩:=k2 (by rw [hL]; simp)
    rw [h1] at e1; cases e1
    cases hpd:zhe ag n off ds with
    | none=>rw [hpd] at ha; cases ha
    | some d=>
     rw [hpd] at ha; simp at ha; subst ha;obtain ⟨v,r1,r2,r3⟩:=zh3 hpd h4 h5
     refine ⟨v,fin rfl ?_ (fun j u hu=>zfy h2 (r3 j u hu)),.d _ _ r1⟩
     cases ag with
     | true=>simp at r2; simpa using ⟨_,r2.1,by simpa using r2.2⟩
     | false=>simp at r2; simpa using r2.2
  | fbox ag' ds=>
   rw [hx] at ha;dsimp only at ha
   have hL:=hg (by rw [hx]; simp)
   rw [hx] at hL
   obtain ⟨b,x,T,fz,h1,h2,h4,h5⟩:=hm.get hL (by simp)
   cases hp with
   | ptr _ _ _ _ k1 k2=>
    obtain ⟨b',e1,rfl⟩:=k2 (by rw [hL]; simp)
    rw [h1] at e1; cases e1
    cases hpd:zhe ag n off ds with
    | none=>rw [hpd] at ha; cases ha
    | some d=>
     rw [hpd] at ha; simp at ha; subst ha;obtain ⟨v,r1,r2,r3⟩:=zh3 hpd h4 h5
     refine ⟨v,fin rfl ?_ (fun j u hu=>zfy h2 (r3 j u hu)),.d _ _ r1⟩
     cases ag with
     | true=>simp at r2; simpa using ⟨_,r2.1,by simpa using r2.2⟩
     | false=>simp at r2; simpa using r2.2
  | vbox ag' ds ks vs=>
   rw [hx] at ha;dsimp only at ha
   have hL:=hg (by rw [hx]; simp)
   rw [hx] at hL
   obtain ⟨b,x,T,fz,h1,h2,h3,h4,h5⟩:=hm.get hL (by simp)
   cases hp with
   | ptr _ _ _ _ k1 k2=>
    obtain ⟨b',e1,rfl⟩:=k2 (by rw [hL]; simp)
    rw [h1] at e1; cases e1;unfold znN at ha
    cases ag with
    | true=>
     simp only [if_true] at ha;split at ha
     ·rename_i hle;simp at ha; subst ha
      have hsz:(x.extract off (off+n)).size=n:=by simp; omega
      refine ⟨.agg (x.extract off (off+n)),fin rfl (by simpa using hsz) (fun j y hy=>zfy h2 (zeG (by simpa [Value.cells] using hy)).1),Val.mk (by rw [hsz]; simp; omega) (fun i v u hv hu=>?_) fun i u hu=>?_⟩
      ·obtain ⟨e1,e2⟩:=zeG hu;refine (h5 (off+i) v u ?_ e1).1;rw [zfc] at hv ⊢;rw [zu8,if_pos e2] at hv
       rw [if_pos (by simp; omega)] at hv
       rw [if_pos (by simp; omega)]
       cases ho:zdr ks vs (off+i) with
       | some y=>rw [ho] at hv; exact hv
       | none=>
        rw [ho] at hv;dsimp only at hv ⊢;rw [List.getElem?_map] at hv ⊢
        cases hd:((ds.drop off).take n)[i]? with
        | none=>rw [hd] at hv; cases hv
        | some d=>rw [hd] at hv; rw [zh4 hd]; exact hv
      ·obtain ⟨e1,e2⟩:=zeG hu
       have hlt:off+i < (ovs ks vs (ds.map .d)).length:=by rw [zcE]; simp; omega
       exact (h5 (off+i) _ u (List.getElem?_eq_getElem hlt) e1).2
     ·cases ha
    | false=>
     simp only [Bool.false_eq_true,if_false] at ha;split at ha
     rotate_left
     ·cases ha
     rename_i hlt
     have hy:x[off]? =some (x[off]'(by omega)):=by simp
     have hv:(ovs ks vs (ds.map .d))[off]? =some v:=by
      rw [zfc,if_pos (by simpa using hlt)]
      cases ho:zdr ks vs off with
      | some y=>rw [ho] at ha; exact ha
      | none=>rw [ho] at ha; dsimp only at ha ⊢; rw [List.getElem?_map]; exact ha
     obtain ⟨y1,y2⟩:=h5 off v _ hv hy
     refine ⟨_,fin rfl (by simpa using y2) (fun j z hz=>?_),y1⟩
     rw [zbm y2] at hz
     cases j with
     | zero=>simp at hz; subst hz; exact zfy h2 (by simpa using hy)
     | succ j=>simp at hz
  | _=>rw [hx] at ha; cases ha
 | ept g l i off=>
  dsimp only at ha;have hg:=hs g l
  cases hx:Lr.get g l with
  | arr sz els lv=>
   rw [hx] at ha;dsimp only at ha
   have hL:=hg (by rw [hx]; simp)
   rw [hx] at hL
   have hob:=hm.get hL (by simp)
   cases he:els[i]? with
   | none=>rw [he] at ha; cases ha
   | some e=>
   rw [he] at ha;simp only [Option.bind_some] at ha
   have hi:i < els.length:=by
    rcases Nat.lt_or_ge i els.length with h | h
    ·exact h
    ·rw [List.getElem?_eq_none h] at he; cases he
   cases hp with
   | ept _ _ _ _ _ k1 k2=>
    obtain ⟨b,e1,rfl⟩:=k2 _ _ _ hL hi;rw [e1] at hob;obtain ⟨x,T,fz,h2,h3,h4,vs,h5⟩:=hob;obtain ⟨r1,r2,r3⟩:=h5 i e he
    cases hd:eltD ag n off e with
    | none=>rw [hd] at ha; cases ha
    | some d=>
     rw [hd] at ha; simp at ha; subst ha;obtain ⟨v,p1,p2,p3⟩:=zB0 r1 r3 hd
     exact ⟨v,fin rfl p2 p3,.d _ _ p1⟩
  | _=>rw [hx] at ha; cases ha
 | vept k l i o j off=>
  dsimp only at ha
  cases hx:zeE Lr k l i o with
  | none=>rw [hx] at ha; cases ha
  | some els=>
   rw [hx] at ha;simp only [Option.bind_some] at ha;have hL:=hs.row hx
   cases he:els[j]? with
   | none=>rw [he] at ha; cases ha
   | some e=>
   rw [he] at ha;simp only [Option.bind_some] at ha
   have hj:j < els.length:=by
    rcases Nat.lt_or_ge j els.length with h | h
    ·exact h
    ·rw [List.getElem?_eq_none h] at he; cases he
   cases hp with
   | vept _ _ _ _ _ _ _ k1 k2=>
    obtain ⟨b,e1,rfl⟩:=k2 _ hL hj;obtain ⟨wr,T,t1,t2,t3,t4⟩:=zf8 hL;obtain ⟨cs,c1,c2⟩:=ziJ t4;obtain ⟨b',x,ty,fz,q1,q2,q3,q4,q5⟩:=hm.tab.obj k wr T i cs t3 c1;obtain ⟨y,hy⟩:=zd4 q4 c2;have hc:=(q5 o _ y c2 hy).2
    cases hc with
    | flat _ _ h=>simp [D.flat] at h
    | rowE a h=>simp at hj
    | row l b2 cap x' T' fz' vs g1 g2 g3 g4 g5 g6=>
     rw [e1] at g1; cases g1;obtain ⟨z1,z2,z3,z4,z5⟩:=g6 j e he
     cases hd:eltD ag n off e with
     | none=>rw [hd] at ha; cases ha
     | some d=>
      rw [hd] at ha; simp at ha; subst ha
      obtain ⟨v,p1,p2,p3⟩:=zB0 (z2.flEl (A':=own c L) (N':=N) (w':=w) z1 fun _ _ _ h=>h) z5 hd
      exact ⟨v,fin rfl p2 p3,.d _ _ p1⟩
 | _=>cases ha
end
end Wf

namespace Wf
open Go Go.RowKit
theorem zgo {w:World} {b:Nat} {x y:Array Value} {T fz} (hb:w.heap[b]? =some (.cells x T fz)) (j:Nat):(put w b y T fz).cell? ⟨b,j,none⟩=y[j]? :=by
 simp [World.cell?,zcy (zbd hb)]
theorem zhh {c:Ctx} {L:Loc} {w:World} {N:Nat}:Val c L w N (.d (.tup [])) undef:=.d _ _ (.tup [] #[] rfl (by simp))
theorem zco {α:Type} {ds xs:List α} {off:Nat} (h:off+xs.length≤ds.length) (i:Nat):
  (ds.take off++xs++ds.drop (off+xs.length))[i]? =if off≤i∧i < off+xs.length then xs[i - off]? else ds[i]? :=by
 have hk:(ds.take off).length=off:=by simp; omega
 rw [List.append_assoc];split
 ·rename_i hj
  rw [List.getElem?_append_right (by omega),hk,List.getElem?_append_left (by omega)]
 ·rename_i hj
  by_cases h1:i < off
  ·rw [List.getElem?_append_left (by omega),List.getElem?_take,if_pos h1]
  ·rw [List.getElem?_append_right (by omega),hk,List.getElem?_append_right (by omega),List.getElem?_drop,show off+xs.length+(i - off - xs.length)=i by omega]
theorem zlO {α:Type} {ds:List α} {x:α} {off:Nat} (h:off < ds.length):ds.set off x=ds.take off++[x]++ds.drop (off+1):=by
 apply List.ext_getElem?;intro i
 have:=zco (ds:=ds) (xs:=[x]) (off:=off) (by simp; omega) i
 simp only [List.length_singleton] at this;rw [this,List.getElem?_set]
 by_cases e:off=i
 ·subst e; simp [h]
 ·rw [if_neg e,if_neg (by omega)]
def HObj.cellsV:HObj→Option (List V)
 | .box _ ds=>some (ds.map .d)
 | .vbox _ ds ks vs=>some (ovs ks vs (ds.map .d))
 | _=>none
theorem zjt (a:Bool) (ds:List D) (o:List Nat×List V):(zrg a ds o).cellsV=some (ovs o.1 o.2 (ds.map .d)):=by
 unfold zrg;split
 ·rename_i h; rw [h]; cases o.1<;>simp [HObj.cellsV,ovs]
 ·rfl
theorem zrq {y:HObj} {us:List V} (h:y.cellsV=some us):y.live=true∧y.boxLen=some us.length:=by
 cases y<;>simp [HObj.cellsV] at h
 ·subst h; exact ⟨rfl,by simp [HObj.boxLen]⟩
 ·subst h; exact ⟨rfl,by simp [HObj.boxLen,zcE]⟩
theorem zu9 {y z:HObj} {us vs:List V} (h:y.cellsV=some us) (k:z.cellsV=some vs) (hl:vs.length=us.length):zb1 y z:=by
 cases y<;>simp [HObj.cellsV] at h<;>cases z<;>simp [HObj.cellsV] at k<;>subst h<;>subst k<;>simpa [zb1,zcE] using hl
section
variable {c:Ctx} {N:Nat} {w0:World} {O0:Nat→Prop} {L Lr:Loc} {w:World}
theorem zgt.cellsV {β:Option Nat} {y:HObj} {us:List V} (h:y.cellsV=some us):zgt c L w N β y↔∃ (b:Nat) (x:Array Value) (T:TypeId) (fz:Nat×Nat),β=some b∧w.heap[b]? =some (.cells x T fz)∧Unfrozen w b x.size∧x.size=us.length∧
  ∀ (i:Nat) (v:V) (u:Value),us[i]? =some v→x[i]? =some u→Val c L w N v u∧u.oneCell'=true:=by
 cases y<;>simp [HObj.cellsV] at h
 ·rename_i ag ds;subst h;constructor
  ·rintro ⟨b,x,T,fz,h1,h2,h3,h4,h5⟩
   refine ⟨b,x,T,fz,h1,h2,h3,by simpa using h4,fun i v u hv hu=>?_⟩
   rw [List.getElem?_map] at hv
   cases hd:ds[i]? with
   | none=>rw [hd] at hv; cases hv
   | some d=>rw [hd] at hv; simp at hv; subst hv; exact ⟨.d _ _ (h5 i d u hd hu).1,(h5 i d u hd hu).2⟩
  ·rintro ⟨b,x,T,fz,h1,h2,h3,h4,h5⟩
   refine ⟨b,x,T,fz,h1,h2,h3,by simpa using h4,fun i d u hd hu=>?_⟩
   obtain ⟨k1,k2⟩:=h5 i (.d d) u (by simp [hd]) hu
   exact ⟨k1.dat,k2⟩
 ·subst h; simp only [zgt,zcE,List.length_map]
theorem zrr (hm:Mem c N w0 O0 L w) {g l:Nat} {y z:HObj} {us vs:List V} {off b:Nat} {x:Array Value} {T:TypeId} {fz:Nat×Nat} {ws:List Value}
  (hL:L.get g l=y) (hy:y.cellsV=some us) (hz:z.cellsV=some (us.take off++vs++us.drop (off+vs.length))) (hι:c.ι g=some b) (hb:w.heap[b]? =some (.cells x T fz))
  (hlen:ws.length=vs.length) (hr:∀ (i:Nat) (v:V) (u:Value),vs[i]? =some v→ws[i]? =some u→Val c L w N v u) (h1:∀ v∈ws,v.oneCell'=true) (ho:off+vs.length≤us.length):
  Did c N w0 O0 L w { v:=.d (.tup []),wr:=[(g,(l,z))] } undef (put w b (splice x off ws) T fz):=by
 have hyd:y≠.dead:=by rintro rfl; cases hy
 obtain ⟨e1,e2⟩:=zbM hL hyd;obtain ⟨b',x',T',fz',g1,g2,g3,g4,g5⟩:=(zgt.cellsV hy).1 (hm.get hL hyd);rw [hι] at g1; cases g1;rw [hb] at g2; cases g2
 have hsz:(splice x off ws).size=x.size:=zc0 (by omega)
 have hw:∀ k,k≠b→(put w b (splice x off ws) T fz).heap[k]? =w.heap[k]? :=fun k hk=>by rw [zcy (zbd hb)]; simp [hk]
 have hbb:(put w b (splice x off ws) T fz).heap[b]? =some (.cells (splice x off ws) T fz):=by rw [zcy (zbd hb)]; simp
 have hll:(us.take off++vs++us.drop (off+vs.length)).length=us.length:=by simp; omega
 have hzz:∀ y T' fz',w.heap[b]? =some (.cells y T' fz')→∃ y' fz'',(put w b (splice x off ws) T fz).heap[b]? =some (.cells y' T' fz'')∧y'.size=y.size:=by
  intro y T' fz' hy; rw [hb] at hy; cases hy; exact ⟨_,_,hbb,hsz⟩
 have hlv:(L g).2.live=true:=by rw [e2]; exact (zrq hy).1
 have hnr:∀ sz els,(L g).2≠.trow sz els:=fun sz els e=>by rw [e2] at e; rw [e] at hy; cases hy
 have hcp:zb1 (L g).2 z:=by rw [e2]; exact zu9 hy hz hll
 have hg:=Grow.write hm (x:=z) hι hlv hcp (by simp [put]) hw hzz
 have hmm:=Mem.write hm (x:=z) hι hnr hlv hcp (by simp [put]) hw hzz rfl rfl rfl
  ((zgt.cellsV hz).2 ⟨b,_,T,fz,rfl,hbb,g3.put hb (by omega),by rw [hsz,hll]; exact g4,by
   intro i d u hd hu;rw [zco ho] at hd
   rw [zcx (by omega)] at hu
   rw [hlen] at hu;split at hd
   ·rename_i hi;rw [if_pos hi] at hu;exact ⟨(hr _ _ _ hd hu).grow hg,h1 u (List.mem_of_getElem? hu)⟩
   ·rename_i hi;rw [if_neg hi] at hu;exact ⟨((g5 i d u hd hu).1).grow hg,(g5 i d u hd hu).2⟩⟩)
 rw [e1] at hg hmm;exact ⟨c,hmm,hg,zhh⟩
theorem zB1 (hm:Mem c N w0 O0 L w) {g l i off sz:Nat} {els:List D} {e e':D} {b:Nat} {x:Array Value} {T:TypeId} {fz:Nat×Nat} {vs:List Value}
  (hL:L.get g l=.arr sz els true) (hι:c.ι g=some b) (hb:w.heap[b]? =some (.cells x T fz)) (he:els[i]? =some e) (ho:off+vs.length≤sz)
  (hv:∀ v,Rep w (own c L) N c.γ e v→v.cells.size=sz→∃ v',Rep w (own c L) N c.γ e' v'∧v'.cells.size=sz∧
   ∀ (q:Nat) (u:Value),v'.cells[q]? =some u→if off≤q∧q < off+vs.length then vs[q - off]? =some u else v.cells[q]? =some u):
  Did c N w0 O0 L w { v:=.d (.tup []),wr:=[(g,(l,.arr sz (els.set i e') true))] } undef (put w b (splice x (i*sz+off) vs) T fz):=by
 obtain ⟨e1,e2⟩:=zbM hL (by simp)
 have hob:=hm.get hL (by simp)
 rw [hι] at hob;obtain ⟨x',T',fz',g2,g3,g4,us,g5⟩:=hob;rw [hb] at g2; cases g2
 have hi:i < els.length:=by
  rcases Nat.lt_or_ge i els.length with h | h
  ·exact h
  ·rw [List.getElem?_eq_none h] at he; cases he
 have hlt:i*sz+sz≤x.size:=by
  have:(i+1)*sz≤els.length*sz:=Nat.mul_le_mul_right _ hi;rw [Nat.succ_mul] at this; omega
 obtain ⟨r1,r2,r3⟩:=g5 i e he;obtain ⟨v',k1,k2,k3⟩:=hv _ r1 r2
 have hsz:(splice x (i*sz+off) vs).size=x.size:=zc0 (by omega)
 have hw:∀ k,k≠b→(put w b (splice x (i*sz+off) vs) T fz).heap[k]? =w.heap[k]? :=fun k hk=>by rw [zcy (zbd hb)]; simp [hk]
 have hbb:(put w b (splice x (i*sz+off) vs) T fz).heap[b]? =some (.cells (splice x (i*sz+off) vs) T fz):=by rw [zcy (zbd hb)]; simp
 have hz:∀ y T' fz',w.heap[b]? =some (.cells y T' fz')→∃ y' fz'',(put w b (splice x (i*sz+off) vs) T fz).heap[b]? =some (.cells y' T' fz'')∧y'.size=y.size:=by
  intro y T' fz' hy; rw [hb] at hy; cases hy; exact ⟨_,_,hbb,hsz⟩
 have hcp:zb1 (L g).2 (.arr sz (els.set i e') true):=by rw [e2]; exact ⟨rfl,by simp⟩
 have hg:=Grow.write hm (x:=.arr sz (els.set i e') true) hι (by rw [e2]; rfl) hcp (by simp [put]) hw hz
 have hmm:=Mem.write hm (x:=.arr sz (els.set i e') true) hι (by rw [e2]; simp) (by rw [e2]; rfl) hcp (by simp [put]) hw hz rfl rfl rfl
  ⟨_,T,fz,hbb,g3.put hb (by omega),by rw [hsz]; simpa using g4,fun k=>if k=i then v' else us k,by
   intro k d hd
   by_cases ek:k=i
   ·subst ek;rw [List.getElem?_set,if_pos rfl,if_pos hi] at hd;cases hd;simp only [if_true]
    refine ⟨k1.grow hg,k2,fun q u hu=>?_⟩
    rw [zgo hb,zcx (by omega)]
    have hq:q < sz:=by
     rcases Nat.lt_or_ge q v'.cells.size with h | h
     ·omega
     ·rw [Array.getElem?_eq_none h] at hu; cases hu
    have:=k3 q u hu
    by_cases hc:off≤q∧q < off+vs.length
    ·rw [if_pos hc] at this
     rw [if_pos (by omega),show k*sz+q - (k*sz+off)=q - off by omega]; exact this
    ·rw [if_neg hc] at this
     rw [if_neg (by omega)]
     have:=r3 q u this;simpa [World.cell?,hb] using this
   ·rw [List.getElem?_set,if_neg (Ne.symm ek)] at hd;obtain ⟨p1,p2,p3⟩:=g5 k d hd;simp only [ek,if_false]
    refine ⟨p1.grow hg,p2,fun q u hu=>?_⟩
    have hq:q < sz:=by
     rcases Nat.lt_or_ge q (us k).cells.size with h | h
     ·omega
     ·rw [Array.getElem?_eq_none h] at hu; cases hu
    rw [zgo hb,zcx (by omega),if_neg]
    ·have:=p3 q u hu;simpa [World.cell?,hb] using this
    ·rcases Nat.lt_or_gt_of_ne ek with h | h
     ·have:(k+1)*sz≤i*sz:=Nat.mul_le_mul_right _ h;rw [Nat.succ_mul] at this; omega
     ·have:(i+1)*sz≤k*sz:=Nat.mul_le_mul_right _ h;rw [Nat.succ_mul] at this; omega⟩
 rw [e1] at hg hmm;exact ⟨c,hmm,hg,zhh⟩
def zfT (Lr L:Loc):Prop:=∀ g n,Lr.get g n≠.dead→L.get g n=Lr.get g n∨(∃ sz els l,Lr.get g n=.arr sz els l∧L.get g n=.arr sz els false)∨(∃ a ds,Lr.get g n=.box a ds∧L.get g n=.fbox a ds)∨
 (∃ d0 v x wr,Lr.get g n=.vbox false [d0] [0] [v]∧L.get g n=.fbox false [x]∧toD1 Lr v=some (x,wr))
theorem Sees.weak (hs:Sees Lr L):zfT Lr L:=fun g n h=>.inl (hs g n h)
theorem zfT.arr (hs:zfT Lr L) {g n sz els l} (h:Lr.get g n=.arr sz els l):∃ l',L.get g n=.arr sz els l':=by
 rcases hs g n (by rw [h]; simp) with h1 | ⟨_,_,_,h1,h2⟩ | ⟨_,_,h1,_⟩ | ⟨_,_,_,_,h1,_⟩
 ·exact ⟨l,by rw [h1,h]⟩
 ·rw [h] at h1; cases h1; exact ⟨_,h2⟩
 ·rw [h] at h1; cases h1
 ·rw [h] at h1; cases h1
theorem zfT.set (hs:zfT Lr L) {g n:Nat} {x:HObj} (hg:(L g).1=n) (hx:∀ y,Lr.get g n=y→y≠.dead→L.get g n=y∨(∃ sz els l,y=.arr sz els l∧L.get g n=.arr sz els false)∨(∃ a ds,y=.box a ds∧L.get g n=.fbox a ds)∨(∃ d0 v z wr,y=.vbox false [d0] [0] [v]∧L.get g n=.fbox false [z]∧toD1 Lr v=some (z,wr))→
   x=y∨(∃ sz els l,y=.arr sz els l∧x=.arr sz els false)∨(∃ a ds,y=.box a ds∧x=.fbox a ds)∨(∃ d0 v z wr,y=.vbox false [d0] [0] [v]∧x=.fbox false [z]∧toD1 Lr v=some (z,wr))):zfT Lr (L.upd [(g,(n,x))]):=by
 intro g' n' h';have h0:=hs g' n' h'
 by_cases e:g'=g
 ·subst e
  by_cases en:n'=n
  ·subst en
   have:(L.upd [(g',(n',x))]).get g' n'=x:=by simp [Loc.upd,Loc.get,Loc.set_same]
   rw [this];exact hx _ rfl h' h0
  ·
   exfalso
   have hd:L.get g' n'=.dead:=by unfold Loc.get; rw [if_neg (by omega)]
   rw [hd] at h0;rcases h0 with h1 | ⟨_,_,_,_,h2⟩ | ⟨_,_,_,h2⟩ | ⟨_,_,_,_,_,h2,_⟩
   ·exact h' h1.symm
   ·cases h2
   ·cases h2
   ·cases h2
 ·have:(L.upd [(g,(n,x))]).get g' n'=L.get g' n':=by simp only [Loc.upd]; unfold Loc.get; rw [Loc.set_ne _ _ e]
  rw [this]; exact h0
theorem zo6 {L:Loc} {v:V} {x:D} {wr:Wr} (h:toD1 L v=some (x,wr)):(∃ y,(v=.d y∨∃ k,v=.p k y)∧x=y∧wr=[])∨∃ g n off len sz els lv,v=.ref g n off len∧L.get g n=.arr sz els lv∧(off+len≤els.length∧g < 90000)∧x=.sl .fresh ((els.drop off).take len)∧wr=[(g,(n,.arr sz els false))]:=by
 cases v with
 | d y=>simp [toD1] at h; obtain ⟨rfl,rfl⟩:=h; exact .inl ⟨_,.inl rfl,rfl,rfl⟩
 | p k y=>simp [toD1] at h; obtain ⟨rfl,rfl⟩:=h; exact .inl ⟨_,.inr ⟨k,rfl⟩,rfl,rfl⟩
 | ref g n off len=>
  simp only [toD1] at h;cases hy:L.get g n<;>rw [hy] at h<;>simp at h;obtain ⟨h1,rfl,rfl⟩:=h
  exact .inr ⟨g,n,off,len,_,_,_,rfl,hy,h1,rfl,rfl⟩
 | _=>cases h
theorem zB2 (hm:Mem c N w0 O0 L w) {g n off len sz:Nat} {els:List D} {lv:Bool} {u:Value} (hL:L.get g n=.arr sz els lv) (hgs:g < 90000) (hle:off+len≤els.length) (hv:Val c L w N (.ref g n off len) u):
  Mem c N w0 O0 (L.upd [(g,(n,.arr sz els false))]) w∧Grow c L w c (L.upd [(g,(n,.arr sz els false))]) w∧Rep w (own c (L.upd [(g,(n,.arr sz els false))])) N c.γ (.sl .fresh ((els.drop off).take len)) u:=by
 obtain ⟨e1,e2⟩:=zbM hL (by simp)
 have hnt:=hm.no_tab (g:=g) (by rw [e2]; simp) (by rw [e2]; simp)
 have hl:=Mem.less hm g (.arr sz els false) hnt (.inr ⟨sz,els,lv,e2,rfl⟩);have hg:=Grow.less hm g (.arr sz els false) (.inr ⟨sz,els,lv,e2,rfl⟩);rw [e1] at hl hg;refine ⟨hl,hg,?_⟩
 cases hv with
 | ref _ _ _ _ _ k1 k2 k3=>
  obtain ⟨_,a,cap,rfl,h4,h5⟩:=k2 _ _ _ hL
  have hlen:((els.drop off).take len).length=len:=by simp; omega
  by_cases h0:len=0
  ·subst h0
   simpa using Rep.slE (w:=w) (A:=own c (L.upd [(g,(n,.arr sz els false))])) (N:=N) (γ:=c.γ) .fresh a cap (by simp) (by simp) (by simp)
  ·rcases h5 with h5 | ⟨b,y,T,fz,q1,rfl,q3,q4⟩
   ·omega
   ·have hob:=hm.get hL (by simp)
    rw [q1] at hob;obtain ⟨x',T',fz',g2,g3,g4,us,g5⟩:=hob
    have hmine:=hm.mine g b q1 (by rw [e2]; simp)
    have hno:¬ own c (L.upd [(g,(n,.arr sz els false))]) b:=by
     rintro (ho | ⟨k,h6,h7⟩)
     ·exact hmine.2.2 ho
     ·by_cases ek:k=g
      ·subst ek; simp [Loc.upd,Loc.set_same,HObj.live] at h7
      ·simp only [Loc.upd,Loc.set_ne _ _ ek] at h7
       exact ek (hm.inj k g b h6 q1 (by intro e; rw [e] at h7; cases h7) (by rw [e2]; simp))
    have hget:∀ (i:Nat) (d:D),((els.drop off).take len)[i]? =some d→els[off+i]? =some d:=fun i d hd=>zh4 hd
    have:=Rep.sl (w:=w) (A:=own c (L.upd [(g,(n,.arr sz els false))])) (N:=N) (γ:=c.γ) .fresh ((els.drop off).take len) b (off*sz) sz cap (fun i=>us (off+i))
     (by intro e; rw [e] at hlen; simp at hlen; omega) (by simp) (by omega) (by simp) hno (fun _=>hm.mineN g b q1 (by rw [e2]; simp) (by rw [e2]; simp) hgs) hmine.2.1
     (fun i d hd=>((g5 _ d (hget i d hd)).1).grow hg)
     (fun i hi=>by
      rw [hlen] at hi
      obtain ⟨p1,p2,p3⟩:=g5 (off+i) (els[off+i]'(by omega)) (by simp)
      refine ⟨p2,fun q u hu=>?_⟩
      have:=p3 q u hu
      rwa [Nat.add_mul] at this)
    rw [hlen] at this;exact this
theorem zfT.frozen (hs:zfT Lr L) {g n sz:Nat} {els:List D} {lv:Bool} (hL:L.get g n=.arr sz els lv):zfT Lr (L.upd [(g,(n,.arr sz els false))]):=by
 refine hs.set (zbM hL (by simp)).1 fun y hy hd h=>?_
 rw [hL] at h;rcases h with h | ⟨_,_,_,h1,h2⟩ | ⟨_,_,_,h2⟩ | ⟨_,_,_,_,_,h2,_⟩
 ·exact .inr (.inl ⟨sz,els,lv,h.symm,rfl⟩)
 ·cases h2; exact .inr (.inl ⟨_,_,_,h1,rfl⟩)
 ·cases h2
 ·cases h2
theorem zEq (hm:Mem c N w0 O0 L w) (hs:zfT Lr L) {v:V} {x:D} {wr:Wr} (ht:toD1 Lr v=some (x,wr)):
  Mem c N w0 O0 (L.upd wr) w∧Grow c L w c (L.upd wr) w∧zfT Lr (L.upd wr)∧∀ g n,(∀ sz els l,L.get g n≠.arr sz els l)→(L.upd wr).get g n=L.get g n:=by
 rcases zo6 ht with ⟨y,_,rfl,rfl⟩ | ⟨g,n,off,len,sz,els,lv,rfl,hx,⟨hle,_⟩,rfl,rfl⟩
 ·exact ⟨hm,Grow.refl ..,hs,fun _ _ _=>rfl⟩
 ·obtain ⟨lv',hL⟩:=hs.arr hx
  obtain ⟨e1,e2⟩:=zbM hL (by simp)
  have hnt:=hm.no_tab (g:=g) (by rw [e2]; simp) (by rw [e2]; simp)
  have hl:=Mem.less hm g (.arr sz els false) hnt (.inr ⟨sz,els,lv',e2,rfl⟩);have hg:=Grow.less hm g (.arr sz els false) (.inr ⟨sz,els,lv',e2,rfl⟩);rw [e1] at hl hg
  refine ⟨hl,hg,hs.frozen hL,fun g' n' h=>?_⟩
  by_cases eg:g'=g
  ·subst eg
   by_cases e:n'=n
   ·subst e; exact absurd hL (h _ _ _)
   ·simp only [Loc.upd]; unfold Loc.get
    rw [Loc.set_same,if_neg (fun h=>e h.symm),if_neg (by omega)]
  ·simp only [Loc.upd]; unfold Loc.get; rw [Loc.set_ne _ _ eg]
theorem zrs (hm:Mem c N w0 O0 L w) (hs:zfT Lr L) {v:V} {u:Value} {x:D} {wr:Wr} (ht:toD1 Lr v=some (x,wr)) (hv:Val c L w N v u):
  Mem c N w0 O0 (L.upd wr) w∧Grow c L w c (L.upd wr) w∧Rep w (own c (L.upd wr)) N c.γ x u∧zfT Lr (L.upd wr):=by
 rcases zo6 ht with ⟨y,rfl | ⟨k,rfl⟩,rfl,rfl⟩ | ⟨g,n,off,len,sz,els,lv,rfl,hx,hle,rfl,rfl⟩
 ·exact ⟨hm,Grow.refl ..,hv.dat,hs⟩
 ·cases hv with
  | p _ _ _ hv=>exact ⟨hm,Grow.refl ..,hv,hs⟩
 ·obtain ⟨lv',hL⟩:=hs.arr hx;obtain ⟨m1,m2,m3⟩:=zB2 hm hL hle.2 hle.1 hv;exact ⟨m1,m2,m3,hs.frozen hL⟩
def Vals (c:Ctx) (L:Loc) (w:World) (N:Nat) (vs:List V) (us:List Value):Prop:=us.length=vs.length∧∀ (i:Nat) (v:V) (u:Value),vs[i]? =some v→us[i]? =some u→Val c L w N v u
theorem Vals.grow {c L w c' L' w'} (h:Grow c L w c' L' w') {N:Nat} {vs:List V} {us:List Value} (hv:Vals c L w N vs us):Vals c' L' w' N vs us:=
 ⟨hv.1,fun i v u a b=>(hv.2 i v u a b).grow h⟩
theorem Vals.cons_inv {v:V} {vs:List V} {us:List Value} (h:Vals c L w N (v::vs) us):∃ u us',us=u::us'∧Val c L w N v u∧Vals c L w N vs us':=by
 cases us with
 | nil=>simp [Vals] at h
 | cons u us=>exact ⟨u,us,rfl,h.2 0 v u (by simp) (by simp),by simpa using h.1,fun i v' u' a b=>h.2 (i+1) v' u' (by simpa using a) (by simpa using b)⟩
theorem zva {f:Loc→V→Option (D×Wr)} {F:Loc→List V→Option (List D×Wr)} (hF0:∀ L,F L []=some ([],[])) (hF:∀ L v r,F L (v::r)=(f L v).bind fun (x,w)=>(F L r).map fun (xs,ws)=>(x::xs,w++ws))
  (hf:∀ (L:Loc),Mem c N w0 O0 L w→zfT Lr L→∀ v u x wr,f Lr v=some (x,wr)→Val c L w N v u→Mem c N w0 O0 (L.upd wr) w∧Grow c L w c (L.upd wr) w∧Rep w (own c (L.upd wr)) N c.γ x u∧zfT Lr (L.upd wr)):
  ∀ (vs:List V) (us:List Value) (ds:List D) (wr:Wr) (L:Loc),Mem c N w0 O0 L w→zfT Lr L→F Lr vs=some (ds,wr)→Vals c L w N vs us→
  Mem c N w0 O0 (L.upd wr) w∧Grow c L w c (L.upd wr) w∧Reps w (own c (L.upd wr)) N c.γ ds us∧zfT Lr (L.upd wr)
 | [],us,ds,wr,L,hm,hs,ht,hv=>by
  rw [hF0] at ht;simp at ht;obtain ⟨rfl,rfl⟩:=ht;have:us=[]:=List.eq_nil_of_length_eq_zero hv.1;subst this
  exact ⟨hm,Grow.refl ..,Reps.nil,hs⟩
 | v::vs,us,ds,wr,L,hm,hs,ht,hv=>by
  rw [hF] at ht
  cases h1:f Lr v with
  | none=>rw [h1] at ht; cases ht
  | some p=>
   obtain ⟨x,w1⟩:=p;rw [h1] at ht;simp only [Option.bind_some] at ht
   cases h2:F Lr vs with
   | none=>rw [h2] at ht; cases ht
   | some p=>
    obtain ⟨xs,w2⟩:=p;rw [h2] at ht;simp at ht;obtain ⟨rfl,rfl⟩:=ht;obtain ⟨u,us,rfl,hu,hus⟩:=hv.cons_inv;obtain ⟨m1,m2,m3,m4⟩:=hf L hm hs v u x w1 h1 hu;obtain ⟨k1,k2,k3,k4⟩:=zva hF0 hF hf vs us xs w2 (L.upd w1) m1 m4 h2 (hus.grow m2);rw [Loc.upd_append];exact ⟨k1,m2.trans k2,Reps.cons (m3.grow k2) k3,k4⟩
theorem zEr:∀ (vs:List V) (us:List Value) (ds:List D) (wr:Wr) (L:Loc),Mem c N w0 O0 L w→zfT Lr L→zrh Lr vs=some (ds,wr)→Vals c L w N vs us→
  Mem c N w0 O0 (L.upd wr) w∧Grow c L w c (L.upd wr) w∧Reps w (own c (L.upd wr)) N c.γ ds us∧zfT Lr (L.upd wr):=
 zva (f:=toD1) (F:=zrh) (fun _=>rfl) (fun _ _ _=>rfl) fun _ hm hs _ _ _ _ ht hv=>zrs hm hs ht hv
theorem zwY (hm:Mem c N w0 O0 L w) {g n:Nat} {y:HObj} {a:Bool} {ds:List D} {us:List V} (hL:L.get g n=y) (hy:y.cellsV=some us) (hl:ds.length=us.length)
  (hr:∀ (b:Nat) (x:Array Value) (T:TypeId) (fz:Nat×Nat),c.ι g=some b→w.heap[b]? =some (.cells x T fz)→∀ (i:Nat) (d:D) (u:Value),ds[i]? =some d→x[i]? =some u→Rep w (own c L) N c.γ d u):
  Mem c N w0 O0 (L.upd [(g,(n,.fbox a ds))]) w∧Grow c L w c (L.upd [(g,(n,.fbox a ds))]) w:=by
 have hyd:y≠.dead:=by rintro rfl; cases hy
 obtain ⟨e1,e2⟩:=zbM hL hyd;have hlv:=(zrq hy).1
 have hc:zb1 (L g).2 (.fbox a ds):=by
  rw [e2];cases y<;>simp [HObj.cellsV] at hy<;>subst hy<;>simpa [zb1,zcE] using hl
 have hg:=Grow.fix hm g (.fbox a ds) rfl hc
 have hmm:=Mem.fix hm g (.fbox a ds) (hm.live_tab (by rw [e2]; exact hlv)) rfl hc (by rw [e2]; exact hyd) (fun sz els e=>by rw [e2] at e; rw [e] at hy; cases hy) (by
  obtain ⟨b,x,T,fz,h1,h2,h3,h4,h5⟩:=(zgt.cellsV hy).1 (hm.get hL hyd)
  refine ⟨b,x,T,fz,h1,h2,by omega,fun i d u hd hu=>?_⟩
  have hi:i < us.length:=by have:=za3 hd; omega
  obtain ⟨k1,k2⟩:=h5 i us[i] u (by simp) hu
  exact ⟨(hr b x T fz h1 h2 i d u hd hu).grow hg,k2⟩)
 rw [e1] at hg hmm;exact ⟨hmm,hg⟩
theorem zB3 {x:Array Value} (h:x.size=1):∃ u,x=#[u]:=⟨x[0],by
 apply Array.ext (by simpa using h)
 intro i hi hi'
 have:i=0:=by omega
 subst this; rfl⟩
theorem zvb (hm:Mem c N w0 O0 L w) {g n:Nat} {a:Bool} {ds:List D} {u:Value} (hL:L.get g n=.fbox a ds) (hv:Val c L w N (.ptr g n 0) u):
  (a=true→Rep w (own c L) N c.γ (.at_ (.agg ds)) u)∧(∀ x,ds=[x]→Rep w (own c L) N c.γ (.at_ x) u):=by
 obtain ⟨e1,e2⟩:=zbM hL (by simp)
 obtain ⟨b,x,T,fz,h1,h2,h4,h5⟩:=hm.get hL (by simp)
 cases hv with
 | ptr _ _ _ _ k1 k2=>
 obtain ⟨b',q1,rfl⟩:=k2 (by rw [hL]; simp)
 rw [h1] at q1; cases q1
 have hmine:=hm.mine g b h1 (by rw [e2]; simp)
 have hno:¬ own c L b:=by
  rintro (ho | ⟨k,h6,h7⟩)
  ·exact hmine.2.2 ho
  ·have:k=g:=hm.inj k g b h6 h1 (by intro e; rw [e] at h7; cases h7) (by rw [e2]; simp)
   subst this; rw [e2] at h7; cases h7
 refine ⟨fun _=>.at_ _ (.agg x) b 0 hno hmine.2.1 (fun j y hy=>zfy h2 (by simpa [Value.cells] using hy)) (.agg _ _ h4 (fun i d v hd hv=>(h5 i d v hd hv).1) fun i v hv=>?_),fun d hd=>?_⟩
 ·have hi:i < ds.length:=by
   rcases Nat.lt_or_ge i x.size with h | h
   ·omega
   ·rw [Array.getElem?_eq_none h] at hv; cases hv
  exact (h5 i ds[i] v (by simp) hv).2
 ·subst hd
  obtain ⟨u,rfl⟩:=zB3 (x:=x) (by simpa using h4)
  obtain ⟨r1,r2⟩:=h5 0 d u (by simp) (by simp)
  refine .at_ _ u b 0 hno hmine.2.1 (fun j y hy=>?_) r1
  rw [zbm r2] at hy
  cases j with
  | zero=>simp at hy; subst hy; exact zfy h2 (by simp)
  | succ j=>simp at hy
theorem zGt (L:Loc) (hm:Mem c N w0 O0 L w) (hs:zfT Lr L) (v:V) (u:Value) (x:D) (wr:Wr) (ht:toD2 Lr v=some (x,wr)) (hv:Val c L w N v u):
  Mem c N w0 O0 (L.upd wr) w∧Grow c L w c (L.upd wr) w∧Rep w (own c (L.upd wr)) N c.γ x u∧zfT Lr (L.upd wr):=by
 have h1:toD1 Lr v=some (x,wr)→_:=fun ht=>zrs hm hs ht hv
 have fin:∀ {g n:Nat} {a:Bool} {ds:List D},v=.ptr g n 0→(L.get g n=.box a ds∨L.get g n=.fbox a ds)→(Lr.get g n=.box a ds∨Lr.get g n=.fbox a ds)→(a=true∧x=.at_ (.agg ds)∨∃ y,ds=[y]∧x=.at_ y)→wr=[(g,(n,.fbox a ds))]→
   Mem c N w0 O0 (L.upd wr) w∧Grow c L w c (L.upd wr) w∧Rep w (own c (L.upd wr)) N c.γ x u∧zfT Lr (L.upd wr):=by
  rintro g n a ds rfl hL hLr hx rfl
  have key:Mem c N w0 O0 (L.upd [(g,(n,.fbox a ds))]) w∧Grow c L w c (L.upd [(g,(n,.fbox a ds))]) w:=by
   rcases hL with hL | hL
   ·refine zwY hm hL (us:=ds.map .d) rfl (by simp) fun b x T fz h1 h2 i d u hd hu=>?_
    obtain ⟨b',x',T',fz',g1,g2,g3,g4,g5⟩:=hm.get hL (by simp)
    rw [h1] at g1; cases g1;rw [h2] at g2; cases g2;exact (g5 i d u hd hu).1
   ·obtain ⟨e1,e2⟩:=zbM hL (by simp)
    have:L.upd [(g,(n,.fbox a ds))]=L:=by
     funext k;simp only [Loc.upd]
     by_cases e:k=g
     ·subst e; rw [Loc.set_same,←e1,←e2]
     ·rw [Loc.set_ne _ _ e]
    rw [this]; exact ⟨hm,Grow.refl ..⟩
  have hL':(L.upd [(g,(n,.fbox a ds))]).get g n=.fbox a ds:=by simp [Loc.upd,Loc.get,Loc.set_same]
  obtain ⟨r1,r2⟩:=zvb key.1 hL' (hv.grow key.2);refine ⟨key.1,key.2,?_,?_⟩
  ·rcases hx with ⟨ha,rfl⟩ | ⟨y,hy,rfl⟩
   ·exact r1 ha
   ·exact r2 y hy
  ·have hn:(L g).1=n:=by rcases hL with hL | hL<;>exact (zbM hL (by simp)).1
   refine hs.set hn fun y hy hd _=>?_
   rw [←hy];rcases hLr with h | h
   ·exact .inr (.inr (.inl ⟨a,ds,h,rfl⟩))
   ·exact .inl h.symm
 cases v with
 | ptr g n off=>
  simp only [toD2] at ht
  cases off with
  | succ _=>simp at ht
  | zero=>
  cases hx:Lr.get g n with
  | box a ds=>
   rw [hx] at ht
   have hL:L.get g n=.box a ds∨L.get g n=.fbox a ds:=by
    rcases hs g n (by rw [hx]; simp) with h1 | ⟨_,_,_,h1,h2⟩ | ⟨_,_,h1,h2⟩ | ⟨_,_,_,_,h1,_⟩
    ·exact .inl (by rw [h1,hx])
    ·rw [hx] at h1; cases h1
    ·rw [hx] at h1; cases h1; exact .inr h2
    ·rw [hx] at h1; cases h1
   cases a with
   | true=>simp at ht; exact fin rfl hL (.inl hx) (.inl ⟨rfl,ht.1.symm⟩) ht.2.symm
   | false=>
    cases ds with
    | nil=>simp at ht
    | cons d r=>
     cases r with
     | cons _ _=>simp at ht
     | nil=>simp at ht; exact fin rfl hL (.inl hx) (.inr ⟨d,rfl,ht.1.symm⟩) ht.2.symm
  | fbox a ds=>
   rw [hx] at ht
   have hL:L.get g n=.fbox a ds:=by
    rcases hs g n (by rw [hx]; simp) with h1 | ⟨_,_,_,h1,h2⟩ | ⟨_,_,h1,h2⟩ | ⟨_,_,_,_,h1,_⟩
    ·rw [h1,hx]
    ·rw [hx] at h1; cases h1
    ·rw [hx] at h1; cases h1
    ·rw [hx] at h1; cases h1
   obtain ⟨r1,r2⟩:=zvb hm hL hv
   cases a with
   | true=>simp at ht; obtain ⟨rfl,rfl⟩:=ht; exact ⟨hm,Grow.refl ..,r1 rfl,hs⟩
   | false=>
    cases ds with
    | nil=>simp at ht
    | cons d r=>
     cases r with
     | cons _ _=>simp at ht
     | nil=>simp at ht; obtain ⟨rfl,rfl⟩:=ht; exact ⟨hm,Grow.refl ..,r2 _ rfl,hs⟩
  | vbox a ds ks vs=>
   rw [hx] at ht
   by_cases hsh:a=false∧(∃ d0,ds=[d0])∧ks=[0]∧∃ v',vs=[v']
   rotate_left
   ·exfalso;revert ht
    cases a with
    | true=>simp
    | false=>
     rcases ds with _ | ⟨d0,_ | ⟨_,_⟩⟩<;>try simp
     rcases ks with _ | ⟨k0,_ | ⟨_,_⟩⟩<;>try simp
     rcases vs with _ | ⟨v0,_ | ⟨_,_⟩⟩<;>try simp
     cases k0 with
     | succ _=>simp
     | zero=>exact absurd ⟨rfl,⟨d0,rfl⟩,rfl,v0,rfl⟩ hsh
   obtain ⟨rfl,⟨d0,rfl⟩,rfl,v',rfl⟩:=hsh
   replace ht:(toD1 Lr v').map (fun p=>(p.1.at_,p.2++[(g,(n,.fbox false [p.1]))]))=some (x,wr):=ht
   cases hd1:toD1 Lr v' with
   | none=>rw [hd1] at ht; cases ht
   | some p=>
   obtain ⟨x1,w1⟩:=p;rw [hd1] at ht;simp at ht;obtain ⟨rfl,rfl⟩:=ht;obtain ⟨m1,m2,m3,m4⟩:=zEq hm hs hd1
   have hL:L.get g n=.vbox false [d0] [0] [v']∨L.get g n=.fbox false [x1]:=by
    rcases hs g n (by rw [hx]; simp) with h1 | ⟨_,_,_,h1,h2⟩ | ⟨_,_,h1,h2⟩ | ⟨_,_,_,_,h1,h2,h3⟩
    ·exact .inl (by rw [h1,hx])
    ·rw [hx] at h1; cases h1
    ·rw [hx] at h1; cases h1
    ·rw [hx] at h1; cases h1; rw [hd1] at h3; cases h3; exact .inr h2
   have hL1:(L.upd w1).get g n=L.get g n:=m4 g n (fun sz els l h=>by rcases hL with hL | hL<;>(rw [hL] at h; cases h))
   have hn:((L.upd w1) g).1=n:=by
    have:(L.upd w1).get g n≠.dead:=by rw [hL1]; rcases hL with hL | hL<;>(rw [hL]; simp)
    unfold Loc.get at this;split at this
    ·assumption
    ·exact absurd rfl this
   have key:Mem c N w0 O0 ((L.upd w1).upd [(g,(n,.fbox false [x1]))]) w∧Grow c (L.upd w1) w c ((L.upd w1).upd [(g,(n,.fbox false [x1]))]) w:=by
    rcases hL with hL | hL
    ·refine zwY m1 (hL1.trans hL) (us:=[v']) (by simp [HObj.cellsV,ovs]) (by simp) fun b x T fz h1 h2 i d u hd hu=>?_
     cases i with
     | succ i=>simp at hd
     | zero=>
     simp at hd; subst hd
     obtain ⟨b',x',T',fz',g1,g2,g3,g4,g5⟩:=hm.get hL (by simp)
     rw [h1] at g1; cases g1;rw [h2] at g2; cases g2
     have:=(g5 0 v' u (by simp [ovs]) hu).1
     exact (zrs hm hs hd1 this).2.2.1
    ·obtain ⟨e1,e2⟩:=zbM (hL1.trans hL) (by simp)
     have:(L.upd w1).upd [(g,(n,.fbox false [x1]))]=L.upd w1:=by
      funext k;simp only [Loc.upd]
      by_cases e:k=g
      ·subst e; rw [Loc.set_same,←e1,←e2]
      ·rw [Loc.set_ne _ _ e]
     rw [this]; exact ⟨m1,Grow.refl ..⟩
   have hL':((L.upd w1).upd [(g,(n,.fbox false [x1]))]).get g n=.fbox false [x1]:=by simp [Loc.upd,Loc.get,Loc.set_same]
   obtain ⟨_,r2⟩:=zvb key.1 hL' (hv.grow (m2.trans key.2));rw [Loc.upd_append]
   refine ⟨key.1,m2.trans key.2,r2 _ rfl,m3.set hn fun y hy hd _=>?_⟩
   rw [←hy,hx]
   exact .inr (.inr (.inr ⟨d0,v',x1,w1,rfl,rfl,hd1⟩))
  | _=>rw [hx] at ht; simp at ht
 | _=>exact h1 ht
theorem zzV:∀ (vs:List V) (us:List Value) (ds:List D) (wr:Wr) (L:Loc),Mem c N w0 O0 L w→zfT Lr L→zu2 Lr vs=some (ds,wr)→Vals c L w N vs us→
  Mem c N w0 O0 (L.upd wr) w∧Grow c L w c (L.upd wr) w∧Reps w (own c (L.upd wr)) N c.γ ds us∧zfT Lr (L.upd wr):=
 zva (f:=toD2) (F:=zu2) (fun _=>rfl) (fun _ _ _=>rfl) zGt
theorem zyH:∀ {ks:List Nat} {xs ds:List D} {i:Nat} {d:D},ks.length=xs.length→(setL ds ks xs)[i]? =some d→(i ∉ ks∧ds[i]? =some d)∨∃ j:Nat,ks[j]? =some i∧xs[j]? =some d
 | k::ks,x::xs,ds,i,d,hl,h=>by
  simp only [setL,List.getElem?_set] at h
  by_cases e:k=i
  ·subst e;simp only [if_true] at h;split at h
   ·cases h; exact .inr ⟨0,by simp,by simp⟩
   ·cases h
  ·rw [if_neg e] at h
   rcases zyH (by simpa using hl) h with ⟨h1,h2⟩ | ⟨j,h1,h2⟩
   ·exact .inl ⟨by simp [h1]; exact fun e'=>e e'.symm,h2⟩
   ·exact .inr ⟨j+1,by simpa using h1,by simpa using h2⟩
 | [],_,ds,i,d,_,h=>.inl ⟨by simp,by simpa [setL] using h⟩
 | _::_,[],_,_,_,hl,_=>by simp at hl
theorem znT:∀ (ks:List Nat) (xs ds:List D),(setL ds ks xs).length=ds.length
 | k::ks,x::xs,ds=>by simp [setL,znT ks xs ds]
 | [],_,ds=>by simp [setL]
 | _::_,[],ds=>by simp [setL]
theorem zwZ {ks:List Nat}:∀ {vs:List V} {i:Nat},i ∉ ks→zdr ks vs i=none:=by
 induction ks with
 | nil=>intro vs i _; simp [zdr]
 | cons k ks ih=>
  intro vs i h
  cases vs with
  | nil=>simp [zdr]
  | cons v vs=>
   simp at h;simp only [zdr]
   rw [if_neg (fun e=>h.1 e.symm)]
   exact ih h.2
theorem zhi {n:Nat} {ks:List Nat} {vs:List V} (h:okOv n ks vs=true):ks.Nodup∧ks.length=vs.length∧∀ k∈ks,k < n:=by
 unfold okOv at h;simp at h;exact ⟨h.1.1,h.1.2,h.2⟩
theorem zw0 {L:Loc}:∀ {vs:List V} {xs:List D} {w:Wr},zrh L vs=some (xs,w)→xs.length=vs.length
 | [],xs,w,h=>by simp [zrh] at h; simp [h.1]
 | v::vs,xs,w,h=>by
  simp only [zrh] at h
  cases h1:toD1 L v with
  | none=>rw [h1] at h; cases h
  | some p=>
   cases h2:zrh L vs with
   | none=>rw [h1,h2] at h; cases h
   | some q=>
    rw [h1,h2] at h;simp at h;have:=zw0 h2;rw [←h.1]; simp [this]
theorem zB4:∀ {ks:List Nat} {vs cs:List V} {j:Nat} {v:V},ks.Nodup→ks.length=vs.length→vs[j]? =some v→∀ k,ks[j]? =some k→k < cs.length→(ovs ks vs cs)[k]? =some v
 | k0::ks,v0::vs,cs,j,v,hn,hl,hv,k,hk,hlt=>by
  simp only [List.nodup_cons] at hn;simp only [ovs,List.getElem?_set,zcE]
  cases j with
  | zero=>simp at hv hk; subst hv; subst hk; simp [hlt]
  | succ j=>
   simp at hv hk
   have:k0≠k:=fun e=>hn.1 (e ▸ List.mem_of_getElem? hk)
   rw [if_neg this]
   exact zB4 hn.2 (by simpa using hl) hv k hk hlt
 | [],vs,cs,j,v,_,hl,hv,k,hk,_=>by simp at hk
 | _::_,[],cs,j,v,_,hl,hv,k,hk,_=>by simp at hv
theorem zvc {ds:List D} {ks:List Nat} {vs:List V} {us:Array Value} (hok:okOv ds.length ks vs=true) (a1:us.size=ds.length) (a2:∀ (i:Nat) (v:V) (u:Value),(ovs ks vs (ds.map .d))[i]? =some v→us[i]? =some u→Val c L w N v u):
  Vals c L w N vs (ks.map fun k=>(us[k]?).getD undef):=by
 obtain ⟨w1,w2,w3⟩:=zhi hok
 refine ⟨by simp [w2],fun j v u hv hu=>?_⟩
 rw [List.getElem?_map] at hu
 cases hk:ks[j]? with
 | none=>rw [hk] at hu; cases hu
 | some k=>
  rw [hk] at hu; simp at hu;have hlt:=w3 k (List.mem_of_getElem? hk)
  have huk:us[k]? =some (us[k]'(by omega)):=by simp
  rw [huk] at hu; simp at hu; subst hu
  exact a2 k v _ (zB4 w1 w2 hv k hk (by simpa using hlt)) huk
theorem zB5 {A:Nat→Prop} {N':Nat} {γ:Nat→Nat→Option Nat} {w':World} {ds xs:List D} {ks:List Nat} {vs:List V} {us:Array Value} (hok:okOv ds.length ks vs=true) (hx:xs.length=vs.length) (a1:us.size=ds.length) (a3:∀ (i:Nat) (u:Value),us[i]? =some u→u.oneCell'=true)
  (h1:∀ (i:Nat) (d:D) (u:Value),(ovs ks vs (ds.map .d))[i]? =some (.d d)→us[i]? =some u→Rep w' A N' γ d u) (h2:Reps w' A N' γ xs (ks.map fun k=>(us[k]?).getD undef)):
  Rep w' A N' γ (.agg (setL ds ks xs)) (.agg us):=by
 obtain ⟨w1,w2,w3⟩:=zhi hok
 refine .agg _ _ (by rw [znT]; exact a1) (fun i d u hd hu=>?_) a3
 rcases zyH (by omega) hd with ⟨k1,k2⟩ | ⟨j,k1,k2⟩
 ·refine h1 i d u ?_ hu
  rw [zfc,if_pos (by simpa using za3 k2),zwZ k1]
  simp [k2]
 ·exact h2.2 j d u k2 (by rw [List.getElem?_map,k1]; simp [hu])
theorem zB6 (hm:Mem c N w0 O0 L w) (hs:zfT Lr L) {v:V} {u:Value} {x:D} {wr:Wr} (ht:toD Lr v=some (x,wr)) (hv:Val c L w N v u):
  Mem c N w0 O0 (L.upd wr) w∧Grow c L w c (L.upd wr) w∧Rep w (own c (L.upd wr)) N c.γ x u∧zfT Lr (L.upd wr):=by
 have h0:toD1 Lr v=some (x,wr)→_:=fun ht=>zrs hm hs ht hv
 cases v with
 | agg ds ks vs=>
  simp only [toD] at ht;split at ht
  rotate_left
  ·cases ht
  rename_i hok
  cases h:zrh Lr vs with
  | none=>rw [h] at ht; cases ht
  | some p=>
   obtain ⟨xs,wr1⟩:=p;rw [h] at ht;simp at ht;obtain ⟨rfl,rfl⟩:=ht
   cases hv with
   | agg _ _ _ us a1 a2 a3=>
    obtain ⟨m1,m2,m3,m4⟩:=zEr vs _ xs wr1 L hm hs h (zvc hok a1 a2)
    exact ⟨m1,m2,zB5 hok (zw0 h) a1 a3 (fun i d u hd hu=>(a2 i (.d d) u hd hu).dat.grow m2) m3,m4⟩
 | clo f a b=>
  simp only [toD] at ht
  cases h1:zu2 Lr a with
  | none=>rw [h1] at ht; cases ht
  | some p=>
  obtain ⟨xs,wa⟩:=p;rw [h1] at ht;simp only [Option.bind_some] at ht
  cases h2:zu2 Lr b with
  | none=>rw [h2] at ht; cases ht
  | some p=>
  obtain ⟨ys,wb⟩:=p;rw [h2] at ht;simp at ht;obtain ⟨rfl,rfl⟩:=ht
  cases hv with
  | clo _ _ _ va vb a1 a2 a3 a4=>
   obtain ⟨m1,m2,m3,m4⟩:=zzV a va.toList xs wa L hm hs h1 ⟨by simpa using a1,fun i v u hv hu=>a3 i v u hv (by simpa using hu)⟩
   obtain ⟨k1,k2,k3,k4⟩:=zzV b vb.toList ys wb (L.upd wa) m1 m4 h2 ⟨by simpa using a2,fun i v u hv hu=>(a4 i v u hv (by simpa using hu)).grow m2⟩
   rw [Loc.upd_append]
   refine ⟨k1,m2.trans k2,.fn _ _ _ _ _ (by have:=m3.1; simpa using this) (by have:=k3.1; simpa using this) (fun i d v hd hv=>((m3.2 i d v hd (by simpa using hv))).grow k2) (fun i d v hd hv=>k3.2 i d v hd (by simpa using hv)),k4⟩
 | _=>exact h0 ht
theorem zB7 (hm:Mem c N w0 O0 L w) (hs:Sees Lr L) {v:V} {u:Value} {x:D} {wr:Wr} (ht:toD Lr v=some (x,wr)) (hv:Val c L w N v u):
  Mem c N w0 O0 (L.upd wr) w∧Grow c L w c (L.upd wr) w∧Rep w (own c (L.upd wr)) N c.γ x u:=by
 obtain ⟨m1,m2,m3,_⟩:=zB6 hm hs.weak ht hv;exact ⟨m1,m2,m3⟩
theorem zGu:∀ (vs:List V) (us:List Value) (ds:List D) (wr:Wr) (L:Loc),Mem c N w0 O0 L w→zfT Lr L→toDs Lr vs=some (ds,wr)→Vals c L w N vs us→
  Mem c N w0 O0 (L.upd wr) w∧Grow c L w c (L.upd wr) w∧Reps w (own c (L.upd wr)) N c.γ ds us∧zfT Lr (L.upd wr):=
 zva (f:=toD) (F:=toDs) (fun _=>rfl) (fun _ _ _=>rfl) fun _ hm hs _ _ _ _ ht hv=>zB6 hm hs ht hv
end
end Wf

namespace Wf
open Go Go.RowKit
section
variable {c:Ctx} {N:Nat} {w0:World} {O0:Nat→Prop} {L Lr:Loc} {w:World}
theorem zep {P:Program} {t:TypeId} {n b o:Nat} {T:TypeId} {fz:Nat×Nat} {x:Array Value} {v:Value} (hn:zb9 P t=some n) (hb:w.heap[b]? =some (.cells x T fz))
  (hv:v.cells.size=n) (hs:o+n≤x.size) (hf:Unfrozen w b x.size) (h1:∀ (i:Nat) (u:Value),v.cells[i]? =some u→u.oneCell'=true):
  (Instr.storeAt t (.pointer (some ⟨b,o,none⟩)) v).run P w=.ok () (put w b (splice x o v.cells.toList) T fz):=by
 simp only [Instr.storeAt,Instr.sureAddr,Sem.run_bind,Sem.run_pure,Result.andThen_ok]
 exact zwW hn hb hv hs (fun j _ hj=>hf j (by omega)) h1
theorem zzW {w:World} {A N γ} {cs:List D} {vs:Array Value} (h:Rep w A N γ (.agg cs) (.agg vs)):Reps w A N γ cs vs.toList∧∀ v∈vs.toList,v.oneCell'=true:=by
 cases h with
 | agg _ _ h1 h2 h3=>
  refine ⟨⟨by simpa using h1,fun i d v hd hv=>h2 i d v hd (by simpa using hv)⟩,fun v hv=>?_⟩
  obtain ⟨i,hi,rfl⟩:=List.mem_iff_getElem.1 hv
  exact h3 i _ (by simp)
theorem zEs {w:World} {A N γ} {d:D} {v:Value} (h:Rep w A N γ d v):Reps w A N γ [d] [v]:=Reps.cons h Reps.nil
theorem zq0:∀ {kl:Wr} {L:Loc},(∀ p∈kl,p.2=((L p.1).1,.dead))→∀ g,(L.upd kl) g=if g∈kl.map (·.1) then ((L g).1,.dead) else L g
 | [],L,_,g=>by simp [Loc.upd]
 | (g0,x0)::kl,L,h,g=>by
  have h0:x0=((L g0).1,.dead):=h (g0,x0) (by simp)
  subst h0
  have ih:=zq0 (kl:=kl) (L:=L.set g0 ((L g0).1,.dead)) (fun p hp=>by
   have:=h p (by simp [hp])
   by_cases e:p.1=g0
   ·rw [e,Loc.set_same]; rw [e] at this; exact this
   ·rw [Loc.set_ne _ _ e]; exact this) g
  simp only [Loc.upd];rw [ih]
  by_cases e:g=g0
  ·subst e; simp [Loc.set_same]
  ·rw [Loc.set_ne _ _ e,List.map_cons]; simp only [List.mem_cons,e,false_or]
theorem ziK {L:Loc} {k k' ver:Nat} {wr:Bool} {T:Tb}:za6 (L.set (tb k) (ver,.tbl wr T)) k'=if k'=k then some (wr,T) else za6 L k':=by
 by_cases e:k'=k
 ·subst e; simp [za6,Loc.set_same]
 ·rw [if_neg e]; exact zby (Loc.set_ne _ _ (fun h=>e (zfq h)))
theorem Mem.tab_upd (hm:Mem c N w0 O0 L w) {k:Nat} {T T':Tb} {ver:Nat} (hT:za6 L k=some (true,T)) {kl:Wr} (hkl:∀ p∈kl,p.2=((L p.1).1,.dead)∧(L p.1).2.live=true)
  {c':Ctx} (hι:c'.ι=c.ι) (hγ:c'.γ=c.γ) (hO1:∀ b,c.O b→c'.O b) (hO2:∀ b,c'.O b→c.O b∨∃ p∈kl,c.ι p.1=some b) {w':World} {b:Nat} (hb:c.O b)
  (hs:w'.heap.size=w.heap.size) (ho:∀ q,q≠b→w'.heap[q]? =w.heap[q]?)
  (hz:∀ y T fz,w.heap[b]? =some (.cells y T fz)→∃ y' fz',w'.heap[b]? =some (.cells y' T fz')∧y'.size=y.size)
  (hos:w'.os=w.os) (htape:w'.tape=w.tape) (hout:w'.output=w.output) (hver:(L (tb k)).1≤ver) (hon:ver=(L (tb k)).1→TbOn T T'∧∀ i o,zcq ((L.upd kl).set (tb k) (ver,.tbl true T')) k i (some o)→c'.ρ k i o=c.ρ k i o)
  (hρ:∀ k',k'≠k→∀ i o,c'.ρ k' i o=c.ρ k' i o) (ht:TabRel ((L.upd kl).set (tb k) (ver,.tbl true T')) c' (fun b=>b < N∧¬ O0 b) w'):
  Mem c' N w0 O0 (L.upd (kl++[(tb k,(ver,.tbl true T'))])) w'∧Grow c L w c' (L.upd (kl++[(tb k,(ver,.tbl true T'))])) w':=by
 have hL':L.upd (kl++[(tb k,(ver,.tbl true T'))])=(L.upd kl).set (tb k) (ver,.tbl true T'):=by rw [Loc.upd_append]; rfl
 rw [hL']
 have hat:=zq0 (kl:=kl) (L:=L) (fun p hp=>(hkl p hp).1)
 have htl:=zed.1 hT
 have hnt:∀ p∈kl,∀ k,tb k≠p.1:=fun p hp k=>hm.live_tab (hkl p hp).2 k
 have htk:∀ k',(L.upd kl) (tb k')=L (tb k'):=by
  intro k';rw [hat,if_neg];intro h;obtain ⟨p,hp,e⟩:=List.mem_map.1 h;exact hnt p hp k' e.symm
 have hdead:∀ p∈kl,(((L.upd kl).set (tb k) (ver,.tbl true T')) p.1).2=.dead:=by
  intro p hp
  rw [Loc.set_ne _ _ (fun e=>hnt p hp k e.symm),hat,if_pos (List.mem_map.2 ⟨p,hp,rfl⟩)]
 have hother:∀ g,g≠tb k→g ∉ kl.map (·.1)→((L.upd kl).set (tb k) (ver,.tbl true T')) g=L g:=by
  intro g h1 h2;rw [Loc.set_ne _ _ h1,hat,if_neg h2]
 have hnd:∀ g,g≠tb k→(((L.upd kl).set (tb k) (ver,.tbl true T')) g).2≠.dead→g ∉ kl.map (·.1)∧(L g).2≠.dead:=by
  intro g h1 h2
  have h3:g ∉ kl.map (·.1):=by
   intro h;obtain ⟨p,hp,e⟩:=List.mem_map.1 h;subst e;exact h2 (hdead p hp)
  rw [hother g h1 h3] at h2;exact ⟨h3,h2⟩
 have hg:Grow c L w c' ((L.upd kl).set (tb k) (ver,.tbl true T')) w':=by
  refine ⟨by omega,fun q hq _=>ho q fun e=>hq (.inl (e ▸ hb)),?_,fun k i a h=>by rw [hγ]; exact h,?_,zrm hT (fun q e=>by rw [Loc.set_ne _ _ (fun h=>e (zfq h)),htk]) (fun q _=>by rw [hγ]) (fun q e=>by funext i o; exact hρ q e i o),?_,?_,?_⟩
  ·rintro q hlt (h | ⟨g,h1,h2⟩)
   ·rcases hO2 q h with h | ⟨p,hp,h⟩
    ·exact .inl h
    ·exact .inr ⟨p.1,h,(hkl p hp).2⟩
   ·by_cases e:g=tb k
    ·subst e; rw [Loc.set_same] at h2; cases h2
    ·obtain ⟨e1,_⟩:=hnd g e (fun e=>by rw [e] at h2; cases h2)
     rw [hother g e e1] at h2;rw [hι] at h1;exact .inr ⟨g,h1,h2⟩
  ·intro k' i o e hth
   by_cases ek:k'=k
   ·subst ek;rw [Loc.set_same] at e;exact (hon e).2 i o hth
   ·exact hρ k' ek i o
  ·intro q y T0 fz hy hq
   by_cases e:q=b
   ·subst e; exact hz y T0 fz hy
   ·exact ⟨y,fz,by rw [ho q e]; exact hy,rfl⟩
  ·intro g
   by_cases e:g=tb k
   ·subst e; rw [Loc.set_same]; exact hver
   ·rw [Loc.set_ne _ _ e,hat];split<;>exact Nat.le_refl _
  ·intro g hg
   by_cases e:g=tb k
   ·subst e;rw [Loc.set_same] at hg ⊢;rw [hι,htl];exact .inr ⟨rfl,rfl,(hon hg).1⟩
   ·by_cases h3:g∈kl.map (·.1)
    ·obtain ⟨p,hp,e2⟩:=List.mem_map.1 h3;subst e2;exact .inl (hdead p hp)
    ·rw [hother g e h3,hι]; exact .inr ⟨rfl,zb1.refl _⟩
 have hmine:∀ g q,c'.ι g=some q→(((L.upd kl).set (tb k) (ver,.tbl true T')) g).2≠.dead→(N≤q∨O0 q)∧q < w'.heap.size∧¬ c'.O q:=by
  intro g q h1 h2;rw [hι] at h1
  have e:g≠tb k:=by rintro rfl; rw [hm.iotab] at h1; cases h1
  obtain ⟨e1,e2⟩:=hnd g e h2;obtain ⟨a1,a2,a3⟩:=hm.mine g q h1 e2
  refine ⟨a1,by omega,fun h=>?_⟩
  rcases hO2 q h with h | ⟨p,hp,h⟩
  ·exact a3 h
  ·have:=hm.inj g p.1 q h1 h e2 (fun e=>by have:=(hkl p hp).2; rw [e] at this; cases this)
   exact e1 (List.mem_map.2 ⟨p,hp,this.symm⟩)
 refine ⟨⟨fun g=>?_,fun g g' q h1 h2 h3 h4=>?_,hmine,fun g q h1 h2 h3=>?_,ht,fun k=>by rw [hι]; exact hm.iotab k,fun k'=>?_,by rw [hs]; exact hm.size,hm.size0,by rw [hos]; exact hm.os,by rw [htape]; exact hm.tape,by rw [hout]; exact hm.output,fun q hq hO=>?_,fun q hq=>?_⟩,hg⟩
 ·by_cases e:g=tb k
  ·subst e; rw [Loc.set_same]; trivial
  ·by_cases h3:g∈kl.map (·.1)
   ·obtain ⟨p,hp,e2⟩:=List.mem_map.1 h3;subst e2;rw [hdead p hp]; trivial
   ·rw [hother g e h3,hι]
    exact (hm.obj g).grow hg fun q hq hd=>ho q fun e=>(hm.mine g q hq hd).2.2 (e ▸ hb)
 ·rw [hι] at h1 h2
  have e1:g≠tb k:=by rintro rfl; rw [hm.iotab] at h1; cases h1
  have e2:g'≠tb k:=by rintro rfl; rw [hm.iotab] at h2; cases h2
  exact hm.inj g g' q h1 h2 (hnd g e1 h3).2 (hnd g' e2 h4).2
 ·rw [hι] at h1
  have e1:g≠tb k:=by rintro rfl; rw [hm.iotab] at h1; cases h1
  obtain ⟨a1,a2⟩:=hnd g e1 h2;rw [hother g e1 a1] at h3;exact hm.mineN g q h1 a2 h3
 ·by_cases e:k'=k
  ·subst e; rw [Loc.set_same]; exact .inr ⟨_,_,rfl⟩
  ·rw [Loc.set_ne _ _ (fun h=>e (zfq h)),htk]; exact hm.only k'
 ·by_cases e:q=b
  ·subst e;rcases (hm.osub _ hb).2 with h | h
   ·exact absurd h hO
   ·omega
  ·rw [ho q e]; exact hm.keep q hq hO
 ·rcases hO2 q hq with h | ⟨p,hp,h⟩
  ·rw [hs]; exact hm.osub q h
  ·have:=hm.mine p.1 q h (fun e=>by have:=(hkl p hp).2; rw [e] at this; cases this)
   exact ⟨by omega,this.1.symm⟩
theorem zzX {T:Tb} {i j:Nat} {cs:List D} (hi:i < T.length):(T.set i cs)[j]? =if j=i then some cs else T[j]? :=by
 rw [List.getElem?_set]
 by_cases e:i=j
 ·subst e; simp [hi]
 ·rw [if_neg e,if_neg (Ne.symm e)]
theorem zhj {T:Tb} {i j o:Nat} {cs:List D} (hi:i < T.length):zdc (T.set i cs) j o=if j=i then cs[o]? else zdc T j o:=by
 unfold zdc;rw [zzX hi]
 by_cases e:j=i
 ·rw [if_pos e,if_pos e]; rfl
 ·rw [if_neg e,if_neg e]
theorem TabRel.setRow {R:Nat→Prop} (h:TabRel L c R w) {k i o:Nat} {T:Tb} {cs:List D} {d d':D} {b ver:Nat} {w':World} (hT:za6 L k=some (true,T)) (hi:T[i]? =some cs) (hc:cs[o]? =some d) (hd:d.isRow=true) (hd':d'.isRow=true)
  (hρ:c.ρ k i o=some b) (hw:∀ q,q≠b→w'.heap[q]? =w.heap[q]?) (hcell:∀ u,CellOk c.γ w (zcS k o) (some b) d u→CellOk c.γ w' (zcS k o) (some b) d' u):
  TabRel (L.set (tb k) (ver,.tbl true (T.set i (cs.set o d')))) c R w':=by
 have hil:=za3 hi;have hol:=za3 hc
 have hth:zcq L k i (some o):=⟨true,T,d,hT,by unfold zdc; rw [hi]; exact hc,hd⟩
 have hT2:∀ k',za6 (L.set (tb k) (ver,.tbl true (T.set i (cs.set o d')))) k'=if k'=k then some (true,T.set i (cs.set o d')) else za6 L k':=fun k'=>ziK
 have hthere:∀ k' i' q,zcq (L.set (tb k) (ver,.tbl true (T.set i (cs.set o d')))) k' i' q→zcq L k' i' q:=by
  intro k' i' q hq
  by_cases ek:k'=k
  ·subst ek
   cases q with
   | none=>
    obtain ⟨wr,T0,h1,h2⟩:=hq;rw [hT2,if_pos rfl] at h1;cases h1
    exact ⟨_,_,hT,by simpa using h2⟩
   | some o'=>
    obtain ⟨wr,T0,x,h1,h2,h3⟩:=hq;rw [hT2,if_pos rfl] at h1;cases h1;rw [zhj hil] at h2
    by_cases ei:i'=i
    ·subst ei;rw [if_pos rfl,List.getElem?_set] at h2
     by_cases eo:o=o'
     ·subst eo; exact hth
     ·rw [if_neg eo] at h2
      exact ⟨_,_,x,hT,by unfold zdc; rw [hi]; exact h2,h3⟩
    ·rw [if_neg ei] at h2;exact ⟨_,_,x,hT,h2,h3⟩
  ·cases q with
   | none=>
    obtain ⟨wr,T0,h1,h2⟩:=hq;rw [hT2,if_neg ek] at h1
    exact ⟨_,_,h1,h2⟩
   | some o'=>
    obtain ⟨wr,T0,x,h1,h2,h3⟩:=hq;rw [hT2,if_neg ek] at h1;exact ⟨_,_,x,h1,h2,h3⟩
 have hne:∀ k' i' q b',zcq L k' i' q→c.tab k' i' q=some b'→(k',i',q)≠(k,i,some o)→b'≠b:=by
  rintro k' i' q b' h1 h2 h3 rfl
  obtain ⟨a1,a2,a3⟩:=h.inj k' i' q k i (some o) b' h1 hth h2 hρ;subst a1; subst a2; subst a3; exact h3 rfl
 have keepObj:∀ (k':Nat) (wr:Bool) (T0:Tb) (i':Nat) (cs0 cs1:List D),za6 L k'=some (wr,T0)→T0[i']? =some cs0→cs1.length=cs0.length→(∀ o' d1,cs1[o']? =some d1→(k',i',o')=(k,i,o)∧d1=d'∨(k',i',o')≠(k,i,o)∧cs0[o']? =some d1)→
   ∃ (b:Nat) (x:Array Value) (ty:TypeId) (fz:Nat×Nat),c.γ k' i'=some b∧w'.heap[b]? =some (.cells x ty fz)∧Unfrozen w' b x.size∧x.size=cs1.length∧
    ∀ (o:Nat) (d:D) (u:Value),cs1[o]? =some d→x[o]? =some u→u.oneCell'=true∧CellOk c.γ w' (zcS k' o) (c.ρ k' i' o) d u:=by
  intro k' wr T0 i' cs0 cs1 h1 h2 h3 h4;obtain ⟨b',x,ty,fz,p1,p2,p3,p4,p5⟩:=h.obj k' wr T0 i' cs0 h1 h2
  have hb':=hne k' i' none b' ⟨wr,T0,h1,za3 h2⟩ p1 (by simp)
  have e:=hw b' hb'
  refine ⟨b',x,ty,fz,p1,by rw [e]; exact p2,p3.same e,by omega,fun o' d1 u hd1 hu=>?_⟩
  rcases h4 o' d1 hd1 with ⟨e1,rfl⟩ | ⟨e1,e2⟩
  ·cases e1;rw [hT] at h1; cases h1;rw [hi] at h2; cases h2;obtain ⟨a1,a2⟩:=p5 o d u hc hu;rw [hρ] at a2 ⊢;exact ⟨a1,hcell u a2⟩
  ·obtain ⟨a1,a2⟩:=p5 o' d1 u e2 hu;refine ⟨a1,?_⟩
   by_cases hr:d1.isRow=true
   ·refine a2.mono (fun b2 hb2=>hw b2 (hne k' i' (some o') b2 ⟨wr,T0,d1,h1,by unfold zdc; rw [h2]; exact e2,hr⟩ hb2 ?_)) fun _ _ _ h=>h
    simpa using e1
   ·cases a2 with
    | undef u=>exact .undef u
    | flat _ _ f1 f2=>exact .flat _ _ f1 (f2.fl f1 fun _ _ _ h=>h).1
    | rowE a h=>exact absurd rfl hr
    | row=>exact absurd rfl hr
    | mp=>exact absurd rfl hr
 refine ⟨fun k' wr T0 i' cs0 h1 h2=>?_,fun k' wr T0 i' b' h1 h2=>?_,fun k1 i1 q1 k2 i2 q2 b' h1 h2 h3 h4=>h.inj _ _ _ _ _ _ b' (hthere _ _ _ h1) (hthere _ _ _ h2) h3 h4,fun k' T0 i' q b' h1 h2 h3=>?_,fun k' T0 i' q b' h1 h2 h3=>?_⟩
 ·rw [hT2] at h1
  by_cases ek:k'=k
  ·subst ek;rw [if_pos rfl] at h1; cases h1;rw [zzX hil] at h2
   by_cases ei:i'=i
   ·subst ei;rw [if_pos rfl] at h2; cases h2
    refine keepObj k' true T i' cs _ hT hi (by simp) fun o' d1 hd1=>?_
    rw [List.getElem?_set] at hd1
    by_cases eo:o=o'
    ·subst eo; rw [if_pos rfl,if_pos hol] at hd1; injection hd1 with hd1; exact .inl ⟨rfl,hd1.symm⟩
    ·rw [if_neg eo] at hd1; exact .inr ⟨by simp; exact fun h=>eo h.symm,hd1⟩
   ·rw [if_neg ei] at h2
    exact keepObj k' true T i' cs0 _ hT h2 rfl fun o' d1 hd1=>.inr ⟨by simp [ei],hd1⟩
  ·rw [if_neg ek] at h1
   exact keepObj k' wr T0 i' cs0 _ h1 h2 rfl fun o' d1 hd1=>.inr ⟨by simp [ek],hd1⟩
 ·rw [hT2] at h1
  by_cases ek:k'=k
  ·subst ek;rw [if_pos rfl] at h1; cases h1;simpa using h.tight k' true T i' b' hT h2
  ·rw [if_neg ek] at h1; exact h.tight k' wr T0 i' b' h1 h2
 ·have h9:=hthere _ _ _ h2;rw [hT2] at h1
  by_cases ek:k'=k
  ·subst ek; exact h.wr k' T i' q b' hT h9 h3
  ·rw [if_neg ek] at h1; exact h.wr k' T0 i' q b' h1 h9 h3
 ·have h9:=hthere _ _ _ h2;rw [hT2] at h1
  by_cases ek:k'=k
  ·subst ek; rw [if_pos rfl] at h1; cases h1
  ·rw [if_neg ek] at h1; exact h.ro k' T0 i' q b' h1 h9 h3
end
end Wf

namespace Wf
open Go Go.RowKit
section
variable {c:Ctx} {N:Nat} {w0:World} {O0:Nat→Prop} {L Lr:Loc} {w:World}
theorem ziL {v:Value} (h:v.oneCell'=true):v.cells.toList=[v]∧v.cells.size=1∧∀ (i:Nat) (u:Value),v.cells[i]? =some u→u.oneCell'=true:=by
 rw [zbm h]
 refine ⟨rfl,rfl,fun i u hu=>?_⟩
 cases i with
 | zero=>simp at hu; subst hu; exact h
 | succ i=>simp at hu
theorem zdd {x:Array Value} {q:Nat} {u:Value} (h:x[q]? =some u):q < x.size:=by
 rcases Nat.lt_or_ge q x.size with h' | h'
 ·exact h'
 ·rw [Array.getElem?_eq_none h'] at h; cases h
theorem ztU {ag:Bool} {n sz off:Nat} {e x y:D} (h:zgs ag n sz off e x=some y) {w:World} {A:Nat→Prop} {N:Nat} {γ:Nat→Nat→Option Nat} {uv:Value} (hx:Rep w A N γ x uv):
  uv.cells.size=n∧(∀ (i:Nat) (u:Value),uv.cells[i]? =some u→u.oneCell'=true)∧∀ v0,Rep w A N γ e v0→v0.cells.size=sz→off+n≤sz∧∃ v',Rep w A N γ y v'∧v'.cells.size=sz∧
   ∀ (q:Nat) (u:Value),v'.cells[q]? =some u→if off≤q∧q < off+uv.cells.toList.length then uv.cells.toList[q - off]? =some u else v0.cells[q]? =some u:=by
 by_cases hagg:∃ xs,x=.agg xs
 ·obtain ⟨xs,rfl⟩:=hagg;simp only [zgs] at h;split at h
  ·rename_i hc;obtain ⟨rfl,hc2,rfl,rfl⟩:=hc;simp at h; subst h
   cases hx with
   | agg _ vs h1 h2 h3=>
    refine ⟨by simp [Value.cells]; omega,h3,fun v0 _ hv0=>⟨by omega,.agg vs,.agg _ _ h1 h2 h3,by simp [Value.cells]; omega,fun q u hu=>?_⟩⟩
    have hq:=zdd hu
    rw [if_pos ⟨by omega,by simp; exact hq⟩]
    simpa [Value.cells] using hu
  ·cases h
 ·have h':(if ag=false∧n=1∧x.cell=true then (match e with
   | .agg cs=>if off < cs.length then some (.agg (cs.set off x)) else none
   | _=>if off=0∧sz=1 then some x else none) else none)=some y:=by
   cases x<;>first | exact h | exact absurd ⟨_,rfl⟩ hagg
  split at h'
  rotate_left
  ·cases h'
  rename_i hc;obtain ⟨rfl,rfl,hcell⟩:=hc;have ho1:=hx.cell hcell;obtain ⟨o1,o2,o3⟩:=ziL ho1
  refine ⟨o2,o3,fun v0 hr hsz=>?_⟩
  rw [o1]
  by_cases hea:∃ cs,e=.agg cs
  ·obtain ⟨cs,rfl⟩:=hea;dsimp only at h';split at h'
   ·rename_i hlt;simp at h'; subst h'
    cases hr with
    | agg _ vs p1 p2 p3=>
     simp only [Value.cells] at hsz
     refine ⟨by omega,.agg (vs.setIfInBounds off uv),.agg _ _ (by simp; exact p1) ?_ ?_,by simp [Value.cells]; exact hsz,?_⟩
     ·intro k d y hd hy;rw [List.getElem?_set] at hd;rw [Array.getElem?_setIfInBounds] at hy
      by_cases ek:off=k
      ·subst ek; simp [hlt] at hd; simp [show off < vs.size by omega] at hy; subst hd; subst hy; exact hx
      ·rw [if_neg ek] at hd hy; exact p2 k d y hd hy
     ·intro k y hy;rw [Array.getElem?_setIfInBounds] at hy
      by_cases ek:off=k
      ·subst ek; simp [show off < vs.size by omega] at hy; subst hy; exact ho1
      ·rw [if_neg ek] at hy; exact p3 k y hy
     ·intro q y hy;simp only [Value.cells] at hy ⊢;rw [Array.getElem?_setIfInBounds] at hy
      by_cases ek:off=q
      ·subst ek; simp [show off < vs.size by omega] at hy; simp [hy]
      ·rw [if_neg ek] at hy; rw [if_neg (by simp; omega)]; exact hy
   ·cases h'
  ·have h2:(if off=0∧sz=1 then some x else none)=some y:=by
    cases e<;>first | exact h' | exact absurd ⟨_,rfl⟩ hea
   split at h2
   ·rename_i hc;obtain ⟨rfl,rfl⟩:=hc;simp at h2; subst h2
    refine ⟨by omega,uv,hx,o2,fun q y hy=>?_⟩
    rw [zbm ho1] at hy
    cases q with
    | zero=>simpa using hy
    | succ q=>simp at hy
   ·cases h2
theorem zw1 {ag:Bool} {n sz off:Nat} {e x y:D} (h:zgs ag n sz off e x=some y) (hw:e.width=sz):y.width=sz:=by
 by_cases hagg:∃ xs,x=.agg xs
 ·obtain ⟨xs,rfl⟩:=hagg;simp only [zgs] at h;split at h
  ·rename_i hc;obtain ⟨_,hc2,_,rfl⟩:=hc;simp at h; subst h;exact hc2
  ·cases h
 ·have h':(if ag=false∧n=1∧x.cell=true then (match e with
   | .agg cs=>if off < cs.length then some (.agg (cs.set off x)) else none
   | _=>if off=0∧sz=1 then some x else none) else none)=some y:=by
   cases x<;>first | exact h | exact absurd ⟨_,rfl⟩ hagg
  split at h'
  rotate_left
  ·cases h'
  rename_i hc
  by_cases hea:∃ cs,e=.agg cs
  ·obtain ⟨cs,rfl⟩:=hea;dsimp only at h';split at h'
   ·simp at h'; subst h';simpa [D.width] using hw
   ·cases h'
  ·have h2:(if off=0∧sz=1 then some x else none)=some y:=by
    cases e<;>first | exact h' | exact absurd ⟨_,rfl⟩ hea
   split at h2
   ·rename_i hc2;simp at h2; subst h2;have:=hc.2.2;cases x<;>simp_all [D.cell,D.width]
   ·cases h2
theorem Mem.rowAt (hm:Mem c N w0 O0 L w) {k n i o:Nat} {els:List D} (hr:zeE L k n i o=some els) (hne:els≠[]∨c.ρ k i o≠none):
  ∃ (wr:Bool) (T:Tb) (cs:List D) (b cap:Nat) (x:Array Value) (ty:TypeId) (fz:Nat×Nat) (vs:Nat→Value),za6 L k=some (wr,T)∧(L (tb k)).1=n∧T[i]? =some cs∧cs[o]? =some (.sl .own els)∧c.ρ k i o=some b∧w.heap[b]? =some (.cells x ty fz)∧Unfrozen w b x.size∧els.length≤cap∧cap*zcS k o≤x.size∧
   ∀ (j:Nat) (d:D),els[j]? =some d→d.flatEl=true∧Rep w (fun _=>False) 0 c.γ d (vs j)∧d.width=zcS k o∧(vs j).cells.size=zcS k o∧zdZ w b (j*zcS k o) (vs j):=by
 obtain ⟨wr,T,t1,t2,t3,t4⟩:=zf8 hr;obtain ⟨cs,c1,c2⟩:=ziJ t4;obtain ⟨b',x,ty,fz,q1,q2,q3,q4,q5⟩:=hm.tab.obj k wr T i cs t3 c1;obtain ⟨y,hy⟩:=zd4 q4 c2;have hc:=(q5 o _ y c2 hy).2;generalize c.ρ k i o=β at hc hne ⊢
 cases hc with
 | flat _ _ h=>simp [D.flat] at h
 | rowE a h=>rcases hne with h' | h'<;>exact absurd (by first | rfl | exact h) h'
 | row l b2 cap x' T' fz' vs g1 g2 g3 g4 g5 g6=>exact ⟨wr,T,cs,b2,cap,x',T',fz',vs,t3,t2,c1,c2,g1,g2,g3,g4,g5,g6⟩
theorem zB8 (hm:Mem c N w0 O0 L w) {k n i o j off sz:Nat} (hzz:sz=zcS k o) {els:List D} {e y:D} {T:Tb} {cs:List D} {b cap:Nat} {x:Array Value} {ty:TypeId} {fz:Nat×Nat} {vs:Nat→Value} {ws:List Value}
  (hT:za6 L k=some (true,T)) (hver:(L (tb k)).1=n) (hi:T[i]? =some cs) (hc:cs[o]? =some (.sl .own els)) (hρ:c.ρ k i o=some b) (hb:w.heap[b]? =some (.cells x ty fz)) (hf:Unfrozen w b x.size) (hcap:els.length≤cap) (hx:cap*sz≤x.size)
  (hels:∀ (j:Nat) (d:D),els[j]? =some d→d.flatEl=true∧Rep w (fun _=>False) 0 c.γ d (vs j)∧d.width=sz∧(vs j).cells.size=sz∧zdZ w b (j*sz) (vs j))
  (he:els[j]? =some e) (hy:y.flatEl=true) (hyw:y.width=sz) (ho:off+ws.length≤sz)
  (hv:∀ v,Rep w (fun _=>False) 0 c.γ e v→v.cells.size=sz→∃ v',Rep w (fun _=>False) 0 c.γ y v'∧v'.cells.size=sz∧
   ∀ (q:Nat) (u:Value),v'.cells[q]? =some u→if off≤q∧q < off+ws.length then ws[q - off]? =some u else v.cells[q]? =some u):
  Did c N w0 O0 L w { v:=.d (.tup []),wr:=[(tb k,(n,.tbl true (T.set i (cs.set o (.sl .own (els.set j y))))))] } undef (put w b (splice x (j*sz+off) ws) ty fz):=by
 have hj:=za3 he
 have hlt:j*sz+sz≤x.size:=by
  have:(j+1)*sz≤cap*sz:=Nat.mul_le_mul_right _ (by omega)
  rw [Nat.succ_mul] at this; omega
 obtain ⟨f1,r1,f2,r2,r3⟩:=hels j e he;obtain ⟨v',k1,k2,k3⟩:=hv _ r1 r2
 have hsz:(splice x (j*sz+off) ws).size=x.size:=zc0 (by omega)
 have hw:∀ q,q≠b→(put w b (splice x (j*sz+off) ws) ty fz).heap[q]? =w.heap[q]? :=fun q hq=>by rw [zcy (zbd hb)]; simp [hq]
 have hbb:(put w b (splice x (j*sz+off) ws) ty fz).heap[b]? =some (.cells (splice x (j*sz+off) ws) ty fz):=by rw [zcy (zbd hb)]; simp
 have hth:zcq L k i (some o):=⟨true,T,_,hT,by unfold zdc; rw [hi]; exact hc,rfl⟩
 have hO:c.O b:=hm.tab.wr k T i (some o) b hT hth hρ
 have htab:TabRel (L.set (tb k) (n,.tbl true (T.set i (cs.set o (.sl .own (els.set j y)))))) c (fun b=>b < N∧¬ O0 b) (put w b (splice x (j*sz+off) ws) ty fz):=by
  refine hm.tab.setRow hT hi hc rfl rfl hρ hw fun u hu=>?_
  cases hu with
  | flat _ _ h=>simp [D.flat] at h
  | rowE a h=>simp at hj
  | row l b2 cap2 x2 T2 fz2 vs2 g1 g2 g3 g4 g5 g6=>
   cases g1;rw [hb] at g2; cases g2
   have:=CellOk.row (γ:=c.γ) (w:=put w b (splice x (j*sz+off) ws) ty fz) (sz:=sz) (β:=some b) (els.set j y) b cap2 (splice x (j*sz+off) ws) ty fz (fun q=>if q=j then v' else vs q) rfl hbb (hf.put hb (by omega)) (by simpa using g4)
    (by rw [hsz,hzz]; exact g5) (fun q d hd=>?_)
   ·rw [←hzz]; simpa using this
   ·by_cases eq:q=j
    ·subst eq;rw [List.getElem?_set,if_pos rfl,if_pos hj] at hd;cases hd;simp only [if_true]
     refine ⟨hy,k1.flEl hy fun _ _ _ h=>h,hyw,k2,fun p u hu=>?_⟩
     rw [zgo hb,zcx (by omega)]
     have hp:p < sz:=by have:=zdd hu; omega
     have:=k3 p u hu
     by_cases hc:off≤p∧p < off+ws.length
     ·rw [if_pos hc] at this
      rw [if_pos (by omega),show q*sz+p - (q*sz+off)=p - off by omega]; exact this
     ·rw [if_neg hc] at this
      rw [if_neg (by omega)]
      have:=r3 p u this;simpa [World.cell?,hb] using this
    ·rw [List.getElem?_set,if_neg (Ne.symm eq)] at hd;obtain ⟨p1,p2,p3,p4,p5⟩:=hels q d hd;simp only [eq,if_false]
     refine ⟨p1,p2.flEl p1 fun _ _ _ h=>h,p3,p4,fun p u hu=>?_⟩
     have hp:p < sz:=by have:=zdd hu; omega
     rw [zgo hb,zcx (by omega),if_neg]
     ·have:=p5 p u hu;simpa [World.cell?,hb] using this
     ·rcases Nat.lt_or_gt_of_ne eq with h | h
      ·have:(q+1)*sz≤j*sz:=Nat.mul_le_mul_right _ h;rw [Nat.succ_mul] at this; omega
      ·have:(j+1)*sz≤q*sz:=Nat.mul_le_mul_right _ h;rw [Nat.succ_mul] at this; omega
 have hil:=za3 hi;have hol:=za3 hc
 have hon:TbOn T (T.set i (cs.set o (.sl .own (els.set j y)))):=fun i' o'=>by
  rw [zhj hil]
  by_cases ei:i'=i
  ·subst ei;rw [if_pos rfl,List.getElem?_set]
   have hcT:zdc T i' o'=cs[o']? :=by unfold zdc; rw [hi]; rfl
   rw [hcT]
   by_cases eo:o=o'
   ·subst eo;rw [if_pos rfl,if_pos hol]
    refine ⟨fun l h=>⟨els,hc,?_⟩,fun k es h=>by cases h⟩
    injection h with h; injection h with h1 h2; subst h2;rw [List.map_set];apply List.ext_getElem?;intro q;rw [List.getElem?_set]
    by_cases e:j=q
    ·subst e; simp [hj,hyw]; rw [List.getElem?_eq_getElem hj] at he; cases he; exact f2.symm
    ·rw [if_neg e]
   ·rw [if_neg eo]
    exact ⟨fun l h=>⟨l,h,rfl⟩,fun k es h=>⟨es,h⟩⟩
  ·rw [if_neg ei]
   exact ⟨fun l h=>⟨l,h,rfl⟩,fun k es h=>⟨es,h⟩⟩
 obtain ⟨m1,m2⟩:=Mem.tab_upd hm hT (kl:=[]) (by simp) (c':=c) rfl rfl (fun _ h=>h) (fun _ h=>.inl h) hO (by simp [put]) hw (by
   intro y T' fz' hy; rw [hb] at hy; cases hy; exact ⟨_,_,hbb,hsz⟩) rfl rfl rfl (ver:=n) (by omega) (fun _=>⟨hon,fun _ _ _=>rfl⟩) (fun _ _ _ _=>rfl) htab
 exact ⟨c,m1,m2,zhh⟩
theorem TabRel.putObj {R:Nat→Prop} (h:TabRel L c R w) {k i off:Nat} {T:Tb} {cs xs:List D} {b:Nat} {x:Array Value} {ty:TypeId} {fz:Nat×Nat} {ws:List Value} {β:Nat→Option Nat} {c':Ctx} {L':Loc}
  (hT:za6 L k=some (true,T)) (hi:T[i]? =some cs) (hγ:c.γ k i=some b) (hb:w.heap[b]? =some (.cells x ty fz)) (hlen:ws.length=xs.length) (ho:off+xs.length≤cs.length)
  (hγ':c'.γ=c.γ) (hρ1:∀ k' i' o',(k',i')≠(k,i)∨o' < off∨off+xs.length≤o'→c'.ρ k' i' o'=c.ρ k' i' o') (hρ2:∀ j,j < xs.length→c'.ρ k i (off+j)=β j)
  (hO':∀ b',c'.O b'↔c.O b'∨∃ j,j < xs.length∧β j=some b') (hβ:∀ j b',j < xs.length→β j=some b'→¬ c.O b'∧¬ R b') (hβi:∀ j j' b',j < xs.length→j' < xs.length→β j=some b'→β j'=some b'→j=j')
  (hnew:∀ (j:Nat) (d:D) (u:Value),xs[j]? =some d→ws[j]? =some u→u.oneCell'=true∧CellOk c.γ w (zcS k (off+j)) (β j) d u)
  (hL':∀ k',za6 L' k'=if k'=k then some (true,za7 T i off xs) else za6 L k'):TabRel L' c' R (put w b (splice x off ws) ty fz):=by
 have hil:=za3 hi
 have hsc:za7 T i off xs=T.set i (cs.take off++xs++cs.drop (off+xs.length)):=by unfold za7; rw [hi]
 rw [hsc] at hL'
 have hcl:(cs.take off++xs++cs.drop (off+xs.length)).length=cs.length:=by simp; omega
 have hbO:c.O b:=h.wr k T i none b hT ⟨true,T,hT,hil⟩ hγ
 have hw:∀ q,q≠b→(put w b (splice x off ws) ty fz).heap[q]? =w.heap[q]? :=fun q hq=>by rw [zcy (zbd hb)]; simp [hq]
 have hbb:(put w b (splice x off ws) ty fz).heap[b]? =some (.cells (splice x off ws) ty fz):=by rw [zcy (zbd hb)]; simp
 have hthere:∀ k' i' q,zcq L' k' i' q→(zcq L k' i' q∧c'.tab k' i' q=c.tab k' i' q∧(∀ o',q=some o'→¬ ((k',i')=(k,i)∧off≤o'∧o' < off+xs.length)))∨∃ j,j < xs.length∧k'=k∧i'=i∧q=some (off+j)∧c'.tab k' i' q=β j:=by
  intro k' i' q hq
  cases q with
  | none=>
   obtain ⟨wr,T0,h1,h2⟩:=hq;rw [hL'] at h1
   refine .inl ⟨?_,by simp only [Ctx.tab,hγ'],by simp⟩
   by_cases ek:k'=k
   ·subst ek; rw [if_pos rfl] at h1; cases h1; exact ⟨_,_,hT,by simpa using h2⟩
   ·rw [if_neg ek] at h1; exact ⟨_,_,h1,h2⟩
  | some o'=>
   obtain ⟨wr,T0,d,h1,h2,h3⟩:=hq;rw [hL'] at h1
   by_cases ek:k'=k
   ·subst ek;rw [if_pos rfl] at h1; cases h1;rw [zhj hil] at h2
    by_cases ei:i'=i
    ·subst ei;rw [if_pos rfl,zco ho] at h2
     by_cases hr:off≤o'∧o' < off+xs.length
     ·rw [if_pos hr] at h2
      refine .inr ⟨o' - off,by omega,rfl,rfl,by rw [show off+(o' - off)=o' by omega],?_⟩
      simp only [Ctx.tab]
      have:=hρ2 (o' - off) (by omega)
      rwa [show off+(o' - off)=o' by omega] at this
     ·rw [if_neg hr] at h2
      refine .inl ⟨⟨_,_,d,hT,by unfold zdc; rw [hi]; exact h2,h3⟩,?_,?_⟩
      ·simp only [Ctx.tab]; exact hρ1 _ _ _ (.inr (by omega))
      ·rintro o2 e ⟨_,h⟩; cases e; exact hr h
    ·rw [if_neg ei] at h2;refine .inl ⟨⟨_,_,d,hT,h2,h3⟩,?_,?_⟩
     ·simp only [Ctx.tab]; exact hρ1 _ _ _ (.inl (by simp [ei]))
     ·rintro o2 _ ⟨e,_⟩; cases e; exact ei rfl
   ·rw [if_neg ek] at h1;refine .inl ⟨⟨_,_,d,h1,h2,h3⟩,?_,?_⟩
    ·simp only [Ctx.tab]; exact hρ1 _ _ _ (.inl (by simp [ek]))
    ·rintro o2 _ ⟨e,_⟩; cases e; exact ek rfl
 have hwrT:∀ k' i' q b',zcq L k' i' q→c.tab k' i' q=some b'→c.O b'∨R b':=by
  intro k' i' q b' h1 h2
  have hT':∃ wr T,za6 L k'=some (wr,T):=by
   cases q with
   | none=>obtain ⟨wr,T,h,_⟩:=h1; exact ⟨wr,T,h⟩
   | some o=>obtain ⟨wr,T,_,h,_⟩:=h1; exact ⟨wr,T,h⟩
  obtain ⟨wr,T',hT'⟩:=hT'
  cases wr with
  | true=>exact .inl (h.wr k' T' i' q b' hT' h1 h2)
  | false=>exact .inr (h.ro k' T' i' q b' hT' h1 h2).2
 have stay:∀ k' (wr:Bool) (T0:Tb) i' cs0 o' d u,za6 L k'=some (wr,T0)→T0[i']? =some cs0→cs0[o']? =some d→c'.ρ k' i' o'=c.ρ k' i' o'→CellOk c.γ w (zcS k' o') (c.ρ k' i' o') d u→CellOk c'.γ (put w b (splice x off ws) ty fz) (zcS k' o') (c'.ρ k' i' o') d u:=by
  intro k' wr T0 i' cs0 o' d u h1 h2 h3 h4 h5;rw [h4,hγ']
  by_cases hr:d.isRow=true
  ·refine h5.mono (fun b2 hb2=>hw b2 ?_) fun _ _ _ h=>h
   rintro rfl
   obtain ⟨_,_,e⟩:=h.inj k' i' (some o') k i none b2 ⟨wr,T0,d,h1,by unfold zdc; rw [h2]; exact h3,hr⟩ ⟨true,T,hT,hil⟩ hb2 hγ
   cases e
  ·cases h5 with
   | undef u=>exact .undef u
   | flat _ _ f1 f2=>exact .flat _ _ f1 (f2.fl f1 fun _ _ _ h=>h).1
   | rowE a h=>exact absurd rfl hr
   | row=>exact absurd rfl hr
   | mp=>exact absurd rfl hr
 refine ⟨fun k' wr T0 i' cs0 h1 h2=>?_,fun k' wr T0 i' b' h1 h2=>?_,fun k1 i1 q1 k2 i2 q2 b' h1 h2 h3 h4=>?_,fun k' T0 i' q b' h1 h2 h3=>?_,fun k' T0 i' q b' h1 h2 h3=>?_⟩
 ·rw [hL'] at h1
  have other:∀ (T1:Tb),za6 L k'=some (wr,T1)→T1[i']? =some cs0→(k',i')≠(k,i)→∃ (b_1:Nat) (x_1:Array Value) (ty_1:TypeId) (fz_1:Nat×Nat),c'.γ k' i'=some b_1∧(put w b (splice x off ws) ty fz).heap[b_1]? =some (.cells x_1 ty_1 fz_1)∧Unfrozen (put w b (splice x off ws) ty fz) b_1 x_1.size∧x_1.size=cs0.length∧
    ∀ (o:Nat) (d:D) (u:Value),cs0[o]? =some d→x_1[o]? =some u→u.oneCell'=true∧CellOk c'.γ (put w b (splice x off ws) ty fz) (zcS k' o) (c'.ρ k' i' o) d u:=by
   intro T1 h1 h2 hne;obtain ⟨b1,x1,ty1,fz1,p1,p2,p3,p4,p5⟩:=h.obj k' wr T1 i' cs0 h1 h2
   have hb1:b1≠b:=by
    rintro rfl
    obtain ⟨e1,e2,_⟩:=h.inj k' i' none k i none b1 ⟨wr,T1,h1,za3 h2⟩ ⟨true,T,hT,hil⟩ p1 hγ
    exact hne (by rw [e1,e2])
   have e:=hw b1 hb1
   exact ⟨b1,x1,ty1,fz1,by rw [hγ']; exact p1,by rw [e]; exact p2,p3.same e,p4,fun o' d u hd hu=>⟨(p5 o' d u hd hu).1,stay k' wr T1 i' cs0 o' d u h1 h2 hd (hρ1 _ _ _ (.inl hne)) (p5 o' d u hd hu).2⟩⟩
  by_cases ek:k'=k
  ·subst ek;rw [if_pos rfl] at h1; cases h1;rw [zzX hil] at h2
   by_cases ei:i'=i
   ·subst ei;rw [if_pos rfl] at h2; cases h2;obtain ⟨b1,x1,ty1,fz1,p1,p2,p3,p4,p5⟩:=h.obj k' true T i' cs hT hi;rw [hγ] at p1; cases p1;rw [hb] at p2; cases p2
    have hsz:(splice x off ws).size=x.size:=zc0 (by omega)
    refine ⟨b,_,ty,fz,by rw [hγ']; exact hγ,hbb,p3.put hb (by omega),by rw [hsz,hcl]; exact p4,fun o' d u hd hu=>?_⟩
    rw [zco ho] at hd
    rw [zcx (by omega),hlen] at hu
    by_cases hr:off≤o'∧o' < off+xs.length
    ·rw [if_pos hr] at hd hu;obtain ⟨a1,a2⟩:=hnew _ d u hd hu;refine ⟨a1,?_⟩
     have e:=hρ2 (o' - off) (by omega)
     rw [show off+(o' - off)=o' by omega] at e a2
     rw [e,hγ']
     exact a2.mono (fun b2 hb2=>hw b2 (by rintro rfl; exact (hβ _ _ (by omega) hb2).1 hbO)) fun _ _ _ h=>h
    ·rw [if_neg hr] at hd hu
     exact ⟨(p5 o' d u hd hu).1,stay k' true T i' cs o' d u hT hi hd (hρ1 _ _ _ (.inr (by omega))) (p5 o' d u hd hu).2⟩
   ·rw [if_neg ei] at h2
    exact other T hT h2 (by simp [ei])
  ·rw [if_neg ek] at h1
   exact other T0 h1 h2 (by simp [ek])
 ·rw [hL'] at h1;rw [hγ'] at h2
  by_cases ek:k'=k
  ·subst ek;rw [if_pos rfl] at h1; cases h1;simpa using h.tight k' true T i' b' hT h2
  ·rw [if_neg ek] at h1; exact h.tight k' wr T0 i' b' h1 h2
 ·rcases hthere _ _ _ h1 with ⟨a1,a2,_⟩ | ⟨j,hj,rfl,rfl,rfl,a2⟩<;>rcases hthere _ _ _ h2 with ⟨b1,b2,_⟩ | ⟨j',hj',rfl,rfl,rfl,b2⟩
  ·rw [a2] at h3; rw [b2] at h4;exact h.inj _ _ _ _ _ _ b' a1 b1 h3 h4
  ·rw [a2] at h3; rw [b2] at h4;have:=hβ j' b' hj' h4;rcases hwrT _ _ _ _ a1 h3 with h | h
   ·exact absurd h this.1
   ·exact absurd h this.2
  ·rw [a2] at h3; rw [b2] at h4;have:=hβ j b' hj h3;rcases hwrT _ _ _ _ b1 h4 with h | h
   ·exact absurd h this.1
   ·exact absurd h this.2
  ·rw [a2] at h3; rw [b2] at h4;have:=hβi j j' b' hj hj' h3 h4;subst this;exact ⟨rfl,rfl,rfl⟩
 ·rw [hL'] at h1;rcases hthere _ _ _ h2 with ⟨a1,a2,_⟩ | ⟨j,hj,rfl,rfl,rfl,a2⟩
  ·rw [a2] at h3;refine (hO' b').2 (.inl ?_)
   by_cases ek:k'=k
   ·subst ek; exact h.wr k' T i' q b' hT a1 h3
   ·rw [if_neg ek] at h1; exact h.wr k' T0 i' q b' h1 a1 h3
  ·rw [a2] at h3;exact (hO' b').2 (.inr ⟨j,hj,h3⟩)
 ·rw [hL'] at h1
  have ek:k'≠k:=by rintro rfl; rw [if_pos rfl] at h1; cases h1
  rw [if_neg ek] at h1;rcases hthere _ _ _ h2 with ⟨a1,a2,_⟩ | ⟨j,hj,rfl,rfl,rfl,a2⟩
  ·rw [a2] at h3;obtain ⟨b1,b2⟩:=h.ro k' T0 i' q b' h1 a1 h3
   refine ⟨fun hc=>?_,b2⟩
   rcases (hO' b').1 hc with h | ⟨j,hj,h⟩
   ·exact b1 h
   ·exact (hβ j b' hj h).2 b2
  ·exact absurd rfl ek
end
end Wf

namespace Wf
open Go Go.RowKit
section
variable {c:Ctx} {N:Nat} {w0:World} {O0:Nat→Prop} {L Lr:Loc} {w:World}
theorem zEt {g n:Nat} {y:HObj} (hL:L.get g n=y) (hy:y.live=true):(L g).1=n∧(L g).2=y:=zbM hL (by rintro rfl; cases hy)
theorem zw2 {z:Nat} (hm:Mem c N w0 O0 L w) (hs:Sees Lr L) {v:V} {u:Value} {x:D} {kl:Wr} (h:ziF z Lr v=some (x,kl)) (hv:Val c L w N v u):
  u.oneCell'=true∧((kl=[]∧CellOk c.γ w z none x u)∨∃ (g:Nat) (β:Option Nat),kl=[(g,((L g).1,.dead))]∧(L g).2.live=true∧(∀ b,β=some b→c.ι g=some b)∧CellOk c.γ w z β x u):=by
 have flatcase:∀ {y:D},Rep w (own c L) N c.γ y u→(if y.flat=true then some (y,([]:Wr)) else none)=some (x,kl)→u.oneCell'=true∧((kl=[]∧CellOk c.γ w z none x u)∨∃ (g:Nat) (β:Option Nat),kl=[(g,((L g).1,.dead))]∧(L g).2.live=true∧(∀ b,β=some b→c.ι g=some b)∧CellOk c.γ w z β x u):=by
  intro y hr h;split at h
  ·rename_i hf;simp at h; obtain ⟨rfl,rfl⟩:=h
   obtain ⟨r1,r2⟩:=hr.fl (A':=fun _=>False) (N':=0) (w':=w) hf fun _ _ _ h=>h
   exact ⟨r2,.inl ⟨rfl,.flat _ _ hf r1⟩⟩
  ·cases h
 have nilcase:∀ {t:Tag},(t=.nil∨t=.full)→Rep w (own c L) N c.γ (.sl t []) u→some (D.sl .own [],([]:Wr))=some (x,kl)→u.oneCell'=true∧((kl=[]∧CellOk c.γ w z none x u)∨∃ (g:Nat) (β:Option Nat),kl=[(g,((L g).1,.dead))]∧(L g).2.live=true∧(∀ b,β=some b→c.ι g=some b)∧CellOk c.γ w z β x u):=by
  intro t ht hr h;simp at h; obtain ⟨rfl,rfl⟩:=h
  cases hr with
  | slE _ a cap h1 h2 _=>
   have:cap=0:=by
    rcases ht with rfl | rfl
    ·exact (h2 rfl).2
    ·exact h1 rfl
   subst this
   exact ⟨rfl,.inl ⟨rfl,.rowE a rfl⟩⟩
  | sl _ _ _ _ _ _ _ h=>exact absurd rfl h
 cases v with
 | d y=>
  have hr:=hv.dat
  cases y with
  | sl t l=>
   cases l with
   | cons d l=>cases t<;>exact flatcase hr h
   | nil=>
    cases t with
    | nil=>exact nilcase (.inl rfl) hr h
    | full=>exact nilcase (.inr rfl) hr h
    | _=>exact flatcase hr h
  | _=>exact flatcase hr h
 | p k y=>
  cases hv with
  | p _ _ _ hr=>exact flatcase hr h
 | ref g n off len=>
  simp only [ziF] at h
  cases off with
  | succ _=>simp at h
  | zero=>
  have core:∀ {sz:Nat} {els:List D},(L.get g n=.arr sz els true∨L.get g n=.trow sz els)→(if len=els.length∧els.all D.flatEl∧els.all (fun d=>d.width == sz)∧sz=z then some (D.sl .own els,[(g,(n,HObj.dead))]) else none)=some (x,kl)→
    u.oneCell'=true∧((kl=[]∧CellOk c.γ w z none x u)∨∃ (g:Nat) (β:Option Nat),kl=[(g,((L g).1,.dead))]∧(L g).2.live=true∧(∀ b,β=some b→c.ι g=some b)∧CellOk c.γ w z β x u):=by
   intro sz els hL h1;clear h;have h:=h1;clear h1;split at h
   rotate_left
   ·cases h
   rename_i hc;obtain ⟨h1,h2,h3,rfl⟩:=hc;rw [List.all_eq_true] at h2 h3;simp at h;obtain ⟨rfl,rfl⟩:=h
   have e12:(L g).1=n∧(L g).2.live=true:=by
    rcases hL with hL | hL<;>(obtain ⟨e1,e2⟩:=zbM hL (by simp); exact ⟨e1,by rw [e2]; rfl⟩)
   obtain ⟨e1,e2⟩:=e12
   cases hv with
   | ref _ _ _ _ _ k1 k2 k3=>
   have hsl:SlAt w (c.ι g) sz 0 len u:=by
    rcases hL with hL | hL
    ·exact (k2 _ _ _ hL).2
    ·exact (k3 _ _ hL).2
   obtain ⟨a,cap,rfl,h4,h5⟩:=hsl;refine ⟨rfl,.inr ?_⟩
   by_cases hc0:cap=0
   ·subst hc0
    have:els=[]:=List.eq_nil_of_length_eq_zero (by omega)
    subst this;simp at h1; subst h1
    exact ⟨g,none,by rw [e1],e2,by simp,.rowE a rfl⟩
   ·rcases h5 with h5 | ⟨b,y,T,fz,q1,rfl,q3,q4⟩
    ·exact absurd h5 hc0
    have hob:∃ (x:Array Value) (T:TypeId) (fz:Nat×Nat),w.heap[b]? =some (.cells x T fz)∧Unfrozen w b x.size∧els.length*sz≤x.size∧zEo w (own c L) N c.γ b sz els:=by
     rcases hL with hL | hL
     ·have:=hm.get hL (by simp); rw [q1] at this; exact this
     ·have:=hm.get hL (by simp); rw [q1] at this; exact this
    obtain ⟨x',T',fz',g2,g3,g4,us,g5⟩:=hob;rw [g2] at q3; cases q3
    refine ⟨g,some b,by rw [e1],e2,fun b' hb'=>by rw [q1,hb'],?_⟩
    have:=CellOk.row (γ:=c.γ) (w:=w) (sz:=sz) (β:=some b) els b cap y T fz us rfl g2 g3 (by omega) (by simpa using q4) fun i d hd=>by
     obtain ⟨p1,p2,p3⟩:=g5 i d hd;have hf:=h2 d (List.mem_of_getElem? hd)
     exact ⟨hf,p1.flEl hf fun _ _ _ h=>h,by simpa using h3 d (List.mem_of_getElem? hd),p2,p3⟩
    rw [h1];simpa using this
  cases hx:Lr.get g n<;>rw [hx] at h<;>try cases h
  ·rename_i sz els lv
   cases lv with
   | false=>simp at h
   | true=>exact core (.inl (by rw [hs g n (by rw [hx]; simp),hx])) (by simpa using h)
  ·rename_i sz els
   exact core (.inr (by rw [hs g n (by rw [hx]; simp),hx])) (by simpa using h)
 | map g n=>
  simp only [ziF] at h
  cases hx:Lr.get g n<;>rw [hx] at h<;>try cases h
  rename_i kk es;simp at h;obtain ⟨h1,rfl,rfl⟩:=h
  have hL:L.get g n=.map kk es:=by rw [hs g n (by rw [hx]; simp),hx]
  obtain ⟨e1,e2⟩:=zbM hL (by simp)
  cases hv with
  | map _ _ _ k1 k2=>
  obtain ⟨b,q1,rfl⟩:=k2 (by rw [hL]; simp)
  obtain ⟨b',m,ck,g1,g2,g3,g4⟩:=hm.get hL (by simp)
  rw [q1] at g1; cases g1
  refine ⟨rfl,.inr ⟨g,some b,by rw [e1],by rw [e2]; rfl,fun b' hb'=>by rw [q1,hb'],.mp kk es b m ck rfl g2 g3 fun i e p he hp=>?_⟩⟩
  obtain ⟨p1,p2⟩:=g4 i e p he hp;have hf:=h1 p.1 p.2 (List.mem_of_getElem? hp)
  exact ⟨p1,hf,p2.flEl hf fun _ _ _ h=>h⟩
 | _=>cases h
theorem ztV (hm:Mem c N w0 O0 L w) (hs:Sees Lr L):∀ (zs:List Nat) (vs:List V) (us:List Value) (xs:List D) (kl:Wr),zhd Lr zs vs=some (xs,kl)→Vals c L w N vs us→(kl.map (·.1)).Nodup→
  xs.length=vs.length∧(∀ p∈kl,p.2=((L p.1).1,.dead)∧(L p.1).2.live=true)∧∃ bs:List (Option (Nat×Nat)),bs.length=vs.length∧(∀ (j:Nat) (x:D) (u:Value) (z:Nat),xs[j]? =some x→us[j]? =some u→zs[j]? =some z→u.oneCell'=true∧CellOk c.γ w z (((bs[j]?).join).map (·.2)) x u)∧
   (∀ (j g b:Nat),bs[j]? =some (some (g,b))→c.ι g=some b∧g∈kl.map (·.1))∧(∀ (j j' g b b':Nat),bs[j]? =some (some (g,b))→bs[j']? =some (some (g,b'))→j=j')
 | [],[],us,xs,kl,h,hv,_=>by
  simp [zhd] at h;obtain ⟨rfl,rfl⟩:=h
  exact ⟨rfl,by simp,[],rfl,by simp,by simp,by simp⟩
 | [],_::_,_,_,_,h,_,_=>by simp [zhd] at h
 | _::_,[],_,_,_,h,_,_=>by simp [zhd] at h
 | z0::zs,v::vs,us,xs,kl,h,hv,hn=>by
  simp only [zhd] at h
  cases h1:ziF z0 Lr v with
  | none=>rw [h1] at h; cases h
  | some p=>
  obtain ⟨x,k1⟩:=p;rw [h1] at h;simp only [Option.bind_some] at h
  cases h2:zhd Lr zs vs with
  | none=>rw [h2] at h; cases h
  | some p=>
  obtain ⟨xs',k2⟩:=p;rw [h2] at h;simp at h;obtain ⟨rfl,rfl⟩:=h;obtain ⟨u,us,rfl,hu,hus⟩:=hv.cons_inv;rw [List.map_append,List.nodup_append] at hn;obtain ⟨i1,i2,bs,i3,i4,i5,i6⟩:=ztV hm hs zs vs us xs' k2 h2 hus hn.2.1;obtain ⟨j1,j2⟩:=zw2 hm hs h1 hu
  have fin:∀ (β:Option (Nat×Nat)),CellOk c.γ w z0 (β.map (·.2)) x u→(∀ g b,β=some (g,b)→c.ι g=some b∧g∈k1.map (·.1))→(∀ p∈k1,p.2=((L p.1).1,.dead)∧(L p.1).2.live=true)→
    (x::xs').length=(v::vs).length∧(∀ p∈k1++k2,p.2=((L p.1).1,.dead)∧(L p.1).2.live=true)∧∃ bs:List (Option (Nat×Nat)),bs.length=(v::vs).length∧(∀ (j:Nat) (y:D) (z:Value) (q:Nat),(x::xs')[j]? =some y→(u::us)[j]? =some z→(z0::zs)[j]? =some q→z.oneCell'=true∧CellOk c.γ w q (((bs[j]?).join).map (·.2)) y z)∧
     (∀ (j g b:Nat),bs[j]? =some (some (g,b))→c.ι g=some b∧g∈(k1++k2).map (·.1))∧(∀ (j j' g b b':Nat),bs[j]? =some (some (g,b))→bs[j']? =some (some (g,b'))→j=j'):=by
   intro β hβ1 hβ2 hk1
   refine ⟨by simp [i1],fun p hp=>?_,β::bs,by simp [i3],fun j y z q hy hz hq=>?_,fun j g b hb=>?_,fun j j' g b b' hb hb'=>?_⟩
   ·rcases List.mem_append.1 hp with hp | hp
    ·exact hk1 p hp
    ·exact i2 p hp
   ·cases j with
    | zero=>simp at hy hz hq; subst hy; subst hz; subst hq; exact ⟨j1,by simpa using hβ1⟩
    | succ j=>simpa using i4 j y z q (by simpa using hy) (by simpa using hz) (by simpa using hq)
   ·cases j with
    | zero=>simp at hb; obtain ⟨a1,a2⟩:=hβ2 g b hb; exact ⟨a1,by rw [List.map_append]; exact List.mem_append_left _ a2⟩
    | succ j=>obtain ⟨a1,a2⟩:=i5 j g b (by simpa using hb); exact ⟨a1,by rw [List.map_append]; exact List.mem_append_right _ a2⟩
   ·cases j with
    | zero=>
     cases j' with
     | zero=>rfl
     | succ j'=>
      simp at hb;have a1:=(hβ2 g b hb).2
      have a2:=(i5 j' g b' (by simpa using hb')).2
      exact absurd rfl (hn.2.2 g a1 g a2)
    | succ j=>
     cases j' with
     | zero=>
      simp at hb';have a1:=(hβ2 g b' hb').2
      have a2:=(i5 j g b (by simpa using hb)).2
      exact absurd rfl (hn.2.2 g a1 g a2)
     | succ j'=>rw [i6 j j' g b b' (by simpa using hb) (by simpa using hb')]
  rcases j2 with ⟨rfl,hc⟩ | ⟨g,β,rfl,hl,hb,hc⟩
  ·exact fin none (by simpa using hc) (by simp) (by simp)
  ·cases β with
   | none=>exact fin none (by simpa using hc) (by simp) (by simpa using hl)
   | some b=>exact fin (some (g,b)) (by simpa using hc) (fun g' b' e=>by simp at e; obtain ⟨rfl,rfl⟩:=e; exact ⟨hb b rfl,by simp⟩) (by simpa using hl)
theorem znU (hm:Mem c N w0 O0 L w) {k i off ver:Nat} {T:Tb} {cs xs:List D} {b:Nat} {x:Array Value} {ty:TypeId} {fz:Nat×Nat} {ws:List Value} {β:Nat→Option Nat} {kl:Wr}
  (hT:za6 L k=some (true,T)) (hi:T[i]? =some cs) (hγ:c.γ k i=some b) (hb:w.heap[b]? =some (.cells x ty fz)) (hlen:ws.length=xs.length) (ho:off+xs.length≤cs.length)
  (hkl:∀ p∈kl,p.2=((L p.1).1,.dead)∧(L p.1).2.live=true) (hβ:∀ j b',j < xs.length→β j=some b'→∃ p∈kl,c.ι p.1=some b') (hβi:∀ j j' b',j < xs.length→j' < xs.length→β j=some b'→β j'=some b'→j=j')
  (hnew:∀ (j:Nat) (d:D) (u:Value),xs[j]? =some d→ws[j]? =some u→u.oneCell'=true∧CellOk c.γ w (zcS k (off+j)) (β j) d u)
  (hver:(L (tb k)).1≤ver) (hsame:ver=(L (tb k)).1→(∀ d∈xs,d.isRow=false)∧∀ d∈(cs.drop off).take xs.length,d.isRow=false):
  Did c N w0 O0 L w { v:=.d (.tup []),wr:=kl++[(tb k,(ver,.tbl true (za7 T i off xs)))] } undef (put w b (splice x off ws) ty fz):=by
 have hil:=za3 hi;have hbO:c.O b:=hm.tab.wr k T i none b hT ⟨true,T,hT,hil⟩ hγ;obtain ⟨b1,x1,ty1,fz1,p1,p2,p3,p4,p5⟩:=hm.tab.obj k true T i cs hT hi;rw [hγ] at p1; cases p1;rw [hb] at p2; cases p2
 have hsz:(splice x off ws).size=x.size:=zc0 (by omega)
 have hw:∀ q,q≠b→(put w b (splice x off ws) ty fz).heap[q]? =w.heap[q]? :=fun q hq=>by rw [zcy (zbd hb)]; simp [hq]
 have hbb:(put w b (splice x off ws) ty fz).heap[b]? =some (.cells (splice x off ws) ty fz):=by rw [zcy (zbd hb)]; simp
 have hat:=zq0 (kl:=kl) (L:=L) (fun p hp=>(hkl p hp).1)
 have hnt:∀ p∈kl,∀ k,tb k≠p.1:=fun p hp k=>hm.live_tab (hkl p hp).2 k
 have htk:∀ k',(L.upd kl) (tb k')=L (tb k'):=by
  intro k';rw [hat,if_neg];intro h;obtain ⟨p,hp,e⟩:=List.mem_map.1 h;exact hnt p hp k' e.symm
 let c':Ctx:={ c with ρ:=fun k' i' o'=>if k'=k∧i'=i∧off≤o'∧o' < off+xs.length then β (o' - off) else c.ρ k' i' o',O:=fun b'=>c.O b'∨∃ j,j < xs.length∧β j=some b' }
 have hβ':∀ j b',j < xs.length→β j=some b'→¬ c.O b'∧¬ (b' < N∧¬ O0 b'):=by
  intro j b' hj h;obtain ⟨p,hp,e⟩:=hβ j b' hj h
  obtain ⟨a1,a2,a3⟩:=hm.mine p.1 b' e (fun e=>by have:=(hkl p hp).2; rw [e] at this; cases this)
  exact ⟨a3,fun h=>by rcases a1 with a1 | a1<;>first | exact h.2 a1 | omega⟩
 have hL':∀ k',za6 ((L.upd kl).set (tb k) (ver,.tbl true (za7 T i off xs))) k'=if k'=k then some (true,za7 T i off xs) else za6 L k':=by
  intro k';rw [ziK]
  by_cases e:k'=k
  ·rw [if_pos e,if_pos e]
  ·rw [if_neg e,if_neg e,zby (htk k')]
 have htab:TabRel ((L.upd kl).set (tb k) (ver,.tbl true (za7 T i off xs))) c' (fun b=>b < N∧¬ O0 b) (put w b (splice x off ws) ty fz):=by
  refine hm.tab.putObj hT hi hγ hb hlen ho rfl (fun k' i' o' h=>?_) (fun j hj=>?_) (fun _=>Iff.rfl) hβ' hβi hnew hL'
  ·simp only [c'];rw [if_neg]
   rintro ⟨rfl,rfl,h1,h2⟩
   rcases h with h | h | h
   ·exact h rfl
   ·omega
   ·omega
  ·show (if k=k∧i=i∧off≤off+j∧off+j < off+xs.length then β (off+j - off) else c.ρ k i (off+j))=β j
   rw [if_pos ⟨rfl,rfl,by omega,by omega⟩,show off+j - off=j by omega]
 have hsc:za7 T i off xs=T.set i (cs.take off++xs++cs.drop (off+xs.length)):=by unfold za7; rw [hi]
 have hcell:ver=(L (tb k)).1→∀ i' o' d,zdc (za7 T i off xs) i' o'=some d→d.isRow=true→zdc T i' o'=some d∧¬ (i'=i∧off≤o'∧o' < off+xs.length):=by
  intro hv i' o' d hd hr;rw [hsc,zhj hil] at hd
  by_cases ei:i'=i
  ·subst ei;rw [if_pos rfl,zco ho] at hd
   by_cases hrg:off≤o'∧o' < off+xs.length
   ·rw [if_pos hrg] at hd;have:=(hsame hv).1 d (List.mem_of_getElem? hd);rw [hr] at this; cases this
   ·rw [if_neg hrg] at hd
    exact ⟨by unfold zdc; rw [hi]; exact hd,fun h=>hrg h.2⟩
  ·rw [if_neg ei] at hd
   exact ⟨hd,fun h=>ei h.1⟩
 have hon:ver=(L (tb k)).1→TbOn T (za7 T i off xs)∧∀ i' o',zcq ((L.upd kl).set (tb k) (ver,.tbl true (za7 T i off xs))) k i' (some o')→c'.ρ k i' o'=c.ρ k i' o':=by
  intro hv
  refine ⟨fun i' o'=>⟨fun l hl=>⟨l,(hcell hv i' o' _ hl rfl).1,rfl⟩,fun kk es hl=>⟨es,(hcell hv i' o' _ hl rfl).1⟩⟩,fun i' o' hth=>?_⟩
  obtain ⟨wr,T0,d,t1,t2,t3⟩:=hth;rw [hL' k,if_pos rfl] at t1; cases t1;have:=(hcell hv i' o' d t2 t3).2
  show (if k=k∧i'=i∧off≤o'∧o' < off+xs.length then β (o' - off) else c.ρ k i' o')=_
  rw [if_neg]
  rintro ⟨_,h⟩; exact this h
 have hoth:∀ k',k'≠k→∀ i' o',c'.ρ k' i' o'=c.ρ k' i' o':=by
  intro k' hk i' o'
  show (if k'=k∧i'=i∧off≤o'∧o' < off+xs.length then β (o' - off) else c.ρ k' i' o')=_
  rw [if_neg]
  rintro ⟨h,_⟩; exact hk h
 obtain ⟨m1,m2⟩:=Mem.tab_upd hm hT hkl (c':=c') rfl rfl (fun _ h=>.inl h) (fun b' h=>by
   rcases h with h | ⟨j,hj,h⟩
   ·exact .inl h
   ·exact .inr (hβ j b' hj h)) hbO (by simp [put]) hw (by
   intro y T' fz' hy; rw [hb] at hy; cases hy; exact ⟨_,_,hbb,hsz⟩) rfl rfl rfl (ver:=ver) hver hon hoth htab
 exact ⟨c',m1,m2,zhh⟩
theorem zw3 {α:Type}:∀ {l:List α} {i j:Nat} {a:α},l.Nodup→l[i]? =some a→l[j]? =some a→i=j
 | [],_,_,_,_,h,_=>by simp at h
 | x::l,i,j,a,hn,hi,hj=>by
  rw [List.nodup_cons] at hn
  cases i with
  | zero=>
   cases j with
   | zero=>rfl
   | succ j=>simp at hi hj; subst hi; exact absurd (List.mem_of_getElem? hj) hn.1
  | succ i=>
   cases j with
   | zero=>simp at hi hj; subst hj; exact absurd (List.mem_of_getElem? hi) hn.1
   | succ j=>exact congrArg (· +1) (zw3 hn.2 (by simpa using hi) (by simpa using hj))
theorem zrt {d:D} (h:d.flat=true):d.isRow=false:=by cases d<;>simp_all [D.flat,D.isRow]
theorem zw4 {γ w sz} {d:D} {u:Value} (h:d.own0ok=true) {A N} (hr:Rep w A N γ d u):u.oneCell'=true∧CellOk γ w sz none d.own0 u:=by
 have flatcase:d.flat=true→u.oneCell'=true∧CellOk γ w sz none d u:=fun hf=>by
  obtain ⟨r1,r2⟩:=hr.fl (A':=fun _=>False) (N':=0) (w':=w) hf fun _ _ _ h=>h
  exact ⟨r2,.flat _ _ hf r1⟩
 cases d with
 | sl t l=>
  cases l with
  | cons d l=>cases t<;>simp [D.own0ok,D.flat] at h
  | nil=>
   have key:(t=.nil∨t=.full)→u.oneCell'=true∧CellOk γ w sz none (.sl .own []) u:=by
    intro ht
    cases hr with
    | slE _ a cap h1 h2 _=>
     have:cap=0:=by
      rcases ht with rfl | rfl
      ·exact (h2 rfl).2
      ·exact h1 rfl
     subst this
     exact ⟨rfl,.rowE a rfl⟩
    | sl _ _ _ _ _ _ _ h=>exact absurd rfl h
   cases t with
   | nil=>exact key (.inl rfl)
   | full=>exact key (.inr rfl)
   | _=>simp [D.own0ok,D.flat] at h
 | _=>exact flatcase h
theorem zw5 {P:Program} (hm:Mem c N w0 O0 L w) (hs:Sees Lr L) {t:TypeId} {k i off n:Nat} {ag fl:Bool} {v:V} {u uv:Value} {o:Out} (hn:zb9 P t=some n)
  (ha:ziG Lr k i off n ag fl v=some o) (hp:Val c L w N (.d (.h k i off)) u) (hv:Val c L w N v uv):
  ∃ w',(Instr.storeAt t u uv).run P w=.ok () w'∧Did c N w0 O0 L w o undef w':=by
 unfold ziG at ha;split at ha
 rotate_left
 ·cases ha
 rename_i T hTr;obtain ⟨hT,hver⟩:=hs.tab hTr
 cases hi:T[i]? with
 | none=>rw [hi] at ha; cases ha
 | some cs=>
 rw [hi] at ha;dsimp only at ha;split at ha
 rotate_left
 ·cases ha
 rename_i hle;obtain ⟨b,x,ty,fz,q1,q2,q3,q4,q5⟩:=hm.tab.obj k true T i cs hT hi;have hr:=hp.dat
 cases hr with
 | h _ _ _ b' hk'=>
 rw [q1] at hk'; cases hk';have hver':(Lr (tb k)).1=(L (tb k)).1:=hver.symm
 have hvnew:Lr.new (tb k)=(L (tb k)).1+1:=by unfold Loc.new; rw [hver']
 split at ha
 ·
  have fin:∀ (xs:List D),uv.cells.size=n→(∀ (q:Nat) (u:Value),uv.cells[q]? =some u→u.oneCell'=true)→xs.length=n→(∀ (j:Nat) (d:D) (u:Value),xs[j]? =some d→uv.cells.toList[j]? =some u→d.flat=true∧Rep w (own c L) N c.γ d u)→(∀ d∈(cs.drop off).take n,d.flat=true)→(∀ d∈xs,d.flat=true)→
    ∃ w',(Instr.storeAt t (.pointer (some ⟨b,off,none⟩)) uv).run P w=.ok () w'∧Did c N w0 O0 L w { v:=.d (.tup []),wr:=[(tb k,((Lr (tb k)).1,.tbl true (za7 T i off xs)))] } undef w':=by
   intro xs h1 h2 h3 h4 h5 h6
   refine ⟨_,zep hn q2 h1 (by omega) q3 h2,?_⟩
   have:=znU hm hT hi q1 q2 (xs:=xs) (ws:=uv.cells.toList) (off:=off) (β:=fun _=>none) (kl:=[]) (ver:=(L (tb k)).1) (by simp; omega) (by omega) (by simp) (by simp) (by simp) (fun j d u hd hu=>by
    obtain ⟨f1,f2⟩:=h4 j d u hd hu
    obtain ⟨r1,r2⟩:=f2.fl (A':=fun _=>False) (N':=0) (w':=w) f1 fun _ _ _ h=>h
    exact ⟨r2,.flat _ _ f1 r1⟩) (Nat.le_refl _) (fun _=>⟨fun d hd=>zrt (h6 d hd),fun d hd=>zrt (h5 d (by rw [h3] at hd; exact hd))⟩)
   rw [hver'];exact this
  cases v with
  | d z=>
   by_cases hagg:∃ xs,z=.agg xs
   ·obtain ⟨xs,rfl⟩:=hagg;dsimp only at ha;split at ha
    ·rename_i hc;obtain ⟨rfl,c2,c3,c4⟩:=hc;simp at ha; subst ha;obtain ⟨vs,rfl,a1,a2,a3⟩:=hv.datAgg;rw [List.all_eq_true] at c3 c4
     exact fin xs (by simp [Value.cells]; omega) a3 c2 (fun j d u hd hu=>⟨c3 d (List.mem_of_getElem? hd),a2 j d u hd (by simpa [Value.cells] using hu)⟩) c4 c3
    ·cases ha
   ·have ha':(if ag=false∧n=1∧z.flat∧((cs.drop off).take n).all D.flat then
       some ({ v:=.d (.tup []),wr:=[(tb k,((Lr (tb k)).1,.tbl true (za7 T i off [z])))] }:Out) else none)=some o:=by
     cases z<;>first | exact ha | exact absurd ⟨_,rfl⟩ hagg
    split at ha'
    ·rename_i hc;obtain ⟨rfl,rfl,c3,c4⟩:=hc;simp at ha'; subst ha'
     have ho1:=(hv.dat.fl (A':=fun _=>False) (N':=0) (w':=w) c3 fun _ _ _ h=>h).2
     obtain ⟨o1,o2,o3⟩:=ziL ho1;rw [List.all_eq_true] at c4
     refine fin [z] o2 o3 rfl (fun j d u hd hu=>?_) c4 (by simpa using c3)
     rw [o1] at hu
     cases j with
     | zero=>simp at hd hu; subst hd; subst hu; exact ⟨c3,hv.dat⟩
     | succ j=>simp at hd
    ·cases ha'
  | _=>cases ha
 ·split at ha
  ·
   cases v with
   | d z=>
    cases z with
    | agg ds=>
     dsimp only at ha;split at ha
     ·rename_i hc;obtain ⟨c2,c3⟩:=hc;simp at ha; subst ha;obtain ⟨vs,rfl,a1,a2,a3⟩:=hv.datAgg;rw [List.all_eq_true] at c3
      refine ⟨_,zep hn q2 (by simp [Value.cells]; omega) (by omega) q3 a3,?_⟩
      have:=znU hm hT hi q1 q2 (xs:=ds.map D.own0) (ws:=vs.toList) (off:=off) (β:=fun _=>none) (kl:=[]) (ver:=Lr.new (tb k)) (by simp; omega) (by simp; omega) (by simp) (by simp) (by simp) (fun j d u hd hu=>by
       rw [List.getElem?_map] at hd
       cases hd0:ds[j]? with
       | none=>rw [hd0] at hd; cases hd
       | some d0=>
        rw [hd0] at hd; simp at hd; subst hd
        exact zw4 (c3 d0 (List.mem_of_getElem? hd0)) (a2 j d0 u hd0 (by simpa using hu))) (by omega) (fun h=>by omega)
      simpa [Value.cells] using this
     ·cases ha
    | _=>cases ha
   | agg ds ks vs=>
    dsimp only at ha
    cases h1:zhd Lr (ks.map fun q=>zcS k (off+q)) vs with
    | none=>rw [h1] at ha; cases ha
    | some p=>
    obtain ⟨xs,kl⟩:=p;rw [h1] at ha;simp only [Option.bind_some] at ha;split at ha
    rotate_left
    ·cases ha
    rename_i hc;obtain ⟨c2,c3,c4,c5⟩:=hc;simp at ha; subst ha
    cases hv with
    | agg _ _ _ us a1 a2 a3=>
    obtain ⟨i1,i2,bs,i3,i4,i5,i6⟩:=ztV hm hs _ vs _ xs kl h1 (zvc c5 a1 a2) c4;obtain ⟨w1,w2,w3⟩:=zhi c5
    let β:Nat→Option Nat:=fun o=>((ks.findIdx? (· == o)).bind fun j=>((bs[j]?).join)).map (·.2)
    have hidx:∀ (o j:Nat),ks[j]? =some o→ks.findIdx? (· == o)=some j:=by
     intro o j hj;rw [List.findIdx?_eq_some_iff_getElem];have hlt:=za3 hj
     refine ⟨hlt,by rw [List.getElem?_eq_getElem hlt] at hj; simpa using hj,fun j' hj'=>?_⟩
     have e1:ks[j]=o:=by rw [List.getElem?_eq_getElem hlt] at hj; simpa using hj
     simp only [beq_iff_eq];intro e2
     have:=zw3 w1 (i:=j') (j:=j) (a:=o) (by rw [List.getElem?_eq_getElem (Nat.lt_trans hj' hlt),e2]) hj
     omega
    have hβk:∀ (o b':Nat),β o=some b'→∃ (j g:Nat),ks[j]? =some o∧bs[j]? =some (some (g,b')):=by
     intro o b' h;simp only [β] at h
     cases hf:ks.findIdx? (· == o) with
     | none=>rw [hf] at h; cases h
     | some j=>
      rw [hf] at h;simp only [Option.bind_some] at h;rw [List.findIdx?_eq_some_iff_getElem] at hf;obtain ⟨f1,f2,_⟩:=hf
      cases hb:bs[j]? with
      | none=>rw [hb] at h; cases h
      | some q=>
       cases q with
       | none=>rw [hb] at h; cases h
       | some gb=>
        rw [hb] at h; simp at h
        exact ⟨j,gb.1,by rw [List.getElem?_eq_getElem f1]; simpa using f2,by rw [hb,←h]⟩
    refine ⟨_,zep hn q2 (by simp [Value.cells]; omega) (by omega) q3 a3,?_⟩
    have:=znU hm hT hi q1 q2 (xs:=setL (ds.map D.own0) ks xs) (ws:=us.toList) (off:=off) (β:=β) (kl:=kl) (ver:=Lr.new (tb k)) (by rw [znT]; simp; omega) (by rw [znT]; simp; omega) i2 (fun o b' _ h=>by
      obtain ⟨j,g,_,h2⟩:=hβk o b' h;obtain ⟨e1,e2⟩:=i5 j g b' h2;obtain ⟨p,hp,e⟩:=List.mem_map.1 e2
      exact ⟨p,hp,by rw [e]; exact e1⟩) (fun o o' b' _ _ h h'=>by
      obtain ⟨j,g,e1,e2⟩:=hβk o b' h;obtain ⟨j',g',e1',e2'⟩:=hβk o' b' h';have hg:=(i5 j g b' e2).1;have hg':=(i5 j' g' b' e2').1
      have hlive:∀ g,g∈kl.map (·.1)→(L g).2≠.dead:=fun g hg e=>by
       obtain ⟨p,hp,e0⟩:=List.mem_map.1 hg;have:=(i2 p hp).2;rw [e0,e] at this; cases this
      have:g=g':=hm.inj g g' b' hg hg' (hlive g (i5 j g b' e2).2) (hlive g' (i5 j' g' b' e2').2);subst this;have:=i6 j j' g b' b' e2 e2';subst this
      rw [e1] at e1'; cases e1'; rfl) (fun o d u hd hu=>by
      rcases zyH (by omega) hd with ⟨h2,h3⟩ | ⟨j,h2,h3⟩
      ·have hβn:β o=none:=by
        simp only [β]
        have:ks.findIdx? (· == o)=none:=by
         rw [List.findIdx?_eq_none_iff];intro q hq;simp only [beq_eq_false_iff_ne]
         rintro rfl; exact h2 hq
        rw [this]; rfl
       rw [hβn];rw [List.getElem?_map] at h3
       cases hd0:ds[o]? with
       | none=>rw [hd0] at h3; cases h3
       | some d0=>
        rw [hd0] at h3; simp at h3; subst h3
        refine zw4 (zAV c3 h2 hd0) (a2 o (.d d0) u ?_ (by simpa using hu)).dat
        rw [zfc,if_pos (by simpa using za3 hd0),zwZ h2]
        simp [hd0]
      ·have:=i4 j d u (zcS k (off+o)) h3 (by rw [List.getElem?_map,h2]; simp at hu ⊢; rw [hu]; rfl) (by rw [List.getElem?_map,h2]; rfl)
       simp only [β];rw [hidx o j h2]
       exact this) (by omega) (fun h=>by omega)
    simpa [Value.cells] using this
   | _=>cases ha
  ·
   cases h1:ziF (zcS k off) Lr v with
   | none=>rw [h1] at ha; cases ha
   | some p=>
   obtain ⟨z,kl⟩:=p;rw [h1] at ha;simp only [Option.bind_some] at ha;split at ha
   rotate_left
   ·cases ha
   rename_i hn1;subst hn1;simp at ha; subst ha;obtain ⟨ho1,hc⟩:=zw2 hm hs h1 hv;obtain ⟨o1,o2,o3⟩:=ziL ho1
   refine ⟨_,zep hn q2 o2 (by omega) q3 o3,?_⟩
   rw [o1]
   have key:∀ (β:Option Nat),CellOk c.γ w (zcS k off) β z uv→(∀ p∈kl,p.2=((L p.1).1,.dead)∧(L p.1).2.live=true)→(∀ b',β=some b'→∃ p∈kl,c.ι p.1=some b')→
     Did c N w0 O0 L w { v:=.d (.tup []),wr:=kl++[(tb k,(Lr.new (tb k),.tbl true (za7 T i off [z])))] } undef (put w b (splice x off [uv]) ty fz):=by
    intro β k1 k2 k3
    exact znU hm hT hi q1 q2 (xs:=[z]) (ws:=[uv]) (off:=off) (β:=fun _=>β) (kl:=kl) (ver:=Lr.new (tb k)) rfl (by simp; omega) k2 (fun _ b' _ h=>k3 b' h) (fun j j' _ h h' _ _=>by simp at h h'; omega) (fun j d u hd hu=>by
     cases j with
     | zero=>simp at hd hu; subst hd; subst hu; exact ⟨ho1,k1⟩
     | succ j=>simp at hd) (by omega) (fun h=>by omega)
   rcases hc with ⟨rfl,hc⟩ | ⟨g,β,rfl,hl,hb,hc⟩
   ·exact key none hc (by simp) (by simp)
   ·exact key β hc (by simpa using hl) (fun b' hb'=>⟨(g,((L g).1,.dead)),by simp,hb b' hb'⟩)
theorem znV {v:V} (hs:Sees Lr L) {u:Value} (h:zeF Lr v=true) (h1:v.one=true) (hv:Val c L w N v u):u.oneCell'=true:=by
 cases v with
 | ptr g n off=>
  simp only [zeF] at h;have hg:=hs g n
  cases hv with
  | ptr _ _ _ _ k1 k2=>
   obtain ⟨b,_,rfl⟩:=k2 (by cases hx:Lr.get g n<;>rw [hx] at h hg<;>simp at h<;>(rw [hg (by simp)]; simp))
   rfl
 | ref g n off len=>
  simp only [zeF] at h;have hg:=hs g n
  cases hv with
  | ref _ _ _ _ _ k1 k2 k3=>
   cases hx:Lr.get g n<;>rw [hx] at h hg<;>simp at h
   ·obtain ⟨_,a,cap,rfl,_⟩:=k2 _ _ _ (hg (by simp))
    rfl
   ·obtain ⟨_,a,cap,rfl,_⟩:=k3 _ _ (hg (by simp))
    rfl
 | bref g n off len=>
  simp only [zeF,zdH] at h;have hg:=hs g n;cases hx:Lr.get g n<;>rw [hx] at h hg<;>simp at h
  cases hv with
  | bref _ _ _ _ _ k1 k2=>
   obtain ⟨_,b,cap,_,_,rfl⟩:=k2 _ (by rw [hg (by simp)]; rfl)
   rfl
 | map g n=>
  simp only [zeF,esOf] at h;have hg:=hs g n;cases hx:Lr.get g n<;>rw [hx] at h hg<;>simp at h
  cases hv with
  | map _ _ _ k1 k2=>
   obtain ⟨b,_,rfl⟩:=k2 (by rw [hg (by simp)]; simp)
   rfl
 | vref k n i o lo len=>
  simp only [zeF,zdH] at h
  cases hx:zeE Lr k n i o with
  | none=>rw [hx] at h; simp at h
  | some l=>
  cases hv with
  | vref _ _ _ _ _ _ _ k1 k2=>
   obtain ⟨_,a,cap,rfl,_⟩:=k2 _ (hs.row hx)
   rfl
 | vmap k n i o=>
  simp only [zeF,esOf] at h
  cases hx:ziE Lr k n i o with
  | none=>rw [hx] at h; simp at h
  | some l=>
  cases hv with
  | vmap _ _ _ _ _ k1 k2=>
   obtain ⟨_,_,rfl⟩:=k2 _ (hs.mapRow hx)
   rfl
 | clo f a b=>cases hv; rfl
 | _=>cases h1
theorem zeQ {α:Type} {l xs:List α} {off n:Nat} (h1:xs.length=n) (h:off+n≤l.length):(l.take off++xs++l.drop (off+n)).length=l.length:=by
 simp; omega
theorem zvd (ds xs:List D) (ks:List Nat) (vs:List V) (off:Nat) (ho:off+xs.length≤ds.length):
  ovs (zdW off xs.length ks vs).1 (zdW off xs.length ks vs).2 ((ds.take off++xs++ds.drop (off+xs.length)).map .d)=(ovs ks vs (ds.map .d)).take off++xs.map .d++(ovs ks vs (ds.map .d)).drop (off+(xs.map V.d).length):=by
 apply List.ext_getElem?;intro i
 have hl:off+(xs.map V.d).length≤(ovs ks vs (ds.map .d)).length:=by rw [zcE]; simpa using ho
 rw [zco hl,zfc,znS];simp only [List.length_map]
 by_cases hr:off≤i∧i < off+xs.length
 ·rw [if_pos hr,if_pos hr,if_pos (by simp; omega)]
  simp only [List.getElem?_map,zco ho,if_pos hr]
 ·rw [if_neg hr,if_neg hr,zfc];simp only [List.length_map,List.getElem?_map,zco ho,if_neg hr];rw [zeQ rfl ho]
theorem zve (ds xs:List D) (ks ks':List Nat) (vs vs':List V) (off:Nat) (ho:off+xs.length≤ds.length) (hl':ks'.length=vs'.length) (hk:∀ k∈ks',k < xs.length):
  ovs (ks'.map (· +off)++(zdW off xs.length ks vs).1) (vs'++(zdW off xs.length ks vs).2) ((ds.take off++xs++ds.drop (off+xs.length)).map .d)=(ovs ks vs (ds.map .d)).take off++ovs ks' vs' (xs.map .d)++(ovs ks vs (ds.map .d)).drop (off+(ovs ks' vs' (xs.map V.d)).length):=by
 apply List.ext_getElem?;intro i
 have hl:off+(ovs ks' vs' (xs.map V.d)).length≤(ovs ks vs (ds.map .d)).length:=by simp only [zcE,List.length_map]; exact ho
 rw [zco hl,zfc,zp9 _ _ _ (by simpa using hl'),znS,zrp]
 simp only [zcE,List.length_map]
 by_cases hr:off≤i∧i < off+xs.length
 ·rw [if_pos hr,if_pos hr,if_pos (by rw [zeQ rfl ho]; omega),if_pos hr.1,zfc]
  simp only [List.length_map,List.getElem?_map,zco ho,if_pos hr]
  rw [if_pos (by omega)]
  cases zdr ks' vs' (i - off)<;>rfl
 ·rw [if_neg hr,if_neg hr,zfc]
  have:(if off≤i then zdr ks' vs' (i - off) else none)=none:=by
   by_cases h1:off≤i
   ·rw [if_pos h1]
    cases hg:zdr ks' vs' (i - off) with
    | none=>rfl
    | some v=>have:=zwX hk hg; omega
   ·rw [if_neg h1]
  rw [this];simp only [List.length_map,List.getElem?_map,zco ho,if_neg hr];rw [zeQ rfl ho]
theorem zvf (ds:List D) (ks:List Nat) (vs:List V) (v:V) (off:Nat) (ho:off < ds.length):
  ovs (off::(zdW off 1 ks vs).1) (v::(zdW off 1 ks vs).2) (ds.map .d)=(ovs ks vs (ds.map .d)).take off++[v]++(ovs ks vs (ds.map .d)).drop (off+[v].length):=by
 apply List.ext_getElem?;intro i
 have hl:off+[v].length≤(ovs ks vs (ds.map .d)).length:=by rw [zcE]; simp; omega
 rw [zco hl,zfc];simp only [List.length_map,List.length_singleton,zdr]
 by_cases e:off=i
 ·subst e; rw [if_pos ho,if_pos rfl,if_pos (by omega)]; simp
 ·rw [if_neg e,znS,if_neg (show ¬ (off≤i∧i < off+1) by omega),if_neg (show ¬ (off≤i∧i < off+1) by omega),zfc]
  simp only [List.length_map]
theorem zB9 {P:Program} (hm:Mem c N w0 O0 L w) (hs:Sees Lr L) {t:TypeId} {p v:V} {u uv:Value} {o:Out}
  (ha:zwP P Lr t p v=some o) (hp:Val c L w N p u) (hv:Val c L w N v uv) (hok:zeF Lr v=true):
  ∃ w',(Instr.storeAt t u uv).run P w=.ok () w'∧Did c N w0 O0 L w o undef w':=by
 unfold zwP at ha
 cases hag:zkE P t with
 | none=>rw [hag] at ha; cases ha
 | some ag=>
 cases hn:zb9 P t with
 | none=>rw [hag,hn] at ha; cases ha
 | some n=>
 rw [hag,hn] at ha;dsimp only at ha
 cases p with
 | ptr g l off=>
  dsimp only at ha
  have box:∀ {y z:HObj} {us vs:List V} {ws:List Value},Lr.get g l=y→y.cellsV=some us→z.cellsV=some (us.take off++vs++us.drop (off+vs.length))→uv.cells.toList=ws→ws.length=n→vs.length=n→off+n≤us.length→(∀ v∈ws,v.oneCell'=true)→
    (∀ (i:Nat) (v:V) (u:Value),vs[i]? =some v→ws[i]? =some u→Val c L w N v u)→o={ v:=.d (.tup []),wr:=[(g,(l,z))] }→∃ w',(Instr.storeAt t u uv).run P w=.ok () w'∧Did c N w0 O0 L w o undef w':=by
   rintro y z us vs ws hy hu hz hws h1 h2 h3 h4 h5 rfl
   have hyd:y≠.dead:=by rintro rfl; cases hu
   have hL:L.get g l=y:=by rw [hs g l (by rw [hy]; exact hyd),hy]
   obtain ⟨b,x,T,fz,q1,q2,q3,q4,_⟩:=(zgt.cellsV hu).1 (hm.get hL hyd)
   cases hp with
   | ptr _ _ _ _ k1 k2=>
   obtain ⟨b',e1,rfl⟩:=k2 (by rw [hL]; exact hyd)
   rw [q1] at e1; cases e1
   have hsz:uv.cells.size=n:=by rw [←h1,←hws]; simp
   refine ⟨_,zep hn q2 hsz (by omega) q3 (fun i y hy=>h4 y (by rw [←hws]; exact List.mem_of_getElem? (by simpa using hy))),?_⟩
   rw [hws]
   exact zrr hm hL hu hz q1 q2 (by omega) h5 h4 (by omega)
  have boxAgg:∀ {y z:HObj} {us:List V} {xs:List D},v=.d (.agg xs)→xs.length=n→Lr.get g l=y→y.cellsV=some us→off+n≤us.length→z.cellsV=some (us.take off++xs.map .d++us.drop (off+(xs.map V.d).length))→o={ v:=.d (.tup []),wr:=[(g,(l,z))] }→∃ w',(Instr.storeAt t u uv).run P w=.ok () w'∧Did c N w0 O0 L w o undef w':=by
   rintro y z us xs rfl hl hy hu ho hz he
   obtain ⟨vs,rfl,a1,a2,a3⟩:=hv.datAgg
   refine box hy hu hz (ws:=vs.toList) rfl (by simp; omega) (by simpa using hl) ho (fun x hx=>?_) (fun i v u hv hu=>?_) he
   ·obtain ⟨i,hi⟩:=List.mem_iff_getElem?.1 hx
    exact a3 i x (by simpa using hi)
   ·rw [List.getElem?_map] at hv
    cases hd:xs[i]? with
    | none=>rw [hd] at hv; cases hv
    | some d=>rw [hd] at hv; simp at hv; subst hv; exact .d _ _ (a2 i d u hd (by simpa using hu))
  have boxV:∀ {y z:HObj} {us:List V} {xs:List D} {ks:List Nat} {vs:List V},v=.agg xs ks vs→xs.length=n→Lr.get g l=y→y.cellsV=some us→off+n≤us.length→z.cellsV=some (us.take off++ovs ks vs (xs.map .d)++us.drop (off+(ovs ks vs (xs.map V.d)).length))→o={ v:=.d (.tup []),wr:=[(g,(l,z))] }→∃ w',(Instr.storeAt t u uv).run P w=.ok () w'∧Did c N w0 O0 L w o undef w':=by
   rintro y z us xs ks vs rfl hl hy hu ho hz he
   cases hv with
   | agg _ _ _ vs' a1 a2 a3=>
   refine box hy hu hz (ws:=vs'.toList) rfl (by simp; omega) (by simp only [zcE,List.length_map]; exact hl) ho (fun x hx=>?_) (fun i v u hv hu=>a2 i v u hv (by simpa using hu)) he
   obtain ⟨i,hi⟩:=List.mem_iff_getElem?.1 hx
   exact a3 i x (by simpa using hi)
  have boxOne:∀ {y z:HObj} {us:List V},uv.oneCell'=true→n=1→Lr.get g l=y→y.cellsV=some us→off < us.length→z.cellsV=some (us.take off++[v]++us.drop (off+[v].length))→o={ v:=.d (.tup []),wr:=[(g,(l,z))] }→∃ w',(Instr.storeAt t u uv).run P w=.ok () w'∧Did c N w0 O0 L w o undef w':=by
   rintro y z us ho1 hn1 hy hu ho hz he
   obtain ⟨o1,o2,o3⟩:=ziL ho1
   refine box hy hu hz (ws:=[uv]) o1 (by simp [hn1]) (by simp [hn1]) (by omega) (by simpa using ho1) (fun i v' u hv' hu=>?_) he
   cases i with
   | zero=>simp at hv' hu; subst hv'; subst hu; exact hv
   | succ i=>simp at hv'
  cases hx:Lr.get g l with
  | box a ds=>
   rw [hx] at ha;have hcv:(HObj.box a ds).cellsV=some (ds.map .d):=rfl
   have other:(if v.one=true∧ag=false∧n=1∧off < ds.length then some ({ v:=.d (.tup []),wr:=[(g,(l,.vbox a ds [off] [v]))] }:Out) else none)=some o→∃ w',(Instr.storeAt t u uv).run P w=.ok () w'∧Did c N w0 O0 L w o undef w':=by
    intro ha1;clear ha;split at ha1
    ·rename_i hc;obtain ⟨h1,rfl,hn1,ho⟩:=hc;simp at ha1
     refine boxOne (znV hs hok h1 hv) hn1 hx hcv (by simpa using ho) ?_ ha1.symm
     have:=zvf ds [] [] v off ho;simp only [HObj.cellsV,ovs,zdW] at this ⊢;rw [←this]
    ·cases ha1
   cases v with
   | d z=>
    by_cases hagg:∃ xs,z=.agg xs
    ·obtain ⟨xs,rfl⟩:=hagg;dsimp only at ha;split at ha
     ·rename_i hc;obtain ⟨rfl,hc2,hc3⟩:=hc;simp at ha
      refine boxAgg rfl hc2 hx hcv (by simpa using hc3) ?_ ha.symm
      simp [HObj.cellsV,hc2]
     ·cases ha
    ·have ha':(if ag=false∧n=1∧z.cell=true∧off < ds.length then some ({ v:=.d (.tup []),wr:=[(g,(l,.box a (ds.set off z)))] }:Out) else none)=some o:=by
      cases z<;>first | exact ha | exact absurd ⟨_,rfl⟩ hagg
     split at ha'
     ·rename_i hc;obtain ⟨rfl,hn1,hcell,ho⟩:=hc;simp at ha'
      refine boxOne (hv.dat.cell hcell) hn1 hx hcv (by simpa using ho) ?_ ha'.symm
      simp only [HObj.cellsV];rw [zlO ho];simp
     ·cases ha'
   | agg xs ks vs=>
    dsimp only at ha;split at ha
    ·rename_i hc;obtain ⟨rfl,hc2,hc3,hc4⟩:=hc;simp at ha;subst hc2;obtain ⟨w1,w2,w3⟩:=zhi hc4
     refine boxV rfl rfl hx hcv (by simpa using hc3) ?_ ha.symm
     rw [zjt];have:=zve ds xs [] ks [] vs off hc3 w2 w3;simp only [zdW,List.append_nil,ovs] at this;simp only [List.append_assoc] at this ⊢;rw [this]
    ·cases ha
   | _=>exact other ha
  | vbox a ds ks vs=>
   rw [hx] at ha;have hcv:(HObj.vbox a ds ks vs).cellsV=some (ovs ks vs (ds.map .d)):=rfl
   have other:(if v.one=true∧ag=false∧n=1∧off < ds.length then some ({ v:=.d (.tup []),wr:=[(g,(l,.vbox a ds (off::(zdW off 1 ks vs).1) (v::(zdW off 1 ks vs).2)))] }:Out) else none)=some o→∃ w',(Instr.storeAt t u uv).run P w=.ok () w'∧Did c N w0 O0 L w o undef w':=by
    intro ha1;clear ha;split at ha1
    ·rename_i hc;obtain ⟨h1,rfl,hn1,ho⟩:=hc;simp at ha1
     refine boxOne (znV hs hok h1 hv) hn1 hx hcv (by rw [zcE]; simpa using ho) ?_ ha1.symm
     simp only [HObj.cellsV];rw [zvf ds ks vs v off ho]
    ·cases ha1
   cases v with
   | d z=>
    by_cases hagg:∃ xs,z=.agg xs
    ·obtain ⟨xs,rfl⟩:=hagg;dsimp only at ha;split at ha
     ·rename_i hc;obtain ⟨rfl,hc2,hc3⟩:=hc;simp at ha;subst hc2
      refine boxAgg rfl rfl hx hcv (by rw [zcE]; simpa using hc3) ?_ ha.symm
      have:=zvd ds xs ks vs off hc3;rw [zjt];simp only [List.append_assoc] at this ⊢;rw [this]
     ·cases ha
    ·have ha':(if ag=false∧n=1∧z.cell=true∧off < ds.length then some ({ v:=.d (.tup []),wr:=[(g,(l,zrg a (ds.set off z) (zdW off 1 ks vs)))] }:Out) else none)=some o:=by
      cases z<;>first | exact ha | exact absurd ⟨_,rfl⟩ hagg
     split at ha'
     ·rename_i hc;obtain ⟨rfl,hn1,hcell,ho⟩:=hc;simp at ha'
      refine boxOne (hv.dat.cell hcell) hn1 hx hcv (by rw [zcE]; simpa using ho) ?_ ha'.symm
      rw [zjt,zlO ho]
      have:=zvd ds [z] ks vs off (by simp; omega)
      simp only [List.length_singleton,List.map_cons,List.map_nil] at this ⊢;rw [this]
     ·cases ha'
   | agg xs ks' vs'=>
    dsimp only at ha;split at ha
    ·rename_i hc;obtain ⟨rfl,hc2,hc3,hc4⟩:=hc;simp at ha;subst hc2;obtain ⟨w1,w2,w3⟩:=zhi hc4
     refine boxV rfl rfl hx hcv (by rw [zcE]; simpa using hc3) ?_ ha.symm
     have:=zve ds xs ks ks' vs vs' off hc3 w2 w3;rw [zjt];simp only [List.append_assoc] at this ⊢;rw [this]
    ·cases ha
   | _=>exact other ha
  | _=>rw [hx] at ha; cases ha
 | ept g l i off=>
  dsimp only at ha;have hg:=hs g l
  cases hx:Lr.get g l with
  | arr sz els lv=>
   rw [hx] at ha
   cases lv with
   | false=>cases ha
   | true=>
   have hL:=hg (by rw [hx]; simp)
   rw [hx] at hL;dsimp only at ha
   cases he:els[i]? with
   | none=>rw [he] at ha; cases ha
   | some e=>
   rw [he] at ha;simp only [Option.bind_some] at ha;have hi:=za3 he
   have hob:=hm.get hL (by simp)
   cases hp with
   | ept _ _ _ _ _ k1 k2=>
   obtain ⟨b,e1,rfl⟩:=k2 _ _ _ hL hi;rw [e1] at hob;obtain ⟨x,T,fz,h2,h3,h4,us,h5⟩:=hob;obtain ⟨r1,r2,r3⟩:=h5 i e he
   have hlt:i*sz+sz≤x.size:=by
    have:(i+1)*sz≤els.length*sz:=Nat.mul_le_mul_right _ hi;rw [Nat.succ_mul] at this; omega
   have fin:∀ {L1:Loc} {x1 y:D},Mem c N w0 O0 L1 w→L1.get g l=.arr sz els true→Grow c L w c L1 w→Rep w (own c L1) N c.γ x1 uv→zgs ag n sz off e x1=some y→
     ∃ w',(Instr.storeAt t (.pointer (some ⟨b,i*sz+off,none⟩)) uv).run P w=.ok () w'∧Did c N w0 O0 L1 w { v:=.d (.tup []),wr:=[(g,(l,.arr sz (els.set i y) true))] } undef w':=by
    intro L1 x1 y hm1 hL1 hg1 hr1 hy;obtain ⟨s1,s2,s3⟩:=ztU hy hr1;obtain ⟨s4,_⟩:=s3 _ (r1.grow hg1) r2
    refine ⟨_,zep hn h2 s1 (by omega) h3 s2,zB1 hm1 hL1 e1 h2 he (by simp; omega) fun v0 q1 q2=>?_⟩
    exact (s3 v0 q1 q2).2
   have other:((toD Lr v).bind fun r=>if g∈r.2.map (·.1) then none else (zgs ag n sz off e r.1).map fun y=>({ v:=.d (.tup []),wr:=r.2++[(g,(l,.arr sz (els.set i y) true))] }:Out))=some o→
     ∃ w',(Instr.storeAt t (.pointer (some ⟨b,i*sz+off,none⟩)) uv).run P w=.ok () w'∧Did c N w0 O0 L w o undef w':=by
    intro ha
    cases ht:toD Lr v with
    | none=>rw [ht] at ha; cases ha
    | some r=>
    rw [ht] at ha;simp only [Option.bind_some] at ha;split at ha
    ·cases ha
    rename_i hnot
    cases hy:zgs ag n sz off e r.1 with
    | none=>rw [hy] at ha; cases ha
    | some y=>
    rw [hy] at ha;simp at ha; subst ha;obtain ⟨m1,m2,m3⟩:=zB7 hm hs ht hv
    have hsame:∀ (wr:Wr) (L:Loc),g ∉ wr.map (·.1)→(L.upd wr) g=L g:=by
     intro wr
     induction wr with
     | nil=>intros; rfl
     | cons p wr ih=>
      intro L hg';obtain ⟨g0,x0⟩:=p;simp at hg';simp only [Loc.upd]
      rw [ih _ (by simpa using hg'.2),Loc.set_ne _ _ hg'.1]
    have hL1:(L.upd r.2).get g l=.arr sz els true:=by unfold Loc.get; rw [hsame _ _ hnot]; exact hL
    obtain ⟨w',d0,c',d1,d2,d3⟩:=fin m1 hL1 m2 m3 hy;refine ⟨w',d0,c',?_,?_,?_⟩
    ·rw [Loc.upd_append]; exact d1
    ·rw [Loc.upd_append]; exact m2.trans d2
    ·rw [Loc.upd_append]; exact d3
   cases v with
   | d z=>
    dsimp only at ha
    cases hy:zgs ag n sz off e z with
    | none=>rw [hy] at ha; cases ha
    | some y=>
     rw [hy] at ha;simp at ha; subst ha
     exact fin hm hL (Grow.refl ..) hv.dat hy
   | _=>exact other ha
  | _=>rw [hx] at ha; cases ha
 | vept k l i oo j off=>
  dsimp only at ha;split at ha
  rotate_left
  ·cases ha
  rename_i z T els hT hr;obtain ⟨hT',hver⟩:=hs.tab hT;have hr':=hs.row hr
  cases he:els[j]? with
  | none=>rw [he] at ha; cases ha
  | some e=>
  rw [he] at ha;simp only [Option.bind_some] at ha
  cases hy:zgs ag n (zcS k oo) off e z with
  | none=>rw [hy] at ha; cases ha
  | some y=>
  rw [hy] at ha;simp only [Option.bind_some] at ha;split at ha
  rotate_left
  ·cases ha
  rename_i hfy;simp at ha; subst ha;have hj:=za3 he
  have hne:els≠[]:=by rintro rfl; simp at hj
  obtain ⟨wr,T',cs,b,cap,x,ty,fz,vs,t1,t2,t3,t4,t5,t6,t7,t8,t9,t10⟩:=hm.rowAt hr' (.inl hne);rw [hT'] at t1; cases t1
  cases hp with
  | vept _ _ _ _ _ _ _ k1 k2=>
  obtain ⟨b',e1,rfl⟩:=k2 _ hr' hj;rw [t5] at e1; cases e1;obtain ⟨f1,r1,f2,r2,r3⟩:=t10 j e he;generalize hszz:zcS k oo=sz' at*;obtain ⟨s1,s2,s3⟩:=ztU hy hv.dat
  have hre:=r1.flEl (A':=own c L) (N':=N) (w':=w) f1 fun _ _ _ h=>h
  obtain ⟨s4,_⟩:=s3 _ hre r2
  have hlt:j*sz'+sz'≤x.size:=by
   have:(j+1)*sz'≤cap*sz':=Nat.mul_le_mul_right _ (by omega)
   rw [Nat.succ_mul] at this; omega
  refine ⟨_,zep hn t6 s1 (by omega) t7 s2,?_⟩
  have hsetT:setT T i oo (.sl .own (els.set j y))=T.set i (cs.set oo (.sl .own (els.set j y))):=by unfold setT; rw [t3]
  rw [hsetT]
  exact zB8 hm hszz.symm hT' t2 t3 t4 t5 t6 t7 t8 t9 t10 he hfy (zw1 hy f2) (by simp; omega) fun v0 q1 q2=>by
   obtain ⟨_,v',z1,z2,z3⟩:=s3 v0 (q1.flEl f1 fun _ _ _ h=>h) q2
   exact ⟨v',z1.flEl hfy fun _ _ _ h=>h,z2,z3⟩
 | d x=>
  cases x with
  | h k i off=>exact zw5 hm hs hn ha hp hv
  | _=>cases ha
 | _=>cases ha
end
end Wf

namespace Wf
open Go Go.RowKit
theorem zw6 {P:Program} {s f off size:Nat} (h:zs8 P s f=some (off,size)):∃ fs x,P.underlying s=some (.struct fs)∧fs[f]? =some x∧x.offset=off∧zb9 P x.type=some size:=by
 unfold zs8 at h;split at h
 ·rename_i fs hu
  cases hx:fs[f]? with
  | none=>rw [hx] at h; cases h
  | some x=>
   rw [hx] at h
   cases hi:P.info? x.type with
   | none=>simp [hi] at h
   | some i=>
    simp [hi] at h
    exact ⟨fs,x,hu,hx,h.1,by unfold zb9; simp [hi,h.2]⟩
 ·cases h
theorem zw7 {P:Program} {s f:Nat} {ag:Bool} (h:zjp P s f=some ag):∃ fs x,P.underlying s=some (.struct fs)∧fs[f]? =some x∧zkE P x.type=some ag:=by
 unfold zjp at h;split at h
 ·rename_i fs hu
  cases hx:fs[f]? with
  | none=>rw [hx] at h; cases h
  | some x=>rw [hx] at h; exact ⟨fs,x,hu,hx,h⟩
 ·cases h
theorem zmY {P:Program} {t sz:Nat} (h:zcw P t=some sz):∃ e,P.underlying t=some (.slice e)∧zb9 P e=some sz:=by
 unfold zcw at h;split at h
 ·rename_i e hu; exact ⟨e,hu,h⟩
 ·cases h
theorem zCa {P:Program} {t n sz:Nat} {ag:Bool} (h:zhV P t=some (n,sz,ag)):∃ e,P.underlying t=some (.array n e)∧zb9 P e=some sz∧zkE P e=some ag:=by
 unfold zhV at h;split at h
 ·rename_i n' e hu
  cases hi:P.info? e with
  | none=>rw [hi] at h; cases h
  | some i=>
   rw [hi] at h
   cases ha:zkE P e with
   | none=>simp [ha] at h
   | some a=>
    simp [ha] at h;obtain ⟨rfl,h2,rfl⟩:=h
    exact ⟨e,hu,by unfold zb9; simp [hi,h2],ha⟩
 ·cases h
theorem zhk {P:Program} {s f off size b o:Nat} {w:World} (h:zs8 P s f=some (off,size)) (h0:size≠0):
  (Instr.fieldAt s (.pointer (some ⟨b,o,none⟩)) f).run P w=.ok (.pointer (some ⟨b,o+off,none⟩)) w:=by
 obtain ⟨fs,x,h1,h2,rfl,h4⟩:=zw6 h;simp only [Instr.fieldAt,Sem.run_bind,zbt h1,Result.andThen_ok];simp only [h2,Instr.sureAddr,Sem.run_bind,Sem.run_pure,Result.andThen_ok,fieldPlace,zdI h4,h0,if_false,Addr.add_lit]
theorem zq1 {P:Program} {t n off:Nat} {ag:Bool} {w:World} {cs:Array Value} {v:Value} (hag:zkE P t=some ag) (hn:zb9 P t=some n)
  (h:if ag then v=.agg (cs.extract off (off+n)) else cs[off]? =some v):(part t cs off).run P w=.ok v w:=by
 unfold part;simp only [Sem.run_bind,zF1 hag,Result.andThen_ok]
 cases ag with
 | true=>simp at h; simp [zdI hn,h]
 | false=>simp at h; simp [h]
section
variable {c:Ctx} {N:Nat} {w0:World} {O0:Nat→Prop} {L Lr:Loc} {w:World}
theorem zvg {P:Program} {s f:Nat} {x v:V} {u:Value} (ha:zlM P s x f=some v) (hx:Val c L w N x u)
  (hlive:∀ g n off,x=.ptr g n off→L.get g n≠.dead) (harr:∀ g n i off,x=.ept g n i off→∃ sz els l,L.get g n=.arr sz els l∧i < els.length) (hrow:∀ k n i o j off,x=.vept k n i o j off→∃ els,zeE L k n i o=some els∧j < els.length):
  ∃ u',(Instr.fieldAt s u f).run P w=.ok u' w∧Val c L w N v u':=by
 unfold zlM at ha
 cases hf:zs8 P s f with
 | none=>rw [hf] at ha; cases ha
 | some p=>
 obtain ⟨off,size⟩:=p
 cases hag:zjp P s f with
 | none=>rw [hf,hag] at ha; cases ha
 | some ag=>
 rw [hf,hag] at ha;dsimp only at ha;split at ha
 ·cases ha
 ·rename_i h0
  cases x with
  | ptr g n o=>
   injection ha with ha; subst ha
   cases hx with
   | ptr _ _ _ _ k1 k2=>
    obtain ⟨b,e,rfl⟩:=k2 (hlive _ _ _ rfl)
    exact ⟨_,zhk hf h0,.ptr _ _ _ _ k1 fun _=>⟨b,e,rfl⟩⟩
  | ept g n i o=>
   injection ha with ha; subst ha
   cases hx with
   | ept _ _ _ _ _ k1 k2=>
    obtain ⟨sz,els,l,h1,h2⟩:=harr _ _ _ _ rfl;obtain ⟨b,e,rfl⟩:=k2 _ _ _ h1 h2
    refine ⟨_,zhk hf h0,.ept _ _ _ _ _ k1 fun sz' els' l' h1' _=>⟨b,e,?_⟩⟩
    rw [h1] at h1'; cases h1'; rw [Nat.add_assoc]
  | vept k n i q j o=>
   injection ha with ha; subst ha
   cases hx with
   | vept _ _ _ _ _ _ _ k1 k2=>
    obtain ⟨els,h1,h2⟩:=hrow _ _ _ _ _ _ rfl;obtain ⟨b,e,rfl⟩:=k2 _ h1 h2
    refine ⟨_,zhk hf h0,.vept _ _ _ _ _ _ _ k1 fun els' h1' _=>⟨b,e,?_⟩⟩
    rw [Nat.add_assoc]
  | d y=>
   cases y with
   | at_ z=>
    cases z with
    | agg cs=>
     dsimp only at ha
     cases hp:zhe ag size off cs with
     | none=>rw [hp] at ha; cases ha
     | some d=>
      rw [hp] at ha;injection ha with ha; subst ha;have:ag=true∨size=1∨True:=.inr (.inr trivial);have hr:=hx.dat
      cases hr with
      | at_ _ v b o g1 g2 g3 g4=>
       cases g4 with
       | agg _ vs q1 q2 q3=>
        obtain ⟨v',r1,r2,r3⟩:=zh3 hp q1 (fun i d u hd hu=>⟨q2 i d u hd hu,q3 i u hu⟩)
        refine ⟨_,zhk hf h0,.d _ _ (.at_ _ v' _ _ g1 g2 (fun j u hu=>?_) r1)⟩
        have:=g3 (off+j) u (by simpa [Value.cells] using r3 j u hu)
        rwa [←Nat.add_assoc] at this
    | _=>cases ha
   | h k i o=>
    injection ha with ha; subst ha;have hr:=hx.dat
    cases hr with
    | h _ _ _ b hk=>exact ⟨_,zhk hf h0,.d _ _ (.h _ _ _ _ hk)⟩
   | _=>cases ha
  | _=>cases ha
theorem zgZ {P:Program} {t sz b o len cap:Nat} {k:IntKind} {i:Int} (h:zcw P t=some sz) (h0:0≤i) (h1:i < len):
  (Instr.indexAt t (.slice (some ⟨b,o,none⟩) len cap) (.int k i)).run P w=.ok (.pointer (some ⟨b,o+i.toNat*sz,none⟩)) w:=by
 obtain ⟨e,h2,h3⟩:=zmY h;simp [Instr.indexAt,zbt h2,asIntOf,h0,h1,zdI h3,Addr.add_lit]
theorem zfz {P:Program} {t n sz b o:Nat} {ag:Bool} {k:IntKind} {i:Int} (h:zhV P t=some (n,sz,ag)) (h0:0≤i) (h1:i < n):
  (Instr.indexAt t (.pointer (some ⟨b,o,none⟩)) (.int k i)).run P w=.ok (.pointer (some ⟨b,o+i.toNat*sz,none⟩)) w:=by
 obtain ⟨e,h2,h3,_⟩:=zCa h;simp [Instr.indexAt,zbt h2,asIntOf,h0,h1,zdI h3,Addr.add_lit,Instr.sureAddr]
theorem zvh {P:Program} (hm:Mem c N w0 O0 L w) (hs:Sees Lr L) {t:TypeId} {x i v:V} {u ui:Value} (ha:ziH P Lr t x i=some v) (hx:Val c L w N x u) (hi:Val c L w N i ui)
  (hlive:∀ g n off,x=.ptr g n off→Lr.get g n≠.dead) (hbl:∀ g n off len,x=.bref g n off len→∃ ag ds,Lr.get g n=.box ag ds) (harr:∀ g n i off,x=.ept g n i off→∃ sz els l,L.get g n=.arr sz els l∧i < els.length) (hrow:∀ k n i o j off,x=.vept k n i o j off→∃ els,zeE L k n i o=some els∧j < els.length):
  ∃ u',(Instr.indexAt t u ui).run P w=.ok u' w∧Val c L w N v u':=by
 unfold ziH at ha;split at ha
 rotate_left
 ·cases ha
 rename_i k j;have:=hi.int; subst this;split at ha
 ·cases ha
 rename_i hneg
 have h0:0≤j:=by omega
 cases x with
 | d y=>
  cases y with
  | sl tg l=>
   dsimp only at ha
   cases ht:zcw P t with
   | none=>rw [ht] at ha; cases ha
   | some sz=>
   cases hd:l[j.toNat]? with
   | none=>rw [ht,hd] at ha; cases ha
   | some d=>
   rw [ht,hd] at ha;dsimp only at ha;split at ha
   ·rename_i hw;obtain ⟨hw,hcd⟩:=hw;injection ha with ha; subst ha
    have hlt:j.toNat < l.length:=by
     rcases Nat.lt_or_ge j.toNat l.length with h | h
     ·exact h
     ·rw [List.getElem?_eq_none h] at hd; cases hd
    have hr:=hx.dat
    cases hr with
    | slE _ a cap _ _ _=>simp at hd
    | sl _ _ b o sz' cap vs g1 g1' g2 g3 g4 g5 g6 g7 g8=>
     obtain ⟨q1,q2⟩:=g8 j.toNat hlt;have hdr:=g7 _ _ hd
     have hz:sz'=sz:=by
      have:=hdr.cells (by simpa using hcd)
      omega
     subst hz
     exact ⟨_,zgZ ht h0 (by omega),.d _ _ (.at_ _ _ _ _ g4 g6 q2 hdr)⟩
   ·cases ha
  | at_ z=>
   cases z with
   | agg cs=>
    dsimp only at ha
    cases ht:zhV P t with
    | none=>rw [ht] at ha; cases ha
    | some p=>
     obtain ⟨n,sz,ag⟩:=p;rw [ht] at ha;dsimp only at ha;split at ha
     ·rename_i hlt
      cases hp:zhe ag sz (j.toNat*sz) cs with
      | none=>rw [hp] at ha; cases ha
      | some d=>
       rw [hp] at ha;injection ha with ha; subst ha;have hr:=hx.dat
       cases hr with
       | at_ _ v b o g1 g2 g3 g4=>
        cases g4 with
        | agg _ vs q1 q2 q3=>
         obtain ⟨v',r1,r2,r3⟩:=zh3 hp q1 (fun i d u hd hu=>⟨q2 i d u hd hu,q3 i u hu⟩)
         refine ⟨_,zfz ht h0 (by omega),.d _ _ (.at_ _ v' _ _ g1 g2 (fun j' u hu=>?_) r1)⟩
         have:=g3 (j.toNat*sz+j') u (by simpa [Value.cells] using r3 j' u hu)
         rwa [←Nat.add_assoc] at this
     ·cases ha
   | _=>cases ha
  | h k' ii off=>
   dsimp only at ha
   cases ht:zhV P t with
   | none=>rw [ht] at ha; cases ha
   | some p=>
    obtain ⟨n,sz,ag⟩:=p;rw [ht] at ha;dsimp only at ha;split at ha
    ·rename_i hlt;injection ha with ha; subst ha;have hr:=hx.dat
     cases hr with
     | h _ _ _ b hk=>exact ⟨_,zfz ht h0 (by omega),.d _ _ (.h _ _ _ _ hk)⟩
    ·cases ha
  | _=>cases ha
 | ref g l off n=>
  dsimp only at ha
  cases ht:zcw P t with
  | none=>rw [ht] at ha; cases ha
  | some sz=>
  cases hy:Lr.get g l with
  | arr sz' els lv=>
   rw [ht,hy] at ha;dsimp only at ha;split at ha
   ·rename_i hc;obtain ⟨h1,rfl⟩:=hc;injection ha with ha; subst ha
    have hL:=hs g l (by rw [hy]; simp)
    rw [hy] at hL
    cases hx with
    | ref _ _ _ _ _ k1 k2 k3=>
     obtain ⟨p1,a,cap,rfl,p3,p4⟩:=k2 _ _ _ hL;rcases p4 with p4 | ⟨b,y,T,fz,q1,rfl,q3,q4⟩
     ·omega
     ·refine ⟨_,zgZ ht h0 (by omega),.ept _ _ _ _ _ k1 fun sz2 els2 l2 h2 _=>⟨b,q1,?_⟩⟩
      rw [hL] at h2; cases h2;rw [Nat.add_mul,Nat.add_zero]
   ·cases ha
  | _=>rw [ht,hy] at ha; cases ha
 | vref k' l q o off n=>
  dsimp only at ha
  cases ht:zcw P t with
  | none=>rw [ht] at ha; cases ha
  | some sz=>
  cases hy:zeE Lr k' l q o with
  | none=>rw [ht,hy] at ha; cases ha
  | some els=>
   rw [ht,hy] at ha;dsimp only at ha;split at ha
   ·rename_i hc;obtain ⟨h1,h2⟩:=hc;injection ha with ha; subst ha;have hL:=hs.row hy
    cases hx with
    | vref _ _ _ _ _ _ _ k1 k2=>
     obtain ⟨p1,a,cap,rfl,p3,p4⟩:=k2 _ hL;rcases p4 with p4 | ⟨b,y,T,fz,q1,rfl,q3,q4⟩
     ·omega
     ·subst h2
      refine ⟨_,zgZ ht h0 (by omega),.vept _ _ _ _ _ _ _ k1 fun els2 h2' _=>⟨b,q1,?_⟩⟩
      rw [Nat.add_mul,Nat.add_zero]
   ·cases ha
 | bref g l off n=>
  dsimp only at ha
  cases ht:zcw P t with
  | none=>rw [ht] at ha; cases ha
  | some sz=>
   rw [ht] at ha;dsimp only at ha;split at ha
   ·rename_i hc;obtain ⟨rfl,h1⟩:=hc;injection ha with ha; subst ha;obtain ⟨ag,ds,hy⟩:=hbl _ _ _ _ rfl
    have hL:=hs g l (by rw [hy]; simp)
    rw [hy] at hL
    cases hx with
    | bref _ _ _ _ _ k1 k2=>
     obtain ⟨p1,b,cap,p2,p3,rfl⟩:=k2 _ (by rw [hL]; rfl)
     refine ⟨_,zgZ ht h0 (by omega),.ptr _ _ _ _ k1 fun _=>⟨b,p2,?_⟩⟩
     rw [Nat.mul_one]
   ·cases ha
 | ptr g l off=>
  dsimp only at ha
  cases ht:zhV P t with
  | none=>rw [ht] at ha; cases ha
  | some p=>
   obtain ⟨n,sz,ag⟩:=p;rw [ht] at ha;dsimp only at ha;split at ha
   ·rename_i hlt;injection ha with ha; subst ha;have hd:=hlive _ _ _ rfl;have hL:=hs g l hd
    cases hx with
    | ptr _ _ _ _ k1 k2=>
     obtain ⟨b,e,rfl⟩:=k2 (by rw [hL]; exact hd)
     exact ⟨_,zfz ht h0 (by omega),.ptr _ _ _ _ k1 fun _=>⟨b,e,rfl⟩⟩
   ·cases ha
 | ept g l q off=>
  dsimp only at ha
  cases ht:zhV P t with
  | none=>rw [ht] at ha; cases ha
  | some p=>
   obtain ⟨n,sz,ag⟩:=p;rw [ht] at ha;dsimp only at ha;split at ha
   ·rename_i hlt;injection ha with ha; subst ha
    cases hx with
    | ept _ _ _ _ _ k1 k2=>
     obtain ⟨sz',els,l',h1,h2⟩:=harr _ _ _ _ rfl;obtain ⟨b,e,rfl⟩:=k2 _ _ _ h1 h2
     refine ⟨_,zfz ht h0 (by omega),.ept _ _ _ _ _ k1 fun sz2 els2 l2 h1' _=>⟨b,e,?_⟩⟩
     rw [h1] at h1'; cases h1'; rw [Nat.add_assoc]
   ·cases ha
 | vept k' l q o j' off=>
  dsimp only at ha
  cases ht:zhV P t with
  | none=>rw [ht] at ha; cases ha
  | some p=>
   obtain ⟨n,sz,ag⟩:=p;rw [ht] at ha;dsimp only at ha;split at ha
   ·rename_i hlt;injection ha with ha; subst ha
    cases hx with
    | vept _ _ _ _ _ _ _ k1 k2=>
     obtain ⟨els,h1,h2⟩:=hrow _ _ _ _ _ _ rfl;obtain ⟨b,e,rfl⟩:=k2 _ h1 h2
     refine ⟨_,zfz ht h0 (by omega),.vept _ _ _ _ _ _ _ k1 fun els2 h1' _=>⟨b,e,?_⟩⟩
     rw [Nat.add_assoc]
   ·cases ha
 | _=>cases ha
theorem ziM {v:V} (hs:Sees Lr L) (h:zmU Lr v=true):(∀ g n off,v=.ptr g n off→Lr.get g n≠.dead∧L.get g n≠.dead)∧
  (∀ g n i off,v=.ept g n i off→∃ sz els l,L.get g n=.arr sz els l∧i < els.length)∧(∀ g n off len,v=.bref g n off len→∃ ag ds,Lr.get g n=.box ag ds)∧(∀ k n i o j off,v=.vept k n i o j off→∃ els,zeE L k n i o=some els∧j < els.length):=by
 refine ⟨?_,?_,?_,?_⟩
 ·rintro g n off rfl
  have h1:Lr.get g n≠.dead:=by intro e; simp [zmU,e] at h
  exact ⟨h1,by rw [hs g n h1]; exact h1⟩
 ·rintro g n i off rfl
  simp only [zmU] at h;cases hx:Lr.get g n<;>rw [hx] at h<;>simp at h
  exact ⟨_,_,_,by rw [hs g n (by rw [hx]; simp),hx],h⟩
 ·rintro g n off len rfl
  simp only [zmU] at h;cases hx:Lr.get g n<;>rw [hx] at h<;>simp at h;exact ⟨_,_,rfl⟩
 ·rintro k n i o j off rfl
  simp only [zmU] at h
  cases hx:zeE Lr k n i o with
  | none=>rw [hx] at h; simp at h
  | some els=>rw [hx] at h; exact ⟨els,hs.row hx,by simpa using h⟩
theorem zta {P:Program} {k:IntKind} {i:Int} {y:Nat} {code:BoundsCode} (h0:0≤i) (h1:i≤y):(Instr.sliceBound (.int k i) y code).run P w=.ok i.toNat w:=by
 simp [Instr.sliceBound,asIntOf,h0,h1]
def zh5 (c:Ctx) (L:Loc) (w:World) (N:Nat):Option V→Option Value→Prop
 | none,none=>True
 | some v,some u=>Val c L w N v u
 | _,_=>False
theorem znW {x:Option V} {u:Option Value} {y:Option Int} (h:optD x=some y) (hv:zh5 c L w N x u):(y=none∧u=none)∨∃ k n,y=some n∧u=some (.int k n):=by
 cases x with
 | none=>cases u<;>simp_all [optD,zh5]
 | some v=>
  cases u with
  | none=>simp [zh5] at hv
  | some u=>
   cases v with
   | d z=>
    cases z<;>simp [optD] at h;rename_i k n;subst h
    exact .inr ⟨k,n,rfl,by rw [Val.int hv]⟩
   | _=>simp [optD] at h
theorem zeH {P:Program} {isSlice:Bool} {len cap:Nat} {lo hi mx:Option V} {lu hu mu:Option Value} {lo' hi' mx':Option Int}
  (h1:optD lo=some lo') (h2:optD hi=some hi') (h3:optD mx=some mx') (v1:zh5 c L w N lo lu) (v2:zh5 c L w N hi hu) (v3:zh5 c L w N mx mu)
  (hlc:len≤cap) (ha:0≤lo'.getD 0) (hb:lo'.getD 0≤hi'.getD len) (hc:hi'.getD len≤len) (hm:mx'.getD (hi'.getD len)=hi'.getD len) (hmh:mx'≠none→hi'≠none):
  (Instr.sliceBounds isSlice len cap lu hu mu).run P w=.ok ((lo'.getD 0).toNat,(hi'.getD len).toNat,if mx'.isSome then (hi'.getD len).toNat else cap) w:=by
 unfold Instr.sliceBounds
 have sb:∀ {k:IntKind} {i:Int} {y:Nat} {code:BoundsCode},0≤i→i≤y→(Instr.sliceBound (.int k i) y code).run P w=.ok i.toNat w:=fun h0 h1=>zta h0 h1
 have nn:¬ ((none:Option Int)≠none):=by simp
 rcases znW h1 v1 with ⟨rfl,rfl⟩ | ⟨k1,n1,rfl,rfl⟩<;>rcases znW h2 v2 with ⟨rfl,rfl⟩ | ⟨k2,n2,rfl,rfl⟩<;>rcases znW h3 v3 with ⟨rfl,rfl⟩ | ⟨k3,n3,rfl,rfl⟩
 ·simp
 ·exact absurd rfl (hmh (by simp))
 ·simp only [Option.getD_some,Option.getD_none] at*
  simp [sb (k:=k2) (i:=n2) (y:=cap) (by omega) (by omega)]
 ·simp only [Option.getD_some,Option.getD_none] at*;subst hm
  simp [sb (k:=k3) (i:=n3) (y:=cap) (by omega) (by omega),sb (k:=k2) (i:=n3) (y:=n3.toNat) (by omega) (by omega)]
 ·simp only [Option.getD_some,Option.getD_none] at*
  simp [sb (k:=k1) (i:=n1) (y:=len) (by omega) (by omega)]
 ·exact absurd rfl (hmh (by simp))
 ·simp only [Option.getD_some,Option.getD_none] at*
  simp [sb (k:=k2) (i:=n2) (y:=cap) (by omega) (by omega),sb (k:=k1) (i:=n1) (y:=n2.toNat) (by omega) (by omega)]
 ·simp only [Option.getD_some,Option.getD_none] at*;subst hm
  simp [sb (k:=k3) (i:=n3) (y:=cap) (by omega) (by omega),sb (k:=k2) (i:=n3) (y:=n3.toNat) (by omega) (by omega),sb (k:=k1) (i:=n1) (y:=n3.toNat) (by omega) (by omega)]
end
end Wf

namespace Wf
open Go Go.RowKit
section
variable {c:Ctx} {N:Nat} {w0:World} {O0:Nat→Prop} {L Lr:Loc} {w:World}
theorem zd0 {P:Program} {t sz len cap l h m:Nat} {a:Option Addr} {lu hu mu:Option Value} (ht:zcw P t=some sz)
  (hb:(Instr.sliceBounds true len cap lu hu mu).run P w=.ok (l,h,m) w):
  (Instr.sliceAt t (.slice a len cap) lu hu mu).run P w=.ok (.slice (if m=l then a else a.map (·.add (l*sz))) (h - l) (m - l)) w:=by
 obtain ⟨e,h1,h2⟩:=zmY ht;simp [Instr.sliceAt,Instr.slice,zbt h1,hb,zdI h2]
theorem zg0 {α:Type} {l:List α} {a n i:Nat} {d:α} (h:((l.drop a).take n)[i]? =some d):l[a+i]? =some d:=by
 rw [List.getElem?_take] at h;split at h
 ·rwa [List.getElem?_drop] at h
 ·cases h
theorem zCb {P:Program} (hm:Mem c N w0 O0 L w) (hs:Sees Lr L) {t:TypeId} {x v:V} {lo hi mx:Option V} {u:Value} {lu hu mu:Option Value} (ha:zwU P Lr t x lo hi mx=some v) (hx:Val c L w N x u)
  (v1:zh5 c L w N lo lu) (v2:zh5 c L w N hi hu) (v3:zh5 c L w N mx mu):
  ∃ u',(Instr.sliceAt t u lu hu mu).run P w=.ok u' w∧Val c L w N v u':=by
 unfold zwU at ha
 cases h1:optD lo with
 | none=>rw [h1] at ha; cases ha
 | some lo'=>
 cases h2:optD hi with
 | none=>rw [h1,h2] at ha; cases ha
 | some hi'=>
 cases h3:optD mx with
 | none=>rw [h1,h2,h3] at ha; cases ha
 | some mx'=>
 rw [h1,h2,h3] at ha;dsimp only at ha
 cases x with
 | d y=>
  cases y with
  | sl tg l=>
   dsimp only at ha;split at ha
   ·rename_i hc;obtain ⟨c1,c2,c3,c4,c5,c6,c7,c8⟩:=hc;injection ha with ha; subst ha;obtain ⟨sz,hsz⟩:=Option.isSome_iff_exists.1 c1
    have hmh:mx'≠none→hi'≠none:=by
     intro e e2; subst e2; cases mx' with
     | none=>exact e rfl
     | some _=>simp at c6
    have hr:=hx.dat
    have hl':(((l.drop (lo'.getD 0).toNat).take (hi'.getD ↑l.length - lo'.getD 0).toNat)).length=(hi'.getD ↑l.length).toNat - (lo'.getD 0).toNat:=by
     simp; omega
    cases hr with
    | slE _ a cap hfull hnil _=>
     have hb:=zeH (P:=P) (w:=w) (isSlice:=true) (len:=0) (cap:=cap) h1 h2 h3 v1 v2 v3 (Nat.zero_le _) c2 (by simpa using c3) (by simpa using c4) (by simpa using c5) hmh
     refine ⟨_,zd0 hsz hb,.d _ _ ?_⟩
     have e1:lo'.getD 0=0:=by simp at c3 c4; omega
     have e2:hi'.getD ((List.length ([]:List D):Nat):Int)=0:=by simp at c3 c4 ⊢; omega
     have e2':hi'.getD ((0:Nat):Int)=0:=e2;simp only [List.drop_nil,List.take_nil,e1,e2',Int.toNat_zero,Nat.sub_zero]
     refine .slE _ _ _ (fun hf=>?_) (fun hf=>absurd hf zkF) ⟨fun hf=>absurd hf zrk,fun hf=>absurd hf zp8⟩
     rcases zjr hf with h | ⟨h,_⟩
     ·simp [h]
     ·rw [hfull h]; simp
    | sl _ _ b o sz' cap vs g1 g1' g2 g3 g4 g5 g6 g7 g8=>
     have hb:=zeH (P:=P) (w:=w) (isSlice:=true) (len:=l.length) (cap:=cap) h1 h2 h3 v1 v2 v3 g2 c2 c3 c4 c5 hmh;refine ⟨_,zd0 hsz hb,.d _ _ ?_⟩
     have hzz:sz'=sz:=by
      cases l with
      | nil=>exact absurd rfl g1
      | cons d r=>
       have q1:=g7 0 d (by simp)
       have q2:=(g8 0 (by simp)).1
       simp only [List.all_cons,Bool.and_eq_true] at c7 c8
       have q3:=(q1.cells (by simpa using c7.1)).1
       have q4:some d.width=zcw P t:=by simpa using c8.1
       rw [hsz] at q4; simp at q4; omega
     subst hzz;generalize hlo:lo'.getD 0=A at*;generalize hhi:hi'.getD (l.length:Int)=H at*
     by_cases he:A=H
     ·
      subst he
      have:(l.drop A.toNat).take (A - A).toNat=[]:=by simp
      rw [this];simp only [Nat.sub_self]
      refine .slE _ _ _ (fun hf=>?_) (fun hf=>absurd hf zkF) ⟨fun hf=>absurd hf zrk,fun hf=>absurd hf zp8⟩
      rcases zjr hf with h | ⟨h,h'⟩
      ·simp [h]
      ·have:=of_decide_eq_true h'; rw [g3 h]; split<;>omega
     ·have hAH:A < H:=by omega
      have hm':¬ (if mx'.isSome then H.toNat else cap)=A.toNat:=by split<;>omega
      rw [if_neg hm'];simp only [Option.map_some,Addr.add_lit];rw [←hl']
      refine .sl _ _ b (o+A.toNat*sz') sz' _ (fun i=>vs (A.toNat+i)) (by intro e; rw [e] at hl'; simp at hl'; omega) zkF (by rw [hl']; split<;>omega) ?_ g4 ?_ g6 ?_ ?_
      ·intro hf;rw [hl'];rcases zjr hf with h | ⟨h,h'⟩
       ·simp [h]
       ·have:=of_decide_eq_true h'; rw [g3 h]; split<;>omega
      ·intro hf;exact g5 (zu3 hf)
      ·intro i d hd; exact g7 _ d (zg0 hd)
      ·intro i hi;rw [hl'] at hi
       obtain ⟨p1,p2⟩:=g8 (A.toNat+i) (by omega)
       refine ⟨p1,fun q y hy=>?_⟩
       have:=p2 q y hy;rw [Nat.add_mul] at this
       rw [show o+A.toNat*sz'+i*sz'+q=o+(A.toNat*sz'+i*sz')+q by omega]; exact this
   ·cases ha
  | str s=>
   dsimp only at ha;split at ha
   ·rename_i hc;obtain ⟨c1,rfl,c2,c3,c4⟩:=hc;injection ha with ha; subst ha;have hr:=hx.dat;cases hr
    have hu:P.underlying t=some .string:=by
     unfold zmS at c1; split at c1<;>simp_all
    rcases znW h3 v3 with ⟨_,rfl⟩ | ⟨_,_,e,_⟩
    ·have hb:=zeH (P:=P) (w:=w) (isSlice:=false) (len:=s.size) (cap:=s.size) h1 h2 h3 v1 v2 v3 (Nat.le_refl _) c2 c3 c4 (by simp) (by simp)
     refine ⟨.string (s.extract (lo'.getD 0).toNat (hi'.getD ↑s.size).toNat),?_,.d _ _ (.str _)⟩;simp [Instr.sliceAt,Instr.slice,zbt hu,hb]
    ·cases e
   ·cases ha
  | _=>cases ha
 | ref g n off len=>
  dsimp only at ha
  cases ht:zcw P t with
  | none=>rw [ht] at ha; cases ha
  | some sz=>
  cases hy:Lr.get g n with
  | arr sz' els lv=>
   rw [ht,hy] at ha;dsimp only at ha;split at ha
   ·rename_i hc;obtain ⟨rfl,c2,c3,c4,c5⟩:=hc;injection ha with ha; subst ha
    have hL:=hs g n (by rw [hy]; simp)
    rw [hy] at hL
    cases hx with
    | ref _ _ _ _ _ k1 k2 k3=>
     obtain ⟨p1,a,cap,rfl,p3,p4⟩:=k2 _ _ _ hL;rcases c5 with rfl | ⟨e1,rfl,e3⟩
     ·have hb:=zeH (P:=P) (w:=w) (isSlice:=true) (len:=len) (cap:=cap) h1 h2 h3 v1 v2 v3 p3 c2 c3 c4 (by simp) (by simp)
      rw [if_pos rfl]
      refine ⟨_,zd0 ht hb,.ref _ _ _ _ _ k1 (fun sz2 els2 l2 h2'=>?_) (fun sz2 els2 h2'=>by rw [hL] at h2'; cases h2')⟩
      rw [hL] at h2'; cases h2';generalize hlo:lo'.getD 0=A at*;generalize hhi:hi'.getD (len:Int)=H at*
      refine ⟨by omega,_,cap - A.toNat,by rw [show (H - A).toNat=H.toNat - A.toNat by omega]; rfl,by omega,?_⟩
      rcases p4 with p4 | ⟨b,y,T,fz,q1,rfl,q3,q4⟩
      ·exact .inl (by omega)
      ·by_cases hcap:cap=A.toNat
       ·exact .inl (by omega)
       ·refine .inr ⟨b,y,T,fz,q1,?_,q3,?_⟩
        ·simp [hcap,Addr.add_lit];rw [Nat.add_mul]
        ·rw [show off+A.toNat+(cap - A.toNat)=off+cap by omega]; exact q4
     ·have hb:=zeH (P:=P) (w:=w) (isSlice:=true) (len:=len) (cap:=cap) h1 h2 h3 v1 v2 v3 p3 c2 c3 c4 (by simp) (by intro _ e; rw [e] at e1; cases e1)
      refine ⟨_,zd0 ht hb,?_⟩
      rw [if_neg (by simp)]
      simp only [Option.isSome_some,if_true,e3,Nat.sub_self]
      exact .d _ _ (.slE _ _ _ (fun _=>rfl) (fun h=>by cases h) (by simp))
   ·cases ha
  | _=>rw [ht,hy] at ha; cases ha
 | bref g n off len=>
  dsimp only at ha
  cases ht:zcw P t with
  | none=>rw [ht] at ha; cases ha
  | some sz=>
  cases hy:Lr.get g n with
  | box ag ds=>
   rw [ht,hy] at ha;dsimp only at ha;split at ha
   ·rename_i hc;obtain ⟨rfl,c1,c2,c3,c4,e1,rfl,e3⟩:=hc;injection ha with ha; subst ha
    have hL:=hs g n (by rw [hy]; simp)
    rw [hy] at hL
    cases hx with
    | bref _ _ _ _ _ k1 k2=>
     obtain ⟨p1,b,cap,p2,p3,rfl⟩:=k2 _ (by rw [hL]; rfl)
     have hb:=zeH (P:=P) (w:=w) (isSlice:=true) (len:=len) (cap:=cap) h1 h2 h3 v1 v2 v3 p3 c2 c3 c4 (by simp) (by intro _ e; rw [e] at e1; cases e1)
     refine ⟨_,zd0 ht hb,?_⟩;simp only [Option.isSome_some,if_true,e3,Nat.sub_self]
     exact .d _ _ (.slE _ _ _ (fun _=>rfl) (fun h=>by cases h) (by simp))
   ·cases ha
  | _=>rw [ht,hy] at ha; cases ha
 | vref k n i o off len=>
  dsimp only at ha
  cases ht:zcw P t with
  | none=>rw [ht] at ha; cases ha
  | some sz=>
  cases hy:zeE Lr k n i o with
  | none=>rw [ht,hy] at ha; cases ha
  | some l=>
   rw [ht,hy] at ha;dsimp only at ha;split at ha
   ·rename_i hc;obtain ⟨rfl,c1,c2,c3,c4,c5⟩:=hc;injection ha with ha; subst ha;have hL:=hs.row hy
    cases hx with
    | vref _ _ _ _ _ _ _ k1 k2=>
     obtain ⟨p1,a,cap,rfl,p3,p4⟩:=k2 _ hL;rcases c5 with rfl | ⟨e1,rfl,e3⟩
     ·have hb:=zeH (P:=P) (w:=w) (isSlice:=true) (len:=len) (cap:=cap) h1 h2 h3 v1 v2 v3 p3 c2 c3 c4 (by simp) (by simp)
      rw [if_pos rfl]
      refine ⟨_,zd0 ht hb,.vref _ _ _ _ _ _ _ k1 fun l2 h2'=>?_⟩
      rw [hL] at h2'; cases h2';generalize hlo:lo'.getD 0=A at*;generalize hhi:hi'.getD (len:Int)=H at*
      refine ⟨by omega,_,cap - A.toNat,by rw [show (H - A).toNat=H.toNat - A.toNat by omega]; rfl,by omega,?_⟩
      rcases p4 with p4 | ⟨b,y,T,fz,q1,rfl,q3,q4⟩
      ·exact .inl (by omega)
      ·by_cases hcap:cap=A.toNat
       ·exact .inl (by omega)
       ·refine .inr ⟨b,y,T,fz,q1,?_,q3,?_⟩
        ·simp [hcap,Addr.add_lit];rw [Nat.add_mul]
        ·rw [show off+A.toNat+(cap - A.toNat)=off+cap by omega]; exact q4
     ·have hb:=zeH (P:=P) (w:=w) (isSlice:=true) (len:=len) (cap:=cap) h1 h2 h3 v1 v2 v3 p3 c2 c3 c4 (by simp) (by intro _ e; rw [e] at e1; cases e1)
      refine ⟨_,zd0 ht hb,?_⟩
      rw [if_neg (by simp)]
      simp only [Option.isSome_some,if_true,e3,Nat.sub_self]
      exact .d _ _ (.slE _ _ _ (fun _=>rfl) (fun h=>by cases h) (by simp))
   ·cases ha
 | ptr g n off=>
  dsimp only at ha;split at ha
  ·rename_i k sz ag ad ds ht hy;split at ha
   ·rename_i hc;obtain ⟨c0,rfl,rfl,c2,c3,c4,c5⟩:=hc;injection ha with ha; subst ha
    have hL:=hs g n (by rw [hy]; simp)
    rw [hy] at hL;obtain ⟨e,hu,he,_⟩:=zCa ht
    cases hx with
    | ptr _ _ _ _ k1 k2=>
     obtain ⟨b,q1,rfl⟩:=k2 (by rw [hL]; simp)
     rcases znW h3 v3 with ⟨_,rfl⟩ | ⟨_,_,e,_⟩
     ·have hb:=zeH (P:=P) (w:=w) (isSlice:=false) (len:=k) (cap:=k) h1 h2 h3 v1 v2 v3 (Nat.le_refl _) c2 c3 c4 (by simp) (by simp)
      generalize hlo:lo'.getD 0=A at*;generalize hhi:hi'.getD (k:Int)=H at*;simp only [Option.isSome_none,Bool.false_eq_true,if_false] at hb
      refine ⟨.slice (some (if k=A.toNat then ⟨b,off,none⟩ else ⟨b,off+A.toNat,none⟩)) (H.toNat - A.toNat) (k - A.toNat),?_,.bref _ _ _ _ _ k1 fun k' hk=>?_⟩
      ·simp [Instr.sliceAt,zbt hu,Instr.sureAddr,hb,zdI he,Addr.add_lit]
      ·rw [hL] at hk; simp [HObj.boxLen] at hk; subst hk
       refine ⟨by omega,b,k - A.toNat,q1,by omega,?_⟩
       rw [show (H - A).toNat=H.toNat - A.toNat by omega]
       congr 2;split
       ·rename_i e
        have:A.toNat=0:=by omega
        rw [this,Nat.add_zero]
       ·rfl
     ·cases e
   ·cases ha
  all_goals cases ha
 | _=>cases ha
end
end Wf

