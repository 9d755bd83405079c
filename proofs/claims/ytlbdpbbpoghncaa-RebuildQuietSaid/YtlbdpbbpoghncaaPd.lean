/- A part of the proof: lemmas that the law's row leans on. -/
import Derived.ProofKit
import Derived.WalkKit
import Derived.OpenShut
import Derived.Carry
import Derived.Deep.Grids
import Derived.Test.YtlbdpbbpoghncaaProg
import Derived.Test.YtlbdpbbpoghncaaPc
set_option linter.all false
namespace Wf
open Go Go.RowKit
section
variable {R:Type}
def zDZ (P:Program) (s:St) (x:ResultVar) (k:V→Option R):Option R:=match x with
 | .tmp t=>k (s.slots.getD t (.d .undef))
 | .cell a t=>zCL P s.L t (s.slots.getD a (.d .undef)) k
def zBd (P:Program) (s:St):List ResultVar→(List V→Option R)→Option R
 | [],k=>k []
 | x::r,k=>zDZ P s x fun v=>zBd P s r fun vs=>k (v::vs)
def zBe (L:Loc):List Nat→List V→(List V→Loc→Option R)→Option R
 | [],[],k=>k [] L
 | sz::szs,v::vs,k=>if zGd sz v=true then zBe L szs vs fun xs L'=>k (v::xs) L' else toDK L v fun d w=>updK L w fun L1=>zBe L1 szs vs fun xs L'=>k (.d d::xs) L'
 | _,_,_=>none
def zEU (L:Loc) (sz:Nat) (v:V) (k:Option Nat×D→Option R):Option R:=match v with
 | .d x=>if 0 < sz then (match x with
  | .sl .full []=>k (none,.sl .own [])
  | .sl .nil []=>k (none,.sl .own [])
  | x=>sif (x.free=true) (k (none,x))) else sif (x.free=true) (k (none,x))
 | .p _ x=>sif (x.free=true) (k (none,x))
 | .ref g n off len=>match off,L.get g n with
  | 0,.arr sz' els true=>if sz'=sz∧(g < 90000∨n=0) then sif (len=els.length) (sif (els.all D.free=true) (k (some g,.sl .own els))) else none
  | _,_=>none
 | .map g n=>match L.get g n with
  | .map kk es=>if g < 90000 then sif (D.freeE es=true) (k (none,.mp .own kk es)) else none
  | _=>none
 | _=>none
def zBf (L:Loc):List Nat→List V→(List (Option Nat×D)→Option R)→Option R
 | [],[],k=>k []
 | sz::szs,v::vs,k=>zEU L sz v fun x=>zBf L szs vs fun xs=>k (x::xs)
 | _,_,_=>none
def zEV (P:Program) (ro:Nat→Bool) (res:List ResultVar) (szs:List Nat) (s:St) (k:D→Loc→Option R):Option R:=
 zBd P s res fun vs=>zBe s.L szs vs fun vs L=>zBf L szs vs fun rs=>if zhL (rs.map (·.1))=true∧(rs.all fun x=>match x.1 with | some g=>ro g | none=>true)=true then (match rs with
   | [(_,d)]=>k d L
   | rs=>k (.tup (rs.map (·.2))) L) else none
def zoX (L:Loc):List (PM×Nat)→Nat→(List (List D)→Option R)→Option R
 | [],_,k=>k []
 | (p,sz)::r,i,k=>if p=.mut then (match L.get (90000+i) 0 with
   | .arr sz' els true=>if sz'=sz then sif (zdj els=true) (zoX L r (i+1) fun x=>k (els::x)) else none
   | _=>none) else zoX L r (i+1) k
theorem zxl {P:Program} {s:St} {x:ResultVar} {k:V→Option R} {r:R} (h:zDZ P s x k=some r):∃ v,zzv P s x=some v∧k v=some r:=by
 cases x with
 | tmp t=>exact ⟨_,rfl,h⟩
 | cell a t=>exact zte h
theorem zrn {P:Program} {s:St} {r:R}:∀ {l:List ResultVar} {k:List V→Option R},zBd P s l k=some r→∃ vs,l.mapM (zzv P s)=some vs∧k vs=some r
 | [],k,h=>⟨[],rfl,h⟩
 | x::l,k,h=>by
  obtain ⟨v,h1,h2⟩:=zxl h
  obtain ⟨vs,h3,h4⟩:=zrn (k:=fun vs=>k (v::vs)) h2
  exact ⟨v::vs,by simp [List.mapM_cons,h1,h3],h4⟩
theorem zoY {r:R}:∀ {szs:List Nat} {vs:List V} {L:Loc} {k:List V→Loc→Option R},zBe L szs vs k=some r→∃ x,prep L szs vs=some x∧k x.1 x.2=some r
 | [],[],L,k,h=>⟨([],L),rfl,h⟩
 | [],_::_,_,k,h=>by cases h
 | _::_,[],_,k,h=>by cases h
 | sz::szs,v::vs,L,k,h=>by
  simp only [zBe] at h;simp only [prep];split at h
  ·rename_i hk;obtain ⟨x,h1,h2⟩:=zoY h;rw [if_pos hk,h1];exact ⟨_,rfl,h2⟩
  ·rename_i hk;obtain ⟨d,w,h1,h2⟩:=znZ h;rw [zup] at h2;obtain ⟨x,h3,h4⟩:=zoY h2;rw [if_neg hk,h1];dsimp only [Option.bind_some];rw [h3];exact ⟨_,rfl,h4⟩
theorem zzH {L:Loc} {sz:Nat} {v:V} {k:Option Nat×D→Option R} {r:R} (h:zEU L sz v k=some r):∃ x,znU L sz v=some x∧k x=some r:=by
 unfold zEU at h;split at h
 ·rename_i x;split at h
  ·rename_i hsz;split at h
   ·exact ⟨_,by simp only [znU,if_pos hsz],h⟩
   ·exact ⟨_,by simp only [znU,if_pos hsz],h⟩
   ·rename_i hf hn;obtain ⟨h1,h2⟩:=zaM h;refine ⟨(none,x),?_,h2⟩
    have:znU L sz (.d x)=if x.free=true then some ((none:Option Nat),x) else none:=by
     cases x with
     | sl t l=>cases l<;>cases t<;>first | rfl | exact (hf rfl).elim | exact (hn rfl).elim
     | _=>rfl
    rw [this,if_pos h1]
  ·rename_i hsz;obtain ⟨h1,h2⟩:=zaM h;refine ⟨(none,x),?_,h2⟩
   cases x with
   | sl t l=>cases l<;>cases t<;>simp_all [znU,D.free,D.freeL]
   | _=>simp only [znU,if_pos h1]
 ·obtain ⟨h1,h2⟩:=zaM h
  exact ⟨_,by simp only [znU,h1,if_true],h2⟩
 ·rename_i g n off len;split at h
  ·rename_i sz' els e;split at h
   ·rename_i hc;obtain ⟨h1,h2⟩:=zcz h;refine ⟨_,?_,h2⟩;simp only [znU,e];exact if_pos ⟨h1.1,hc.1,h1.2,hc.2⟩
   ·cases h
  ·cases h
 ·split at h
  ·rename_i kk es e;split at h
   ·rename_i hg;obtain ⟨h1,h2⟩:=zaM h;refine ⟨_,?_,h2⟩;simp only [znU,e];exact if_pos ⟨hg,h1⟩
   ·cases h
  ·cases h
 ·cases h
theorem zro {L:Loc} {r:R}:∀ {szs:List Nat} {vs:List V} {k:List (Option Nat×D)→Option R},zBf L szs vs k=some r→∃ rs,zvW L szs vs=some rs∧k rs=some r
 | [],[],k,h=>⟨[],rfl,h⟩
 | [],_::_,k,h=>by cases h
 | _::_,[],k,h=>by cases h
 | sz::szs,v::vs,k,h=>by
  obtain ⟨x,h1,h2⟩:=zzH h
  obtain ⟨xs,h3,h4⟩:=zro (k:=fun xs=>k (x::xs)) h2
  exact ⟨x::xs,by simp [zvW,h1,h3],h4⟩
theorem zzI {P:Program} {ro:Nat→Bool} {res:List ResultVar} {szs:List Nat} {s:St} {k:D→Loc→Option R} {r:R} (h:zEV P ro res szs s k=some r):∃ d L,ares P ro res szs s=some (d,L)∧k d L=some r:=by
 obtain ⟨vs,h1,h2⟩:=zrn h;obtain ⟨⟨vs',L⟩,h3,h4⟩:=zoY h2;obtain ⟨rs,h5,h6⟩:=zro h4;split at h6
 ·rename_i hd;unfold ares;rw [h1];dsimp only [Option.bind_some];rw [h3];dsimp only [Option.bind_some] at h5 ⊢;rw [h5];dsimp only [Option.bind_some];split at h6
  ·exact ⟨_,_,if_pos hd,h6⟩
  ·rename_i hno;refine ⟨_,_,(if_pos hd).trans ?_,h6⟩;split
   ·exact (hno _ _ rfl).elim
   ·rfl
 ·cases h6
theorem zkN {L:Loc} {r:R}:∀ {pms:List (PM×Nat)} {i:Nat} {k:List (List D)→Option R},zoX L pms i k=some r→∃ x,zpN L pms i=some x∧k x=some r
 | [],i,k,h=>⟨[],rfl,h⟩
 | (p,sz)::pms,i,k,h=>by
  simp only [zoX] at h;simp only [zpN];split at h
  ·rename_i hp;rw [if_pos hp];split at h
   ·rename_i sz' els e;rw [e];dsimp only;split at h
    ·rename_i hs;obtain ⟨h1,h2⟩:=zaM h;obtain ⟨x,h3,h4⟩:=zkN h2
     exact ⟨_,by rw [if_pos ⟨hs,h1⟩,h3]; rfl,h4⟩
    ·cases h
   ·cases h
  ·rename_i hp;rw [if_neg hp];exact zkN h
def D.lnt:D→D
 | .sl _ l=>.sl .lent (D.lentL l)
 | d=>d.lent
def zrp (h:Option Sh) (d:D):D:=match h with
 | some _=>d.lent
 | none=>d.lnt
def zn1 (pms:List (PM×Nat)) (hs:zuj):Nat→List D→List D
 | _,[]=>[]
 | i,d::r=>(if (pmAt pms i).1=.lent then zrp (hs.at i) d else d)::zn1 pms hs (i+1) r
def zGh (pms:List (PM×Nat)) (i:Nat) (d:D):V:=if (pmAt pms i).1=.lent then .d d else match d with
 | .sl .own els=>.ref (90000+i) 0 0 els.length
 | _=>.d .undef
def zv9 (pms:List (PM×Nat)):Nat→List D→List V
 | _,[]=>[]
 | i,d::r=>zGh pms i d::zv9 pms (i+1) r
def zEW (pms:List (PM×Nat)) (g:Nat):Bool:=decide (g < 90000) || decide ((pmAt pms (g - 90000)).1=.own)
noncomputable def denB (P:Program) (Γ:Env) (ann:Ann) (szs:List Nat) (fn:Func) (code:Code) (ds:List D) (Ts:List Tb) (fin:D→List (List D)→List Tb→Option R):Option R:=
 zzx P ann.pms ann.hints 0 fn.params.toList ds fun ds=>zCJ ann.ks.length Ts fun Ts=>if ds.length≤1000∧(ann.ks.map (·.1)).Nodup then
  zhM (zv9 ann.pms 0 ds++List.replicate (fn.ntmps - ds.length) (.d .undef)) fun slots=>den P Γ ann slots.length 0 code (fun e s=>match e with
   | .exit _=>none
   | _=>zEV P (zEW ann.pms) fn.results.toList szs s fun d L=>match zjT L (ann.ks.filter (·.2)) with
    | some tbs=>zoX L ann.pms 0 fun outs=>fin d outs tbs
    | none=>none) { slots,L:=zji ann.pms ds ann.ks Ts } else none
noncomputable def denF (P:Program) (Γ:Env) (ann:Ann) (szs:List Nat) (f:FuncId) (ds:List D) (Ts:List Tb) (fin:D→List (List D)→List Tb→Option R):Option R:=
 match P.funcs[f]? with
 | some fn=>match fn.body with
  | some code=>denB P Γ ann szs fn code ds Ts fin
  | none=>none
 | none=>none
noncomputable def denS (P:Program) (Γ:Env) (ann:Ann) (szs:List Nat) (f:FuncId) (ds:List D) (Ts:List Tb):Option Ans:=denF P Γ ann szs f (zn1 ann.pms ann.hints 0 ds) Ts fun d outs tbs=>some ⟨d,outs,tbs⟩
noncomputable def denP (P:Program) (Γ:Env) (ann:Ann) (szs:List Nat) (f:FuncId) (ds:List D):Option D:=match ann.pms,ann.ks with
 | [],[]=>denF P Γ ann szs f (zn1 ann.pms ann.hints 0 ds) [] fun d _ _=>some d
 | _,_=>none
end
mutual
theorem lent_idem:∀ d:D,d.lent.lent=d.lent
 | .agg cs=>by simp only [D.lent,lentL_idem cs]
 | .sl .nil l=>by simp only [D.lent,lentL_idem l]
 | .sl .lent l=>by simp only [D.lent,lentL_idem l]
 | .sl .fresh l=>by simp only [D.lent,lentL_idem l]
 | .sl .full l=>by simp only [D.lent,lentL_idem l]
 | .sl .own l=>by simp only [D.lent,lentL_idem l]
 | .sl .nn []=>rfl
 | .sl .nul []=>rfl
 | .sl .nn (d::l)=>by simp only [D.lent,lentL_idem (d::l)]
 | .sl .nul (d::l)=>by simp only [D.lent,lentL_idem (d::l)]
 | .mp t k es=>by simp only [D.lent,lentE_idem es]
 | .fn f a b=>by simp only [D.lent,lentL_idem a,lentL_idem b]
 | .at_ d=>by simp only [D.lent,lent_idem d]
 | .tup l=>by simp only [D.lent,lentL_idem l]
 | .undef | .bool _ | .int _ _ | .str _ | .nilm | .nilp | .nilfn | .h _ _ _=>rfl
theorem lentL_idem:∀ l:List D,D.lentL (D.lentL l)=D.lentL l
 | []=>rfl
 | d::l=>by simp only [D.lentL,lent_idem d,lentL_idem l]
theorem lentE_idem:∀ l:List (Int×D),D.lentE (D.lentE l)=D.lentE l
 | []=>rfl
 | p::l=>by simp only [D.lentE,lentP_idem p,lentE_idem l]
theorem lentP_idem:∀ p:Int×D,D.lentP (D.lentP p)=D.lentP p
 | (n,d)=>by simp only [D.lentP,lent_idem d]
end
theorem zCS (d:D):d.lnt.lent=d.lnt:=by
 cases d with
 | sl t l=>simp only [D.lnt,D.lent,lentL_idem]
 | _=>exact lent_idem _
theorem zxm (h:Option Sh) (d:D):(zrp h d).lent=zrp h d:=by
 cases h with
 | none=>exact zCS d
 | some _=>exact lent_idem d
theorem zzJ {w A N γ} (h:Option Sh) {d:D} {u:Value} (hr:Rep w A N γ d.lent u):Rep w A N γ (zrp h d) u:=by
 cases h with
 | some _=>exact hr
 | none=>
  show Rep w A N γ d.lnt u
  cases d with
  | sl t l=>
   cases t with
   | nil=>
    simp only [D.lnt];simp only [D.lent] at hr;generalize D.lentL l=l' at*
    cases hr with
    | slE _ a cap h1 h2 _=>exact .slE _ _ _ (by simp) (by simp) (by simp)
    | sl _ _ _ _ _ _ _ _ h=>exact absurd rfl h
   | nn=>cases l with
    | nil=>cases hr with
     | slE _ a cap h1 h2 _=>exact .slE _ _ _ (by simp) (by simp) (by simp)
     | sl _ _ _ _ _ _ _ h=>exact absurd rfl h
    | cons d l=>exact hr
   | nul=>cases l with
    | nil=>cases hr with
     | slE _ a cap h1 h2 _=>exact .slE _ _ _ (by simp) (by simp) (by simp)
     | sl _ _ _ _ _ _ _ h=>exact absurd rfl h
    | cons d l=>exact hr
   | _=>exact hr
  | _=>exact hr
theorem zwa {pms:List (PM×Nat)} {hs:zuj}:∀ {ds:List D} {i j:Nat},(zn1 pms hs i ds)[j]? =(ds[j]?).map fun d=>if (pmAt pms (i+j)).1=.lent then zrp (hs.at (i+j)) d else d
 | [],i,j=>by simp [zn1]
 | d::ds,i,0=>by simp [zn1]
 | d::ds,i,j+1=>by
  simp only [zn1,List.getElem?_cons_succ]
  rw [zwa,show i+1+j=i+(j+1) by omega]
theorem zwb {pms:List (PM×Nat)} {hs:zuj}:∀ {ds:List D} {i:Nat},(zn1 pms hs i ds).length=ds.length
 | [],i=>rfl
 | d::ds,i=>by simp [zn1,zwb]
theorem zwc {pms:List (PM×Nat)}:∀ {ds:List D} {i:Nat},(∀ j d,ds[j]? =some d→(pmAt pms (i+j)).1=.lent→d.lent=d)→zv9 pms i ds=zkI pms i ds
 | [],i,_=>rfl
 | d::ds,i,h=>by
  simp only [zv9,zkI]
  rw [zwc fun j d' hd hl=>h (j+1) d' (by simpa using hd) (by rw [←hl]; congr 2; omega)]
  congr 1;unfold zGh zCI;split
  ·rename_i hl
   rw [h 0 d (by simp) hl]
  ·rfl
section
variable {P:Program} {Γ:Env}
theorem zxn (hΓ : ∀ f sp, Γ f = some sp → za9 P f sp) (hP : P.follows .mixedOrders = true) {ann : Ann} {szs : List Nat} {f : FuncId} (hf : ∃ fn, P.funcs[f]? = some fn ∧ (fn.name == "runtime.NumGoroutine") = false ∧ fn.body.isNone = false)
    {R:Type} {fin:D→List (List D)→List Tb→Option R} {a:R} {ds0:List D} {Ts:List Tb} (h:denF P Γ ann szs f (zn1 ann.pms ann.hints 0 ds0) Ts fin=some a) (hTl:Ts.length=ann.ks.length) {w:World} {γ:Nat→Nat→Option Nat} {ρ:Nat→Nat→Nat→Option Nat} {O:Nat→Prop} {gv:Nat→Option Nat} {us:List Value}
    (hT:TabRel (zbu ann.ks Ts) (zjf γ ρ O) (fun b=>b < w.heap.size∧¬ (O b∨Gv gv b)) w) (hO:∀ b,O b→b < w.heap.size∧Ows (zjf γ ρ O) (zbu ann.ks Ts) (· ∈ksW ann.ks) b) (hgv:∀ i b,gv i=some b→b < w.heap.size∧¬ O b) (hinj:∀ i j b,gv i=some b→gv j=some b→i=j) (hlen:∀ i,ds0.length≤i→gv i=none)
    (hargs:zsW w (fun b=>O b∨Gv gv b) γ ann.pms gv ds0 us):
    Calls P f us.toArray w fun e w'=>∃ d outs tbs,fin d outs tbs=some a∧∃ v γ' ρ' O',e=.returned v∧Turned w w' γ γ' ρ ρ' O O' ann.pms gv ann.ks ds0 Ts (zdi ann.ks Ts tbs) outs szs d v:=by
  obtain ⟨fn,hf,_,hbn⟩:=hf
  unfold denF at h
  rw [hf] at h
  dsimp only at h
  cases hb:fn.body with
  | none=>rw [hb] at hbn; cases hbn
  | some code=>
  rw [hb] at h
  dsimp only at h
  unfold denB at h
  have h1:=zoT h
  have h2:(zn1 ann.pms ann.hints 0 ds0).length=ds0.length:=zwb
  have h3:∀ (j:Nat) (d:D),(zn1 ann.pms ann.hints 0 ds0)[j]? =some d→∃ d0,ds0[j]? =some d0∧d=if (pmAt ann.pms j).1=.lent then zrp (ann.hints.at j) d0 else d0:=by
    intro j d hd
    rw [zwa,Nat.zero_add] at hd
    cases h:ds0[j]? with
    | none=>rw [h] at hd; cases hd
    | some d0=>rw [h] at hd; exact ⟨d0,rfl,(Option.some.inj hd).symm⟩
  generalize zn1 ann.pms ann.hints 0 ds0=ds at h1 h2 h3
  obtain ⟨_,h4⟩:=zoS h1
  split at h4
  rotate_left
  · cases h4
  rename_i hc
  obtain ⟨hn,hnd⟩:=hc
  rw [zdF] at h4
  have hget:∀ (j:Nat) (d:D),ds[j]? =some d→∃ d0,ds0[j]? =some d0∧((pmAt ann.pms j).1≠.lent→d=d0)∧((pmAt ann.pms j).1=.lent→d=zrp (ann.hints.at j) d0):=by
    intro j d hd
    obtain ⟨d0,e1,e2⟩:=h3 j d hd
    exact ⟨d0,e1,fun hl=>by rw [e2,if_neg hl],fun hl=>by rw [e2,if_pos hl]⟩
  have hargs':zsW w (fun b=>O b∨Gv gv b) γ ann.pms gv ds us:=by
    refine ⟨by rw [h2]; exact hargs.1,fun i d u hd hu=>?_⟩
    obtain ⟨d0,e1,e2,e3⟩:=hget i d hd
    obtain ⟨a1,a2⟩:=hargs.2 i d0 u e1 hu
    refine ⟨fun hl=>⟨(a1 hl).1,by rw [e3 hl]; exact zzJ _ ((a1 hl).2.lent _)⟩,fun hl=>?_⟩
    rw [e2 hl]; exact a2 hl
  have hslots:zv9 ann.pms 0 ds=zkI ann.pms 0 ds:=by
    refine zwc fun j d hd hl=>?_
    rw [Nat.zero_add] at hl
    obtain ⟨d0,e1,e2,e3⟩:=hget j d hd
    rw [e3 hl]; exact zxm _ _
  have hlen':∀ i,ds.length≤i→gv i=none:=fun i hi=>hlen i (by omega)
  have h0:=zAR (n:=fn.ntmps) hn hT (fun b h=>(hO b h).1) hgv hinj hargs'
  refine calls_of_wp hf hb ?_
  rw [hslots] at h4
  refine zkM hΓ hP code 0 _ _ _ w h4 ⟨_,h0⟩ _ fun e s at' w' he hr=>?_
  have hen:(e=.normal∨e=.ret)∧zEV P (zEW ann.pms) fn.results.toList szs s (fun d L=>match zjT L (ann.ks.filter (·.2)) with
        | some tbs=>zoX L ann.pms 0 fun outs=>fin d outs tbs
        | none=>none)=some a:=by
    cases e with
    | normal=>exact ⟨.inl rfl,he⟩
    | ret=>exact ⟨.inr rfl,he⟩
    | exit id=>cases he
  obtain ⟨hen,hk⟩:=hen
  obtain ⟨d,L',ha,hd⟩:=zzI hk
  split at hd
  rotate_left
  · cases hd
  rename_i tbs htb
  obtain ⟨outs,ho,hd⟩:=zkN hd
  obtain ⟨c,hc⟩:=hr
  obtain ⟨v,k1,k2,k3⟩:=zED (Og:=OwnG ann.pms gv) hc (fun g b hg1 hg2 hg3=>by
    simp only [zEW,Bool.or_eq_true,decide_eq_true_eq] at hg1
    rcases hg1 with hg1 | hg1
    · omega
    · refine ⟨g - 90000,hg1,?_⟩
      have hg3:(match given ann.pms ds g with | some _=>gv (g - 90000) | none=>none)=some b:=hg3
      split at hg3
      · exact hg3
      · cases hg3) ha
  have hturn:=zGe (n:=fn.ntmps) hn hT hO hgv hinj hlen' hargs' hTl hnd k2 htb ho k3
  have hturn':Turned w w' γ c.γ ρ c.ρ O c.O ann.pms gv ann.ks ds0 Ts (zdi ann.ks Ts tbs) outs szs d v:=
    ⟨hturn.more,hturn.same,hturn.tab,hturn.osub,hturn.kept,fun i sz els els' p1 p2 p3 p4=>hturn.outs i sz els els' p1 (by
      have hi:i < ds.length:=by rw [h2]; exact za1 p2
      have hd:ds[i]? =some ds[i]:=by simp
      obtain ⟨d0,e1,e2,e3⟩:=hget i _ hd
      rw [hd,e2 (by rw [p1]; simp),←e1,p2]) p3 p4,hturn.res⟩
  have hfin:at'.defers=[]∧∃ v,(results fn at'.tmps).run P w'=.ok v w'∧∃ d outs tbs,fin d outs tbs=some a∧∃ v' γ' ρ' O',Ending.returned v=.returned v'∧Turned w w' γ γ' ρ ρ' O O' ann.pms gv ann.ks ds0 Ts (zdi ann.ks Ts tbs) outs szs d v':=
    ⟨hc.defers,v,k1,d,outs,tbs,hd,v,c.γ,c.ρ,c.O,rfl,hturn'⟩
  rcases hen with rfl | rfl
  · exact hfin
  · exact hfin
theorem za2 (hΓ : ∀ f sp, Γ f = some sp → za9 P f sp) (hP : P.follows .mixedOrders = true) {ann : Ann} {szs : List Nat} {f : FuncId} (hf : ∃ fn, P.funcs[f]? = some fn ∧ (fn.name == "runtime.NumGoroutine") = false ∧ fn.body.isNone = false) :
    za9 P f (.st ann.pms szs ann.ks (denS P Γ ann szs f)):=by
  refine ⟨hf,fun ds0 Ts a h hTl w γ ρ O gv us hT hO hgv hinj hlen hargs=>?_⟩
  refine (zxn hΓ hP hf h hTl hT hO hgv hinj hlen hargs).mono fun e w' ⟨d,outs,tbs,h1,v,γ',ρ',O',h2,h3⟩=>?_
  injection h1 with h1; subst h1
  exact ⟨v,γ',ρ',O',h2,h3⟩
theorem zoM.out {w:World} {A A':Nat→Prop} {N:Nat} {γ} {szs:List Nat} {r:D} {v:Value} (h:zoM w A N γ szs r v) (hA:∀ b,A' b→A b):zoM w A' N γ szs r v:=by
 obtain ⟨ow,h1,h2,h3⟩:=h
 have hcomp:∀ {β:Option Nat} {sz:Nat} {d:D} {u:Value},zgu w (fun b=>A b∨∃ i,ow i=some b) N γ β sz d u→zgu w (fun b=>A' b∨∃ i,ow i=some b) N γ β sz d u:=by
  intro β sz d u hc
  have hA':∀ b,(A' b∨∃ i,ow i=some b)→(A b∨∃ i,ow i=some b):=fun b h=>h.imp (hA b) id
  have other:(∀ els,d≠.sl .own els)→(β=none∧Rep w (fun b=>A b∨∃ i,ow i=some b) N γ d u)→(β=none∧Rep w (fun b=>A' b∨∃ i,ow i=some b) N γ d u):=fun _ h=>⟨h.1,h.2.out hA' (Nat.le_refl _)⟩
  cases d with
  | sl t l=>
   cases t with
   | own=>
    obtain ⟨c1,c2⟩:=hc;refine ⟨c1,?_⟩
    cases β with
    | none=>exact c2
    | some b=>
     obtain ⟨x,T,fz,p1,p2,p3,vs,p4⟩:=c2
     exact ⟨x,T,fz,p1,p2,p3,vs,fun i d hd=>⟨(p4 i d hd).1.out hA' (Nat.le_refl _),(p4 i d hd).2⟩⟩
   | _=>exact other (by simp) hc
  | _=>exact other (by simp) hc
 refine ⟨ow,h1,fun i b hb=>⟨(h2 i b hb).1,fun h=>(h2 i b hb).2 (hA b h)⟩,?_⟩
 cases r with
 | tup ds=>
  obtain ⟨vs,e1,e2,e3,e4⟩:=h3
  exact ⟨vs,e1,e2,e3,fun i d u sz a b c=>hcomp (e4 i d u sz a b c)⟩
 | _=>
  obtain ⟨sz,e1,e2⟩:=h3;exact ⟨sz,e1,hcomp e2⟩
theorem zav (hΓ : ∀ f sp, Γ f = some sp → za9 P f sp) (hP : P.follows .mixedOrders = true) {ann : Ann} {szs : List Nat} {f : FuncId} (hf : ∃ fn, P.funcs[f]? = some fn ∧ (fn.name == "runtime.NumGoroutine") = false ∧ fn.body.isNone = false) :
    za9 P f (.pure szs (denP P Γ ann szs f)):=by
  refine ⟨hf,fun ds r h w γ us hus=>?_⟩
  unfold denP at h
  split at h
  rotate_left
  · cases h
  rename_i e1 e2
  have hpm:∀ i,(pmAt ann.pms i).1=.lent:=fun i=>by rw [e1]; rfl
  have hL:∀ Ts,zbu ann.ks Ts=fun _=>(0,.dead):=by
    intro Ts; rw [e2]; cases Ts<;>rfl
  have hTn:∀ (Ts:List Tb) k,za6 (zbu ann.ks Ts) k=none:=fun Ts k=>by rw [hL]; rfl
  have hT:TabRel (zbu ann.ks []) (zjf γ (fun _ _ _=>none) (fun _=>False)) (fun b=>b < w.heap.size∧¬ (False∨Gv (fun _=>none) b)) w:=by
    refine ⟨fun k wr T i cs h=>?_,fun k wr T i b h=>?_,fun k i q k' i' q' b h=>?_,fun k T i q b h=>?_,fun k T i q b h=>?_⟩
    · rw [hTn] at h; cases h
    · rw [hTn] at h; cases h
    · obtain ⟨_,_,h⟩:=h.tab; rw [hTn] at h; cases h
    · rw [hTn] at h; cases h
    · rw [hTn] at h; cases h
  refine (zxn hΓ hP hf h (by rw [e2]; rfl) hT (fun b h=>h.elim) (fun i b h=>by cases h) (fun i j b h=>by cases h) (fun _ _=>rfl) ⟨hus.1,fun i d u hd hu=>⟨fun _=>⟨rfl,(hus.2 i d u hd hu).out (fun b h=>by
      rcases h with h | ⟨_,h⟩
      · exact h
      · cases h) (Nat.le_refl _)⟩,fun h=>absurd (hpm i) h⟩⟩).mono fun e w' ⟨d,outs,tbs,h1,v,γ',ρ',O',h2,h3⟩=>?_
  injection h1 with h1; subst h1
  have hγ:γ'=γ:=funext fun k=>(h3.same k (by rw [e2]; simp [ksW])).1
  subst hγ
  have hno:∀ b,¬ OwnG ann.pms (fun _=>none) b:=by rintro b ⟨_,_,h⟩; cases h
  refine ⟨v,h2,⟨h3.kept.os,h3.kept.tape,h3.kept.output,h3.kept.size,fun b hb _=>h3.kept.block b hb (by
    rintro (h | ⟨_,h⟩)
    · exact h
    · cases h),h3.kept.cells⟩,h3.res.out fun b hb=>.inl ⟨hb,hno b⟩⟩
end
end Wf

namespace Wf
open Go Go.RowKit
mutual
def D.noh:D→Bool
 | .h _ _ _=>false
 | .agg cs=>D.nohL cs
 | .sl _ l=>D.nohL l
 | .mp _ _ es=>D.nohE es
 | .fn _ a b=>D.nohL a && D.nohL b
 | .at_ d=>d.noh
 | .tup l=>D.nohL l
 | _=>true
def D.nohL:List D→Bool
 | []=>true
 | d::r=>d.noh && D.nohL r
def D.nohE:List (Int×D)→Bool
 | []=>true
 | p::r=>D.nohP p && D.nohE r
def D.nohP:Int×D→Bool
 | (_,d)=>d.noh
end
theorem zhN {l:List D} (h:D.nohL l=true):∀ {i:Nat} {d:D},l[i]? =some d→d.noh=true:=by
 induction l with
 | nil=>intro i d h; simp at h
 | cons x l ih=>
  simp only [D.nohL,Bool.and_eq_true] at h;intro i d hd
  cases i with
  | zero=>simp at hd; subst hd; exact h.1
  | succ i=>exact ih h.2 (by simpa using hd)
theorem zCT {l:List (Int×D)} (h:D.nohE l=true):∀ {i:Nat} {d:Int×D},l[i]? =some d→d.2.noh=true:=by
 induction l with
 | nil=>intro i d h; simp at h
 | cons x l ih=>
  simp only [D.nohE,Bool.and_eq_true] at h;intro i d hd
  cases i with
  | zero=>simp at hd; subst hd; obtain ⟨n,y⟩:=x; exact h.1
  | succ i=>exact ih h.2 (by simpa using hd)
theorem Rep.noh {w:World} {A:Nat→Prop} {N:Nat} {γ γ':Nat→Nat→Option Nat} {d:D} {u:Value} (h:Rep w A N γ d u):d.noh=true→Rep w A N γ' d u:=by
 induction h with
 | undef v=>exact fun _=>.undef v
 | bool b=>exact fun _=>.bool b
 | int k n=>exact fun _=>.int k n
 | str s=>exact fun _=>.str s
 | nilp=>exact fun _=>.nilp
 | nilfn=>exact fun _=>.nilfn
 | agg cs vs h1 _ h3 ih=>exact fun h=>.agg cs vs h1 (fun i d v hd hv=>ih i d v hd hv (zhN h hd)) h3
 | tup cs vs h1 _ ih=>exact fun h=>.tup cs vs h1 fun i d v hd hv=>ih i d v hd hv (zhN h hd)
 | fn f a b va vb h1 h2 _ _ ih1 ih2=>
  intro h;simp only [D.noh,Bool.and_eq_true] at h
  exact .fn f a b va vb h1 h2 (fun i d v hd hv=>ih1 i d v hd hv (zhN h.1 hd)) fun i d v hd hv=>ih2 i d v hd hv (zhN h.2 hd)
 | slE t a cap h h' h''=>exact fun _=>.slE t a cap h h' h''
 | sl t l b o sz cap vs h1 h1' h2 h3 h4 h5 h6 _ h8 ih=>exact fun h=>.sl t l b o sz cap vs h1 h1' h2 h3 h4 h5 h6 (fun i d hd=>ih i d hd (zhN h hd)) h8
 | at_ d v b o h1 h2 h3 _ ih=>exact fun h=>.at_ d v b o h1 h2 h3 (ih h)
 | h k i off b hn=>exact fun h=>by cases h
 | nilm=>exact fun _=>.nilm
 | mp t k es b m ck h1 h2 h3 h4 h5 h6 _ ih=>exact fun h=>.mp t k es b m ck h1 h2 h3 h4 h5 h6 fun i e p he hp=>ih i e p he hp (zCT h hp)
theorem zoM.noh {w:World} {A:Nat→Prop} {N:Nat} {γ γ':Nat→Nat→Option Nat} {szs:List Nat} {r:D} {v:Value} (h:zoM w A N γ szs r v) (hr:r.noh=true):zoM w A N γ' szs r v:=by
 obtain ⟨ow,h1,h2,h3⟩:=h
 have hcomp:∀ {A:Nat→Prop} {β:Option Nat} {sz:Nat} {d:D} {u:Value},d.noh=true→zgu w A N γ β sz d u→zgu w A N γ' β sz d u:=by
  intro A β sz d u hd hc
  have other:(β=none∧Rep w A N γ d u)→(β=none∧Rep w A N γ' d u):=fun h=>⟨h.1,h.2.noh hd⟩
  cases d with
  | sl t l=>
   cases t with
   | own=>
    obtain ⟨c1,c2⟩:=hc;refine ⟨c1,?_⟩
    cases β with
    | none=>exact c2
    | some b=>
     obtain ⟨x,T,fz,p1,p2,p3,vs,p4⟩:=c2
     exact ⟨x,T,fz,p1,p2,p3,vs,fun i d hi=>⟨(p4 i d hi).1.noh (zhN hd hi),(p4 i d hi).2⟩⟩
   | _=>exact other hc
  | _=>exact other hc
 refine ⟨ow,h1,h2,?_⟩
 cases r with
 | tup ds=>
  obtain ⟨vs,e1,e2,e3,e4⟩:=h3
  exact ⟨vs,e1,e2,e3,fun i d u sz a b c=>hcomp (zhN hr a) (e4 i d u sz a b c)⟩
 | _=>
  obtain ⟨sz,e1,e2⟩:=h3;exact ⟨sz,e1,hcomp hr e2⟩
noncomputable def zrq (x y:Option D):Option D:=open Classical in if x=y then x else none
theorem zwd {x y:Option D} {r:D} (h:zrq x y=some r):x=some r∧y=some r:=by
 unfold zrq at h;split at h
 ·rename_i e; exact ⟨h,by rw [←e]; exact h⟩
 ·cases h
theorem zpV (x:Option D):zrq x x=x:=by unfold zrq; simp
noncomputable def denE (P:Program) (Γ:Env) (ann:Ann) (szs:List Nat) (f:FuncId) (ds:List D):Option D:=match ds with
 | [.sl _ []]=>zrq (denP P Γ { ann with hints:=[(0,.cell .sl)] } szs f [.sl .nul []]) (denP P Γ { ann with hints:=[(0,.cell .sl)] } szs f [.sl .nn []])
 | ds=>denP P Γ ann szs f ds
theorem ztj {P : Program} {Γ : Env} (hΓ : ∀ f sp, Γ f = some sp → za9 P f sp) (hP : P.follows .mixedOrders = true) {ann : Ann} {szs : List Nat} {f : FuncId} (hf : ∃ fn, P.funcs[f]? = some fn ∧ (fn.name == "runtime.NumGoroutine") = false ∧ fn.body.isNone = false) :
    za9 P f (.pure szs (denE P Γ ann szs f)):=by
  refine ⟨hf,fun ds r h w γ us hus=>?_⟩
  unfold denE at h
  split at h
  · obtain ⟨h1,h2⟩:=zwd h
    have hl:=hus.1
    match us,hl with
    | [u],_=>
      have hr:=hus.2 0 _ u rfl rfl
      cases hr with
      | slE _ a cap _ _ _=>
        cases a with
        | none=>exact (zav hΓ hP hf).2 _ r h1 w γ _ (Reps.cons (.slE .nul none cap (by simp) (by simp) (by simp)) Reps.nil)
        | some a=>exact (zav hΓ hP hf).2 _ r h2 w γ _ (Reps.cons (.slE .nn (some a) cap (by simp) (by simp) (by simp)) Reps.nil)
      | sl _ _ _ _ _ _ _ h=>exact absurd rfl h
  · exact (zav hΓ hP hf).2 ds r h w γ us hus
def fnOf:List D→Nat
 | .fn f _ _::_=>f
 | _::r=>fnOf r
 | []=>0
def selA:List (Nat×Ann)→Nat→Ann
 | [],_=>{}
 | (f,a)::r,g=>if f=g then a else selA r g
noncomputable def denA (P:Program) (Γ:Env) (l:List (Nat×Ann)) (szs:List Nat) (f:FuncId) (ds:List D):Option D:=denP P Γ (selA l (fnOf ds)) szs f ds
theorem ztk {P : Program} {Γ : Env} (hΓ : ∀ f sp, Γ f = some sp → za9 P f sp) (hP : P.follows .mixedOrders = true) {l : List (Nat × Ann)} {szs : List Nat} {f : FuncId} (hf : ∃ fn, P.funcs[f]? = some fn ∧ (fn.name == "runtime.NumGoroutine") = false ∧ fn.body.isNone = false) :
    za9 P f (.pure szs (denA P Γ l szs f)):=
  ⟨hf,fun ds r h w γ us hus=>(zav hΓ hP hf).2 ds r h w γ us hus⟩
noncomputable def denT (P:Program) (Γ:Env) (ann:Ann) (szs:List Nat) (f:FuncId) (ds:List D):Option D:=match ann.pms with
 | []=>sif (D.nohL ds=true) (denF P Γ ann szs f (zn1 ann.pms ann.hints 0 ds) (ann.ks.map fun _=>[]) fun d _ _=>sif (d.noh=true) (some d))
 | _=>none
theorem zn2:∀ (ks:List (Nat×Bool)) (k:Nat),za6 (zbu ks (ks.map fun _=>[])) k=none∨∃ w,za6 (zbu ks (ks.map fun _=>[])) k=some (w,[])
 | [],k=>.inl rfl
 | (k0,w0)::ks,k=>by
  simp only [List.map_cons,zbu];rw [ziu]
  by_cases e:k=k0
  ·rw [if_pos e]; exact .inr ⟨w0,rfl⟩
  ·rw [if_neg e]; exact zn2 ks k
theorem ztl {P : Program} {Γ : Env} (hΓ : ∀ f sp, Γ f = some sp → za9 P f sp) (hP : P.follows .mixedOrders = true) {ann : Ann} {szs : List Nat} {f : FuncId} (hf : ∃ fn, P.funcs[f]? = some fn ∧ (fn.name == "runtime.NumGoroutine") = false ∧ fn.body.isNone = false) :
    za9 P f (.pure szs (denT P Γ ann szs f)):=by
  refine ⟨hf,fun ds r h w γ us hus=>?_⟩
  unfold denT at h
  split at h
  rotate_left
  · cases h
  rename_i e1
  obtain ⟨hnoh,h⟩:=zaM h
  have hpm:∀ i,(pmAt ann.pms i).1=.lent:=fun i=>by rw [e1]; rfl
  have hTn:=zn2 ann.ks
  have hth:∀ k i q,¬ zcj (zbu ann.ks (ann.ks.map fun _=>[])) k i q:=by
    intro k i q h
    cases q with
    | none=>
      obtain ⟨wr,T,h1,h2⟩:=h
      rcases hTn k with e | ⟨w',e⟩<;>rw [e] at h1<;>cases h1
      simp at h2
    | some o=>
      obtain ⟨wr,T,d,h1,h2,h3⟩:=h
      rcases hTn k with e | ⟨w',e⟩<;>rw [e] at h1<;>cases h1
      simp [zcR] at h2
  have hT:TabRel (zbu ann.ks (ann.ks.map fun _=>[])) (zjf (fun _ _=>none) (fun _ _ _=>none) (fun _=>False)) (fun b=>b < w.heap.size∧¬ (False∨Gv (fun _=>none) b)) w:=by
    refine ⟨fun k wr T i cs h h'=>?_,fun k wr T i b h h'=>?_,fun k i q k' i' q' b h=>absurd h (hth _ _ _),fun k T i q b _ h=>absurd h (hth _ _ _),fun k T i q b _ h=>absurd h (hth _ _ _)⟩
    · rcases hTn k with e | ⟨w',e⟩<;>rw [e] at h<;>cases h
      simp at h'
    · cases h'
  refine (zxn hΓ hP hf h (by simp) hT (fun b h=>h.elim) (fun i b h=>by cases h) (fun i j b h=>by cases h) (fun _ _=>rfl) ⟨hus.1,fun i d u hd hu=>⟨fun _=>⟨rfl,((hus.2 i d u hd hu).out (fun b h=>by
      rcases h with h | ⟨_,h⟩
      · exact h
      · cases h) (Nat.le_refl _)).noh (zhN hnoh hd)⟩,fun h=>absurd (hpm i) h⟩⟩).mono fun e w' ⟨d,outs,tbs,h1,v,γ',ρ',O',h2,h3⟩=>?_
  obtain ⟨hd,h1⟩:=zaM h1
  injection h1 with h1; subst h1
  have hno:∀ b,¬ OwnG ann.pms (fun _=>none) b:=by rintro b ⟨_,_,h⟩; cases h
  refine ⟨v,h2,⟨h3.kept.os,h3.kept.tape,h3.kept.output,h3.kept.size,fun b hb _=>h3.kept.block b hb (by
    rintro (h | ⟨_,h⟩)
    · exact h
    · cases h),h3.kept.cells⟩,(h3.res.out fun b hb=>.inl ⟨hb,hno b⟩).noh hd⟩
structure Fact (P:Program) where
 f:FuncId
 sp:Spec
 ok:za9 P f sp
def zay:List (FuncId×Spec)→Env
 | []=>fun _=>none
 | x::r=>fun f=>if f=x.1 then some x.2 else zay r f
def penv {P:Program} (l:List (Fact P)):Env:=zay (l.map fun x=>(x.f,x.sp))
theorem zaz {P:Program} (l:List (Fact P)):Env.Ok P (penv l):=by
 induction l with
 | nil=>intro f sp h; cases h
 | cons x r ih=>
  intro f sp h;unfold penv at h ih;simp only [List.map_cons,zay] at h;split at h
  ·rename_i e;injection h with h; subst h; subst e;exact x.ok
  ·exact ih f sp h
end Wf

namespace Wf
open Go Go.RowKit
section
variable {R α:Type}
@[simp] theorem za5 (x y:Option R):brK true x y=x:=rfl
@[simp] theorem zar (x y:Option R):brK false x y=y:=rfl
theorem zcp (b:Bool) (x y:Option R):brK b x y=if b=true then x else y:=by cases b<;>rfl
@[simp] theorem zaa {c:Prop} [Decidable c] (h:c) (x:Option R):sif c x=x:=by unfold sif; rw [if_pos h]
@[simp] theorem zac (a:α) (f:α→Option R):zaq (some a) f=f a:=rfl
@[simp] theorem zCU (f:α→Option R):zaq none f=none:=rfl
@[simp] theorem zbg (k:IntKind) (n:Int) (f:Int→Option R):asI k (.int k n) f=f n:=by simp [asI]
@[simp] theorem zck (b:Bool) (f:Bool→Option R):asB (.bool b) f=f b:=rfl
@[simp] theorem zHr (b:ByteArray) (f:ByteArray→Option R):asS (.str b) f=f b:=rfl
@[simp] theorem zfa (t:Tag) (l:List D) (f:Tag→List D→Option R):asSl (.sl t l) f=f t l:=rfl
@[simp] theorem zbn (l:List D) (f:List D→Option R):za0 (.sl .own l) f=f l:=rfl
@[simp] theorem zEX (l:List D) (f:List D→Option R):zmB (.sl .lent l) f=f l:=rfl
@[simp] theorem zkO (l:List D) (f:List D→Option R):asAgg (.agg l) f=f l:=rfl
@[simp] theorem zdp (l:List D) (f:List D→Option R):zdG (.tup l) f=f l:=rfl
@[simp] theorem zHs (d:D) (f:D→Option R):asAt (.at_ d) f=f d:=rfl
@[simp] theorem zGi (d:D) (f:D→Option R):zAT [d] f=f d:=rfl
@[simp] theorem zG6 (i:Nat) (f:α→Option R):getK [] i f=none:=by simp [getK]
@[simp] theorem zf4 (a:α) (l:List α) (f:α→Option R):getK (a::l) 0 f=f a:=rfl
@[simp] theorem zdJ (a:α) (l:List α) (i:Nat) (f:α→Option R):getK (a::l) (i+1) f=getK l i f:=by simp [getK]
theorem zag {l:List α} {i:Nat} {a:α} (h:l[i]? =some a) (f:α→Option R):getK l i f=f a:=by unfold getK; rw [h]
@[simp] theorem zd4 (f:LfT []→Option R):zat [] [] f=f ():=rfl
@[simp] theorem zdx (k:IntKind) (n:Int) (ls:List Lf) (cs:List D) (f:LfT (.int k::ls)→Option R):zat (.int k::ls) (.int k n::cs) f=zat ls cs fun y=>f (n,y):=by simp [zat,zdH,Lf.get]
@[simp] theorem zuq (b:Bool) (ls:List Lf) (cs:List D) (f:LfT (.bool::ls)→Option R):zat (.bool::ls) (.bool b::cs) f=zat ls cs fun y=>f (b,y):=by simp [zat,zdH,Lf.get]
@[simp] theorem zEY (t:Tag) (l:List D) (ls:List Lf) (cs:List D) (f:LfT (.sl::ls)→Option R):zat (.sl::ls) (.sl t l::cs) f=zat ls cs fun y=>f ((t,l),y):=by simp [zat,zdH,Lf.get]
@[simp] theorem zCV (l:List D) (ls:List Lf) (cs:List D) (f:LfT (.lent::ls)→Option R):zat (.lent::ls) (.sl .lent l::cs) f=zat ls cs fun y=>f (l,y):=by simp [zat,zdH,Lf.get]
@[simp] theorem zdf (d:D) (ls:List Lf) (cs:List D) (f:LfT (.any::ls)→Option R):zat (.any::ls) (d::cs) f=zat ls cs fun y=>f (d,y):=by simp [zat,zdH,Lf.get]
@[simp] theorem zGj (k i:Nat) (f:Nat→Option R):asH k (.h k i 0) f=f i:=by simp [asH]
@[simp] theorem zFN (f:Bool→Option R):znV .nilp f=f true:=rfl
@[simp] theorem zxo (k i o:Nat) (f:Bool→Option R):znV (.h k i o) f=f false:=rfl
@[simp] theorem zFO (kk:MK) (es:List (Int×D)) (f:List (Int×D)→Option R):ziy kk (.mp .own kk es) f=f es:=by simp [ziy]
@[simp] theorem zFP (kk:MK) (es:List (Int×D)) (f:List (Int×D)→Option R):zq8 kk (.mp .lent kk es) f=f es:=by simp [zq8]
@[simp] theorem zm0 (T:Tb) (f:Tb→Option R):letT T f=f T:=rfl
@[simp] theorem zbP (a:α) (l:List α) (f:α→List α→Option R):zb8 (a::l) f=f a l:=rfl
@[simp] theorem zaW (x:Option R):nilK ([]:List α) x=x:=rfl
@[simp] theorem zD0 (k i:Nat) (ls:List Lf) (cs:List D) (f:LfT (.hnd k::ls)→Option R):zat (.hnd k::ls) (.h k i 0::cs) f=zat ls cs fun y=>f (i,y):=by simp [zat,zdH,Lf.get]
theorem zur {T:Tb} {i o:Nat} {cs:List D} {x:D} (h:T[i]? =some cs):setT T i o x=T.set i (cs.set o x):=by unfold setT; rw [h]
theorem zcM {T:Tb} {i o:Nat} {cs xs:List D} (h:T[i]? =some cs):zaQ T i o xs=T.set i (cs.take o++xs++cs.drop (o+xs.length)):=by unfold zaQ; rw [h]
theorem zgO {T:Tb} {i:Nat} {cs:List D} (h:T[i]? =some cs) (x:List D):(T.set i x)[i]? =some x:=by rw [List.getElem?_set]; simp [za1 h]
@[simp] theorem zHL (g:α→Option R) (f:(α→Option R)→Option R):jn g f=f g:=rfl
@[simp] theorem zG7 (n:Int) (f:Int→Option R):letN n f=f n:=rfl
@[simp] theorem zdq {β:Type} (l:List β):cut 0 l.length l=l:=by simp [cut]
@[simp] theorem zGk:D.lentL []=[]:=rfl
@[simp] theorem zFQ (d:D) (l:List D):D.lentL (d::l)=d.lent::D.lentL l:=rfl
@[simp] theorem zG8 (k:IntKind) (n:Int):D.lent (.int k n)=.int k n:=by simp [D.lent]
@[simp] theorem zGl (b:Bool):D.lent (.bool b)=.bool b:=by simp [D.lent]
theorem zwe {B:(α→Option R)→α→Option R} {μ:α→Nat} {S:α→Option R} {I:α→Prop}
  (h:∀ again a,I a→(∀ b,I b→μ b < μ a→again b=S b)→B again a=S a):∀ (n:Nat) (a:α),I a→μ a < n→fixN B n a=S a
 | 0,a,_,hn=>absurd hn (Nat.not_lt_zero _)
 | n+1,a,hI,hn=>by
  show B (fixN B n) a=S a
  exact h _ a hI fun b hb hlt=>zwe h n b hb (by omega)
theorem zlS {B:(α→Option R)→α→Option R} (μ:α→Nat) (S:α→Option R) (I:α→Prop) {a:α}
  (h:∀ again a,I a→(∀ b,I b→μ b < μ a→again b=S b)→B again a=S a) (hI:I a) (hμ:μ a < 1099511627776):zb7 B a=S a:=
 zwe h fuel a hI (Nat.lt_of_lt_of_le hμ zoQ)
theorem zBg {B:(α→Option R)→α→Option R} {μ:α→Nat} {Q:R→Prop} {I:α→Prop}
  (h:∀ again a,I a→(∀ b,I b→μ b < μ a→∃ r,again b=some r∧Q r)→∃ r,B again a=some r∧Q r):∀ (n:Nat) (a:α),I a→μ a < n→∃ r,fixN B n a=some r∧Q r
 | 0,a,_,hn=>absurd hn (Nat.not_lt_zero _)
 | n+1,a,hI,hn=>h _ a hI fun b hb hlt=>zBg h n b hb (by omega)
theorem zyC {B:(α→Option R)→α→Option R} (μ:α→Nat) (Q:R→Prop) (I:α→Prop) {a:α}
  (h:∀ again a,I a→(∀ b,I b→μ b < μ a→∃ r,again b=some r∧Q r)→∃ r,B again a=some r∧Q r) (hI:I a) (hμ:μ a < 1099511627776):∃ r,zb7 B a=some r∧Q r:=
 zBg h fuel a hI (Nat.lt_of_lt_of_le hμ zoQ)
end
theorem zal {n:Int} (h0: -9223372036854775808≤n) (h1:n < 9223372036854775808):IntKind.i64.wrap n=n:=by
 have e:IntKind.i64.wrap n=if n % 18446744073709551616 < 9223372036854775808 then n % 18446744073709551616 else n % 18446744073709551616 - 18446744073709551616:=by
  simp [IntKind.wrap,IntKind.bits,IntKind.signed]
  try (split<;>omega)
 rw [e];split<;>omega
@[simp] def iD (n:Int):D:=.int .i64 n
def intL (l:List Int):List D:=l.map (D.int .i64)
theorem zrr (l:List Int):D.lentL (intL l)=intL l:=by
 induction l with
 | nil=>rfl
 | cons n l ih=>unfold intL at*; simp [ih]
theorem zCW (l:List Int):D.nohL (intL l)=true:=by
 induction l with
 | nil=>rfl
 | cons n l ih=>exact ih
theorem zgP (l:List Int):(intL l).length=l.length:=by simp [intL]
theorem zCX {l:List Int} {j:Nat} (h:j < l.length):(intL l)[j]? =some (.int .i64 l[j]):=by simp [intL,h]
theorem zrs {R α:Type} (st:Nat→α) (W:Nat) {B:(α→Option R)→α→Option R} {r:Option R} (h1:∀ again k,k < W→B again (st k)=again (st (k+1))) (h2:∀ again,B again (st W)=r):
  ∀ (m k n:Nat),k+m=W→m < n→fixN B n (st k)=r
 | 0,k,n+1,h,_=>by
  have:k=W:=by omega
  subst this
  exact h2 _
 | m+1,k,n+1,h,hn=>by
  show B (fixN B n) (st k)=r
  rw [h1 _ k (by omega)]
  exact zrs st W h1 h2 m (k+1) n (by omega) (by omega)
theorem zcf {R α:Type} (st:Nat→α) (W:Nat) (hW:W < 100000) {B:(α→Option R)→α→Option R} {r:Option R} (h1:∀ again k,k < W→B again (st k)=again (st (k+1))) (h2:∀ again,B again (st W)=r):zb7 B (st 0)=r:=
 zrs st W h1 h2 W 0 fuel (by omega) (by have:=zoQ; omega)
end Wf

namespace Wf
open Go Go.RowKit Go.ChangeShapes Go.WideShapes
theorem zn3 {H:Type} {enc:TypeId×Value→H} {P:Program} (hl:laidOutB P=true) {W W':World} {sp:Nat→Bool}:∀ {ts:List TypeId} {vs:List Value} {ds:List (DataW H)} {ps:List MemPlace},
  (ts.all fun t=>P.readableRec t && decide (t < P.types.size))=true→DataW.TrodAll enc P W 0 (fun _=>true) true ts vs ds ps→Below W.heap.size W W'→(∀ x∈ps,x.block < W.heap.size)→(∀ x∈ps,sp x.block=true)→
  DataW.TrodAll enc P W' 0 sp true ts vs ds ps
 | [],[],[],ps,_,h,_,_,_=>h
 | [],[],_::_,ps,_,h,_,_,_=>by simp [DataW.TrodAll] at h
 | [],_::_,_,ps,_,h,_,_,_=>by simp [DataW.TrodAll] at h
 | t::ts,vs,ds,ps,hr,h,hb,hlt,hsp=>by
  obtain ⟨v,vs',d,ds',p,q,rfl,rfl,rfl,h1,h2⟩:=trodAll_cons h;simp only [List.all_cons,Bool.and_eq_true,decide_eq_true_eq] at hr
  exact trodAll_cons_mk (WideElems.Trod_stays hl hr.1.1 hr.1.2 h1 (fun x hx=>hb.same (hlt x (List.mem_append_left _ hx))) (fun x hx=>hsp x (List.mem_append_left _ hx)))
   (zn3 hl (by simpa using hr.2) h2 hb (fun x hx=>hlt x (List.mem_append_right _ hx)) (fun x hx=>hsp x (List.mem_append_right _ hx)))
theorem open_intl {H:Type} {enc:TypeId×Value→H} {P:Program} {W:World} {r:Reach} {b0:Nat} {t e:TypeId} {k:IntKind} {v:Value} {d:DataW H} {p:List MemPlace} (ht:P.underlying t=some (.slice e)) (he:P.underlying e=some (.int k)) (hc:P.cellsOf e=1)
  (hval:Value.okWide P W r b0 t v) (h:DataW.Trod enc P W 0 (fun _=>true) true t v d p):∃ l:List Int,∀ γ,Rep W (fun _=>False) 0 γ (.sl .lent (l.map (D.int k))) v:=by
 obtain ⟨a0,len,cap,rfl⟩:=okWide_slice ht hval;obtain ⟨fuel,hf⟩:=h;rcases open_ints ht he hc hf with ⟨h1,_⟩ | ⟨a,len',cap',zs,h1,h2,h3,h4,h5,h6,h7,h8⟩
 ·have h1:[Value.slice a0 len cap]=[Value.slice none 0 0]:=by simpa [Value.cells] using h1
  simp at h1;obtain ⟨rfl,rfl,rfl⟩:=h1
  exact ⟨[],fun γ=>.slE _ _ _ (by simp) (by simp) (by simp)⟩
 ·have h1:[Value.slice a0 len cap]=[Value.slice (some a) len' cap']:=by simpa [Value.cells] using h1
  simp at h1;obtain ⟨rfl,rfl,rfl⟩:=h1
  have h5:zs.length=cap:=by simpa using h5
  by_cases hl:len=0
  ·subst hl
   exact ⟨[],fun γ=>.slE _ _ _ (by simp) (by simp) (by simp)⟩
  ·obtain ⟨b,off,rfl,hcell⟩:=ints_at h7 (by omega)
   have hlen:((zs.take len).map (D.int k)).length=len:=by simp; omega
   refine ⟨zs.take len,fun γ=>?_⟩
   have hb:b < W.heap.size:=by
    rcases Nat.lt_or_ge b W.heap.size with h' | h'
    ·exact h'
    ·have:=hcell 0 (by omega)
     simp [World.cell?,Array.getElem?_eq_none h'] at this
   have:=Rep.sl (w:=W) (A:=fun _=>False) (N:=0) (γ:=γ) .lent ((zs.take len).map (D.int k)) b off 1 cap (fun i=>.int k (zs.getD i 0)) (by intro e; rw [e] at hlen; exact hl hlen.symm) (by simp) (by omega) (by simp) (fun h=>h) (by simp) hb (fun i d hd=>by
    rw [List.getElem?_map] at hd
    by_cases hi:i < len
    ·rw [List.getElem?_take_of_lt hi] at hd
     have hz:zs[i]? =some zs[i]:=List.getElem?_eq_getElem (by omega)
     rw [hz] at hd;simp at hd;rw [←hd,List.getD_eq_getElem?_getD,hz];exact .int _ _
    ·rw [List.getElem?_eq_none (by simp; omega)] at hd; cases hd) (fun i hi=>⟨rfl,fun j u hu=>by
    rw [hlen] at hi
    have hj:j=0:=by
     have:=(Array.getElem?_eq_some_iff.1 hu).1;simpa [Value.cells] using this
    subst hj
    have hu:Value.int k (zs.getD i 0)=u:=by simpa [Value.cells] using hu
    rw [←hu]
    simpa using hcell i (by omega)⟩)
   rw [hlen] at this;exact this
theorem row_post {H:Type} {enc:TypeId×Value→H} {P:Program} {f:Func} {s:ChangeSpec} {apart fresh handsOn again:Bool} {W W':World} {args:Array Value} {ds gs:List (DataW H)} {before:List MemPlace} {tb:TypeId}
  (hl:laidOutB P=true) (hr:(f.params.toList.all fun t=>P.readableRec t && decide (t < P.types.size))=true) (hrt:f.resultTypes=#[tb]) (hb:P.underlying tb=some .bool)
  (hW:DataW.Whole enc P f.params.toList s.vars apart W args.toList ds gs before) (hv:s.vars=[]) (hfn:(s.fn H (ds++gs)).results=[.lit (.bool true)]∧(s.fn H (ds++gs)).args=ds∧(s.fn H (ds++gs)).vars=[])
  (hbel:Below W.heap.size W W'):s.post enc P f apart fresh handsOn again W args (.bool true) W':=by
 have hW':=hW;obtain ⟨p,q,hA0,hV,rfl,hfz,hnd⟩:=hW
 have hq:q=[]:=by
  rw [hv] at hV;exact (trodVars_none hV).2
 subst hq
 have hlt:∀ x∈p,x.block < W.heap.size:=fun x hx=>by
  have:=hW'.lt x (by simpa using hx)
  simpa using this
 refine zui (pa:=p) (pv:=[]) hW' (fun _ _ _=>?_) (fun sp hsp=>?_) (fun sp hsp=>?_) (by simp) hbel ?_
 ·rw [hfn.1,hrt];exact trodAll_cons_mk (shut_bool hb _) trodAll_mk0
 ·rw [hfn.2.1]
  exact zn3 hl hr hA0 hbel hlt (fun x hx=>hsp x (by simpa using hx))
 ·rw [hfn.2.2,hv];exact rfl
 ·exact ok_one hrt rfl (okWide_bool_mk hb _)
end Wf

namespace Wf
open Go Go.RowKit Go.ChangeShapes Go.WideShapes
theorem zCY {W:World} {a:Addr} {n:Nat} {B:Nat→Bool} (h:∀ i,i < n→W.cell? (a.add i)=some (.bool (B i))) (hn:0 < n):∃ b off,a=⟨b,off,none⟩∧∀ i,i < n→W.cell? ⟨b,off+i,none⟩=some (.bool (B i)):=by
 obtain ⟨b,off,spot⟩:=a
 have hspot:spot=none:=by simpa [Addr.add] using World.cell?_spot (h 0 hn)
 subst hspot
 exact ⟨b,off,rfl,fun j hj=>by rw [←Go.WideShapes.add_plain]; exact h j hj⟩
theorem open_boolsl {H:Type} {enc:TypeId×Value→H} {P:Program} {W:World} {r:Reach} {b0:Nat} {t e:TypeId} {v:Value} {d:DataW H} {p:List MemPlace} (ht:P.underlying t=some (.slice e)) (he:P.underlying e=some .bool) (hc:P.cellsOf e=1)
  (hval:Value.okWide P W r b0 t v) (h:DataW.Trod enc P W 0 (fun _=>true) true t v d p):∃ l:List Bool,∀ γ,Rep W (fun _=>False) 0 γ (.sl .lent (l.map D.bool)) v:=by
 obtain ⟨a0,len,cap,rfl⟩:=okWide_slice ht hval;obtain ⟨fuel,hf⟩:=h;rcases Go.Deep.open_bools ht he hc hf with ⟨h1,_⟩ | ⟨a,len',cap',B,h1,h2,h3,h4,h6,h7⟩
 ·have h1:[Value.slice a0 len cap]=[Value.slice none 0 0]:=by simpa [Value.cells] using h1
  simp at h1;obtain ⟨rfl,rfl,rfl⟩:=h1
  exact ⟨[],fun γ=>.slE _ _ _ (by simp) (by simp) (by simp)⟩
 ·have h1:[Value.slice a0 len cap]=[Value.slice (some a) len' cap']:=by simpa [Value.cells] using h1
  simp at h1;obtain ⟨rfl,rfl,rfl⟩:=h1
  by_cases hl:len=0
  ·subst hl
   exact ⟨[],fun γ=>.slE _ _ _ (by simp) (by simp) (by simp)⟩
  ·obtain ⟨b,off,rfl,hcell⟩:=zCY h7 (by omega)
   have hlen:(((List.range len).map B).map D.bool).length=len:=by simp
   refine ⟨(List.range len).map B,fun γ=>?_⟩
   have hb:b < W.heap.size:=by
    rcases Nat.lt_or_ge b W.heap.size with h' | h'
    ·exact h'
    ·have:=hcell 0 (by omega)
     simp [World.cell?,Array.getElem?_eq_none h'] at this
   have:=Rep.sl (w:=W) (A:=fun _=>False) (N:=0) (γ:=γ) .lent (((List.range len).map B).map D.bool) b off 1 cap (fun i=>.bool (B i)) (by intro e; rw [e] at hlen; exact hl hlen.symm) (by simp) (by omega) (by simp) (fun h=>h) (by simp) hb (fun i d hd=>by
    rw [List.getElem?_map,List.getElem?_map] at hd
    by_cases hi:i < len
    ·rw [List.getElem?_range hi] at hd;simp at hd;rw [←hd];exact .bool _
    ·rw [List.getElem?_eq_none (by simp; omega)] at hd; cases hd) (fun i hi=>⟨rfl,fun j u hu=>by
    rw [hlen] at hi
    have hj:j=0:=by
     have:=(Array.getElem?_eq_some_iff.1 hu).1;simpa [Value.cells] using this
    subst hj
    have hu:Value.bool (B i)=u:=by simpa [Value.cells] using hu
    rw [←hu]
    simpa using hcell i (by omega)⟩)
   rw [hlen] at this;exact this
end Wf

namespace Wf
open Go Go.RowKit
section
variable {R α β:Type}
@[congr] theorem zGm {b b':Bool} {x y:Option R} (h:b=b'):brK b x y=brK b' x y:=by rw [h]
@[congr] theorem zEZ {x x':Option α} {f:α→Option R} (h:x=x'):zaq x f=zaq x' f:=by rw [h]
@[congr] theorem zGn {c c':Prop} [d:Decidable c] [d':Decidable c'] {x:Option R} (h:c=c'):sif c x=sif c' x:=by subst h; congr
@[congr] theorem zFR {n n':Int} {f:Int→Option R} (h:n=n'):letN n f=letN n' f:=by rw [h]
@[congr] theorem zFS {l l':List α} {i i':Nat} {f:α→Option R} (h:l=l') (h':i=i'):getK l i f=getK l' i' f:=by rw [h,h']
@[congr] theorem zGo {k:IntKind} {d d':D} {f:Int→Option R} (h:d=d'):asI k d f=asI k d' f:=by rw [h]
@[congr] theorem zGp {d d':D} {f:Bool→Option R} (h:d=d'):asB d f=asB d' f:=by rw [h]
@[congr] theorem zGq {d d':D} {f:ByteArray→Option R} (h:d=d'):asS d f=asS d' f:=by rw [h]
@[congr] theorem zFT {d d':D} {f:Tag→List D→Option R} (h:d=d'):asSl d f=asSl d' f:=by rw [h]
@[congr] theorem zE0 {d d':D} {f:List D→Option R} (h:d=d'):za0 d f=za0 d' f:=by rw [h]
@[congr] theorem zD1 {d d':D} {f:List D→Option R} (h:d=d'):zmB d f=zmB d' f:=by rw [h]
@[congr] theorem zE1 {d d':D} {f:List D→Option R} (h:d=d'):asAgg d f=asAgg d' f:=by rw [h]
@[congr] theorem zE2 {d d':D} {f:List D→Option R} (h:d=d'):zdG d f=zdG d' f:=by rw [h]
@[congr] theorem zFU {d d':D} {f:D→Option R} (h:d=d'):asAt d f=asAt d' f:=by rw [h]
@[congr] theorem zE3 {d d':List D} {f:D→Option R} (h:d=d'):zAT d f=zAT d' f:=by rw [h]
@[congr] theorem zGr {k:Nat} {d d':D} {f:Nat→Option R} (h:d=d'):asH k d f=asH k d' f:=by rw [h]
@[congr] theorem zE4 {d d':D} {f:Bool→Option R} (h:d=d'):znV d f=znV d' f:=by rw [h]
@[congr] theorem zD2 {d d':D} {f:Bool→Option R} (h:d=d'):zq7 d f=zq7 d' f:=by rw [h]
@[congr] theorem zD3 {kk:MK} {d d':D} {f:List (Int×D)→Option R} (h:d=d'):ziy kk d f=ziy kk d' f:=by rw [h]
@[congr] theorem zE5 {kk:MK} {d d':D} {f:List (Int×D)→Option R} (h:d=d'):zq8 kk d f=zq8 kk d' f:=by rw [h]
@[congr] theorem zFV {T T':Tb} {f:Tb→Option R} (h:T=T'):letT T f=letT T' f:=by rw [h]
@[congr] theorem zE6 {l l':List α} {f:α→List α→Option R} (h:l=l'):zb8 l f=zb8 l' f:=by rw [h]
@[congr] theorem zFW {l l':List α} {x:Option R} (h:l=l'):nilK l x=nilK l' x:=by rw [h]
@[congr] theorem zCr {ls:List Lf} {d d':List D} {f:LfT ls→Option R} (h:d=d'):zat ls d f=zat ls d' f:=by rw [h]
@[congr] theorem zE7 {B:(α→Option R)→α→Option R} {a a':α} (h:a=a'):zb7 B a=zb7 B a':=by rw [h]
end
section
variable {R α:Type}
@[simp] theorem zHt (b:Bool) (x y:Option R):brK (!b) x y=brK b y x:=by cases b<;>rfl
@[simp] theorem zus {p:Prop} [Decidable p] (h:p) (x y:Option R):brK (decide p) x y=x:=by simp [h]
@[simp] theorem zsm {p:Prop} [Decidable p] (h:¬ p) (x y:Option R):brK (decide p) x y=y:=by simp [h]
@[simp] theorem zHC {a b:Int} (h:a=b) (x y:Option R):brK (a == b) x y=x:=by simp [h]
@[simp] theorem zHD {a b:Int} (h:¬ a=b) (x y:Option R):brK (a == b) x y=y:=by
 have:(a == b)=false:=by simpa using h
 rw [this]; rfl
@[simp] theorem zGs {a b:Int} (h:¬ a=b) (x y:Option R):brK (a != b) x y=x:=by
 have:(a != b)=true:=by simpa using h
 rw [this]; rfl
@[simp] theorem zjV {a b:Int} (h:a=b) (x y:Option R):brK (a != b) x y=y:=by simp [h]
theorem zwf {n:Int} (h0: -9223372036854775808≤n) (h1:n < 9223372036854775808) (f:Int→Option R):letN (IntKind.wrap .i64 n) f=f n:=by rw [zal h0 h1]; rfl
@[simp] theorem zG9 (x:Option R):sif True x=x:=zaa trivial x
@[simp] theorem zGt (x y:Option R):brK (decide True) x y=x:=rfl
@[simp] theorem zFX (x y:Option R):brK (decide False) x y=y:=rfl
end
@[simp] theorem zCs (a b:List D):zdj (a++b)=(zdj a && zdj b):=by simp [zdj]
@[simp] theorem zD4 (n:Nat) (a b:List D):zdT n (a++b)=(zdT n a && zdT n b):=by simp [zdT]
@[simp] theorem zCZ (n:Nat) (a b:List D):zfv n (a++b)=(zfv n a && zfv n b):=by simp [zfv]
@[simp] theorem zD5 (a b:List D):ze3 (a++b)=(ze3 a && ze3 b):=by simp [ze3]
theorem zut {T:Tb} {i o:Nat} {cs:List D} (h:T[i]? =some cs) (ho:o < cs.length) (x y:D):zaQ (setT T i o y) i o [x]=T.set i (cs.take o++[x]++cs.drop (o+1)):=by
 rw [zur h,zcM (zgO h _),List.set_set];congr 1;simp only [List.take_set,List.drop_set]
 rw [List.set_eq_of_length_le (by simp; omega),show o+[x].length=o+1 from rfl]
 simp
theorem zBh {R:Type} {T:Tb} {i o:Nat} {cs:List D} (h:T[i]? =some cs) (y:D) (f:List D→Option R):getK (setT T i o y) i f=f (cs.set o y):=by
 rw [zur h]; exact zag (zgO h _) f
end Wf

namespace Wf
open Go Go.RowKit
abbrev xor8 (a b:Int):Int:=bits .xor .u8 a b
theorem zrt (n:Int):0≤IntKind.u8.wrap n∧IntKind.u8.wrap n < 256:=by
 have e:IntKind.u8.wrap n=n % 256:=by simp [IntKind.wrap,IntKind.bits,IntKind.signed]
 rw [e]; omega
theorem zxp {n:Int} (h0:0≤n) (h1:n < 256):IntKind.u8.wrap n=n:=by
 have e:IntKind.u8.wrap n=n % 256:=by simp [IntKind.wrap,IntKind.bits,IntKind.signed]
 rw [e]; omega
theorem zC0 {n:Int} (h0:0≤n) (h1:n < 18446744073709551616):IntKind.u64.wrap n=n:=by
 have e:IntKind.u64.wrap n=n % 18446744073709551616:=by simp [IntKind.wrap,IntKind.bits,IntKind.signed]
 rw [e]; omega
theorem zdQ (m n:Nat) (hm:m < 256) (hn:n < 256):xor8 m n=((m ^^^ n:Nat):Int):=by
 have h:m ^^^ n < 2 ^ 8:=Nat.xor_lt_two_pow (by omega) (by omega)
 have e:((BitVec.ofInt 8 (m:Int)) ^^^ (BitVec.ofInt 8 (n:Int))).toNat=m ^^^ n:=by
  rw [BitVec.toNat_xor];simp [Nat.mod_eq_of_lt hm,Nat.mod_eq_of_lt hn]
 show IntKind.u8.wrap (((BitVec.ofInt 8 (m:Int)) ^^^ (BitVec.ofInt 8 (n:Int))).toNat:Int)=_;rw [e]
 exact zxp (by omega) (by omega)
theorem zoZ (a b:Int):0≤xor8 a b∧xor8 a b < 256:=zrt _
def Byt (a:Int):Prop:=0≤a∧a < 256
theorem zeK {a:Int} (h:Byt a):∃ m:Nat,m < 256∧a=m:=⟨a.toNat,by have:=h.1; have:=h.2; omega,by have:=h.1; omega⟩
theorem zGu {m:Nat} (h:m < 256):Byt (m:Int):=⟨by omega,by omega⟩
theorem zn4 {m n:Nat} (hm:m < 256) (hn:n < 256):m ^^^ n < 256:=Nat.xor_lt_two_pow (n:=8) (by omega) (by omega)
theorem zn5 (a b:Int):Byt (xor8 a b):=zoZ a b
theorem zn6 {a b:Int} (ha:Byt a) (hb:Byt b):xor8 a b=xor8 b a:=by
 obtain ⟨m,hm,rfl⟩:=zeK ha; obtain ⟨n,hn,rfl⟩:=zeK hb;rw [zdQ _ _ hm hn,zdQ _ _ hn hm,Nat.xor_comm]
theorem zgX {a b c:Int} (ha:Byt a) (hb:Byt b) (hc:Byt c):xor8 (xor8 a b) c=xor8 a (xor8 b c):=by
 obtain ⟨m,hm,rfl⟩:=zeK ha; obtain ⟨n,hn,rfl⟩:=zeK hb; obtain ⟨k,hk,rfl⟩:=zeK hc;rw [zdQ _ _ hm hn,zdQ _ _ hn hk,zdQ _ _ (zn4 hm hn) hk,zdQ _ _ hm (zn4 hn hk),Nat.xor_assoc]
theorem zwg {a:Int} (ha:Byt a):xor8 a a=0:=by
 obtain ⟨m,hm,rfl⟩:=zeK ha;rw [zdQ _ _ hm hm,Nat.xor_self]; rfl
theorem zru {a:Int} (ha:Byt a):xor8 a 0=a:=by
 obtain ⟨m,hm,rfl⟩:=zeK ha
 have:=zdQ m 0 hm (by omega)
 rw [Nat.xor_zero] at this; exact this
theorem zBi {a:Int} (ha:Byt a):xor8 0 a=a:=by rw [zn6 ⟨by omega,by omega⟩ ha,zru ha]
theorem zuu:Byt 0:=⟨by omega,by omega⟩
def dbl (a:Int):Int:=if 128≤a then xor8 (IntKind.u8.wrap (a*2)) 29 else IntKind.u8.wrap (a*2)
def mulA:Nat→Int→Int→Int→Int
 | 0,_,_,o=>o
 | n+1,a,b,o=>mulA n (dbl a) (b / 2) (if bits .and .u8 b 1=1 then xor8 o a else o)
theorem zBj (n:Nat) (a o:Int):mulA n a 0 o=o:=by
 induction n generalizing a with
 | zero=>rfl
 | succ n ih=>
  show mulA n (dbl a) (0 / 2) (if bits .and .u8 0 1=1 then xor8 o a else o)=o
  rw [show (0:Int) / 2=0 from rfl,if_neg (by decide),ih]
def mul8 (a b:Int):Int:=mulA 8 a b 0
theorem zBk (a:Int):0≤dbl a∧dbl a < 256:=by unfold dbl; split<;>exact zrt _
theorem ztm:∀ (n:Nat) (a b o:Int),(0≤o∧o < 256)→0≤mulA n a b o∧mulA n a b o < 256
 | 0,_,_,_,h=>h
 | n+1,a,b,o,h=>ztm n _ _ _ (by split; exact zoZ _ _; exact h)
theorem zzK (a b:Int):0≤mul8 a b∧mul8 a b < 256:=ztm _ _ _ _ (by omega)
theorem zfY (a b:Int):Byt (mul8 a b):=zzK a b
def dblN (a:Nat):Nat:=if 128≤a then (a*2 % 256) ^^^ 29 else a*2 % 256
theorem zkP {a:Nat} (h:a < 256):dblN a < 256:=by
 unfold dblN; split
 ·exact zn4 (by omega) (by omega)
 ·omega
theorem zxq {a:Nat} (h:a < 256):dbl a=(dblN a:Nat):=by
 unfold dbl dblN
 have e:IntKind.u8.wrap ((a:Int)*2)=((a*2 % 256:Nat):Int):=by
  simp [IntKind.wrap,IntKind.bits,IntKind.signed]
 rw [e]
 by_cases h1:128≤a
 ·rw [if_pos (by omega),if_pos h1]
  exact zdQ _ 29 (by omega) (by omega)
 ·rw [if_neg (by omega),if_neg h1]
def mulN:Nat→Nat→Nat→Nat→Nat
 | 0,_,_,o=>o
 | n+1,a,b,o=>mulN n (dblN a) (b / 2) (if b % 2=1 then o ^^^ a else o)
theorem and1 (b:Nat) (hb:b < 256):bits .and .u8 (b:Int) 1=((b % 2:Nat):Int):=by
 have e:((BitVec.ofInt 8 (b:Int)) &&& (BitVec.ofInt 8 1)).toNat=b % 2:=by
  rw [BitVec.toNat_and]
  have:(BitVec.ofInt 8 (1:Int)).toNat=1:=by decide
  rw [this,Nat.and_one_is_mod];simp [Nat.mod_eq_of_lt hb]
 show IntKind.u8.wrap (((BitVec.ofInt 8 (b:Int)) &&& (BitVec.ofInt 8 (1:Int))).toNat:Int)=_;rw [e]
 exact zxp (by omega) (by omega)
theorem zuv:∀ (n:Nat) {a b o:Nat},a < 256→b < 256→o < 256→mulA n a b o=(mulN n a b o:Nat)∧mulN n a b o < 256
 | 0,_,_,_,_,_,ho=>⟨rfl,ho⟩
 | n+1,a,b,o,ha,hb,ho=>by
  show mulA n (dbl a) ((b:Int) / 2) (if bits .and .u8 (b:Int) 1=1 then xor8 o a else o)=(mulN n (dblN a) (b / 2) (if b % 2=1 then o ^^^ a else o):Nat)∧_
  rw [zxq ha,and1 b hb,show (b:Int) / 2=((b / 2:Nat):Int) by omega]
  by_cases h1:b % 2=1
  ·have:=zuv n (zkP ha) (show b / 2 < 256 by omega) (zn4 ho ha)
   rw [if_pos (by omega),if_pos h1,zdQ _ _ ho ha]
   exact ⟨this.1,by show mulN n (dblN a) (b / 2) (if b % 2=1 then o ^^^ a else o) < 256; rw [if_pos h1]; exact this.2⟩
  ·have:=zuv n (zkP ha) (show b / 2 < 256 by omega) ho
   rw [if_neg (by omega),if_neg h1]
   exact ⟨this.1,by show mulN n (dblN a) (b / 2) (if b % 2=1 then o ^^^ a else o) < 256; rw [if_neg h1]; exact this.2⟩
def mN (a b:Nat):Nat:=mulN 8 a b 0
theorem zem {a b:Nat} (ha:a < 256) (hb:b < 256):mul8 a b=(mN a b:Nat)∧mN a b < 256:=zuv 8 (o:=0) ha hb (by omega)
def dV (v:BitVec 8):BitVec 8:=(v <<< 1) ^^^ (if v.msb then 29#8 else 0#8)
theorem zGv (u v:BitVec 8):dV (u ^^^ v)=dV u ^^^ dV v:=by
 unfold dV;rw [BitVec.shiftLeft_xor_distrib,BitVec.msb_xor]
 have e:(if (u.msb ^^ v.msb)=true then 29#8 else 0#8)=(if u.msb=true then 29#8 else 0#8) ^^^ (if v.msb=true then 29#8 else 0#8):=by
  cases u.msb<;>cases v.msb<;>decide
 rw [e]
 ac_rfl
theorem zBl:∀ a < 256,dblN a=(dV (BitVec.ofNat 8 a)).toNat:=by decide+kernel
theorem zwh (a:Nat) (ha:a < 256) (b:Nat) (hb:b < 256):dblN (a ^^^ b)=dblN a ^^^ dblN b:=by
 have e:BitVec.ofNat 8 (a ^^^ b)=BitVec.ofNat 8 a ^^^ BitVec.ofNat 8 b:=by
  apply BitVec.eq_of_toNat_eq;rw [BitVec.toNat_xor];simp [Nat.mod_eq_of_lt ha,Nat.mod_eq_of_lt hb,Nat.mod_eq_of_lt (zn4 ha hb)]
 rw [zBl _ (zn4 ha hb),zBl _ ha,zBl _ hb,e,zGv,BitVec.toNat_xor]
theorem zuw:∀ (n:Nat) {a a' b o o':Nat},a < 256→a' < 256→mulN n (a ^^^ a') b (o ^^^ o')=mulN n a b o ^^^ mulN n a' b o'
 | 0,_,_,_,_,_,_,_=>rfl
 | n+1,a,a',b,o,o',ha,ha'=>by
  show mulN n (dblN (a ^^^ a')) (b / 2) (if b % 2=1 then (o ^^^ o') ^^^ (a ^^^ a') else o ^^^ o')=mulN n (dblN a) (b / 2) (if b % 2=1 then o ^^^ a else o) ^^^ mulN n (dblN a') (b / 2) (if b % 2=1 then o' ^^^ a' else o')
  rw [zwh a ha a' ha']
  by_cases h1:b % 2=1
  ·rw [if_pos h1,if_pos h1,if_pos h1,show (o ^^^ o') ^^^ (a ^^^ a')=(o ^^^ a) ^^^ (o' ^^^ a') by
    rw [Nat.xor_assoc,Nat.xor_assoc,←Nat.xor_assoc o' a a',Nat.xor_comm o' a,Nat.xor_assoc a o' a']]
   exact zuw n (zkP ha) (zkP ha')
  ·rw [if_neg h1,if_neg h1,if_neg h1];exact zuw n (zkP ha) (zkP ha')
theorem zGw {a a':Nat} (b:Nat) (ha:a < 256) (ha':a' < 256):mN (a ^^^ a') b=mN a b ^^^ mN a' b:=zuw 8 (o:=0) (o':=0) ha ha'
theorem zC1 {a a' b:Int} (ha:Byt a) (ha':Byt a') (hb:Byt b):mul8 (xor8 a a') b=xor8 (mul8 a b) (mul8 a' b):=by
 obtain ⟨m,hm,rfl⟩:=zeK ha; obtain ⟨n,hn,rfl⟩:=zeK ha'; obtain ⟨k,hk,rfl⟩:=zeK hb;rw [zdQ _ _ hm hn,(zem (zn4 hm hn) hk).1,(zem hm hk).1,(zem hn hk).1,zdQ _ _ (zem hm hk).2 (zem hn hk).2,zGw k hm hn]
def pow8:Nat→Int
 | 0=>1
 | k+1=>dbl (pow8 k)
theorem ziD (k:Nat):0≤pow8 k∧pow8 k < 256:=by
 cases k with
 | zero=>exact ⟨by decide,by decide⟩
 | succ k=>exact zBk _
theorem zyD (k:Nat):Byt (pow8 k):=ziD k
def powN:Nat→Nat
 | 0=>1
 | k+1=>dblN (powN k)
theorem zh0:∀ k,powN k < 256
 | 0=>by decide
 | k+1=>zkP (zh0 k)
theorem zlT:∀ k,pow8 k=(powN k:Nat)
 | 0=>rfl
 | k+1=>by show dbl (pow8 k)=_; rw [zlT k,zxq (zh0 k)]; rfl
def logF (a:Nat):Nat→Nat→Nat→Nat
 | 0,_,_=>255
 | f+1,x,n=>if x=a then n else logF a f (dblN x) (n+1)
def logN (a:Nat):Nat:=logF a 255 1 0
def invN (a:Nat):Nat:=if a=0 then 0 else powN ((255 - logN a) % 255)
theorem zxr:∀ k < 6,∀ x < 256,mN (mN x (powN k)) (invN (powN k))=x:=by decide+kernel
theorem zxs:∀ k < 6,∀ j < k,∀ x < 256,mN (mN x (powN j) ^^^ mN x (powN k)) (invN (powN j ^^^ powN k))=x:=by decide+kernel
theorem zxt:∀ x < 256,mN x 1=x:=by decide+kernel
theorem zE8:∀ a < 256,a≠0→logN a < 255∧powN (logN a)=a:=by decide+kernel
theorem zxu (a:Nat):invN a < 256:=by unfold invN; split; omega; exact zh0 _
theorem zmD:∀ (n:Nat) (b:Int),mulA n 0 b 0=0
 | 0,_=>rfl
 | n+1,b=>by
  show mulA n (dbl 0) (b / 2) (if bits .and .u8 b 1=1 then xor8 0 0 else 0)=0
  rw [show dbl 0=0 by decide,show xor8 0 0=0 by decide,ite_self,zmD n]
theorem zn7 (b:Int):mul8 0 b=0:=zmD 8 b
theorem zqw {a:Int} (h:Byt a):mul8 a 1=a:=by
 obtain ⟨m,hm,rfl⟩:=zeK h
 have:=(zem hm (show 1 < 256 by omega)).1
 rw [zxt m hm] at this; exact this
theorem zE9 {k:Nat} (hk:k < 6) {x:Int} (h:Byt x):mul8 (mul8 x (pow8 k)) ((invN (pow8 k).toNat:Nat):Int)=x:=by
 obtain ⟨m,hm,rfl⟩:=zeK h;rw [zlT,Int.toNat_natCast,(zem hm (zh0 k)).1,(zem (zem hm (zh0 k)).2 (zxu _)).1,zxr k hk m hm]
theorem zFa {j k:Nat} (hk:k < 6) (hj:j < k) {x:Int} (h:Byt x):mul8 (xor8 (mul8 x (pow8 j)) (mul8 x (pow8 k))) ((invN (xor8 (pow8 j) (pow8 k)).toNat:Nat):Int)=x:=by
 obtain ⟨m,hm,rfl⟩:=zeK h;have h1:=zem hm (zh0 j);have h2:=zem hm (zh0 k);rw [zlT,zlT,zdQ _ _ (zh0 j) (zh0 k),Int.toNat_natCast,h1.1,h2.1,zdQ _ _ h1.2 h2.2,(zem (zn4 h1.2 h2.2) (zxu _)).1,zxs k hk j hj m hm]
end Wf

namespace Wf
open Go Go.RowKit
set_option linter.unusedSimpArgs false
set_option linter.unusedVariables false
structure Sec (l:List Int):Prop where
 len:l.length=32
 byt:∀ n∈l,0≤n∧n < 256
def zgk:List Int:=List.replicate 32 0
theorem zkQ:Sec zgk:=⟨by simp [zgk],fun n h=>by rw [(List.mem_replicate.1 h).2]; omega⟩
theorem zBm {x:List Int} (h:Sec x):x≠[]:=by intro e; have:=h.len; rw [e] at this; cases this
def getB (l:List Int) (i:Nat):Int:=l.getD i 0
theorem zux {l:List Int} {i:Nat} {x:Int} (h:l[i]? =some x):getB l i=x:=by simp [getB,List.getD_eq_getElem?_getD,h]
theorem zm1 {l:List Int} {i:Nat} (h:i < l.length):l[i]? =some (getB l i):=by simp [getB,List.getD_eq_getElem?_getD,h]
theorem zdm {l:List Int} (h:Sec l) (i:Nat):Byt (getB l i):=by
 unfold getB;rw [List.getD_eq_getElem?_getD]
 cases e:l[i]? with
 | none=>exact zuu
 | some x=>exact h.byt x (List.mem_of_getElem? e)
theorem zBn {a b:List Int} (hl:a.length=b.length) (h:∀ i,i < a.length→getB a i=getB b i):a=b:=by
 apply List.ext_getElem?;intro i
 by_cases hi:i < a.length
 ·rw [zm1 hi,zm1 (by omega),h i hi]
 ·rw [List.getElem?_eq_none (by omega),List.getElem?_eq_none (by omega)]
theorem zkR (i:Nat):getB zgk i=0:=by
 unfold getB zgk;rw [List.getD_eq_getElem?_getD,List.getElem?_replicate];split<;>rfl
theorem zD6 {l:List Int} (hl:l.length=32) (h:∀ i,i < 32→Byt (getB l i)):Sec l:=⟨hl,fun n hn=>by
 obtain ⟨i,hi,rfl⟩:=List.mem_iff_getElem.1 hn
 have:=h i (by omega)
 rw [zux (List.getElem?_eq_getElem hi)] at this;exact this⟩
theorem x1 {s x:Int} (hs:Byt s) (hx:Byt x):xor8 (xor8 s x) s=x:=by
 rw [zn6 hs hx,zgX hx hs hs,zwg hs,zru hx]
theorem x3 {x y:Int} (hx:Byt x) (hy:Byt y):xor8 (xor8 x y) x=y:=x1 hx hy
theorem x2 {s x y:Int} (hs:Byt s) (hx:Byt x) (hy:Byt y):xor8 (xor8 (xor8 s x) y) s=xor8 x y:=by
 rw [zgX hs hx hy,x1 hs (zn5 _ _)]
theorem x4 {u v w:Int} (hu:Byt u) (hv:Byt v) (hw:Byt w):xor8 (xor8 u v) (xor8 w v)=xor8 u w:=by
 rw [zgX hu hv (zn5 _ _),zn6 hw hv,←zgX hv hv hw,zwg hv,zBi hw]
theorem x5 {s x y:Int} (hs:Byt s) (hx:Byt x) (hy:Byt y):xor8 (xor8 s x) y=xor8 (xor8 s y) x:=by
 rw [zgX hs hx hy,zn6 hx hy,←zgX hs hy hx]
def addL (a b:List Int):List Int:=if a.length=b.length then List.zipWith xor8 a b else []
def zpW (a:List Int) (f:Int):List Int:=a.map (mul8 · f)
theorem zo0 {a b:List Int} (h:a.length=b.length):(addL a b).length=a.length:=by simp [addL,h]
theorem zxv {a b:List Int} (h:a.length=b.length) {i:Nat} (hi:i < a.length):getB (addL a b) i=xor8 (getB a i) (getB b i):=by
 refine zux ?_;unfold addL
 rw [if_pos h,List.getElem?_zipWith,zm1 hi,zm1 (show i < b.length by omega)]
theorem zkS (a:List Int) (f:Int):(zpW a f).length=a.length:=by simp [zpW]
theorem zuy {a:List Int} {f:Int} {i:Nat} (hi:i < a.length):getB (zpW a f) i=mul8 (getB a i) f:=by
 refine zux ?_;simp [zpW,zm1 hi]
theorem zh1 {a b:List Int} (ha:Sec a) (hb:Sec b):Sec (addL a b):=
 zD6 (by rw [zo0 (by rw [ha.len,hb.len]),ha.len]) fun i hi=>by rw [zxv (by rw [ha.len,hb.len]) (by rw [ha.len]; exact hi)]; exact zn5 _ _
theorem zn8 {a:List Int} (f:Int) (ha:Sec a):Sec (zpW a f):=
 zD6 (by rw [zkS,ha.len]) fun i hi=>by rw [zuy (by rw [ha.len]; exact hi)]; exact zfY _ _
def sumK (f:Nat→Int) (n:Nat) (ls:List (List Int)):Nat→List Int
 | 0=>List.replicate n 0
 | k+1=>List.zipWith xor8 (sumK f n ls k) ((ls.getD k []).map (mul8 · (f k)))
theorem zdB {ls:List (List Int)} {k:Nat} (h:k < ls.length):ls.getD k []∈ls:=by
 rw [List.getD_eq_getElem?_getD,List.getElem?_eq_getElem h]; exact List.getElem_mem h
theorem zlU {f:Nat→Int} {n:Nat} {ls:List (List Int)} (h:∀ l∈ls,l.length=n):∀ {k:Nat},k≤ls.length→(sumK f n ls k).length=n
 | 0,_=>by simp [sumK]
 | k+1,hk=>by
  simp only [sumK,List.length_zipWith,List.length_map,zlU h (show k≤ls.length by omega),h _ (zdB (show k < ls.length by omega))]
  omega
theorem zC2 {f:Nat→Int} {n:Nat} {ls:List (List Int)}:∀ {k:Nat},∀ x∈sumK f n ls k,0≤x∧x < 256
 | 0,x,hx=>by rw [(List.mem_replicate.1 hx).2]; omega
 | k+1,x,hx=>by
  simp only [sumK] at hx;rw [List.mem_iff_getElem?] at hx;obtain ⟨j,hj⟩:=hx;rw [List.getElem?_zipWith] at hj;split at hj
  ·injection hj with hj; subst hj; exact zoZ _ _
  ·cases hj
theorem zqx {f:Nat→Int} {ls:List (List Int)} (h:∀ l∈ls,l.length=32) {k:Nat} (hk:k≤ls.length):Sec (sumK f 32 ls k):=⟨zlU h hk,zC2⟩
def sumP (n:Nat) (ls:List (List Int)):List Int:=sumK (fun _=>1) n ls ls.length
def sumQ (n:Nat) (ls:List (List Int)):List Int:=sumK pow8 n ls ls.length
theorem zuz {ls:List (List Int)} (h:∀ l∈ls,Sec l):Sec (sumP 32 ls):=zqx (fun l hl=>(h l hl).len) (Nat.le_refl _)
theorem zuA {ls:List (List Int)} (h:∀ l∈ls,Sec l):Sec (sumQ 32 ls):=zqx (fun l hl=>(h l hl).len) (Nat.le_refl _)
def xsum (g:Nat→Int):Nat→Int
 | 0=>0
 | k+1=>xor8 (xsum g k) (g k)
theorem zyE (g:Nat→Int):∀ k,Byt (xsum g k)
 | 0=>zuu
 | k+1=>zn5 _ _
theorem ztn {f:Nat→Int} {n:Nat} {ls:List (List Int)} (h:∀ l∈ls,l.length=n) {i:Nat} (hi:i < n):∀ {k:Nat},k≤ls.length→getB (sumK f n ls k) i=xsum (fun j=>mul8 (getB (ls.getD j []) i) (f j)) k
 | 0,_=>by simp [sumK,getB,List.getD_eq_getElem?_getD,hi,xsum]
 | k+1,hk=>by
  refine zux ?_
  have h1:=ztn (f:=f) h hi (show k≤ls.length by omega)
  have h2:i < (sumK f n ls k).length:=by rw [zlU h (by omega)]; exact hi
  have h3:i < (ls.getD k []).length:=by rw [h _ (zdB (by omega))]; exact hi
  simp only [sumK];rw [List.getElem?_zipWith,zm1 h2,h1,List.getElem?_map,zm1 h3];rfl
theorem zqy {g g':Nat→Int} {j:Nat} (hg:∀ i,Byt (g i)) (hz:g' j=0) (he:∀ i,i≠j→g' i=g i):∀ {k:Nat},j < k→xsum g k=xor8 (xsum g' k) (g j)
 | 0,h=>absurd h (Nat.not_lt_zero _)
 | k+1,h=>by
  by_cases e:k=j
  ·subst e
   have:∀ {m:Nat},m≤k→xsum g' m=xsum g m:=by
    intro m hm
    induction m with
    | zero=>rfl
    | succ m ih=>show xor8 (xsum g' m) (g' m)=xor8 (xsum g m) (g m); rw [ih (by omega),he m (by omega)]
   show xor8 (xsum g k) (g k)=xor8 (xor8 (xsum g' k) (g' k)) (g k);rw [this (Nat.le_refl _),hz,zru (zyE _ _)]
  ·have hg':Byt (g' k):=by rw [he k e]; exact hg k
   show xor8 (xsum g k) (g k)=xor8 (xor8 (xsum g' k) (g' k)) (g j)
   rw [zqy hg hz he (show j < k by omega),he k e,x5 (zyE _ _) (hg j) (hg k)]
def zdk (ls:List (List Int)):List Nat:=(List.range ls.length).filter fun i=>(ls.getD i []).isEmpty
def fitS (n:Int) (l:List Int):Bool:=l.isEmpty || decide ((l.length:Int)=n)
def zj6 (n:Nat) (l:List Int):List Int:=l.take n++(List.replicate n 0).drop (l.take n).length
theorem ziE (n:Nat) (l:List Int):(zj6 n l).length=n:=by simp [zj6]; omega
theorem zrv {n:Nat} {l:List Int} (h:l.length=n):zj6 n l=l:=by unfold zj6; rw [List.take_of_length_le (by omega),List.drop_of_length_le (by simp [h])]; simp
theorem zwi (n:Nat):zj6 n []=List.replicate n 0:=by simp [zj6]
def zcx (ls:List (List Int)):List (List Int):=ls.map (zj6 32)
def inv8 (a:Int):Int:=(invN a.toNat:Nat)
theorem zyF (a:Int):Byt (inv8 a):=zGu (zxu _)
def byQ (q:List Int) (ls:List (List Int)) (k:Nat):List Int:=zpW (addL q (sumQ 32 ls)) (inv8 (pow8 k))
def twoX (p q:List Int) (ls:List (List Int)) (j k:Nat):List Int:=
 zpW (addL (addL q (sumQ 32 ls)) (zpW (addL p (sumP 32 ls)) (pow8 k))) (inv8 (xor8 (pow8 j) (pow8 k)))
def twoY (p q:List Int) (ls:List (List Int)) (j k:Nat):List Int:=addL (addL p (sumP 32 ls)) (twoX p q ls j k)
def zkT (p q:List Int) (ls:List (List Int)):Option (List (List Int)):=
 if ls.length < 1∨8 < ls.length∨ls.all (fitS 32)=false∨[p,q].all (fitS 32)=false then none
 else if 2 < (zdk ls).length+(zdk [p,q]).length then none
 else match zdk ls with
  | [j,k]=>some (((zcx ls).set j (twoX p q (zcx ls) j k)).set k (twoY p q (zcx ls) j k))
  | [j]=>if 0 < p.length then some ((zcx ls).set j (addL p (sumP 32 (zcx ls)))) else some ((zcx ls).set j (byQ q (zcx ls) j))
  | _=>some (zcx ls)
theorem zuB (p q:List Int):(zdk [p,q]).length=(if p=[] then 1 else 0)+(if q=[] then 1 else 0):=by
 cases p<;>cases q<;>rfl
theorem zen {ls:List (List Int)} {i:Nat}:i∈zdk ls↔i < ls.length∧ls.getD i []=[]:=by
 unfold zdk;rw [List.mem_filter,List.mem_range,List.isEmpty_iff]
theorem zm2 (ls:List (List Int)):(zdk ls).Pairwise (· < ·):=List.Pairwise.filter _ (List.pairwise_lt_range)
end Wf

namespace Wf
open Go Go.RowKit
set_option linter.unusedSimpArgs false
set_option linter.unusedVariables false
set_option linter.unusedSectionVars false
theorem zC3 {ls:List (List Int)} {k:Nat} (hk:k < ls.length):(zcx ls)[k]? =some (zj6 32 (ls.getD k [])):=by
 unfold zcx;rw [List.getElem?_map,List.getElem?_eq_getElem hk];simp [List.getD_eq_getElem?_getD,List.getElem?_eq_getElem hk]
theorem zcV (ls:List (List Int)):(zcx ls).length=ls.length:=by simp [zcx]
theorem zHu {a b:List (List Int)} (hl:a.length=b.length) (h:∀ i,i < a.length→a.getD i []=b.getD i []):a=b:=by
 apply List.ext_getElem?;intro i
 by_cases hi:i < a.length
 ·have:=h i hi
  simp only [List.getD_eq_getElem?_getD,List.getElem?_eq_getElem hi,List.getElem?_eq_getElem (show i < b.length by omega)] at this ⊢
  simpa using this
 ·rw [List.getElem?_eq_none (by omega),List.getElem?_eq_none (by omega)]
structure Holes (ps ls:List (List Int)):Prop where
 len:ps.length=ls.length
 or:∀ i,i < ls.length→ps.getD i []=[]∨ps.getD i []=ls.getD i []
section
variable {ps ls:List (List Int)} (h:Holes ps ls) (hs:∀ l∈ls,Sec l)
include h hs
theorem zhO {i:Nat} (hi:i < ls.length):(zcx ps).getD i []=if i∈zdk ps then zgk else ls.getD i []:=by
 rw [List.getD_eq_getElem?_getD,zC3 (by rw [h.len]; exact hi)]
 by_cases hm:i∈zdk ps
 ·rw [if_pos hm,(zen.1 hm).2,zwi]; rfl
 ·rw [if_neg hm];rcases h.or i hi with e | e
  ·exact absurd (zen.2 ⟨by rw [h.len]; exact hi,e⟩) hm
  ·rw [e,zrv (hs _ (zdB hi)).len]; rfl
theorem zuC:∀ l∈zcx ps,l.length=32:=by
 intro l hl;unfold zcx at hl;obtain ⟨y,_,rfl⟩:=List.mem_map.1 hl;exact ziE 32 y
theorem zBo:∀ l∈ls,l.length=32:=fun l hl=>(hs l hl).len
theorem zBp (f:Nat→Int) {j:Nat} (hm:zdk ps=[j]) {i:Nat} (hi:i < 32):
  getB (sumK f 32 ls ls.length) i=xor8 (getB (sumK f 32 (zcx ps) (zcx ps).length) i) (mul8 (getB (ls.getD j []) i) (f j)):=by
 have hj:=zen.1 (show j∈zdk ps by rw [hm]; exact List.mem_cons_self ..)
 rw [ztn (zBo h hs) hi (Nat.le_refl _),ztn (zuC h hs) hi (Nat.le_refl _),zcV,h.len]
 refine zqy (fun _=>zfY _ _) ?_ ?_ (by have:=hj.1; rw [h.len] at this; exact this)
 ·try dsimp only
  rw [zhO h hs (by rw [←h.len]; exact hj.1),if_pos (by rw [hm]; exact List.mem_cons_self ..),zkR]
  exact zn7 _
 ·intro k hk
  try dsimp only
  by_cases hl:k < ls.length
  ·rw [zhO h hs hl,if_neg (by rw [hm]; simpa using hk)]
  ·have e1:(zcx ps).getD k []=[]:=by rw [List.getD_eq_getElem?_getD,List.getElem?_eq_none (by rw [zcV,h.len]; omega)]; rfl
   have e2:ls.getD k []=[]:=by rw [List.getD_eq_getElem?_getD,List.getElem?_eq_none (by omega)]; rfl
   rw [e1,e2]
theorem zBq (f:Nat→Int) {j k:Nat} (hjk:j≠k) (hm:zdk ps=[j,k]) {i:Nat} (hi:i < 32):
  getB (sumK f 32 ls ls.length) i=xor8 (xor8 (getB (sumK f 32 (zcx ps) (zcx ps).length) i) (mul8 (getB (ls.getD j []) i) (f j))) (mul8 (getB (ls.getD k []) i) (f k)):=by
 have hj:=zen.1 (show j∈zdk ps by rw [hm]; simp)
 have hk:=zen.1 (show k∈zdk ps by rw [hm]; simp)
 rw [h.len] at hj hk;rw [ztn (zBo h hs) hi (Nat.le_refl _),ztn (zuC h hs) hi (Nat.le_refl _),zcV,h.len]
 let g1:Nat→Int:=fun m=>if m=k then 0 else mul8 (getB (ls.getD m []) i) (f m)
 rw [zqy (g':=g1) (j:=k) (fun _=>zfY _ _) (by simp [g1]) (fun m hm=>by simp [g1,hm]) hk.1]
 congr 1
 have hg1:mul8 (getB (ls.getD j []) i) (f j)=g1 j:=by simp [g1,hjk]
 rw [hg1]
 refine zqy (fun m=>by simp only [g1]; split; exact zuu; exact zfY _ _) ?_ ?_ hj.1
 ·try dsimp only
  rw [zhO h hs hj.1,if_pos (by rw [hm]; simp),zkR]
  exact zn7 _
 ·intro m hmj;dsimp only [g1]
  by_cases hl:m < ls.length
  ·by_cases hmk:m=k
   ·subst hmk
    rw [zhO h hs hl,if_pos (by rw [hm]; simp),if_pos rfl,zkR]
    exact zn7 _
   ·rw [zhO h hs hl,if_neg (by rw [hm]; simp [hmj,hmk]),if_neg hmk]
  ·have e1:(zcx ps).getD m []=[]:=by rw [List.getD_eq_getElem?_getD,List.getElem?_eq_none (by rw [zcV,h.len]; omega)]; rfl
   have e2:ls.getD m []=[]:=by rw [List.getD_eq_getElem?_getD,List.getElem?_eq_none (by omega)]; rfl
   rw [e1,e2,if_neg (by omega)]
theorem zqz (f:Nat→Int):Sec (sumK f 32 (zcx ps) (zcx ps).length):=zqx (zuC h hs) (Nat.le_refl _)
theorem zlV (f:Nat→Int):Sec (sumK f 32 ls ls.length):=zqx (zBo h hs) (Nat.le_refl _)
theorem zGx {j:Nat} (hm:zdk ps=[j]):addL (sumP 32 ls) (sumP 32 (zcx ps))=ls.getD j []:=by
 have hj:=zen.1 (show j∈zdk ps by rw [hm]; exact List.mem_cons_self ..)
 rw [h.len] at hj
 have a1:=zlV h hs (fun _=>1)
 have a2:=zqz h hs (fun _=>1)
 have hl:(sumP 32 ls).length=(sumP 32 (zcx ps)).length:=by rw [show sumP 32 ls=_ from rfl,show sumP 32 (zcx ps)=_ from rfl]; exact a1.len.trans a2.len.symm
 have l1:(sumP 32 ls).length=32:=a1.len
 refine zBn (by rw [zo0 hl,l1,(hs _ (zdB hj.1)).len]) fun i hi=>?_
 rw [zo0 hl,l1] at hi
 rw [zxv hl (by rw [l1]; exact hi)]
 have:=zBp h hs (fun _=>1) hm hi
 unfold sumP;rw [this,zqw (zdm (hs _ (zdB hj.1)) i)];exact x1 (zdm a2 i) (zdm (hs _ (zdB hj.1)) i)
theorem zGy {j:Nat} (h6:ls.length≤6) (hm:zdk ps=[j]):byQ (sumQ 32 ls) (zcx ps) j=ls.getD j []:=by
 have hj:=zen.1 (show j∈zdk ps by rw [hm]; exact List.mem_cons_self ..)
 rw [h.len] at hj;have a1:=zlV h hs pow8;have a2:=zqz h hs pow8;have hl:(sumQ 32 ls).length=(sumQ 32 (zcx ps)).length:=a1.len.trans a2.len.symm;have l1:(sumQ 32 ls).length=32:=a1.len
 have l2:(addL (sumQ 32 ls) (sumQ 32 (zcx ps))).length=32:=by rw [zo0 hl,l1]
 unfold byQ
 refine zBn (by rw [zkS,l2,(hs _ (zdB hj.1)).len]) fun i hi=>?_
 rw [zkS,l2] at hi
 rw [zuy (by rw [l2]; exact hi),zxv hl (by rw [l1]; exact hi)]
 have:=zBp h hs pow8 hm hi;unfold sumQ;rw [this,x1 (zdm a2 i) (zfY _ _)]
 exact zE9 (by omega) (zdm (hs _ (zdB hj.1)) i)
theorem zC4 {j k:Nat} (h6:ls.length≤6) (hm:zdk ps=[j,k]):twoX (sumP 32 ls) (sumQ 32 ls) (zcx ps) j k=ls.getD j []∧twoY (sumP 32 ls) (sumQ 32 ls) (zcx ps) j k=ls.getD k []:=by
 have hjk:j < k:=by have:=zm2 ps; rw [hm] at this; simpa using this
 have hj:=zen.1 (show j∈zdk ps by rw [hm]; simp)
 have hk:=zen.1 (show k∈zdk ps by rw [hm]; simp)
 rw [h.len] at hj hk
 have p1:=zlV h hs (fun _=>1)
 have p2:=zqz h hs (fun _=>1)
 have q1:=zlV h hs pow8;have q2:=zqz h hs pow8;have sj:=hs _ (zdB hj.1);have sk:=hs _ (zdB hk.1);have ap:Sec (addL (sumP 32 ls) (sumP 32 (zcx ps))):=zh1 p1 p2;have aq:Sec (addL (sumQ 32 ls) (sumQ 32 (zcx ps))):=zh1 q1 q2
 have hp:∀ i,i < 32→getB (addL (sumP 32 ls) (sumP 32 (zcx ps))) i=xor8 (getB (ls.getD j []) i) (getB (ls.getD k []) i):=by
  intro i hi;have hl:(sumP 32 ls).length=(sumP 32 (zcx ps)).length:=p1.len.trans p2.len.symm
  rw [zxv hl (by rw [show (sumP 32 ls).length=32 from p1.len]; exact hi)]
  have:=zBq h hs (fun _=>1) (by omega) hm hi
  unfold sumP;rw [this,zqw (zdm sj i),zqw (zdm sk i)];exact x2 (zdm p2 i) (zdm sj i) (zdm sk i)
 have hq:∀ i,i < 32→getB (addL (sumQ 32 ls) (sumQ 32 (zcx ps))) i=xor8 (mul8 (getB (ls.getD j []) i) (pow8 j)) (mul8 (getB (ls.getD k []) i) (pow8 k)):=by
  intro i hi;have hl:(sumQ 32 ls).length=(sumQ 32 (zcx ps)).length:=q1.len.trans q2.len.symm
  rw [zxv hl (by rw [show (sumQ 32 ls).length=32 from q1.len]; exact hi)]
  have:=zBq h hs pow8 (by omega) hm hi
  unfold sumQ;rw [this];exact x2 (zdm q2 i) (zfY _ _) (zfY _ _)
 have ax:twoX (sumP 32 ls) (sumQ 32 ls) (zcx ps) j k=ls.getD j []:=by
  unfold twoX;have asc:=zn8 (pow8 k) ap;have aa:=zh1 aq asc
  refine zBn (by rw [zkS,aa.len,sj.len]) fun i hi=>?_
  rw [zkS,aa.len] at hi
  rw [zuy (by rw [aa.len]; exact hi),zxv (by rw [aq.len,asc.len]) (by rw [aq.len]; exact hi),zuy (by rw [ap.len]; exact hi),hq i hi,hp i hi,zC1 (zdm sj i) (zdm sk i) (zyD k),
   x4 (zfY _ _) (zfY _ _) (zfY _ _)]
  exact zFa (by omega) hjk (zdm sj i)
 refine ⟨ax,?_⟩;unfold twoY;rw [ax]
 refine zBn (by rw [zo0 (by rw [ap.len,sj.len]),ap.len,sk.len]) fun i hi=>?_
 rw [zo0 (by rw [ap.len,sj.len]),ap.len] at hi
 rw [zxv (by rw [ap.len,sj.len]) (by rw [ap.len]; exact hi),hp i hi]
 exact x3 (zdm sj i) (zdm sk i)
theorem zzL {p q:List Int} (h1:1≤ls.length) (h8:ls.length≤8) (hp:p=[]∨p=sumP 32 ls) (hq:q=[]∨q=sumQ 32 ls∧ls.length≤6):
  zkT p q ps=if 2 < (zdk ps).length+(zdk [p,q]).length then none else some ls:=by
 have p1:=zlV h hs (fun _=>1)
 have q1:=zlV h hs pow8
 have hfit:ps.all (fitS 32)=true:=by
  rw [List.all_eq_true];intro x hx;obtain ⟨i,hi,e⟩:=List.mem_iff_getElem.1 hx
  have hd:ps.getD i []=x:=by rw [List.getD_eq_getElem?_getD,List.getElem?_eq_getElem hi,e]; rfl
  rcases h.or i (by rw [←h.len]; exact hi) with e | e
  ·rw [hd] at e; simp [fitS,e]
  ·rw [hd] at e; rw [e]; unfold fitS; rw [(hs _ (zdB (by rw [←h.len]; exact hi))).len]; simp
 have fP:fitS 32 p=true:=by
  rcases hp with e | e
  ·simp [fitS,e]
  ·rw [e]; unfold fitS; rw [show (sumP 32 ls).length=32 from p1.len]; simp
 have fQ:fitS 32 q=true:=by
  rcases hq with e | ⟨e,_⟩
  ·simp [fitS,e]
  ·rw [e]; unfold fitS; rw [show (sumQ 32 ls).length=32 from q1.len]; simp
 have hpq:[p,q].all (fitS 32)=true:=by simp [fP,fQ]
 unfold zkT
 rw [if_neg (by rw [h.len,hfit,hpq]; rintro (e | e | e | e)<;>first | omega | cases e)]
 by_cases hc:2 < (zdk ps).length+(zdk [p,q]).length
 ·rw [if_pos hc,if_pos hc]
 ·rw [if_neg hc,if_neg hc];rw [zuB] at hc
  have hset:∀ {xs:List (List Int)},xs.length=ls.length→(∀ i,i < ls.length→xs.getD i []=ls.getD i [])→some xs=some ls:=by
   intro xs hx he
   rw [zHu hx (fun i hi=>he i (by rw [←hx]; exact hi))]
  rcases hm:zdk ps with _ | ⟨j,_ | ⟨k,_ | ⟨m,t⟩⟩⟩
  ·dsimp only
   refine hset (by rw [zcV,h.len]) fun i hi=>?_
   rw [zhO h hs hi,if_neg (by rw [hm]; simp)]
  ·dsimp only;rw [hm] at hc
   have hj:=zen.1 (show j∈zdk ps by rw [hm]; exact List.mem_cons_self ..)
   rw [h.len] at hj
   have key:∀ x,x=ls.getD j []→some ((zcx ps).set j x)=some ls:=by
    intro x hx
    refine hset (by rw [List.length_set,zcV,h.len]) fun i hi=>?_
    rw [List.getD_eq_getElem?_getD,List.getElem?_set]
    by_cases e:j=i
    ·subst e
     rw [if_pos rfl,if_pos (by rw [zcV,h.len]; exact hi),hx]; rfl
    ·rw [if_neg e,←List.getD_eq_getElem?_getD,zhO h hs hi,if_neg (by rw [hm]; simpa using fun e'=>e e'.symm)]
   by_cases hpl:0 < p.length
   ·rw [if_pos hpl];rcases hp with e | e
    ·rw [e] at hpl; cases hpl
    ·exact key _ (by rw [e]; exact zGx h hs hm)
   ·rw [if_neg hpl]
    have hp0:p=[]:=by cases p; rfl; simp at hpl
    rcases hq with e | ⟨e,h6⟩
    ·rw [if_pos hp0,if_pos e] at hc; simp at hc
    ·exact key _ (by rw [e]; exact zGy h hs h6 hm)
  ·dsimp only;rw [hm] at hc
   have hp0:¬ p=[]:=fun e=>hc (by rw [if_pos e]; simp; try omega)
   have hq0:¬ q=[]:=fun e=>hc (by rw [if_pos e]; simp; try omega)
   obtain ⟨hq,h6⟩:=hq.resolve_left hq0;have hp:=hp.resolve_left hp0
   have hjk:j < k:=by have:=zm2 ps; rw [hm] at this; simpa using this
   obtain ⟨b1,b2⟩:=zC4 h hs h6 hm;rw [hp,hq,b1,b2]
   refine hset (by rw [List.length_set,List.length_set,zcV,h.len]) fun i hi=>?_
   rw [List.getD_eq_getElem?_getD,List.getElem?_set]
   by_cases e:k=i
   ·subst e
    rw [if_pos rfl,if_pos (by rw [List.length_set,zcV,h.len]; exact hi)]; rfl
   ·rw [if_neg e,List.getElem?_set]
    by_cases e2:j=i
    ·subst e2
     rw [if_pos rfl,if_pos (by rw [zcV,h.len]; exact hi)]; rfl
    ·rw [if_neg e2,←List.getD_eq_getElem?_getD,zhO h hs hi,if_neg (by rw [hm]; simp; exact ⟨fun e'=>e2 e'.symm,fun e'=>e e'.symm⟩)]
  ·rw [hm] at hc; simp at hc; omega
end
end Wf

namespace Wf
open Go Go.RowKit
set_option linter.unusedSimpArgs false
set_option linter.unusedVariables false
def uL (l:List Int):List D:=l.map (D.int .u8)
theorem zc6 (l:List Int):D.lentL (uL l)=uL l:=by
 induction l with
 | nil=>rfl
 | cons n l ih=>unfold uL at*; simp [ih]
@[simp] theorem zdK (l:List Int):(uL l).length=l.length:=by simp [uL]
theorem zjW {l:List Int} {j:Nat} {n:Int} (h:l[j]? =some n):(uL l)[j]? =some (.int .u8 n):=by simp [uL,h]
theorem zpX {p:D→Bool} (h:∀ n,p (.int .u8 n)=true) (l:List Int):(uL l).all p=true:=by
 simp [uL,List.all_eq_true]; intro n _; exact h n
@[simp] theorem zhc (l:List Int):(uL l).all D.free=true:=zpX (fun _=>rfl) l
@[simp] theorem zFb (l:List Int):(uL l).all D.flat=true:=zpX (fun _=>rfl) l
@[simp] theorem zuD (l:List Int):ze3 (uL l)=true:=zpX (fun _=>rfl) l
@[simp] theorem zFY (l:List Int):zdj (uL l)=true:=zpX (fun _=>rfl) l
@[simp] theorem zyG (l:List Int):cells (uL l)=true:=zpX (fun _=>rfl) l
@[simp] theorem zC5 (l:List Int):zdT 1 (uL l)=true:=zpX (fun _=>rfl) l
@[simp] theorem zGz (l:List Int):zfv 1 (uL l)=true:=zpX (fun _=>rfl) l
@[simp] theorem zuE (l:List Int):D.freeL (uL l)=true:=by rw [zAO]; exact zhc l
@[simp] theorem zBr (a b:List Int):uL (a++b)=uL a++uL b:=by simp [uL]
theorem zBs (a:List Int) (n:Int):uL a++[.int .u8 n]=uL (a++[n]):=by simp [uL]
theorem zxw (n:Nat) (a:List Int):(uL a).take n=uL (a.take n):=by simp [uL,List.map_take]
theorem zxx (n:Nat) (a:List Int):(uL a).drop n=uL (a.drop n):=by simp [uL,List.map_drop]
theorem zBt (a:List Int) (i:Nat) (n:Int):(uL a).set i (.int .u8 n)=uL (a.set i n):=by simp [uL,List.map_set]
theorem zrw (n:Nat) (k:Int):List.replicate n (D.int .u8 k)=uL (List.replicate n k):=by simp [uL]
structure DS where
 l:List Int
 pend:List (Int×List Int)
 failed:Bool
def wD (w:Int×List Int):D:=.agg (.int .i64 w.1::uL w.2)
def DS.cells (s:DS):List D:=uL s.l++[.sl .own (s.pend.map wD),.bool s.failed]
structure DS.Ok (s:DS):Prop where
 len:s.l.length=1664
 byt:∀ n∈s.l,0≤n∧n < 256
 pend:∀ w∈s.pend,Sec w.2∧0≤w.1∧w.1 < 52
 fl:s.failed=true→s.pend=[]
theorem DS.Ok.ps {s:DS} (h:s.Ok):∀ w∈s.pend,Sec w.2:=fun w hw=>(h.pend w hw).1
section
variable {s:DS}
theorem zjl (h:s.l.length=1664):s.cells[1664]? =some (.sl .own (s.pend.map wD)):=by
 unfold DS.cells
 rw [List.getElem?_append_right (by simp [h])]; simp [h]
theorem zn9 (h:s.l.length=1664):s.cells[1665]? =some (.bool s.failed):=by
 unfold DS.cells
 rw [List.getElem?_append_right (by simp [h])]; simp [h]
theorem zgv (h:s.l.length=1664):s.cells.length=1666:=by simp [DS.cells,h]
def DS.base (s:DS) (a:Nat):List Int:=(s.l.drop (a*32)).take 32
theorem zyH (h:s.Ok) {a:Nat} (ha:a < 52):Sec (s.base a):=by
 refine ⟨by unfold DS.base; simp [h.len]; omega,fun n hn=>h.byt n (List.mem_of_mem_drop (List.mem_of_mem_take hn))⟩
theorem zuF (h:s.l.length=1664) {a:Nat} (ha:a < 52):(s.cells.drop (a*32)).take 32=uL (s.base a):=by
 unfold DS.cells DS.base
 rw [List.drop_append_of_le_length (by simp [h]; omega),List.take_append_of_le_length (by simp [h]; omega),zxx,zxw]
def DS.setSec (s:DS) (a:Nat) (b:List Int):DS:={ s with l:=s.l.take (a*32)++b++s.l.drop (a*32+32) }
theorem zBu (h:s.l.length=1664) {a:Nat} (ha:a < 52) (b:List Int):s.cells.take (a*32)++uL b++s.cells.drop (a*32+32)=(s.setSec a b).cells:=by
 unfold DS.cells DS.setSec
 rw [List.take_append_of_le_length (by simp [h]; omega),List.drop_append_of_le_length (by simp [h]; omega),zxw,zxx]
 simp [uL]
theorem zo1 (h:s.l.length=1664) (p:List (Int×List Int)):s.cells.take 1664++[.sl .own (p.map wD)]++s.cells.drop 1665=({ s with pend:=p }:DS).cells:=by
 unfold DS.cells
 rw [List.take_append_of_le_length (by simp [h]),List.take_of_length_le (by simp [h]),List.drop_append,List.drop_of_length_le (by simp [h])]
 simp [h]
theorem zto (h:s.l.length=1664) {a:Nat} (ha:a < 52) {b:List Int} (hb:b.length=32):(s.setSec a b).l.length=1664:=by
 unfold DS.setSec; simp [h,hb]; omega
theorem zrx (h:s.Ok) {a:Nat} (ha:a < 52) {b:List Int} (hb:Sec b):(s.setSec a b).Ok:=by
 refine ⟨zto h.len ha hb.len,fun n hn=>?_,h.pend,h.fl⟩
 unfold DS.setSec at hn;simp only [List.mem_append] at hn;rcases hn with (hn | hn) | hn
 ·exact h.byt n (List.mem_of_mem_take hn)
 ·exact hb.byt n hn
 ·exact h.byt n (List.mem_of_mem_drop hn)
theorem zry (h:s.l.length=1664) {a:Nat} (ha:a < 52) {b:List Int} (hb:b.length=32) (c:Nat) (hc:c < 52):(s.setSec a b).base c=if c=a then b else s.base c:=by
 unfold DS.setSec DS.base;dsimp only
 have l1:(s.l.take (a*32)).length=a*32:=by simp [h]; omega
 split
 ·rename_i e; subst e
  rw [List.append_assoc,List.drop_append,List.drop_of_length_le (by omega),l1]
  simp [hb]
 ·rename_i e;apply List.ext_getElem?;intro j
  by_cases hj:j < 32
  ·rw [List.getElem?_take,List.getElem?_take,if_pos hj,if_pos hj,List.getElem?_drop,List.getElem?_drop]
   by_cases hca:c < a
   ·rw [List.append_assoc,List.getElem?_append_left (by omega),List.getElem?_take,if_pos (by omega)]
   ·rw [List.getElem?_append_right (by simp [h,hb]; omega),List.getElem?_drop]
    congr 1;simp [h,hb]; omega
  ·rw [List.getElem?_take,List.getElem?_take,if_neg hj,if_neg hj]
end
def DS.may (s:DS) (a:Int):Int:=if s.failed then 5 else if a < 0∨52≤a then 4 else 0
theorem zm3 {s:DS} {a:Int}:s.may a=0↔s.failed=false∧0≤a∧a < 52:=by
 unfold DS.may;cases s.failed
 ·by_cases h:a < 0∨52≤a
  ·simp [h]; omega
  ·simp [h]; omega
 ·simp
def look (p:List (Int×List Int)) (a:Int) (b:List Int):List Int:=p.foldl (fun b w=>if w.1=a then w.2 else b) b
theorem zoa (a:Int) (b:List Int):look [] a b=b:=rfl
theorem zBv (p:List (Int×List Int)) (w:Int×List Int) (a:Int) (b:List Int):look (p++[w]) a b=if w.1=a then w.2 else look p a b:=by simp [look]
theorem zwj {p:List (Int×List Int)} {a:Int} {b:List Int} {k:Nat} {w:Int×List Int} (h:p[k]? =some w):look (p.take (k+1)) a b=if w.1=a then w.2 else look (p.take k) a b:=by
 rw [List.take_add_one,h]; simp [look]
theorem zyI {p:List (Int×List Int)} {a:Int} {b:List Int} (hp:∀ w∈p,w.2.length=32) (hb:b.length=32):(look p a b).length=32:=by
 induction p generalizing b with
 | nil=>exact hb
 | cons w p ih=>
  refine ih (fun w hw=>hp w (List.mem_cons_of_mem _ hw)) ?_
  dsimp only;split
  ·exact hp w (List.mem_cons_self ..)
  ·exact hb
theorem zC6 {p:List (Int×List Int)} {a:Int} {b:List Int} (hp:∀ w∈p,Sec w.2) (hb:Sec b):Sec (look p a b):=by
 induction p generalizing b with
 | nil=>exact hb
 | cons w p ih=>
  refine ih (fun w hw=>hp w (List.mem_cons_of_mem _ hw)) ?_
  dsimp only;split
  ·exact hp w (List.mem_cons_self ..)
  ·exact hb
def DS.sec (s:DS) (a:Int):List Int:=look s.pend a (s.base a.toNat)
theorem zGA {s:DS} (h:s.Ok) {a:Int} (h0:0≤a) (h1:a < 52):Sec (s.sec a):=zC6 (fun w hw=>(h.pend w hw).1) (zyH h (by omega))
def DS.read (s:DS) (a:Int):List Int×Int:=if s.may a≠0 then ([],s.may a) else (s.sec a,0)
def putR (s:DS) (a:Int) (b:List Int):(Int×List Int)×Int:=if s.may a≠0 then ((0,zgk),s.may a) else if b.length≠32 then ((0,zgk),1) else ((a,b),0)
abbrev DS.mayW (s:DS) (a:Int) (b:List Int):Int:=(putR s a b).2
theorem zuG {s:DS} {a:Int} {b:List Int} (h:s.mayW a b=0):s.may a=0∧b.length=32∧(putR s a b).1=(a,b)∧0≤a∧a < 52:=by
 unfold DS.mayW putR at h;unfold putR
 by_cases h1:s.may a=0
 ·rw [if_neg (by simp [h1])] at h ⊢
  by_cases h2:b.length=32
  ·rw [if_neg (by simp [h2])]
   exact ⟨h1,h2,rfl,(zm3.1 h1).2⟩
  ·rw [if_pos h2] at h; exact absurd h (by decide)
 ·rw [if_pos h1] at h; exact absurd h h1
theorem zyJ (s:DS) (a:Int) (b:List Int):(putR s a b).1.2.length=32:=by
 unfold putR;split
 ·rfl
 ·split
  ·rfl
  ·rename_i h; simpa using h
theorem zxy {s:DS} {a:Int} {b:List Int} (h:s.may a=0) (hb:b.length=32):s.mayW a b=0:=by
 unfold DS.mayW putR
 rw [if_neg (by simp [h]),if_neg (by simp [hb])]
def DS.add (s:DS) (a:Int) (b:List Int):DS:={ s with pend:=s.pend++[(a,b)] }
def DS.write (s:DS) (a:Int) (b:List Int):Int×DS:=(s.mayW a b,if s.mayW a b=0 then s.add a b else s)
def DS.put1 (s:DS) (w:Int×List Int):DS:=s.setSec w.1.toNat w.2
def DS.puts (s:DS) (p:List (Int×List Int)):DS:=p.foldl DS.put1 s
def DS.flushed (s:DS):DS:={ s.puts s.pend with pend:=[] }
def DS.flush (s:DS):Int×DS:=if s.failed then (5,s) else (0,s.flushed)
def DS.new:DS:=⟨List.replicate 1664 0,[],false⟩
def DS.dead:DS:=⟨List.replicate 1664 0,[],true⟩
def DS.damage (s:DS) (a:Int) (b:List Int):Int×DS:=(s.mayW a b,if s.mayW a b=0 then s.setSec a.toNat b else s)
def kept:List (Int×List Int)→List Bool→List (Int×List Int)
 | w::p,k::ks=>if k then w::kept p ks else kept p ks
 | _,_=>[]
def DS.crash (s:DS) (keep:List Bool):DS:={ s.puts (kept s.pend keep) with pend:=[] }
theorem zBw:DS.new.Ok:=⟨List.length_replicate ..,fun n h=>by unfold DS.new at h; rw [(List.mem_replicate.1 h).2]; omega,fun w h=>(by cases h),fun _=>rfl⟩
theorem zFc:DS.dead.Ok:=⟨List.length_replicate ..,fun n h=>by unfold DS.dead at h; rw [(List.mem_replicate.1 h).2]; omega,fun w h=>(by cases h),fun _=>rfl⟩
theorem zD7 {s:DS} (h:s.Ok) (hf:s.failed=false) {a:Int} {b:List Int} (hb:Sec b) (a0:0≤a) (a1:a < 52):(s.add a b).Ok:=by
 refine ⟨h.len,h.byt,fun w hw=>?_,fun e=>by rw [show (s.add a b).failed=s.failed from rfl,hf] at e; cases e⟩
 rcases List.mem_append.1 hw with hw | hw
 ·exact h.pend w hw
 ·rw [List.mem_singleton.1 hw]; exact ⟨hb,a0,a1⟩
theorem zjm {s:DS} (h:s.Ok):∀ (p:List (Int×List Int)),(∀ w∈p,Sec w.2∧0≤w.1∧w.1 < 52)→(s.puts p).Ok∧(s.puts p).failed=s.failed∧(s.puts p).pend=s.pend
 | [],_=>⟨h,rfl,rfl⟩
 | w::p,hp=>by
  obtain ⟨h1,h2,h3⟩:=hp w (List.mem_cons_self ..)
  exact zjm (s:=s.put1 w) (zrx h (by omega) h1) p fun w hw=>hp w (List.mem_cons_of_mem _ hw)
theorem zrz {s:DS} (h:s.Ok) {a:Nat} (ha:a < 52):∀ (p:List (Int×List Int)),(∀ w∈p,Sec w.2∧0≤w.1∧w.1 < 52)→(s.puts p).base a=look p (a:Int) (s.base a)
 | [],_=>rfl
 | w::p,hp=>by
  obtain ⟨h1,h2,h3⟩:=hp w (List.mem_cons_self ..)
  have:=zrz (s:=s.put1 w) (zrx h (by omega) h1) ha p fun w hw=>hp w (List.mem_cons_of_mem _ hw)
  show ((s.put1 w).puts p).base a=look p (a:Int) (if w.1=(a:Int) then w.2 else s.base a)
  rw [this];congr 1;unfold DS.put1
  rw [zry h.len (by omega) h1.len a ha]
  by_cases e:a=w.1.toNat
  ·rw [if_pos e,if_pos (by omega)]
  ·rw [if_neg e,if_neg (by omega)]
theorem ztp {s:DS} (h:s.Ok):s.flushed.Ok:=by
 obtain ⟨h1,h2,h3⟩:=zjm h s.pend h.pend
 exact ⟨h1.len,h1.byt,fun w hw=>(by cases hw),fun _=>rfl⟩
theorem zmE {s:DS} (h:s.Ok):s.flushed.failed=s.failed:=(zjm h s.pend h.pend).2.1
theorem zxz {s:DS} (h:s.Ok) {a:Int} (a0:0≤a) (a1:a < 52):s.flushed.sec a=s.sec a:=by
 have:=zrz h (a:=a.toNat) (by omega) s.pend h.pend
 unfold DS.sec;show look [] a ((s.puts s.pend).base a.toNat)=_
 rw [zoa,this,show ((a.toNat:Nat):Int)=a by omega]
theorem zhP:∀ (p:List (Int×List Int)) (ks:List Bool),∀ w∈kept p ks,w∈p
 | [],_,w,h=>by unfold kept at h; exact h
 | _::_,[],w,h=>by unfold kept at h; cases h
 | v::p,k::ks,w,h=>by
  unfold kept at h;split at h
  ·rcases List.mem_cons.1 h with rfl | h
   ·exact List.mem_cons_self ..
   ·exact List.mem_cons_of_mem _ (zhP p ks w h)
  ·exact List.mem_cons_of_mem _ (zhP p ks w h)
theorem zC7 {s:DS} (h:s.Ok) (ks:List Bool):(s.crash ks).Ok:=by
 obtain ⟨h1,h2,h3⟩:=zjm h (kept s.pend ks) fun w hw=>h.pend w (zhP _ _ w hw)
 exact ⟨h1.len,h1.byt,fun w hw=>(by cases hw),fun _=>rfl⟩
theorem zBx {s:DS} (h:s.Ok) {a:Int} {b:List Int} (hb:Sec b∨b.length≠32):(s.damage a b).2.Ok:=by
 unfold DS.damage;dsimp only;split
 ·rename_i he;obtain ⟨p1,p2,p3,p4,p5⟩:=zuG he
  exact zrx h (by omega) (hb.resolve_right (by simp [p2]))
 ·exact h
structure Ben where
 w:Int
 left:Int
 down:Bool
 ds:List DS
 g:Tb
structure Ben.Ok (B:Ben):Prop where
 w0:0≤B.w
 lf:B.left≤1000000000
 small:B.ds.length≤8
 ds:∀ s∈B.ds,s.Ok∧(s.pend.length:Int)≤B.w
def Ben.dk (B:Ben) (d:Int):DS:=(B.ds[d.toNat]?).getD .new
def Ben.setD (B:Ben) (d:Int) (s:DS):Ben:={ B with ds:=B.ds.set d.toNat s }
def Ben.n (B:Ben):Int:=B.ds.length
def Ben.is (B:Ben) (d:Int):Bool:=decide (0≤d∧d < B.n)
def Ben.may (B:Ben) (d:Int):Int:=if B.is d=true then (if B.down then 6 else 0) else 1
def Ben.failed (B:Ben) (d:Int):Bool:=B.is d && (B.dk d).failed
def Ben.read (B:Ben) (d a:Int):List Int×Int:=if B.may d≠0 then ([],B.may d) else (B.dk d).read a
def Ben.less (B:Ben):Ben:={ B with left:=if 0 < B.left then B.left - 1 else B.left,w:=B.w+1 }
def Ben.junk (B:Ben) (s:DS):Ben:={ B with g:=B.g++[s.cells] }
def Ben.off (B:Ben):Ben:={ B with down:=true }
def Ben.write (B:Ben) (d a:Int) (x:List Int):Int×Ben:=
 if B.may d≠0 then (B.may d,B)
 else if (B.dk d).mayW a x≠0 then ((B.dk d).mayW a x,B.junk ((B.dk d).write a x).2)
 else if B.left=0 then (6,(B.junk ((B.dk d).write a x).2).off)
 else (0,((B.junk ((B.dk d).write a x).2).less).setD d ((B.dk d).add a x))
def Ben.flush (B:Ben) (d:Int):Int×Ben:=if B.may d≠0 then (B.may d,B) else ((B.dk d).flush.1,B.setD d (B.dk d).flush.2)
def Ben.fail (B:Ben) (d:Int):Int×Ben:=if B.is d=true then (0,B.setD d .dead) else (1,B)
def Ben.damage (B:Ben) (d a:Int) (x:List Int):Int×Ben:=if B.is d=true then (((B.dk d).damage a x).1,B.setD d ((B.dk d).damage a x).2) else (1,B)
def Ben.replace (B:Ben) (d:Int):Int×Ben:=if B.is d=true then (if (B.dk d).failed then (0,B.setD d .new) else (9,B)) else (1,B)
def Ben.up (B:Ben) (live:List Bool) (d:Int):Bool:=decide (d < B.n) && ((live[d.toNat]?).getD false && !B.failed d)
def Ben.new (n:Nat):Ben:=⟨0,-1,false,List.replicate n .new,[]⟩
theorem zc4 {B:Ben} {d:Int}:B.is d=true↔0≤d∧d < B.n:=by simp [Ben.is]
section
variable {B:Ben} {d e:Int}
theorem zh2 (hB:B.Ok) (d:Int):(B.dk d).Ok∧((B.dk d).pend.length:Int)≤B.w:=by
 unfold Ben.dk
 cases h:B.ds[d.toNat]? with
 | none=>exact ⟨zBw,by have:=hB.w0; show (([]:List (Int×List Int)).length:Int)≤B.w; simpa using this⟩
 | some s=>exact hB.ds s (List.mem_of_getElem? h)
@[simp] theorem zBy (s:DS):(B.setD d s).n=B.n:=by simp [Ben.setD,Ben.n]
@[simp] theorem zBz (s:DS):(B.setD d s).down=B.down:=rfl
@[simp] theorem zGB (s:DS):(B.setD d s).left=B.left:=rfl
@[simp] theorem zBA (s:DS):(B.setD d s).w=B.w:=rfl
@[simp] theorem zxA (s:DS):(B.setD d s).is e=B.is e:=by unfold Ben.is; rw [zBy]
@[simp] theorem zHa (s:DS):(B.setD d s).may e=B.may e:=by unfold Ben.may; rw [zxA,zBz]
theorem zeq (hd:B.is d=true) (he:0≤e) (s:DS):(B.setD d s).dk e=if e=d then s else B.dk e:=by
 obtain ⟨h0,h1⟩:=zc4.1 hd;unfold Ben.n at h1;unfold Ben.setD Ben.dk;dsimp only;rw [List.getElem?_set]
 by_cases h:e=d
 ·subst h; rw [if_pos rfl,if_pos rfl,if_pos (by omega)]; rfl
 ·rw [if_neg (by omega),if_neg h]
theorem zkU (hB:B.Ok) {s:DS} (hs:s.Ok) (hp:(s.pend.length:Int)≤B.w):(B.setD d s).Ok:=
 ⟨hB.w0,hB.lf,by simpa [Ben.setD] using hB.small,fun u hu=>by
  rcases List.mem_or_eq_of_mem_set hu with hu | hu
  ·exact hB.ds u hu
  ·subst hu; exact ⟨hs,hp⟩⟩
theorem zBB (hB:B.Ok):B.less.Ok:=⟨by have:=hB.w0; unfold Ben.less; dsimp only; omega,by have:=hB.lf; unfold Ben.less; dsimp only; split<;>omega,hB.small,fun s hs=>⟨(hB.ds s hs).1,by have:=(hB.ds s hs).2; unfold Ben.less; dsimp only; omega⟩⟩
@[simp] theorem zHE:B.less.n=B.n:=rfl
@[simp] theorem zGC:B.less.down=B.down:=rfl
@[simp] theorem zHv:B.less.is d=B.is d:=rfl
@[simp] theorem zHb:B.less.may d=B.may d:=rfl
@[simp] theorem zHw:B.less.dk d=B.dk d:=rfl
@[simp] theorem zHF (s:DS):(B.junk s).n=B.n:=rfl
@[simp] theorem zGD (s:DS):(B.junk s).down=B.down:=rfl
@[simp] theorem zGE (s:DS):(B.junk s).left=B.left:=rfl
@[simp] theorem zHG (s:DS):(B.junk s).w=B.w:=rfl
@[simp] theorem zHx (s:DS):(B.junk s).is d=B.is d:=rfl
@[simp] theorem zHc (s:DS):(B.junk s).may d=B.may d:=rfl
@[simp] theorem zHy (s:DS):(B.junk s).dk d=B.dk d:=rfl
@[simp] theorem zHM:B.off.n=B.n:=rfl
@[simp] theorem zHd:B.off.down=true:=rfl
@[simp] theorem zHe:B.off.left=B.left:=rfl
@[simp] theorem zHN:B.off.w=B.w:=rfl
@[simp] theorem zHH:B.off.is d=B.is d:=rfl
@[simp] theorem zHI:B.off.dk d=B.dk d:=rfl
theorem zrA (hB:B.Ok) (s:DS):(B.junk s).Ok:=⟨hB.w0,hB.lf,hB.small,hB.ds⟩
theorem zGF (hB:B.Ok):B.off.Ok:=⟨hB.w0,hB.lf,hB.small,hB.ds⟩
theorem may0:B.may d=0↔B.is d=true∧B.down=false:=by
 unfold Ben.may;cases B.is d<;>cases B.down<;>simp
end
structure Nx (K:Int) (B B':Ben):Prop where
 ok:B'.Ok
 n:B'.n=B.n
 le:B.w≤B'.w
 w:B'.w≤B.w+K
theorem Nx.rfl' {B:Ben} (h:B.Ok) {K:Int} (hK:0≤K):Nx K B B:=⟨h,rfl,by omega,by omega⟩
theorem Nx.trans {K L:Int} {A B C:Ben} (h1:Nx K A B) (h2:Nx L B C):Nx (K+L) A C:=⟨h2.ok,h2.n.trans h1.n,by have:=h1.le; have:=h2.le; omega,by have:=h1.w; have:=h2.w; omega⟩
theorem Nx.mono {K L:Int} {A B:Ben} (h:Nx K A B) (hK:K≤L):Nx L A B:=⟨h.ok,h.n,h.le,by have:=h.w; omega⟩
section
variable {B:Ben} {d a:Int} {x:List Int}
theorem zuH (hB:B.Ok) (hx:Sec x∨x.length≠32):Nx 1 B (B.write d a x).2:=by
 unfold Ben.write;split
 ·exact .rfl' hB (by omega)
 ·rename_i h0;split
  ·exact ⟨zrA hB _,rfl,by simp,by simp; omega⟩
  ·split
   ·exact ⟨zGF (zrA hB _),rfl,by simp,by simp; omega⟩
   ·rename_i h1 _;obtain ⟨p1,p2,p3,p4,p5⟩:=zuG (Classical.not_not.1 h1);have hd:=may0.1 (Classical.not_not.1 h0);have hk:=zh2 hB d
    refine ⟨zkU (zBB (zrA hB _)) (zD7 hk.1 (zm3.1 p1).1 (hx.resolve_right (by simp [p2])) p4 p5) ?_,by simp,?_,?_⟩
    ·have:=hk.2;show (((B.dk d).pend++[(a,x)]).length:Int)≤B.w+1;simp; omega
    ·show B.w≤B.w+1; omega
    ·show B.w+1≤B.w+1; omega
theorem zyK (hB:B.Ok):Nx 0 B (B.flush d).2:=by
 unfold Ben.flush;split
 ·exact .rfl' hB (by omega)
 ·have hk:=zh2 hB d;unfold DS.flush
  refine ⟨zkU hB ?_ ?_,by simp,by simp,by simp⟩
  ·split
   ·exact hk.1
   ·exact ztp hk.1
  ·split
   ·exact hk.2
   ·exact hB.w0
theorem zFd (hB:B.Ok):Nx 0 B (B.fail d).2:=by
 unfold Ben.fail;split
 ·exact ⟨zkU hB zFc (by exact hB.w0),by simp,by simp,by simp⟩
 ·exact .rfl' hB (by omega)
theorem zwk (hB:B.Ok) (hx:Sec x∨x.length≠32):Nx 0 B (B.damage d a x).2:=by
 unfold Ben.damage;split
 ·refine ⟨zkU hB (zBx (zh2 hB d).1 hx) ?_,by simp,by simp,by simp⟩
  have:=(zh2 hB d).2;unfold DS.damage;dsimp only;split
  ·exact this
  ·exact this
 ·exact .rfl' hB (by omega)
theorem ztq {n:Nat} (h:n≤8):(Ben.new n).Ok:=⟨Int.le_refl _,by show (-1:Int)≤1000000000; omega,by show (List.replicate n DS.new).length≤8; simpa using h,fun s hs=>by
 unfold Ben.new at hs;rw [(List.mem_replicate.1 hs).2];exact ⟨zBw,Int.le_refl _⟩⟩
end
def runE {σ:Type} (f:Nat→σ→Int×σ):Nat→Nat→σ→Int×σ
 | _,0,s=>(0,s)
 | k,n+1,s=>if (f k s).1=0 then runE f (k+1) n (f k s).2 else f k s
theorem zyL {R α σ:Type} (f:Nat→σ→Int×σ) (I:Nat→σ→Prop) (st:Nat→σ→α) (fin:Int×σ→Option R) (n:Nat) {B:(α→Option R)→α→Option R}
  (hI:∀ k s,k < n→I k s→(f k s).1=0→I (k+1) (f k s).2)
  (h1:∀ again k s,k < n→I k s→B again (st k s)=if (f k s).1=0 then again (st (k+1) (f k s).2) else fin (f k s))
  (h2:∀ again s,I n s→B again (st n s)=fin (0,s)):∀ (m k N:Nat) (s:σ),k+m=n→m < N→I k s→fixN B N (st k s)=fin (runE f k m s)
 | 0,k,N+1,s,e,_,hs=>by
  have:k=n:=by omega
  subst this
  exact h2 _ s hs
 | m+1,k,N+1,s,e,hN,hs=>by
  show B (fixN B N) (st k s)=_
  rw [h1 _ k s (by omega) hs]
  unfold runE;split
  ·rename_i e0
   exact zyL f I st fin n hI h1 h2 m (k+1) N _ (by omega) (by omega) (hI k s (by omega) hs e0)
  ·rfl
theorem zrB {R α σ:Type} (f:Nat→σ→Int×σ) (I:Nat→σ→Prop) (st:Nat→σ→α) (fin:Int×σ→Option R) (n:Nat) (hn:n < 1000000000) {s:σ} {B:(α→Option R)→α→Option R} (h0:I 0 s)
  (hI:∀ k s,k < n→I k s→(f k s).1=0→I (k+1) (f k s).2)
  (h1:∀ again k s,k < n→I k s→B again (st k s)=if (f k s).1=0 then again (st (k+1) (f k s).2) else fin (f k s))
  (h2:∀ again s,I n s→B again (st n s)=fin (0,s)):zb7 B (st 0 s)=fin (runE f 0 n s):=
 zyL f I st fin n hI h1 h2 n 0 fuel s (by omega) (by have:=zoQ; omega) h0
theorem zca {R α:Type} (st:Nat→α) (W:Nat) (hW:W < 1000000000) {B:(α→Option R)→α→Option R} {r:Option R} (h1:∀ again k,k < W→B again (st k)=again (st (k+1))) (h2:∀ again,B again (st W)=r):zb7 B (st 0)=r:=
 zrs st W h1 h2 W 0 fuel (by omega) (by have:=zoQ; omega)
end Wf

namespace Wf
open Go Go.RowKit Go.Proofs
set_option linter.unusedVariables false
set_option maxRecDepth 100000
theorem zbz:Try.prog.follows .mixedOrders=true:=by kernel_rfl
namespace ID
abbrev wattlekeep_Within:Nat:=16
abbrev wattleref01_Check:Nat:=53
abbrev wattleref01_Budget:Nat:=76
abbrev wattleref01_Width:Nat:=32
abbrev wattleref01_Can:Nat:=61
abbrev wattleplay_Pair:Nat:=47
abbrev disk_New:Nat:=80
abbrev bench_New:Nat:=35
abbrev wattleplay_Live:Nat:=18
abbrev bench_Bench_Len:Nat:=68
abbrev slices_Index_int_int:Nat:=87
abbrev slices_Contains_int_int:Nat:=101
abbrev geom_Check:Nat:=69
abbrev rebuild_may:Nat:=91
abbrev bench_Bench_is:Nat:=66
abbrev disk_Disk_Failed:Nat:=84
abbrev bench_Bench_Failed:Nat:=41
abbrev stripe_up:Nat:=70
abbrev bench_Bench_may:Nat:=85
abbrev disk_Disk_may:Nat:=118
abbrev slices_Clone_byte_byte:Nat:=109
abbrev disk_Disk_Read:Nat:=86
abbrev bench_Bench_Read:Nat:=42
abbrev row_in:Nat:=102
abbrev geom_Budget:Nat:=127
abbrev geom_Width:Nat:=103
abbrev place_in:Nat:=106
abbrev place_Parity:Nat:=88
abbrev place_Disk:Nat:=104
abbrev erase_Missing:Nat:=128
abbrev erase_fits_1:Nat:=140
abbrev row_sectors_1:Nat:=135
abbrev slices_IndexFunc_byte_byte:Nat:=143
abbrev slices_ContainsFunc_byte_byte:Nat:=134
abbrev erase_fits:Nat:=129
abbrev erase_filled:Nat:=130
abbrev gf_double:Nat:=144
abbrev gf_Mul:Nat:=146
abbrev synd_Scale:Nat:=142
abbrev synd_Add:Nat:=132
abbrev gf_Pow:Nat:=138
abbrev synd_P_1:Nat:=137
abbrev synd_sum:Nat:=136
abbrev synd_P:Nat:=110
abbrev synd_Q:Nat:=111
abbrev gf_Log:Nat:=145
abbrev gf_Inv:Nat:=141
abbrev erase_two:Nat:=131
abbrev erase_byQ:Nat:=133
abbrev erase_Solve:Nat:=105
abbrev row_Take:Nat:=71
abbrev stripe_Read:Nat:=21
abbrev row_sectors:Nat:=108
abbrev row_Fill:Nat:=77
abbrev slices_Clone_disk_write_disk_write:Nat:=121
abbrev disk_Disk_Clone:Nat:=93
abbrev disk_Disk_put:Nat:=124
abbrev disk_Disk_Write:Nat:=112
abbrev bench_counter_count:Nat:=113
abbrev bench_Bench_Write:Nat:=78
abbrev rebuild_one:Nat:=92
abbrev disk_Disk_Flush:Nat:=114
abbrev bench_Bench_Flush:Nat:=79
abbrev rebuild_Disk:Nat:=48
abbrev disk_Disk_Fail:Nat:=67
abbrev bench_Bench_Fail:Nat:=19
abbrev wattlelaw16_wakes:Nat:=49
abbrev wattleplay_Sector:Nat:=36
abbrev wattleplay_Sectors:Nat:=31
abbrev wattleref01_fine:Nat:=75
abbrev wattleref01_Parity:Nat:=46
abbrev wattleref01_Disk:Nat:=74
abbrev wattleref01_alike:Nat:=115
abbrev wattleref01_P:Nat:=81
abbrev wattleref01_Mul:Nat:=117
abbrev wattleref01_Pow:Nat:=116
abbrev wattleref01_Q:Nat:=82
abbrev wattleref01_Fill:Nat:=39
abbrev disk_Disk_Damage_1:Nat:=126
abbrev slices_IndexFunc_disk_write_disk_write:Nat:=139
abbrev slices_DeleteFunc_disk_write_disk_write:Nat:=125
abbrev disk_Disk_Damage:Nat:=100
abbrev bench_Bench_Damage:Nat:=65
abbrev wattlekeep_Same_byte:Nat:=30
abbrev stripe_Write:Nat:=33
abbrev stripe_Flush:Nat:=34
abbrev wattlelaw16_Both:Nat:=50
abbrev bench_Bench_Replace:Nat:=52
abbrev disk_Disk_Pending:Nat:=83
abbrev bench_Bench_Pending:Nat:=40
abbrev bench_Bench_Clone:Nat:=51
abbrev bench_counter_Limit:Nat:=38
abbrev bench_counter_Down:Nat:=54
abbrev disk_Disk_Crash:Nat:=94
abbrev bench_Bench_Crash:Nat:=55
abbrev wattlelaw16_RebuildQuiet:Nat:=11
end ID
abbrev kB:Nat:=3840
abbrev kD:Nat:=7649
end Wf

namespace Wf
open Go Go.RowKit
set_option linter.unusedSimpArgs false
set_option linter.unusedVariables false
def hD (i:Nat):D:=.h kD i 0
def bRow (B:Ben) (idx:List Nat):List D:=[.int .i64 B.w,.int .i64 B.left,.bool B.down,.sl .own (idx.map hD)]
def putL:Tb→List Nat→Tb→Tb
 | T,i::is,c::cs=>(putL T is cs).set i c
 | T,_,_=>T
theorem zob:∀ (T:Tb) (is:List Nat) (cs:Tb),(putL T is cs).length=T.length
 | T,i::is,c::cs=>by show ((putL T is cs).set i c).length=_; rw [List.length_set,zob T is cs]
 | T,[],_=>by unfold putL; rfl
 | T,_::_,[]=>by unfold putL; rfl
theorem ztr {i:Nat}:∀ (T:Tb) (is:List Nat) (cs:Tb),i ∉ is→(putL T is cs)[i]? =T[i]?
 | T,j::is,c::cs,h=>by
  show ((putL T is cs).set j c)[i]? =_
  rw [List.getElem?_set,if_neg (by intro e; exact h (by rw [e]; exact List.mem_cons_self ..)),ztr T is cs (fun hi=>h (List.mem_cons_of_mem _ hi))]
 | T,[],_,_=>by unfold putL; rfl
 | T,_::_,[],_=>by unfold putL; rfl
theorem zyM:∀ {T:Tb} {is:List Nat} {cs:Tb} {j i:Nat} {c:List D},is.Nodup→is[j]? =some i→cs[j]? =some c→i < T.length→(putL T is cs)[i]? =some c
 | T,i0::is,c0::cs,0,i,c,_,h1,h2,h3=>by
  cases h1; cases h2;show ((putL T is cs).set i0 c0)[i0]? =_
  rw [List.getElem?_set,if_pos rfl,zob,if_pos h3]
 | T,i0::is,c0::cs,j+1,i,c,h,h1,h2,h3=>by
  have hn:=List.nodup_cons.1 h;show ((putL T is cs).set i0 c0)[i]? =_
  rw [List.getElem?_set,if_neg (by intro e; exact hn.1 (by rw [e]; exact List.mem_of_getElem? h1))]
  exact zyM hn.2 h1 h2 h3
theorem zyN:∀ {T:Tb} {is:List Nat} {cs:Tb} {j i:Nat} {c:List D},is.Nodup→is[j]? =some i→j < cs.length→(putL T is cs).set i c=putL T is (cs.set j c)
 | T,i0::is,c0::cs,0,i,c,_,h1,_=>by
  cases h1;show ((putL T is cs).set i0 c0).set i0 c=(putL T is cs).set i0 c
  rw [List.set_set]
 | T,i0::is,c0::cs,j+1,i,c,h,h1,h2=>by
  have hn:=List.nodup_cons.1 h;show ((putL T is cs).set i0 c0).set i c=(putL T is (cs.set j c)).set i0 c0
  rw [List.set_comm _ _ (by intro e; exact hn.1 (by rw [e]; exact List.mem_of_getElem? h1)),zyN hn.2 h1 (by simpa using h2)]
 | T,i0::is,[],j,i,c,_,_,h2=>by cases h2
def P0 (T0:Tb) (b:Nat) (idx:List Nat) (B:Ben):Tb:=T0.set b (bRow B idx)
def P1 (T1:Tb) (idx:List Nat) (B:Ben):Tb:=putL T1 idx (B.ds.map DS.cells)++B.g
structure At (T0 T1:Tb) (b:Nat) (idx:List Nat) (B:Ben):Prop where
 b:b < T0.length
 nd:idx.Nodup
 lt:∀ i∈idx,i < T1.length
 len:idx.length=B.ds.length
 ok:B.Ok
def ix (idx:List Nat) (d:Int):Nat:=idx.getD d.toNat 0
section
variable {T0 T1:Tb} {b:Nat} {idx:List Nat} {B:Ben}
theorem At.nx {B':Ben} {K:Int} (h:At T0 T1 b idx B) (hx:Nx K B B'):At T0 T1 b idx B':=⟨h.b,h.nd,h.lt,by
 have:=hx.n;unfold Ben.n at this;rw [h.len]; omega,hx.ok⟩
theorem At.get0 (h:At T0 T1 b idx B):(P0 T0 b idx B)[b]? =some (bRow B idx):=by
 unfold P0;rw [List.getElem?_set,if_pos rfl,if_pos h.b]
theorem zD8 (B':Ben):(P0 T0 b idx B).set b (bRow B' idx)=P0 T0 b idx B':=by unfold P0; rw [List.set_set]
theorem At.ixl (h:At T0 T1 b idx B) {d:Int} (hd:B.is d=true):idx[d.toNat]? =some (ix idx d):=by
 obtain ⟨h0,h1⟩:=zc4.1 hd;unfold Ben.n at h1;have hl:=h.len;unfold ix
 rw [List.getD_eq_getElem?_getD,List.getElem?_eq_getElem (by omega)]; rfl
theorem At.hd (h:At T0 T1 b idx B) {d:Int} (hd:B.is d=true):(idx.map hD)[d.toNat]? =some (.h kD (ix idx d) 0):=by
 rw [List.getElem?_map,h.ixl hd]; rfl
theorem At.dks (h:At T0 T1 b idx B) {d:Int} (hd:B.is d=true):(B.ds.map DS.cells)[d.toNat]? =some (B.dk d).cells:=by
 obtain ⟨h0,h1⟩:=zc4.1 hd;unfold Ben.n at h1;unfold Ben.dk
 rw [List.getElem?_map,List.getElem?_eq_getElem (by omega)]; rfl
theorem At.ltp (h:At T0 T1 b idx B) {d:Int} (hd:B.is d=true):ix idx d < (putL T1 idx (B.ds.map DS.cells)).length:=by
 rw [zob]; exact h.lt _ (List.mem_of_getElem? (h.ixl hd))
theorem At.get1 (h:At T0 T1 b idx B) {d:Int} (hd:B.is d=true):(P1 T1 idx B)[ix idx d]? =some (B.dk d).cells:=by
 unfold P1;rw [List.getElem?_append_left (h.ltp hd)];exact zyM h.nd (h.ixl hd) (h.dks hd) (h.lt _ (List.mem_of_getElem? (h.ixl hd)))
theorem At.set1 (h:At T0 T1 b idx B) {d:Int} (hd:B.is d=true) (s:DS):(P1 T1 idx B).set (ix idx d) s.cells=P1 T1 idx (B.setD d s):=by
 obtain ⟨h0,h1⟩:=zc4.1 hd;unfold Ben.n at h1;unfold P1
 rw [List.set_append_left _ _ (h.ltp hd),zyN h.nd (h.ixl hd) (by rw [List.length_map]; omega)]
 unfold Ben.setD;dsimp only;rw [List.map_set]
theorem zFe (s:DS):P1 T1 idx B++[s.cells]=P1 T1 idx (B.junk s):=by unfold P1 Ben.junk; rw [List.append_assoc]
theorem zrC:(P1 T1 idx B).length=T1.length+B.g.length:=by unfold P1; rw [List.length_append,zob]
theorem zD9:(P0 T0 b idx B).length=T0.length:=by unfold P0; rw [List.length_set]
theorem zxB (h:T0[b]? =some (bRow B idx)):P0 T0 b idx B=T0:=by
 unfold P0;apply List.ext_getElem?;intro j;rw [List.getElem?_set];split
 ·rename_i e; subst e; rw [h]; simp [za1 h]
 ·rfl
theorem zkV:∀ {T:Tb} {is:List Nat} {cs:Tb},(∀ (j i:Nat) (c:List D),is[j]? =some i→cs[j]? =some c→T[i]? =some c)→putL T is cs=T
 | T,i::is,c::cs,h=>by
  show (putL T is cs).set i c=T
  rw [zkV (fun j i c h1 h2=>h (j+1) i c h1 h2)]
  have:=h 0 i c rfl rfl;apply List.ext_getElem?;intro j;rw [List.getElem?_set];split
  ·rename_i e; subst e; rw [this]; simp [za1 this]
  ·rfl
 | T,[],_,_=>by unfold putL; rfl
 | T,_::_,[],_=>by unfold putL; rfl
end
end Wf

namespace Wf
open Go Go.RowKit
set_option linter.unusedSimpArgs false
set_option linter.unusedVariables false
inductive Act
 | w (d a:Int) (x:List Int)
 | f (d:Int)
def Ben.act (B:Ben):Act→Int×Ben
 | .w d a x=>B.write d a x
 | .f d=>B.flush d
def runA:List Act→Ben→Int×Ben
 | [],B=>(0,B)
 | a::ay_,B=>if (B.act a).1=0 then runA ay_ (B.act a).2 else B.act a
theorem zoc (a:Act) (ay_:List Act) (B:Ben):runA (a::ay_) B=if (B.act a).1=0 then runA ay_ (B.act a).2 else B.act a:=rfl
theorem zm4:∀ (ay_ bs:List Act) (B:Ben),runA (ay_++bs) B=if (runA ay_ B).1=0 then runA bs (runA ay_ B).2 else runA ay_ B
 | [],bs,B=>by simp [runA]
 | a::ay_,bs,B=>by
  rw [List.cons_append,zoc,zoc]
  by_cases h:(B.act a).1=0
  ·rw [if_pos h,if_pos h]; exact zm4 ay_ bs _
  ·rw [if_neg h,if_neg h,if_neg h]
def Ben.cur (B:Ben) (d a:Int):List Int:=(B.dk d).sec a
def Act.Ok (B:Ben):Act→Prop
 | .w d a x=>B.is d=true∧B.failed d=false∧0≤a∧a < 52∧Sec x
 | .f d=>B.is d=true∧B.failed d=false
def Ben.does1 (B:Ben):Act→Ben
 | .w d a x=>((B.junk ((B.dk d).write a x).2).less).setD d ((B.dk d).add a x)
 | .f d=>B.setD d (B.dk d).flushed
def Act.isW:Act→Bool
 | .w _ _ _=>true
 | .f _=>false
section
variable {B:Ben}
theorem zd5 {d:Int} (h:B.is d=true):B.failed d=(B.dk d).failed:=by unfold Ben.failed; rw [h]; rfl
theorem zyO {a:Act} (h:a.Ok B) (hd:B.down=false) (hl:a.isW=true→B.left≠0):B.act a=(0,B.does1 a):=by
 cases a with
 | w d a x=>
  obtain ⟨h1,h2,h3,h4,h5⟩:=h;have hm:B.may d=0:=may0.2 ⟨h1,hd⟩
  have hw:(B.dk d).mayW a x=0:=zxy (zm3.2 ⟨by rw [←zd5 h1]; exact h2,h3,h4⟩) h5.len
  unfold Ben.act Ben.write Ben.does1
  simp only [hm,hw,if_neg (hl rfl),ne_eq,not_true,if_false]
 | f d=>
  obtain ⟨h1,h2⟩:=h;have hm:B.may d=0:=may0.2 ⟨h1,hd⟩
  have hf:(B.dk d).failed=false:=by rw [←zd5 h1]; exact h2
  unfold Ben.act Ben.flush Ben.does1 DS.flush;simp [hm,hf]
theorem zFf {d a:Int} {x:List Int} (h:(Act.w d a x).Ok B) (hd:B.down=false) (hl:B.left=0):B.act (.w d a x)=(6,(B.junk ((B.dk d).write a x).2).off):=by
 obtain ⟨h1,h2,h3,h4,h5⟩:=h;have hm:B.may d=0:=may0.2 ⟨h1,hd⟩
 have hw:(B.dk d).mayW a x=0:=zxy (zm3.2 ⟨by rw [←zd5 h1]; exact h2,h3,h4⟩) h5.len
 unfold Ben.act Ben.write;simp only [hm,hw,hl,if_true,ne_eq,not_true,if_false]
@[simp] theorem zFg (a:Act):(B.does1 a).n=B.n:=by cases a<;>simp [Ben.does1]
@[simp] theorem zo2 (a:Act):(B.does1 a).down=B.down:=by cases a<;>rfl
@[simp] theorem zuI (a:Act) (d:Int):(B.does1 a).is d=B.is d:=by unfold Ben.is; rw [zFg]
theorem zkW {a:Act} (hB:B.Ok) (h:a.Ok B) (d:Int):(B.does1 a).failed d=B.failed d:=by
 unfold Ben.failed;rw [zuI];cases hd:B.is d
 ·rfl
 ·have h0:=(zc4.1 hd).1;simp only [Bool.true_and]
  cases a with
  | w e a x=>
   unfold Ben.does1
   rw [zeq (by simpa using h.1) h0]
   split
   ·rename_i e; subst e; rfl
   ·rfl
  | f e=>
   unfold Ben.does1;rw [zeq h.1 h0];split
   ·rename_i e; subst e; exact zmE (zh2 hB _).1
   ·rfl
theorem zlW {a:Act} (hB:B.Ok) (h:a.Ok B) {c:Act} (hc:c.Ok B):c.Ok (B.does1 a):=by
 cases c with
 | w d e x=>obtain ⟨h1,h2,h3⟩:=hc; exact ⟨by rw [zuI]; exact h1,by rw [zkW hB h]; exact h2,h3⟩
 | f d=>obtain ⟨h1,h2⟩:=hc; exact ⟨by rw [zuI]; exact h1,by rw [zkW hB h]; exact h2⟩
theorem zhQ {a:Act} (hB:B.Ok) (h:a.Ok B):Nx 1 B (B.does1 a):=by
 cases a with
 | w d a x=>
  obtain ⟨h1,h2,h3,h4,h5⟩:=h;have hk:=zh2 hB d
  refine ⟨zkU (zBB (zrA hB _)) (zD7 hk.1 (by rw [←zd5 h1]; exact h2) h5 h3 h4) ?_,by simp [Ben.does1],?_,?_⟩
  ·have:=hk.2;show (((B.dk d).pend++[(a,x)]).length:Int)≤B.w+1;simp; omega
  ·show B.w≤B.w+1; omega
  ·show B.w+1≤B.w+1; omega
 | f d=>exact ⟨zkU hB (ztp (zh2 hB d).1) hB.w0,by simp [Ben.does1],by simp [Ben.does1],by simp [Ben.does1]; omega⟩
def Act.cur (c:Int→Int→List Int):Act→Int→Int→List Int
 | .w d a x,e,b=>if e=d∧b=a then x else c e b
 | .f _,e,b=>c e b
theorem zBC {a:Act} (hB:B.Ok) (h:a.Ok B) {e b:Int} (e0:0≤e) (b0:0≤b) (b1:b < 52):(B.does1 a).cur e b=a.cur B.cur e b:=by
 cases a with
 | w d a x=>
  show (((B.junk ((B.dk d).write a x).2).less.setD d ((B.dk d).add a x)).dk e).sec b=if e=d∧b=a then x else (B.dk e).sec b
  rw [zeq (by simpa using h.1) e0]
  by_cases he:e=d
  ·subst he;rw [if_pos rfl];show look ((B.dk e).pend++[(a,x)]) b ((B.dk e).base b.toNat)=_;rw [zBv];dsimp only
   by_cases hb:b=a
   ·subst hb; rw [if_pos rfl,if_pos ⟨rfl,rfl⟩]
   ·rw [if_neg (fun e=>hb e.symm),if_neg (fun e=>hb e.2)]; rfl
  ·rw [if_neg he,if_neg (fun e=>he e.1)]; rfl
 | f d=>
  show ((B.setD d (B.dk d).flushed).dk e).sec b=(B.dk e).sec b;rw [zeq h.1 e0]
  by_cases he:e=d
  ·subst he; rw [if_pos rfl]; exact zxz (zh2 hB _).1 b0 b1
  ·rw [if_neg he]
end
def does (B:Ben) (ay_:List Act):Ben:=ay_.foldl Ben.does1 B
def curs (c:Int→Int→List Int) (ay_:List Act):Int→Int→List Int:=ay_.foldl Act.cur c
def nW (ay_:List Act):Nat:=(ay_.filter Act.isW).length
theorem zxC (B:Ben) (ay_ bs:List Act):does B (ay_++bs)=does (does B ay_) bs:=List.foldl_append ..
theorem zm5 (c:Int→Int→List Int) (ay_ bs:List Act):curs c (ay_++bs)=curs (curs c ay_) bs:=List.foldl_append ..
theorem zrD (ay_ bs:List Act):nW (ay_++bs)=nW ay_+nW bs:=by simp [nW]
theorem zuJ (a:Act) (ay_:List Act):nW (a::ay_)=(if a.isW then 1 else 0)+nW ay_:=by
 unfold nW;rw [List.filter_cons];split<;>simp<;>omega
structure Does (B:Ben) (ay_:List Act):Prop where
 nx:Nx (nW ay_) B (does B ay_)
 run:runA ay_ B=(0,does B ay_)
 down:(does B ay_).down=B.down
 failed:∀ d,(does B ay_).failed d=B.failed d
 cur:∀ e b:Int,0≤e→0≤b→b < 52→(does B ay_).cur e b=curs B.cur ay_ e b
 left:(does B ay_).left=if B.left < 0 then B.left else B.left - nW ay_
theorem zjn:∀ (ay_:List Act) {B:Ben},B.Ok→B.down=false→(∀ a∈ay_,a.Ok B)→(B.left < 0∨(nW ay_:Int)≤B.left)→Does B ay_
 | [],B,hB,hd,_,_=>⟨.rfl' hB (by omega),rfl,rfl,fun _=>rfl,fun _ _ _ _ _=>rfl,by simp [does,nW]⟩
 | a::ay_,B,hB,hd,hA,hl=>by
  have ha:=hA a (List.mem_cons_self ..);have hn:=zuJ a ay_
  have hleft:(B.does1 a).left=if a.isW=true∧0 < B.left then B.left - 1 else B.left:=by
   cases a with
   | w d a x=>show (if 0 < B.left then B.left - 1 else B.left)=_; simp [Act.isW]
   | f d=>simp [Act.isW,Ben.does1]
  have hact:B.act a=(0,B.does1 a):=zyO ha hd fun hw=>by rw [hw] at hn; simp at hn; omega
  have hnx:Nx (if a.isW=true then 1 else 0) B (B.does1 a):=by
   cases a with
   | w d a x=>exact zhQ hB ha
   | f d=>exact ⟨(zhQ hB ha).ok,(zhQ hB ha).n,(zhQ hB ha).le,by simp [Ben.does1]; split<;>omega⟩
  have ih:=zjn ay_ (B:=B.does1 a) hnx.ok (by rw [zo2]; exact hd) (fun c hc=>zlW hB ha (hA c (List.mem_cons_of_mem _ hc))) (by
   rw [hleft];cases hw:a.isW
   ·rw [hw] at hn; simp at hn ⊢; omega
   ·rw [hw] at hn; simp at hn ⊢; split<;>omega)
  refine ⟨(hnx.trans ih.nx).mono (by rw [hn]; split<;>simp),?_,ih.down.trans (zo2 a),fun d=>(ih.failed d).trans (zkW hB ha d),fun e b e0 b0 b1=>?_,?_⟩
  ·show (if (B.act a).1=0 then runA ay_ (B.act a).2 else B.act a)=_
   rw [hact,if_pos rfl]; exact ih.run
  ·show (does (B.does1 a) ay_).cur e b=curs (a.cur B.cur) ay_ e b;rw [ih.cur e b e0 b0 b1]
   have:∀ (ay_:List Act) (c c':Int→Int→List Int),(∀ e b,0≤e→0≤b→b < 52→c e b=c' e b)→∀ e b:Int,0≤e→0≤b→b < 52→curs c ay_ e b=curs c' ay_ e b:=by
    intro ay_
    induction ay_ with
    | nil=>intro c c' h e b e0 b0 b1; exact h e b e0 b0 b1
    | cons a ay_ ih=>
     intro c c' h e b e0 b0 b1
     refine ih (a.cur c) (a.cur c') (fun e b e0 b0 b1=>?_) e b e0 b0 b1
     cases a with
     | w d a x=>unfold Act.cur; dsimp only; split; rfl; exact h e b e0 b0 b1
     | f d=>exact h e b e0 b0 b1
   exact this ay_ _ _ (fun e b e0 b0 b1=>zBC hB ha e0 b0 b1) e b e0 b0 b1
  ·show (does (B.does1 a) ay_).left=_;rw [ih.left,hleft];cases hw:a.isW
   ·rw [hw] at hn; simp at hn ⊢; rw [hn]
   ·rw [hw] at hn; simp at hn ⊢;rw [hn]
    by_cases h0:B.left < 0
    ·simp [h0,show ¬ 0 < B.left by omega]
    ·by_cases h1:0 < B.left
     ·simp [h0,h1,show ¬ B.left - 1 < 0 by omega]; omega
     ·exfalso; omega
def Act.at (a:Act) (d b:Int):Bool:=match a with
 | .w e c _=>decide (e=d∧c=b)
 | .f _=>false
theorem zlX {ay_:List Act} {d b:Int} (h:∀ a∈ay_,a.at d b=false) (c:Int→Int→List Int):curs c ay_ d b=c d b:=by
 induction ay_ generalizing c with
 | nil=>rfl
 | cons a ay_ ih=>
  show curs (a.cur c) ay_ d b=_
  rw [ih (fun a ha=>h a (List.mem_cons_of_mem _ ha))]
  have:=h a (List.mem_cons_self ..)
  cases a with
  | w e f x=>
   unfold Act.at at this;simp at this
   show (if d=e∧b=f then x else c d b)=c d b
   rw [if_neg (by rintro ⟨rfl,rfl⟩; exact this rfl rfl)]
  | f e=>rfl
theorem zBD {ay_ bs:List Act} {d b:Int} {x:List Int} (h:∀ a∈bs,a.at d b=false) (c:Int→Int→List Int):curs c (ay_++.w d b x::bs) d b=x:=by
 rw [zm5];show curs (Act.cur _ (.w d b x)) bs d b=x;rw [zlX h]
 show (if d=d∧b=b then x else curs c ay_ d b)=x
 rw [if_pos ⟨rfl,rfl⟩]
theorem zBE:∀ (ay_:List Act) {B:Ben},B.Ok→B.down=false→(∀ a∈ay_,a.Ok B)→0≤B.left→B.left < nW ay_→
  ∃ pre d a x post,ay_=pre++.w d a x::post∧(nW pre:Int)=B.left∧Does B pre∧(Act.w d a x).Ok B∧runA ay_ B=(6,((does B pre).junk (((does B pre).dk d).write a x).2).off)
 | [],B,_,_,_,h0,h1=>by simp [nW] at h1; omega
 | a::ay_,B,hB,hd,hA,h0,h1=>by
  have ha:=hA a (List.mem_cons_self ..);have hn:=zuJ a ay_
  by_cases hz:a.isW=true∧B.left=0
  ·cases a with
   | f d=>exact absurd hz.1 (by simp [Act.isW])
   | w d a x=>
    refine ⟨[],d,a,x,ay_,rfl,by simp [nW,hz.2],zjn [] hB hd (fun _ h=>(by cases h)) (.inr (by simp [nW]; omega)),ha,?_⟩
    unfold runA;rw [zFf ha hd hz.2];rfl
  ·have hact:B.act a=(0,B.does1 a):=zyO ha hd fun hw h=>hz ⟨hw,h⟩
   have hleft:(B.does1 a).left=if a.isW=true∧0 < B.left then B.left - 1 else B.left:=by
    cases a with
    | w d a x=>show (if 0 < B.left then B.left - 1 else B.left)=_; simp [Act.isW]
    | f d=>simp [Act.isW,Ben.does1]
   have hnx:=zhQ hB ha
   obtain ⟨pre,d,b,x,post,e1,e2,e3,e4,e5⟩:=zBE ay_ (B:=B.does1 a) hnx.ok (by rw [zo2]; exact hd) (fun c hc=>zlW hB ha (hA c (List.mem_cons_of_mem _ hc)))
    (by rw [hleft]; split<;>omega) (by
     rw [hleft];cases hw:a.isW
     ·rw [hw] at hn; simp at hn ⊢; omega
     ·rw [hw] at hn; simp at hn ⊢; simp [hw] at hz; split<;>omega)
   have hpl:(nW (a::pre):Int)=B.left:=by
    rw [zuJ];rw [hleft] at e2;cases hw:a.isW
    ·rw [hw] at e2; simp at e2 ⊢; omega
    ·rw [hw] at e2; simp [hw] at hz e2 ⊢; split at e2<;>omega
   refine ⟨a::pre,d,b,x,post,by rw [e1]; rfl,hpl,zjn _ hB hd (fun c hc=>?_) (.inr (by omega)),hA _ (by rw [e1]; simp),?_⟩
   ·rcases List.mem_cons.1 hc with rfl | hc
    ·exact ha
    ·exact hA _ (by rw [e1]; simp [hc])
   ·show (if (B.act a).1=0 then runA ay_ (B.act a).2 else B.act a)=_
    rw [hact,if_pos rfl];exact e5
end Wf

namespace Wf
open Go Go.RowKit
set_option linter.unusedSimpArgs false
set_option linter.unusedVariables false
theorem zBF:∃ m,fuel=m+40:=⟨fuel - 40,by have:=zoQ; omega⟩
def zdR (l d c:Int):Bool:=(l == 5 || l == 6) && decide ((if l=6 then 4 else 3)≤d) && decide (d≤8) && (c == 1 || c == 2 || c == 4)
def zm6 (l d c:Int):Int:=if zdR l d c then l - 4 else 0
def zkX (l d c:Int):Int:=if zdR l d c then d - (l - 4) else 0
def capG (l d c:Int):Int:=zkX l d c*16
def canG (l d c x y z:Int):Bool:=zdR l d c && zdR x y z && !(l == x && (d == y && c == z)) && decide (d≤y) && decide (l≤x) && decide (zkX l d c≤zkX x y z)
theorem zf5 {l d c:Int}:zdR l d c=true↔((l=5∧3≤d)∨(l=6∧4≤d))∧d≤8∧(c=1∨c=2∨c=4):=by
 unfold zdR;simp only [Bool.and_eq_true,Bool.or_eq_true,beq_iff_eq,decide_eq_true_eq];constructor
 ·rintro ⟨⟨⟨h1,h2⟩,h3⟩,h4⟩
  refine ⟨?_,h3,by omega⟩
  split at h2<;>omega
 ·rintro ⟨h1,h3,h4⟩
  refine ⟨⟨⟨by omega,?_⟩,h3⟩,by omega⟩
  split<;>omega
abbrev gD (l d c:Int):D:=.agg [.int .i64 l,.int .i64 d,.int .i64 c]
theorem zzM (a n:Int) (h:1≤n):(0≤a.tmod n∧a % n=a.tmod n)∨(a.tmod n < 0∧a % n=a.tmod n+n):=by
 by_cases ha:a < 0
 ·have h4:a.tmod n= - ((-a) % n):=by rw [show a= -(-a) by omega,Int.neg_tmod,Int.tmod_eq_emod_of_nonneg (by omega)]; simp
  have h5:=Int.emod_nonneg (-a) (show n≠0 by omega)
  have h6:=Int.emod_lt_of_pos (-a) (show 0 < n by omega)
  by_cases h7:(-a) % n=0
  ·left
   refine ⟨by omega,?_⟩
   have:n ∣ a:=by
    have:=Int.dvd_of_emod_eq_zero h7;exact (Int.dvd_neg).1 this
   rw [Int.emod_eq_zero_of_dvd this]; omega
  ·right
   refine ⟨by omega,?_⟩
   rw [h4]
   have:a % n=(n - (-a) % n) % n:=by
    rw [Int.sub_emod,Int.emod_emod_of_dvd _ (Int.dvd_refl n),←Int.sub_emod,Int.sub_neg,Int.add_emod,Int.emod_self]; simp
   rw [this,Int.emod_eq_of_lt (by omega) (by omega)]; omega
 ·left
  rw [Int.tmod_eq_emod_of_nonneg (by omega)]
  exact ⟨Int.emod_nonneg a (show n≠0 by omega),rfl⟩
def qn (n k:Int):Int:=IntKind.i64.wrap (n.tdiv k)
theorem zyP (q:Int) (h0:0≤q) (h3:q < 3) {R:Type} (f:D→Option R):getK [D.int .i64 1,D.int .i64 2,D.int .i64 4] q.toNat f=f (iD (if q=0 then 1 else if q=1 then 2 else 4)):=by
 have:q=0∨q=1∨q=2:=by omega
 rcases this with rfl | rfl | rfl<;>rfl
structure Geo where
 l:Int
 d:Int
 c:Int
 deriving DecidableEq
def Geo.D (g:Geo):Wf.D:=gD g.l g.d g.c
def Geo.ok (g:Geo):Bool:=zdR g.l g.d g.c
def Geo.can (x y:Geo):Bool:=canG x.l x.d x.c y.l y.d y.c
theorem zrE {x y:Geo}:x.can y=true↔x.ok=true∧y.ok=true∧x≠y∧x.d≤y.d∧x.l≤y.l∧zkX x.l x.d x.c≤zkX y.l y.d y.c:=by
 unfold Geo.can canG Geo.ok;obtain ⟨l,d,c⟩:=x;obtain ⟨l',d',c'⟩:=y;simp only [Bool.and_eq_true,Bool.not_eq_true',Bool.and_eq_false_iff,beq_eq_false_iff_ne,decide_eq_true_eq,ne_eq,Geo.mk.injEq];constructor
 ·rintro ⟨⟨⟨⟨⟨h1,h2⟩,h3⟩,h4⟩,h5⟩,h6⟩
  exact ⟨h1,h2,by rintro ⟨rfl,rfl,rfl⟩; simp at h3,h4,h5,h6⟩
 ·rintro ⟨h1,h2,h3,h4,h5,h6⟩
  refine ⟨⟨⟨⟨⟨h1,h2⟩,?_⟩,h4⟩,h5⟩,h6⟩
  by_cases e1:l=l'
  ·by_cases e2:d=d'
   ·exact .inr (.inr fun e3=>h3 ⟨e1,e2,e3⟩)
   ·exact .inr (.inl e2)
  ·exact .inl e1
def Geo.width (g:Geo):Int:=zkX g.l g.d g.c
def Geo.cap (g:Geo):Int:=capG g.l g.d g.c
def zc7 (x y:Geo):Int:=if x.can y then max x.c y.c else 0
def winP (x y:Geo):Int:=if x.can y then 16 / max x.c y.c else 0
def zo3 (x y:Geo) (k:Int):Int×Int:=if k < 0∨winP x y≤k then (0,0) else (k*(zc7 x y*y.width),(k+1)*(zc7 x y*y.width))
theorem zeE {g:Geo}:g.ok=true↔((g.l=5∧3≤g.d)∨(g.l=6∧4≤g.d))∧g.d≤8∧(g.c=1∨g.c=2∨g.c=4):=zf5
theorem zlY {g:Geo} (h:g.ok=true):g.width=g.d - (g.l - 4):=by exact if_pos h
theorem zdn {g:Geo} (h:g.ok=true):2≤g.width∧g.width≤7:=by
 rw [zlY h]; have:=zeE.1 h; omega
theorem zBG {x y:Geo} (h:x.can y=true):zc7 x y=max x.c y.c∧(zc7 x y=1∨zc7 x y=2∨zc7 x y=4):=by
 have h1:=zeE.1 (zrE.1 h).1;have h2:=zeE.1 (zrE.1 h).2.1;unfold zc7; rw [if_pos h]
 exact ⟨rfl,by omega⟩
theorem zGG {x y:Geo} (h:x.can y=true):winP x y=16 / zc7 x y∧(winP x y=4∨winP x y=8∨winP x y=16)∧winP x y*zc7 x y=16:=by
 have h1:=zBG h
 have h2:winP x y=16 / zc7 x y:=by unfold winP zc7; rw [if_pos h,if_pos h]
 rw [h2];rcases h1.2 with e | e | e<;>rw [e]<;>simp
theorem zFh {x y:Geo} (h:x.can y=false):zc7 x y=0∧winP x y=0:=by unfold zc7 winP; simp [h]
def zcN (g:Geo) (row:Int):Bool:=g.ok && decide (0≤row) && decide (row < 16)
def parA (g:Geo) (row:Int):Int:=g.d - 1 - (row / g.c) % g.d
def parP (g:Geo) (row:Int):Int×Int:=if zcN g row then (parA g row,if g.l=5 then -1 else (parA g row+1) % g.d) else (-1,-1)
def zdU (g:Geo) (row k:Int):Int:=if zcN g row∧0≤k∧k < g.width then (parA g row+(g.l - 4)+k) % g.d else -1
def numP (g:Geo) (row k:Int):Int:=(row / g.c*g.width+k)*g.c+row % g.c
theorem zbV {g:Geo} {row:Int}:zcN g row=true↔g.ok=true∧0≤row∧row < 16:=by
 unfold zcN; simp [and_assoc]
theorem ok_d {g:Geo} (h:g.ok=true):3≤g.d∧g.d≤8∧1≤g.c∧g.c≤4:=by have:=zeE.1 h; omega
theorem zwl {g:Geo} (h:g.ok=true):zm6 g.l g.d g.c=g.l - 4:=if_pos h
theorem zGH {g:Geo} {a:Int} (h:g.ok=true) (h0:0≤a):0≤a / g.c∧a / g.c≤a∧0≤a % g.c∧a % g.c < 4∧a % g.c < g.c∧a / g.c*g.c+a % g.c=a:=by
 obtain ⟨_,_,hc⟩:=zeE.1 h;generalize g.c=c at hc;rcases hc with rfl | rfl | rfl<;>omega
theorem zEa {g:Geo} {a:Int} (h:g.ok=true) (h0:0≤a):a.tdiv g.c=a / g.c:=Int.tdiv_eq_ediv_of_nonneg h0
theorem zts {a n:Int} (h0:0≤a):a.tmod n=a % n:=Int.tmod_eq_emod_of_nonneg h0
theorem zC8 {g:Geo} (h:g.ok=true) (n:Int):0≤n % g.d∧n % g.d < g.d:=⟨Int.emod_nonneg _ (by have:=ok_d h; omega),Int.emod_lt_of_pos _ (by have:=ok_d h; omega)⟩
theorem zmF {g:Geo} (h:g.ok=true) (row:Int):0≤parA g row∧parA g row < g.d:=by
 have:=zC8 h (row / g.c);unfold parA; omega
def zfI (g:Geo) (disk row:Int):Int:=(disk - parA g row - (g.l - 4)+2*g.d) % g.d
theorem zo4 {g:Geo} {row k:Int} (h:zcN g row=true) (k0:0≤k) (k1:k < g.width):zdU g row k=(parA g row+(g.l - 4)+k) % g.d:=by
 unfold zdU; rw [if_pos ⟨h,k0,k1⟩]
theorem zm7 {g:Geo} {row k:Int} (h:zcN g row=true) (k0:0≤k) (k1:k < g.width):0≤zdU g row k∧zdU g row k < g.d:=by
 rw [zo4 h k0 k1]; exact zC8 (zbV.1 h).1 _
theorem zyQ {g:Geo} {row k:Int} (h:zcN g row=true) (k0:0≤k) (k1:k < g.width):zdU g row k≠(parP g row).1∧zdU g row k≠(parP g row).2:=by
 have hk:=(zbV.1 h).1;have hd:=zm7 h k0 k1;rw [zo4 h k0 k1] at*;have hp:=zmF hk row;have hl:=zeE.1 hk;rw [zlY hk] at k1;unfold parP;rw [if_pos h];simp only;generalize parA g row=p at*
 have hdc:g.d=3∨g.d=4∨g.d=5∨g.d=6∨g.d=7∨g.d=8:=by omega
 generalize g.d=d at*;generalize g.l=l at*
 have hl5:l=5∨l=6:=by omega
 rcases hl5 with rfl | rfl
 ·simp; rcases hdc with rfl | rfl | rfl | rfl | rfl | rfl<;>omega
 ·simp; rcases hdc with rfl | rfl | rfl | rfl | rfl | rfl<;>omega
theorem zwm {g:Geo} {row j k:Int} (h:zcN g row=true) (j0:0≤j) (j1:j < g.width) (k0:0≤k) (k1:k < g.width) (e:zdU g row j=zdU g row k):j=k:=by
 have hk:=(zbV.1 h).1;rw [zo4 h k0 k1,zo4 h j0 j1] at e;have hp:=zmF hk row;have hl:=zeE.1 hk;rw [zlY hk] at k1 j1;generalize parA g row=p at*
 have hdc:g.d=3∨g.d=4∨g.d=5∨g.d=6∨g.d=7∨g.d=8:=by omega
 generalize g.d=d at*;generalize g.l=l at*;rcases hdc with rfl | rfl | rfl | rfl | rfl | rfl<;>omega
end Wf

namespace Wf
open Go Go.RowKit
set_option linter.unusedSimpArgs false
set_option linter.unusedVariables false
set_option linter.unusedSectionVars false
theorem zrF {g:Geo} {row:Int} (h:zcN g row=true):0≤(parP g row).1∧(parP g row).1 < g.d∧((parP g row).2= -1∧g.l=5∨0≤(parP g row).2∧(parP g row).2 < g.d∧g.l=6):=by
 have hk:=(zbV.1 h).1;have hp:=zmF hk row;have hm:=zC8 hk (parA g row+1);have hl:=zeE.1 hk;unfold parP;rw [if_pos h];dsimp only;split
 ·rename_i e; exact ⟨hp.1,hp.2,.inl ⟨rfl,e⟩⟩
 ·exact ⟨hp.1,hp.2,.inr ⟨hm.1,hm.2,by omega⟩⟩
theorem zEb {g:Geo} {row:Int} (h:zcN g row=true):(parP g row).1≠(parP g row).2:=by
 have hk:=(zbV.1 h).1;have hp:=zmF hk row;have hl:=zeE.1 hk;unfold parP;rw [if_pos h];dsimp only;generalize parA g row=p at*
 have hdc:g.d=3∨g.d=4∨g.d=5∨g.d=6∨g.d=7∨g.d=8:=by omega
 generalize g.d=d at*;split
 ·omega
 ·rcases hdc with rfl | rfl | rfl | rfl | rfl | rfl<;>omega
theorem zlZ {g:Geo} {row d:Int} (h:zcN g row=true) (d0:0≤d) (d1:d < g.d) (h1:d≠(parP g row).1) (h2:d≠(parP g row).2):
  0≤zfI g d row∧zfI g d row < g.width∧zdU g row (zfI g d row)=d:=by
 have hk:=(zbV.1 h).1;have hp:=zmF hk row;have hl:=zeE.1 hk;have hw:=zlY hk;have hb:=zC8 hk (d - parA g row - (g.l - 4)+2*g.d)
 have key:zfI g d row < g.width∧(parA g row+(g.l - 4)+zfI g d row) % g.d=d:=by
  unfold parP at h1 h2;rw [if_pos h] at h1 h2;simp only at h1 h2;rw [hw];unfold zfI;generalize parA g row=p at*
  have hdc:g.d=3∨g.d=4∨g.d=5∨g.d=6∨g.d=7∨g.d=8:=by omega
  generalize g.d=n at*;generalize g.l=l at*
  have hl5:l=5∨l=6:=by omega
  rcases hl5 with rfl | rfl
  ·simp at h2; rcases hdc with rfl | rfl | rfl | rfl | rfl | rfl<;>omega
  ·simp at h2; rcases hdc with rfl | rfl | rfl | rfl | rfl | rfl<;>omega
 refine ⟨hb.1,key.1,?_⟩
 rw [zo4 h (show 0≤zfI g d row from hb.1) key.1]; exact key.2
theorem zC9 {g:Geo} {row k:Int} (h:zcN g row=true) (k0:0≤k) (k1:k < g.width):zfI g (zdU g row k) row=k:=by
 have hd:=zm7 h k0 k1;have hp:=zyQ h k0 k1;obtain ⟨c0,c1,c2⟩:=zlZ h hd.1 hd.2 hp.1 hp.2;exact zwm h c0 c1 k0 k1 c2
def zgl (g:Geo) (row:Int) (ls:List (List Int)):List (List Int):=(List.range g.width.toNat).map fun (j:Nat)=>ls.getD (zdU g row (j:Int)).toNat []
def qOf (g:Geo) (row:Int) (ls:List (List Int)):List Int:=if (parP g row).2 < 0 then [] else ls.getD (parP g row).2.toNat []
def pOf (g:Geo) (row:Int) (ls:List (List Int)):List Int:=ls.getD (parP g row).1.toNat []
def zsn (g:Geo) (r:Int) (ls:List (List Int)):Option (List (List Int)):=if zcN g r=true∧(ls.length:Int)=g.d then zkT (pOf g r ls) (qOf g r ls) (zgl g r ls) else none
def atR (g:Geo) (r:Int) (data:List (List Int)) (d:Int):List Int:=if d=(parP g r).1 then sumP 32 data else if d=(parP g r).2 then sumQ 32 data else data.getD (zfI g d r).toNat []
def zcW (g:Geo) (r:Int) (data:List (List Int)):List (List Int):=(List.range g.d.toNat).map fun (d:Nat)=>atR g r data d
def zuK (g:Geo) (r:Int) (data:List (List Int)):Option (List (List Int)):=if zcN g r=true∧(data.length:Int)=g.width∧data.all (fun x=>decide (x.length=32))=true then some (zcW g r data) else none
structure Row (g:Geo) (data:List (List Int)):Prop where
 len:(data.length:Int)=g.width
 sec:∀ x∈data,Sec x
section
variable {g:Geo} {r:Int} {data:List (List Int)} (hr:zcN g r=true) (hR:Row g data)
include hr
theorem zFi {k:Int} (k0:0≤k) (k1:k < g.width):atR g r data (zdU g r k)=data.getD k.toNat []:=by
 have hp:=zyQ hr k0 k1;unfold atR;rw [if_neg hp.1,if_neg hp.2,zC9 hr k0 k1]
theorem at_p:atR g r data (parP g r).1=sumP 32 data:=by unfold atR; rw [if_pos rfl]
theorem at_q:atR g r data (parP g r).2=sumQ 32 data:=by unfold atR; rw [if_neg (zEb hr).symm,if_pos rfl]
include hR
theorem zwn {d:Int} (d0:0≤d) (d1:d < g.d):Sec (atR g r data d):=by
 unfold atR;split
 ·exact zuz hR.sec
 ·rename_i h1;split
  ·exact zuA hR.sec
  ·rename_i h2;obtain ⟨c0,c1,_⟩:=zlZ hr d0 d1 h1 h2
   exact hR.sec _ (zdB (by have:=hR.len; omega))
theorem zrG:zuK g r data=some (zcW g r data):=by
 unfold zuK
 rw [if_pos ⟨hr,hR.len,by rw [List.all_eq_true]; intro x hx; simpa using (hR.sec x hx).len⟩]
end
theorem ziF {g:Geo} {r:Int} {data:List (List Int)} {d:Nat} (h:(d:Int) < g.d):(zcW g r data)[d]? =some (atR g r data d):=by
 unfold zcW
 rw [List.getElem?_map,List.getElem?_range (by omega)]; rfl
theorem zl0 (g:Geo) (r:Int) (data:List (List Int)):(zcW g r data).length=g.d.toNat:=by simp [zcW]
theorem zDa {n p:Nat} (hp:p < n):((List.range n).map fun i=>(p+i) % n).Perm (List.range n):=by
 have e1:List.range n=List.range (n - p)++(List.range p).map ((n - p)+·):=by rw [←List.range_add]; congr 1; omega
 have e2:List.range n=List.range p++(List.range (n - p)).map (p+·):=by rw [←List.range_add]; congr 1; omega
 have h1:((List.range n).map fun i=>(p+i) % n)=(List.range (n - p)).map (p+·)++List.range p:=by
  conv=>lhs; rw [e1]
  rw [List.map_append,List.map_map];congr 1
  ·apply List.map_congr_left;intro i hi;have:=List.mem_range.1 hi
   exact Nat.mod_eq_of_lt (by omega)
  ·conv=>rhs; rw [←List.map_id (List.range p)]
   apply List.map_congr_left;intro i hi;have:=List.mem_range.1 hi;show (p+(n - p+i)) % n=i
   rw [show p+(n - p+i)=n+i by omega,Nat.add_mod_left,Nat.mod_eq_of_lt (by omega)]
 rw [h1]
 conv=>rhs; rw [e2]
 exact List.perm_append_comm
theorem zBH {n p:Nat} (hp:p < n) (f:Nat→Bool):(List.range n).countP f=(List.range n).countP fun i=>f ((p+i) % n):=by
 rw [←(zDa hp).countP_eq,List.countP_map]; rfl
theorem zBI {g:Geo} {r:Int} (hr:zcN g r=true) (f:Int→Bool):
  (List.range g.d.toNat).countP (fun (d:Nat)=>f d)=(if f (parP g r).1 then 1 else 0)+(if g.l=6∧f (parP g r).2=true then 1 else 0)+(List.range g.width.toNat).countP (fun (k:Nat)=>f (zdU g r k)):=by
 obtain ⟨hk,r0,r1⟩:=zbV.1 hr;have hl:=zeE.1 hk;have hw:=zlY hk;have hpi:=zmF hk r
 have hP:(parP g r).1=parA g r:=by unfold parP; rw [if_pos hr]
 have hd:∀ k:Nat,(k:Int) < g.width→zdU g r k=(((parA g r).toNat+((g.l - 4).toNat+k)) % g.d.toNat:Nat):=by
  intro k hk'
  rw [zo4 hr (by omega) hk']
  rw [Int.natCast_emod];congr 1<;>omega
 rw [zBH (p:=(parA g r).toNat) (by omega)]
 have hn:g.d.toNat=(g.l - 4).toNat+g.width.toNat:=by omega
 have split:∀ (a w:Nat) (F:Nat→Bool),(List.range (a+w)).countP F=(List.range a).countP F+(List.range w).countP fun k=>F (a+k):=by
  intro a w F;rw [List.range_add,List.countP_append,List.countP_map]; rfl
 have h1:(List.range g.d.toNat).countP (fun i=>f (((parA g r).toNat+i) % g.d.toNat:Nat))=(List.range (g.l - 4).toNat).countP (fun i=>f (((parA g r).toNat+i) % g.d.toNat:Nat))+(List.range g.width.toNat).countP (fun k=>f (((parA g r).toNat+((g.l - 4).toNat+k)) % g.d.toNat:Nat)):=by
  conv=>lhs; rw [show List.range g.d.toNat=List.range ((g.l - 4).toNat+g.width.toNat) by rw [←hn]]
  exact split _ _ _
 rw [h1]
 have h2:(List.range g.width.toNat).countP (fun k=>f (((parA g r).toNat+((g.l - 4).toNat+k)) % g.d.toNat:Nat))=(List.range g.width.toNat).countP (fun (k:Nat)=>f (zdU g r k)):=by
  apply List.countP_congr;intro k hk';have:=List.mem_range.1 hk'
  rw [hd k (by omega)]
 rw [h2];congr 1
 have e0:((((parA g r).toNat+0) % g.d.toNat:Nat):Int)=(parP g r).1:=by
  rw [hP,Nat.add_zero,Nat.mod_eq_of_lt (by omega)]; omega
 have hl5:g.l=5∨g.l=6:=by omega
 rcases hl5 with h5 | h6
 ·rw [show (g.l - 4).toNat=1 by omega,if_neg (show ¬ (g.l=6∧f (parP g r).2=true) by omega)]
  simp only [List.range_succ,List.range_zero,List.nil_append,List.countP_cons,List.countP_nil];rw [e0]; omega
 ·have e1:((((parA g r).toNat+1) % g.d.toNat:Nat):Int)=(parP g r).2:=by
   unfold parP
   rw [if_pos hr,if_neg (by omega),Int.natCast_emod]
   congr 1<;>omega
  rw [show (g.l - 4).toNat=2 by omega]
  simp only [List.range_succ,List.range_zero,List.nil_append,List.countP_append,List.countP_cons,List.countP_nil];rw [e0,e1];simp [h6]
def Ben.secs (B:Ben) (live:List Bool) (r:Int) (n:Nat):List (List Int):=(List.range n).map fun (d:Nat)=>if B.up live d then B.cur d (36+r) else []
def Ben.sRead (B:Ben) (live:List Bool) (g:Geo) (r:Int):List (List Int)×Int:=
 if zcN g r=false then ([],1)
 else if B.down=true∧(List.range g.d.toNat).any (fun (d:Nat)=>B.up live d)=true then ([],6)
 else match zsn g r (B.secs live r g.d.toNat) with
  | some o=>(o,0)
  | none=>([],7)
def Ben.wActs (B:Ben) (live:List Bool) (g:Geo) (r:Int) (data:List (List Int)):List Act:=(List.range g.d.toNat).flatMap fun (d:Nat)=>if B.up live d then [.w d (36+r) (atR g r data d)] else []
def Ben.sWrite (B:Ben) (live:List Bool) (g:Geo) (r:Int) (data:List (List Int)):Int×Ben:=if zuK g r data=none then (1,B) else runA (B.wActs live g r data) B
def Ben.fActs (B:Ben) (live:List Bool):List Act:=(List.range B.ds.length).flatMap fun (d:Nat)=>if B.up live d then [.f d] else []
def Ben.sFlush (B:Ben) (live:List Bool):Int×Ben:=runA (B.fActs live) B
def Ben.lostN (B:Ben) (live:List Bool) (g:Geo):Nat:=(List.range g.d.toNat).countP fun (d:Nat)=> !B.up live d
section
variable {B:Ben} {live:List Bool} {g:Geo} {r:Int} {data:List (List Int)}
theorem zDb (n:Nat):(B.secs live r n).length=n:=by simp [Ben.secs]
theorem zuL {d:Int} (d0:0≤d) (d1:d < g.d):(B.secs live r g.d.toNat).getD d.toNat []=if B.up live d then B.cur d (36+r) else []:=by
 unfold Ben.secs
 rw [List.getD_eq_getElem?_getD,List.getElem?_map,List.getElem?_range (by omega)]
 simp only [Option.map_some,Option.getD_some]
 rw [show ((d.toNat:Nat):Int)=d by omega]
theorem zBJ (hr:zcN g r=true) (hR:Row g data) (hrow:∀ d:Int,0≤d→d < g.d→B.up live d=true→B.cur d (36+r)=atR g r data d):
  zsn g r (B.secs live r g.d.toNat)=if (B.lostN live g:Int)≤g.l - 4 then some data else none:=by
 obtain ⟨hk,r0,r1⟩:=zbV.1 hr;have hl:=zeE.1 hk;have hw:=zlY hk;have hw2:=zdn hk;have hlen:=hR.len;unfold zsn
 rw [if_pos ⟨hr,by rw [zDb]; omega⟩]
 have dget:∀ k,k < data.length→(zgl g r (B.secs live r g.d.toNat)).getD k []=if B.up live (zdU g r k) then data.getD k [] else []:=by
  intro k hk'
  have hdi:=zm7 hr (k:=(k:Int)) (by omega) (by omega)
  unfold zgl
  rw [List.getD_eq_getElem?_getD,List.getElem?_map,List.getElem?_range (by omega)]
  simp only [Option.map_some,Option.getD_some];rw [zuL hdi.1 hdi.2];split
  ·rename_i hu
   rw [hrow _ hdi.1 hdi.2 hu,zFi hr (by omega) (by omega)]; rfl
  ·rfl
 have dlen:(zgl g r (B.secs live r g.d.toNat)).length=data.length:=by simp [zgl]; omega
 have hH:Holes (zgl g r (B.secs live r g.d.toNat)) data:=⟨dlen,fun k hk'=>by rw [dget k hk']; split; exact .inr rfl; exact .inl rfl⟩
 obtain ⟨p0,p1,p2⟩:=zrF hr
 have hp:pOf g r (B.secs live r g.d.toNat)=if B.up live (parP g r).1 then sumP 32 data else []:=by
  unfold pOf;rw [zuL p0 p1];split
  ·rename_i hu; rw [hrow _ p0 p1 hu,at_p hr]
  ·rfl
 have hq:qOf g r (B.secs live r g.d.toNat)=if g.l=6∧B.up live (parP g r).2=true then sumQ 32 data else []:=by
  unfold qOf;rcases p2 with ⟨e,h5⟩ | ⟨q0,q1,h6⟩
  ·rw [if_pos (by omega),if_neg (by omega)]
  ·rw [if_neg (by omega),zuL q0 q1]
   by_cases hu:B.up live (parP g r).2=true
   ·rw [if_pos hu,if_pos ⟨h6,hu⟩,hrow _ q0 q1 hu,at_q hr]
   ·rw [if_neg hu,if_neg (fun e=>hu e.2)]
 have sp:=zBm (zuz hR.sec);have sq:=zBm (zuA hR.sec)
 rw [zzL hH hR.sec (by omega) (by omega) (by rw [hp]; split; exact .inr rfl; exact .inl rfl) (by rw [hq]; split; exact .inr ⟨rfl,by omega⟩; exact .inl rfl)]
 have hmiss:(zdk (zgl g r (B.secs live r g.d.toNat))).length=(List.range g.width.toNat).countP (fun (k:Nat)=> !B.up live (zdU g r k)):=by
  unfold zdk
  rw [←List.countP_eq_length_filter,dlen,show data.length=g.width.toNat by omega]
  apply List.countP_congr;intro k hk';have hk2:=List.mem_range.1 hk'
  rw [dget k (by omega)]
  cases hu:B.up live (zdU g r k)
  ·simp
  ·simpa using zBm (hR.sec _ (zdB (show k < data.length by omega)))
 have hcr:=zBI hr (fun d=> !B.up live d)
 unfold Ben.lostN;rw [hmiss,zuB,hp,hq]
 have hl5:g.l=5∨g.l=6:=by omega
 generalize (List.range g.width.toNat).countP (fun (k:Nat)=> !B.up live (zdU g r k))=m at*
 rw [hcr]
 have iteq:∀ (c:Prop) [Decidable c] (c':Prop) [Decidable c'],(c↔¬ c')→(if c then none else some data)=(if c' then some data else (none:Option (List (List Int)))):=by
  intro c _ c' _ h
  by_cases hc:c
  ·rw [if_pos hc,if_neg (h.1 hc)]
  ·rw [if_neg hc,if_pos (Classical.byContradiction fun e=>hc (h.2 e))]
 apply iteq;rcases hl5 with h5 | h6
 ·cases hu:B.up live (parP g r).1
  ·simp [h5]; omega
  ·simp [h5,sp]; omega
 ·cases hu:B.up live (parP g r).1
  ·cases hv:B.up live (parP g r).2
   ·simp [h6]; omega
   ·simp [h6,sq]; omega
  ·cases hv:B.up live (parP g r).2
   ·simp [h6,sp]; omega
   ·simp [h6,sp,sq]; omega
theorem zDc (hr:zcN g r=true) (hR:Row g data) (hdn:B.down=false) (hrow:∀ d:Int,0≤d→d < g.d→B.up live d=true→B.cur d (36+r)=atR g r data d):
  B.sRead live g r=if (B.lostN live g:Int)≤g.l - 4 then (data,0) else ([],7):=by
 unfold Ben.sRead
 rw [if_neg (by simp [hr]),if_neg (by simp [hdn]),zBJ hr hR hrow]
 by_cases h:(B.lostN live g:Int)≤g.l - 4
 ·rw [if_pos h,if_pos h]
 ·rw [if_neg h,if_neg h]
theorem zDd {d:Int} (d0:0≤d) (h:B.up live d=true):B.is d=true∧B.failed d=false∧live[d.toNat]? =some true:=by
 unfold Ben.up at h;simp only [Bool.and_eq_true,decide_eq_true_eq,Bool.not_eq_true'] at h;refine ⟨zc4.2 ⟨d0,h.1⟩,h.2.2,?_⟩
 cases e:live[d.toNat]? with
 | none=>rw [e] at h; simp at h
 | some b=>rw [e] at h; simpa using h.2.1
theorem zDe (hr:zcN g r=true) (hR:Row g data):∀ a∈B.wActs live g r data,a.Ok B:=by
 intro a ha;obtain ⟨k0,r0,r1⟩:=zbV.1 hr;unfold Ben.wActs at ha;obtain ⟨d,hd,ha⟩:=List.mem_flatMap.1 ha;have hd:=List.mem_range.1 hd;split at ha
 ·rename_i hu;rw [List.mem_singleton.1 ha]
  obtain ⟨h1,h2,_⟩:=zDd (by omega) hu
  exact ⟨h1,h2,by omega,by omega,zwn hr hR (by omega) (by omega)⟩
 ·cases ha
theorem zDf:∀ a∈B.fActs live,a.Ok B:=by
 intro a ha;unfold Ben.fActs at ha;obtain ⟨d,hd,ha⟩:=List.mem_flatMap.1 ha;split at ha
 ·rename_i hu;rw [List.mem_singleton.1 ha]
  obtain ⟨h1,h2,_⟩:=zDd (by omega) hu
  exact ⟨h1,h2⟩
 ·cases ha
theorem zDg (d b:Int):∀ a∈B.fActs live,a.at d b=false:=by
 intro a ha;unfold Ben.fActs at ha;obtain ⟨e,he,ha⟩:=List.mem_flatMap.1 ha;split at ha
 ·rw [List.mem_singleton.1 ha]; rfl
 ·cases ha
theorem zxD {d b:Int} (h:b≠36+r∨B.up live d=false):∀ a∈B.wActs live g r data,a.at d b=false:=by
 intro a ha;unfold Ben.wActs at ha;obtain ⟨e,he,ha⟩:=List.mem_flatMap.1 ha;split at ha
 ·rename_i hu;rw [List.mem_singleton.1 ha]
  unfold Act.at
  dsimp only;rw [decide_eq_false_iff_not]
  rintro ⟨rfl,rfl⟩
  rcases h with h | h
  ·exact h rfl
  ·rw [hu] at h; cases h
 ·cases ha
theorem zBK {d:Nat} (hd:(d:Int) < g.d) (hu:B.up live d=true) (c:Int→Int→List Int):curs c (B.wActs live g r data) d (36+r)=atR g r data d:=by
 unfold Ben.wActs
 have e:List.range g.d.toNat=List.range d++d::(List.range' (d+1) (g.d.toNat - d - 1)):=by
  have e2:g.d.toNat=d+(1+(g.d.toNat - d - 1)):=by omega
  rw [List.range_eq_range',List.range_eq_range']
  conv=>lhs; rw [e2,←List.range'_append_1,←List.range'_append_1,Nat.zero_add]
  rfl
 rw [e,List.flatMap_append,List.flatMap_cons,if_pos hu];refine zBD ?_ c;intro a ha;obtain ⟨f,hf,ha⟩:=List.mem_flatMap.1 ha;have:=List.mem_range'_1.1 hf;split at ha
 ·rw [List.mem_singleton.1 ha]
  unfold Act.at
  dsimp only;rw [decide_eq_false_iff_not]
  rintro ⟨h,_⟩; omega
 ·cases ha
end
end Wf

